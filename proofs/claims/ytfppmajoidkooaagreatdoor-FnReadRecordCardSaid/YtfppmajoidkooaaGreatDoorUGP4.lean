import Derived.Test.YtfppmajoidkooaaGreatDoorUGP2
import Derived.Test.YtfppmajoidkooaaGreatDoorUGB
import Derived.Test.YtfppmajoidkooaaGreatDoorUShelf
import Derived.Shelf.Strings.BuilderK
import Derived.Lib.BufferKept
set_option linter.unusedVariables false
set_option linter.unusedSimpArgs false
set_option maxHeartbeats 8000000
namespace Go.Proofs.YtfppmajoidkooaaGreatDoor
open Go.RowKit
set_option maxRecDepth 100000
attribute [local go_sem high] zy zA zB zO zK zY zx zk zl zq zi zo yP zD yt zF
theorem VJ :(Tryz.prog.info? 91).map (·.size)=some 2:=by kernel_rfl
theorem Na :liesAt Tryz.prog Tryz.prog.depth 91 (2 / Tryz.prog.cellsOf 91) 0 91 1=true:=by kernel_rfl
theorem VE {w w':World}{T e:TypeId}{B b:Nat}{p:Value}{bs:List Value}(h:Go.Lib.BuilderAtF T e B b p bs w)(hb:Below w.heap.size w w'):Go.Lib.BuilderAtF T e B b p bs w':=by
 have hlt:=h.lt;obtain⟨hB,v,h1,⟨ho,ho2⟩,hne⟩:=h;refine⟨hB,v,(hb.block b hlt).trans h1,⟨ho,?_⟩,hne⟩;rcases ho2 with ho2|⟨g,cap,cur,fz,rfl,hg,hh,rest⟩
 ·exact .inl ho2
 ·have hgl:g<w.heap.size:=by
   rcases Nat.lt_or_ge g w.heap.size with h'|h'
   ·exact h'
   ·rw[Array.getElem?_eq_none h'] at hh;cases hh
  exact .inr ⟨g,cap,cur,fz,rfl,hg,(hb.block g hgl).trans hh,rest⟩
theorem Xt {w w':World}{T e:TypeId}{B b:Nat}{bs:List Value}(h:Go.Lib.IsBuilderF T e B b bs w)(hb:Below w.heap.size w w'):Go.Lib.IsBuilderF T e B b bs w':=
 h.elim (fun h=>.inl (VE h hb)) (fun h=>.inr (VE h hb))
theorem OJ (b:Nat)(w:World)(h0:w.cell? ⟨b,0,none⟩=some (.pointer (some ⟨b,0,none⟩))):
 Calls Tryz.prog 106 #[.pointer (some ⟨b,0,none⟩)] w fun e w'=>e= .returned (.tuple #[])∧w'=w:=by
 obtain⟨j,hj,_⟩:=Option.map_eq_some_iff.1 VJ;go_enter Tryz.func106,Tryz.ntmps106;go_wp2;rw[Go.Lib.run_neq_ptr_same w _ Tryz.underlying89 hj];go_wp2;go_end0;exact⟨rfl,rfl⟩
theorem Oo (b:Nat)(w:World)(h0:w.cell? ⟨b,0,none⟩=some (.pointer none))(hsh:w.shape? b=some (91,2))(hfz:w.frozen? ⟨b,0,none⟩=false):
 Calls Tryz.prog 106 #[.pointer (some ⟨b,0,none⟩)] w fun e w'=>e= .returned (.tuple #[])∧w'=w.setCell ⟨b,0,none⟩ (.pointer (some ⟨b,0,none⟩)):=by
 obtain⟨j,hj,hjs⟩:=Option.map_eq_some_iff.1 VJ;go_enter Tryz.func106,Tryz.ntmps106;go_wp2;rw[Go.Lib.run_to_unsafe w ⟨b,0,none⟩ Tryz.underlying89 Tryz.underlying165 hj (by rw[hjs];decide) hsh (Nat.zero_lt_succ 1)];simp only[Result.andThen];rw[Oper.upon_value];go_wp2;rw[run_callFunc_extern Tryz.func140 (by kernel_rfl) (by kernel_rfl) (by kernel_rfl) (e:=Extern.AbiNoEscape.same) (by kernel_rfl)];rw[Go.Lib.run_noEscape];simp only[Result.andThen];rw[Oper.upon_value];go_wp2;rw[Go.Lib.run_from_unsafe w ⟨b,0,none⟩ Tryz.underlying165 Tryz.underlying89 hj hsh Na];simp only[Result.andThen];rw[Oper.upon_value];go_wp2;go_end0;exact⟨rfl,rfl⟩
theorem QT (B b:Nat)(bs:List Value)(w:World)(h:Go.Lib.IsBuilderF 91 5 B b bs w):
 Calls Tryz.prog 106 #[.pointer (some ⟨b,0,none⟩)] w fun e w'=>e= .returned (.tuple #[])∧(Go.Lib.BuilderAtF 91 5 B b (.pointer (some ⟨b,0,none⟩)) bs w'∧Below B w w'∧Go.Lib.OthersKept 5 (some b) w w'):=by
 rcases h with h|h
 ·refine(Oo b w h.cell0 h.shape h.frozen0).mono ?_
  rintro e w' ⟨rfl,rfl⟩;exact⟨rfl,h.used _,(Below.refl B w).setCell (p:=⟨b,0,none⟩) h.1 _,(Go.Lib.OthersKept.refl _ _ w).setCell ⟨b,0,none⟩ rfl _⟩
 ·refine(OJ b w h.cell0).mono ?_
  rintro e w' ⟨rfl,rfl⟩;exact⟨rfl,h,Below.refl B _,Go.Lib.OthersKept.refl _ _ _⟩
theorem PS (B b:Nat)(bs:List Value)(l:Bs)(w:World)(h:Go.Lib.IsBuilderF 91 5 B b bs w)(hlen:bs.length+l.length≤140737488355328)(hBw:B≤w.heap.size):
 Calls Tryz.prog 60 #[.pointer (some ⟨b,0,none⟩),sv l] w fun e w'=>e= .returned (.tuple #[.int .i64 (l.length:Int),.nilIface])∧(Go.Lib.BuilderAtF 91 5 B b (.pointer (some ⟨b,0,none⟩)) (bs++l.map u8v) w'∧Below B w w'∧Go.Lib.OthersKept 5 (some b) w w'):=by
 obtain⟨i0,hi,hz0,hz1,hz2⟩:=info_parts wI;have hsz:(ByteArray.mk l.toArray).size=l.length:=(by simp [ByteArray.size]);have hsc:Go.Lib.strCells ⟨l.toArray⟩=l.map u8v:=(by simp [Go.Lib.strCells]);go_enter Tryz.func60,Tryz.ntmps60;go_wp2_with(go_at_call 106;refine(QT B b bs _ h).mono ?_);rintro e w1 ⟨rfl,h1,hb1,hk1⟩;obtain⟨hB,v,hbk,hown,hne⟩:=h1;have c0:w1.cell? ⟨b,0,none⟩=some (.pointer (some ⟨b,0,none⟩)):=(by rw[Go.Lib.cell_of_heap hbk];rfl);have c1:w1.cell? ⟨b,1,none⟩=some v:=(by rw[Go.Lib.cell_of_heap hbk];rfl);go_wp2_with(at_builtin;refine Go.Lib.wpList_append_own_stringF _ rfl _ _ 22 9 rfl B 5 i0 Tryz.underlying22 Tryz.underlying9 hi hz0 hz1 hz2 _ _ _ rfl hown ⟨l.toArray⟩ rfl ?c3 ?c4 ?c5 ?_)
 case c3=>rw[hsz];unfold maxLen;omega
 case c4=>rw[hsz];omega
 case c5=>have:=hb1.size;omega
 intro v' w2 hown' hgrow _;have hlt:b<w1.heap.size:=by
  rcases Nat.lt_or_ge b w1.heap.size with h'|h'
  ·exact h'
  ·simp [Array.getElem?_eq_none h'] at hbk
 have hb2:w2.heap[b]? =some (.cells #[.pointer (some ⟨b,0,none⟩),v] 91 (0,0)):=by
  rw[hgrow.block b hlt (fun e=>hne e.symm)];exact hbk
 have d0:w2.cell? ⟨b,0,none⟩=some (.pointer (some ⟨b,0,none⟩)):=(by rw[Go.Lib.cell_of_heap hb2];rfl);have d1:w2.cell? ⟨b,1,none⟩=some v:=(by rw[Go.Lib.cell_of_heap hb2];rfl);have f1:w2.frozen? ⟨b,1,none⟩=false:=Go.Lib.frozen_of_heap hb2 1;obtain⟨ao,n',cap,rfl⟩:∃ao n' cap,v'= .slice ao n' cap:=by
  rcases hown'.2 with⟨hv,_⟩|⟨g,cap,cur,fz,hv,_⟩
  ·exact⟨_,_,_,hv⟩
  ·exact⟨_,_,_,hv⟩
 go_wp2;go_ret2;refine⟨?_,?_,?_,(hk1.grown hgrow (Go.Lib.ownsRowF_kind hown)).setCell ⟨b,1,none⟩ rfl _⟩
 ·first|rfl|simp [hsz]
 ·exact Go.Lib.BuilderAtF.put hB hb2 (bs':=bs++l.map u8v) (by simpa using hown') (by decide)
 ·exact(hb1.grown hgrow (by have:=hb1.size;omega) (fun k hk=>(hown.lt k hk).1)).setCell (p:=⟨b,1,none⟩) hB _
theorem NZ {w:World}{B:Nat}(hB:B≤w.heap.size):Go.Lib.IsBuilderF 91 5 B w.heap.size [] (w.alloc (.cells #[.pointer none,.slice none 0 0] 91)):=
 .inl ⟨hB,.slice none 0 0,heap_alloc_new w _,⟨by simp,.inl ⟨rfl,rfl⟩⟩,by simp [Value.ownBlock]⟩
end Go.Proofs.YtfppmajoidkooaaGreatDoor
