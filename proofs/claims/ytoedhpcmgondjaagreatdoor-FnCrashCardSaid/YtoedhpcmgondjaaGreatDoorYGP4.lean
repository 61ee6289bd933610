import Derived.Test.YtoedhpcmgondjaaGreatDoorYGS4
import Derived.Test.YtoedhpcmgondjaaGreatDoorYShelf
import Derived.Lib.BufferKept
set_option linter.all false
set_option maxHeartbeats 8000000
namespace Go.Proofs.YtoedhpcmgondjaaGreatDoor
open Go.RowKit Go.Proofs.Tryz
set_option maxRecDepth 100000
attribute [local go_sem high] zG zF zH zV zN yu zD zl zn zt zi zu y9 zK yE zJ
theorem TG :(prog.info? 128).map (·.size)=some 2:=by kernel_rfl
theorem Ls :liesAt prog prog.depth 128 (2 / prog.cellsOf 128) 0 128 1=true:=by kernel_rfl
theorem UG {w w':World}{T e:TypeId}{B b:Nat}{p:Value}{f:List Value}(h:Go.Lib.BuilderAtF T e B b p f w)(i:Below w.heap.size w w'):Go.Lib.BuilderAtF T e B b p f w':=by
 have j:=h.lt;obtain⟨k,v,h1,⟨l,a⟩,m⟩:=h;refine⟨k,v,(i.block b j).trans h1,⟨l,?_⟩,m⟩;rcases a with a|⟨g,cap,cur,n,rfl,o,c,rest⟩
 ·exact .inl a
 ·have q:g<w.heap.size:=by
   rcases Nat.lt_or_ge g w.heap.size with d|d
   ·exact d
   ·rw[Array.getElem?_eq_none d] at c;cases c
  exact .inr ⟨g,cap,cur,n,rfl,o,(i.block g q).trans c,rest⟩
theorem jE {w w':World}{T e:TypeId}{B b:Nat}{a:List Value}(h:Go.Lib.IsBuilderF T e B b a w)(c:Below w.heap.size w w'):Go.Lib.IsBuilderF T e B b a w':=
 h.elim (fun h=>.inl (UG h c)) (fun h=>.inr (UG h c))
theorem KE (b:Nat)(w:World)(h0:w.cell? ⟨b,0,none⟩=some (.pointer (some ⟨b,0,none⟩))):
 Calls prog 134 #[.pointer (some ⟨b,0,none⟩)] w fun e w'=>e= .returned (.tuple #[])∧w'=w:=by
 obtain⟨j,a,_⟩:=Option.map_eq_some_iff.1 TG;go_enter func134,ntmps134;go_wp2;rw[Go.Lib.run_neq_ptr_same w _ underlying126 a];go_wp2;go_end0;exact⟨rfl,rfl⟩
theorem NC (b:Nat)(w:World)(h0:w.cell? ⟨b,0,none⟩=some (.pointer none))(a:w.shape? b=some (128,2))(f:w.frozen? ⟨b,0,none⟩=false):
 Calls prog 134 #[.pointer (some ⟨b,0,none⟩)] w fun e w'=>e= .returned (.tuple #[])∧w'=w.setCell ⟨b,0,none⟩ (.pointer (some ⟨b,0,none⟩)):=by
 obtain⟨j,c,d⟩:=Option.map_eq_some_iff.1 TG;go_enter func134,ntmps134;go_wp2;rw[Go.Lib.run_to_unsafe w ⟨b,0,none⟩ underlying126 underlying186 c (by rw[d];decide) a (Nat.zero_lt_succ 1)];simp only[Result.andThen];rw[Oper.upon_value];go_wp2;rw[run_callFunc_extern func166 (by kernel_rfl) (by kernel_rfl) (by kernel_rfl) (e:=Extern.AbiNoEscape.same) (by kernel_rfl)];rw[Go.Lib.run_noEscape];simp only[Result.andThen];rw[Oper.upon_value];go_wp2;rw[Go.Lib.run_from_unsafe w ⟨b,0,none⟩ underlying186 underlying126 c a Ls];simp only[Result.andThen];rw[Oper.upon_value];go_wp2;go_end0;exact⟨rfl,rfl⟩
theorem NK (B b:Nat)(a:List Value)(w:World)(h:Go.Lib.IsBuilderF 128 5 B b a w):
 Calls prog 134 #[.pointer (some ⟨b,0,none⟩)] w fun e w'=>e= .returned (.tuple #[])∧(Go.Lib.BuilderAtF 128 5 B b (.pointer (some ⟨b,0,none⟩)) a w'∧Below B w w'∧Go.Lib.OthersKept 5 (some b) w w'):=by
 rcases h with h|h
 ·refine(NC b w h.cell0 h.shape h.frozen0).mono ?_
  rintro e w' ⟨rfl,rfl⟩;exact⟨rfl,h.used _,(Below.refl B w).setCell (p:=⟨b,0,none⟩) h.1 _,(Go.Lib.OthersKept.refl _ _ w).setCell ⟨b,0,none⟩ rfl _⟩
 ·refine(KE b w h.cell0).mono ?_
  rintro e w' ⟨rfl,rfl⟩;exact⟨rfl,h,Below.refl B _,Go.Lib.OthersKept.refl _ _ _⟩
theorem XR (B b:Nat)(a:List Value)(l:Bs)(w:World)(h:Go.Lib.IsBuilderF 128 5 B b a w)(I:a.length+l.length≤140737488355328)(J:B≤w.heap.size):
 Calls prog 96 #[.pointer (some ⟨b,0,none⟩),sv l] w fun e w'=>e= .returned (.tuple #[.int .i64 (l.length:Int),.nilIface])∧(Go.Lib.BuilderAtF 128 5 B b (.pointer (some ⟨b,0,none⟩)) (a++l.map u8v) w'∧Below B w w'∧Go.Lib.OthersKept 5 (some b) w w'):=by
 obtain⟨y,z,A,C,D⟩:=info_parts wQ;have j:(ByteArray.mk l.toArray).size=l.length:=(by simp [ByteArray.size]);have K:Go.Lib.strCells ⟨l.toArray⟩=l.map u8v:=(by simp [Go.Lib.strCells]);go_enter func96,ntmps96;go_wp2_with(go_at_call 134;refine(NK B b a _ h).mono ?_);rintro e c ⟨rfl,h1,m,E⟩;obtain⟨s,v,d,n,F⟩:=h1;have L:c.cell? ⟨b,0,none⟩=some (.pointer (some ⟨b,0,none⟩)):=(by rw[Go.Lib.cell_of_heap d];rfl);have M:c.cell? ⟨b,1,none⟩=some v:=(by rw[Go.Lib.cell_of_heap d];rfl);go_wp2_with(at_builtin;refine Go.Lib.wpList_append_own_stringF _ rfl _ _ 22 9 rfl B 5 y underlying22 underlying9 z A C D _ _ _ rfl n ⟨l.toArray⟩ rfl ?c3 ?c4 ?c5 ?_)
 case c3=>rw[j];unfold maxLen;omega
 case c4=>rw[j];omega
 case c5=>have:=m.size;omega
 intro G f t o _;have H:b<c.heap.size:=by
  rcases Nat.lt_or_ge b c.heap.size with q|q
  ·exact q
  ·simp [Array.getElem?_eq_none q] at d
 have i:f.heap[b]? =some (.cells #[.pointer (some ⟨b,0,none⟩),v] 128 (0,0)):=by
  rw[o.block b H (fun e=>F e.symm)];exact d
 have N:f.cell? ⟨b,0,none⟩=some (.pointer (some ⟨b,0,none⟩)):=(by rw[Go.Lib.cell_of_heap i];rfl);have O:f.cell? ⟨b,1,none⟩=some v:=(by rw[Go.Lib.cell_of_heap i];rfl);have P:f.frozen? ⟨b,1,none⟩=false:=Go.Lib.frozen_of_heap i 1;obtain⟨u,x,cap,rfl⟩:∃u x cap,G= .slice u x cap:=by
  rcases t.2 with⟨r,_⟩|⟨g,cap,cur,Q,r,_⟩
  ·exact⟨_,_,_,r⟩
  ·exact⟨_,_,_,r⟩
 go_wp2;go_ret2;refine⟨?_,?_,?_,(E.grown o (Go.Lib.ownsRowF_kind n)).setCell ⟨b,1,none⟩ rfl _⟩
 ·first|rfl|simp [j]
 ·exact Go.Lib.BuilderAtF.put s i (bs':=a++l.map u8v) (by simpa using t) (by decide)
 ·exact(m.grown o (by have:=m.size;omega) (fun k hk=>(n.lt k hk).1)).setCell (p:=⟨b,1,none⟩) s _
theorem TI {w:World}{B:Nat}(a:B≤w.heap.size):Go.Lib.IsBuilderF 128 5 B w.heap.size [] (w.alloc (.cells #[.pointer none,.slice none 0 0] 128)):=
 .inl ⟨a,.slice none 0 0,heap_alloc_new w _,⟨by simp,.inl ⟨rfl,rfl⟩⟩,by simp [Value.ownBlock]⟩
