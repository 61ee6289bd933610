import Derived.Test.YtfppmajoidkooaaGreatDoorUGS1
import Derived.Test.YtfppmajoidkooaaGreatDoorUGA
set_option linter.unusedVariables false
set_option linter.unusedSimpArgs false
set_option maxHeartbeats 8000000
namespace Go.Proofs.YtfppmajoidkooaaGreatDoor
open Go.RowKit
attribute [local go_sem high] zy zA zB zO zK zY zx zk zl zq zi zo yP zD yt zF
theorem oZ :(Tryz.prog.info? 207).map (fun i=>(i.zero,i.size,i.bytes))=some (some (.agg #[.int .i64 0,.int .i64 0]),2,16):=by kernel_rfl
def qJ (K:Kn)(w:World)(e:Ending)(w':World):Prop:=∃A cap,e= .returned (knV K A cap)∧w'.ownsRow w.heap.size 207 2 (.slice A K.ps.length cap) K.ps.length (psV K.ps)∧Below w.heap.size w w'
abbrev knZ :Array Value:=#[.int .i64 0,.int .i64 0,.int .i64 0,.slice none 0 0,.int .i64 0,.int .i64 0]
theorem Sl.cut {w:World}{A:Option Addr}{n cap size k:Nat}{cs:List Value}(h:Sl w A n cap size cs)(hk:k≤n):Sl w A k cap size (cs.take (k*size)):=by
 obtain⟨h1,h2,h3,h4⟩:=h;refine⟨by omega,h2,?_,fun h0=> ?_⟩
 ·rw[List.length_take,h3]
  have:k*size≤n*size:=Nat.mul_le_mul_right _ hk;omega
 ·obtain⟨g,off,hA,hg,hc⟩:=h4 oo
  refine⟨g,off,hA,hg,fun j u hu=>hc j u ?_⟩;rw[List.getElem?_take] at hu;split at hu
  ·exact hu
  ·cases hu
set_option maxRecDepth 100000 in
theorem ru (K:Kn)(A:Option Addr)(cap:Nat)(w:World)(hk:K.ok)(hs:Sl w A K.ps.length cap 2 (psV K.ps)):
 Calls Tryz.prog 290 #[knV K A cap] w (qJ K.cleared w):=by
 obtain⟨i,hi,hz0,hz1,hz2⟩:=info_parts oZ;have hb0:=hk.base0;have hb1:=hk.base1;have hbd:=hk.bd;have hcap:=hs.1;have hb2:K.base≤cap:=oo;have hn:=(Int.toNat_of_nonneg hb0);have hcb:((K.base.toNat:Nat):Int)=K.base:=hn;have HB:=Go.Lib.hid hcb;clear hn hcb;go_enter Tryz.func290,Tryz.ntmps290;go_wp2_with fail;have hX0:∀i,((w.alloc (.cells (knC K A cap) 130)).alloc (.cells knZ 130)).cell? ⟨w.heap.size,i,none⟩=(knC K A cap)[i]? :=Yq (yl _ _ _) (by simp) _;have hX1:∀i,((w.alloc (.cells (knC K A cap) 130)).alloc (.cells knZ 130)).cell? ⟨w.heap.size+1,i,none⟩=knZ[i]? :=(by simp);have hF1:∀i,((w.alloc (.cells (knC K A cap) 130)).alloc (.cells knZ 130)).frozen? ⟨w.heap.size+1,i,none⟩=false:=(by simp);have hWs:w.heap.size+1<((w.alloc (.cells (knC K A cap) 130)).alloc (.cells knZ 130)).heap.size:=(by simp);have hWb:Below w.heap.size w ((w.alloc (.cells (knC K A cap) 130)).alloc (.cells knZ 130)):=zu;generalize(w.alloc (.cells (knC K A cap) 130)).alloc (.cells knZ 130)=W at*;have hB0:w.heap.size<W.heap.size:=oo;have hsW:=(hs.below hWb).cut (k:=K.base.toNat) oo;rw[←Yr] at hsW;have hown0:(W.alloc (.cells #[] 207)).drew.ownsRow (w.heap.size+2) 207 2 (.slice (some ⟨W.heap.size,0,none⟩) 0 0) 0 []:=World.ownsRow_made (base:=w.heap.size+2) (size:=2) W #[] 0 oo (by unfold maxLen;omega) rfl;have hm1:0+K.base.toNat≤maxLen:=(by unfold maxLen;omega);have hm2:(0+K.base.toNat)*16≤140737488355328:=oo;have HK:Hid (∀w',Below W.heap.size W w'→(w'.cell? ⟨w.heap.size,0,none⟩=some (.int .i64 K.o)∧w'.cell? ⟨w.heap.size,1,none⟩=some (.int .i64 K.l)∧w'.cell? ⟨w.heap.size,2,none⟩=some (.int .i64 K.m)∧w'.cell? ⟨w.heap.size,3,none⟩=some (.slice A K.ps.length cap)∧w'.cell? ⟨w.heap.size,4,none⟩=some (.int .i64 K.base))):=fun w' h=>⟨(h.cell (p:=⟨_,_,_⟩) oB).trans (hX0 0),(h.cell (p:=⟨_,_,_⟩) oB).trans (hX0 1),(h.cell (p:=⟨_,_,_⟩) oB).trans (hX0 2),(h.cell (p:=⟨_,_,_⟩) oB).trans (hX0 3),(h.cell (p:=⟨_,_,_⟩) oB).trans (hX0 4)⟩;go_region_held3 (fun w'=>w'.cell? ⟨w.heap.size,0,none⟩=some (.int .i64 K.o)∧w'.cell? ⟨w.heap.size,1,none⟩=some (.int .i64 K.l)∧w'.cell? ⟨w.heap.size,2,none⟩=some (.int .i64 K.m)∧w'.cell? ⟨w.heap.size,3,none⟩=some (.slice A K.ps.length cap)∧w'.cell? ⟨w.heap.size,4,none⟩=some (.int .i64 K.base)) ((first|(exact HK.out _ wL)|go_keep)) (((refine uz _ rfl _ _ 128 rfl (w.heap.size+2) 207 i _ 2 16 Tryz.underlying128 hi hz0 hz1 hz2 rfl (by omega) (.slice (some ⟨W.heap.size,0,none⟩) 0 0) 0 [] rfl hown0 A K.base.toNat cap (psV (K.ps.take K.base.toNat)) rfl ((hsW.alloc _)) (VA _) hm1 hm2 (by simp;omega) ?_;intro A2 cap2 w2 hown2 hg2 hat2;have hg3:=tX hg2;have hbW:=yw (Below.refl W.heap.size W) hg3 (Nat.le_refl _) (by rintro k ⟨⟩;exact Nat.le_refl _);have hX2:=zJ hX1 hbW hWs;have hF2:=fZ hF1 hbW hWs;clear hg2 hg3 hat2)))
 all_goals
  have HE:Hid (K.cleared.ps.length=0+K.base.toNat):=(by show _=_;simp [Kn.cleared];omega);go_wp2;refine bodyPost_ret (v:=knV K.cleared A2 cap2) (by simp [results,Tryz.results290,go_sem,HE.out,hX2];exact⟨rfl,rfl,rfl,rfl,rfl⟩) rfl ⟨A2,cap2,rfl,?_,?_⟩
  ·rw[HE.out]
   refine zC (B:=w.heap.size+2) ?_ oo
   iterate 6 refine ownsRow_setCell_below ?_ (by simp) _
   have h:=hown2;rw[List.nil_append] at h;exact h
  ·have hb3:=hWb.trans (hbW.mono oo)
   exact zu
set_option linter.unusedSimpArgs false in
set_option maxRecDepth 100000 in
theorem kH (K:Kn)(A:Option Addr)(cap:Nat)(c:Int)(w:World)(hk:K.ok)(hs:Sl w A K.ps.length cap 2 (psV K.ps))(hc:K.fol c=true):
 Calls Tryz.prog 292 #[knV K A cap,.int .i64 c] w (qJ (K.after c) w):=by
 obtain⟨i,hi,hz0,hz1,hz2⟩:=info_parts oZ;have hbd:=hk.bd;have hcap:=hs.1;have hal:=K.rE hk hc;obtain⟨hal1,hal2⟩:=hal;go_enter Tryz.func292,Tryz.ntmps292;go_wp2_with fail;have hK0:Bk ((w.alloc (.cells (knC K A cap) 130)).alloc (.cells knZ 130)) w.heap.size 130 (knC K A cap):=tBk;have hR0:Bk ((w.alloc (.cells (knC K A cap) 130)).alloc (.cells knZ 130)) (w.heap.size+1) 130 knZ:=tBk;have hWs:w.heap.size+1<((w.alloc (.cells (knC K A cap) 130)).alloc (.cells knZ 130)).heap.size:=(by simp);have hWb:Below w.heap.size w ((w.alloc (.cells (knC K A cap) 130)).alloc (.cells knZ 130)):=zu;generalize(w.alloc (.cells (knC K A cap) 130)).alloc (.cells knZ 130)=W at*;have hB0:w.heap.size<W.heap.size:=oo;have hsW:=hs.below hWb;have hX0:=hK0.cell;have hm1:0+K.ps.length≤maxLen:=(by unfold maxLen;omega);have hm2:(0+K.ps.length)*16≤140737488355328:=oo;go_cut [5] (fun p wx=>∃(gp:Nat) (A2:Option Addr) (cap2:Nat),p= .pointer (some ⟨gp,0,none⟩)∧W.heap.size≤gp∧Bk wx gp 130 #[.int .i64 K.o,.int .i64 K.l,.int .i64 K.m,.slice A2 K.ps.length cap2,.int .i64 K.base,.int .i64 c]∧wx.ownsRow W.heap.size 207 2 (.slice A2 K.ps.length cap2) K.ps.length (psV K.ps)∧Below W.heap.size W wx)
 case first=>
  have HK:Hid (∀w',Below W.heap.size W w'→(w'.cell? ⟨w.heap.size,0,none⟩=some (.int .i64 K.o)∧w'.cell? ⟨w.heap.size,1,none⟩=some (.int .i64 K.l)∧w'.cell? ⟨w.heap.size,2,none⟩=some (.int .i64 K.m)∧w'.cell? ⟨w.heap.size,3,none⟩=some (.slice A K.ps.length cap)∧w'.cell? ⟨w.heap.size,4,none⟩=some (.int .i64 K.base))):=fun w' h=>⟨(h.cell (p:=⟨_,_,_⟩) oB).trans (hX0 0),(h.cell (p:=⟨_,_,_⟩) oB).trans (hX0 1),(h.cell (p:=⟨_,_,_⟩) oB).trans (hX0 2),(h.cell (p:=⟨_,_,_⟩) oB).trans (hX0 3),(h.cell (p:=⟨_,_,_⟩) oB).trans (hX0 4)⟩;go_region_held3 (fun w'=>w'.cell? ⟨w.heap.size,0,none⟩=some (.int .i64 K.o)∧w'.cell? ⟨w.heap.size,1,none⟩=some (.int .i64 K.l)∧w'.cell? ⟨w.heap.size,2,none⟩=some (.int .i64 K.m)∧w'.cell? ⟨w.heap.size,3,none⟩=some (.slice A K.ps.length cap)∧w'.cell? ⟨w.heap.size,4,none⟩=some (.int .i64 K.base)) ((first|(exact HK.out _ wL)|go_keep)) (((refine uz _ rfl _ _ 128 rfl W.heap.size 207 i _ 2 16 Tryz.underlying128 hi hz0 hz1 hz2 rfl (by omega) (.slice (some ⟨_,0,none⟩) 0 0) 0 [] rfl (vK tBk (by first|omega|(simp<;>omega))) A K.ps.length cap (psV K.ps) rfl (hsW.below yL) (VA _) hm1 hm2 (by first|omega|(simp<;>omega)) ?_;intro A2 cap2 w2 hown2 hg2 hat2;have hbW:Below W.heap.size W w2:=Below.grown yL hg2 (by first|omega|(simp<;>omega)) (by rintro k ⟨⟩;first|omega|(simp<;>omega));have hz2:=hbW.size;(first|(have hbk:=Bk.grown (Bk.drew (Bk.alloc (Bk.new W knZ 130) (.cells #[] 207))) hg2 (by rintro k ⟨⟩;simp))|(have hbk:=Bk.grown (Bk.drew (Bk.newAt (W.alloc (.cells #[] 207)) knZ 130 (n:=W.heap.size+1) (by simp))) hg2 (by rintro k ⟨⟩;simp))|skip);try(have hbc:=hbk.cell;have hbf:=hbk.free))))
  all_goals
   have hown3:w2.ownsRow W.heap.size 207 2 (.slice A2 K.ps.length cap2) K.ps.length (psV K.ps):=by
    have h:=hown2;rw[Nat.zero_add,List.nil_append] at h;exact h
   clear hg2 hat2 hown2;go_wp2_with fail;go_meet;refine⟨_,A2,cap2,rfl,by first|omega|(simp<;>omega),?_,?_,yL⟩
   ·first
     |with_reducible exact Bk.new _ _ _
     |exact(((((hbk.set 0 _).set 1 _).set 2 _).set 3 _).set 4 _).set 5 _
   ·first
     |with_reducible exact World.ownsRow.alloc hown3 _
     |(have hne:=own_ne hown3 hbk (by decide)
       exact zH (zH (zH (zH (zH (zH hown3 hne _) hne _) hne _) hne _) hne _) hne _)
 case rest=>
  obtain⟨gp,A2,cap2,rfl,hgp,hbk,hown,hbW⟩:=hcut;have hK1:=hK0.below hbW hB0;have hR1:=hR0.below hbW hWs;have hgb:=hWb.trans (hbW.mono oo);have hy:=hbW.size;have hyg:=hbk.lt;have hsw:=hs.below hgb;clear hX0 hsW hK0 hR0;have hX0:=hK1.cell;have hn1:K.ps.length+1≤maxLen:=(by unfold maxLen;omega);have hn2:(K.ps.length+1)*16≤140737488355328:=oo;have hN:Hid ((K.after c).ps=if K.gr=true then K.ps++[(K.last,byteAt (K.any c) 0)] else K.ps):=by
   show _=_;unfold Kn.after;rw[oO]
  go_wp2_with fail;refine(pU _ _ _ _ hk).mono ?_;rintro e w3 ⟨rfl,hb3⟩;have hy3:=hb3.size;have hK3:=hK1.below hb3 oo;have hR3:=hR1.below hb3 oo;have hG3:=hbk.below hb3 hyg;have hown3:=zf hown hb3;have hs3:=hsw.below hb3;have hg3:=hgb.trans (hb3.mono oo);clear hb3 hown hbk hK1 hR1 hgb hsw hX0;by_cases hg:K.gr=true
  ·have HN:Hid ((K.after c).ps=K.ps++[(K.last,byteAt (K.any c) 0)]):=by
    show _=_;rw[hN.out,if_pos hg]
   clear hN;have cA:=fun w hs=>qG K A cap c w hk hs hc;generalize K.any c=X at*;have CA:=Go.Lib.hid cA;clear cA;have hx1:=zL X 0;have hx2:=yu X 0;have hX0:=hK3.cell;have hX1:=hG3.cell;have HL:Hid (∀w',Below w3.heap.size w3 w'→(w'.cell? ⟨w.heap.size,0,none⟩=some (.int .i64 K.o)∧w'.cell? ⟨w.heap.size,1,none⟩=some (.int .i64 K.l)∧w'.cell? ⟨w.heap.size,2,none⟩=some (.int .i64 K.m)∧w'.cell? ⟨w.heap.size,3,none⟩=some (.slice A K.ps.length cap)∧w'.cell? ⟨w.heap.size,4,none⟩=some (.int .i64 K.base)∧w'.cell? ⟨w.heap.size,5,none⟩=some (.int .i64 K.last)∧w'.cell? ⟨gp,3,none⟩=some (.slice A2 K.ps.length cap2))):=fun w' h=>⟨(h.cell (p:=⟨_,_,_⟩) oB).trans (hX0 0),(h.cell (p:=⟨_,_,_⟩) oB).trans (hX0 1),(h.cell (p:=⟨_,_,_⟩) oB).trans (hX0 2),(h.cell (p:=⟨_,_,_⟩) oB).trans (hX0 3),(h.cell (p:=⟨_,_,_⟩) oB).trans (hX0 4),(h.cell (p:=⟨_,_,_⟩) oB).trans (hX0 5),(h.cell (p:=⟨_,_,_⟩) oB).trans (hX1 3)⟩;clear hX0 hX1;go_wp2_with fail;have h0X:0<X.length:=oo;have hwx:IntKind.i64.wrap (byteAt X 0)=byteAt X 0:=IntWalk.i64_in _ oo;refine vw 13 (fun w'=>w'.cell? ⟨w.heap.size,0,none⟩=some (.int .i64 K.o)∧w'.cell? ⟨w.heap.size,1,none⟩=some (.int .i64 K.l)∧w'.cell? ⟨w.heap.size,2,none⟩=some (.int .i64 K.m)∧w'.cell? ⟨w.heap.size,3,none⟩=some (.slice A K.ps.length cap)∧w'.cell? ⟨w.heap.size,4,none⟩=some (.int .i64 K.base)∧w'.cell? ⟨w.heap.size,5,none⟩=some (.int .i64 K.last)∧w'.cell? ⟨gp,3,none⟩=some (.slice A2 K.ps.length cap2)) kr kr (by first|(exact HL.out _ wL)|go_keep) (fun hSS=> ?_);simp only[List.take_succ_cons,List.take_zero];refine tk 0 ?_;try simp only[Act.put,u2,u3,u4]
   refine tk 1 ?_;try simp only[Act.put,u2,u3,u4]
   refine tk 2 ?_;try simp only[Act.put,u2,u3,u4]
   refine tk 3 ?_;try simp only[Act.put,u2,u3,u4]
   refine tk 4 ?_;try simp only[Act.put,u2,u3,u4]
   refine tk 5 ?_;try simp only[Act.put,u2,u3,u4]
   refine rd1 6 fun KK hKK=> ?_;go_simp
   (go_at_call 276;refine(CA.out _ (hs3.below yL)).mono ?_;rintro e w4 ⟨rfl,hb4⟩;have hb4:Below w3.heap.size w3 w4:=zG hb4;have hy4:=hb4.size;have hG4:=hG3.below hb4 oo;have hR4:=hR3.below hb4 oo;have hK4:=hK3.below hb4 oo;have hown4:=zf hown3 hb4;have hg4:=hg3.trans (hb4.mono oo))
   refine hKK.out _ _ (by first|(exact HL.out _ wL)|go_keep) fun hSS=> ?_;try simp only[Act.put,u2,u3,u4]
   refine rd1 7 fun KK hKK=> ?_;go_simp;refine hKK.out _ _ (by first|(exact HL.out _ wL)|go_keep) fun hSS=> ?_;try simp only[Act.put,u2,u3,u4]
   refine tk 8 ?_;try simp only[Act.put,u2,u3,u4]
   refine tk 9 ?_;try simp only[Act.put,u2,u3,u4]
   refine rd1 10 fun KK hKK=> ?_;go_simp;refine hKK.out _ _ (by first|(exact HL.out _ wL)|go_keep) fun hSS=> ?_;try simp only[Act.put,u2,u3,u4]
   refine rd1 11 fun KK hKK=> ?_
   ((refine uz _ rfl _ _ 128 rfl W.heap.size 207 i _ 2 16 Tryz.underlying128 hi hz0 hz1 hz2 rfl (by omega) (.slice A2 K.ps.length cap2) K.ps.length (psV K.ps) rfl (hown4.alloc _) (some ⟨_,0,none⟩) 1 1 [.int .i64 K.last,.int .i64 (byteAt X 0)] rfl (Sl.new w4 #[.int .i64 K.last,.int .i64 (byteAt X 0)] _ 1 2 (by simp) (by omega)) (by simp [Value.oneCell']) hn1 hn2 (by first|omega|(simp<;>omega)) ?_);intro A5 cap5 w5 hown5 hg5 hat5;have hK5:=Bk.grown (hK4.alloc _) hg5 (own_ne hown4 hK4 (by decide));have hR5:=Bk.grown (hR4.alloc _) hg5 (own_ne hown4 hR4 (by decide));have hG5:=Bk.grown (hG4.alloc _) hg5 (own_ne hown4 hG4 (by decide));have hX5:=hK5.cell;have hX6:=hG5.cell;have hF6:=hG5.free;have hg5b:=yw hg4 hg5 (by omega) (fun k hk=>by have:=(hown4.lt k hk).1;omega);have hs5:=wY hg5)
   refine hKK.out _ _ (by first|(exact HL.out _ wL)|go_keep) fun hSS=> ?_;try simp only[Act.put,u2,u3,u4]
   refine tk 12 ?_;try simp only[Act.put,u2,u3,u4]
   refine wpAnyH_done kr ?_ _;refine yD ?_;refine wpOp_step (o:=_) rfl (fun KK hKK=> ?_);go_simp;refine hKK _ _ (NoPanic.normal ?_);try simp only[Act.put,u2,u3,u4]
   all_goals
    clear hKK;have hQ6:=(hG5.set 3 (.slice A5 (K.ps.length+1) cap5)).cell;have hF7:=hR5.free;have hQ7:=hR5.cell;have hr5:=hR5.lt;have hne:¬w.heap.size+1=gp:=oo;clear hX5 hX6 hF6;go_wp2_with fail;have HE:Hid ((K.after c).ps.length=K.ps.length+1):=(by show _=_;rw[HN.out];simp);refine bodyPost_ret (v:=knV (K.after c) A5 cap5) (by simp [results,Tryz.results292,go_sem,HE.out,hQ7];exact⟨rfl,rfl,rfl,rfl,rfl⟩) rfl ⟨A5,cap5,rfl,?_,zu⟩;rw[HE.out,HN.out,Zq];have hne5:=own_ne hown5 hG5 (by decide);have hne6:=own_ne hown5 hR5 (by decide);exact zC (zH (zH (zH (zH (zH (zH (zH hown5 hne5 _) hne6 _) hne6 _) hne6 _) hne6 _) hne6 _) hne6 _) oo
  ·have HN:Hid ((K.after c).ps=K.ps):=by
    show _=_;rw[hN.out,if_neg hg]
   clear hN;have hQ6:=hG3.cell;have hF7:=hR3.free;have hQ7:=hR3.cell;have hg':K.gr=false:=(by simpa using hg);have hX0:=hK3.cell;clear hg;go_wp2_with fail;have HE:Hid ((K.after c).ps.length=K.ps.length):=(by show _=_;rw[HN.out]);refine bodyPost_ret (v:=knV (K.after c) A2 cap2) (by simp [results,Tryz.results292,go_sem,HE.out,hQ7];exact⟨rfl,rfl,rfl,rfl,rfl⟩) rfl ⟨A2,cap2,rfl,?_,zu⟩;rw[HE.out,HN.out];have hne6:=own_ne hown3 hR3 (by decide);exact zC (zH (zH (zH (zH (zH (zH hown3 hne6 _) hne6 _) hne6 _) hne6 _) hne6 _) hne6 _) oo
end Go.Proofs.YtfppmajoidkooaaGreatDoor
namespace Go.Proofs.YtfppmajoidkooaaGreatDoor
open Go.RowKit
set_option maxRecDepth 100000
theorem tK :(Tryz.prog.info? 3).map (fun i=>(i.zero,i.size,i.bytes))=some (some (.int .i64 0),1,8):=by kernel_rfl
def V4 :Value→Nat
 | .string b=>b.data.size
 |_=>0
abbrev iv (c:Int):Value:=.int .i64 c
abbrev ivn (n:Nat):Value:=.int .i64 (n:Int)
section
variable {w w' : World} {B B' : Nat}
theorem Sl.own {e:TypeId}{A:Option Addr}{n cap size:Nat}{cs:List Value}(h:w.ownsRow B e size (.slice A n cap) n cs):Sl w A n cap size cs:=by
 obtain⟨A',cap',h1,h2⟩:=Sl.sN h;injection h1 with e1 e2 e3
 subst e1 e3;exact h2
theorem ug {e e':TypeId}{s s' n n':Nat}{v v':Value}{xs xs':List Value}(h:w.ownsRow B e s v n xs)(h':w.ownsRow B' e' s' v' n' xs')(hne:e≠e'):v.ownBlock=none∨v.ownBlock≠v'.ownBlock:=by
 rcases h.2 with⟨rfl,_⟩|⟨g,cap,cur,rfl,_,hh,_⟩
 ·exact .inl rfl
 ·right
  rcases h'.2 with⟨rfl,_⟩|⟨g',cap',cur',rfl,_,hh',_⟩
  ·intro hc;cases hc
  ·intro hc
   injection hc with hc
   have hc:g=g':=hc;subst hc;rw[hh] at hh';injection hh' with hh'
   injection hh' with _ hh'
   exact hne hh'
theorem Ql {e:TypeId}{size n:Nat}(w:World)(cs:Array Value)(h:cs.size=n*size)(hB:B≤w.heap.size)(hn:n≤maxLen):
 (w.alloc (.cells cs e)).ownsRow B e size (.slice (some ⟨w.heap.size,0,none⟩) n n) n cs.toList:=
 ⟨by simpa using h,.inr ⟨w.heap.size,n,cs,rfl,hB,heap_alloc_new w _,Nat.le_refl _,hn,h,by rw[List.take_of_length_le];simp;omega⟩⟩
theorem wC {e:TypeId}{s n:Nat}{v:Value}{xs:List Value}(h:w.ownsRow B e s v n xs):w.drew.ownsRow B e s v n xs:=h
theorem sW {K:Kn}{A:Option Addr}{cap b:Nat}(h:Bk w b 130 (knC K A cap))(K2:Kn)(A2:Option Addr)(cap2:Nat):Bk ((((((w.setCell ⟨b,0,none⟩ (.int .i64 K2.o)).setCell ⟨b,1,none⟩ (.int .i64 K2.l)).setCell ⟨b,2,none⟩ (.int .i64 K2.m)).setCell ⟨b,3,none⟩ (.slice A2 K2.ps.length cap2)).setCell ⟨b,4,none⟩ (.int .i64 K2.base)).setCell ⟨b,5,none⟩ (.int .i64 K2.last)) b 130 (knC K2 A2 cap2):=
 (((((h.set 0 _).set 1 _).set 2 _).set 3 _).set 4 _).set 5 _
theorem wK {b:Nat}(h:Bk w b 130 knZ)(K2:Kn)(A2:Option Addr)(cap2:Nat):Bk ((((((w.setCell ⟨b,0,none⟩ (.int .i64 K2.o)).setCell ⟨b,1,none⟩ (.int .i64 K2.l)).setCell ⟨b,2,none⟩ (.int .i64 K2.m)).setCell ⟨b,3,none⟩ (.slice A2 K2.ps.length cap2)).setCell ⟨b,4,none⟩ (.int .i64 K2.base)).setCell ⟨b,5,none⟩ (.int .i64 K2.last)) b 130 (knC K2 A2 cap2):=
 (((((h.set 0 _).set 1 _).set 2 _).set 3 _).set 4 _).set 5 _
theorem yj {b:Nat}(h:Below B w' w)(hb:B≤b)(K2:Kn)(A2:Option Addr)(cap2:Nat):Below B w' ((((((w.setCell ⟨b,0,none⟩ (.int .i64 K2.o)).setCell ⟨b,1,none⟩ (.int .i64 K2.l)).setCell ⟨b,2,none⟩ (.int .i64 K2.m)).setCell ⟨b,3,none⟩ (.slice A2 K2.ps.length cap2)).setCell ⟨b,4,none⟩ (.int .i64 K2.base)).setCell ⟨b,5,none⟩ (.int .i64 K2.last)):=by
 iterate 6 refine Below.setCell ?_ (by simpa using hb) _
 exact h
theorem qg (w:World)(b:Nat)(K2:Kn)(A2:Option Addr)(cap2:Nat):((((((w.setCell ⟨b,0,none⟩ (.int .i64 K2.o)).setCell ⟨b,1,none⟩ (.int .i64 K2.l)).setCell ⟨b,2,none⟩ (.int .i64 K2.m)).setCell ⟨b,3,none⟩ (.slice A2 K2.ps.length cap2)).setCell ⟨b,4,none⟩ (.int .i64 K2.base)).setCell ⟨b,5,none⟩ (.int .i64 K2.last)).heap.size=w.heap.size:=by simp
theorem yz {b:Nat}{e:TypeId}{s n:Nat}{v:Value}{xs:List Value}(h:w.ownsRow B e s v n xs)(hb:b<B)(K2:Kn)(A2:Option Addr)(cap2:Nat):((((((w.setCell ⟨b,0,none⟩ (.int .i64 K2.o)).setCell ⟨b,1,none⟩ (.int .i64 K2.l)).setCell ⟨b,2,none⟩ (.int .i64 K2.m)).setCell ⟨b,3,none⟩ (.slice A2 K2.ps.length cap2)).setCell ⟨b,4,none⟩ (.int .i64 K2.base)).setCell ⟨b,5,none⟩ (.int .i64 K2.last)).ownsRow B e s v n xs:=by
 iterate 6 refine ownsRow_setCell_below ?_ (by simpa using hb) _
 exact h
theorem mJ {b g:Nat}{t:TypeId}{cs:Array Value}(h:Bk w g t cs)(hb:g≠b)(K2:Kn)(A2:Option Addr)(cap2:Nat):Bk ((((((w.setCell ⟨b,0,none⟩ (.int .i64 K2.o)).setCell ⟨b,1,none⟩ (.int .i64 K2.l)).setCell ⟨b,2,none⟩ (.int .i64 K2.m)).setCell ⟨b,3,none⟩ (.slice A2 K2.ps.length cap2)).setCell ⟨b,4,none⟩ (.int .i64 K2.base)).setCell ⟨b,5,none⟩ (.int .i64 K2.last)) g t cs:=by
 iterate 6 refine Bk.far ?_ (by simpa using hb) _
 exact h
end
end Go.Proofs.YtfppmajoidkooaaGreatDoor
namespace Go.Proofs.YtfppmajoidkooaaGreatDoor
open Go.RowKit
set_option maxRecDepth 100000
attribute [local go_sem high] zy zA zB zO zK zY zx zk zl zq zi zo yP zD yt zF
theorem qQ (K:Kn)(A:Option Addr)(cap:Nat)(c:Int)(w:World)(hk:K.ok)(hs:Sl w A K.ps.length cap 2 (psV K.ps))(hc:c≠K.cl→K.fol c=true):
 Calls Tryz.prog 277 #[knV K A cap,.int .i64 c] w (qJ (K.step c) w):=by
 have hp:=hk.lm;obtain⟨hp1,hp2,hp3,hp4⟩:=hp;by_cases he:c=K.cl
 ·have HS:K.step c=K.cleared:=if_pos he
  rw[HS];have hd:(c==pow2 K.l)=true:=(by simpa [Kn.cl] using he);clear he hc HS;go_enter Tryz.func277,Tryz.ntmps277;go_wp2_with fail;refine(yG _ _ _ _ hp1 hp2).mono ?_;rintro e w1 ⟨rfl,hb1⟩;have hz1:=hb1.size;simp only[World.size_alloc] at hz1;have hK1:Bk w1 w.heap.size 130 (knC K A cap):=(Bk.alloc (Bk.new _ _ _) _).below hb1 (by simp;omega);have hR1:Bk w1 (w.heap.size+1) 130 knZ:=(Bk.newAt _ _ _ (by simp)).below hb1 (by simp);have g1:Below w.heap.size w w1:=(zu:Below w.heap.size w ((w.alloc (.cells (knC K A cap) 130)).alloc (.cells knZ 130))).trans (hb1.mono (by simp;omega));clear hb1;have hX:=hK1.cell;go_wp2_with fail;refine(ru K A cap _ hk (hs.below g1)).mono ?_;rintro e w2 ⟨A2,cap2,rfl,hown,hb2⟩;have hz2:=hb2.size;have g2:=g1.trans (hb2.mono oo);have hR2:=hR1.below hb2 oo;have hQ:=hR2.cell;have hF:=hR2.free;clear hX;go_wp2_with fail;refine bodyPost_ret (v:=knV K.cleared A2 cap2) (by simp [results,Tryz.results277,go_sem,hQ]) rfl ⟨A2,cap2,rfl,?_,zu⟩;refine zC (B:=w1.heap.size) ?_ oo
  iterate 6 refine ownsRow_setCell_below ?_ (by simp;omega) _
  exact hown
 ·have HS:K.step c=K.after c:=if_neg he
  rw[HS];have hf:=hc he;have hd:(c==pow2 K.l)=false:=(by simpa [Kn.cl] using he);clear he hc HS;go_enter Tryz.func277,Tryz.ntmps277;go_wp2_with fail;refine(yG _ _ _ _ hp1 hp2).mono ?_;rintro e w1 ⟨rfl,hb1⟩;have hz1:=hb1.size;simp only[World.size_alloc] at hz1;have hK1:Bk w1 w.heap.size 130 (knC K A cap):=(Bk.alloc (Bk.new _ _ _) _).below hb1 (by simp;omega);have hR1:Bk w1 (w.heap.size+1) 130 knZ:=(Bk.newAt _ _ _ (by simp)).below hb1 (by simp);have g1:Below w.heap.size w w1:=(zu:Below w.heap.size w ((w.alloc (.cells (knC K A cap) 130)).alloc (.cells knZ 130))).trans (hb1.mono (by simp;omega));clear hb1;have hX:=hK1.cell;go_wp2_with fail;refine(kH K A cap c _ hk (hs.below g1) hf).mono ?_;generalize K.after c=K2 at*;rintro e w2 ⟨A2,cap2,rfl,hown,hb2⟩;have hz2:=hb2.size;have g2:=g1.trans (hb2.mono oo);have hR2:=hR1.below hb2 oo;have hQ:=hR2.cell;have hF:=hR2.free;clear hX;go_wp2_with fail;refine bodyPost_ret (v:=knV K2 A2 cap2) (by simp [results,Tryz.results277,go_sem,hQ]) rfl ⟨A2,cap2,rfl,?_,zu⟩;refine zC (B:=w1.heap.size) ?_ oo
  iterate 6 refine ownsRow_setCell_below ?_ (by simp;omega) _
  exact hown
theorem U5 (K:Kn)(x:Bs)(hx:¬(x.length=1∧wE x<K.cl))(i:Nat)(hi:i<K.yF.length)(hj:∀j,(h:j<i)→K.any (K.cl+2+(j:Int))≠x)(he:K.any (K.cl+2+(i:Int))=x):K.find x=K.cl+2+(i:Int):=by
 unfold Kn.find;rw[if_neg hx];have:K.yF.findIdx? (fun y=>decide (y=x))=some i:=by
  rw[List.findIdx?_eq_some_iff_getElem];refine⟨hi,by simpa [Kn.yF] using he,fun j hji=> ?_⟩;have:=hj j hji;simpa [Kn.yF] using this
 rw[this]
theorem QO (K:Kn)(x:Bs)(hx:¬(x.length=1∧wE x<K.cl))(hj:∀j,(h:j<K.yF.length)→K.any (K.cl+2+(j:Int))≠x):K.find x= -1:=by
 unfold Kn.find;rw[if_neg hx];have:K.yF.findIdx? (fun y=>decide (y=x))=none:=by
  rw[List.findIdx?_eq_none_iff];intro y hy;obtain⟨j,hjl,rfl⟩:=List.getElem_of_mem hy;have:=hj j hjl;simpa [Kn.yF] using this
 rw[this]
theorem ZY (K:Kn)(A:Option Addr)(cap:Nat)(x:Bs)(w:World)(hk:K.ok)(hs:Sl w A K.ps.length cap 2 (psV K.ps))(hl:x.length≤100000):
 Calls Tryz.prog 293 #[knV K A cap,.string ⟨x.toArray⟩] w fun e w'=>e= .returned (.int .i64 (K.find x))∧Below w.heap.size w w':=by
 have hbd:=hk.bd;have hgr:=K.uJ hk;have hp:=hk.lm;obtain⟨hp1,hp2,hp3,hp4⟩:=hp;have hpp:=yZ K.l hp1 hp2;obtain⟨hpp1,hpp2⟩:=hpp;have HC:=Go.Lib.hid (K.vP);have HCL:Hid (K.cl=pow2 K.l):=rfl;have hx1:=zL x 0;have hx2:=yu x 0;have hwx:IntKind.i64.wrap (byteAt x 0)=byteAt x 0:=IntWalk.i64_in _ oo;by_cases hone:x.length=1∧wE x<K.cl
 ·have HX:Hid (K.find x=byteAt x 0):=by show _=_;unfold Kn.find;rw[if_pos hone,oO]
  rw[oO] at hone;obtain⟨h1,h2⟩:=hone;have h2:byteAt x 0<pow2 K.l:=h2;have h0x:0<x.length:=oo;have hl1:((x.length:Int)==1)=true:=(by simp;omega);clear h1;go_enter Tryz.func293,Tryz.ntmps293;go_wp2_with fail;have hG:=zI (yl w (knC K A cap) 130) (by simp);refine wp_region_quiet_below kr kr ?_;repeat(go_big_quiet_step ((go_at_call 152;exact Calls.regrown_of (yG _ _ _ _ hp1 hp2))))
  refine wpQuiet_nil ?_;intro w2 hw2;have hb2:Below _ _ w2:=zh hw2;clear hw2;go_wp2;go_ret;exact⟨yN HX.out.symm,((Below.refl _ _).alloc (Nat.le_refl _) _).trans (hb2.mono (by simp))⟩
 ·have HN:=Go.Lib.hid hone
  rw[oO] at hone;have key:((x.length:Int)==1)=false∨(((x.length:Int)==1)=true∧¬byteAt x 0<pow2 K.l∧0<x.length):=by
   by_cases h1:x.length=1
   ·right
    refine⟨by simp;omega,fun h=>hone ⟨h1,h⟩,by omega⟩
   ·left;simp;omega
  clear hone;go_enter Tryz.func293,Tryz.ntmps293;rcases key with hl1|⟨hl1,h2,h0x⟩
  all_goals
   go_wp2_with fail;have hG:=zI (yl w (knC K A cap) 130) (by simp);refine wp_region_quiet_below kr kr ?_;repeat(go_big_quiet_step ((go_at_call 152;exact Calls.regrown_of (yG _ _ _ _ hp1 hp2))))
   refine wpQuiet_nil ?_;intro w2 hw2;have hb2:Below _ _ w2:=zh hw2;clear hw2;have hz2:=hb2.size;simp only[World.size_alloc] at hz2;have hX2:∀i,w2.cell? ⟨w.heap.size,i,none⟩=(knC K A cap)[i]? :=zJ (yl _ _ _) hb2 (by simp);have g2:Below w.heap.size w w2:=((Below.refl _ _).alloc (Nat.le_refl _) _).trans (hb2.mono (by simp));clear hG hb2 hl1;go_wp2_with fail;refine(xI _ _ _ _ hp1 hp2).mono ?_;rintro e w3 ⟨rfl,hb3⟩;have hz3:=hb3.size;have hX3:=zJ hX2 hb3 oo;have g3:=g2.trans (hb3.mono oo);clear hb3 hX2 g2;go_wp2;go_loopw [5] (fun v wr=>∃i:Nat,i≤K.yF.length∧v= .int .i64 (pow2 K.l+2+i)∧(∀j,(h:j<i)→K.any (pow2 K.l+2+(j:Int))≠x)∧Below w.heap.size w wr∧w.heap.size<wr.heap.size∧∀i,wr.cell? ⟨w.heap.size,i,none⟩=(knC K A cap)[i]?) (fun v _=>K.yF.length+70000 - (intOf v).toNat)
   case atStart=>exact⟨0,oo,by go_num,fun j h=>by omega,zu,by first|omega|(simp;omega),hX3⟩
   case round=>
    obtain⟨i,hi,rfl,hj,hb,hz,hX⟩:=hrel;have HJ:=Go.Lib.hid hj;clear hj;have hi2:i≤5000:=(by have:=HC.out;omega);go_wp2_with fail;refine(pz _ _ _ _ hk).mono ?_;rintro e w4 ⟨rfl,hb4⟩;have hz4:=hb4.size;have hX4:=zJ hX hb4 hz;have g4:=hb.trans (hb4.mono oo);clear hb4 hX hb;by_cases hlt:i<K.yF.length
    ·have hle:pow2 K.l+2+(i:Int)≤K.great:=by have:=HC.out;have:=HCL.out;omega
     have hfol:=K.jd i hlt;rw[HCL.out] at hfol;have HF:Hid (K.any (pow2 K.l+2+(i:Int))=x→K.find x=pow2 K.l+2+(i:Int)):=fun he=>U5 K x HN.out i hlt (fun j hji=>HJ.out j hji) he;have HJ2:Hid (K.any (pow2 K.l+2+(i:Int))≠x→∀j,(h:j<i+1)→K.any (pow2 K.l+2+(j:Int))≠x):=fun hne j hji=>by
      rcases Nat.lt_or_ge j i with h|h
      ·exact HJ.out j h
      ·have:j=i:=oo
       subst this;exact hne
     have hal:=K.rE hk hfol;obtain⟨hal1,hal2⟩:=hal;go_wp2_with fail;refine(qG K A cap _ _ hk (hs.below g4) hfol).mono ?_;rintro e w5 ⟨rfl,hb5⟩;have hz5:=hb5.size;have hX5:=zJ hX4 hb5 oo;have g5:=g4.trans (hb5.mono oo);clear hb5 hX4 g4;generalize K.any (pow2 K.l+2+(i:Int))=y at*;by_cases hyx:y=x
     ·have hE:=HF.out hyx
      have HE:=Go.Lib.hid hE;clear hE;have hd:decide (y=x)=true:=(by simpa using hyx);clear hyx;go_wp2;go_ret;exact⟨yN HE.out.symm,g5⟩
     ·have hJ3:=HJ2.out hyx
      have HJ3:=Go.Lib.hid hJ3;clear hJ3;have hd:decide (y=x)=false:=(by simpa using hyx);clear hyx;go_wp2;go_roundw
      case rel=>exact⟨i+1,oo,by go_num,HJ3.out,g5,oo,hX5⟩
      case measure=>simp [intOf];omega
    ·have hgt:¬pow2 K.l+2+(i:Int)≤K.great:=by have:=HC.out;have:=HCL.out;omega
     have HE:Hid (K.find x= -1):=QO K x HN.out (fun j hj=>HJ.out j oo);go_wp2;go_ret;exact⟨yN HE.out.symm,g4⟩
theorem rZ :∀(n:Nat) (K:Kn) (t:Bs),(zV n K t).length≤2*t.length
 |0,_,_=>by simp [zV]
 |n+1,K,t=>by
  unfold zV;split
  ·simp
  ·rename_i hne
   have h1:=K.xg hne;have h2:=(K.yE t).2;have hd:(t.drop (K.longest t).length).length=t.length - (K.longest t).length:=(by simp);simp only;split
   ·have:=rZ n (K.after (K.find (K.longest t))).cleared (t.drop (K.longest t).length)
    simp only[List.length_cons];omega
   ·have:=rZ n (K.after (K.find (K.longest t))) (t.drop (K.longest t).length)
    simp only[List.length_cons];omega
theorem jv (K:Kn)(t:Bs):(K.yc t).length≤2*t.length+2:=by
 have:=rZ t.length K.cleared t;unfold Kn.yc;simp;omega
theorem X6 (n:Nat)(K:Kn):zV n K []=[]:=by cases n<;>simp [zV]
theorem ZC (n:Nat)(K K1:Kn)(t r:Bs)(c:Int)(ht:t≠[])(hc:K.find (K.longest t)=c)(hK:K.after c=K1)(hr:t.drop (K.longest t).length=r)(h:r≠[]∧K1.top<K1.nx∧K1.base<K1.ps.length):
 zV (n+1) K t=c::K1.cl::zV n K1.cleared r:=by
 subst hc hK hr;rw[zV,if_neg ht];simp only;rw[if_pos h];rfl
theorem VI (n:Nat)(K K1:Kn)(t r:Bs)(c:Int)(ht:t≠[])(hc:K.find (K.longest t)=c)(hK:K.after c=K1)(hr:t.drop (K.longest t).length=r)(h:¬(r≠[]∧K1.top<K1.nx∧K1.base<K1.ps.length)):
 zV (n+1) K t=c::zV n K1 r:=by
 subst hc hK hr;rw[zV,if_neg ht];simp only;rw[if_neg h]
theorem XZ (K:Kn)(A:Option Addr)(cap:Nat)(d:Bs)(w:World)(hk:K.ok)(hs:Sl w A K.ps.length cap 2 (psV K.ps))(hl:d.length≤100000)(hf:d.all (vI K.l)=true):
 Calls Tryz.prog 286 #[knV K A cap,.string ⟨d.toArray⟩] w fun e w'=>∃v,e= .returned v∧w'.ownsRow (w.heap.size+1) 3 1 v (K.yc d).length ((K.yc d).map iv)∧Below w.heap.size w w':=by
 obtain⟨i,hi,hz0,hz1,hz2⟩:=info_parts tK;have hp:=hk.lm;obtain⟨hp1,hp2,hp3,hp4⟩:=hp;have hpp:=yZ K.l hp1 hp2;obtain⟨hpp1,hpp2⟩:=hpp;have hck:=K.y7 hk;have hgl:=jv K d;go_enter Tryz.func286,Tryz.ntmps286;go_wp2_with fail;refine(yG _ _ _ _ hp1 hp2).mono ?_;rintro e w1 ⟨rfl,hb1⟩;have hz1':=hb1.size;simp only[World.size_alloc] at hz1';have hK1:Bk w1 w.heap.size 130 (knC K A cap):=(Bk.new _ _ _).below hb1 (by simp);have g1:Below w.heap.size w w1:=(zu:Below w.heap.size w (w.alloc (.cells (knC K A cap) 130))).trans (hb1.mono (by simp));clear hb1;have hX:=(hK1.alloc (.cells #[.int .i64 (pow2 K.l)] 3)).cell;go_wp2_with fail;have hs1:=(hs.below g1).alloc (.cells #[.int .i64 (pow2 K.l)] 3);have o1:(w1.alloc (.cells #[.int .i64 (pow2 K.l)] 3)).ownsRow (w.heap.size+1) 3 1 (.slice (some ⟨w1.heap.size,0,none⟩) 1 1) 1 [.int .i64 (pow2 K.l)]:=Ql w1 #[.int .i64 (pow2 K.l)] rfl oo (by unfold maxLen;omega);refine(ru K A cap _ hk hs1).mono ?_;rintro e w2 ⟨A2,cap2,rfl,hown,hb2⟩;have hz2':=hb2.size;simp only[World.size_alloc] at hz2';have hK2:=(hK1.alloc _).below hb2 (by simp;omega);have o2:=zf o1 hb2;have p2:=zC (B':=w.heap.size+1) hown (by simp;omega);have g2:Below w.heap.size w w2:=(g1.alloc (by omega) _).trans (hb2.mono (by simp;omega));clear hb2 hown hX hK1 o1 hs1;have hX:=hK2.cell;have hF:=hK2.free;go_wp2_with fail;have hK3:=sW hK2 K.cleared A2 cap2;have g3:=yj g2 (Nat.le_refl _) K.cleared A2 cap2;have o3:=yz o2 (Nat.lt_succ_self _) K.cleared A2 cap2;have p3:=yz p2 (Nat.lt_succ_self _) K.cleared A2 cap2;have hz3:=qg w2 w.heap.size K.cleared A2 cap2;clear hX hF hK2 o2 p2 g2;generalize((((((w2.setCell ⟨w.heap.size,0,none⟩ (.int .i64 K.cleared.o)).setCell ⟨w.heap.size,1,none⟩ (.int .i64 K.cleared.l)).setCell ⟨w.heap.size,2,none⟩ (.int .i64 K.cleared.m)).setCell ⟨w.heap.size,3,none⟩ (.slice A2 K.cleared.ps.length cap2)).setCell ⟨w.heap.size,4,none⟩ (.int .i64 K.cleared.base)).setCell ⟨w.heap.size,5,none⟩ (.int .i64 K.cleared.last))=w3 at*;have hl0:K.cleared.l=K.l:=rfl;have hm0:K.cleared.m=K.m:=rfl;have HG0:Hid (K.yc d=[pow2 K.l]++(zV d.length K.cleared d++[pow2 K.l+1])):=rfl;have HGL:Hid ((K.yc d).length≤2*d.length+2):=hgl;clear hgl hs hk;have o3:w3.ownsRow (w.heap.size+1) 3 1 (.slice (some ⟨w1.heap.size,0,none⟩) 1 1) [pow2 K.l].length ([pow2 K.l].map iv):=o3;generalize hGe:K.yc d=G at*;have HGe:=Go.Lib.hid hGe;clear hGe;generalize K.cleared=K0 at*;go_loopw [1,5,6,7] (fun a b _ _ wr=>∃(K':Kn) (A':Option Addr) (cap' n:Nat) (out:List Int) (d':Bs),a= .string ⟨d'.toArray⟩∧K'.ok∧Hid (K'.l=K.l)∧d'.all (vI K.l)=true∧d'.length≤d.length∧d'.length≤n∧Hid (G=out++(zV n K' d'++[pow2 K.l+1]))∧
  wr.ownsRow (w.heap.size+1) 3 1 b out.length (out.map iv)∧wr.ownsRow (w.heap.size+1) 207 2 (.slice A' K'.ps.length cap') K'.ps.length (psV K'.ps)∧Bk wr w.heap.size 130 (knC K' A' cap')∧Below w.heap.size w wr) (fun a _ _ _ _=>V4 a)
 case atStart=>exact⟨K0,A2,cap2,d.length,[pow2 K.l],d,rfl,hck,hl0,hf,Nat.le_refl _,Nat.le_refl _,HG0,o3,p3,hK3,g3⟩
 case round=>
  obtain⟨K',A',cap',n,out,d',rfl,hk',HL',hf',hdl,hdn,HG,o4,p4,hK4,g4⟩:=hrel;clear hck hl0 hm0 HG0 o3 p3 hK3 g3 hf;have hout:out.length≤2*d.length+2:=(by have h1:=congrArg List.length HG.out;have h2:=HGL.out;simp at h1;omega);have hm1:out.length+1≤maxLen:=(by unfold maxLen;omega);have hm2:(out.length+1)*8≤140737488355328:=oo;have hX:=hK4.cell;have hwz4:w.heap.size+1≤wr.heap.size:=(by have:=hK4.lt;omega);by_cases hne:d'=[]
  ·have hdd:decide (d'=[])=true:=by simpa using hne
   have HE:Hid (G=out++[pow2 K.l+1]):=by
    have h:=HG.out;rw[hne,X6,List.nil_append] at h;exact h
   have hq:=hk'.lm;obtain⟨hq1,hq2,hq3,hq4⟩:=hq;clear hne;go_wp2_with fail;refine(xI _ _ _ _ hq1 hq2).mono ?_;rintro e w5 ⟨rfl,hb5⟩;have hz5:=hb5.size;have o5:=zf o4 hb5;have g5:=g4.trans (hb5.mono (by have:=g4.size;omega));go_wp2_with(at_builtin;go_must(refine wpList_append_own _ rfl _ _ 60 rfl (w.heap.size+1) 3 i _ 1 8 Tryz.underlying60 hi hz0 hz1 hz2 rfl oo _ _ _ rfl (o5.alloc _) ⟨w5.heap.size,0,none⟩ 1 1 [.int .i64 (pow2 K'.l+1)] rfl rfl ?_ ?_ hm1 hm2 ?_ ?_));try(case refine_1=>first|exact cell_one_new _ _ _|omega|(simp<;>omega;done)|(simp [Value.oneCell'];done))
   try(case refine_2=>first|exact cell_one_new _ _ _|omega|(simp<;>omega;done)|(simp [Value.oneCell'];done))
   try(case refine_3=>first|exact cell_one_new _ _ _|omega|(simp<;>omega;done)|(simp [Value.oneCell'];done))
   intro v6 w6 o6 hg6 _;have g6:=yw g5 hg6 (by have:=g4.size;omega) (fun k hk=>by have:=(o5.lt k hk).1;omega);go_wp2;go_ret;refine⟨_,rfl,?_,g6⟩;have h1:G.length=out.length+1:=(by rw[HE.out];simp);rw[HGe.out,h1,HE.out,List.map_append];rw[HL'.out] at o6;exact o6
  ·obtain⟨m,hm⟩:∃m,n=m+1:=⟨n - 1,by cases d' with
    |nil=>exact absurd rfl hne
    |cons x r=>simp at hdn;omega⟩
   subst hm;have hf2:d'.all (vI K'.l)=true:=(by rw[HL'.out];exact hf');have hfol:=K'.sF hk' hne hf2;obtain⟨hfol,_,hc0⟩:=hfol;have hlp:=(K'.yE d').2;have hlq:=K'.xg hne;have hao:=K'.vU hk' hfol;have HL:Hid (∀w,Sl w A' K'.ps.length cap' 2 (psV K'.ps)→Calls Tryz.prog 291 #[knV K' A' cap',.string ⟨d'.toArray⟩] w fun e w'=>e= .returned (.string ⟨(K'.longest d').toArray⟩)∧Below w.heap.size w w'):=fun w hs=>jI K' A' cap' d' w hk' hs hne oo;have hxl:(K'.longest d').length≤100000:=oo;have HF:Hid (∀w,Sl w A' K'.ps.length cap' 2 (psV K'.ps)→Calls Tryz.prog 293 #[knV K' A' cap',.string ⟨(K'.longest d').toArray⟩] w fun e w'=>e= .returned (.int .i64 (K'.find (K'.longest d')))∧Below w.heap.size w w'):=fun w hs=>ZY K' A' cap' _ w hk' hs hxl;have HA:Hid (∀w,Sl w A' K'.ps.length cap' 2 (psV K'.ps)→Calls Tryz.prog 292 #[knV K' A' cap',.int .i64 (K'.find (K'.longest d'))] w (qJ (K'.after (K'.find (K'.longest d'))) w)):=fun w hs=>kH K' A' cap' _ w hk' hs hfol;have HC:Hid (d'.drop (K'.longest d').length≠[]∧(K'.after (K'.find (K'.longest d'))).top<(K'.after (K'.find (K'.longest d'))).nx∧(K'.after (K'.find (K'.longest d'))).base<(K'.after (K'.find (K'.longest d'))).ps.length→zV (m+1) K' d'=K'.find (K'.longest d')::(K'.after (K'.find (K'.longest d'))).cl::zV m (K'.after (K'.find (K'.longest d'))).cleared (d'.drop (K'.longest d').length)):=fun h=>ZC m K' _ d' _ _ hne rfl rfl rfl h;have HN:Hid (¬(d'.drop (K'.longest d').length≠[]∧(K'.after (K'.find (K'.longest d'))).top<(K'.after (K'.find (K'.longest d'))).nx∧(K'.after (K'.find (K'.longest d'))).base<(K'.after (K'.find (K'.longest d'))).ps.length)→zV (m+1) K' d'=K'.find (K'.longest d')::zV m (K'.after (K'.find (K'.longest d'))) (d'.drop (K'.longest d').length)):=fun h=>VI m K' _ d' _ _ hne rfl rfl rfl h;have HL1:Hid ((K'.after (K'.find (K'.longest d'))).l=K.l):=HL'.out;have hdd:decide (d'=[])=false:=(by simpa using hne);have hrl:(d'.drop (K'.longest d').length).length=d'.length - (K'.longest d').length:=(by simp);have hrf:(d'.drop (K'.longest d').length).all (vI K.l)=true:=rJ _ _ _ hf';clear hne hfol hf2;generalize K'.after (K'.find (K'.longest d'))=K1 at*;generalize K'.find (K'.longest d')=c at*;have hrx:∀x:Bs,d'.drop x.length=d'.drop x.length:=fun _=>rfl;generalize K'.longest d'=x at*;have HRL:=Go.Lib.hid hrl;clear hrl hrx;have hlp':(x.length:Int)≤d'.length:=oo;go_wp2_with fail;refine(HL.out _ (Sl.own p4)).mono ?_;rintro e w5 ⟨rfl,hb5⟩;have hz5:=hb5.size;have o5:=zf o4 hb5;have p5:=zf p4 hb5;have hK5:=hK4.below hb5 oo;have g5:=g4.trans (hb5.mono oo);clear hX hb5 o4 p4 hK4 g4;have hX:=hK5.cell;go_wp2_with fail;refine(HF.out _ (Sl.own p5)).mono ?_;rintro e w6 ⟨rfl,hb6⟩;have hz6:=hb6.size;have o6:=zf o5 hb6;have p6:=zf p5 hb6;have hK6:=hK5.below hb6 oo;have g6:=g5.trans (hb6.mono oo);clear hX hb6 o5 p5 hK5 g5;go_wp2_with(at_builtin;go_must(refine wpList_append_own _ rfl _ _ 60 rfl (w.heap.size+1) 3 i _ 1 8 Tryz.underlying60 hi hz0 hz1 hz2 rfl oo _ _ _ rfl (o6.alloc _) ⟨w6.heap.size,0,none⟩ 1 1 [.int .i64 c] rfl rfl ?_ ?_ hm1 hm2 ?_ ?_));try(case refine_1=>first|exact cell_one_new _ _ _|omega|(simp<;>omega;done)|(simp [Value.oneCell'];done))
   try(case refine_2=>first|exact cell_one_new _ _ _|omega|(simp<;>omega;done)|(simp [Value.oneCell'];done))
   try(case refine_3=>first|exact cell_one_new _ _ _|omega|(simp<;>omega;done)|(simp [Value.oneCell'];done))
   intro v7 w7 o7 hg7 _;have g7:=yw g6 hg7 oo (fun k hk=>by have:=(o6.lt k hk).1;omega);have hK7:=(hK6.alloc (.cells #[.int .i64 c] 3)).grown hg7 (own_ne o6 hK6 (by decide));have p7:=(p6.alloc (.cells #[.int .i64 c] 3)).kept hg7 (ug p6 o6 (by decide));have hz7:=wY hg7;clear hg7 o6 p6 hK6 g6;have hX:=hK7.cell;go_wp2_with fail;refine(HA.out _ (Sl.own p7)).mono ?_;rintro e w8 ⟨A8,cap8,rfl,hown8,hb8⟩;have hz8:=hb8.size;have o8:=zf o7 hb8;have p8:=zC (B':=w.heap.size+1) hown8 oo;have hK8:=hK7.below hb8 oo;have g8:=g7.trans (hb8.mono oo);clear hX hb8 o7 p7 hK7 g7 hown8;have hX:=hK8.cell;have hF:=hK8.free;go_wp2_with fail;generalize d'.drop x.length=r at*;have hK9:=sW hK8 K1 A8 cap8;have g9:=yj g8 (Nat.le_refl _) K1 A8 cap8;have o9:=yz o8 (Nat.lt_succ_self _) K1 A8 cap8;have p9:=yz p8 (Nat.lt_succ_self _) K1 A8 cap8;have hz9:=qg w8 w.heap.size K1 A8 cap8;clear hX hF hK8 o8 p8 g8;generalize((((((w8.setCell ⟨w.heap.size,0,none⟩ (.int .i64 K1.o)).setCell ⟨w.heap.size,1,none⟩ (.int .i64 K1.l)).setCell ⟨w.heap.size,2,none⟩ (.int .i64 K1.m)).setCell ⟨w.heap.size,3,none⟩ (.slice A8 K1.ps.length cap8)).setCell ⟨w.heap.size,4,none⟩ (.int .i64 K1.base)).setCell ⟨w.heap.size,5,none⟩ (.int .i64 K1.last))=w9 at*;have hG:=zI hK9.cell oo;have hq:=hao.lm;obtain⟨hq1,hq2,hq3,hq4⟩:=hq;have hm3:out.length+2≤maxLen:=(by unfold maxLen;omega);have HTOP:Hid (K1.top=pow2 K1.m - 1):=rfl;have o9:w9.ownsRow (w.heap.size+1) 3 1 v7 (out++[c]).length ((out++[c]).map iv):=by
    rw[List.map_append,List.length_append];exact o9
   by_cases hcc:r≠[]∧K1.top<K1.nx∧K1.base<K1.ps.length
   ·have HE:=Go.Lib.hid (HC.out hcc)
    have HGN:Hid (G=(out++[c,pow2 K1.l])++(zV m K1.cleared r++[pow2 K.l+1])):=by
     show _=_;rw[HG.out,HE.out];simp [Kn.cl]
    obtain⟨h1,hr2,hr3⟩:=hcc;have hr1:decide (r=[])=false:=(by simpa using h1);have hr2:pow2 K1.m - 1<K1.nx:=hr2;have hcl1:=K1.y7 hao;have HLC:Hid (K1.cleared.l=K.l):=HL1.out;clear h1 HC HN;refine wp_region_quiet_below kr kr ?_;repeat(go_big_quiet_step ((first|(go_at_call 298;exact Calls.regrown_of (ui _ _ _ _ hao))|(go_at_call 282;exact Calls.regrown_of (qP _ _ _ _ hq3 hq4)))))
    refine wpQuiet_nil ?_;intro w10 hw2;have hb10:Below _ _ w10:=zh hw2;clear hw2;have hz10:=hb10.size;have o10:=zf o9 hb10;have p10:=zf p9 hb10;have hK10:=hK9.below hb10 oo;have g10:=g9.trans (hb10.mono oo);clear hb10 o9 p9 hK9 g9 hG;have hX:=hK10.cell;go_wp2_with fail;refine(yG _ _ _ _ hq1 hq2).mono ?_;rintro e w11 ⟨rfl,hb11⟩;have hz11:=hb11.size;have o11:=zf o10 hb11;have p11:=zf p10 hb11;have hK11:=hK10.below hb11 oo;have g11:=g10.trans (hb11.mono oo);clear hb11 hX o10 p10 hK10 g10;have hm5:(out++[c]).length+1≤maxLen:=(by rw[List.length_append];exact hm3);have hm6:((out++[c]).length+1)*8≤140737488355328:=(by rw[List.length_append];simp;omega);go_wp2_with(at_builtin;go_must(refine wpList_append_own _ rfl _ _ 60 rfl (w.heap.size+1) 3 i _ 1 8 Tryz.underlying60 hi hz0 hz1 hz2 rfl oo _ _ _ rfl (o11.alloc _) ⟨w11.heap.size,0,none⟩ 1 1 [.int .i64 (pow2 K1.l)] rfl rfl ?_ ?_ hm5 hm6 ?_ ?_));try(case refine_1=>first|exact cell_one_new _ _ _|omega|(simp<;>omega;done)|(simp [Value.oneCell'];done))
    try(case refine_2=>first|exact cell_one_new _ _ _|omega|(simp<;>omega;done)|(simp [Value.oneCell'];done))
    try(case refine_3=>first|exact cell_one_new _ _ _|omega|(simp<;>omega;done)|(simp [Value.oneCell'];done))
    intro v12 w12 o12 hg12 _;have g12:=yw g11 hg12 oo (fun k hk=>by have:=(o11.lt k hk).1;omega);have hK12:=(hK11.alloc (.cells #[.int .i64 (pow2 K1.l)] 3)).grown hg12 (own_ne o11 hK11 (by decide));have p12:=(p11.alloc (.cells #[.int .i64 (pow2 K1.l)] 3)).kept hg12 (ug p11 o11 (by decide));have hz12:=wY hg12;clear hg12 o11 p11 hK11 g11;have hX:=hK12.cell;go_wp2_with fail;refine(ru K1 A8 cap8 _ hao (Sl.own p12)).mono ?_;rintro e w13 ⟨A13,cap13,rfl,hown13,hb13⟩;have hz13:=hb13.size;have o13:=zf o12 hb13;have p13:=zC (B':=w.heap.size+1) hown13 oo;have hK13:=hK12.below hb13 oo;have g13:=g12.trans (hb13.mono oo);clear hX hb13 o12 p12 hK12 g12 hown13;have hX:=hK13.cell;have hF:=hK13.free;generalize K1.cleared=K2 at*;go_wp2;have hK14:=sW hK13 K2 A13 cap13;have g14:=yj g13 (Nat.le_refl _) K2 A13 cap13;have o14:=yz o13 (Nat.lt_succ_self _) K2 A13 cap13;have p14:=yz p13 (Nat.lt_succ_self _) K2 A13 cap13;have o14:(((((((w13.setCell ⟨w.heap.size,0,none⟩ (.int .i64 K2.o)).setCell ⟨w.heap.size,1,none⟩ (.int .i64 K2.l)).setCell ⟨w.heap.size,2,none⟩ (.int .i64 K2.m)).setCell ⟨w.heap.size,3,none⟩ (.slice A13 K2.ps.length cap13)).setCell ⟨w.heap.size,4,none⟩ (.int .i64 K2.base)).setCell ⟨w.heap.size,5,none⟩ (.int .i64 K2.last))).ownsRow (w.heap.size+1) 3 1 v12 (out++[c,pow2 K1.l]).length ((out++[c,pow2 K1.l]).map iv):=by
     rw[List.length_append,List.map_append];exact o14
    go_roundw
    case rel=>exact⟨K2,A13,cap13,m,out++[c,pow2 K1.l],r,rfl,hcl1,HLC,hrf,by have:=HRL.out;omega,by have:=HRL.out;omega,HGN,o14,p14,hK14,g14⟩
    case measure=>have:=HRL.out;simp [V4];omega
   ·have HE:=Go.Lib.hid (HN.out hcc)
    have HGN:Hid (G=(out++[c])++(zV m K1 r++[pow2 K.l+1])):=by
     show _=_;rw[HG.out,HE.out];simp
    have hcase:decide (r=[])=true∨(decide (r=[])=false∧¬pow2 K1.m - 1<K1.nx)∨(decide (r=[])=false∧pow2 K1.m - 1<K1.nx∧¬K1.base<K1.ps.length):=by
     by_cases h1:r=[]
     ·left;simpa using h1
     ·right
      have h1':decide (r=[])=false:=(by simpa using h1);by_cases h2:K1.top<K1.nx
      ·right;exact⟨h1',h2,fun h3=>hcc ⟨h1,h2,h3⟩⟩
      ·left;exact⟨h1',h2⟩
    clear hcc HC HN;rcases hcase with hr1|⟨hr1,hr2⟩|⟨hr1,hr2,hr3⟩
    all_goals
     refine wp_region_quiet_below kr kr ?_;repeat(go_big_quiet_step ((first|(go_at_call 298;exact Calls.regrown_of (ui _ _ _ _ hao))|(go_at_call 282;exact Calls.regrown_of (qP _ _ _ _ hq3 hq4)))))
     refine wpQuiet_nil ?_;intro w10 hw2;have hb10:Below _ _ w10:=zh hw2;clear hw2;have hz10:=hb10.size;have o10:=zf o9 hb10;have p10:=zf p9 hb10;have hK10:=hK9.below hb10 oo;have g10:=g9.trans (hb10.mono oo);clear hb10 o9 p9 hK9 g9 hG;go_wp2;go_roundw
     case rel=>exact⟨K1,A8,cap8,m,out++[c],r,rfl,hao,HL1,hrf,by have:=HRL.out;omega,by have:=HRL.out;omega,HGN,o10,p10,hK10,g10⟩
     case measure=>have:=HRL.out;simp [V4];omega
theorem bK (n:Nat)(K:Kn):wu n K []=K:=by cases n<;>simp [wu]
theorem Yv (n:Nat)(K:Kn)(t:Bs)(ht:t≠[]):wu (n+1) K t=wu n (K.after (K.find (K.longest t))) (t.drop (K.longest t).length):=by rw[wu,if_neg ht]
def Kn.rest (K:Kn):Kn:= { K with base:=K.ps.length,last:= -1 }
theorem UQ (K:Kn)(A:Option Addr)(cap:Nat)(d:Bs)(w:World)(hk:K.ok)(hs:Sl w A K.ps.length cap 2 (psV K.ps))(hl:d.length≤100000)(hf:d.all (vI K.l)=true):
 Calls Tryz.prog 270 #[knV K A cap,.string ⟨d.toArray⟩] w (qJ (K.learn d) w):=by
 have hck:=K.y7 hk;go_enter Tryz.func270,Tryz.ntmps270;go_wp2_with fail;have hs1:Sl ((w.alloc (.cells (knC K A cap) 130)).alloc (.cells knZ 130)) A K.ps.length cap 2 (psV K.ps):=(hs.alloc _).alloc _;refine(ru K A cap _ hk hs1).mono ?_;rintro e w2 ⟨A2,cap2,rfl,hown,hb2⟩;have hz2':=hb2.size;simp only[World.size_alloc] at hz2';have hK2:Bk w2 w.heap.size 130 (knC K A cap):=(Bk.alloc (Bk.new _ _ _) _).below hb2 (by simp;omega);have hR2:Bk w2 (w.heap.size+1) 130 knZ:=(Bk.newAt _ _ _ (by simp)).below hb2 (by simp);have p2:=zC (B':=w.heap.size+2) hown (by simp);have g2:Below w.heap.size w w2:=(zu:Below w.heap.size w ((w.alloc (.cells (knC K A cap) 130)).alloc (.cells knZ 130))).trans (hb2.mono (by simp;omega));clear hb2 hown hs1;have hX:=hK2.cell;have hF:=hK2.free;go_wp2_with fail;have hK3:=sW hK2 K.cleared A2 cap2;have hR3:=mJ hR2 oo K.cleared A2 cap2 (b:=w.heap.size);have g3:=yj g2 (Nat.le_refl _) K.cleared A2 cap2;have p3:=yz p2 (b:=w.heap.size) oo K.cleared A2 cap2;have hz3:=qg w2 w.heap.size K.cleared A2 cap2;clear hX hF hK2 hR2 p2 g2;generalize((((((w2.setCell ⟨w.heap.size,0,none⟩ (.int .i64 K.cleared.o)).setCell ⟨w.heap.size,1,none⟩ (.int .i64 K.cleared.l)).setCell ⟨w.heap.size,2,none⟩ (.int .i64 K.cleared.m)).setCell ⟨w.heap.size,3,none⟩ (.slice A2 K.cleared.ps.length cap2)).setCell ⟨w.heap.size,4,none⟩ (.int .i64 K.cleared.base)).setCell ⟨w.heap.size,5,none⟩ (.int .i64 K.cleared.last))=w3 at*;have hl0:K.cleared.l=K.l:=rfl;have HG0:Hid (K.learn d=(wu d.length K.cleared d).rest):=rfl;clear hs hk;generalize hGe:K.learn d=G at*;have HGe:=Go.Lib.hid hGe;clear hGe;generalize K.cleared=K0 at*;go_loopw [1,5] (fun a _ wr=>∃(K':Kn) (A':Option Addr) (cap' n:Nat) (d':Bs),a= .string ⟨d'.toArray⟩∧K'.ok∧Hid (K'.l=K.l)∧d'.all (vI K.l)=true∧d'.length≤d.length∧d'.length≤n∧Hid (G=(wu n K' d').rest)∧
  wr.ownsRow (w.heap.size+2) 207 2 (.slice A' K'.ps.length cap') K'.ps.length (psV K'.ps)∧Bk wr w.heap.size 130 (knC K' A' cap')∧Bk wr (w.heap.size+1) 130 knZ∧Below w.heap.size w wr) (fun a _ _=>V4 a)
 case atStart=>exact⟨K0,A2,cap2,d.length,d,rfl,hck,hl0,hf,Nat.le_refl _,Nat.le_refl _,HG0,p3,hK3,hR3,g3⟩
 case round=>
  obtain⟨K',A',cap',n,d',rfl,hk',HL',hf',hdl,hdn,HG,p4,hK4,hR4,g4⟩:=hrel;clear hck hl0 HG0 p3 hK3 hR3 g3 hf;have hX:=hK4.cell;have hwz4:w.heap.size+2≤wr.heap.size:=(by have:=hR4.lt;omega);by_cases hne:d'=[]
  ·have hdd:decide (d'=[])=true:=by simpa using hne
   have HE:Hid (G=K'.rest):=by
    have h:=HG.out;rw[hne,bK] at h;exact h
   clear hne;have hF:=hR4.free;have hQ:=hR4.cell;go_wp2_with fail;have hG:=HE.out;clear HG HE;subst hG;refine bodyPost_ret (v:=knV K'.rest A' cap') (by simp [results,Tryz.results270,go_sem,hQ,Kn.rest]) rfl ⟨A',cap',rfl,?_,zu⟩;refine zC (B:=w.heap.size+2) ?_ oo
   iterate 6 refine ownsRow_setCell_below ?_ (by simp) _
   exact p4
  ·obtain⟨m,hm⟩:∃m,n=m+1:=⟨n - 1,by cases d' with
    |nil=>exact absurd rfl hne
    |cons x r=>simp at hdn;omega⟩
   subst hm;have hf2:d'.all (vI K'.l)=true:=(by rw[HL'.out];exact hf');have hfol:=K'.sF hk' hne hf2;obtain⟨hfol,_,hc0⟩:=hfol;have hlp:=(K'.yE d').2;have hlq:=K'.xg hne;have hao:=K'.vU hk' hfol;have HL:Hid (∀w,Sl w A' K'.ps.length cap' 2 (psV K'.ps)→Calls Tryz.prog 291 #[knV K' A' cap',.string ⟨d'.toArray⟩] w fun e w'=>e= .returned (.string ⟨(K'.longest d').toArray⟩)∧Below w.heap.size w w'):=fun w hs=>jI K' A' cap' d' w hk' hs hne oo;have hxl:(K'.longest d').length≤100000:=oo;have HF:Hid (∀w,Sl w A' K'.ps.length cap' 2 (psV K'.ps)→Calls Tryz.prog 293 #[knV K' A' cap',.string ⟨(K'.longest d').toArray⟩] w fun e w'=>e= .returned (.int .i64 (K'.find (K'.longest d')))∧Below w.heap.size w w'):=fun w hs=>ZY K' A' cap' _ w hk' hs hxl;have HA:Hid (∀w,Sl w A' K'.ps.length cap' 2 (psV K'.ps)→Calls Tryz.prog 292 #[knV K' A' cap',.int .i64 (K'.find (K'.longest d'))] w (qJ (K'.after (K'.find (K'.longest d'))) w)):=fun w hs=>kH K' A' cap' _ w hk' hs hfol;have HN:Hid (G=(wu m (K'.after (K'.find (K'.longest d'))) (d'.drop (K'.longest d').length)).rest):=(by show _=_;rw[HG.out,Yv m K' d' hne]);have HL1:Hid ((K'.after (K'.find (K'.longest d'))).l=K.l):=HL'.out;have hdd:decide (d'=[])=false:=(by simpa using hne);have hrl:(d'.drop (K'.longest d').length).length=d'.length - (K'.longest d').length:=(by simp);have hrf:(d'.drop (K'.longest d').length).all (vI K.l)=true:=rJ _ _ _ hf';clear hne hfol hf2;generalize K'.after (K'.find (K'.longest d'))=K1 at*;generalize K'.find (K'.longest d')=c at*;generalize K'.longest d'=x at*;have HRL:=Go.Lib.hid hrl;clear hrl;have hlp':(x.length:Int)≤d'.length:=oo;go_wp2_with fail;refine(HL.out _ (Sl.own p4)).mono ?_;rintro e w5 ⟨rfl,hb5⟩;have hz5:=hb5.size;have p5:=zf p4 hb5;have hK5:=hK4.below hb5 oo;have hR5:=hR4.below hb5 oo;have g5:=g4.trans (hb5.mono oo);clear hX hb5 p4 hK4 g4 hR4;have hX0:=hK5.cell;have HM:Hid (∀w',Below w5.heap.size w5 w'→(w'.cell? ⟨w.heap.size,0,none⟩=some (.int .i64 K'.o)∧w'.cell? ⟨w.heap.size,1,none⟩=some (.int .i64 K'.l)∧w'.cell? ⟨w.heap.size,2,none⟩=some (.int .i64 K'.m)∧w'.cell? ⟨w.heap.size,3,none⟩=some (.slice A' K'.ps.length cap')∧w'.cell? ⟨w.heap.size,4,none⟩=some (.int .i64 K'.base)∧w'.cell? ⟨w.heap.size,5,none⟩=some (.int .i64 K'.last))):=fun w' h=>⟨(h.cell (p:=⟨_,_,_⟩) oB).trans (hX0 0),(h.cell (p:=⟨_,_,_⟩) oB).trans (hX0 1),(h.cell (p:=⟨_,_,_⟩) oB).trans (hX0 2),(h.cell (p:=⟨_,_,_⟩) oB).trans (hX0 3),(h.cell (p:=⟨_,_,_⟩) oB).trans (hX0 4),(h.cell (p:=⟨_,_,_⟩) oB).trans (hX0 5)⟩;have hs5:=Sl.own p5;clear hX0;go_wp2_with fail;refine vw 5 (fun w'=>w'.cell? ⟨w.heap.size,0,none⟩=some (.int .i64 K'.o)∧w'.cell? ⟨w.heap.size,1,none⟩=some (.int .i64 K'.l)∧w'.cell? ⟨w.heap.size,2,none⟩=some (.int .i64 K'.m)∧w'.cell? ⟨w.heap.size,3,none⟩=some (.slice A' K'.ps.length cap')∧w'.cell? ⟨w.heap.size,4,none⟩=some (.int .i64 K'.base)∧w'.cell? ⟨w.heap.size,5,none⟩=some (.int .i64 K'.last)) kr kr (by first|(exact HM.out _ wL)|go_keep) (fun hSS=> ?_);simp only[List.take_succ_cons,List.take_zero];refine tk 0 ?_;try simp only[Act.put,u2,u3,u4]
   refine tk 1 ?_;try simp only[Act.put,u2,u3,u4]
   refine tk 2 ?_;try simp only[Act.put,u2,u3,u4]
   refine rd1 3 fun KK hKK=> ?_;go_simp
   (go_at_call 293;refine(HF.out _ (hs5.below yL)).mono ?_;rintro e w6 ⟨rfl,hb6⟩;have hb6:Below w5.heap.size w5 w6:=zG hb6;have hz6:=hb6.size;have g6:=g5.trans (hb6.mono oo))
   refine hKK.out _ _ (by first|(exact HM.out _ wL)|go_keep) fun hSS=> ?_;try simp only[Act.put,u2,u3,u4]
   refine rd1 4 fun KK hKK=> ?_;go_simp
   (go_at_call 292;refine(HA.out _ (hs5.below yL)).mono ?_;rintro e w7 ⟨A7,cap7,rfl,hown7,hb7⟩;have hz7:=hb7.size;have p7:=zC (B':=w.heap.size+2) hown7 oo;have hK7:=(hK5.below hb6 oo).below hb7 oo;have hR7:=(hR5.below hb6 oo).below hb7 oo;have g7:=g6.trans (hb7.mono oo);have hX7:=hK7.cell;have hF7:=hK7.free)
   refine hKK.out _ _ (by first|(exact HM.out _ wL)|go_keep) fun hSS=> ?_;try simp only[Act.put,u2,u3,u4]
   refine wpAnyH_done kr ?_ _;refine yD ?_;refine wpOp_step (o:=_) rfl (fun KK hKK=> ?_);go_simp;refine hKK _ _ (NoPanic.normal ?_);try simp only[Act.put,u2,u3,u4]
   all_goals
    clear hKK;have hK8:=sW hK7 K1 A7 cap7;have hR8:=mJ hR7 oo K1 A7 cap7 (b:=w.heap.size);have g8:=yj g7 (Nat.le_refl _) K1 A7 cap7;have p8:=yz p7 (b:=w.heap.size) oo K1 A7 cap7;have hz8:=qg w7 w.heap.size K1 A7 cap7;clear hX7 hF7 hK7 hR7 p7 g7 hown7;generalize((((((w7.setCell ⟨w.heap.size,0,none⟩ (.int .i64 K1.o)).setCell ⟨w.heap.size,1,none⟩ (.int .i64 K1.l)).setCell ⟨w.heap.size,2,none⟩ (.int .i64 K1.m)).setCell ⟨w.heap.size,3,none⟩ (.slice A7 K1.ps.length cap7)).setCell ⟨w.heap.size,4,none⟩ (.int .i64 K1.base)).setCell ⟨w.heap.size,5,none⟩ (.int .i64 K1.last))=w8 at*;go_wp2;generalize d'.drop x.length=r at*;go_roundw
    case rel=>exact⟨K1,A7,cap7,m,r,rfl,hao,HL1,hrf,by have:=HRL.out;omega,by have:=HRL.out;omega,HN,p8,hK8,hR8,g8⟩
    case measure=>have:=HRL.out;simp [V4];omega
end Go.Proofs.YtfppmajoidkooaaGreatDoor
