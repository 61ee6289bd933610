import Derived.Test.YtfppmajoidkooaaGreatDoorUS24
import Derived.Test.YtfppmajoidkooaaGreatDoorUQ14
import Derived.Test.YtfppmajoidkooaaGreatDoorUJ29
import Derived.Test.YtfppmajoidkooaaGreatDoorUGU4
import Derived.Test.YtfppmajoidkooaaGreatDoorUGA
import Derived.Deep.Cut
set_option linter.unusedVariables false
set_option linter.unusedSimpArgs false
set_option maxHeartbeats 8000000
namespace Go.Proofs.YtfppmajoidkooaaGreatDoor
open Go.RowKit
set_option maxRecDepth 100000
attribute [local go_sem high] zy zA zB zO zK zY zx zk zl zq zi zo yP zD yt zF
attribute [local go_sem high] rO rM
abbrev xy :Array Value:=#[.int .i64 0,.int .i64 0,.int .i64 0,.string ⟨#[]⟩,.slice none 0 0]
abbrev stW (w:World)(b:Nat)(S:Sto)(A:Option Addr)(cap:Nat):World:=((((w.setCell ⟨b,0,none⟩ (.int .i64 S.o)).setCell ⟨b,1,none⟩ (.int .i64 S.l)).setCell ⟨b,2,none⟩ (.int .i64 S.m)).setCell ⟨b,3,none⟩ (.string ⟨S.dict.toArray⟩)).setCell ⟨b,4,none⟩ (.slice A S.fs.length cap)
theorem uo {w:World}{b:Nat}{t:TypeId}{x0 x1 x2 x3 x4:Value}(h:Bk w b t #[x0,x1,x2,x3,x4])(S:Sto)(A:Option Addr)(cap:Nat):Bk (stW w b S A cap) b t (S.C A cap):=
 ((((h.set 0 (.int .i64 S.o)).set 1 (.int .i64 S.l)).set 2 (.int .i64 S.m)).set 3 (.string ⟨S.dict.toArray⟩)).set 4 (.slice A S.fs.length cap)
theorem oG {w:World}{b B n s:Nat}{e:TypeId}{v:Value}{xs:List Value}(h:w.ownsRow B e s v n xs)(hb:b<B)(S:Sto)(A:Option Addr)(cap:Nat):(stW w b S A cap).ownsRow B e s v n xs:=
 ownsRow_setCell_below (a:=⟨b,4,none⟩) (ownsRow_setCell_below (a:=⟨b,3,none⟩) (ownsRow_setCell_below (a:=⟨b,2,none⟩) (ownsRow_setCell_below (a:=⟨b,1,none⟩) (ownsRow_setCell_below (a:=⟨b,0,none⟩) h hb _) hb _) hb _) hb _) hb _
theorem yA {w w0:World}{b B:Nat}(h:Below B w0 w)(hb:B≤b)(S:Sto)(A:Option Addr)(cap:Nat):Below B w0 (stW w b S A cap):=
 ((((h.setCell (p:=⟨b,0,none⟩) hb _).setCell (p:=⟨b,1,none⟩) hb _).setCell (p:=⟨b,2,none⟩) hb _).setCell (p:=⟨b,3,none⟩) hb _).setCell (p:=⟨b,4,none⟩) hb _
def StR (T:Sto)(w:World)(e:Ending)(w':World):Prop:=∃A cap,e= .returned (T.V A cap)∧w'.ownsRow w.heap.size 87 2 (.slice A T.fs.length cap) T.fs.length (yf T.fs)∧Below w.heap.size w w'
theorem Q8 {fs:List Fl}(n:Bs){k:Nat}(h:k<fs.length):tq (fs.take (k+1)) n=if fs[k].1=n then tq (fs.take k) n else tq (fs.take k) n++[fs[k]]:=by
 unfold tq;rw[List.take_succ_eq_append_getElem h,List.filter_append];by_cases he:fs[k].1=n
 ·rw[if_pos he];simp [he]
 ·rw[if_neg he];simp [he]
theorem Y5 (S:Sto)(n:Bs)(A:Option Addr)(cap:Nat)(w:World)(hs:Sl w A S.fs.length cap 2 (yf S.fs))(hl:S.fs.length≤100000):
 Calls Tryz.prog 108 #[S.V A cap,sv n] w (StR { S with fs:=tq S.fs n } w):=by
 obtain⟨i,hi,hz0,hz1,hz2⟩:=info_parts ny;have hcap:=hs.1;have hcap2:=hs.2.1;have HSL:Hid (∀wr,Below w.heap.size w wr→Sl wr A S.fs.length cap 2 (yf S.fs)):=fun wr h=>hs.below h;have HD:Hid (∀k (h:k<S.fs.length),tq (S.fs.take (k+1)) n=if S.fs[k].1=n then tq (S.fs.take k) n else tq (S.fs.take k) n++[S.fs[k]]):=fun k h=>Q8 n h;have HE:Hid (∀k,¬k<S.fs.length→tq (S.fs.take k) n=tq S.fs n):=fun k h=>(by rw[List.take_of_length_le (by omega)]);clear hs;obtain⟨o,l,m,dict,fs⟩:=S;simp only at*;unfold StR;go_enter Tryz.func108,Tryz.ntmps108;have hA:Bk (((w.alloc (.cells (Sto.C ⟨o,l,m,dict,fs⟩ A cap) 42)).alloc (.cells xy 42)).alloc (.cells #[.int .i64 o,.int .i64 l,.int .i64 m,.string ⟨dict.toArray⟩,.slice none 0 0] 42)) w.heap.size 42 (Sto.C ⟨o,l,m,dict,fs⟩ A cap):=tBk;have hB:Bk (((w.alloc (.cells (Sto.C ⟨o,l,m,dict,fs⟩ A cap) 42)).alloc (.cells xy 42)).alloc (.cells #[.int .i64 o,.int .i64 l,.int .i64 m,.string ⟨dict.toArray⟩,.slice none 0 0] 42)) (w.heap.size+1) 42 xy:=tBk;have hC:Bk (((w.alloc (.cells (Sto.C ⟨o,l,m,dict,fs⟩ A cap) 42)).alloc (.cells xy 42)).alloc (.cells #[.int .i64 o,.int .i64 l,.int .i64 m,.string ⟨dict.toArray⟩,.slice none 0 0] 42)) (w.heap.size+1+1) 42 #[.int .i64 o,.int .i64 l,.int .i64 m,.string ⟨dict.toArray⟩,.slice none 0 0]:=tBk;have g0:Below w.heap.size w (((w.alloc (.cells (Sto.C ⟨o,l,m,dict,fs⟩ A cap) 42)).alloc (.cells xy 42)).alloc (.cells #[.int .i64 o,.int .i64 l,.int .i64 m,.string ⟨dict.toArray⟩,.slice none 0 0] 42)):=zu;have o0:(((w.alloc (.cells (Sto.C ⟨o,l,m,dict,fs⟩ A cap) 42)).alloc (.cells xy 42)).alloc (.cells #[.int .i64 o,.int .i64 l,.int .i64 m,.string ⟨dict.toArray⟩,.slice none 0 0] 42)).ownsRow (w.heap.size+3) 87 2 (.slice none ([]:List Fl).length 0) ([]:List Fl).length (yf []):=⟨by simp [yf],.inl ⟨rfl,rfl⟩⟩;simp only[Sto.C] at hA hB hC g0 o0;go_upto_region 2 with(fail)
 generalize((w.alloc (.cells #[.int .i64 o,.int .i64 l,.int .i64 m,.string ⟨dict.toArray⟩,.slice A fs.length cap] 42)).alloc (.cells xy 42)).alloc (.cells #[.int .i64 o,.int .i64 l,.int .i64 m,.string ⟨dict.toArray⟩,.slice none 0 0] 42)=w0 at*;go_wp2;go_loopw [6] (fun a wr=>∃(k:Nat) (P:List Fl) (Ao:Option Addr) (co:Nat),a= .int .i64 (k:Int)∧k≤fs.length∧P.length≤k∧Hid (tq (fs.take k) n=P)∧wr.ownsRow (w.heap.size+3) 87 2 (.slice Ao P.length co) P.length (yf P)∧Bk wr w.heap.size 42 #[.int .i64 o,.int .i64 l,.int .i64 m,.string ⟨dict.toArray⟩,.slice A fs.length cap]∧Bk wr (w.heap.size+1) 42 xy∧Bk wr (w.heap.size+1+1) 42 #[.int .i64 o,.int .i64 l,.int .i64 m,.string ⟨dict.toArray⟩,.slice Ao P.length co]∧Below w.heap.size w wr) (fun a _=>fs.length - (intOf a).toNat)
 case atStart=>exact⟨0,[],none,0,rfl,by omega,by simp,rfl,o0,hA,hB,hC,g0⟩
 case round=>
  obtain⟨k,P,Ao,co,rfl,hk,hP,HP,ow,hA1,hB1,hC1,g⟩:=hrel;clear hA hB hC g0 o0;have hz:=g.size;have hCl:=hC1.lt;have hXA:=hA1.cell;have hXC:=hC1.cell;by_cases hlt:k<fs.length
  ·have hki:(k:Int)<fs.length:=oo
   obtain⟨g2,off,rfl,hgw,cw0,cw1⟩:=(HSL.out w (Below.refl _ _)).fl hlt;have c0:=(g.cell (p:=⟨g2,off+k*2,none⟩) hgw).trans cw0;have c1:=(g.cell (p:=⟨g2,off+k*2+1,none⟩) hgw).trans cw1;have hg:g2<wr.heap.size:=oo;have HDk:=Go.Lib.hid (HD.out k hlt);by_cases he:fs[k].1=n
   ·have HP2:Hid (tq (fs.take (k+1)) n=P):=by show _=_;rw[HDk.out,if_pos he];exact HP.out
    have hd:decide (fs[k].1=n)=true:=(by simpa using he);have hd2:(fs[k].1 != n)=false:=(by simpa using he);clear he HDk HP;generalize fs[k].1=a at*;go_wp2;go_roundw
    case rel=>exact⟨k+1,P,Ao,co,by go_num,oo,oo,HP2,ow,hA1,hB1,hC1,g⟩
    case measure=>simp [intOf];omega
   ·have HP2:Hid (tq (fs.take (k+1)) n=P++[fs[k]]):=by show _=_;rw[HDk.out,if_neg he,HP.out]
    have hd:decide (fs[k].1=n)=false:=(by simpa using he);have hd2:(fs[k].1 != n)=true:=(by simpa using he);have hm1:P.length+1≤maxLen:=(by unfold maxLen;omega);have hm2:(P.length+1)*32≤140737488355328:=oo;clear he HDk HP;generalize hfk:fs[k]=f at*;obtain⟨fa,fb⟩:=f;simp only at hd hd2 c0 c1 cw0 cw1;clear hfk;go_upto_region 6 with(fail)
    have HW:Hid (∀w',Below wr.heap.size wr w'→(w'.cell? ⟨w.heap.size+1+1,4,none⟩=some (.slice Ao P.length co)∧w'.cell? ⟨w.heap.size,4,none⟩=some (.slice (some ⟨g2,off,none⟩) fs.length cap)∧w'.cell? ⟨g2,off+k*2,none⟩=some (.string ⟨fa.toArray⟩)∧w'.cell? ⟨g2,off+k*2+1,none⟩=some (.string ⟨fb.toArray⟩))):=fun w' h=>⟨(h.cell (p:=⟨_,_,_⟩) oB).trans (hXC 4),(h.cell (p:=⟨_,_,_⟩) oB).trans (hXA 4),(h.cell (p:=⟨_,_,_⟩) oB).trans (c0),(h.cell (p:=⟨_,_,_⟩) oB).trans (c1)⟩;clear hXA hXC;refine yY 10 (fun w'=>w'.cell? ⟨w.heap.size+1+1,4,none⟩=some (.slice Ao P.length co)∧w'.cell? ⟨w.heap.size,4,none⟩=some (.slice (some ⟨g2,off,none⟩) fs.length cap)∧w'.cell? ⟨g2,off+k*2,none⟩=some (.string ⟨fa.toArray⟩)∧w'.cell? ⟨g2,off+k*2+1,none⟩=some (.string ⟨fb.toArray⟩)) kr kr (by first|(exact HW.out _ wL)|go_keep) (fun hSS=> ?_);simp only[List.take_succ_cons,List.take_zero];refine tk 0 ?_;try simp only[Act.put,u2,u3,u4]
    refine tk 1 ?_;try simp only[Act.put,u2,u3,u4]
    refine tk 2 ?_;try simp only[Act.put,u2,u3,u4]
    refine tk 3 ?_;try simp only[Act.put,u2,u3,u4]
    refine tk 4 ?_;try simp only[Act.put,u2,u3,u4]
    refine tk 5 ?_;try simp only[Act.put,u2,u3,u4]
    refine tk 6 ?_;try simp only[Act.put,u2,u3,u4]
    refine rd1 7 fun KK hKK=> ?_;go_simp;refine hKK.out _ _ (by first|(exact HW.out _ wL)|go_keep) fun hSS=> ?_;try simp only[Act.put,u2,u3,u4]
    refine rd1 8 fun KK hKK=> ?_
    ((refine uz _ rfl _ _ 40 rfl (w.heap.size+3) 87 i _ 2 32 Tryz.underlying40 hi hz0 hz1 hz2 rfl (by omega) (.slice Ao P.length co) P.length (yf P) rfl (ow.alloc _) (some ⟨_,0,none⟩) 1 1 [.string ⟨fa.toArray⟩,.string ⟨fb.toArray⟩] rfl (Sl.new wr #[.string ⟨fa.toArray⟩,.string ⟨fb.toArray⟩] _ 1 2 (by simp) (by omega)) (by simp [Value.oneCell']) hm1 hm2 (by first|omega|(simp<;>omega)) ?_);intro A5 c5 w5 o5 hg5 _;have hg5:=tX hg5;have hr5:∀k,(Value.slice Ao P.length co).ownBlock=some k→w.heap.size+3≤k:=fun k hk=>(ow.lt k hk).1;have hA5:=Bk.grown (hA1.alloc _) hg5 (fun k hk=>by have:=hr5 k hk;omega);have hB5:=Bk.grown (hB1.alloc _) hg5 (fun k hk=>by have:=hr5 k hk;omega);have hC5:=Bk.grown (hC1.alloc _) hg5 (fun k hk=>by have:=hr5 k hk;omega);have g5:=(g.alloc (by omega) _).grown hg5 (by simp;omega) (fun k hk=>by have:=hr5 k hk;omega);have hX5:=hC5.cell;have hF5:=hC5.free;have hY5:=hA5.cell;have d0:=(g5.cell (p:=⟨g2,off+k*2,none⟩) hgw).trans cw0;have d1:=(g5.cell (p:=⟨g2,off+k*2+1,none⟩) hgw).trans cw1)
    refine hKK.out _ _ (by first|(exact HW.out _ wL)|go_keep) fun hSS=> ?_;try simp only[Act.put,u2,u3,u4]
    refine tk 9 ?_;try simp only[Act.put,u2,u3,u4]
    refine wpAnyH_done kr ?_ _;refine yD ?_;refine wpOp_step (o:=_) rfl (fun KK hKK=> ?_);go_simp;refine hKK _ _ (NoPanic.normal ?_);try simp only[Act.put,u2,u3,u4]
    have hPl:(P++[(fa,fb)]).length=P.length+1:=(by simp);have o6:=ownsRow_setCell_below (a:=⟨w.heap.size+1+1,4,none⟩) o5 (by show w.heap.size+1+1<w.heap.size+3;omega) (.slice A5 (P.length+1) c5);have hA6:=hA5.far (p:=⟨w.heap.size+1+1,4,none⟩) (by show w.heap.size≠w.heap.size+1+1;omega) (.slice A5 (P.length+1) c5);have hB6:=hB5.far (p:=⟨w.heap.size+1+1,4,none⟩) (by show w.heap.size+1≠w.heap.size+1+1;omega) (.slice A5 (P.length+1) c5);have hC6:=hC5.set 4 (.slice A5 (P.length+1) c5);have g6:=g5.setCell (p:=⟨w.heap.size+1+1,4,none⟩) (by show w.heap.size≤w.heap.size+1+1;omega) (.slice A5 (P.length+1) c5);have o7:(w5.setCell ⟨w.heap.size+1+1,4,none⟩ (.slice A5 (P.length+1) c5)).ownsRow (w.heap.size+3) 87 2 (.slice A5 (P++[(fa,fb)]).length c5) (P++[(fa,fb)]).length (yf (P++[(fa,fb)])):=(by rw[hPl,sZ];exact o6);have hC7:Bk (w5.setCell ⟨w.heap.size+1+1,4,none⟩ (.slice A5 (P.length+1) c5)) (w.heap.size+1+1) 42 #[.int .i64 o,.int .i64 l,.int .i64 m,.string ⟨dict.toArray⟩,.slice A5 (P++[(fa,fb)]).length c5]:=(by rw[hPl];exact hC6);have HPL:=Go.Lib.hid hPl;clear hA5 hB5 hC5 g5 hX5 hF5 o5 o6 hg5 hA1 hB1 hC1 ow g hr5;clear hPl hC6;go_wp2_with fail;go_roundw
    case rel=>exact⟨k+1,P++[(fa,fb)],A5,c5,by go_num,by omega,by rw[HPL.out];omega,HP2,o7,hA6,hB6,hC7,g6⟩
    case measure=>simp [intOf];omega
  ·have hki:¬(k:Int)<fs.length:=oo
   have hE:=HE.out k hlt;rw[HP.out] at hE;have HEE:=Go.Lib.hid hE;clear hE HE HP HD;have hXB:=hB1.cell;have hFB:=hB1.free;go_wp2;have Q:=(uo hB1 ⟨o,l,m,dict,P⟩ Ao co).cell;have o2:=zC (B':=w.heap.size) (oG ow (b:=w.heap.size+1) oo ⟨o,l,m,dict,P⟩ Ao co) oo;have gg:=yA g (b:=w.heap.size+1) oo ⟨o,l,m,dict,P⟩ Ao co;exact bodyPost_ret (v:=Sto.V ⟨o,l,m,dict,P⟩ Ao co) (by simp [results,Tryz.results108,go_sem,Q]) rfl ⟨Ao,co,by rw[←HEE.out],by rw[←HEE.out];exact o2,gg⟩
end Go.Proofs.YtfppmajoidkooaaGreatDoor
