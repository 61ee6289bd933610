import Derived.Test.YtfppmajoidkooaaGreatDoorUGS3
import Derived.Test.YtfppmajoidkooaaGreatDoorUGS2
import Derived.Test.YtfppmajoidkooaaGreatDoorUGP1
set_option linter.unusedVariables false
set_option linter.unusedSimpArgs false
set_option maxHeartbeats 8000000
namespace Go.Proofs.YtfppmajoidkooaaGreatDoor
open Go.RowKit
set_option maxRecDepth 100000
attribute [local go_sem high] zy zA zB zO zK zY zx zk zl zq zi zo yP zD yt zF
theorem Ol (o l m:Int)(w:World)(hst:vW o l m):
 Calls Tryz.prog 252 #[.agg #[.int .i64 o,.int .i64 l,.int .i64 m]] w fun e w'=>e= .returned (.tuple #[knV (vX o l m) none 0,.bool true])∧Below w.heap.size w w':=by
 have hd:decide (vW o l m)=true:=decide_eq_true hst;go_enter Tryz.func252,Tryz.ntmps252;go_wp2_with fail;refine(tu _ _ _ _).mono ?_;rintro e w2 ⟨rfl,hb2⟩;have hI:Bk ((w.alloc (.cells #[.int .i64 o,.int .i64 l,.int .i64 m] 39)).alloc (.cells knZ 130)) w.heap.size 39 #[.int .i64 o,.int .i64 l,.int .i64 m]:=tBk;have hK:Bk ((w.alloc (.cells #[.int .i64 o,.int .i64 l,.int .i64 m] 39)).alloc (.cells knZ 130)) (w.heap.size+1) 130 knZ:=tBk;have g0:Below w.heap.size w ((w.alloc (.cells #[.int .i64 o,.int .i64 l,.int .i64 m] 39)).alloc (.cells knZ 130)):=zu;generalize(w.alloc (.cells #[.int .i64 o,.int .i64 l,.int .i64 m] 39)).alloc (.cells knZ 130)=w0 at*;have hz:=hK.lt;have hI2:=hI.below hb2 oo;have hK2:=hK.below hb2 oo;have g2:=g0.trans (hb2.mono oo);have hX:=hI2.cell;have hF:=hK2.free;have hY:=hK2.cell;clear hI hK g0 hb2;go_wp2;have hQ:=(wK hK2 (vX o l m) none 0).cell;have g3:=yj g2 (b:=w.heap.size+1) oo (vX o l m) none 0;simp only[vX,List.length_nil] at hQ g3;exact bodyPost_ret (v:=.tuple #[knV (vX o l m) none 0,.bool true]) (by simp [results,Tryz.results252,go_sem,hQ,vX]) rfl ⟨rfl,g3⟩
def lg (K:Kn)(w:World)(e:Ending)(w':World):Prop:=∃A cap,e= .returned (.tuple #[knV K A cap,.bool true])∧w'.ownsRow w.heap.size 207 2 (.slice A K.ps.length cap) K.ps.length (psV K.ps)∧Below w.heap.size w w'
theorem Zi (K:Kn)(A:Option Addr)(cap:Nat)(d:Bs)(w:World)(hk:K.ok)(hs:Sl w A K.ps.length cap 2 (psV K.ps))(hf:fits K.o K.l K.m d):
 Calls Tryz.prog 253 #[knV K A cap,.string ⟨d.toArray⟩] w (lg (K.learn d) w):=by
 have hd:decide (fits K.o K.l K.m d)=true:=decide_eq_true hf;have hdl:d.length≤2000:=hf.2.1;have cV:Hid (∀wr,Below w.heap.size w wr→Calls Tryz.prog 262 #[knV K A cap] wr fun e w'=>e= .returned (.bool true)∧Below wr.heap.size wr w'):=fun wr h=>qL K A cap wr hk (hs.below h);have cL:Hid (∀wr,Below w.heap.size w wr→Calls Tryz.prog 270 #[knV K A cap,.string ⟨d.toArray⟩] wr (qJ (K.learn d) wr)):=fun wr h=>UQ K A cap d wr hk (hs.below h) oo hf.2.2;clear hs hf;generalize K.learn d=K1 at*;go_enter Tryz.func253,Tryz.ntmps253;go_wp2_with fail;have hK:Bk ((w.alloc (.cells (knC K A cap) 130)).alloc (.cells knZ 130)) w.heap.size 130 (knC K A cap):=tBk;have hI:Bk ((w.alloc (.cells (knC K A cap) 130)).alloc (.cells knZ 130)) (w.heap.size+1) 130 knZ:=tBk;have g0:Below w.heap.size w ((w.alloc (.cells (knC K A cap) 130)).alloc (.cells knZ 130)):=zu;generalize(w.alloc (.cells (knC K A cap) 130)).alloc (.cells knZ 130)=w0 at*;refine(cV.out _ g0).mono ?_;rintro e w2 ⟨rfl,hb2⟩;have z0:=hI.lt;have z2:=hb2.size;have hK2:=hK.below hb2 oo;have hI2:=hI.below hb2 oo;have g2:=g0.trans (hb2.mono oo);have hX:=hK2.cell;clear hK hI g0 hb2;go_wp2_with fail;refine(rC _ _ _ _ _ oo).mono ?_;rintro e w3 ⟨rfl,hb3⟩;have z3:=hb3.size;have hK3:=hK2.below hb3 oo;have hI3:=hI2.below hb3 oo;have g3:=g2.trans (hb3.mono oo);clear hX;have hX:=hK3.cell;clear hK2 hI2 g2 hb3;go_wp2_with fail;refine(cL.out _ g3).mono ?_;rintro e w4 ⟨A4,c4,rfl,o4,hb4⟩;have z4:=hb4.size;have hI4:=hI3.below hb4 oo;have g4:=g3.trans (hb4.mono oo);have hF:=hI4.free;have hY:=hI4.cell;clear hK3 hI3 g3 hb4 hX;go_wp2;have hQ:=(wK hI4 K1 A4 c4).cell;have g5:=yj g4 (b:=w.heap.size+1) oo K1 A4 c4;have o5:=zC (B':=w.heap.size) (yz o4 (b:=w.heap.size+1) oo K1 A4 c4) oo;exact bodyPost_ret (v:=.tuple #[knV K1 A4 c4,.bool true]) (by simp [results,Tryz.results253,go_sem,hQ]) rfl ⟨A4,c4,rfl,o5,g5⟩
theorem jB (o l m:Int)(d:Bs)(w:World)(hf:fits o l m d):
 Calls Tryz.prog 233 #[.agg #[.int .i64 o,.int .i64 l,.int .i64 m],.string ⟨d.toArray⟩] w (lg (zt o l m d) w):=by
 have cS:Hid (∀w,Calls Tryz.prog 252 #[.agg #[.int .i64 o,.int .i64 l,.int .i64 m]] w fun e w'=>e= .returned (.tuple #[.agg #[.int .i64 o,.int .i64 l,.int .i64 m,.slice none 0 0,.int .i64 0,.int .i64 (-1)],.bool true])∧Below w.heap.size w w'):=fun w=>Ol o l m w hf.1;have cL:Hid (∀w,Calls Tryz.prog 253 #[.agg #[.int .i64 o,.int .i64 l,.int .i64 m,.slice none 0 0,.int .i64 0,.int .i64 (-1)],.string ⟨d.toArray⟩] w (lg (zt o l m d) w)):=fun w=>Zi (vX o l m) none 0 d w (kN hf.1) (Sl.nil _ _) hf;clear hf;generalize zt o l m d=K1 at*;go_enter Tryz.func233,Tryz.ntmps233;go_wp2_with fail;have hJ:Bk ((w.alloc (.cells #[.int .i64 o,.int .i64 l,.int .i64 m] 39)).alloc (.cells knZ 130)) w.heap.size 39 #[.int .i64 o,.int .i64 l,.int .i64 m]:=tBk;have hI:Bk ((w.alloc (.cells #[.int .i64 o,.int .i64 l,.int .i64 m] 39)).alloc (.cells knZ 130)) (w.heap.size+1) 130 knZ:=tBk;have g0:Below w.heap.size w ((w.alloc (.cells #[.int .i64 o,.int .i64 l,.int .i64 m] 39)).alloc (.cells knZ 130)):=zu;generalize(w.alloc (.cells #[.int .i64 o,.int .i64 l,.int .i64 m] 39)).alloc (.cells knZ 130)=w0 at*;refine(cS.out _).mono ?_;rintro e w2 ⟨rfl,hb2⟩;have z0:=hI.lt;have z2:=hb2.size;have hI2:=(hI.below hb2 oo).alloc (.cells #[.int .i64 o,.int .i64 l,.int .i64 m,.slice none 0 0,.int .i64 0,.int .i64 (-1)] 130);have hK2:=Bk.new w2 #[.int .i64 o,.int .i64 l,.int .i64 m,.slice none 0 0,.int .i64 0,.int .i64 (-1)] 130;have g2:=(g0.trans (hb2.mono oo)).alloc oo (.cells #[.int .i64 o,.int .i64 l,.int .i64 m,.slice none 0 0,.int .i64 0,.int .i64 (-1)] 130);have hX:=hK2.cell;have hF:=hK2.free;clear hJ hI g0 hb2;go_wp2_with fail;refine(cL.out _).mono ?_;rintro e w4 ⟨A4,c4,rfl,o4,hb4⟩;have z4:=hb4.size;simp only[World.size_alloc] at z4;have hI4:=hI2.below hb4 (by simp;omega);have g4:=g2.trans (hb4.mono (by simp;omega));clear hX hF;have hF:=hI4.free;have hY:=hI4.cell;clear hK2 hI2 g2 hb4;go_wp2;have hQ:=(wK hI4 K1 A4 c4).cell;have g5:=yj g4 (b:=w.heap.size+1) oo K1 A4 c4;have o5:=zC (B':=w.heap.size) (yz o4 (b:=w.heap.size+1) (by simp;omega) K1 A4 c4) (by simp;omega);exact bodyPost_ret (v:=.tuple #[knV K1 A4 c4,.bool true]) (by simp [results,Tryz.results233,go_sem,hQ]) rfl ⟨A4,c4,rfl,o5,g5⟩
def zZ (o:Option Bs):Ending:=.returned (.tuple #[sv (o.getD []),.bool o.isSome])
def vG (K:Kn)(d:Bs):Option Bs:=if fits K.o K.l K.m d then some (K.comp d) else none
def V6 (o l m:Int)(dict d:Bs):Option Bs:=vG (zt o l m dict) d
theorem xC {o l m:Int}{dict:Bs}(hf:fits o l m dict):(zt o l m dict).ok:=(Kn.Np (kN hf.1) hf.2.2).1
theorem WI (K:Kn)(A:Option Addr)(cap:Nat)(d:Bs)(w:World)(hk:K.ok)(hs:Sl w A K.ps.length cap 2 (psV K.ps))(hl:d.length≤9223372036854775807):
 Calls Tryz.prog 242 #[knV K A cap,.string ⟨d.toArray⟩] w fun e w'=>e=zZ (vG K d)∧Below w.heap.size w w':=by
 have cV:Hid (∀wr,Below w.heap.size w wr→Calls Tryz.prog 262 #[knV K A cap] wr fun e w'=>e= .returned (.bool true)∧Below wr.heap.size wr w'):=fun wr h=>qL K A cap wr hk (hs.below h);by_cases hf:fits K.o K.l K.m d
 ·have hd:decide (fits K.o K.l K.m d)=true:=decide_eq_true hf
  have cL:Hid (∀wr,Below w.heap.size w wr→Calls Tryz.prog 263 #[knV K A cap,.string ⟨d.toArray⟩] wr fun e w'=>e= .returned (.string ⟨(K.comp d).toArray⟩)∧Below wr.heap.size wr w'):=fun wr h=>ZJ K A cap d wr hk (hs.below h) hf.2.1 hf.2.2;have hG:Hid (zZ (vG K d)= .returned (.tuple #[sv (K.comp d),.bool true])):=(by show _=_;unfold vG;rw[if_pos hf];rfl);clear hs hf;generalize K.comp d=R at*;generalize zZ (vG K d)=G at*;go_enter Tryz.func242,Tryz.ntmps242;go_wp2_with fail;have hK:=Bk.new w (knC K A cap) 130;have g0:Below w.heap.size w (w.alloc (.cells (knC K A cap) 130)):=zu;refine(cV.out _ g0).mono ?_;rintro e w2 ⟨rfl,hb2⟩;have z0:=hK.lt;have z2:=hb2.size;have hK2:=hK.below hb2 oo;have g2:=g0.trans (hb2.mono oo);have hX:=hK2.cell;clear hK g0 hb2;go_wp2_with fail;refine(rC _ _ _ _ _ oo).mono ?_;rintro e w3 ⟨rfl,hb3⟩;have z3:=hb3.size;have hK3:=hK2.below hb3 oo;have g3:=g2.trans (hb3.mono oo);clear hX;have hX:=hK3.cell;clear hK2 g2 hb3;go_wp2_with fail;refine(cL.out _ g3).mono ?_;rintro e w4 ⟨rfl,hb4⟩;have g4:=g3.trans (hb4.mono oo);go_wp2;go_ret2;exact⟨hG.out.symm,g4⟩
 ·have hd:decide (fits K.o K.l K.m d)=false:=decide_eq_false hf
  have hG:Hid (zZ (vG K d)= .returned (.tuple #[sv [],.bool false])):=(by show _=_;unfold vG;rw[if_neg hf];rfl);clear hs hf;generalize zZ (vG K d)=G at*;go_enter Tryz.func242,Tryz.ntmps242;go_wp2_with fail;have hK:=Bk.new w (knC K A cap) 130;have g0:Below w.heap.size w (w.alloc (.cells (knC K A cap) 130)):=zu;refine(cV.out _ g0).mono ?_;rintro e w2 ⟨rfl,hb2⟩;have z0:=hK.lt;have z2:=hb2.size;have hK2:=hK.below hb2 oo;have g2:=g0.trans (hb2.mono oo);have hX:=hK2.cell;clear hK g0 hb2;go_wp2_with fail;refine(rC _ _ _ _ _ oo).mono ?_;rintro e w3 ⟨rfl,hb3⟩;have g3:=g2.trans (hb3.mono oo);go_wp2;go_ret2;exact⟨hG.out.symm,g3⟩
theorem dX (o l m:Int)(dict d:Bs)(w:World)(hf:fits o l m dict)(hl:d.length≤9223372036854775807):
 Calls Tryz.prog 212 #[.agg #[.int .i64 o,.int .i64 l,.int .i64 m],.string ⟨dict.toArray⟩,.string ⟨d.toArray⟩] w fun e w'=>e=zZ (V6 o l m dict d)∧Below w.heap.size w w':=by
 have cS:Hid (∀w,Calls Tryz.prog 233 #[.agg #[.int .i64 o,.int .i64 l,.int .i64 m],.string ⟨dict.toArray⟩] w (lg (zt o l m dict) w)):=fun w=>jB o l m dict w hf;have hk:=xC hf;unfold V6;generalize zt o l m dict=K at*;obtain⟨R,hR⟩:∃R,(vG K d).getD []=R:=⟨_,rfl⟩;obtain⟨b,hbb⟩:∃b,(vG K d).isSome=b:=⟨_,rfl⟩;have hG:zZ (vG K d)= .returned (.tuple #[sv R,.bool b]):=(by unfold zZ;rw[hR,hbb]);have cC0:Hid (∀A cap w,Sl w A K.ps.length cap 2 (psV K.ps)→Calls Tryz.prog 242 #[knV K A cap,.string ⟨d.toArray⟩] w fun e w'=>e= .returned (.tuple #[sv R,.bool b])∧Below w.heap.size w w'):=fun A cap w hs=>(by rw[←hG];exact WI K A cap d w hk hs hl);rw[hG];clear hG hR hbb;go_enter Tryz.func212,Tryz.ntmps212;go_wp2_with fail;refine(cS.out _).mono ?_;rintro e w2 ⟨A,cap,rfl,o2,hb2⟩;have z2:=hb2.size;simp only[World.size_alloc] at z2;have hK2:=Bk.new w2 (knC K A cap) 130;have s2:=Sl.own (o2.alloc (.cells (knC K A cap) 130));have g0:Below w.heap.size w (w.alloc (.cells #[.int .i64 o,.int .i64 l,.int .i64 m] 39)):=zu;have g2:=(g0.trans (hb2.mono (by simp))).alloc (by omega) (.cells (knC K A cap) 130);have hX:=hK2.cell;have hF:=hK2.free;have cC:=cC0.out A cap _ s2;clear g0 hb2 o2 s2 cC0;go_wp2_with fail;refine cC.mono ?_;rintro e w3 ⟨rfl,hb3⟩;have g3:=g2.trans (hb3.mono (by simp;omega));go_wp2;go_ret2;exact⟨rfl,g3⟩
def lF (o l m:Int)(dict:Bs)(n:Int)(d:Bs):Blk:=match V6 o l m dict d with
 |some s=>if s.length<d.length then⟨n,false,d.length,s⟩ else⟨n,true,d.length,d⟩
 |none=>⟨n,true,d.length,d⟩
theorem LK (o l m:Int)(dict:Bs)(n:Int)(d:Bs)(h0:0≤n)(h1:n≤65535)(hd:d.length≤65535):(lF o l m dict n d).sm:=by
 unfold lF Blk.sm;split
 ·split<;>simp only<;>omega
 ·simp only;omega
theorem VY (o l m:Int)(dict:Bs)(n:Int)(d:Bs):(lF o l m dict n d).text.length≤10+d.length:=by
 rw[Blk.lJ];unfold lF;split
 ·split<;>simp only<;>omega
 ·simp only;omega
theorem pI (o l m:Int)(dict:Bs)(n:Int)(d:Bs)(w:World)(hf:fits o l m dict)(hl:d.length≤9223372036854775807):
 Calls Tryz.prog 175 #[.agg #[.int .i64 o,.int .i64 l,.int .i64 m],.string ⟨dict.toArray⟩,.int .i64 n,.string ⟨d.toArray⟩] w fun e w'=>e= .returned (bkV (lF o l m dict n d))∧Below w.heap.size w w':=by
 have cC:Hid (∀w,Calls Tryz.prog 212 #[.agg #[.int .i64 o,.int .i64 l,.int .i64 m],.string ⟨dict.toArray⟩,.string ⟨d.toArray⟩] w fun e w'=>e=zZ (V6 o l m dict d)∧Below w.heap.size w w'):=fun w=>dX o l m dict d w hf hl;unfold lF;clear hf;generalize V6 o l m dict d=O at*;go_enter Tryz.func175,Tryz.ntmps175;go_wp2_with fail;have hI:Bk ((w.alloc (.cells #[.int .i64 o,.int .i64 l,.int .i64 m] 39)).alloc (.cells xB 160)) (w.heap.size+1) 160 xB:=tBk;have g0:Below w.heap.size w ((w.alloc (.cells #[.int .i64 o,.int .i64 l,.int .i64 m] 39)).alloc (.cells xB 160)):=zu;refine(cC.out _).mono ?_;generalize(w.alloc (.cells #[.int .i64 o,.int .i64 l,.int .i64 m] 39)).alloc (.cells xB 160)=w0 at*;rintro e w2 ⟨rfl,hb2⟩;have z0:=hI.lt;have hI2:=hI.below hb2 oo;have g2:=g0.trans (hb2.mono oo);have hX:=hI2.cell;have hF:=hI2.free;clear cC hb2 hI g0
 cases O with
 |none=>
  unfold zZ;go_wp2;have Q:=((((hI2.set 0 (.int .i64 n)).set 1 (.bool true)).set 2 (.int .i64 (d.length:Int))).set 3 (.string ⟨d.toArray⟩)).cell;exact bodyPost_ret (v:=bkV ⟨n,true,d.length,d⟩) (by simp [results,Tryz.results175,go_sem,Q]) rfl ⟨rfl,zu⟩
 |some s=>
  unfold zZ;by_cases hc:s.length<d.length
  ·have hc':(s.length:Int)<d.length:=oo
   simp only[if_pos hc];go_wp2;have Q:=((((hI2.set 0 (.int .i64 n)).set 1 (.bool false)).set 2 (.int .i64 (d.length:Int))).set 3 (.string ⟨s.toArray⟩)).cell;exact bodyPost_ret (v:=bkV ⟨n,false,d.length,s⟩) (by simp [results,Tryz.results175,go_sem,Q]) rfl ⟨rfl,zu⟩
  ·have hc':¬(s.length:Int)<d.length:=oo
   simp only[if_neg hc];go_wp2;have Q:=((((hI2.set 0 (.int .i64 n)).set 1 (.bool true)).set 2 (.int .i64 (d.length:Int))).set 3 (.string ⟨d.toArray⟩)).cell;exact bodyPost_ret (v:=bkV ⟨n,true,d.length,d⟩) (by simp [results,Tryz.results175,go_sem,Q]) rfl ⟨rfl,zu⟩
def VL :Value→Nat
 | .string b=>b.data.size
 |_=>0
def YU (o l m:Int)(dict:Bs)(size:Nat):Nat→Nat→Bs→Bs
 |0,_,_=>[]
 |n+1,f,d=>if d=[] then[] else(lF o l m dict (f:Int) (d.take size)).text++YU o l m dict size n (f+1) (d.drop size)
theorem iU (o l m:Int)(dict:Bs)(size n f:Nat):YU o l m dict size n f []=[]:=by
 cases n with
 |zero=>rfl
 |succ n=>unfold YU;rw[if_pos rfl]
theorem QC (o l m:Int)(dict:Bs)(size n f:Nat)(d:Bs)(h:d≠[]):YU o l m dict size (n+1) f d=(lF o l m dict (f:Int) (d.take size)).text++YU o l m dict size n (f+1) (d.drop size):=by
 rw[YU,if_neg h]
def mkB (o l m:Int)(dict:Bs)(size:Nat)(f:Nat)(d:Bs):Bs:=YU o l m dict size d.length f d
theorem TV (o l m:Int)(dict:Bs)(size f:Nat)(d:Bs)(w:World)(hf:fits o l m dict)(hs1:1≤size)(hs2:size≤64)(hd:d.length≤2000)(hf0:f≤1000):
 Calls Tryz.prog 168 #[.agg #[.int .i64 o,.int .i64 l,.int .i64 m],.string ⟨dict.toArray⟩,.int .i64 (f:Int),sv d,.int .i64 (size:Int)] w fun e w'=>e= .returned (sv (mkB o l m dict size f d))∧Below w.heap.size w w':=by
 have cB:Hid (∀(n:Nat) (x:Bs) w,x.length≤2000→Calls Tryz.prog 175 #[.agg #[.int .i64 o,.int .i64 l,.int .i64 m],.string ⟨dict.toArray⟩,.int .i64 (n:Int),.string ⟨x.toArray⟩] w fun e w'=>e= .returned (bkV (lF o l m dict n x))∧Below w.heap.size w w'):=fun n x w h=>pI o l m dict n x w hf oo;have cT:Hid (∀(n:Nat) (x:Bs) w,n≤4000→x.length≤2000→Calls Tryz.prog 197 #[bkV (lF o l m dict n x)] w fun e w'=>e= .returned (.string ⟨(lF o l m dict n x).text.toArray⟩)∧Below w.heap.size w w'):=fun n x w h1 h2=>jV _ w (LK o l m dict n x oo oo oo);have hG:Hid (mkB o l m dict size f d=YU o l m dict size d.length f d):=rfl;generalize mkB o l m dict size f d=G at*;clear hf;go_enter Tryz.func168,Tryz.ntmps168;go_wp2;have hI:=Bk.new w #[.int .i64 o,.int .i64 l,.int .i64 m] 39;have g0:Below w.heap.size w (w.alloc (.cells #[.int .i64 o,.int .i64 l,.int .i64 m] 39)):=zu;go_loopw [2,3,11] (fun a b c wr=>∃(D X:Bs) (q k:Nat),a= .int .i64 (q:Int)∧b=sv D∧c=sv X∧q+D.length≤3000∧D.length≤k∧X.length+11*D.length≤22000∧D.length≤2000∧Hid (G=X++YU o l m dict size k q D)∧Bk wr w.heap.size 39 #[.int .i64 o,.int .i64 l,.int .i64 m]∧Below w.heap.size w wr) (fun _ b _ _=>VL b)
 case atStart=>exact⟨d,[],f,d.length,rfl,rfl,rfl,by omega,Nat.le_refl _,by simp;omega,hd,by show _=_;rw[hG.out];rfl,hI,g0⟩
 case round=>
  obtain⟨D,X,q,k,rfl,rfl,rfl,hq,hk,hX,hD,HG,hK,g⟩:=hrel;clear hI g0 hG;have hz:=hK.lt;by_cases hne:D=[]
  ·subst hne
   have hE:Hid (G=X):=(by show _=_;rw[HG.out,iU,List.append_nil]);go_wp2;go_ret;exact⟨by rw[hE.out];rfl,g⟩
  ·have hl1:=List.length_pos_iff.2 hne
   have hte:(decide (D=[]))=false:=(by simpa using hne);have hte2:(D != [])=true:=(by simpa using hne);obtain⟨k',rfl⟩:∃k',k=k'+1:=⟨k - 1,oo⟩;have HG2:=Go.Lib.hid (HG.out.trans (by rw[QC _ _ _ _ _ _ _ _ hne]));by_cases hsz:D.length<size
   ·have etk:D.take size=D:=List.take_of_length_le oo
    have edr:D.drop size=[]:=List.drop_eq_nil_of_le oo;rw[etk,edr,iU,List.append_nil] at HG2;have cB1:=fun w=>cB.out q D w oo;have cT1:=fun w=>cT.out q D w oo oo;have hbl:=VY o l m dict (q:Int) D;have hq1:¬9223372036854775807<X.length+(lF o l m dict (q:Int) D).text.length:=oo;clear etk edr hne HG;have hY:=hK.cell;go_wp2_with fail;refine wp_region_held_drew (S:=(fun w'=>w'.cell? ⟨w.heap.size,0,none⟩=some (.int .i64 o)∧w'.cell? ⟨w.heap.size,1,none⟩=some (.int .i64 l)∧w'.cell? ⟨w.heap.size,2,none⟩=some (.int .i64 m))) kr ?_ (fun hSS=> ?_);focus((refine⟨?_,?_,?_⟩;all_goals first|(simp [hY9];done)|(simp [hY8];done)|(simp [hY];done)))
    refine tk 0 ?_;try simp only[Act.put,u2,u3,u4]
    refine tk 1 ?_;try simp only[Act.put,u2,u3,u4]
    refine tk 2 ?_;try simp only[Act.put,u2,u3,u4]
    refine tk 3 ?_;try simp only[Act.put,u2,u3,u4]
    refine tk 4 ?_;try simp only[Act.put,u2,u3,u4]
    refine tk 5 ?_;try simp only[Act.put,u2,u3,u4]
    refine tk 6 ?_;try simp only[Act.put,u2,u3,u4]
    refine rd1 7 fun KK hKK=> ?_;go_simp
    (go_at_call 175;refine(cB1 _).mono ?_;rintro e w8 ⟨rfl,hb8⟩;have hb8:Below wr.heap.size wr w8:=zG hb8;have z8:=hb8.size;have hK8:=hK.below hb8 oo;have g8:=g.trans (hb8.mono oo);have hY8:=hK8.cell)
    refine hKK.out _ _ (by(refine⟨?_,?_,?_⟩;all_goals first|(simp [hY9];done)|(simp [hY8];done)|(simp [hY];done))) fun hSS=> ?_;try simp only[Act.put,u2,u3,u4]
    refine rd1 8 fun KK hKK=> ?_;go_simp
    (go_at_call 197;refine(cT1 _).mono ?_;rintro e w9 ⟨rfl,hb9⟩;have z9:=hb9.size;have hK9:=hK8.below hb9 oo;have g9:=g8.trans (hb9.mono oo);have hY9:=hK9.cell)
    refine hKK.out _ _ (by(refine⟨?_,?_,?_⟩;all_goals first|(simp [hY9];done)|(simp [hY8];done)|(simp [hY];done))) fun hSS=> ?_;try simp only[Act.put,u2,u3,u4]
    refine tk 9 ?_;try simp only[Act.put,u2,u3,u4]
    refine tk 10 ?_;try simp only[Act.put,u2,u3,u4]
    refine wpAnyH_done kr ?_ _;simp only[List.getElem_toArray,List.getElem_cons_succ,List.getElem_cons_zero,Act.put,List.setIfInBounds_toArray,List.set_cons_zero,List.set_cons_succ];go_wp2;go_roundw
    case rel=>exact⟨[],X++(lF o l m dict (q:Int) D).text,q+1,k',by go_num,by first|rfl|(simp;done),by first|rfl|(simp [sv];done),by simp;omega,by simp,by simp;omega,by simp,by show _=_;rw[HG2.out,iU,List.append_nil],hK9,g9⟩
    case measure=>simp [VL];omega
   ·have htl:(D.take size).length=size:=by simp;omega
    have hdl:(D.drop size).length=D.length - size:=(by simp);have cB1:=fun w=>cB.out q (D.take size) w oo;have cT1:=fun w=>cT.out q (D.take size) w oo oo;have hbl:=VY o l m dict (q:Int) (D.take size);have hq1:¬9223372036854775807<X.length+(lF o l m dict (q:Int) (D.take size)).text.length:=oo;have hsz2:size≤D.length:=oo;clear hne HG;have hY:=hK.cell;go_wp2_with fail;refine wp_region_held_drew (S:=(fun w'=>w'.cell? ⟨w.heap.size,0,none⟩=some (.int .i64 o)∧w'.cell? ⟨w.heap.size,1,none⟩=some (.int .i64 l)∧w'.cell? ⟨w.heap.size,2,none⟩=some (.int .i64 m))) kr ?_ (fun hSS=> ?_);focus((refine⟨?_,?_,?_⟩;all_goals first|(simp [hY9];done)|(simp [hY8];done)|(simp [hY];done)))
    refine tk 0 ?_;try simp only[Act.put,u2,u3,u4]
    refine tk 1 ?_;try simp only[Act.put,u2,u3,u4]
    refine tk 2 ?_;try simp only[Act.put,u2,u3,u4]
    refine tk 3 ?_;try simp only[Act.put,u2,u3,u4]
    refine tk 4 ?_;try simp only[Act.put,u2,u3,u4]
    refine tk 5 ?_;try simp only[Act.put,u2,u3,u4]
    refine tk 6 ?_;try simp only[Act.put,u2,u3,u4]
    refine rd1 7 fun KK hKK=> ?_;go_simp
    (go_at_call 175;refine(cB1 _).mono ?_;rintro e w8 ⟨rfl,hb8⟩;have hb8:Below wr.heap.size wr w8:=zG hb8;have z8:=hb8.size;have hK8:=hK.below hb8 oo;have g8:=g.trans (hb8.mono oo);have hY8:=hK8.cell)
    refine hKK.out _ _ (by(refine⟨?_,?_,?_⟩;all_goals first|(simp [hY9];done)|(simp [hY8];done)|(simp [hY];done))) fun hSS=> ?_;try simp only[Act.put,u2,u3,u4]
    refine rd1 8 fun KK hKK=> ?_;go_simp
    (go_at_call 197;refine(cT1 _).mono ?_;rintro e w9 ⟨rfl,hb9⟩;have z9:=hb9.size;have hK9:=hK8.below hb9 oo;have g9:=g8.trans (hb9.mono oo);have hY9:=hK9.cell)
    refine hKK.out _ _ (by(refine⟨?_,?_,?_⟩;all_goals first|(simp [hY9];done)|(simp [hY8];done)|(simp [hY];done))) fun hSS=> ?_;try simp only[Act.put,u2,u3,u4]
    refine tk 9 ?_;try simp only[Act.put,u2,u3,u4]
    refine tk 10 ?_;try simp only[Act.put,u2,u3,u4]
    refine wpAnyH_done kr ?_ _;simp only[List.getElem_toArray,List.getElem_cons_succ,List.getElem_cons_zero,Act.put,List.setIfInBounds_toArray,List.set_cons_zero,List.set_cons_succ];go_wp2;go_roundw
    case rel=>exact⟨D.drop size,X++(lF o l m dict (q:Int) (D.take size)).text,q+1,k',by go_num,by first|rfl|(simp;done),by first|rfl|(simp [sv];done),by simp;omega,by simp;omega,by simp;omega,by simp;omega,by show _=_;rw[HG2.out,List.append_assoc],hK9,g9⟩
    case measure=>simp [VL];omega
def mkC (o l m:Int)(dict d:Bs)(size:Int):Option Bs:=if fits o l m dict∧1≤size∧size≤64∧(d.length:Int)≤size*40∧d.length≤2000 then some (mkB o l m dict size.toNat 0 d) else none
theorem gZ (o l m:Int)(dict d:Bs)(size:Int)(w:World)(hl:dict.length≤9223372036854775807)(hd:d.length≤9223372036854775807)(hs0: -1000000≤size)(hs1:size≤1000000):
 Calls Tryz.prog 141 #[.agg #[.int .i64 o,.int .i64 l,.int .i64 m],.string ⟨dict.toArray⟩,sv d,.int .i64 size] w fun e w'=>e=zZ (mkC o l m dict d size)∧Below w.heap.size w w':=by
 have cR:Hid (∀w,Calls Tryz.prog 95 #[.agg #[.int .i64 o,.int .i64 l,.int .i64 m],.string ⟨dict.toArray⟩] w fun e w'=>e= .returned (.bool (decide (fits o l m dict)))∧Below w.heap.size w w'):=fun w=>rW o l m dict w hl;have g0:Below w.heap.size w (w.alloc (.cells #[.int .i64 o,.int .i64 l,.int .i64 m] 39)):=zu;have hNO:Hid (¬(fits o l m dict∧1≤size∧size≤64∧(d.length:Int)≤size*40∧d.length≤2000)→zZ (mkC o l m dict d size)= .returned (.tuple #[sv [],.bool false])):=fun h=>(by unfold mkC;rw[if_neg h];rfl);have hYES:Hid ((fits o l m dict∧1≤size∧size≤64∧(d.length:Int)≤size*40∧d.length≤2000)→zZ (mkC o l m dict d size)= .returned (.tuple #[sv (mkB o l m dict size.toNat 0 d),.bool true])):=fun h=>(by unfold mkC;rw[if_pos h];rfl);generalize zZ (mkC o l m dict d size)=G at*;by_cases h1:fits o l m dict
 case neg=>
  have hN:=Go.Lib.hid (hNO.out (fun h=>h1 h.1));have hdf:decide (fits o l m dict)=false:=decide_eq_false h1;clear h1 hNO hYES;go_enter Tryz.func141,Tryz.ntmps141;go_wp2_with fail;refine(cR.out _).mono ?_;rintro e w2 ⟨rfl,hb2⟩;have g2:=g0.trans (hb2.mono (by simp));go_wp2;go_ret2;exact⟨hN.out.symm,g2⟩
 have hdf:decide (fits o l m dict)=true:=decide_eq_true h1;by_cases h2:1≤size∧size≤64
 case neg=>
  have hN:=Go.Lib.hid (hNO.out (fun h=>h2 ⟨h.2.1,h.2.2.1⟩));have hdi:decide (1≤size∧size≤64)=false:=decide_eq_false h2;clear h1 hNO hYES;go_enter Tryz.func141,Tryz.ntmps141;go_wp2_with fail;refine(cR.out _).mono ?_;rintro e w2 ⟨rfl,hb2⟩;have g2:=g0.trans (hb2.mono (by simp));go_wp2_with(go_at_call 133;refine(uk _ _ _ _).mono ?_;rintro e w' ⟨rfl,rfl⟩);go_ret2;exact⟨hN.out.symm,g2⟩
 have hdi:decide (1≤size∧size≤64)=true:=decide_eq_true h2;obtain⟨h2a,h2b⟩:=h2;obtain⟨n,rfl⟩:=Int.eq_ofNat_of_zero_le (by omega:0≤size);by_cases h3:(d.length:Int)≤(n:Int)*40
 case neg=>
  have hN:=Go.Lib.hid (hNO.out (fun h=>h3 h.2.2.2.1));have h3':(n:Int)*40<d.length:=oo;clear h1 hNO hYES;go_enter Tryz.func141,Tryz.ntmps141;go_wp2_with fail;refine(cR.out _).mono ?_;rintro e w2 ⟨rfl,hb2⟩;have g2:=g0.trans (hb2.mono (by simp));go_wp2_with(go_at_call 133;refine(uk _ _ _ _).mono ?_;rintro e w' ⟨rfl,rfl⟩);go_ret2;exact⟨hN.out.symm,g2⟩
 have h3':¬(n:Int)*40<d.length:=oo;by_cases h4:d.length≤2000
 case neg=>
  have hN:=Go.Lib.hid (hNO.out (fun h=>h4 h.2.2.2.2));have h4':(2000:Int)<d.length:=oo;clear h1 hNO hYES;go_enter Tryz.func141,Tryz.ntmps141;go_wp2_with fail;refine(cR.out _).mono ?_;rintro e w2 ⟨rfl,hb2⟩;have g2:=g0.trans (hb2.mono (by simp));go_wp2_with(go_at_call 133;refine(uk _ _ _ _).mono ?_;rintro e w' ⟨rfl,rfl⟩);go_ret2;exact⟨hN.out.symm,g2⟩
 have h4':¬(2000:Int)<d.length:=oo;have hY:=Go.Lib.hid (hYES.out ⟨h1,h2a,h2b,h3,h4⟩);have cM:Hid (∀w,Calls Tryz.prog 168 #[.agg #[.int .i64 o,.int .i64 l,.int .i64 m],.string ⟨dict.toArray⟩,.int .i64 0,sv d,.int .i64 (n:Int)] w fun e w'=>e= .returned (sv (mkB o l m dict n 0 d))∧Below w.heap.size w w'):=fun w=>TV o l m dict n 0 d w h1 oo oo h4 oo;rw[Int.toNat_natCast] at hY;clear h1 hNO hYES;generalize mkB o l m dict n 0 d=R at*;go_enter Tryz.func141,Tryz.ntmps141;go_wp2_with fail;have hI:=Bk.new w #[.int .i64 o,.int .i64 l,.int .i64 m] 39;refine(cR.out _).mono ?_;rintro e w2 ⟨rfl,hb2⟩;have g2:=g0.trans (hb2.mono (by simp));have hX:=(hI.below hb2 (by simp)).cell;go_wp2_with(first|(go_at_call 133;refine(uk _ _ _ _).mono ?_;rintro e w' ⟨rfl,rfl⟩)|(go_at_call 168;refine(cM.out _).mono ?_;rintro e w4 ⟨rfl,hb4⟩;have z4:=hb4.size));go_ret2;exact⟨hY.out.symm,g2.trans (hb4.mono (by have:=hb2.size;simp at this;omega))⟩
end Go.Proofs.YtfppmajoidkooaaGreatDoor
