import Derived.Test.YtfppmajoidkooaaGreatDoorUGS1
import Derived.Test.YtfppmajoidkooaaGreatDoorUGT
import Derived.Test.YtfppmajoidkooaaGreatDoorUGS2
import Derived.Test.YtfppmajoidkooaaGreatDoorUGA
import Derived.Deep.Cut
import Derived.Deep.DeepCutAuto
set_option linter.unusedVariables false
set_option linter.unusedSimpArgs false
set_option maxHeartbeats 8000000
namespace Go.Proofs.YtfppmajoidkooaaGreatDoor
open Go.RowKit
set_option maxRecDepth 100000
attribute [local go_sem high] zy zA zB zO zK zY zx zk zl zq zi zo yP zD yt zF
theorem vW.lm {o l m:Int}(h:vW o l m):0≤l∧l≤16∧0≤m∧m≤16:=by unfold vW at h;omega
theorem yX (o l m:Int)(w:World)(hst:vW o l m):
 Calls Tryz.prog 202 #[.agg #[.int .i64 o,.int .i64 l,.int .i64 m]] w fun e w'=>e= .returned (.int .i64 (pow2 l))∧Below w.heap.size w w':=by
 obtain⟨h0,h1,h2,h3⟩:=hst.lm;have hw:=rQ l h0 h1;have hd:decide (vW o l m)=true:=decide_eq_true hst;clear hst;go_enter Tryz.func202,Tryz.ntmps202;go_wp2_with fail;refine(xH _ _ _ _).mono ?_;rintro e w1 ⟨rfl,hb1⟩;have hz1:=hb1.size;simp only[World.size_alloc] at hz1;have X0_1:=zJ (yl _ _ _) hb1 (by simp);have L0_1:w.heap.size<w1.heap.size:=oo;have g1:Below w.heap.size w w1:=((Below.refl _ _).alloc (Nat.le_refl _) _).trans (hb1.mono (by simp));clear hb1;go_wp2;go_ret;exact⟨by first|rfl|exact yN hw,g1⟩
theorem xP (o l m:Int)(w:World)(hst:vW o l m):
 Calls Tryz.prog 200 #[.agg #[.int .i64 o,.int .i64 l,.int .i64 m]] w fun e w'=>e= .returned (.int .i64 (pow2 l+1))∧Below w.heap.size w w':=by
 obtain⟨h0,h1,h2,h3⟩:=hst.lm;have hw:=rQ l h0 h1;have hp:=yZ l h0 h1;obtain⟨hp0,hp1⟩:=hp;have hd:decide (vW o l m)=true:=decide_eq_true hst;clear hst;go_enter Tryz.func200,Tryz.ntmps200;go_wp2_with fail;refine(xH _ _ _ _).mono ?_;rintro e w1 ⟨rfl,hb1⟩;have hz1:=hb1.size;simp only[World.size_alloc] at hz1;have X0_1:=zJ (yl _ _ _) hb1 (by simp);have L0_1:w.heap.size<w1.heap.size:=oo;have g1:Below w.heap.size w w1:=((Below.refl _ _).alloc (Nat.le_refl _) _).trans (hb1.mono (by simp));clear hb1;go_wp2;go_ret;exact⟨by first|rfl|exact yN (by rw[hw]),g1⟩
theorem tJ (o l m:Int)(w:World)(hst:vW o l m):
 Calls Tryz.prog 199 #[.agg #[.int .i64 o,.int .i64 l,.int .i64 m]] w fun e w'=>e= .returned (.int .i64 (pow2 m - 1))∧Below w.heap.size w w':=by
 obtain⟨h0,h1,h2,h3⟩:=hst.lm;have hw:=rQ m h2 h3;have hp:=yZ m h2 h3;obtain⟨hp0,hp1⟩:=hp;have hd:decide (vW o l m)=true:=decide_eq_true hst;clear hst;go_enter Tryz.func199,Tryz.ntmps199;go_wp2_with fail;refine(xH _ _ _ _).mono ?_;rintro e w1 ⟨rfl,hb1⟩;have hz1:=hb1.size;simp only[World.size_alloc] at hz1;have X0_1:=zJ (yl _ _ _) hb1 (by simp);have L0_1:w.heap.size<w1.heap.size:=oo;have g1:Below w.heap.size w w1:=((Below.refl _ _).alloc (Nat.le_refl _) _).trans (hb1.mono (by simp));clear hb1;go_wp2;go_ret;exact⟨by first|rfl|exact yN (by rw[hw]),g1⟩
theorem xu (K:Kn)(A:Option Addr)(cap:Nat)(w:World)(hst:vW K.o K.l K.m)(hl:K.ps.length≤100000):
 Calls Tryz.prog 237 #[knV K A cap] w fun e w'=>e= .returned (.int .i64 K.nx)∧Below w.heap.size w w':=by
 have hp:=hst.lm;obtain⟨hp1,hp2,hp3,hp4⟩:=hp;have hb:=yZ K.l hp1 hp2;obtain⟨hb1,hb2⟩:=hb;have HX:Hid (K.nx=pow2 K.l+1+1+K.ps.length):=(by show K.nx=_;unfold Kn.nx;omega);go_enter Tryz.func237,Tryz.ntmps237;go_wp2_with fail;have hG:=zI (yl w (knC K A cap) 130) (by simp);refine wp_region_quiet_below kr kr ?_;repeat(go_big_quiet_step ((go_at_call 200;exact Calls.regrown_of (xP _ _ _ _ hst))))
 refine wpQuiet_nil ?_;intro w2 hw2;have hb2:Below _ _ w2:=zh hw2;clear hw2;go_wp2;go_ret;exact⟨yN HX.out.symm,((Below.refl _ _).alloc (Nat.le_refl _) _).trans (hb2.mono (by simp))⟩
theorem uw (K:Kn)(A:Option Addr)(cap:Nat)(w:World)(hk:K.ok):
 Calls Tryz.prog 205 #[knV K A cap] w fun e w'=>e= .returned (.bool K.gr)∧Below w.heap.size w w':=by
 have hst:=hk.st;have hl:K.ps.length≤100000:=(by have:=hk.bd;omega);have h1: -1≤K.last:=by
  have:=hk.bd;rcases hk.last with h|h
  ·omega
  ·unfold codeOk at h;omega
 by_cases h0:K.last= -1
 ·have HX:Hid (K.gr=false):=by
   show K.gr=false;unfold Kn.gr;simp;omega
  have hd:(K.last != (-1:Int))=false:=(by simpa using h0);have hd2:(K.last==(-1:Int))=true:=(by simpa using h0);clear h0;go_enter Tryz.func205,Tryz.ntmps205;go_wp2_with fail;have hG:=zI (yl w (knC K A cap) 130) (by simp);refine wp_region_quiet_below kr kr ?_;repeat(go_big_quiet_step ((first|(go_at_call 237;exact Calls.regrown_of (xu _ _ _ _ hst hl))|(go_at_call 199;exact Calls.regrown_of (tJ _ _ _ _ hst)))))
  refine wpQuiet_nil ?_;intro w2 hw2;have hb2:Below _ _ w2:=zh hw2;clear hw2;go_wp2;go_ret;exact⟨zQ HX.out.symm,((Below.refl _ _).alloc (Nat.le_refl _) _).trans (hb2.mono (by simp))⟩
 ·have HX:Hid (decide (K.nx≤pow2 K.m - 1)=K.gr):=by
   show decide (K.nx≤pow2 K.m - 1)=K.gr;unfold Kn.gr Kn.top;rw[Bool.eq_iff_iff];simp;omega
  have hd:(K.last != (-1:Int))=true:=(by simpa using h0);have hd2:(K.last==(-1:Int))=false:=(by simpa using h0);clear h0;go_enter Tryz.func205,Tryz.ntmps205;go_wp2_with fail;have hG:=zI (yl w (knC K A cap) 130) (by simp);refine wp_region_quiet_below kr kr ?_;repeat(go_big_quiet_step ((first|(go_at_call 237;exact Calls.regrown_of (xu _ _ _ _ hst hl))|(go_at_call 199;exact Calls.regrown_of (tJ _ _ _ _ hst)))))
  refine wpQuiet_nil ?_;intro w2 hw2;have hb2:Below _ _ w2:=zh hw2;clear hw2;go_wp2;go_ret;exact⟨zQ HX.out,((Below.refl _ _).alloc (Nat.le_refl _) _).trans (hb2.mono (by simp))⟩
theorem iY (K:Kn)(A:Option Addr)(cap:Nat)(w:World)(hk:K.ok):
 Calls Tryz.prog 279 #[knV K A cap] w fun e w'=>e= .returned (.int .i64 K.great)∧Below w.heap.size w w':=by
 have hst:=hk.st;have hl:K.ps.length≤100000:=(by have:=hk.bd;omega);have hnx: -1000≤K.nx:=(by unfold Kn.nx;have:=yZ K.l (hk.lm.1) (hk.lm.2.1);omega);have hnx1:K.nx≤1000000:=(by unfold Kn.nx;have:=yZ K.l (hk.lm.1) (hk.lm.2.1);have:=hk.bd;omega);go_enter Tryz.func279,Tryz.ntmps279;go_wp2_with fail;refine(uw _ _ _ _ hk).mono ?_;rintro e w1 ⟨rfl,hb1⟩;have hz1:=hb1.size;simp only[World.size_alloc] at hz1;have X0_1:=zJ (yl _ _ _) hb1 (by simp);have L0_1:w.heap.size<w1.heap.size:=oo;have g1:Below w.heap.size w w1:=((Below.refl _ _).alloc (Nat.le_refl _) _).trans (hb1.mono (by simp));clear hb1;by_cases hg:K.gr=true
 ·have HX:Hid (K.nx=K.great):=by show K.nx=K.great;unfold Kn.great;rw[if_pos hg]
  go_wp2_with fail;refine(xu _ _ _ _ hst hl).mono ?_;rintro e w2 ⟨rfl,hb2⟩;have hz2:=hb2.size;have X0_2:=zJ X0_1 hb2 L0_1;have L0_2:w.heap.size<w2.heap.size:=oo;have g2:Below w.heap.size w w2:=g1.trans (hb2.mono oo);clear hb2 X0_1 L0_1 g1;go_wp2;go_ret;exact⟨yN HX.out,g2⟩
 ·have hg':K.gr=false:=by simpa using hg
  have HX:Hid (K.nx - 1=K.great):=(by show K.nx - 1=K.great;unfold Kn.great;rw[if_neg hg]);go_wp2_with fail;refine(xu _ _ _ _ hst hl).mono ?_;rintro e w2 ⟨rfl,hb2⟩;have hz2:=hb2.size;have X0_2:=zJ X0_1 hb2 L0_1;have L0_2:w.heap.size<w2.heap.size:=oo;have g2:Below w.heap.size w w2:=g1.trans (hb2.mono oo);clear hb2 X0_1 L0_1 g1;go_wp2;go_ret;exact⟨yN HX.out,g2⟩
theorem Rw (K:Kn)(A:Option Addr)(cap:Nat)(w:World)(hk:K.ok):
 Calls Tryz.prog 287 #[knV K A cap] w fun e w'=>e= .returned (.bool (decide (K.top<K.nx∧K.base<K.ps.length)))∧Below w.heap.size w w':=by
 have hst:=hk.st;have hl:K.ps.length≤100000:=(by have:=hk.bd;omega);by_cases h0:pow2 K.m - 1<K.nx
 ·have hd:decide (pow2 K.m - 1<K.nx)=true:=decide_eq_true h0
  have HX:Hid (decide (K.base<(K.ps.length:Int))=decide (K.top<K.nx∧K.base<K.ps.length)):=by
   show _=_;unfold Kn.top;rw[Bool.eq_iff_iff];simp;exact fun _=>h0
  clear h0;go_enter Tryz.func287,Tryz.ntmps287;go_wp2_with fail;have hG:=zI (yl w (knC K A cap) 130) (by simp);refine wp_region_quiet_below kr kr ?_;repeat(go_big_quiet_step ((first|(go_at_call 237;exact Calls.regrown_of (xu _ _ _ _ hst hl))|(go_at_call 199;exact Calls.regrown_of (tJ _ _ _ _ hst)))))
  refine wpQuiet_nil ?_;intro w2 hw2;have hb2:Below _ _ w2:=zh hw2;clear hw2;go_wp2;go_ret;exact⟨zQ HX.out,((Below.refl _ _).alloc (Nat.le_refl _) _).trans (hb2.mono (by simp))⟩
 ·have hd:decide (pow2 K.m - 1<K.nx)=false:=decide_eq_false h0
  have HX:Hid (decide (K.top<K.nx∧K.base<K.ps.length)=false):=by
   show _=_;unfold Kn.top;simp only[decide_eq_false_iff_not];exact fun h=>h0 h.1
  clear h0;go_enter Tryz.func287,Tryz.ntmps287;go_wp2_with fail;have hG:=zI (yl w (knC K A cap) 130) (by simp);refine wp_region_quiet_below kr kr ?_;repeat(go_big_quiet_step ((first|(go_at_call 237;exact Calls.regrown_of (xu _ _ _ _ hst hl))|(go_at_call 199;exact Calls.regrown_of (tJ _ _ _ _ hst)))))
  refine wpQuiet_nil ?_;intro w2 hw2;have hb2:Below _ _ w2:=zh hw2;clear hw2;go_wp2;go_ret;exact⟨zQ HX.out.symm,((Below.refl _ _).alloc (Nat.le_refl _) _).trans (hb2.mono (by simp))⟩
theorem jl (K:Kn)(A:Option Addr)(cap:Nat)(c:Int)(w:World)(hk:K.ok):
 Calls Tryz.prog 258 #[knV K A cap,.int .i64 c] w fun e w'=>e= .returned (.bool (decide (0≤c∧c≤K.great)))∧Below w.heap.size w w':=by
 by_cases h0:0≤c
 ·have hd:decide (0≤c)=true:=decide_eq_true h0
  have HX:Hid (decide (c≤K.great)=decide (0≤c∧c≤K.great)):=by
   show _=_;rw[Bool.eq_iff_iff];simp;exact fun _=>h0
  go_enter Tryz.func258,Tryz.ntmps258;go_wp2_with fail;refine(iY _ _ _ _ hk).mono ?_;rintro e w2 ⟨rfl,hb2⟩;go_wp2;go_ret;exact⟨zQ HX.out,((Below.refl _ _).alloc (Nat.le_refl _) _).trans (hb2.mono (by simp))⟩
 ·have hd:decide (0≤c)=false:=decide_eq_false h0
  have HX:Hid (decide (0≤c∧c≤K.great)=false):=by
   show _=_;simp only[decide_eq_false_iff_not];exact fun h=>h0 h.1
  go_enter Tryz.func258,Tryz.ntmps258;go_wp2;go_ret;exact⟨by first|rfl|exact zQ HX.out.symm,zu⟩
abbrev trC (K:Kn)(A An Ap:Option Addr)(cap m cn cp:Nat):Array Value:=#[.int .i64 K.o,.int .i64 K.l,.int .i64 K.m,.slice A K.ps.length cap,.int .i64 K.base,.int .i64 K.last,.slice An m cn,.slice Ap K.ps.length cp]
structure yO (w : World) (B b : Nat) (K : Kn) (A An Ap : Option Addr) (cap cn cp : Nat) : Prop where
 bB : B ≤ b
 box : Bk w b 214 (trC K A An Ap cap K.tr.nds.length cn cp)
 prs : w.ownsRow B 207 2 (.slice A K.ps.length cap) K.ps.length (psV K.ps)
 nds : w.ownsRow B 239 6 (.slice An K.tr.nds.length cn) K.tr.nds.length (ndC K.tr.nds K.tr.nds.length)
 nos : w.ownsRow B 3 1 (.slice Ap K.ps.length cp) K.ps.length (K.tr.prs.map ivn)
section
variable {w w' : World} {B b : Nat} {K : Kn} {A An Ap : Option Addr} {cap cn cp : Nat}
theorem yO.keep (h:yO w B b K A An Ap cap cn cp)(hb:Below w.heap.size w w'):yO w' B b K A An Ap cap cn cp:=
 ⟨h.bB,h.box.below hb h.box.lt,zf h.prs hb,zf h.nds hb,zf h.nos hb⟩
theorem yO.alloc (h:yO w B b K A An Ap cap cn cp)(o:Obj):yO (w.alloc o) B b K A An Ap cap cn cp:=h.keep ((Below.refl _ _).alloc (Nat.le_refl _) o)
end
structure Kn.fine (K : Kn) : Prop where
 st : vW K.o K.l K.m
 pairs : Zl K.cl K.ps
 len : K.ps.length ≤ 1020
theorem Kn.ok.fine {K:Kn}(h:K.ok):K.fine:=⟨h.st,h.pairs,h.bd.2.2.2.1⟩
theorem Kn.fine.cl {K:Kn}(h:K.fine):2≤K.cl∧K.cl≤256:=by
 obtain⟨h1,h2,h3,h4,h5⟩:=h.st;unfold Kn.cl pow2;have ll:K.l=1∨K.l=2∨K.l=3∨K.l=4∨K.l=5∨K.l=6∨K.l=7∨K.l=8:=oo;rcases ll with e|e|e|e|e|e|e|e<;>rw[e]<;>decide
theorem Kn.fine.tr {K:Kn}(h:K.fine):sH K.cl K.ps K.tr:=Qh (by have:=h.cl;omega) (by have:=h.cl;omega) h.pairs
theorem OC {cl:Int}(h0:0≤cl)(ps:List Pr):(rH cl ps).nds.length≤cl.toNat+ps.length:=by
 induction ps using y5 with
 |h0=>simp [rH,Tr.lits]
 |h1 ps p ih=>
  rw[qA];unfold Tr.learn;split
  ·simp;omega
  ·simp;omega
theorem Kn.fine.N9 {K:Kn}(h:K.fine):2≤K.tr.nds.length∧K.tr.nds.length≤1300:=by
 have h1:=OC (show(0:Int)≤K.cl by have:=h.cl;omega) K.ps;have h2:=h.tr.lits;have h3:=h.cl;have h4:=h.len;have h5:(rH K.cl K.ps).nds.length=K.tr.nds.length:=rfl;omega
theorem qH {B b:Nat}{K:Kn}{A An Ap:Option Addr}{cap cn cp:Nat}(c:Int)(w:World)(hT:yO w B b K A An Ap cap cn cp)(hk:K.fine)(hc:codeOk K.cl K.ps.length c):
 Calls Tryz.prog 238 #[.pointer (some ⟨b,0,none⟩),.int .i64 c] w fun e w'=>e= .returned (ivn (K.tr.xh K.cl c))∧Below w.heap.size w w':=by
 have hst:=hk.st;have hX:=hT.box.cell;have hlt:=hT.box.lt;have hl:=hk.len;have hcl:=hk.cl;have hprs:=hk.tr.len;have hpl:=hT.nos;have hcll:K.cl=pow2 K.l:=rfl;by_cases hgt:K.cl+1<c
 ·have hc1:c≤K.cl+1+K.ps.length:=by unfold codeOk at hc;omega
  have hj:(c - K.cl - 2).toNat<K.tr.prs.length:=oo;have HE:Hid ((ivn (K.tr.xh K.cl c))=ivn K.tr.prs[(c - K.cl - 2).toNat]):=by
   show _=_;unfold Tr.xh;rw[if_pos hgt,List.getD_eq_getElem?_getD,List.getElem?_eq_getElem hj];rfl
  have hpos:0<K.ps.length:=oo;obtain⟨g,cap2,hv,hg1⟩:=hpl.form hpos;injection hv with e1 e2 e3
  subst e1 e3;have hcell:=(hpl.cellAt (c - K.cl - 2).toNat (by omega)).trans (show _=some (ivn K.tr.prs[(c - K.cl - 2).toNat]) by rw[List.getElem?_map,List.getElem?_eq_getElem hj];rfl);have hgl:=(hpl.lt g rfl).2;generalize K.tr.prs[(c - K.cl - 2).toNat]=q at*;rw[hcll] at hgt hc1 hcell;have hidx:(c - pow2 K.l - 2).toNat=(c - (pow2 K.l+1)).toNat - 1:=oo;rw[hidx] at hcell;have hi1:c - (pow2 K.l+1) - 1<K.ps.length:=oo;have hi00:1≤c - (pow2 K.l+1):=oo;have hcb:c≤100000:=oo;have hpw0:2≤pow2 K.l:=oo;have hpw1:pow2 K.l≤256:=oo;clear hidx hcll hcl hc hprs hpl hpos hj;go_enter Tryz.func238,Tryz.ntmps238;go_wp2_with fail;refine(xP _ _ _ _ hst).mono ?_;rintro e w1 ⟨rfl,hb1⟩;have hX1:=zJ hX hb1 hlt;have hcell1:=(hb1.cell (p:=⟨g,(c - (pow2 K.l+1)).toNat - 1,none⟩) hgl).trans hcell;clear hX hcell hlt hgl hT;go_wp2;go_ret;exact⟨congrArg Ending.returned HE.out.symm,hb1⟩
 ·have hc0:0≤c:=by unfold codeOk at hc;omega
  have HE:Hid ((ivn (K.tr.xh K.cl c))=Value.int .i64 c):=by
   show _=_;unfold Tr.xh;rw[if_neg hgt];show Value.int .i64 ((c.toNat:Nat):Int)=_;rw[Int.toNat_of_nonneg hc0]
  rw[hcll] at hgt;go_enter Tryz.func238,Tryz.ntmps238;go_wp2_with fail;refine(xP _ _ _ _ hst).mono ?_;rintro e w1 ⟨rfl,hb1⟩;clear hX hT;go_wp2;go_ret;exact⟨congrArg Ending.returned HE.out.symm,hb1⟩
theorem Xa {B b:Nat}{K:Kn}{A An Ap:Option Addr}{cap cn cp:Nat}(p:Nat)(c:Int)(w:World)(hT:yO w B b K A An Ap cap cn cp)(hk:K.fine)(hp:p<K.tr.nds.length)(hc0:0≤c)(hc1:c≤255):
 Calls Tryz.prog 239 #[.pointer (some ⟨b,0,none⟩),.int .i64 (p:Int),.int .u8 c] w fun e w'=>e= .returned (.int .i64 (K.tr.mY p (UInt8.ofNat c.toNat)))∧w=w':=by
 have hX:=hT.box.cell;have hnl:=hk.N9;have hu:=hk.tr.uniq;have HU:=Go.Lib.hid hu;clear hu;have hpl:=hT.nds;have hpos:0<K.tr.nds.length:=oo;obtain⟨g,cap2,hv,hg1⟩:=hpl.form hpos;injection hv with e1 e2 e3
 subst e1 e3;have HC:Hid (∀i k,i<K.tr.nds.length→k<6→w.cell? ⟨g,i*6+k,none⟩=(ndV K.tr.nds K.tr.nds.length i)[k]?):=fun i k hi hk=>(hpl.cellAt (i*6+k) oo).trans (ve _ _ hi hk);clear hpl hg1 hpos;obtain⟨B8,hB8⟩:∃x:UInt8,UInt8.ofNat c.toNat=x:=⟨_,rfl⟩;have hcB:c=(B8.toNat:Int):=(by rw[←hB8,UInt8.toNat_ofNat'];omega);rw[hB8];clear hB8;subst hcB;clear hc0 hc1;have hpi:(p:Int)<K.tr.nds.length:=oo;have hc1:=HC.out p 1 hp oo;rw[show(ndV K.tr.nds K.tr.nds.length p)[1]? =some (.int .i64 (yC K.tr.nds p K.tr.nds.length)) from rfl] at hc1;have HS:=Go.Lib.hid (bF.start K.tr.nds p B8);obtain⟨hnl1,hnl2⟩:=hnl;clear hT;go_enter Tryz.func239,Tryz.ntmps239;go_wp2;go_loop [7] (fun a=>∃j:Nat,j≤K.tr.nds.length∧a= .int .i64 (yC K.tr.nds (p:Int) j)∧Hid (bF K.tr.nds p B8 j)) (fun a=>(intOf a+1).toNat)
 case atStart=>exact⟨K.tr.nds.length,Nat.le_refl _,rfl,HS⟩
 case round=>
  obtain⟨j,hj,rfl,HN⟩:=hrel;have hbd:=Zh K.tr.nds (p:Int) j;obtain⟨hbd1,hbd2⟩:=hbd;by_cases hneg:yC K.tr.nds (p:Int) j= -1
  ·have HE:=Go.Lib.hid (PG HN.out hj hneg)
   rw[hneg];clear hneg hbd1 hbd2;go_wp2;go_ret;exact⟨yN HE.out.symm,rfl⟩
  ·obtain⟨n,hn⟩:∃n:Nat,yC K.tr.nds (p:Int) j=(n:Int):=⟨(yC K.tr.nds (p:Int) j).toNat,oo⟩
   have hnj:n<K.tr.nds.length:=oo;have hni:(n:Int)<K.tr.nds.length:=oo;have hc3:=HC.out n 3 hnj oo;have hc2:=HC.out n 2 hnj oo;rw[show(ndV K.tr.nds K.tr.nds.length n)[3]? =some (.int .u8 ((K.tr.nds[n]?.getD ⟨0,0,0,0⟩).last.toNat:Int)) from rfl] at hc3;rw[show(ndV K.tr.nds K.tr.nds.length n)[2]? =some (.int .i64 (nxt K.tr.nds n)) from rfl] at hc2;have HN2:Hid (¬(K.tr.nds[n]?.getD ⟨0,0,0,0⟩).last=B8→bF K.tr.nds p B8 n∧n<j∧nxt K.tr.nds n=yC K.tr.nds (p:Int) n):=fun hb=>Ry HN.out hj hn hb;have HH:Hid ((K.tr.nds[n]?.getD ⟨0,0,0,0⟩).last=B8→K.tr.mY p B8=(n:Int)):=fun hb=>QW HU.out hj hn hb;rw[hn];generalize(K.tr.nds[n]?.getD ⟨0,0,0,0⟩).last=L at*;clear hn hneg hbd1 hbd2;by_cases hb:L=B8
   ·have HE:=Go.Lib.hid (HH.out hb)
    have hbd:(((L.toNat:Int)) != (B8.toNat:Int))=false:=(by simp [hb]);clear hb;go_wp2;go_ret;exact⟨yN HE.out.symm,rfl⟩
   ·obtain⟨h1,h2,h3⟩:=HN2.out hb
    have hne:¬L.toNat=B8.toNat:=fun h=>hb (UInt8.toNat_inj.1 h);have hbd:(((L.toNat:Int)) != (B8.toNat:Int))=true:=(by simp;omega);have H1:=Go.Lib.hid h1;have hb2:=Zh K.tr.nds (p:Int) n;rw[h3] at hc2;clear h1 h3 hb hne;go_wp2;go_round
    case rel=>exact⟨n,oo,rfl,H1⟩
    case measure=>simp [intOf];omega
structure Kept (B : Nat) (S : Nat → Prop) (w w' : World) : Prop where
 os : w'.os = w.os
 tape : w'.tape = w.tape
 output : w'.output = w.output
 size : w.heap.size ≤ w'.heap.size
 block : ∀ k, k < w.heap.size → (k < B ∨ ¬ S k) → w'.heap[k]? = w.heap[k]?
section
variable {B : Nat} {S S' : Nat → Prop} {a w w' c : World}
theorem Kept.of_below (h:Below w.heap.size w w'):Kept B S w w':=⟨h.os,h.tape,h.output,h.size,fun k hk _=>h.block k hk⟩
theorem Kept.refl (B:Nat)(S:Nat→Prop)(w:World):Kept B S w w:=Kept.of_below (Below.refl _ w)
theorem Kept.trans (h:Kept B S a w)(k:Kept B S w c):Kept B S a c:=
 ⟨k.os.trans h.os,k.tape.trans h.tape,k.output.trans h.output,Nat.le_trans h.size k.size,fun i hi hr=>(k.block i (Nat.lt_of_lt_of_le hi h.size) hr).trans (h.block i hi hr)⟩
theorem Kept.mono (h:Kept B S w w')(hs:∀g,S g→S' g):Kept B S' w w':=⟨h.os,h.tape,h.output,h.size,fun k hk hr=>h.block k hk (hr.elim .inl fun hn=>.inr fun hc=>hn (hs _ hc))⟩
theorem Kept.below (h:Kept B S w w')(hB:B≤w.heap.size):Below B w w':=⟨h.os,h.tape,h.output,h.size,fun k hk=>h.block k oo (.inl hk)⟩
theorem Kept.drew (h:Kept B S a w):Kept B S a w.drew:=⟨h.os,h.tape,h.output,h.size,h.block⟩
theorem Kept.drewN (h:Kept B S a w)(n:Nat):Kept B S a (w.drewN n):=⟨h.os,h.tape,h.output,h.size,h.block⟩
theorem Kept.Tn (h:Kept B S a.drew w):Kept B S a w:=⟨h.os,h.tape,h.output,h.size,h.block⟩
theorem Kept.alloc (h:Kept B S a w)(o:Obj):Kept B S a (w.alloc o):=h.trans (Kept.of_below ((Below.refl _ w).alloc (Nat.le_refl _) o))
theorem Kept.setCell (h:Kept B S a w){p:Addr}(hp:B≤p.block∧(S p.block∨a.heap.size≤p.block))(u:Value):Kept B S a (w.setCell p u):=
 ⟨h.os,h.tape,h.output,by simpa [World.setCell] using h.size,fun k hk hr=>(Below.heap_setCell _ _ _ _ (by
  rintro rfl;rcases hr with hr|hr
  ·omega
  ·rcases hp.2 with h1|h1
   ·exact hr h1
   ·omega)).trans (h.block k hk hr)⟩
theorem Kept.grown {row:Option Nat}(h:Kept B S a w)(hg:w.grownBy w' row)(hr:∀k,row=some k→B≤k∧(S k∨a.heap.size≤k)):Kept B S a w':=
 ⟨hg.os.trans h.os,hg.tape.trans h.tape,hg.output.trans h.output,Nat.le_trans h.size hg.size,fun k hk hd=>(hg.block k (Nat.lt_of_lt_of_le hk h.size) (fun e=>by
  have h1:=hr k e.symm;rcases hd with hd|hd
  ·omega
  ·rcases h1.2 with h2|h2
   ·exact hd h2
   ·omega)).trans (h.block k hk hd)⟩
theorem Kept.bk {g:Nat}{t:TypeId}{cs:Array Value}(h:Kept B S w w')(hb:Bk w g t cs)(hn:g<B∨¬S g):Bk w' g t cs:=(h.block g hb.lt hn).trans hb
theorem Kept.own {B2:Nat}{e:TypeId}{s n:Nat}{v:Value}{xs:List Value}(h:Kept B S w w')(hr:w.ownsRow B2 e s v n xs)(hn:∀g,v.ownBlock=some g→g<B∨¬S g):w'.ownsRow B2 e s v n xs:=by
 have hlt:=hr.lt;obtain⟨h1,h2⟩:=hr;refine⟨h1,?_⟩;rcases h2 with h2|⟨g,cap,cur,rfl,hg,hh,rest⟩
 ·exact .inl h2
 ·exact .inr ⟨g,cap,cur,rfl,hg,(h.block g (hlt g rfl).2 (hn g rfl)).trans hh,rest⟩
end
def tZ (b:Nat)(A An Ap:Option Addr)(g:Nat):Prop:=g=b∨A.map (·.block)=some g∨An.map (·.block)=some g∨Ap.map (·.block)=some g
def KU (w:World)(B b:Nat)(K:Kn)(S:Nat→Prop):Prop:=∃A An Ap cap cn cp,yO w B b K A An Ap cap cn cp∧∀g,tZ b A An Ap g→S g
def kz (B b:Nat)(K:Kn)(S:Nat→Prop)(w:World)(e:Ending)(w':World):Prop:=e= .returned (.tuple #[])∧KU w' B b K (fun g=>S g∨w.heap.size≤g)∧Kept B S w w'
theorem Xj :(Tryz.prog.info? 239).map (fun i=>(i.zero,i.size,i.bytes))=some (some (.agg #[.int .i64 0,.int .i64 0,.int .i64 0,.int .u8 0,.int .u8 0,.int .i64 0]),6,40):=by kernel_rfl
theorem mg {w:World}{B:Nat}{e:TypeId}{A:Option Addr}{n cap size:Nat}{cs:List Value}(h:w.ownsRow B e size (.slice A n cap) n cs):∀g,A.map (·.block)=some g→Value.ownBlock (.slice A n cap)=some g:=by
 intro g hg;rcases h.2 with⟨h',_⟩|⟨g',cap',cur,h',_⟩
 ·injection h' with h1;subst h1;cases hg
 ·injection h' with h1 h2 h3
  subst h1;simp at hg;subst hg;rfl
theorem wF {A:Option Addr}{n cap:Nat}{g:Nat}(h:Value.ownBlock (.slice A n cap)=some g):A.map (·.block)=some g:=by
 cases A with
 |none=>cases h
 |some a=>injection h with h;simp [←h]
theorem xw {w w':World}{B B':Nat}{e e':TypeId}{s s' n n':Nat}{v v':Value}{xs xs':List Value}(h:w.ownsRow B e s v n xs)(hv:w.ownsRow B' e' s' v' n' xs')(hne:e≠e')(hg:w.grownBy w' v'.ownBlock):w'.ownsRow B e s v n xs:=by
 have hlt:=h.lt;have hoo:=ug h hv hne;obtain⟨h1,h2⟩:=h;refine⟨h1,?_⟩;rcases h2 with h2|⟨g,cap,cur,rfl,hgb,hh,rest⟩
 ·exact .inl h2
 ·refine .inr ⟨g,cap,cur,rfl,hgb,(hg.block g (hlt g rfl).2 (fun hc=> ?_)).trans hh,rest⟩
  rcases hoo with hoo|hoo
  ·cases hoo
  ·exact hoo hc
theorem pM {w:World}{B B':Nat}{e e':TypeId}{s s' n n' c' g:Nat}{v:Value}{xs xs':List Value}(h:w.ownsRow B e s v n xs)(h':w.ownsRow B' e' s' (.slice (some ⟨g,0,none⟩) n' c') n' xs')(hne:e≠e'):∀k,v.ownBlock=some k→k≠g:=by
 intro k hk hkg;rcases ug h h' hne with h1|h1
 ·rw[h1] at hk;cases hk
 ·exact h1 (by rw[hk,hkg];rfl)
def ND (B b:Nat)(K:Kn)(T':Tr)(A An Ap:Option Addr)(cap cp:Nat)(p1 p2:Int)(w:World)(v:Value)(wx:World):Prop:=
 ∃(n:Nat) (nds':List Nd) (An':Option Addr) (cn':Nat),v=ivn n∧T'=⟨nds',K.tr.prs++[n]⟩∧n≤1400∧Bk wx b 214 (trC K A An' Ap cap nds'.length cn' cp)∧
  wx.ownsRow B 207 2 (.slice A K.ps.length cap) K.ps.length (psV K.ps)∧wx.ownsRow B 239 6 (.slice An' nds'.length cn') nds'.length (ndC nds' nds'.length)∧wx.ownsRow B 3 1 (.slice Ap K.ps.length cp) K.ps.length (K.tr.prs.map ivn)∧
  Bk wx w.heap.size 207 #[.int .i64 p1,.int .i64 p2]∧Kept B (tZ b A An Ap) w wx∧∀g,An'.map (·.block)=some g→tZ b A An Ap g∨w.heap.size≤g
theorem Xl {B b:Nat}{K:Kn}{A An Ap:Option Addr}{cap cn cp:Nat}(p1 p2:Int)(w:World)(hT:yO w B b K A An Ap cap cn cp)(hk:K.fine)(hl:K.ps.length<1020)(hp:codeOk K.cl K.ps.length p1)(h2:0≤p2)(h3:p2<K.cl):
 Calls Tryz.prog 235 #[.pointer (some ⟨b,0,none⟩),.agg #[.int .i64 p1,.int .i64 p2]] w (kz B b { K with ps:=K.ps++[(p1,p2)] } (tZ b A An Ap) w):=by
 obtain⟨i,hi,hz0,hz1,hz2⟩:=info_parts Xj;obtain⟨i2,hi2,hz20,hz21,hz22⟩:=info_parts tK;obtain⟨i3,hi3,hz30,hz31,hz32⟩:=info_parts oZ;have hst:=hk.st;have hcl:=hk.cl;have hnl:=hk.N9;obtain⟨hnl1,hnl2⟩:=hnl;have hTr:=hk.tr;have hprl:=hTr.len;obtain⟨hnode,_⟩:=hTr.node hp;have hPb:p2≤255:=oo;obtain⟨b8,hb8⟩:∃x:UInt8,UInt8.ofNat p2.toNat=x:=⟨_,rfl⟩;have hb8i:(b8.toNat:Int)=p2:=(by rw[←hb8,UInt8.toNat_ofNat'];omega);have cN:=fun w hT=>qH p1 w hT hk hp (b:=b) (B:=B) (A:=A) (An:=An) (Ap:=Ap) (cap:=cap) (cn:=cn) (cp:=cp);have hK'tr:({ K with ps:=K.ps++[(p1,p2)] } :Kn).tr=K.tr.learn K.cl (p1,p2):=qA K.cl K.ps (p1,p2);have hKs:∀n,K.tr.kid (K.tr.xh K.cl p1) b8=some n→({ K with ps:=K.ps++[(p1,p2)] } :Kn).tr=⟨K.tr.nds,K.tr.prs++[n]⟩:=fun n hn=>by
  rw[hK'tr];unfold Tr.learn;simp only[hb8,hn]
 have hKn:K.tr.kid (K.tr.xh K.cl p1) b8=none→({ K with ps:=K.ps++[(p1,p2)] } :Kn).tr=⟨K.tr.nds++[⟨K.tr.xh K.cl p1,b8,(K.tr.nds[K.tr.xh K.cl p1]?.getD ⟨0,0,0,0⟩).first,K.nx⟩],K.tr.prs++[K.tr.nds.length]⟩:=fun hn=>by
  rw[hK'tr];unfold Tr.learn;simp only[hb8,hn,hprl];rfl
 generalize hPg:K.tr.xh K.cl p1=P at*;have cC:=fun w hT=>Xa P p2 w hT hk hnode h2 hPb (b:=b) (B:=B) (A:=A) (An:=An) (Ap:=Ap) (cap:=cap) (cn:=cn) (cp:=cp);rw[hb8] at cC;obtain⟨q,hq⟩:∃q,K.tr.mY P b8=q:=⟨_,rfl⟩;simp only[hq] at cC;have CN:=Go.Lib.hid cN;have CC:=Go.Lib.hid cC;have HK1:Hid (0≤q→∃n:Nat,q=n∧n<K.tr.nds.length∧({ K with ps:=K.ps++[(p1,p2)] } :Kn).tr=⟨K.tr.nds,K.tr.prs++[n]⟩):=fun h=>by
  have:=Qz (T:=K.tr) (p:=P) (b:=b8) oo;exact⟨q.toNat,by omega,by rw[hq] at this;exact this.2,hKs _ (by rw[hq] at this;exact this.1)⟩
 have HK2:Hid (q<0→({ K with ps:=K.ps++[(p1,p2)] } :Kn).tr=⟨K.tr.nds++[⟨P,b8,(K.tr.nds[P]?.getD ⟨0,0,0,0⟩).first,K.nx⟩],K.tr.prs++[K.tr.nds.length]⟩):=fun h=>hKn (VZ (T:=K.tr) (p:=P) (b:=b8) oo);have HUp:Hid (∀i (h:i<K.tr.nds.length),K.tr.nds[i].par<(i:Int)):=fun i h=>(hTr.up i h).1;have HB8:=Go.Lib.hid hb8i;clear cN cC hK'tr hKs hKn hTr hPg hb8 hb8i hq;have hbs:=hT.box.lt;have hbB:=hT.bB;have cX:=fun w=>xu K A cap w hst oo;have hnx0:=Int.le_trans (show(0:Int)≤2 by omega) (show 2≤K.nx by unfold Kn.nx;unfold Kn.cl at hcl;omega);have hnx1:K.nx≤100000:=(by unfold Kn.nx;unfold Kn.cl at hcl;omega);have CX:=Go.Lib.hid cX;clear cX;have HPL:=Go.Lib.hid (hT.prs.lt);have HTW:=Go.Lib.hid hT;go_enter Tryz.func235,Tryz.ntmps235;go_wp2_with fail;refine(CN.out _ (hT.alloc _)).mono ?_;rintro e w1 ⟨rfl,hb1⟩;have hz1':=hb1.size;simp only[World.size_alloc] at hz1';have hT1:=(hT.alloc (.cells #[.int .i64 p1,.int .i64 p2] 207)).keep hb1;have hP1:=(Bk.new w #[.int .i64 p1,.int .i64 p2] 207).below hb1 (by simp);have g1:Kept B (tZ b A An Ap) w w1:=((Kept.refl _ _ w).alloc _).trans (Kept.of_below hb1);clear hb1 hT;have hX1:=hP1.cell;go_wp2_with fail;refine(CC.out _ hT1).mono ?_;rintro e w1 ⟨rfl,rfl⟩;clear hX1;generalize hKg:({ K with ps:=K.ps++[(p1,p2)] } :Kn)=K' at*;have HKG:=Go.Lib.hid hKg;clear hKg;go_upto_if 18 with(fail)
 go_cut [5] (fun v wx=>ND B b K K'.tr A An Ap cap cp p1 p2 w v wx)
 case first=>
  by_cases hneg:q<0
  ·have HE:=Go.Lib.hid (HK2.out hneg)
   obtain⟨hbB',hbox,hprs,hnds,hnos⟩:=hT1;obtain⟨gn,cn2,hv,hgn⟩:=hnds.form oo;injection hv with e1 e2 e3
   subst e1 e3;have hgnl:=(hnds.lt gn rfl).2;have hgn2:B≤gn:=(hnds.lt gn rfl).1;have hPi:(P:Int)<K.tr.nds.length:=oo;have c0:=(hnds.cellAt (P*6+0) oo).trans (ve _ _ hnode oo);have c1:=(hnds.cellAt (P*6+1) oo).trans (ve _ _ hnode oo);have c2:=(hnds.cellAt (P*6+2) oo).trans (ve _ _ hnode oo);have c3:=(hnds.cellAt (P*6+3) oo).trans (ve _ _ hnode oo);have c4:=(hnds.cellAt (P*6+4) oo).trans (ve _ _ hnode oo);have c5:=(hnds.cellAt (P*6+5) oo).trans (ve _ _ hnode oo);simp only[Nat.add_zero,ndV,List.getElem?_cons_zero,List.getElem?_cons_succ] at c0 c1 c2 c3 c4 c5;have hX:=hbox.cell;obtain⟨dP,hdP⟩:∃d,K.tr.nds[P]?.getD ⟨0,0,0,0⟩=d:=⟨_,rfl⟩;rw[hdP] at c0 c3 c4 c5 HE;clear hdP e2 CN CC;have hU1:=Bk.new w1 #[.int .i64 dP.par,.int .i64 (yC K.tr.nds P K.tr.nds.length),.int .i64 (nxt K.tr.nds P),.int .u8 (dP.last.toNat:Int),.int .u8 (dP.first.toNat:Int),.int .i64 dP.code] 239;have hbox2:=hbox.alloc (.cells #[.int .i64 dP.par,.int .i64 (yC K.tr.nds P K.tr.nds.length),.int .i64 (nxt K.tr.nds P),.int .u8 (dP.last.toNat:Int),.int .u8 (dP.first.toNat:Int),.int .i64 dP.code] 239);have hP2:=hP1.alloc (.cells #[.int .i64 dP.par,.int .i64 (yC K.tr.nds P K.tr.nds.length),.int .i64 (nxt K.tr.nds P),.int .u8 (dP.last.toNat:Int),.int .u8 (dP.first.toNat:Int),.int .i64 dP.code] 239);have hprs2:=hprs.alloc (.cells #[.int .i64 dP.par,.int .i64 (yC K.tr.nds P K.tr.nds.length),.int .i64 (nxt K.tr.nds P),.int .u8 (dP.last.toNat:Int),.int .u8 (dP.first.toNat:Int),.int .i64 dP.code] 239);have hnds2:=hnds.alloc (.cells #[.int .i64 dP.par,.int .i64 (yC K.tr.nds P K.tr.nds.length),.int .i64 (nxt K.tr.nds P),.int .u8 (dP.last.toNat:Int),.int .u8 (dP.first.toNat:Int),.int .i64 dP.code] 239);have hnos2:=hnos.alloc (.cells #[.int .i64 dP.par,.int .i64 (yC K.tr.nds P K.tr.nds.length),.int .i64 (nxt K.tr.nds P),.int .u8 (dP.last.toNat:Int),.int .u8 (dP.first.toNat:Int),.int .i64 dP.code] 239);have g2:=g1.alloc (.cells #[.int .i64 dP.par,.int .i64 (yC K.tr.nds P K.tr.nds.length),.int .i64 (nxt K.tr.nds P),.int .u8 (dP.last.toNat:Int),.int .u8 (dP.first.toNat:Int),.int .i64 dP.code] 239);have hz2':w1.heap.size+1≤(w1.alloc (.cells #[.int .i64 dP.par,.int .i64 (yC K.tr.nds P K.tr.nds.length),.int .i64 (nxt K.tr.nds P),.int .u8 (dP.last.toNat:Int),.int .u8 (dP.first.toNat:Int),.int .i64 dP.code] 239)).heap.size:=(by simp);go_upto_region 6 with(fail)
   generalize w1.alloc (.cells #[.int .i64 dP.par,.int .i64 (yC K.tr.nds P K.tr.nds.length),.int .i64 (nxt K.tr.nds P),.int .u8 (dP.last.toNat:Int),.int .u8 (dP.first.toNat:Int),.int .i64 dP.code] 239)=W at*;clear c0 c1 c2 c3 c4 c5 hX hbox hP1 hprs hnds hnos g1;have hB1:=hbox2.cell;have hB2:=hP2.cell;have hB3:=hU1.cell;have hbl:=hbox2.lt;have hpl:=hP2.lt;have hul:=hU1.lt;have hm1:K.tr.nds.length+1≤maxLen:=(by unfold maxLen;omega);have hm2:(K.tr.nds.length+1)*40≤140737488355328:=oo;have HL:Hid (∀w',Below W.heap.size W w'→(w'.cell? ⟨b,0,none⟩=some (.int .i64 K.o)∧w'.cell? ⟨b,1,none⟩=some (.int .i64 K.l)∧w'.cell? ⟨b,2,none⟩=some (.int .i64 K.m)∧w'.cell? ⟨b,3,none⟩=some (.slice A K.ps.length cap)∧w'.cell? ⟨b,4,none⟩=some (.int .i64 K.base)∧w'.cell? ⟨b,5,none⟩=some (.int .i64 K.last)∧w'.cell? ⟨b,6,none⟩=some (.slice (some ⟨gn,0,none⟩) K.tr.nds.length cn)∧w'.cell? ⟨w.heap.size,1,none⟩=some (.int .i64 p2)∧w'.cell? ⟨w1.heap.size,1,none⟩=some (.int .i64 (yC K.tr.nds P K.tr.nds.length))∧w'.cell? ⟨w1.heap.size,4,none⟩=some (.int .u8 (dP.first.toNat:Int)))):=fun w' h=>⟨(h.cell (p:=⟨_,_,_⟩) oB).trans (hB1 0),(h.cell (p:=⟨_,_,_⟩) oB).trans (hB1 1),(h.cell (p:=⟨_,_,_⟩) oB).trans (hB1 2),(h.cell (p:=⟨_,_,_⟩) oB).trans (hB1 3),(h.cell (p:=⟨_,_,_⟩) oB).trans (hB1 4),(h.cell (p:=⟨_,_,_⟩) oB).trans (hB1 5),(h.cell (p:=⟨_,_,_⟩) oB).trans (hB1 6),(h.cell (p:=⟨_,_,_⟩) oB).trans (hB2 1),(h.cell (p:=⟨_,_,_⟩) oB).trans (hB3 1),(h.cell (p:=⟨_,_,_⟩) oB).trans (hB3 4)⟩;clear hB1 hB2 hB3;have hwp:IntKind.u8.wrap p2=p2:=IntWalk.u8_in _ ⟨h2,hPb⟩;refine yY 23 (fun w'=>w'.cell? ⟨b,0,none⟩=some (.int .i64 K.o)∧w'.cell? ⟨b,1,none⟩=some (.int .i64 K.l)∧w'.cell? ⟨b,2,none⟩=some (.int .i64 K.m)∧w'.cell? ⟨b,3,none⟩=some (.slice A K.ps.length cap)∧w'.cell? ⟨b,4,none⟩=some (.int .i64 K.base)∧w'.cell? ⟨b,5,none⟩=some (.int .i64 K.last)∧w'.cell? ⟨b,6,none⟩=some (.slice (some ⟨gn,0,none⟩) K.tr.nds.length cn)∧w'.cell? ⟨w.heap.size,1,none⟩=some (.int .i64 p2)∧w'.cell? ⟨w1.heap.size,1,none⟩=some (.int .i64 (yC K.tr.nds P K.tr.nds.length))∧w'.cell? ⟨w1.heap.size,4,none⟩=some (.int .u8 (dP.first.toNat:Int))) kr kr (by first|(exact HL.out _ wL)|go_keep) (fun hSS=> ?_);simp only[List.take_succ_cons,List.take_zero];refine tk 0 ?_;try simp only[Act.put,u2,u3,u4]
   refine tk 1 ?_;try simp only[Act.put,u2,u3,u4]
   refine tk 2 ?_;try simp only[Act.put,u2,u3,u4]
   refine tk 3 ?_;try simp only[Act.put,u2,u3,u4]
   refine tk 4 ?_;try simp only[Act.put,u2,u3,u4]
   refine tk 5 ?_;try simp only[Act.put,u2,u3,u4]
   refine tk 6 ?_;try simp only[Act.put,u2,u3,u4]
   refine tk 7 ?_;try simp only[Act.put,u2,u3,u4]
   refine tk 8 ?_;try simp only[Act.put,u2,u3,u4]
   refine tk 9 ?_;try simp only[Act.put,u2,u3,u4]
   refine tk 10 ?_;try simp only[Act.put,u2,u3,u4]
   refine tk 11 ?_;try simp only[Act.put,u2,u3,u4]
   refine tk 12 ?_;try simp only[Act.put,u2,u3,u4]
   refine tk 13 ?_;try simp only[Act.put,u2,u3,u4]
   refine tk 14 ?_;try simp only[Act.put,u2,u3,u4]
   refine tk 15 ?_;try simp only[Act.put,u2,u3,u4]
   refine tk 16 ?_;try simp only[Act.put,u2,u3,u4]
   refine rd1 17 fun KK hKK=> ?_;go_simp
   (go_at_call 237;refine(CX.out _).mono ?_;rintro e w4 ⟨rfl,hb4⟩;have hb4:Below W.heap.size W w4:=zG hb4;have hy4:=hb4.size;have hbox4:=hbox2.below hb4 hbl;have hP4:=hP2.below hb4 hpl;have hU4:=hU1.below hb4 hul;have hprs4:=zf hprs2 hb4;have hnds4:=zf hnds2 hb4;have hnos4:=zf hnos2 hb4;have g4:=g2.trans (Kept.of_below hb4))
   refine hKK.out _ _ (by first|(exact HL.out _ wL)|go_keep) fun hSS=> ?_;try simp only[Act.put,u2,u3,u4]
   refine tk 18 ?_;try simp only[Act.put,u2,u3,u4]
   refine rd1 19 fun KK hKK=> ?_;go_simp;refine hKK.out _ _ (by first|(exact HL.out _ wL)|go_keep) fun hSS=> ?_;try simp only[Act.put,u2,u3,u4]
   refine rd1 20 fun KK hKK=> ?_
   ((refine uz _ rfl _ _ 212 rfl B 239 i _ 6 40 Tryz.underlying212 hi hz0 hz1 hz2 rfl (by omega) (.slice (some ⟨gn,0,none⟩) K.tr.nds.length cn) K.tr.nds.length (ndC K.tr.nds K.tr.nds.length) rfl (hnds4.alloc _) (some ⟨_,0,none⟩) 1 1 [.int .i64 (P:Int),.int .i64 (-1),.int .i64 (yC K.tr.nds P K.tr.nds.length),.int .u8 p2,.int .u8 (dP.first.toNat:Int),.int .i64 K.nx] rfl (Sl.new w4 #[.int .i64 (P:Int),.int .i64 (-1),.int .i64 (yC K.tr.nds P K.tr.nds.length),.int .u8 p2,.int .u8 (dP.first.toNat:Int),.int .i64 K.nx] _ 1 6 (by simp) (by omega)) (by simp [Value.oneCell']) hm1 hm2 (by first|omega|(simp<;>omega)) ?_);intro A5 cap5 w5 hown5 hg5 hat5;have hbox5:=Bk.grown (hbox4.alloc _) hg5 (own_ne hnds4 hbox4 (by decide));have hP5:=Bk.grown (hP4.alloc _) hg5 (own_ne hnds4 hP4 (by decide));have hU5:=Bk.grown (hU4.alloc _) hg5 (by rintro k ⟨⟩;show gn≠w1.heap.size;omega);have hY5:=hP5.cell;have hV5:=hU5.cell;have hX5:=hbox5.cell;have hF5:=hbox5.free;have hprs5:=xw (hprs4.alloc _) (hnds4.alloc _) (by decide) hg5;have hnos5:=xw (hnos4.alloc _) (hnds4.alloc _) (by decide) hg5;have g5:=(g4.alloc _).grown hg5 (by rintro k ⟨⟩;exact⟨hgn2,.inl (.inr (.inr (.inl rfl)))⟩);have hs5:=wY hg5)
   refine hKK.out _ _ (by first|(exact HL.out _ wL)|go_keep) fun hSS=> ?_;try simp only[Act.put,u2,u3,u4]
   refine tk 21 ?_;try simp only[Act.put,u2,u3,u4]
   refine tk 22 ?_;try simp only[Act.put,u2,u3,u4]
   refine wpAnyH_done kr ?_ _;refine yD ?_;refine wpOp_step (o:=_) rfl (fun KK hKK=> ?_);go_simp;refine hKK _ _ (NoPanic.normal ?_);try simp only[Act.put,u2,u3,u4]
   have HD:Hid ((⟨(P:Int),b8,dP.first,K.nx⟩:Nd).last.toNat=p2):=HB8.out;have HAdd:=Go.Lib.hid (LQ K.tr.nds HUp.out ⟨(P:Int),b8,dP.first,K.nx⟩ P hnode rfl);generalize hDg:(⟨(P:Int),b8,dP.first,K.nx⟩:Nd)=D at*;have HD1:Hid (D.first=dP.first∧D.code=K.nx):=(by show _∧_;rw[←hDg];exact⟨rfl,rfl⟩);clear hDg hnds4 hprs4 hnos4 hbox4 hP4 hU4 hU5 hV5 hY5 hX5 hF5 g4 hb4 hwp hSS;obtain⟨gm,cm,hv,hgm⟩:=hown5.form oo;injection hv with e1 e2 e3
   subst e1 e3;clear e2;have hgmp:tZ b A (some ⟨gn,0,none⟩) Ap gm∨w.heap.size≤gm:=by
    rcases hat5 with h|h
    ·left
     injection h with h
     exact .inr (.inr (.inl (by rw[show gm=gn from h];rfl)))
    ·right
     injection h with h
     have h:gm=_:=h;simp only[World.size_alloc] at h;omega
   have hgmB:=(hown5.lt gm rfl).1;have hnb:=own_ne hown5 hbox5 (by decide);have hbox6:=hbox5.set 6 (.slice (some ⟨gm,0,none⟩) (K.tr.nds.length+1) cap5);have hown6:=zH hown5 (p:=⟨b,6,none⟩) hnb (.slice (some ⟨gm,0,none⟩) (K.tr.nds.length+1) cap5);have hprs6:=zH hprs5 (p:=⟨b,6,none⟩) (own_ne hprs5 hbox5 (by decide)) (.slice (some ⟨gm,0,none⟩) (K.tr.nds.length+1) cap5);have hnos6:=zH hnos5 (p:=⟨b,6,none⟩) (own_ne hnos5 hbox5 (by decide)) (.slice (some ⟨gm,0,none⟩) (K.tr.nds.length+1) cap5);have hP6:=hP5.far (p:=⟨b,6,none⟩) (by show w.heap.size≠b;omega) (.slice (some ⟨gm,0,none⟩) (K.tr.nds.length+1) cap5);have g6:=g5.setCell (p:=⟨b,6,none⟩) ⟨hbB,.inl (.inl rfl)⟩ (.slice (some ⟨gm,0,none⟩) (K.tr.nds.length+1) cap5);clear hown5 hprs5 hnos5 hP5 g5 hbox5 hat5 hg5;go_upto_region 7 with(fail)
   generalize w5.setCell ⟨b,6,none⟩ (.slice (some ⟨gm,0,none⟩) (K.tr.nds.length+1) cap5)=w6 at*;have hQ6:=hbox6.cell;have hcl1:=hown6.cellAt (P*6+1) oo;rw[List.getElem?_append_left (by rw[x8];omega),ve _ _ hnode (by omega)] at hcl1;simp only[ndV,List.getElem?_cons_zero,List.getElem?_cons_succ] at hcl1;have hfr1:=hown6.frozenAt (P*6+1);have hPi1:(P:Int)<(K.tr.nds.length:Int)+1:=oo;have hPi2:P<K.tr.nds.length+1:=oo;go_wp2_with fail;go_meet;have hla:(K.tr.nds++[D]).length=K.tr.nds.length+1:=(by simp);refine⟨K.tr.nds.length,K.tr.nds++[D],some ⟨gm,0,none⟩,cap5,rfl,HE.out,oo,?_,?_,?_,?_,?_,?_,?_⟩
   ·rw[hla]
    exact hbox6.far (p:=⟨gm,P*6+1,none⟩) (by show b≠gm;exact fun e=>own_ne hown6 hbox6 (by decide) gm rfl e.symm) _
   ·exact zH hprs6 (p:=⟨gm,P*6+1,none⟩) (pM hprs6 hown6 (by decide)) _
   ·rw[hla]
    have h:=(hown6.stored (P*6+1) (.int .i64 (K.tr.nds.length:Int))).1;have h2:=HAdd.out;rw[HD.out,HD1.out.1,HD1.out.2,hla] at h2;rw[h2] at h;exact h
   ·exact zH hnos6 (p:=⟨gm,P*6+1,none⟩) (pM hnos6 hown6 (by decide)) _
   ·exact hP6.far (p:=⟨gm,P*6+1,none⟩) (by show w.heap.size≠gm;exact fun e=>own_ne hown6 hP6 (by decide) gm rfl e.symm) _
   ·exact g6.setCell (p:=⟨gm,P*6+1,none⟩) ⟨hgmB,hgmp⟩ _
   ·intro g hg
    have:gm=g:=(by simpa using hg);subst this;exact hgmp
  ·obtain⟨n,hqn,hn,htr⟩:=HK1.out oo
   have HTR:=Go.Lib.hid htr;obtain⟨hbB',hbox,hprs,hnds,hnos⟩:=hT1;subst hqn;clear htr;go_wp2_with fail;go_meet;exact⟨n,K.tr.nds,An,cn,rfl,HTR.out,oo,hbox,hprs,hnds,hnos,hP1,g1,fun g hg=>.inl (.inr (.inr (.inl hg)))⟩
 case rest=>
  obtain⟨n,nds',An',cn',rfl,hT',hn,hbox,hprs,hnds,hnos,hP2,g2,hAn⟩:=hcut;have HT:=Go.Lib.hid hT';have HA:=Go.Lib.hid hAn;clear hT' hAn hT1 hP1 g1 HK1 HK2 CN CC CX;have hX:=hbox.cell;have hm1:K.ps.length+1≤maxLen:=(by unfold maxLen;omega);have hm2:(K.ps.length+1)*8≤140737488355328:=oo;have hm3:(K.ps.length+1)*16≤140737488355328:=oo;have hbl:=hbox.lt;have hpl:=hP2.lt;clear hi hz0 hz1 hz2;obtain⟨i,hi,hz0,hz1,hz2⟩:=info_parts tK;go_upto_region 8 with(fail)
  go_wp2_with(at_builtin;go_must(refine zN _ rfl _ _ 60 rfl (B) 3 i _ 1 8 Tryz.underlying60 hi hz0 hz1 hz2 rfl (by omega) _ _ _ rfl (hnos.alloc _) _ 1 1 [ivn n] rfl (Sl.newAt wc #[ivn n] _ 1 1 (by first|rfl|simp) (by simp) (by omega)) (by simp [Value.oneCell']) hm1 hm2 ?_ ?_));try(case refine_1=>first|omega|(simp<;>omega;done))
  intro A5 cap5 w5 hown5 hg5 hat5;have hbox5:=Bk.grown (hbox.alloc _) hg5 (own_ne hnos hbox (by decide));have hP5:=Bk.grown (hP2.alloc _) hg5 (own_ne hnos hP2 (by decide));have hprs5:=xw (hprs.alloc _) (hnos.alloc _) (by decide) hg5;have hnds5:=xw (hnds.alloc _) (hnos.alloc _) (by decide) hg5;have g5:=(g2.alloc _).grown hg5 (fun k hk=>⟨(hnos.lt k hk).1,.inl (.inr (.inr (.inr (wF hk))))⟩);have hs5:=wY hg5;have hA5:Hid (∀g,A5.map (·.block)=some g→tZ b A An Ap g∨w.heap.size≤g):=fun g hg=>by
   have hgo:=mg hown5 g hg;rcases hat5 with h|h
   ·rw[h] at hgo
    exact .inl (.inr (.inr (.inr (wF hgo))))
   ·rw[h] at hgo
    injection hgo with hgo
    have:=g2.size;try simp only[World.size_alloc] at hgo
    exact .inr oo
  have hX5:=hbox5.cell;have hF5:=hbox5.free;have hbox6:=hbox5.set 7 (.slice A5 (K.ps.length+1) cap5);have hP6:=hP5.far (p:=⟨b,7,none⟩) (by show w.heap.size≠b;omega) (.slice A5 (K.ps.length+1) cap5);have hprs6:=zH hprs5 (p:=⟨b,7,none⟩) (own_ne hprs5 hbox5 (by decide)) (.slice A5 (K.ps.length+1) cap5);have hnds6:=zH hnds5 (p:=⟨b,7,none⟩) (own_ne hnds5 hbox5 (by decide)) (.slice A5 (K.ps.length+1) cap5);have hnos6:=zH hown5 (p:=⟨b,7,none⟩) (own_ne hown5 hbox5 (by decide)) (.slice A5 (K.ps.length+1) cap5);have g6:=g5.setCell (p:=⟨b,7,none⟩) ⟨hbB,.inl (.inl rfl)⟩ (.slice A5 (K.ps.length+1) cap5);clear hX hbox hP2 hprs hnds hnos g2 hg5 hat5 hown5 hprs5 hnds5 hP5 g5 hbox5;go_upto_region 9 with(fail)
  generalize w5.setCell ⟨b,7,none⟩ (.slice A5 (K.ps.length+1) cap5)=w6 at*;clear hX5 hF5 hs5;have hB1:=hbox6.cell;have hB2:=hP6.cell;have hbl:=hbox6.lt;have hpl:=hP6.lt;have HM:Hid (∀w',Below w6.heap.size w6 w'→(w'.cell? ⟨b,3,none⟩=some (.slice A K.ps.length cap)∧w'.cell? ⟨w.heap.size,0,none⟩=some (.int .i64 p1)∧w'.cell? ⟨w.heap.size,1,none⟩=some (.int .i64 p2))):=fun w' h=>⟨(h.cell (p:=⟨_,_,_⟩) oB).trans (hB1 3),(h.cell (p:=⟨_,_,_⟩) oB).trans (hB2 0),(h.cell (p:=⟨_,_,_⟩) oB).trans (hB2 1)⟩;clear hB1 hB2;refine yY 12 (fun w'=>w'.cell? ⟨b,3,none⟩=some (.slice A K.ps.length cap)∧w'.cell? ⟨w.heap.size,0,none⟩=some (.int .i64 p1)∧w'.cell? ⟨w.heap.size,1,none⟩=some (.int .i64 p2)) kr kr (by first|(exact HM.out _ wL)|go_keep) (fun hSS=> ?_);simp only[List.take_succ_cons,List.take_zero];refine tk 0 ?_;try simp only[Act.put,u2,u3,u4]
  refine tk 1 ?_;try simp only[Act.put,u2,u3,u4]
  refine tk 2 ?_;try simp only[Act.put,u2,u3,u4]
  refine tk 3 ?_;try simp only[Act.put,u2,u3,u4]
  refine tk 4 ?_;try simp only[Act.put,u2,u3,u4]
  refine tk 5 ?_;try simp only[Act.put,u2,u3,u4]
  refine tk 6 ?_;try simp only[Act.put,u2,u3,u4]
  refine rd1 7 fun KK hKK=> ?_;go_simp;refine hKK.out _ _ (by first|(exact HM.out _ wL)|go_keep) fun hSS=> ?_;try simp only[Act.put,u2,u3,u4]
  refine rd1 8 fun KK hKK=> ?_
  ((refine uz _ rfl _ _ 128 rfl B 207 i3 _ 2 16 Tryz.underlying128 hi3 hz30 hz31 hz32 rfl (by omega) (.slice A K.ps.length cap) K.ps.length (psV K.ps) rfl ((World.ownsRow.drew hprs6).alloc _) (some ⟨_,0,none⟩) 1 1 [.int .i64 p1,.int .i64 p2] rfl (Sl.new w6.drew #[.int .i64 p1,.int .i64 p2] _ 1 2 (by simp) (by omega)) (by simp [Value.oneCell']) hm1 hm3 (by first|omega|(simp<;>omega)) ?_);intro A7 cap7 w7 hown7 hg7 hat7;have hbox7:=Bk.grown (hbox6.drew.alloc _) hg7 (own_ne hprs6 hbox6 (by decide));have hP7:=Bk.grown (hP6.drew.alloc _) hg7 (fun k hk=>by have:=(HPL.out k hk).2;omega);have hY7:=hP7.cell;have hX7:=hbox7.cell;have hF7:=hbox7.free)
  refine hKK.out _ _ (by first|(exact HM.out _ wL)|go_keep) fun hSS=> ?_;try simp only[Act.put,u2,u3,u4]
  refine tk 9 ?_;try simp only[Act.put,u2,u3,u4]
  refine tk 10 ?_;try simp only[Act.put,u2,u3,u4]
  refine tk 11 ?_;try simp only[Act.put,u2,u3,u4]
  refine wpAnyH_done kr ?_ _;refine yD ?_;refine wpOp_step (o:=_) rfl (fun KK hKK=> ?_);go_simp;refine hKK _ _ (NoPanic.normal ?_);try simp only[Act.put,u2,u3,u4]
  have hnds7:=xw ((World.ownsRow.drew hnds6).alloc _) ((World.ownsRow.drew hprs6).alloc _) (by decide) hg7;have hnos7:=xw ((World.ownsRow.drew hnos6).alloc _) ((World.ownsRow.drew hprs6).alloc _) (by decide) hg7;have g7:=(g6.drew.alloc _).grown hg7 (fun k hk=>⟨(HPL.out k hk).1,.inl (.inr (.inl (wF hk)))⟩);have hA7:∀g,A7.map (·.block)=some g→tZ b A An Ap g∨w.heap.size≤g:=fun g hg=>by
   have hgo:=mg hown7 g hg;rcases hat7 with h|h
   ·rw[h] at hgo
    exact .inl (.inr (.inl (wF hgo)))
   ·rw[h] at hgo
    injection hgo with hgo
    have:=g6.size;try simp only[World.size_alloc] at hgo
    exact .inr (by simp at hgo;omega)
  go_end0;have hK':=HKG.out;have hT':=HT.out;subst hK';have hps:({ K with ps:=K.ps++[(p1,p2)] } :Kn).ps.length=K.ps.length+1:=(by simp);refine⟨rfl,⟨A7,An',A5,cap7,cn',cap5,⟨hbB,?_,?_,?_,?_⟩,?_⟩,g7.setCell (p:=⟨b,3,none⟩) ⟨hbB,.inl (.inl rfl)⟩ _⟩
  ·unfold trC
   rw[hps,hT'];exact hbox7.set 3 _
  ·rw[hps]
   show World.ownsRow _ _ _ _ _ _ (psV (K.ps++[(p1,p2)]));rw[Zq];exact zH hown7 (p:=⟨b,3,none⟩) (own_ne hown7 hbox7 (by decide)) _
  ·rw[hT']
   exact zH hnds7 (p:=⟨b,3,none⟩) (own_ne hnds7 hbox7 (by decide)) _
  ·rw[hT',hps,List.map_append]
   exact zH hnos7 (p:=⟨b,3,none⟩) (own_ne hnos7 hbox7 (by decide)) _
  ·rintro g (hg|hg|hg|hg)
   ·exact .inl (.inl hg)
   ·exact hA7 g hg
   ·exact HA.out g hg
   ·exact hA5.out g hg
theorem aC {w:World}{B:Nat}{e:TypeId}{A:Option Addr}{n cap size k:Nat}{cs:List Value}(h:w.ownsRow B e size (.slice A n cap) n cs)(hk:k≤n):w.ownsRow B e size (.slice A k cap) k (cs.take (k*size)):=by
 obtain⟨h1,h2⟩:=h;have hmul:k*size≤n*size:=Nat.mul_le_mul_right _ hk;refine⟨by rw[List.length_take,h1];omega,?_⟩;rcases h2 with⟨h',h0⟩|⟨g,cap',cur,h',hb,hg,hn,hm,hs,ht⟩
 ·have:k=0:=oo
  subst this;left;injection h' with e1 e2 e3
  subst e1 e3;exact⟨rfl,rfl⟩
 ·injection h' with e1 e2 e3
  subst e1 e3;refine .inr ⟨g,cap,cur,rfl,hb,hg,oo,hm,hs,?_⟩;rw[←ht,List.take_take,Nat.min_eq_left hmul]
theorem RD {B b:Nat}{K:Kn}{A An Ap:Option Addr}{cap cn cp:Nat}(w:World)(hT:yO w B b K A An Ap cap cn cp)(hk:K.fine)(hb0:0≤K.base)(hb1:K.base≤K.ps.length):
 Calls Tryz.prog 236 #[.pointer (some ⟨b,0,none⟩)] w (kz B b { K with ps:=K.ps.take K.base.toNat } (tZ b A An Ap) w):=by
 have hst:=hk.st;have hcl:=hk.cl;have hnl:=hk.N9;obtain⟨hnl1,hnl2⟩:=hnl;have hTr:=hk.tr;have hprl:=hTr.len;have hpsl:=hk.len;obtain⟨kb,hkb⟩:∃kb:Nat,K.base=kb:=⟨K.base.toNat,oo⟩;have hkbl:kb≤K.ps.length:=oo;have hfine2:({ K with ps:=K.ps.take kb } :Kn).fine:=⟨hst,kW hk.pairs _,by show(K.ps.take kb).length≤1020;rw[List.length_take];omega⟩;obtain⟨nt,t1,t2,t3,t4⟩:=Pn (show(0:Int)≤K.cl by omega) K.ps kb hkbl;have ht0:K.cl.toNat≤nt:=by
  have h:=hfine2.tr.lits;have e:({ K with ps:=K.ps.take kb } :Kn).tr.nds=K.tr.nds.take nt:=t1;rw[e,List.length_take] at h;have:({ K with ps:=K.ps.take kb } :Kn).cl=K.cl:=rfl;rw[this] at h;omega
 have ht2:nt≤K.tr.nds.length:=t2;have HT1:Hid (({ K with ps:=K.ps.take kb } :Kn).tr=⟨K.tr.nds.take nt,K.tr.prs.take kb⟩):=by
  show _=_;have e1:({ K with ps:=K.ps.take kb } :Kn).tr.nds=K.tr.nds.take nt:=t1;have e2:({ K with ps:=K.ps.take kb } :Kn).tr.prs=K.tr.prs.take kb:=t3;generalize({ K with ps:=K.ps.take kb } :Kn).tr=T at*
  cases T;simp only at e1 e2;rw[e1,e2]
 have HT4:Hid (∀i (h:i<K.tr.nds.length),(i<nt→(K.tr.nds[i]?.getD ⟨0,0,0,0⟩).code<K.cl+2+(kb:Int))∧(nt≤i→K.cl+2+(kb:Int)≤(K.tr.nds[i]?.getD ⟨0,0,0,0⟩).code)):=fun i h=>by
  have:=t4 i h;rw[List.getElem?_eq_getElem h];exact this
 have HUp:Hid (∀i (h:i<K.tr.nds.length),(K.tr.nds[i]?.getD ⟨0,0,0,0⟩).par<(i:Int)∧(K.cl.toNat≤i→0≤(K.tr.nds[i]?.getD ⟨0,0,0,0⟩).par)):=fun i h=>by
  have:=hTr.up i h;rw[List.getElem?_eq_getElem h];exact this
 clear t1 t2 t3 t4 hTr;have hpw:K.cl=pow2 K.l:=rfl;have hpw1:2≤pow2 K.l:=oo;have hpw2:pow2 K.l≤256:=oo;have HCL:=Go.Lib.hid hpw;clear hpw;obtain⟨hbB,hbox,hprs,hnds,hnos⟩:=hT;have hbl:=hbox.lt;have HPL:=Go.Lib.hid hprs.lt;obtain⟨gn,cn2,hv,hgn⟩:=hnds.form oo;injection hv with e1 e2 e3
 subst e1 e3;clear e2;have hgnl:=(hnds.lt gn rfl).2;have hgnB:=(hnds.lt gn rfl).1;have hnl5:nt≤cn:=(by have:=(Sl.own hnds).1;omega);have hcapp:kb≤cap:=(by have:=(Sl.own hprs).1;omega);have hcapo:kb≤cp:=(by have:=(Sl.own hnos).1;omega);have hne:gn≠b:=own_ne hnds hbox (by decide) gn rfl;have HK1:Hid (K.base.toNat=kb):=(by show _=_;rw[hkb];simp);have HKB:=Go.Lib.hid hkb;have hX:=hbox.cell;clear hkb hfine2;have hbx0:K.base≤1020:=oo;go_enter Tryz.func236,Tryz.ntmps236;go_wp2_with fail;refine(xP _ _ _ _ hst).mono ?_;rintro e w1 ⟨rfl,hb1'⟩;have hbox1:=hbox.below hb1' hbl;have hprs1:=zf hprs hb1';have hnds1:=zf hnds hb1';have hnos1:=zf hnos hb1';have g1:Kept B (tZ b A (some ⟨gn,0,none⟩) Ap) w w1:=Kept.of_below hb1';clear hb1' hX hbox hprs hnds hnos;have hX1:=hbox1.cell;go_wp2_with fail;go_loopw [4] (fun v wr=>∃m:Nat,v= .int .i64 ((m:Int)+1)∧nt≤m+1∧m+1≤K.tr.nds.length∧Bk wr b 214 (trC K A (some ⟨gn,0,none⟩) Ap cap K.tr.nds.length cn cp)∧wr.ownsRow B 207 2 (.slice A K.ps.length cap) K.ps.length (psV K.ps)∧
  wr.ownsRow B 239 6 (.slice (some ⟨gn,0,none⟩) K.tr.nds.length cn) K.tr.nds.length (ndC K.tr.nds (m+1))∧wr.ownsRow B 3 1 (.slice Ap K.ps.length cp) K.ps.length (K.tr.prs.map ivn)∧Kept B (tZ b A (some ⟨gn,0,none⟩) Ap) w wr) (fun v _=>(intOf v).toNat)
 case atStart=>
  have e:K.tr.nds.length - 1+1=K.tr.nds.length:=oo;exact⟨K.tr.nds.length - 1,by congr 1;omega,by omega,by omega,hbox1,hprs1,by rw[e];exact hnds1,hnos1,g1⟩
 case round=>
  obtain⟨m,rfl,hn1,hn2,hbox2,hprs2,hnds2,hnos2,g2⟩:=hrel;clear hX1 hbox1 hprs1 hnds1 hnos1 g1;have hX2:=hbox2.cell;have hml:m<K.tr.nds.length:=oo;have hmi:(m:Int)<K.tr.nds.length:=oo;have cc:=(hnds2.cellAt (m*6+5) oo).trans (ve _ _ hml oo);have cp0:=(hnds2.cellAt (m*6+0) oo).trans (ve _ _ hml oo);have cx:=(hnds2.cellAt (m*6+2) oo).trans (ve _ _ hml oo);simp only[Nat.add_zero,ndV,List.getElem?_cons_zero,List.getElem?_cons_succ] at cc cp0 cx;have hup:=HUp.out m hml;have hcd:=HT4.out m hml;have HPop:Hid (∀P,P<m→(K.tr.nds[m]?.getD ⟨0,0,0,0⟩).par=(P:Int)→((ndC K.tr.nds (m+1)).set (P*6+1) (Value.int .i64 (nxt K.tr.nds m)))=ndC K.tr.nds m):=fun P hP h=>Lp K.tr.nds m P hml hP h;generalize K.tr.nds[m]?.getD ⟨0,0,0,0⟩=d at*;obtain⟨dp,dl,df,dc⟩:=d;simp only at cc cp0 hup hcd HPop;rw[HCL.out] at hcd;obtain⟨hup1,hup2⟩:=hup;obtain⟨hcd1,hcd2⟩:=hcd;by_cases hnt:nt≤m
  ·have hlim:pow2 K.l+1+1+K.base≤dc:=by have:=hcd2 hnt;have:=HKB.out;omega
   have hp0:=hup2 oo;obtain⟨P,rfl⟩:=Int.eq_ofNat_of_zero_le hp0;have hPm:P<m:=oo;have hPi:(P:Int)<K.tr.nds.length:=oo;have HP:=Go.Lib.hid (HPop.out P hPm rfl);clear hup2 hcd1 hcd2 HPop;have hcl1:=(hnds2.cellAt (P*6+1) oo).trans (ve _ _ (show P<K.tr.nds.length by omega) oo);simp only[ndV,List.getElem?_cons_zero,List.getElem?_cons_succ] at hcl1;have hfr1:=hnds2.frozenAt (P*6+1);have hgn3:=(hnds2.lt gn rfl).2;have hbl3:=hbox2.lt;have HM:Hid (∀w',Below wr.heap.size wr w'→(w'.cell? ⟨b,6,none⟩=some (.slice (some ⟨gn,0,none⟩) K.tr.nds.length cn)∧w'.cell? ⟨gn,m*6,none⟩=some (.int .i64 (P:Int))∧w'.cell? ⟨gn,m*6+2,none⟩=some (.int .i64 (nxt K.tr.nds m)))):=fun w' h=>⟨(h.cell (p:=⟨_,_,_⟩) oB).trans (hX2 6),(h.cell (p:=⟨_,_,_⟩) oB).trans (cp0),(h.cell (p:=⟨_,_,_⟩) oB).trans (cx)⟩;go_upto_region 5 with(fail)
   refine yY 22 (fun w'=>w'.cell? ⟨b,6,none⟩=some (.slice (some ⟨gn,0,none⟩) K.tr.nds.length cn)∧w'.cell? ⟨gn,m*6,none⟩=some (.int .i64 (P:Int))∧w'.cell? ⟨gn,m*6+2,none⟩=some (.int .i64 (nxt K.tr.nds m))) kr kr (by first|(exact HM.out _ wL)|go_keep) (fun hSS=> ?_);simp only[List.take_succ_cons,List.take_zero];refine tk 0 ?_;try simp only[Act.put,u2,u3,u4]
   refine tk 1 ?_;try simp only[Act.put,u2,u3,u4]
   refine tk 2 ?_;try simp only[Act.put,u2,u3,u4]
   refine tk 3 ?_;try simp only[Act.put,u2,u3,u4]
   refine tk 4 ?_;try simp only[Act.put,u2,u3,u4]
   refine tk 5 ?_;try simp only[Act.put,u2,u3,u4]
   refine tk 6 ?_;try simp only[Act.put,u2,u3,u4]
   refine tk 7 ?_;try simp only[Act.put,u2,u3,u4]
   refine tk 8 ?_;try simp only[Act.put,u2,u3,u4]
   refine tk 9 ?_;try simp only[Act.put,u2,u3,u4]
   refine tk 10 ?_;try simp only[Act.put,u2,u3,u4]
   refine tk 11 ?_;try simp only[Act.put,u2,u3,u4]
   refine tk 12 ?_;try simp only[Act.put,u2,u3,u4]
   refine tk 13 ?_;try simp only[Act.put,u2,u3,u4]
   refine tk 14 ?_;try simp only[Act.put,u2,u3,u4]
   refine tk 15 ?_;try simp only[Act.put,u2,u3,u4]
   refine tk 16 ?_;try simp only[Act.put,u2,u3,u4]
   refine tk 17 ?_;try simp only[Act.put,u2,u3,u4]
   refine tk 18 ?_;try simp only[Act.put,u2,u3,u4]
   refine tk 19 ?_;try simp only[Act.put,u2,u3,u4]
   refine tk 20 ?_;try simp only[Act.put,u2,u3,u4]
   refine tk 21 ?_;try simp only[Act.put,u2,u3,u4]
   refine wpAnyH_done kr ?_ _;refine yD ?_;refine wpOp_step (o:=_) rfl (fun KK hKK=> ?_);go_simp;refine hKK _ _ (NoPanic.normal ?_);try simp only[Act.put,u2,u3,u4]
   go_wp2;go_roundw
   case rel=>
    obtain⟨q,rfl⟩:∃q,m=q+1:=⟨m - 1,oo⟩;refine⟨q,by go_num,oo,oo,?_,?_,?_,?_,?_⟩
    ·exact hbox2.far (p:=⟨gn,P*6+1,none⟩) (fun e=>hne e.symm) _
    ·exact zH hprs2 (p:=⟨gn,P*6+1,none⟩) (pM hprs2 hnds2 (by decide)) _
    ·have h:=(hnds2.stored (P*6+1) (.int .i64 (nxt K.tr.nds (q+1)))).1
     rw[HP.out] at h;exact h
    ·exact zH hnos2 (p:=⟨gn,P*6+1,none⟩) (pM hnos2 hnds2 (by decide)) _
    ·exact(g2.setCell (p:=⟨gn,P*6+1,none⟩) ⟨hgnB,.inl (.inr (.inr (.inl rfl)))⟩ _).drew
   case measure=>first|(simp [intOf];done)|(simp [intOf];omega)
  ·have hlim:¬pow2 K.l+1+1+K.base≤dc:=by have:=hcd1 oo;have:=HKB.out;omega
   have hme:m+1=nt:=oo;clear hup1 hup2 hcd1 hcd2 HPop cp0 cx;subst hme;have hcn:(m:Int)+1≤cn:=oo;have hcb1:K.base≤cap:=(by have:=HKB.out;omega);have hcb2:K.base≤cp:=(by have:=HKB.out;omega);have hF2:=hbox2.free;go_upto_region 7 with(fail)
   have hbox3:=hbox2.set 6 (.slice (some ⟨gn,0,none⟩) (m+1) cn);have hprs3:=zH hprs2 (p:=⟨b,6,none⟩) (own_ne hprs2 hbox2 (by decide)) (.slice (some ⟨gn,0,none⟩) (m+1) cn);have hnds3:=zH hnds2 (p:=⟨b,6,none⟩) (own_ne hnds2 hbox2 (by decide)) (.slice (some ⟨gn,0,none⟩) (m+1) cn);have hnos3:=zH hnos2 (p:=⟨b,6,none⟩) (own_ne hnos2 hbox2 (by decide)) (.slice (some ⟨gn,0,none⟩) (m+1) cn);have g3:=g2.setCell (p:=⟨b,6,none⟩) ⟨hbB,.inl (.inl rfl)⟩ (.slice (some ⟨gn,0,none⟩) (m+1) cn);generalize wr.setCell ⟨b,6,none⟩ (.slice (some ⟨gn,0,none⟩) (m+1) cn)=w3 at*;clear hX2 hF2 hbox2 hprs2 hnds2 hnos2 g2 cc;have hX3:=hbox3.cell;have hF3:=hbox3.free;go_upto_region 8 with(fail)
   have hbox4:=hbox3.set 7 (.slice Ap K.base.toNat cp);have hprs4:=zH hprs3 (p:=⟨b,7,none⟩) (own_ne hprs3 hbox3 (by decide)) (.slice Ap K.base.toNat cp);have hnds4:=zH hnds3 (p:=⟨b,7,none⟩) (own_ne hnds3 hbox3 (by decide)) (.slice Ap K.base.toNat cp);have hnos4:=zH hnos3 (p:=⟨b,7,none⟩) (own_ne hnos3 hbox3 (by decide)) (.slice Ap K.base.toNat cp);have g4:=g3.setCell (p:=⟨b,7,none⟩) ⟨hbB,.inl (.inl rfl)⟩ (.slice Ap K.base.toNat cp);generalize w3.setCell ⟨b,7,none⟩ (.slice Ap K.base.toNat cp)=w4 at*;clear hX3 hF3 hbox3 hprs3 hnds3 hnos3 g3;have hX4:=hbox4.cell;have hF4:=hbox4.free;go_wp2;go_end0;have hk1:=HK1.out;have ht1:=HT1.out;have hps:({ K with ps:=K.ps.take K.base.toNat } :Kn).ps.length=kb:=(by show(K.ps.take K.base.toNat).length=kb;rw[hk1,List.length_take];omega);have htr:({ K with ps:=K.ps.take K.base.toNat } :Kn).tr=⟨K.tr.nds.take (m+1),K.tr.prs.take kb⟩:=(by rw[hk1];exact ht1);have hndl:(K.tr.nds.take (m+1)).length=m+1:=(by rw[List.length_take];omega);refine⟨rfl,⟨A,some ⟨gn,0,none⟩,Ap,cap,cn,cp,⟨hbB,?_,?_,?_,?_⟩,fun g hg=>.inl hg⟩,g4.setCell (p:=⟨b,3,none⟩) ⟨hbB,.inl (.inl rfl)⟩ _⟩
   ·unfold trC
    rw[hps,htr,hndl];have h:=hbox4.set 3 (.slice A K.base.toNat cap);rw[hk1] at h⊢;exact h
   ·rw[hps]
    show World.ownsRow _ _ _ _ _ _ (psV (K.ps.take K.base.toNat));rw[hk1,Yr];exact aC (zH hprs4 (p:=⟨b,3,none⟩) (own_ne hprs4 hbox4 (by decide)) _) hkbl
   ·rw[htr,hndl]
    have h:=aC (k:=m+1) (zH hnds4 (p:=⟨b,3,none⟩) (own_ne hnds4 hbox4 (by decide)) (.slice A K.base.toNat cap)) oo;rw[OB _ _ hn2,hndl] at h;exact h
   ·rw[htr,hps]
    have h:=aC (k:=kb) (zH hnos4 (p:=⟨b,3,none⟩) (own_ne hnos4 hbox4 (by decide)) (.slice A K.base.toNat cap)) hkbl;rw[Nat.mul_one,←List.map_take] at h;exact h
theorem yO.setLast {w:World}{B b:Nat}{K:Kn}{A An Ap:Option Addr}{cap cn cp:Nat}(h:yO w B b K A An Ap cap cn cp)(x:Int):yO (w.setCell ⟨b,5,none⟩ (.int .i64 x)) B b { K with last:=x } A An Ap cap cn cp:=
 ⟨h.bB,h.box.set 5 _,zH h.prs (p:=⟨b,5,none⟩) (own_ne h.prs h.box (by decide)) _,zH h.nds (p:=⟨b,5,none⟩) (own_ne h.nds h.box (by decide)) _,zH h.nos (p:=⟨b,5,none⟩) (own_ne h.nos h.box (by decide)) _⟩
theorem mf {B b:Nat}{K:Kn}{A An Ap:Option Addr}{cap cn cp:Nat}(w:World)(hT:yO w B b K A An Ap cap cn cp)(hk:K.ok):
 Calls Tryz.prog 204 #[.pointer (some ⟨b,0,none⟩),.int .i64 K.cl] w (kz B b K.cleared (tZ b A An Ap) w):=by
 have hst:=hk.st;have hX:=hT.box.cell;have hbB:=hT.bB;have hbl:=hT.box.lt;have cF:=fun w hT=>RD w hT hk.fine hk.base0 hk.base1 (b:=b) (B:=B) (A:=A) (An:=An) (Ap:=Ap) (cap:=cap) (cn:=cn) (cp:=cp);have HKC:Hid (K.cleared= { ({ K with ps:=K.ps.take K.base.toNat } :Kn) with last:= -1 }):=rfl;generalize hK1:({ K with ps:=K.ps.take K.base.toNat } :Kn)=K1 at*;have CF:=Go.Lib.hid cF;clear hK1 cF;have hcl:(K.cl==pow2 K.l)=true:=(by simp [Kn.cl]);generalize K.cl=c at*;go_enter Tryz.func204,Tryz.ntmps204;go_wp2_with fail;refine(yX _ _ _ _ hst).mono ?_;rintro e w1 ⟨rfl,hb1⟩;have hT1:=hT.keep hb1;have g1:Kept B (tZ b A An Ap) w w1:=Kept.of_below hb1;have hbl1:=hT1.box.lt;clear hX hb1;go_wp2_with fail;refine(CF.out _ hT1).mono ?_;rintro e w2 ⟨rfl,⟨A2,An2,Ap2,cap2,cn2,cp2,hT2,hS2⟩,g2⟩;have hX2:=hT2.box.cell;have hF2:=hT2.box.free;have g3:=g1.trans g2;have hz1:=g1.size;go_wp2;go_end0;refine⟨rfl,⟨A2,An2,Ap2,cap2,cn2,cp2,?_,fun g hg=>(hS2 g hg).elim .inl (fun h=>.inr oo)⟩,g3.setCell (p:=⟨b,5,none⟩) ⟨hbB,.inl (.inl rfl)⟩ _⟩;rw[HKC.out];exact hT2.setLast (-1)
theorem lV {B b : Nat} {K : Kn} {A An Ap : Option Addr} {cap cn cp : Nat} (c : Int) (w : World) (hT : yO w B b K A An Ap cap cn cp) (hk : K.ok) (hc : K.fol c = true) :
  Calls Tryz.prog 204 #[.pointer (some ⟨b, 0, none⟩), .int .i64 c] w (kz B b (K.after c) (tZ b A An Ap) w) := by
 have hst := hk.st
 have hX := hT.box.cell
 have hbB := hT.bB
 have hbl := hT.box.lt
 have hbd := hk.bd
 have hfb := dU hk hc
 have hncl : (c == pow2 K.l) = false := by
  have h := hfb.2.2.1
  unfold Kn.cl at h
  simpa using h
 have cG := fun w => uw K A cap w hk
 have cX := fun w => xu K A cap w hst oo
 by_cases hg : K.gr = true
 ·have hgl := K.rq hk hg
  have hal := K.rE hk hc
  have hlit := dw hal.1 (K.V5 hk hc)
  have hh := gK (K.any c)
  have hlen : K.ps.length < 1020 := by
   unfold Kn.gr at hg
   simp only [decide_eq_true_eq] at hg
   have := hg.2
   unfold Kn.nx at this
   unfold Kn.cl at hbd
   omega
  -- the code whose first byte is learned
  obtain ⟨f, hf1, hf2, hf3⟩ : ∃ f : Int, (f = if c = K.nx then K.last else c) ∧ codeOk K.cl K.ps.length f ∧ wE (K.word f) = wE (K.any c) := by
   refine ⟨_, rfl, ?_, ?_⟩
   ·split
    ·exact hgl
    ·unfold Kn.fol at hc
     simp only [decide_eq_true_eq] at hc
     rcases hc with hc | ⟨_, hc⟩
     ·exact hc
     ·contradiction
   ·unfold Kn.any
    split
    ·rw [Xq]
     have := fK hk.pairs _ _ (Nat.le_refl _) hgl
     intro hne
     unfold Kn.word at hne
     rw [hne] at this
     simp at this
    ·rfl
  have HF1 := Go.Lib.hid hf1
  clear hf1
  have hnode := (K.uB hk hf2).1
  have hfirst := K.aZ hk hf2
  rw [hf3] at hfirst
  have cN := fun w hT => qH f w hT hk.fine hf2 (b := b) (B := B) (A := A) (An := An) (Ap := Ap) (cap := cap) (cn := cn) (cp := cp)
  have cL := fun w hT => Xl K.last (wE (K.any c)) w hT hk.fine hlen hgl hh.1 hlit (b := b) (B := B) (A := A) (An := An) (Ap := Ap) (cap := cap) (cn := cn) (cp := cp)
  have HKA : Hid (K.after c = { ({ K with ps := K.ps ++ [(K.last, wE (K.any c))] } : Kn) with last := c }) := by
   show _ = _
   unfold Kn.after
   rw [if_pos hg]
  have hnl := hk.fine.N9
  obtain ⟨hnl1, hnl2⟩ := hnl
  generalize hK1 : ({ K with ps := K.ps ++ [(K.last, wE (K.any c))] } : Kn) = K1 at *
  generalize wE (K.any c) = x at *
  generalize K.tr.xh K.cl f = P at *
  clear hK1
  have CN := Go.Lib.hid cN
  have CL := Go.Lib.hid cL
  have CG := Go.Lib.hid cG
  have CX := Go.Lib.hid cX
  have HF := Go.Lib.hid hfirst
  clear cN cL cG cX hfirst hf3
  obtain ⟨hh1, hh2⟩ := hh
  go_enter Tryz.func204, Tryz.ntmps204
  go_wp2_with fail
  refine (yX _ _ _ _ hst).mono ?_
  rintro e w1 ⟨rfl, hb1⟩
  have hT1 := hT.keep hb1
  have g1 : Kept B (tZ b A An Ap) w w1 := Kept.of_below hb1
  clear hX hb1
  have hX1 := hT1.box.cell
  go_wp2_with fail
  refine (CG.out _).mono ?_
  rintro e w2 ⟨rfl, hb2⟩
  have hT2 := hT1.keep hb2
  have g2 := g1.trans (Kept.of_below hb2)
  clear hX1 hb2 hT1 g1
  have hX2 := hT2.box.cell
  go_wp2_with fail
  refine (CX.out _).mono ?_
  rintro e w3 ⟨rfl, hb3⟩
  have hT3 := hT2.keep hb3
  have g3 := g2.trans (Kept.of_below hb3)
  clear hX2 hb3 hT2 g2
  obtain ⟨hbB', hbox, hprs, hnds, hnos⟩ := hT3
  have hX3 := hbox.cell
  obtain ⟨gn, cn2, hv, hgn⟩ := hnds.form oo
  injection hv with e1 e2 e3
  subst e1 e3
  clear e2
  have hgnl := (hnds.lt gn rfl).2
  have hbl3 := hbox.lt
  have cc := (hnds.cellAt (P * 6 + 4) oo).trans (ve _ _ hnode oo)
  simp only [ndV, List.getElem?_cons_zero, List.getElem?_cons_succ] at cc
  have hPi : (P : Int) < K.tr.nds.length := oo
  have hHF := HF.out
  rw [hHF] at cc
  clear hHF
  go_upto_if 31 with (fail)
  go_cut [4] (fun v wx => v = .int .i64 f ∧ w3 = wx)
  case first =>
   by_cases hcn : c = K.nx
   ·have hcb : (c == K.nx) = true := by simpa using hcn
    have hf1 := HF1.out
    rw [if_pos hcn] at hf1
    clear hcn HF1
    subst hf1
    go_wp2_with fail
    go_meet
    exact ⟨rfl, rfl⟩
   ·have hcb : (c == K.nx) = false := by simpa using hcn
    have hf1 := HF1.out
    rw [if_neg hcn] at hf1
    clear hcn HF1
    subst hf1
    go_wp2_with fail
    go_meet
    exact ⟨rfl, rfl⟩
  case rest =>
   obtain ⟨rfl, rfl⟩ := hcut
   have HM : Hid (∀ w', Below w3.heap.size w3 w' → (w'.cell? ⟨b, 5, none⟩ = some (.int .i64 K.last) ∧ w'.cell? ⟨b, 6, none⟩ = some (.slice (some ⟨gn, 0, none⟩) K.tr.nds.length cn) ∧ w'.cell? ⟨gn, P * 6 + 4, none⟩ = some (.int .u8 x))) := fun w' h => ⟨(h.cell (p := ⟨_, _, _⟩) oB).trans (hX3 5), (h.cell (p := ⟨_, _, _⟩) oB).trans (hX3 6), (h.cell (p := ⟨_, _, _⟩) oB).trans (cc)⟩
   have hT3 : yO w3 B b K A (some ⟨gn, 0, none⟩) Ap cap cn cp := ⟨hbB', hbox, hprs, hnds, hnos⟩
   clear hX3 cc hbox hprs hnds hnos
   have hwx : IntKind.i64.wrap x = x := IntWalk.i64_in _ oo
   go_upto_region 7 with (fail)
   refine yY 18 (fun w' => w'.cell? ⟨b, 5, none⟩ = some (.int .i64 K.last) ∧ w'.cell? ⟨b, 6, none⟩ = some (.slice (some ⟨gn, 0, none⟩) K.tr.nds.length cn) ∧ w'.cell? ⟨gn, P * 6 + 4, none⟩ = some (.int .u8 x)) kr kr (by first | (exact HM.out _ wL) | go_keep) (fun hSS => ?_)
   simp only [List.take_succ_cons, List.take_zero]
   refine tk 0 ?_
   try simp only [Act.put, u2, u3, u4]
   refine tk 1 ?_
   try simp only [Act.put, u2, u3, u4]
   refine tk 2 ?_
   try simp only [Act.put, u2, u3, u4]
   refine tk 3 ?_
   try simp only [Act.put, u2, u3, u4]
   refine tk 4 ?_
   try simp only [Act.put, u2, u3, u4]
   refine tk 5 ?_
   try simp only [Act.put, u2, u3, u4]
   refine tk 6 ?_
   try simp only [Act.put, u2, u3, u4]
   refine tk 7 ?_
   try simp only [Act.put, u2, u3, u4]
   refine tk 8 ?_
   try simp only [Act.put, u2, u3, u4]
   refine tk 9 ?_
   try simp only [Act.put, u2, u3, u4]
   refine tk 10 ?_
   try simp only [Act.put, u2, u3, u4]
   refine tk 11 ?_
   try simp only [Act.put, u2, u3, u4]
   refine rd1 12 fun KK hKK => ?_
   go_simp
   (go_at_call 238; refine (CN.out _ (hT3.keep yL)).mono ?_; rintro e w4 ⟨rfl, hb4⟩; have hb4 : Below w3.heap.size w3 w4 := zG hb4; have hy4 := hb4.size; have hT4 := hT3.keep hb4; have g4 := g3.trans (Kept.of_below hb4))
   refine hKK.out _ _ (by first | (exact HM.out _ wL) | go_keep) fun hSS => ?_
   try simp only [Act.put, u2, u3, u4]
   refine tk 13 ?_
   try simp only [Act.put, u2, u3, u4]
   refine tk 14 ?_
   try simp only [Act.put, u2, u3, u4]
   refine tk 15 ?_
   try simp only [Act.put, u2, u3, u4]
   refine tk 16 ?_
   try simp only [Act.put, u2, u3, u4]
   refine tk 17 ?_
   try simp only [Act.put, u2, u3, u4]
   refine wpAnyH_done kr ?_ _
   refine yD ?_
   refine wpOp_step (o := _) rfl (fun KK hKK => ?_)
   go_simp
   (go_at_call 235; refine (CL.out _ hT4).mono ?_; rintro e w5 ⟨rfl, ⟨A5, An5, Ap5, cap5, cn5, cp5, hT5, hS5⟩, g5⟩)
   refine hKK _ _ (NoPanic.normal ?_)
   try simp only [Act.put, u2, u3, u4]
   have hX5 := hT5.box.cell
   have hF5 := hT5.box.free
   have g6 := g4.trans g5
   have hz4 := g4.size
   go_wp2
   go_end0
   refine ⟨rfl, ⟨A5, An5, Ap5, cap5, cn5, cp5, ?_, fun g hg => (hS5 g hg).elim .inl (fun h => .inr oo)⟩, g6.setCell (p := ⟨b, 5, none⟩) ⟨hbB, .inl (.inl rfl)⟩ _⟩
   rw [HKA.out]
   exact hT5.setLast c
 ·have hg' : K.gr = false := by simpa using hg
  have HKA : Hid (K.after c = { K with last := c }) := by
   show _ = _
   unfold Kn.after
   rw [if_neg hg]
  have CG := Go.Lib.hid cG
  clear cG cX hg
  go_enter Tryz.func204, Tryz.ntmps204
  go_wp2_with fail
  refine (yX _ _ _ _ hst).mono ?_
  rintro e w1 ⟨rfl, hb1⟩
  have hT1 := hT.keep hb1
  have g1 : Kept B (tZ b A An Ap) w w1 := Kept.of_below hb1
  clear hX hb1
  have hX1 := hT1.box.cell
  go_wp2_with fail
  refine (CG.out _).mono ?_
  rintro e w2 ⟨rfl, hb2⟩
  have hT2 := hT1.keep hb2
  have g2 := g1.trans (Kept.of_below hb2)
  clear hX1 hb2 hT1 g1
  have hX2 := hT2.box.cell
  have hF2 := hT2.box.free
  go_wp2
  go_end0
  refine ⟨rfl, ⟨A, An, Ap, cap, cn, cp, ?_, fun g hg => .inl hg⟩, g2.setCell (p := ⟨b, 5, none⟩) ⟨hbB, .inl (.inl rfl)⟩ _⟩
  rw [HKA.out]
  exact hT2.setLast c
end Go.Proofs.YtfppmajoidkooaaGreatDoor
