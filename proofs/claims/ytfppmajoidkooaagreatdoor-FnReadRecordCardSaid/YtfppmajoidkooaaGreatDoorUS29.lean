import Derived.Test.YtfppmajoidkooaaGreatDoorUS28
import Derived.Test.YtfppmajoidkooaaGreatDoorUGU4
import Derived.Test.YtfppmajoidkooaaGreatDoorUGW
import Derived.Deep.Cut
import Derived.Test.YtfppmajoidkooaaGreatDoorUW16
import Derived.Test.YtfppmajoidkooaaGreatDoorUQ15
import Derived.Test.YtfppmajoidkooaaGreatDoorUJ29
import Derived.Test.YtfppmajoidkooaaGreatDoorUQ14
import Derived.Test.YtfppmajoidkooaaGreatDoorUW4
set_option linter.unusedVariables false
set_option linter.unusedSimpArgs false
set_option maxHeartbeats 8000000
namespace Go.Proofs.YtfppmajoidkooaaGreatDoor
open Go.RowKit
set_option maxRecDepth 100000
attribute [local go_sem high] zy zA zB zO zK zY zx zk zl zq zi zo yP zD yt zF
theorem iZ {S T:Sto}{x:OpR}(h:apO S x=some T):apT S x=(T,true):=by
 unfold apO at h;unfold apT;by_cases h4:x.k=4
 ·rw[if_pos h4] at h⊢
  split at h
  ·rename_i hi
   injection h with h
   rw[h,hi]
  ·cases h
 ·rw[if_neg h4] at h⊢
  have hc:((if x.k=0 then mkC S.o S.l S.m S.dict x.d x.s else(xK S.fs x.nm).bind fun i=>chO S x (S.fs[i]?.getD ([],[])).2))=chS S x:=rfl;rw[hc] at h
  cases hR:chS S x with
  |none=>rw[hR] at h;cases h
  |some X=>
   rw[hR,Option.bind_some] at h;split at h
   ·rename_i hl
    injection h with h
    simp only[Option.getD_some,Option.isSome_some,Bool.true_and];rw[h,decide_eq_true hl]
   ·cases h
theorem Uy {S:Sto}{x:OpR}(h:apO S x=none):(apT S x).2=false:=by
 unfold apO at h;unfold apT;by_cases h4:x.k=4
 ·rw[if_pos h4] at h⊢
  split at h
  ·cases h
  ·rename_i hi;simpa using hi
 ·rw[if_neg h4] at h⊢
  have hc:((if x.k=0 then mkC S.o S.l S.m S.dict x.d x.s else(xK S.fs x.nm).bind fun i=>chO S x (S.fs[i]?.getD ([],[])).2))=chS S x:=rfl;rw[hc] at h
  cases hR:chS S x with
  |none=>simp
  |some X=>
   rw[hR,Option.bind_some] at h;split at h
   ·cases h
   ·rename_i hl
    simp only[Option.getD_some,Option.isSome_some,Bool.true_and];simpa using hl
theorem Og {o l m:Int}{dict t x:Bs}(h:cdB o l m dict t=some x):t.length≤2960:=by
 unfold cdB at h;split at h
 ·cases hb:zT t with
  |none=>rw[hb] at h;cases h
  |some bs=>exact(xN hb).1
 ·cases h
theorem Sto.ok.bd {S:Sto}(h:S.ok):StB S:=by
 refine⟨by have:=h.1.2.1;omega,by have:=h.2.1;omega,fun f hf=> ?_⟩;obtain⟨i,hi,rfl⟩:=List.mem_iff_getElem.1 hf;obtain⟨h1,h2,_⟩:=h.2.2 i hi;have:=qx h1;obtain⟨d,hd⟩:=Option.isSome_iff_exists.1 h2;have:=Og hd;exact⟨by omega,oo⟩
theorem OpR.ok.bd {x:OpR}(h:x.ok):OpB x:=by
 obtain⟨h1,h2,h3⟩:=h;have:=qx h1;unfold OpB;rcases h3 with⟨h4|h4,_,_,_,_⟩|⟨h4,_,_,_,_⟩|⟨h4,_,_,_,_⟩|⟨h4,_,_,_,_⟩<;>(refine⟨?_,?_,?_,?_,?_,?_,?_,?_,?_,?_⟩<;>omega)
noncomputable def aoO (S:Sto)(x:OpR):Option Sto:=if S.okB=true∧uM x.k x.nm x.f x.t x.s x.d then apO S x else none
theorem KA {S:Sto}{x:OpR}(hS:S.ok)(hx:x.ok):aoO S x=apO S x:=by
 unfold aoO;rw[if_pos ⟨(Sto.Vt S).2 hS,hx⟩]
def yQ :Sto:=⟨0,0,0,[],[]⟩
theorem uA {w:World}{b:Nat}{t:TypeId}{x0 x1 x2 x3 x4:Value}(h:Bk w b t #[x0,x1,x2,x3,x4]):
 Bk (((((w.setCell ⟨b,0,none⟩ (.int .i64 0)).setCell ⟨b,1,none⟩ (.int .i64 0)).setCell ⟨b,2,none⟩ (.int .i64 0)).setCell ⟨b,3,none⟩ (.string ⟨#[]⟩)).setCell ⟨b,4,none⟩ (.slice none 0 0)) b t xy:=uo h ⟨0,0,0,[],[]⟩ none 0
theorem TE (S:Sto)(x:OpR)(A:Option Addr)(cap:Nat)(w:World)(hs:Sl w A S.fs.length cap 2 (yf S.fs))(hS:S.dict.length≤1500000∧S.fs.length≤1500000∧∀f ∈ S.fs,f.1.length≤1500000∧f.2.length≤1500000)(hx:x.nm.length≤1500000∧x.d.length≤1500000):
 Calls Tryz.prog 71 #[S.V A cap,x.val] w (StO ((aoO S x).getD yQ) (aoO S x).isSome w):=by
 have hl:=hS.2.1;have hcap:=hs.1;have hcap2:=hs.2.1;have cV:Hid (∀wr,Below w.heap.size w wr→Calls Tryz.prog 55 #[S.V A cap] wr fun e w'=>e= .returned (.bool S.okB)∧Below wr.heap.size wr w'):=fun wr h=>ai S A cap wr (hs.below h) hS.1 oo hS.2.2;have cO:Hid (∀wr,Calls Tryz.prog 98 #[x.val] wr fun e w'=>e= .returned (.bool (decide (uM x.k x.nm x.f x.t x.s x.d)))∧Below wr.heap.size wr w'):=fun wr=>mi x.k x.f x.t x.s x.nm x.d wr oo oo;have cP:Hid (S.okB=true→decide (uM x.k x.nm x.f x.t x.s x.d)=true→∀wr,Below w.heap.size w wr→Calls Tryz.prog 66 #[S.V A cap,x.val] wr (StO (apT S x).1 (apT S x).2 wr)):=fun h1 hok wr h=>cu S x A cap wr (hs.below h) (Sto.ok.bd ((Sto.Vt S).1 h1)) (OpR.ok.bd (of_decide_eq_true hok));clear hs hS hx;obtain⟨bv,hbv⟩:∃b,S.okB=b:=⟨_,rfl⟩;obtain⟨ov,hov⟩:∃b,decide (uM x.k x.nm x.f x.t x.s x.d)=b:=⟨_,rfl⟩;obtain⟨T,hT⟩:∃T,apT S x=T:=⟨_,rfl⟩;rw[hbv] at cV;rw[hov] at cO;rw[hT,hov,hbv] at cP;obtain⟨R,hR⟩:∃R,aoO S x=R:=⟨_,rfl⟩;have HN:Hid ((bv=false∨ov=false∨T.2=false)→R=none):=by
  intro h;rw[←hR];unfold aoO;split
  ·rename_i hh
   cases ha:apO S x with
   |none=>rfl
   |some U=>
    have:=iZ ha;rw[hT] at this;rw[hbv] at hh;rcases h with h|h|h
    ·rw[h] at hh;simp at hh
    ·rw[h] at hov;exact absurd hh.2 (by simpa using hov)
    ·rw[this] at h;cases h
  ·rfl
 have HY:Hid (bv=true→ov=true→T.2=true→R=some T.1):=by
  intro h1 h2 h3;rw[←hR];unfold aoO;rw[if_pos ⟨hbv.trans h1,by rw[h2] at hov;simpa using hov⟩]
  cases ha:apO S x with
  |none=>have:=Uy ha;rw[hT] at this;rw[this] at h3;cases h3
  |some U=>have:=iZ ha;rw[hT] at this;rw[this]
 rw[hR];clear hbv hov hT hR;obtain⟨T,tb⟩:=T;obtain⟨o,l,m,dict,fs⟩:=S;obtain⟨k,f,t,s,nm,d⟩:=x;simp only at*;unfold StO;go_enter Tryz.func71,Tryz.ntmps71;have hA:Bk (((w.alloc (.cells (Sto.C ⟨o,l,m,dict,fs⟩ A cap) 42)).alloc (.cells (OpR.cells ⟨k,f,t,s,nm,d⟩) 26)).alloc (.cells xy 42)) w.heap.size 42 (Sto.C ⟨o,l,m,dict,fs⟩ A cap):=tBk;have hO:Bk (((w.alloc (.cells (Sto.C ⟨o,l,m,dict,fs⟩ A cap) 42)).alloc (.cells (OpR.cells ⟨k,f,t,s,nm,d⟩) 26)).alloc (.cells xy 42)) (w.heap.size+1) 26 (OpR.cells ⟨k,f,t,s,nm,d⟩):=tBk;have hB:Bk (((w.alloc (.cells (Sto.C ⟨o,l,m,dict,fs⟩ A cap) 42)).alloc (.cells (OpR.cells ⟨k,f,t,s,nm,d⟩) 26)).alloc (.cells xy 42)) (w.heap.size+1+1) 42 xy:=tBk;have g0:Below w.heap.size w (((w.alloc (.cells (Sto.C ⟨o,l,m,dict,fs⟩ A cap) 42)).alloc (.cells (OpR.cells ⟨k,f,t,s,nm,d⟩) 26)).alloc (.cells xy 42)):=zu;simp only[Sto.C,OpR.cells] at hA hO hB g0;go_upto_region 1 with(fail)
 generalize((w.alloc (.cells #[.int .i64 o,.int .i64 l,.int .i64 m,.string ⟨dict.toArray⟩,.slice A fs.length cap] 42)).alloc (.cells #[.int .i64 k,.string ⟨nm.toArray⟩,.int .i64 f,.int .i64 t,.int .i64 s,.string ⟨d.toArray⟩] 26)).alloc (.cells xy 42)=w0 at*;have z0:=g0.size;have la:=hA.lt;have lo:=hO.lt;have lb:=hB.lt;have hXA:=hA.cell;have hXO:=hO.cell;go_wp2_with fail;refine(cV.out _ g0).mono ?_;rintro e w1 ⟨rfl,b1⟩;have z1:=b1.size;have hA1:=hA.below b1 la;have hO1:=hO.below b1 lo;have hB1:=hB.below b1 lb;have g1:=g0.trans (b1.mono oo);have hXA1:=hA1.cell;have hXO1:=hO1.cell;have hXB1:=hB1.cell;have hFB1:=hB1.free;clear hA hO hB hXA hXO b1 g0 cV
 cases bv with
 |false=>
  have hR:=HN.out (.inl rfl);subst hR;clear HN HY cO cP;go_wp2;have Q:=(uA hB1).cell;have gg:=yA g1 (b:=w.heap.size+1+1) oo yQ none 0;exact bodyPost_ret (v:=.tuple #[Sto.V yQ none 0,.bool false]) (by simp [results,Tryz.results71,go_sem,Q,Sto.V,yQ]) rfl ⟨none,0,rfl,⟨rfl,.inl ⟨rfl,rfl⟩⟩,gg⟩
 |true=>
 go_wp2_with fail;refine(cO.out _).mono ?_;rintro e w2 ⟨rfl,b2⟩;have z2:=b2.size;have hA2:=hA1.below b2 oo;have hO2:=hO1.below b2 oo;have hB2:=hB1.below b2 oo;have g2:=g1.trans (b2.mono oo);have hXA2:=hA2.cell;have hXO2:=hO2.cell;have hXB2:=hB2.cell;have hFB2:=hB2.free;clear hA1 hO1 hB1 hXA1 hXO1 hXB1 hFB1 b2 g1 cO
 cases ov with
 |false=>
  have hR:=HN.out (.inr (.inl rfl));subst hR;clear HN HY cP;go_wp2;have Q:=(uA hB2).cell;have gg:=yA g2 (b:=w.heap.size+1+1) oo yQ none 0;exact bodyPost_ret (v:=.tuple #[Sto.V yQ none 0,.bool false]) (by simp [results,Tryz.results71,go_sem,Q,Sto.V,yQ]) rfl ⟨none,0,rfl,⟨rfl,.inl ⟨rfl,rfl⟩⟩,gg⟩
 |true=>
 go_wp2_with fail;refine(cP.out (by first|exact rfl|exact trivial) (by first|exact rfl|exact trivial) _ g2).mono ?_;rintro e w3 ⟨A3,c3,rfl,o3,b3⟩;have z3:=b3.size;have o3:=zC (B':=w.heap.size+3) o3 oo;have hB3:=hB2.below b3 oo;have g3:=g2.trans (b3.mono oo);clear hA2 hO2 hB2 hXA2 hXO2 hXB2 hFB2 b3 g2 cP;obtain⟨To,Tl,Tm,Td,P⟩:=T;simp only at o3;have hB4:=hB3.alloc (.cells #[.int .i64 To,.int .i64 Tl,.int .i64 Tm,.string ⟨Td.toArray⟩,.slice A3 P.length c3] 42);have o4:=World.ownsRow.alloc o3 (.cells #[.int .i64 To,.int .i64 Tl,.int .i64 Tm,.string ⟨Td.toArray⟩,.slice A3 P.length c3] 42);have g4:=g3.alloc oo (.cells #[.int .i64 To,.int .i64 Tl,.int .i64 Tm,.string ⟨Td.toArray⟩,.slice A3 P.length c3] 42);have hD4:Bk (w3.alloc (.cells #[.int .i64 To,.int .i64 Tl,.int .i64 Tm,.string ⟨Td.toArray⟩,.slice A3 P.length c3] 42)) w3.heap.size 42 #[.int .i64 To,.int .i64 Tl,.int .i64 Tm,.string ⟨Td.toArray⟩,.slice A3 P.length c3]:=Bk.new w3 #[.int .i64 To,.int .i64 Tl,.int .i64 Tm,.string ⟨Td.toArray⟩,.slice A3 P.length c3] 42;have hXB:=hB4.cell;have hFB:=hB4.free;have hXD:=hD4.cell;go_upto_region 4 with(fail)
 clear hB3 o3 g3;generalize(w3.alloc (.cells #[.int .i64 To,.int .i64 Tl,.int .i64 Tm,.string ⟨Td.toArray⟩,.slice A3 P.length c3] 42))=w4 at*;generalize w3.heap.size=q at*
 cases tb with
 |false=>
  have hR:=HN.out (.inr (.inr rfl));subst hR;clear HN HY;go_wp2;have Q:=(uA hB4).cell;have gg:=yA g4 (b:=w.heap.size+1+1) oo yQ none 0;exact bodyPost_ret (v:=.tuple #[Sto.V yQ none 0,.bool false]) (by simp [results,Tryz.results71,go_sem,Q,Sto.V,yQ]) rfl ⟨none,0,rfl,⟨rfl,.inl ⟨rfl,rfl⟩⟩,gg⟩
 |true=>
  have hR:=HY.out (by first|exact rfl|exact trivial) (by first|exact rfl|exact trivial) (by first|exact rfl|exact trivial);subst hR;clear HN HY;go_wp2;have Q:=(uo hB4 ⟨To,Tl,Tm,Td,P⟩ A3 c3).cell;have o9:=zC (B':=w.heap.size) (oG o4 (b:=w.heap.size+1+1) oo ⟨To,Tl,Tm,Td,P⟩ A3 c3) oo;have gg:=yA g4 (b:=w.heap.size+1+1) oo ⟨To,Tl,Tm,Td,P⟩ A3 c3;exact bodyPost_ret (v:=.tuple #[Sto.V ⟨To,Tl,Tm,Td,P⟩ A3 c3,.bool true]) (by simp [results,Tryz.results71,go_sem,Q]) rfl ⟨A3,c3,rfl,o9,gg⟩
theorem WY (S:Sto)(x:OpR)(A:Option Addr)(cap:Nat)(w:World)(hs:Sl w A S.fs.length cap 2 (yf S.fs))(hS:StB S)(hx:OpB x):
 Calls Tryz.prog 71 #[S.V A cap,x.val] w (StO ((aoO S x).getD yQ) (aoO S x).isSome w):=
 TE S x A cap w hs ⟨hS.1,by have:=hS.2.1;omega,hS.2.2⟩ (by obtain⟨_,_,_,_,_,_,h,h2,_,_⟩:=hx;exact⟨h2,h⟩)
def StI (T:Sto)(n:Int)(b:Bool)(w:World)(e:Ending)(w':World):Prop:=∃A cap,e= .returned (.tuple #[T.V A cap,.int .i64 n,.bool b])∧w'.ownsRow w.heap.size 87 2 (.slice A T.fs.length cap) T.fs.length (yf T.fs)∧Below w.heap.size w w'
def OY (r:Option (Sto×Int)):World→Ending→World→Prop:=StI ((r.map (·.1)).getD yQ) ((r.map (·.2)).getD 0) r.isSome
theorem qM (o l m:Int)(dict log:Bs)(w:World)(hd:dict.length≤1500000)(hlg:log.length≤1500000):
 Calls Tryz.prog 24 #[.agg #[.int .i64 o,.int .i64 l,.int .i64 m],sv dict,sv log] w (OY (qj o l m dict log) w):=by
 obtain⟨R,hR⟩:∃R,qj o l m dict log=R:=⟨_,rfl⟩;rw[hR];have HR:=Go.Lib.hid hR;clear hR;unfold OY StI;go_enter Tryz.func24,Tryz.ntmps24;have hA:Bk ((w.alloc (.cells #[.int .i64 o,.int .i64 l,.int .i64 m] 39)).alloc (.cells xy 42)) w.heap.size 39 #[.int .i64 o,.int .i64 l,.int .i64 m]:=tBk;have hB:Bk ((w.alloc (.cells #[.int .i64 o,.int .i64 l,.int .i64 m] 39)).alloc (.cells xy 42)) (w.heap.size+1) 42 xy:=tBk;have g0:Below w.heap.size w ((w.alloc (.cells #[.int .i64 o,.int .i64 l,.int .i64 m] 39)).alloc (.cells xy 42)):=zu;go_upto_region 1 with(fail)
 generalize(w.alloc (.cells #[.int .i64 o,.int .i64 l,.int .i64 m] 39)).alloc (.cells xy 42)=w0 at*;have z0:=g0.size;have la:=hA.lt;have lb:=hB.lt;have hXA:=hA.cell;go_wp2_with fail;refine(aA o l m dict _ oo).mono ?_;rintro e w1 ⟨rfl,b1⟩;have z1:=b1.size;have hB1:=hB.below b1 lb;have g1:=g0.trans (b1.mono oo);clear hA hB hXA b1 g0;unfold rG;by_cases hf:fits o l m dict
 case neg=>
  rw[if_neg hf];have hN:R=none:=(by rw[←HR.out];unfold qj;rw[if_neg (fun h=>hf h.1)]);subst hN;clear HR hf;have hB2:=hB1.alloc (.cells xy 42);have g2:=g1.alloc oo (.cells xy 42);have hXB:=hB2.cell;have hFB:=hB2.free;unfold Go.Proofs.YtfppmajoidkooaaGreatDoor.stZ;go_wp2;have Q:=(uA hB2).cell;have gg:=yA g2 (b:=w.heap.size+1) oo yQ none 0;exact bodyPost_ret (v:=.tuple #[Sto.V yQ none 0,.int .i64 0,.bool false]) (by simp [results,Tryz.results24,go_sem,Q,Sto.V,yQ]) rfl ⟨none,0,rfl,⟨rfl,.inl ⟨rfl,rfl⟩⟩,gg⟩
 case pos=>
  rw[if_pos hf];unfold stV;have hB2:=hB1.alloc (.cells #[.int .i64 o,.int .i64 l,.int .i64 m,.string ⟨dict.toArray⟩,.slice none 0 0] 42);have g2:=g1.alloc oo (.cells #[.int .i64 o,.int .i64 l,.int .i64 m,.string ⟨dict.toArray⟩,.slice none 0 0] 42);have hD2:Bk (w1.alloc (.cells #[.int .i64 o,.int .i64 l,.int .i64 m,.string ⟨dict.toArray⟩,.slice none 0 0] 42)) w1.heap.size 42 #[.int .i64 o,.int .i64 l,.int .i64 m,.string ⟨dict.toArray⟩,.slice none 0 0]:=Bk.new w1 #[.int .i64 o,.int .i64 l,.int .i64 m,.string ⟨dict.toArray⟩,.slice none 0 0] 42;by_cases hlen:log.length≤30000
  case neg=>
   have hli:(30000:Int)<log.length:=oo;have hN:R=none:=(by rw[←HR.out];unfold qj;rw[if_neg (fun h=>hlen h.2)]);subst hN;clear HR hf;have hXB:=hB2.cell;have hFB:=hB2.free;go_wp2;have Q:=(uA hB2).cell;have gg:=yA g2 (b:=w.heap.size+1) oo yQ none 0;exact bodyPost_ret (v:=.tuple #[Sto.V yQ none 0,.int .i64 0,.bool false]) (by simp [results,Tryz.results24,go_sem,Q,Sto.V,yQ]) rfl ⟨none,0,rfl,⟨rfl,.inl ⟨rfl,rfl⟩⟩,gg⟩
  case pos=>
   have hli:¬(30000:Int)<log.length:=oo;obtain⟨T,hT⟩:∃T,vY (log.length+1) (ae o l m dict) log 0=T:=⟨_,rfl⟩;have hN:R=some T:=(by rw[←HR.out];unfold qj;rw[if_pos ⟨hf,hlen⟩,hT]);subst hN;have HT:=Go.Lib.hid hT;have HF:=Go.Lib.hid hf;clear HR hT hf;go_upto_region 4 with(fail)
   generalize w1.alloc (.cells #[.int .i64 o,.int .i64 l,.int .i64 m,.string ⟨dict.toArray⟩,.slice none 0 0] 42)=w2 at*;have z2:=hD2.lt;generalize w1.heap.size=q at*;obtain⟨T,tn⟩:=T;go_wp2;go_loopw [11] (fun a wr=>∃(n k:Nat) (S:Sto) (A:Option Addr) (cap:Nat),a= .int .i64 (k:Int)∧k≤log.length∧log.length<k+n∧Hid (vY n S log (k:Int)=(T,tn))∧Hid (S.ok)∧wr.ownsRow (q+1) 87 2 (.slice A S.fs.length cap) S.fs.length (yf S.fs)∧Bk wr (w.heap.size+1) 42 xy∧Bk wr q 42 (S.C A cap)∧Below w.heap.size w wr) (fun i _=>log.length - (intOf i).toNat)
   case atStart=>exact⟨log.length+1,0,ae o l m dict,none,0,rfl,oo,oo,HT,X0 HF.out,⟨rfl,.inl ⟨rfl,rfl⟩⟩,hB2,hD2,g2⟩
   case round=>
    obtain⟨n,k,S,A,cap,rfl,hk,hn,HG,HS,ow,hBr,hDr,g⟩:=hrel;clear hB2 hD2 g2 hB1 g1;have hz:=g.size;have lq:=hDr.lt;have lbr:=hBr.lt;have hsl:=Sl.own ow;have hbd:=HS.out.bd;have hsl3:S.fs.length≤6:=HS.out.2.1;have hcap:=hsl.1;have hcap2:=hsl.2.1;have HAP:Hid (∀(x:OpR) (hx:x.ok) (B:Nat) (w':World),Below B wr w'→wr.heap.size≤B→Calls Tryz.prog 66 #[S.V A cap,x.val] w' (StO (apT S x).1 (apT S x).2 w')):=fun x hx B w' h hB=>cu S x A cap w' (hsl.below (h.mono hB)) hbd hx.bd;have HRD:Hid (∀x e,yh log (k:Int)=some (x,e)→∃j:Nat,e=(j:Int)∧x.ok∧k<j∧j≤log.length):=fun x e h=>by
     obtain⟨n',hn',hx,he,hle,_⟩:=sS h;have:=(lh x).1;exact⟨n'+(vg x).length,oo,hx,oo,hle⟩
    obtain⟨o',l',m',dict',fs⟩:=S;simp only at*;have hXD:=hDr.cell;go_wp2_with fail;refine(ay log (k:Int) wr oo oo oo).mono ?_;rintro e w3 ⟨rfl,b3⟩;have z3:=b3.size;have hB3:=hBr.below b3 lbr;have hD3:=hDr.below b3 lq;have o3:=zf ow b3;have g3:=g.trans (b3.mono oo);have hXB3:=hB3.cell;have hFB3:=hB3.free;have hXD3:=hD3.cell
    cases hr:yh log (k:Int) with
    |none=>
     have hG:=HG.out;rw[eH hr] at hG;injection hG with hG1 hG2
     subst hG1 hG2;rw[show qf none= .returned (.tuple #[.agg #[.int .i64 0,.string ⟨#[]⟩,.int .i64 0,.int .i64 0,.int .i64 0,.string ⟨#[]⟩],.int .i64 0,.bool false]) from rfl];have hB4:=hB3.alloc (.cells #[.int .i64 0,.string ⟨#[]⟩,.int .i64 0,.int .i64 0,.int .i64 0,.string ⟨#[]⟩] 26);have hD4:=hD3.alloc (.cells #[.int .i64 0,.string ⟨#[]⟩,.int .i64 0,.int .i64 0,.int .i64 0,.string ⟨#[]⟩] 26);have o4:=World.ownsRow.alloc o3 (.cells #[.int .i64 0,.string ⟨#[]⟩,.int .i64 0,.int .i64 0,.int .i64 0,.string ⟨#[]⟩] 26);have g4:=g3.alloc oo (.cells #[.int .i64 0,.string ⟨#[]⟩,.int .i64 0,.int .i64 0,.int .i64 0,.string ⟨#[]⟩] 26);have hXB4:=hB4.cell;have hFB4:=hB4.free;have hXD4:=hD4.cell;clear hB3 hD3 o3 g3 hXB3 hFB3 hXD3 hXD hBr hDr g ow HAP HRD hr;go_upto_region 6 with(fail)
     generalize w3.alloc (.cells #[.int .i64 0,.string ⟨#[]⟩,.int .i64 0,.int .i64 0,.int .i64 0,.string ⟨#[]⟩] 26)=w4 at*;go_wp2;have Q:=(uo hB4 ⟨o',l',m',dict',fs⟩ A cap).cell;have o9:=zC (B':=w.heap.size) (oG o4 (b:=w.heap.size+1) oo ⟨o',l',m',dict',fs⟩ A cap) oo;have gg:=yA g4 (b:=w.heap.size+1) oo ⟨o',l',m',dict',fs⟩ A cap;exact bodyPost_ret (v:=.tuple #[Sto.V ⟨o',l',m',dict',fs⟩ A cap,.int .i64 (k:Int),.bool true]) (by simp [results,Tryz.results24,go_sem,Q]) rfl ⟨A,cap,rfl,o9,gg⟩
    |some p=>
     obtain⟨x,e⟩:=p;obtain⟨j,rfl,hx,hkj,hjl⟩:=HRD.out x e hr;rw[Zo];have cX:=Go.Lib.hid (HAP.out x hx wr.heap.size);have HA1:Hid ((apT ⟨o',l',m',dict',fs⟩ x).2=true→(apT ⟨o',l',m',dict',fs⟩ x).1.ok∧∀n',vY (n'+1) ⟨o',l',m',dict',fs⟩ log (k:Int)=vY n' (apT ⟨o',l',m',dict',fs⟩ x).1 log (j:Int)):=fun h=>by
      cases ha:apO ⟨o',l',m',dict',fs⟩ x with
      |none=>rw[Uy ha] at h;cases h
      |some U=>rw[iZ ha];exact⟨(Yf HS.out hx ha).ok,fun n'=>ZL hr ha⟩
     have HA2:Hid ((apT ⟨o',l',m',dict',fs⟩ x).2=false→vY n ⟨o',l',m',dict',fs⟩ log (k:Int)=(⟨o',l',m',dict',fs⟩,(k:Int))):=fun h=>by
      cases ha:apO ⟨o',l',m',dict',fs⟩ x with
      |none=>exact dA hr ha
      |some U=>rw[iZ ha] at h;cases h
     generalize apT ⟨o',l',m',dict',fs⟩ x=W at*;clear hx hr HAP HRD;obtain⟨⟨Uo,Ul,Um,Ud,P⟩,tb⟩:=W;simp only at cX HA1 HA2;obtain⟨xk,xf,xt,xs,xn,xd⟩:=x;have hB4:=hB3.alloc (.cells #[.int .i64 xk,.string ⟨xn.toArray⟩,.int .i64 xf,.int .i64 xt,.int .i64 xs,.string ⟨xd.toArray⟩] 26);have hD4:=hD3.alloc (.cells #[.int .i64 xk,.string ⟨xn.toArray⟩,.int .i64 xf,.int .i64 xt,.int .i64 xs,.string ⟨xd.toArray⟩] 26);have o4:=World.ownsRow.alloc o3 (.cells #[.int .i64 xk,.string ⟨xn.toArray⟩,.int .i64 xf,.int .i64 xt,.int .i64 xs,.string ⟨xd.toArray⟩] 26);have g4:=g3.alloc oo (.cells #[.int .i64 xk,.string ⟨xn.toArray⟩,.int .i64 xf,.int .i64 xt,.int .i64 xs,.string ⟨xd.toArray⟩] 26);have b4:=b3.alloc z3 (.cells #[.int .i64 xk,.string ⟨xn.toArray⟩,.int .i64 xf,.int .i64 xt,.int .i64 xs,.string ⟨xd.toArray⟩] 26);have hO4:Bk (w3.alloc (.cells #[.int .i64 xk,.string ⟨xn.toArray⟩,.int .i64 xf,.int .i64 xt,.int .i64 xs,.string ⟨xd.toArray⟩] 26)) w3.heap.size 26 #[.int .i64 xk,.string ⟨xn.toArray⟩,.int .i64 xf,.int .i64 xt,.int .i64 xs,.string ⟨xd.toArray⟩]:=Bk.new w3 #[.int .i64 xk,.string ⟨xn.toArray⟩,.int .i64 xf,.int .i64 xt,.int .i64 xs,.string ⟨xd.toArray⟩] 26;have z4:=hO4.lt;have hXO4:=hO4.cell;have hXD4:=hD4.cell;clear hB3 hD3 o3 g3 hXB3 hFB3 hXD3 hXD hBr hDr g ow b3;go_upto_region 8 with(fail)
     generalize w3.alloc (.cells #[.int .i64 xk,.string ⟨xn.toArray⟩,.int .i64 xf,.int .i64 xt,.int .i64 xs,.string ⟨xd.toArray⟩] 26)=w4 at*;generalize w3.heap.size=q4 at*;go_wp2_with fail;refine(cX.out w4 b4 (Nat.le_refl _)).mono ?_;rintro e w5 ⟨A5,c5,rfl,o5,b5⟩;have z5:=b5.size;have hB5:=hB4.below b5 oo;have hD5:=hD4.below b5 oo;have o5:=zC (B':=q+1) o5 oo;have o5':=zf o4 b5;have g5:=g4.trans (b5.mono oo);clear hB4 hD4 o4 g4 b4 hO4 hXO4 hXD4 cX b5;simp only at o5;have hB6:=hB5.alloc (.cells #[.int .i64 Uo,.int .i64 Ul,.int .i64 Um,.string ⟨Ud.toArray⟩,.slice A5 P.length c5] 42);have hD6:=hD5.alloc (.cells #[.int .i64 Uo,.int .i64 Ul,.int .i64 Um,.string ⟨Ud.toArray⟩,.slice A5 P.length c5] 42);have o6:=World.ownsRow.alloc o5 (.cells #[.int .i64 Uo,.int .i64 Ul,.int .i64 Um,.string ⟨Ud.toArray⟩,.slice A5 P.length c5] 42);have o6':=World.ownsRow.alloc o5' (.cells #[.int .i64 Uo,.int .i64 Ul,.int .i64 Um,.string ⟨Ud.toArray⟩,.slice A5 P.length c5] 42);have g6:=g5.alloc oo (.cells #[.int .i64 Uo,.int .i64 Ul,.int .i64 Um,.string ⟨Ud.toArray⟩,.slice A5 P.length c5] 42);have hE6:Bk (w5.alloc (.cells #[.int .i64 Uo,.int .i64 Ul,.int .i64 Um,.string ⟨Ud.toArray⟩,.slice A5 P.length c5] 42)) w5.heap.size 42 #[.int .i64 Uo,.int .i64 Ul,.int .i64 Um,.string ⟨Ud.toArray⟩,.slice A5 P.length c5]:=Bk.new w5 #[.int .i64 Uo,.int .i64 Ul,.int .i64 Um,.string ⟨Ud.toArray⟩,.slice A5 P.length c5] 42;have hXE6:=hE6.cell;have hXD6:=hD6.cell;have hFD6:=hD6.free;have hXB6:=hB6.cell;have hFB6:=hB6.free;clear hB5 hD5 g5 o5 o5';go_upto_region 9 with(fail)
     generalize w5.alloc (.cells #[.int .i64 Uo,.int .i64 Ul,.int .i64 Um,.string ⟨Ud.toArray⟩,.slice A5 P.length c5] 42)=w6 at*;generalize w5.heap.size=q6 at*
     cases tb with
     |false=>
      have hG:=HG.out;rw[HA2.out rfl] at hG;injection hG with hG1 hG2
      subst hG1 hG2;clear HA1 HA2 hXE6 hE6;go_wp2;have Q:=(uo hB6 ⟨o',l',m',dict',fs⟩ A cap).cell;have o9:=zC (B':=w.heap.size) (oG o6' (b:=w.heap.size+1) oo ⟨o',l',m',dict',fs⟩ A cap) oo;have gg:=yA g6 (b:=w.heap.size+1) oo ⟨o',l',m',dict',fs⟩ A cap;exact bodyPost_ret (v:=.tuple #[Sto.V ⟨o',l',m',dict',fs⟩ A cap,.int .i64 (k:Int),.bool true]) (by simp [results,Tryz.results24,go_sem,Q]) rfl ⟨A,cap,rfl,o9,gg⟩
     |true=>
      obtain⟨hUok,hUg⟩:=HA1.out rfl;obtain⟨n',rfl⟩:∃n',n=n'+1:=⟨n - 1,oo⟩;have HG2:Hid (vY n' ⟨Uo,Ul,Um,Ud,P⟩ log (j:Int)=(T,tn)):=(hUg n').symm.trans HG.out;have HU:=Go.Lib.hid hUok;clear HA1 HA2 hUok hUg HG;go_wp2;go_roundw
      case rel=>exact⟨n',j,⟨Uo,Ul,Um,Ud,P⟩,A5,c5,rfl,hjl,oo,HG2,HU,oG o6 (b:=q) oo ⟨Uo,Ul,Um,Ud,P⟩ A5 c5,Ws hB6 (b:=q) oo ⟨Uo,Ul,Um,Ud,P⟩ A5 c5,uo hD6 ⟨Uo,Ul,Um,Ud,P⟩ A5 c5,yA g6 (b:=q) oo ⟨Uo,Ul,Um,Ud,P⟩ A5 c5⟩
      case measure=>simp [intOf];omega
end Go.Proofs.YtfppmajoidkooaaGreatDoor
namespace Go.Proofs.YtfppmajoidkooaaGreatDoor
open Go.RowKit
set_option maxRecDepth 100000
attribute [local go_sem high] zy zA zB zO zK zY zx zk zl zq zi zo yP zD yt zF
attribute [local go_sem high] rO rM
theorem Vr (S:Sto)(n:Bs)(A:Option Addr)(cap:Nat)(w:World)(hok:S.ok)(hs:Sl w A S.fs.length cap 2 (yf S.fs)):
 Calls Tryz.prog 113 #[S.V A cap,sv n] w fun e w'=>e= .returned (.tuple #[.int .i64 (uK S.fs n:Int),.bool (xK S.fs n).isSome])∧Below w.heap.size w w':=by
 have hcap:=hs.1;have hcap2:=hs.2.1;have hl:=hok.2.1;have HSL:Hid (∀wr,Below w.heap.size w wr→Sl wr A S.fs.length cap 2 (yf S.fs)):=fun wr h=>hs.below h;have HF:Hid (∀(k:Nat) (hk:k<S.fs.length),(∀(j:Nat) (h:j<S.fs.length),j<k→Op.bytesLess S.fs[j].1 n=true)→Op.bytesLess S.fs[k].1 n=false→xK S.fs n=(if S.fs[k].1=n then some k else none)∧uK S.fs n=k):=fun k hk hA h=>⟨QZ hok hk hA h,WL oo (fun j hj=>hA j oo hj) (fun _=>h)⟩;have HE:Hid (∀k,S.fs.length≤k→(∀(j:Nat) (h:j<S.fs.length),j<k→Op.bytesLess S.fs[j].1 n=true)→xK S.fs n=none∧uK S.fs n=S.fs.length):=fun k hk hA=>⟨OM hk hA,WL (Nat.le_refl _) (fun j hj=>hA j hj oo) (fun h=>by omega)⟩;clear hs hok;generalize xK S.fs n=R at*;generalize uK S.fs n=X at*;obtain⟨o,l,m,dict,fs⟩:=S;simp only at*;go_enter Tryz.func113,Tryz.ntmps113;have hK0:Bk (w.alloc (.cells #[.int .i64 o,.int .i64 l,.int .i64 m,.string ⟨dict.toArray⟩,.slice A fs.length cap] 42)) w.heap.size 42 #[.int .i64 o,.int .i64 l,.int .i64 m,.string ⟨dict.toArray⟩,.slice A fs.length cap]:=tBk;have g0:Below w.heap.size w (w.alloc (.cells #[.int .i64 o,.int .i64 l,.int .i64 m,.string ⟨dict.toArray⟩,.slice A fs.length cap] 42)):=zu;go_upto_region 1 with(fail)
 generalize w.alloc (.cells #[.int .i64 o,.int .i64 l,.int .i64 m,.string ⟨dict.toArray⟩,.slice A fs.length cap] 42)=w0 at*;have hX0:=hK0.cell;go_wp2;go_loopw [11] (fun i wr=>∃k:Nat,i= .int .i64 (k:Int)∧k≤fs.length∧Hid (∀(j:Nat) (h:j<fs.length),j<k→Op.bytesLess fs[j].1 n=true)∧Bk wr w.heap.size 42 #[.int .i64 o,.int .i64 l,.int .i64 m,.string ⟨dict.toArray⟩,.slice A fs.length cap]∧Below w.heap.size w wr) (fun i _=>fs.length - (intOf i).toNat)
 case atStart=>exact⟨0,rfl,oo,fun j h hj=>by omega,hK0,g0⟩
 case round=>
  obtain⟨k,rfl,hk,HA,hK,hb⟩:=hrel;clear hK0 g0 hX0;have hz:=hb.size;by_cases hlt:k<fs.length
  ·have hki:(k:Int)<fs.length:=oo
   obtain⟨g,off,rfl,hg,c0,c1⟩:=(HSL.out _ hb).fl hlt;by_cases hls:Op.bytesLess fs[k].1 n=true
   ·have HA2:=Go.Lib.hid (PO hlt HA.out hls)
    have hK2:=hK.alloc (.cells #[.string ⟨fs[k].1.toArray⟩,.string ⟨fs[k].2.toArray⟩] 87);generalize fs[k].1=a at*;generalize fs[k].2=b at*;go_wp2;go_roundw
    case rel=>exact⟨k+1,by go_num,oo,HA2,hK2,zu⟩
    case measure=>simp [intOf];omega
   ·have hls2:Op.bytesLess fs[k].1 n=false:=by simpa using hls
    obtain⟨hR,hX⟩:=HF.out k hlt HA.out hls2;have hX:=hX.symm;subst hX;have hN2:=(Bk.new wr #[.string ⟨fs[k].1.toArray⟩,.string ⟨fs[k].2.toArray⟩] 87);have hY:=hN2.cell;have hG:=zI hY hN2.lt;clear HF HE hls HA;generalize fs[k].1=a at*;generalize fs[k].2=b at*;by_cases he:a=n
    ·have hd:decide (a=n)=true:=by simpa using he
     rw[if_pos he] at hR;subst hR;clear he;go_wp2_with fail;refine wp_region_quiet_below kr kr ?_;repeat(go_big_quiet_step ((fail)))
     refine wpQuiet_nil ?_;intro w3 hw2;have hb3:Below _ _ w3:=zh hw2;clear hw2;go_wp2;exact bodyPost_ret (v:=.tuple #[.int .i64 (k:Int),.bool true]) (by simp [results,Tryz.results113,go_sem]) rfl ⟨rfl,(hb.alloc hz _).trans (hb3.mono (by simp;omega))⟩
    ·have hd:decide (a=n)=false:=by simpa using he
     rw[if_neg he] at hR;subst hR;clear he;go_wp2_with fail;refine wp_region_quiet_below kr kr ?_;repeat(go_big_quiet_step ((fail)))
     refine wpQuiet_nil ?_;intro w3 hw2;have hb3:Below _ _ w3:=zh hw2;clear hw2;go_wp2;exact bodyPost_ret (v:=.tuple #[.int .i64 (k:Int),.bool false]) (by simp [results,Tryz.results113,go_sem]) rfl ⟨rfl,(hb.alloc hz _).trans (hb3.mono (by simp;omega))⟩
  ·have hki:¬(k:Int)<fs.length:=oo
   obtain⟨hR,hX⟩:=HE.out k oo HA.out;subst hR hX;have hX:=hK.cell;go_wp2;exact bodyPost_ret (v:=.tuple #[.int .i64 (fs.length:Int),.bool false]) (by simp [results,Tryz.results113,go_sem]) rfl ⟨rfl,hb⟩
theorem gI (S:Sto)(x:OpR)(X:Bs)(A:Option Addr)(cap:Nat)(w:World)(hd:S.dict.length≤1500000)(hx:OpB x)(hX:X.length≤1500000):
 Calls Tryz.prog 116 #[S.V A cap,x.val,sv X] w fun e w'=>e=zZ (chO S x X)∧Below w.heap.size w w':=by
 obtain⟨b1,b2,b3,b4,b5,b6,b7,b8,b9,b10⟩:=hx;obtain⟨o,l,m,dict,fs⟩:=S;obtain⟨k,f,t,s,nm,d⟩:=x;obtain⟨R,hR⟩:∃R,chO ⟨o,l,m,dict,fs⟩ ⟨k,f,t,s,nm,d⟩ X=R:=⟨_,rfl⟩;rw[hR];unfold chO at hR;simp only at*;have HR:=Go.Lib.hid hR;clear hR;go_enter Tryz.func116,Tryz.ntmps116;have hA:Bk ((w.alloc (.cells (Sto.C ⟨o,l,m,dict,fs⟩ A cap) 42)).alloc (.cells (OpR.cells ⟨k,f,t,s,nm,d⟩) 26)) w.heap.size 42 (Sto.C ⟨o,l,m,dict,fs⟩ A cap):=tBk;have hO:Bk ((w.alloc (.cells (Sto.C ⟨o,l,m,dict,fs⟩ A cap) 42)).alloc (.cells (OpR.cells ⟨k,f,t,s,nm,d⟩) 26)) (w.heap.size+1) 26 (OpR.cells ⟨k,f,t,s,nm,d⟩):=tBk;have g0:Below w.heap.size w ((w.alloc (.cells (Sto.C ⟨o,l,m,dict,fs⟩ A cap) 42)).alloc (.cells (OpR.cells ⟨k,f,t,s,nm,d⟩) 26)):=zu;simp only[Sto.C,OpR.cells] at hA hO g0;go_upto_region 1 with(fail)
 generalize(w.alloc (.cells #[.int .i64 o,.int .i64 l,.int .i64 m,.string ⟨dict.toArray⟩,.slice A fs.length cap] 42)).alloc (.cells #[.int .i64 k,.string ⟨nm.toArray⟩,.int .i64 f,.int .i64 t,.int .i64 s,.string ⟨d.toArray⟩] 26)=w0 at*;have hXA:=hA.cell;have hXO:=hO.cell;have hlo:=hO.lt;by_cases h0:k=0
 ·have hE:mkC o l m dict d s=R:=by rw[←HR.out,if_pos h0]
  have cM:=fun w=>jP o l m dict d s w oo oo oo oo;rw[hE] at cM;clear hE HR;subst h0;go_wp2_with fail;refine(cM _).mono ?_;rintro e w1 ⟨rfl,c1⟩;have g1:=g0.trans (c1.mono oo);unfold zZ;go_wp2;exact bodyPost_ret (v:=.tuple #[sv (R.getD []),.bool R.isSome]) (by simp [results,Tryz.results116,go_sem]) rfl ⟨rfl,g1⟩
 have hk0:(k==0)=false:=(by simpa using h0);by_cases h1:k=1
 ·have hE:apD o l m dict X d s=R:=by rw[←HR.out,if_neg h0,if_pos h1]
  have cM:=fun w=>ax o l m dict X d s w oo oo oo oo oo;rw[hE] at cM;clear hE HR h0 hk0;subst h1;go_wp2_with fail;refine(cM _).mono ?_;rintro e w1 ⟨rfl,c1⟩;have g1:=g0.trans (c1.mono oo);unfold zZ;go_wp2;exact bodyPost_ret (v:=.tuple #[sv (R.getD []),.bool R.isSome]) (by simp [results,Tryz.results116,go_sem]) rfl ⟨rfl,g1⟩
 have hk1:(k==1)=false:=(by simpa using h1);by_cases h2:k=2
 ·have hE:rpD o l m dict X f t d s=R:=by rw[←HR.out,if_neg h0,if_neg h1,if_pos h2]
  have cM:=fun w=>gX o l m dict X f t d s w oo oo oo oo oo oo oo oo oo;rw[hE] at cM;clear hE HR h0 hk0 h1 hk1;subst h2;go_wp2_with fail;refine(cM _).mono ?_;rintro e w1 ⟨rfl,c1⟩;have g1:=g0.trans (c1.mono oo);unfold zZ;go_wp2;exact bodyPost_ret (v:=.tuple #[sv (R.getD []),.bool R.isSome]) (by simp [results,Tryz.results116,go_sem]) rfl ⟨rfl,g1⟩
 have hk2:(k==2)=false:=(by simpa using h2);have hE:mgD o l m dict X s=R:=(by rw[←HR.out,if_neg h0,if_neg h1,if_neg h2]);have cM:=fun w=>dO o l m dict X s w oo oo oo oo;rw[hE] at cM;clear hE HR h0 h1 h2;go_wp2_with fail;refine(cM _).mono ?_;rintro e w1 ⟨rfl,c1⟩;have g1:=g0.trans (c1.mono oo);unfold zZ;go_wp2;exact bodyPost_ret (v:=.tuple #[sv (R.getD []),.bool R.isSome]) (by simp [results,Tryz.results116,go_sem]) rfl ⟨rfl,g1⟩
end Go.Proofs.YtfppmajoidkooaaGreatDoor
namespace Go.Proofs.YtfppmajoidkooaaGreatDoor
open Go.RowKit
set_option maxRecDepth 100000
attribute [local go_sem high] zy zA zB zO zK zY zx zk zl zq zi zo yP zD yt zF
theorem Ze (o l m:Int)(dict log:Bs)(x:OpR)(w:World)(hd:dict.length≤1500000)(hlg:log.length≤1500000)(hxn:x.nm.length≤1500000)(hxd:x.d.length≤1500000):
 Calls Tryz.prog 29 #[.agg #[.int .i64 o,.int .i64 l,.int .i64 m],sv dict,sv log,x.val] w fun e w'=>e=zZ (apL o l m dict log x)∧Below w.heap.size w w':=by
 obtain⟨G,hG⟩:∃G,apL o l m dict log x=G:=⟨_,rfl⟩;rw[hG];obtain⟨R,hR⟩:∃R,qj o l m dict log=R:=⟨_,rfl⟩;have cR:=fun w=>qM o l m dict log w hd hlg;rw[hR] at cR;have cL:=fun w=>ZM x.k x.f x.t x.s x.nm x.d w oo oo;have HOK:Hid (∀T n,R=some (T,n)→T.ok∧0≤n∧n≤30000):=fun T n h=>by
  rw[h] at hR;obtain⟨b,xs,rfl,hF⟩:=kR hR;have h1:=hF.le;have h2:=hF.short;exact⟨hF.ok.1,oo,oo⟩
 have cA:Hid (∀(T:Sto) A cap w,T.ok→x.ok→Sl w A T.fs.length cap 2 (yf T.fs)→Calls Tryz.prog 71 #[T.V A cap,x.val] w (StO ((apO T x).getD yQ) (apO T x).isSome w)):=fun T A cap w h1 h2 h3=>by
  rw[←KA h1 h2];exact WY T x A cap w h3 h1.bd h2.bd
 have HG:Hid (R.bind (fun p=>if p.2=(log.length:Int)∧x.ok∧log.length+(vg x).length≤30000∧(apO p.1 x).isSome=true then some (log++vg x) else none)=G):=(by rw[←hG,←hR];rfl);have HRX:Hid ((vg x).length≤9004):=(lh x).2;clear hR hG;obtain⟨T,tn,tb,h1,h2,h3⟩:∃T tn tb,(R.map (·.1)).getD yQ=T∧(R.map (·.2)).getD 0=tn∧R.isSome=tb:=⟨_,_,_,rfl,rfl,rfl⟩;unfold OY at cR;rw[h1,h2,h3] at cR;have HN:Hid (tb=false→R=none):=fun h=>(by rw[h] at h3;cases R with|none=>rfl|some _=>cases h3);have HS:Hid (tb=true→R=some (T,tn)):=fun h=>by
  rw[h] at h3
  cases R with
  |none=>cases h3
  |some p=>rw[←h1,←h2];rfl
 clear h1 h2 h3;obtain⟨Uo,Ul,Um,Ud,P⟩:=T;obtain⟨xk,xf,xt,xs,xn,xd⟩:=x;obtain⟨C,hC⟩:∃C,vg ⟨xk,xf,xt,xs,xn,xd⟩=C:=⟨_,rfl⟩;rw[hC] at HG HRX;have hC2:uu (yU xk xn xf xt xs xd)=C:=hC;unfold nR at cL;simp only at cL;rw[hC2] at cL;clear hC hC2;go_enter Tryz.func29,Tryz.ntmps29;have hA:Bk ((w.alloc (.cells #[.int .i64 o,.int .i64 l,.int .i64 m] 39)).alloc (.cells #[.int .i64 xk,.string ⟨xn.toArray⟩,.int .i64 xf,.int .i64 xt,.int .i64 xs,.string ⟨xd.toArray⟩] 26)) w.heap.size 39 #[.int .i64 o,.int .i64 l,.int .i64 m]:=tBk;have hO:Bk ((w.alloc (.cells #[.int .i64 o,.int .i64 l,.int .i64 m] 39)).alloc (.cells #[.int .i64 xk,.string ⟨xn.toArray⟩,.int .i64 xf,.int .i64 xt,.int .i64 xs,.string ⟨xd.toArray⟩] 26)) (w.heap.size+1) 26 #[.int .i64 xk,.string ⟨xn.toArray⟩,.int .i64 xf,.int .i64 xt,.int .i64 xs,.string ⟨xd.toArray⟩]:=tBk;have g0:Below w.heap.size w ((w.alloc (.cells #[.int .i64 o,.int .i64 l,.int .i64 m] 39)).alloc (.cells #[.int .i64 xk,.string ⟨xn.toArray⟩,.int .i64 xf,.int .i64 xt,.int .i64 xs,.string ⟨xd.toArray⟩] 26)):=zu;go_upto_region 1 with(fail)
 generalize(w.alloc (.cells #[.int .i64 o,.int .i64 l,.int .i64 m] 39)).alloc (.cells #[.int .i64 xk,.string ⟨xn.toArray⟩,.int .i64 xf,.int .i64 xt,.int .i64 xs,.string ⟨xd.toArray⟩] 26)=w0 at*;have z0:=g0.size;have la:=hA.lt;have lo:=hO.lt;have hXA:=hA.cell;go_wp2_with fail;refine(cR _).mono ?_;rintro e w1 ⟨A1,c1,rfl,o1,b1⟩;have z1:=b1.size;have hO1:=hO.below b1 lo;have o1:=zC (B':=w.heap.size+2) o1 oo;have g1:=g0.trans (b1.mono oo);simp only at o1;clear hA hO hXA b1 g0 cR;have hO2:=hO1.alloc (.cells #[.int .i64 Uo,.int .i64 Ul,.int .i64 Um,.string ⟨Ud.toArray⟩,.slice A1 P.length c1] 42);have hD2:Bk (w1.alloc (.cells #[.int .i64 Uo,.int .i64 Ul,.int .i64 Um,.string ⟨Ud.toArray⟩,.slice A1 P.length c1] 42)) w1.heap.size 42 #[.int .i64 Uo,.int .i64 Ul,.int .i64 Um,.string ⟨Ud.toArray⟩,.slice A1 P.length c1]:=Bk.new w1 #[.int .i64 Uo,.int .i64 Ul,.int .i64 Um,.string ⟨Ud.toArray⟩,.slice A1 P.length c1] 42;have o2:=World.ownsRow.alloc o1 (.cells #[.int .i64 Uo,.int .i64 Ul,.int .i64 Um,.string ⟨Ud.toArray⟩,.slice A1 P.length c1] 42);have g2:=g1.alloc oo (.cells #[.int .i64 Uo,.int .i64 Ul,.int .i64 Um,.string ⟨Ud.toArray⟩,.slice A1 P.length c1] 42);have hXO2:=hO2.cell;go_upto_region 2 with(fail)
 clear hO1 o1 g1;generalize w1.alloc (.cells #[.int .i64 Uo,.int .i64 Ul,.int .i64 Um,.string ⟨Ud.toArray⟩,.slice A1 P.length c1] 42)=w2 at*;have l2:=hD2.lt;have lo2:=hO2.lt;generalize w1.heap.size=q at*;go_wp2_with fail;refine(cL _).mono ?_;rintro e w3 ⟨rfl,b3⟩;have z3:=b3.size;have hO3:=hO2.below b3 lo2;have hD3:=hD2.below b3 l2;have o3:=zf o2 b3;have g3:=g2.trans (b3.mono oo);clear hO2 hD2 o2 g2 hXO2 b3 cL
 cases tb with
 |false=>
  have hR:=HN.out rfl;subst hR;have hG2:G=none:=HG.out.symm;subst hG2;clear HG HN HS HOK cA;by_cases hok:uM xk xn xf xt xs xd
  ·rw[if_pos hok]
   clear hok;go_wp2;exact bodyPost_ret (v:=.tuple #[sv [],.bool false]) (by simp [results,Tryz.results29,go_sem]) rfl ⟨rfl,g3⟩
  ·rw[if_neg hok]
   clear hok;go_wp2;exact bodyPost_ret (v:=.tuple #[sv [],.bool false]) (by simp [results,Tryz.results29,go_sem]) rfl ⟨rfl,g3⟩
 |true=>
 have hR:=HS.out rfl;subst hR;obtain⟨hTok,hn0,hn1⟩:=HOK.out _ _ rfl;have HG2:Hid ((if tn=(log.length:Int)∧uM xk xn xf xt xs xd∧log.length+C.length≤30000∧(apO ⟨Uo,Ul,Um,Ud,P⟩ ⟨xk,xf,xt,xs,xn,xd⟩).isSome=true then some (log++C) else none)=G):=HG.out;have HTOK:=Go.Lib.hid hTok;have hcl:=HRX.out;clear HG HN HS HOK hTok;by_cases hok:uM xk xn xf xt xs xd
 case neg=>
  rw[if_neg hok];have hG2:G=none:=(by rw[←HG2.out,if_neg (fun h=>hok h.2.1)]);subst hG2;clear HG2 hok cA HTOK;go_wp2;exact bodyPost_ret (v:=.tuple #[sv [],.bool false]) (by simp [results,Tryz.results29,go_sem]) rfl ⟨rfl,g3⟩
 case pos=>
  rw[if_pos hok];by_cases hn:tn=(log.length:Int)
  case neg=>
   have hG2:G=none:=(by rw[←HG2.out,if_neg (fun h=>hn h.1)]);subst hG2;have hnb:(tn != (log.length:Int))=true:=(by simpa using hn);clear HG2 hok cA HTOK;go_wp2;exact bodyPost_ret (v:=.tuple #[sv [],.bool false]) (by simp [results,Tryz.results29,go_sem]) rfl ⟨rfl,g3⟩
  case pos=>
   subst hn;by_cases hlen:log.length+C.length≤30000
   case neg=>
    have hG2:G=none:=(by rw[←HG2.out,if_neg (fun h=>hlen h.2.2.1)]);subst hG2;have hli:(30000:Int)<(log.length:Int)+C.length:=oo;clear HG2 hok cA HTOK;go_wp2;exact bodyPost_ret (v:=.tuple #[sv [],.bool false]) (by simp [results,Tryz.results29,go_sem]) rfl ⟨rfl,g3⟩
   case pos=>
    have hli:¬(30000:Int)<(log.length:Int)+C.length:=oo;have CA:=Go.Lib.hid (cA.out ⟨Uo,Ul,Um,Ud,P⟩ A1 c1 w3 HTOK.out hok (Sl.own o3));obtain⟨W,hW⟩:∃W,apO ⟨Uo,Ul,Um,Ud,P⟩ ⟨xk,xf,xt,xs,xn,xd⟩=W:=⟨_,rfl⟩;rw[hW] at CA HG2;have HOK:=Go.Lib.hid hok;clear hW cA hok;have hXO3:=hO3.cell;have hXD3:=hD3.cell;go_wp2_with fail;refine(CA.out).mono ?_;rintro e w4 ⟨A4,c4,rfl,o4,b4⟩;have g4:=g3.trans (b4.mono oo);have z4:=b4.size;clear CA hXO3 hXD3 b4 o4;generalize W.getD yQ=V;obtain⟨Vo,Vl,Vm,Vd,Q⟩:=V;have g5:=g4.alloc oo (.cells #[.int .i64 Vo,.int .i64 Vl,.int .i64 Vm,.string ⟨Vd.toArray⟩,.slice A4 Q.length c4] 42)
    cases W with
    |none=>
     have hG2:G=none:=(by rw[←HG2.out,if_neg (fun h=>by cases h.2.2.2)]);subst hG2;simp only[Option.isSome_none];go_wp2;exact bodyPost_ret (v:=.tuple #[sv [],.bool false]) (by simp [results,Tryz.results29,go_sem]) rfl ⟨rfl,g5⟩
    |some U=>
     have hG2:G=some (log++C):=(by rw[←HG2.out,if_pos ⟨by first|exact rfl|exact trivial,HOK.out,hlen,by first|exact rfl|exact trivial⟩]);subst hG2;simp only[Option.isSome_some];go_wp2;exact bodyPost_ret (v:=.tuple #[sv (log++C),.bool true]) (by simp [results,Tryz.results29,go_sem]) rfl ⟨rfl,g5⟩
end Go.Proofs.YtfppmajoidkooaaGreatDoor
