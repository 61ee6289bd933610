import Derived.Test.YtfppmajoidkooaaGreatDoorUGQ
import Derived.Lib.ItoaNum
import Derived.Lib.Atoi
import Derived.Lib.AtoiTie
set_option linter.unusedVariables false
set_option linter.unusedSimpArgs false
namespace Go.Proofs.YtfppmajoidkooaaGreatDoor
def yU (k:Int)(nm:Bs)(f t s:Int)(d:Bs):Bs:=
 if uM k nm f t s d then
  (if k=0 then[112,117,116,32]++nm++[32]++Lib.itoa s++[32]++wH (uV d)
   else if k=1 then[97,112,112,101,110,100,32]++nm++[32]++Lib.itoa s++[32]++wH (uV d)
   else if k=2 then[114,101,112,108,97,99,101,32]++nm++[32]++Lib.itoa f++[32]++Lib.itoa t++[32]++Lib.itoa s++[32]++wH (uV d)
   else if k=3 then[109,101,114,103,101,32]++nm++[32]++Lib.itoa s
   else[100,101,108,101,116,101,32]++nm)
 else[]
theorem qx {l:Bs}(h:um l=true):1≤l.length∧l.length≤8:=by
 rw[um,Bool.and_eq_true,decide_eq_true_eq] at h;exact h.1
theorem nJ (d:Bs):(uV d).length≤8000:=by
 unfold uV;split
 ·rw[hexOf_length];omega
 ·simp
theorem nI (d:Bs):(wH d).length≤d.length+1:=by
 unfold wH;split<;>simp
end Go.Proofs.YtfppmajoidkooaaGreatDoor
namespace Go.Proofs.YtfppmajoidkooaaGreatDoor
open Go.RowKit
theorem iK (k:Nat)(h:k<10):Lib.digitVal (UInt8.ofNat (48+k))=some k:=by
 have key:∀x:Fin 10,Lib.digitVal (UInt8.ofNat (48+x.val))=some x.val:=(by decide+kernel);exact key ⟨k,h⟩
theorem nU :∀(l:Bs) (acc:Nat) (b:UInt8),Lib.decFrom acc (l++[b])=(Lib.decFrom acc l).bind fun n=>(Lib.digitVal b).map fun d=>n*10+d
 |[],acc,b=>by
  show Lib.decFrom acc [b]=_;unfold Lib.decFrom
  cases Lib.digitVal b<;>rfl
 |c::l,acc,b=>by
  rw[List.cons_append];unfold Lib.decFrom
  cases Lib.digitVal c with
  |none=>rfl
  |some d=>exact nU l _ b
theorem eF (u:Nat)(h:10≤u):Lib.decDigits u=Lib.decDigits (u / 10)++[UInt8.ofNat (48+u % 10)]:=by
 rw[Lib.decDigits,dif_neg (by omega)]
theorem jT (u:Nat)(h:u<10):Lib.decDigits u=[UInt8.ofNat (48+u)]:=by
 rw[Lib.decDigits,dif_pos h]
theorem lG (u:Nat):Lib.decFrom 0 (Lib.decDigits u)=some u:=by
 induction u using Nat.strongRecOn with
 |ind u ih=>
  by_cases h:u<10
  ·rw[jT u h]
   unfold Lib.decFrom;rw[iK u h];simp [Lib.decFrom]
  ·rw[eF u (by omega),nU,ih (u / 10) (by omega),iK _ (by omega)]
   simp;omega
theorem RV (u:Nat):∀x ∈ Lib.decDigits u,48≤x.toNat∧x.toNat≤57:=by
 have key:∀k,k<10→48≤(UInt8.ofNat (48+k)).toNat∧(UInt8.ofNat (48+k)).toNat≤57:=by
  intro k hk;rw[UInt8.toNat_ofNat'];omega
 induction u using Nat.strongRecOn with
 |ind u ih=>
  by_cases h:u<10
  ·rw[jT u h]
   intro x hx;simp only[List.mem_singleton] at hx;rw[hx];exact key u h
  ·rw[eF u (by omega)]
   intro x hx;rcases List.mem_append.1 hx with hx|hx
   ·exact ih (u / 10) oo x hx
   ·simp only[List.mem_singleton] at hx
    rw[hx];exact key _ (by omega)
theorem QD (u:Nat):Lib.decDigits u≠[]:=by
 by_cases h:u<10
 ·rw[jT u h];simp
 ·rw[eF u (by omega)];simp
theorem Ro :∀(k u:Nat),u<10 ^ (k+1)→(Lib.decDigits u).length≤k+1
 |0,u,h=>by rw[jT u (by omega)];simp
 |k+1,u,h=>by
  by_cases h1:u<10
  ·rw[jT u h1];simp
  ·rw[eF u (by omega),List.length_append]
   have:=Ro k (u / 10) (by rw[Nat.pow_succ] at h;omega);simp;omega
theorem VQ (l m:Bs)(h:l≠[]):byteAt (l++m) 0=byteAt l 0:=by
 cases l with
 |nil=>exact absurd rfl h
 |cons x r=>rfl
theorem MZ (u:Nat):byteAt (Lib.decDigits u) 0=48→u=0:=by
 induction u using Nat.strongRecOn with
 |ind u ih=>
  intro h0;by_cases h:u<10
  ·rw[jT u h] at h0
   unfold byteAt at h0;simp at h0;omega
  ·rw[eF u (by omega),VQ _ _ (QD _)] at h0
   have:=ih (u / 10) oo h0;omega
theorem Ns (u:Nat):48≤byteAt (Lib.decDigits u) 0∧byteAt (Lib.decDigits u) 0≤57:=by
 have h:=RV u;have hne:=QD u
 cases hd:Lib.decDigits u with
 |nil=>exact absurd hd hne
 |cons x r=>
  rw[hd] at h;have:=h x List.mem_cons_self;unfold byteAt;simp;omega
def sO (neg:Bool)(r:Bs):Option Int:=
 if r.length=0∨17<r.length∨(byteAt r 0=48∧(1<r.length∨neg=true)) then none else(Lib.decFrom 0 r).map fun n=>if neg=true then -(n:Int) else n
def nD (l:Bs):Option Int:=if 0<l.length∧byteAt l 0=45 then sO true (l.drop 1) else sO false l
theorem VN (u:Nat)(h:u≤100000000000):nD (Lib.decDigits u)=some (u:Int):=by
 have hb:=Ns u;have hl:=Ro 11 u oo;have hh:=MZ u;have hne:=List.length_pos_iff.2 (QD u);unfold nD;rw[if_neg (by omega)];unfold sO;rw[if_neg,lG]
 ·simp
 ·rintro(h1|h1|⟨h1,h2|h2⟩)
  ·omega
  ·omega
  ·have:=hh h1
   rw[this,jT 0 (by omega)] at h2;simp at h2
  ·cases h2
def numOf (l:Bs):Option Int:=match Lib.atoiAll l with
 | .ok v=>if Lib.itoa v=l then some v else none
 |_=>none
theorem fA (u:Nat):Lib.itoa (u:Int)=Lib.decDigits u:=by
 unfold Lib.itoa;rw[if_neg (by omega)];simp
theorem UX (u:Nat):Lib.atoi (Lib.decDigits u)=some (u:Int):=by
 have h:=RV u;have hne:=QD u;have hf:=lG u
 cases hd:Lib.decDigits u with
 |nil=>exact absurd hd hne
 |cons x r=>
  rw[hd] at h hf;have hx:=h x List.mem_cons_self;have e1:(x==45)=false:=by
   rw[beq_eq_false_iff_ne];intro e;rw[e] at hx;revert hx;decide
  have e2:(x==43)=false:=by
   rw[beq_eq_false_iff_ne];intro e;rw[e] at hx;revert hx;decide
  unfold Lib.atoi;simp only[e1,e2];unfold Lib.decNat;simp [hf]
theorem WN (u:Nat)(h:u≤100000000000):numOf (Lib.decDigits u)=some (u:Int):=by
 unfold numOf;rw[Lib.atoiAll_short _ (by have:=Ro 11 u (by omega);omega),UX];simp [Lib.NumEnd.ofOption,fA]
theorem qI {l:Bs}{v:Int}(h:numOf l=some v):Lib.itoa v=l:=by
 unfold numOf at h;split at h
 ·split at h
  ·simp at h;subst h;assumption
  ·cases h
 ·cases h
def xm (l:Bs):Bs:=if l=[45] then[] else l
def hexD (l:Bs):Option Bs:=if l=[45] then some [] else if l=[] then none else unhex l
theorem Ye (d:Bs):hexOf d≠[45]:=by
 intro e;have:=congrArg List.length e;rw[hexOf_length] at this;simp at this;omega
theorem XE {d:Bs}(h:hexOf d=[]):d=[]:=by
 have:=congrArg List.length h;rw[hexOf_length] at this;exact List.eq_nil_of_length_eq_zero (by simp at this;omega)
theorem bQ {d:Bs}(h:d.length≤4000):unhex (hexOf d)=some d:=by
 unfold unhex;rw[if_pos (by rw[hexOf_length];omega),Oc]
theorem TQ {d:Bs}(h:d.length≤4000):unhex (xm (wH (hexOf d)))=some d:=by
 unfold wH;split
 ·rename_i e
  have:=XE e;subst this;rfl
 ·unfold xm
  rw[if_neg (Ye d),bQ h]
theorem OQ {d:Bs}(h:d.length≤4000):hexD (wH (hexOf d))=some d:=by
 unfold wH;split
 ·rename_i e
  have:=XE e;subst this;rfl
 ·rename_i e
  unfold hexD;rw[if_neg (Ye d),if_neg e,bQ h]
theorem XJ {l d:Bs}(h:hexD l=some d):wH (hexOf d)=l:=by
 unfold hexD at h;split at h
 ·rename_i e
  simp at h;subst h;subst e;rfl
 ·split at h
  ·cases h
  ·rename_i h1 h2
   unfold unhex at h;split at h
   ·have:=Xu l d h
    rw[this];unfold wH;rw[if_neg h2]
   ·cases h
structure OpR where
 k : Int
 f : Int
 t : Int
 s : Int
 nm : Bs
 d : Bs
def OpR.ok (x:OpR):Prop:=uM x.k x.nm x.f x.t x.s x.d
instance (x : OpR) : Decidable x.ok := by unfold OpR.ok; infer_instance
def OpR.fmt (x:OpR):Bs:=yU x.k x.nm x.f x.t x.s x.d
abbrev jg :Bs:=[112,117,116]
abbrev wz :Bs:=[97,112,112,101,110,100]
abbrev xR :Bs:=[114,101,112,108,97,99,101]
abbrev uh :Bs:=[109,101,114,103,101]
abbrev wX :Bs:=[100,101,108,101,116,101]
def OpR.parts (x:OpR):List Bs:=
 if x.k=0 then[jg,x.nm,Lib.itoa x.s,wH (hexOf x.d)]
 else if x.k=1 then[wz,x.nm,Lib.itoa x.s,wH (hexOf x.d)]
 else if x.k=2 then[xR,x.nm,Lib.itoa x.f,Lib.itoa x.t,Lib.itoa x.s,wH (hexOf x.d)]
 else if x.k=3 then[uh,x.nm,Lib.itoa x.s]
 else[wX,x.nm]
theorem OpR.iW {x:OpR}(h:x.ok):x.fmt=join 32 x.parts:=by
 have h2:uV x.d=hexOf x.d:=by
  unfold uV;rw[if_pos];have:=h.2.1;omega
 unfold OpR.fmt yU OpR.parts;have h':uM x.k x.nm x.f x.t x.s x.d:=h;rw[if_pos h',h2];split
 ·simp [join]
 ·split
  ·simp [join]
  ·split
   ·simp [join]
   ·split<;>simp [join]
theorem NQ (d:Bs):∀x ∈ wH (hexOf d),x≠32:=by
 unfold wH;split
 ·intro x hx;simp at hx;subst hx;decide
 ·exact KJ d
theorem qy {n:Int}(h:0≤n):∀x ∈ Lib.itoa n,x≠32:=by
 obtain⟨u,rfl⟩:=Int.eq_ofNat_of_zero_le h;rw[fA];intro x hx e;have:=RV u x hx;rw[e] at this;revert this;decide
theorem Q4 {l:Bs}(h:um l=true):∀x ∈ l,x≠32:=by
 rw[um,Bool.and_eq_true,List.all_eq_true] at h;intro x hx e;have:=h.2 x hx;rw[e] at this;revert this;decide
theorem OpR.KT {x:OpR}(h:x.ok):∀p ∈ x.parts,∀c ∈ p,c≠32:=by
 have hn:=Q4 h.1;have hd:=NQ x.d;have hk:=h.2.2;unfold OpR.parts;have w1:∀c ∈ jg,c≠32:=(by decide);have w2:∀c ∈ wz,c≠32:=(by decide);have w3:∀c ∈ xR,c≠32:=(by decide);have w4:∀c ∈ uh,c≠32:=(by decide);have w5:∀c ∈ wX,c≠32:=(by decide);split
 ·have hs:=qy (n:=x.s) oo
  simp only[List.mem_cons,List.not_mem_nil,or_false];rintro p (rfl|rfl|rfl|rfl)<;>assumption
 ·split
  ·have hs:=qy (n:=x.s) oo
   simp only[List.mem_cons,List.not_mem_nil,or_false];rintro p (rfl|rfl|rfl|rfl)<;>assumption
  ·split
   ·have hs:=qy (n:=x.s) oo
    have hf:=qy (n:=x.f) oo;have ht:=qy (n:=x.t) oo;simp only[List.mem_cons,List.not_mem_nil,or_false];rintro p (rfl|rfl|rfl|rfl|rfl|rfl)<;>assumption
   ·split
    ·have hs:=qy (n:=x.s) oo
     simp only[List.mem_cons,List.not_mem_nil,or_false];rintro p (rfl|rfl|rfl)<;>assumption
    ·simp only[List.mem_cons,List.not_mem_nil,or_false]
     rintro p (rfl|rfl)<;>assumption
theorem OpR.UJ (x:OpR):x.parts≠[]:=by
 unfold OpR.parts;repeat(first|split|simp)
def yx :List Bs→Option OpR
 |[a,b,c,e]=>if a=jg∨a=wz then match numOf c,hexD e with
    |some s,some d=>some ⟨if a=wz then 1 else 0,0,0,s,b,d⟩
    |_,_=>none
  else none
 |[a,b,c,e,g,h]=>if a=xR then match numOf c,numOf e,numOf g,hexD h with
    |some f,some t,some s,some d=>some ⟨2,f,t,s,b,d⟩
    |_,_,_,_=>none
  else none
 |[a,b,c]=>if a=uh then(numOf c).map fun s=>⟨3,0,0,s,b,[]⟩ else none
 |[a,b]=>if a=wX then some ⟨4,0,0,0,b,[]⟩ else none
 |_=>none
def yV :List Bs→Option OpR
 |[a,b,c,e]=>if a=jg∨a=wz then some ⟨if a=wz then 1 else 0,0,0,(nD c).getD 0,b,(unhex (xm e)).getD []⟩ else none
 |[a,b,c,e,g,h]=>if a=xR then some ⟨2,(nD c).getD 0,(nD e).getD 0,(nD g).getD 0,b,(unhex (xm h)).getD []⟩ else none
 |[a,b,c]=>if a=uh then some ⟨3,0,0,(nD c).getD 0,b,[]⟩ else none
 |[a,b]=>if a=wX then some ⟨4,0,0,0,b,[]⟩ else none
 |_=>none
theorem qC {n:Int}(h0:0≤n)(h1:n≤100000000000):nD (Lib.itoa n)=some n:=by
 obtain⟨u,rfl⟩:=Int.eq_ofNat_of_zero_le h0;rw[fA,VN u (by omega)]
theorem sU {n:Int}(h0:0≤n)(h1:n≤100000000000):numOf (Lib.itoa n)=some n:=by
 obtain⟨u,rfl⟩:=Int.eq_ofNat_of_zero_le h0;rw[fA,WN u (by omega)]
theorem OpR.KW {x:OpR}(h:x.ok):yV x.parts=some x:=by
 obtain⟨k,f,t,s,nm,d⟩:=x;have hd:=h.2.1;have hk:=h.2.2;simp only at hd hk;have h1:=TQ (d:=d) oo;unfold OpR.parts;simp only;rcases hk with⟨rfl|rfl,h3,h4,rfl,rfl⟩|⟨rfl,h3,h4,h5,h6,h7⟩|⟨rfl,h3,h4,rfl,rfl,rfl⟩|⟨rfl,rfl,rfl,rfl,rfl⟩
 ·have h2:=qC (n:=s) oo oo
  simp [yV,h1,h2]
 ·have h2:=qC (n:=s) oo oo
  simp [yV,h1,h2]
 ·have h2:=qC (n:=s) oo oo
  have e1:=qC (n:=f) oo oo;have e2:=qC (n:=t) oo oo;simp [yV,h1,h2,e1,e2]
 ·have h2:=qC (n:=s) oo oo
  simp [yV,h2]
 ·simp [yV]
theorem OpR.LZ {x:OpR}(h:x.ok):yx x.parts=some x:=by
 obtain⟨k,f,t,s,nm,d⟩:=x;have hd:=h.2.1;have hk:=h.2.2;simp only at hd hk;have h1:=OQ (d:=d) oo;unfold OpR.parts;simp only;rcases hk with⟨rfl|rfl,h3,h4,rfl,rfl⟩|⟨rfl,h3,h4,h5,h6,h7⟩|⟨rfl,h3,h4,rfl,rfl,rfl⟩|⟨rfl,rfl,rfl,rfl,rfl⟩
 ·have h2:=sU (n:=s) oo oo
  simp [yx,h1,h2]
 ·have h2:=sU (n:=s) oo oo
  simp [yx,h1,h2]
 ·have h2:=sU (n:=s) oo oo
  have e1:=sU (n:=f) oo oo;have e2:=sU (n:=t) oo oo;simp [yx,h1,h2,e1,e2]
 ·have h2:=sU (n:=s) oo oo
  simp [yx,h2]
 ·simp [yx]
theorem LY {ps:List Bs}{x:OpR}(h:yx ps=some x):x.parts=ps:=by
 unfold yx at h;split at h
 ·rename_i a b c e
  split at h
  ·rename_i ha
   cases hn:numOf c with
   |none=>rw[hn] at h;simp at h
   |some s=>
    cases hh:hexD e with
    |none=>rw[hn,hh] at h;simp at h
    |some d=>
     rw[hn,hh] at h;simp at h;subst h;unfold OpR.parts;simp only;rw[qI hn,XJ hh];rcases ha with rfl|rfl
     ·simp
     ·simp
  ·cases h
 ·rename_i a b c e g i
  split at h
  ·rename_i ha
   cases hn:numOf c with
   |none=>rw[hn] at h;simp at h
   |some f=>
    cases hn2:numOf e with
    |none=>rw[hn,hn2] at h;simp at h
    |some t=>
     cases hn3:numOf g with
     |none=>rw[hn,hn2,hn3] at h;simp at h
     |some s=>
      cases hh:hexD i with
      |none=>rw[hn,hn2,hn3,hh] at h;simp at h
      |some d=>
       rw[hn,hn2,hn3,hh] at h;simp at h;subst h;unfold OpR.parts;simp only;rw[qI hn,qI hn2,qI hn3,XJ hh,ha];simp
  ·cases h
 ·rename_i a b c
  split at h
  ·rename_i ha
   cases hn:numOf c with
   |none=>rw[hn] at h;simp at h
   |some s=>
    rw[hn] at h;simp at h;subst h;unfold OpR.parts;simp only;rw[qI hn,ha];simp
  ·cases h
 ·split at h
  ·rename_i ha
   simp at h;subst h;unfold OpR.parts;simp only;rw[ha];simp
  ·cases h
 ·cases h
def yB (t:Bs):Option OpR:=match yx (cut 32 t) with
 |some x=>if x.ok then some x else none
 |none=>none
theorem MR {x:OpR}(h:¬x.ok):x.fmt=[]:=by
 unfold OpR.fmt yU;exact if_neg h
theorem QB (t:Bs):(match yV (cut 32 t) with
 |some x=>if x.fmt=t then some x else none
 |none=>none)=yB t:=by
 unfold yB;by_cases h:∃x:OpR,x.ok∧x.parts=cut 32 t
 ·obtain⟨x,hx,hp⟩:=h
  rw[←hp,OpR.KW hx,OpR.LZ hx];have:x.fmt=t:=(by rw[OpR.iW hx,hp,aW]);simp only[this,if_pos hx,if_true]
 ·have h1:∀x,yV (cut 32 t)=some x→¬x.fmt=t:=by
   intro x hx e;by_cases hok:x.ok
   ·refine h ⟨x,hok,?_⟩
    rw[←e,OpR.iW hok,aX 32 _ x.UJ (OpR.KT hok)]
   ·rw[MR hok] at e
    subst e;simp [cut,yV] at hx
  have h2:∀x,yx (cut 32 t)=some x→¬x.ok:=fun x hx hok=>h ⟨x,hok,LY hx⟩
  cases hs:yV (cut 32 t) with
  |none=>
   cases hi:yx (cut 32 t) with
   |none=>rfl
   |some y=>simp only[if_neg (h2 y hi)]
  |some x=>
   simp only[if_neg (h1 x hs)]
   cases hi:yx (cut 32 t) with
   |none=>rfl
   |some y=>simp only[if_neg (h2 y hi)]
end Go.Proofs.YtfppmajoidkooaaGreatDoor
namespace Go.Proofs.YtfppmajoidkooaaGreatDoor
def uu (l:Bs):Bs:=two l.length++l++two (sumOf l)
theorem tH (n:Int):(two n).length=2:=rfl
theorem two_bytes (l:Bs)(a:Nat)(h:a+1<l.length):two (numAt l a)=(l.drop a).take 2:=by
 have e1:=zX l a oo;have e2:=zX l (a+1) h;have h1:=l[a].toNat_lt;have h2:=l[a+1].toNat_lt;have hd:(l.drop a).take 2=[l[a],l[a+1]]:=by
  rw[List.drop_eq_getElem_cons (by omega),List.drop_eq_getElem_cons h];rfl
 rw[hd];unfold two numAt;rw[e1,show((a:Int)+1)=((a+1:Nat):Int) by omega,e2];have k1:(((l[a].toNat:Int)*256+(l[a+1].toNat:Int)) / 256 % 256).toNat=l[a].toNat:=oo;have k2:(((l[a].toNat:Int)*256+(l[a+1].toNat:Int)) % 256).toNat=l[a+1].toNat:=oo;rw[k1,k2];simp
theorem UC {m n:Int}(h0:0≤m)(h1:m<65536)(h2:0≤n)(h3:n<65536)(h:two m=two n):m=n:=by
 unfold two at h;injection h with h4 h5
 injection h5 with h5 _
 have e1:=congrArg UInt8.toNat h4;have e2:=congrArg UInt8.toNat h5;rw[UInt8.toNat_ofNat',UInt8.toNat_ofNat'] at e1 e2;omega
theorem Uz (l:Bs)(a:Nat)(h:a+1<l.length):numAt ((l.drop a).take 2) 0=numAt l a:=by
 have e1:=zX l a oo;have e2:=zX l (a+1) h;have hd:(l.drop a).take 2=[l[a],l[a+1]]:=by
  rw[List.drop_eq_getElem_cons (by omega),List.drop_eq_getElem_cons h];rfl
 unfold numAt;rw[hd,e1,show((a:Int)+1)=((a+1:Nat):Int) by omega,e2];simp [byteAt]
def qR (l:Bs)(a:Nat):Bs:=(l.drop (a+2)).take (numAt l a).toNat
theorem gG (l:Bs)(a:Nat)(h:a+4+(numAt l a).toNat≤l.length):(qR l a).length=(numAt l a).toNat:=by
 unfold qR;simp;omega
theorem UA (l:Bs)(a:Nat)(h:a+4+(numAt l a).toNat≤l.length):uu (qR l a)=(l.drop a).take (4+(numAt l a).toNat)↔sumOf (qR l a)=numAt l ((a:Int)+2+numAt l a):=by
 have hn:=xA l a;have hl:=gG l a h;have e0:(l.drop a).take (4+(numAt l a).toNat)=(l.drop a).take 2++qR l a++(l.drop (a+2+(numAt l a).toNat)).take 2:=by
  unfold qR;generalize(numAt l a).toNat=n at*;have h1:(l.drop a).take (4+n)=(l.drop a).take 2++((l.drop a).drop 2).take (2+n):=by
   rw[show 4+n=2+(2+n) by omega,List.take_add]
  have h2:((l.drop a).drop 2).take (2+n)=((l.drop a).drop 2).take n++(((l.drop a).drop 2).drop n).take 2:=by
   rw[show 2+n=n+2 by omega,List.take_add]
  rw[h1,h2,List.drop_drop,List.drop_drop,List.append_assoc]
 have e1:two ((qR l a).length:Int)=(l.drop a).take 2:=by
  rw[hl,show(((numAt l a).toNat:Nat):Int)=numAt l a by omega];exact two_bytes l a oo
 have e2:=two_bytes l (a+2+(numAt l a).toNat) oo;have e3:((a+2+(numAt l a).toNat:Nat):Int)=(a:Int)+2+numAt l a:=oo;rw[e3] at e2;rw[e0,←e2];unfold uu;rw[e1];have hs:=uH (qR l a);have hm:=xA l ((a:Int)+2+numAt l a);constructor
 ·intro he
  have:=List.append_cancel_left he;exact UC oo oo oo oo this
 ·intro he;rw[he]
def yh (l:Bs)(a:Int):Option (OpR×Int):=
 if 0≤a∧a+4≤l.length∧a+4+numAt l a≤l.length then
  match yB (qR l a.toNat) with
  |some x=>if sumOf (qR l a.toNat)=numAt l (a+2+numAt l a) then some (x,a+4+numAt l a) else none
  |none=>none
 else none
end Go.Proofs.YtfppmajoidkooaaGreatDoor
