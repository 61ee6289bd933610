import Derived.Test.YtoedhpcmgondjaaGreatDoorYGQ
import Derived.Lib.ItoaNum
import Derived.Lib.Atoi
import Derived.Lib.AtoiTie
set_option linter.all false
namespace Go.Proofs.YtoedhpcmgondjaaGreatDoor
def wu (k:Int)(a:Bs)(f t s:Int)(d:Bs):Bs:=
 if rM k a f t s d then
  (if k=0 then[112,117,116,32]++a++[32]++Lib.itoa s++[32]++vX (qJ d)
   else if k=1 then[97,112,112,101,110,100,32]++a++[32]++Lib.itoa s++[32]++vX (qJ d)
   else if k=2 then[114,101,112,108,97,99,101,32]++a++[32]++Lib.itoa f++[32]++Lib.itoa t++[32]++Lib.itoa s++[32]++vX (qJ d)
   else if k=3 then[109,101,114,103,101,32]++a++[32]++Lib.itoa s
   else[100,101,108,101,116,101,32]++a)
 else[]
theorem qY {l:Bs}(h:vV l=true):1≤l.length∧l.length≤8:=by
 rw[vV,Bool.and_eq_true,decide_eq_true_eq] at h;exact h.1
theorem gZ (d:Bs):(qJ d).length≤8000:=by
 unfold qJ;split
 ·rw[hexOf_length];omega
 ·simp
theorem gV (d:Bs):(vX d).length≤d.length+1:=by
 unfold vX;split<;>simp
end Go.Proofs.YtoedhpcmgondjaaGreatDoor
namespace Go.Proofs.YtoedhpcmgondjaaGreatDoor
open Go.RowKit
theorem eH (k:Nat)(h:k<10):Lib.digitVal (UInt8.ofNat (48+k))=some k:=by
 have a:∀x:Fin 10,Lib.digitVal (UInt8.ofNat (48+x.val))=some x.val:=(by decide+kernel);exact a ⟨k,h⟩
theorem lK :∀(l:Bs) (a:Nat) (b:UInt8),Lib.decFrom a (l++[b])=(Lib.decFrom a l).bind fun n=>(Lib.digitVal b).map fun d=>n*10+d
 |[],a,b=>by
  show Lib.decFrom a [b]=_;unfold Lib.decFrom
  cases Lib.digitVal b<;>rfl
 |c::l,a,b=>by
  rw[List.cons_append];unfold Lib.decFrom
  cases Lib.digitVal c with
  |none=>rfl
  |some d=>exact lK l _ b
theorem bf (u:Nat)(h:10≤u):Lib.decDigits u=Lib.decDigits (u / 10)++[UInt8.ofNat (48+u % 10)]:=by
 rw[Lib.decDigits,dif_neg (by omega)]
theorem iT (u:Nat)(h:u<10):Lib.decDigits u=[UInt8.ofNat (48+u)]:=by
 rw[Lib.decDigits,dif_pos h]
theorem kK (u:Nat):Lib.decFrom 0 (Lib.decDigits u)=some u:=by
 induction u using Nat.strongRecOn with
 |ind u a=>
  by_cases h:u<10
  ·rw[iT u h]
   unfold Lib.decFrom;rw[eH u h];simp [Lib.decFrom]
  ·rw[bf u (by omega),lK,a (u / 10) (by omega),eH _ (by omega)]
   simp;omega
theorem Qk (u:Nat):∀x ∈ Lib.decDigits u,48≤x.toNat∧x.toNat≤57:=by
 have b:∀k,k<10→48≤(UInt8.ofNat (48+k)).toNat∧(UInt8.ofNat (48+k)).toNat≤57:=by
  intro k hk;rw[UInt8.toNat_ofNat'];omega
 induction u using Nat.strongRecOn with
 |ind u c=>
  by_cases h:u<10
  ·rw[iT u h]
   intro x a;simp only[List.mem_singleton] at a;rw[a];exact b u h
  ·rw[bf u (by omega)]
   intro x a;rcases List.mem_append.1 a with a|a
   ·exact c (u / 10) oo x a
   ·simp only[List.mem_singleton] at a
    rw[a];exact b _ (by omega)
theorem PH (u:Nat):Lib.decDigits u≠[]:=by
 by_cases h:u<10
 ·rw[iT u h];simp
 ·rw[bf u (by omega)];simp
theorem QJ :∀(k u:Nat),u<10 ^ (k+1)→(Lib.decDigits u).length≤k+1
 |0,u,h=>by rw[iT u (by omega)];simp
 |k+1,u,h=>by
  by_cases h1:u<10
  ·rw[iT u h1];simp
  ·rw[bf u (by omega),List.length_append]
   have:=QJ k (u / 10) (by rw[Nat.pow_succ] at h;omega);simp;omega
theorem UY (l m:Bs)(h:l≠[]):byteAt (l++m) 0=byteAt l 0:=by
 cases l with
 |nil=>exact absurd rfl h
 |cons x r=>rfl
theorem Jj (u:Nat):byteAt (Lib.decDigits u) 0=48→u=0:=by
 induction u using Nat.strongRecOn with
 |ind u a=>
  intro h0;by_cases h:u<10
  ·rw[iT u h] at h0
   unfold byteAt at h0;simp at h0;omega
  ·rw[bf u (by omega),UY _ _ (PH _)] at h0
   have:=a (u / 10) oo h0;omega
theorem KC (u:Nat):48≤byteAt (Lib.decDigits u) 0∧byteAt (Lib.decDigits u) 0≤57:=by
 have h:=Qk u;have a:=PH u
 cases hd:Lib.decDigits u with
 |nil=>exact absurd hd a
 |cons x r=>
  rw[hd] at h;have:=h x List.mem_cons_self;unfold byteAt;simp;omega
def rZ (neg:Bool)(r:Bs):Option Int:=
 if r.length=0∨17<r.length∨(byteAt r 0=48∧(1<r.length∨neg=true)) then none else(Lib.decFrom 0 r).map fun n=>if neg=true then -(n:Int) else n
def mr (l:Bs):Option Int:=if 0<l.length∧byteAt l 0=45 then rZ true (l.drop 1) else rZ false l
theorem TM (u:Nat)(h:u≤100000000000):mr (Lib.decDigits u)=some (u:Int):=by
 have b:=KC u;have c:=QJ 11 u oo;have a:=Jj u;have d:=List.length_pos_iff.2 (PH u);unfold mr;rw[if_neg (by omega)];unfold rZ;rw[if_neg,kK]
 ·simp
 ·rintro(h1|h1|⟨h1,h2|h2⟩)
  ·omega
  ·omega
  ·have:=a h1
   rw[this,iT 0 (by omega)] at h2;simp at h2
  ·cases h2
def numOf (l:Bs):Option Int:=match Lib.atoiAll l with
 | .ok v=>if Lib.itoa v=l then some v else none
 |_=>none
theorem eQ (u:Nat):Lib.itoa (u:Int)=Lib.decDigits u:=by
 unfold Lib.itoa;rw[if_neg (by omega)];simp
theorem U2 (u:Nat):Lib.atoi (Lib.decDigits u)=some (u:Int):=by
 have h:=Qk u;have c:=PH u;have b:=kK u
 cases hd:Lib.decDigits u with
 |nil=>exact absurd hd c
 |cons x r=>
  rw[hd] at h b;have a:=h x List.mem_cons_self;have d:(x==45)=false:=by
   rw[beq_eq_false_iff_ne];intro e;rw[e] at a;revert a;decide
  have f:(x==43)=false:=by
   rw[beq_eq_false_iff_ne];intro e;rw[e] at a;revert a;decide
  unfold Lib.atoi;simp only[d,f];unfold Lib.decNat;simp [b]
theorem Va (u:Nat)(h:u≤100000000000):numOf (Lib.decDigits u)=some (u:Int):=by
 unfold numOf;rw[Lib.atoiAll_short _ (by have:=QJ 11 u (by omega);omega),U2];simp [Lib.NumEnd.ofOption,eQ]
theorem pg {l:Bs}{v:Int}(h:numOf l=some v):Lib.itoa v=l:=by
 unfold numOf at h;split at h
 ·split at h
  ·simp at h;subst h;assumption
  ·cases h
 ·cases h
def xH (l:Bs):Bs:=if l=[45] then[] else l
def hexD (l:Bs):Option Bs:=if l=[45] then some [] else if l=[] then none else unhex l
theorem ZP (d:Bs):hexOf d≠[45]:=by
 intro e;have:=congrArg List.length e;rw[hexOf_length] at this;simp at this;omega
theorem Wx {d:Bs}(h:hexOf d=[]):d=[]:=by
 have:=congrArg List.length h;rw[hexOf_length] at this;exact List.eq_nil_of_length_eq_zero (by simp at this;omega)
theorem aI {d:Bs}(h:d.length≤4000):unhex (hexOf d)=some d:=by
 unfold unhex;rw[if_pos (by rw[hexOf_length];omega),Nc]
theorem QO {d:Bs}(h:d.length≤4000):unhex (xH (vX (hexOf d)))=some d:=by
 unfold vX;split
 ·rename_i e
  have:=Wx e;subst this;rfl
 ·unfold xH
  rw[if_neg (ZP d),aI h]
theorem MC {d:Bs}(h:d.length≤4000):hexD (vX (hexOf d))=some d:=by
 unfold vX;split
 ·rename_i e
  have:=Wx e;subst this;rfl
 ·rename_i e
  unfold hexD;rw[if_neg (ZP d),if_neg e,aI h]
theorem Wi {l d:Bs}(h:hexD l=some d):vX (hexOf d)=l:=by
 unfold hexD at h;split at h
 ·rename_i e
  simp at h;subst h;subst e;rfl
 ·split at h
  ·cases h
  ·rename_i h1 h2
   unfold unhex at h;split at h
   ·have:=XV l d h
    rw[this];unfold vX;rw[if_neg h2]
   ·cases h
structure OpR where
 k : Int
 f : Int
 t : Int
 s : Int
 nm : Bs
 d : Bs
def OpR.ok (x:OpR):Prop:=rM x.k x.nm x.f x.t x.s x.d
instance (x : OpR) : Decidable x.ok := by unfold OpR.ok; infer_instance
def OpR.fmt (x:OpR):Bs:=wu x.k x.nm x.f x.t x.s x.d
abbrev jS :Bs:=[112,117,116]
abbrev wM :Bs:=[97,112,112,101,110,100]
abbrev wz :Bs:=[114,101,112,108,97,99,101]
abbrev uH :Bs:=[109,101,114,103,101]
abbrev vP :Bs:=[100,101,108,101,116,101]
def OpR.parts (x:OpR):List Bs:=
 if x.k=0 then[jS,x.nm,Lib.itoa x.s,vX (hexOf x.d)]
 else if x.k=1 then[wM,x.nm,Lib.itoa x.s,vX (hexOf x.d)]
 else if x.k=2 then[wz,x.nm,Lib.itoa x.f,Lib.itoa x.t,Lib.itoa x.s,vX (hexOf x.d)]
 else if x.k=3 then[uH,x.nm,Lib.itoa x.s]
 else[vP,x.nm]
theorem OpR.dN {x:OpR}(h:x.ok):x.fmt=join 32 x.parts:=by
 have h2:qJ x.d=hexOf x.d:=by
  unfold qJ;rw[if_pos];have:=h.2.1;omega
 unfold OpR.fmt wu OpR.parts;have a:rM x.k x.nm x.f x.t x.s x.d:=h;rw[if_pos a,h2];split
 ·simp [join]
 ·split
  ·simp [join]
  ·split
   ·simp [join]
   ·split<;>simp [join]
theorem MV (d:Bs):∀x ∈ vX (hexOf d),x≠32:=by
 unfold vX;split
 ·intro x a;simp at a;subst a;decide
 ·exact J6 d
theorem qX {n:Int}(h:0≤n):∀x ∈ Lib.itoa n,x≠32:=by
 obtain⟨u,rfl⟩:=Int.eq_ofNat_of_zero_le h;rw[eQ];intro x a e;have:=Qk u x a;rw[e] at this;revert this;decide
theorem NQ {l:Bs}(h:vV l=true):∀x ∈ l,x≠32:=by
 rw[vV,Bool.and_eq_true,List.all_eq_true] at h;intro x a e;have:=h.2 x a;rw[e] at this;revert this;decide
theorem OpR.Ig {x:OpR}(h:x.ok):∀p ∈ x.parts,∀c ∈ p,c≠32:=by
 have b:=NQ h.1;have e:=MV x.d;have hk:=h.2.2;unfold OpR.parts;have g:∀c ∈ jS,c≠32:=(by decide);have i:∀c ∈ wM,c≠32:=(by decide);have j:∀c ∈ wz,c≠32:=(by decide);have k:∀c ∈ uH,c≠32:=(by decide);have l:∀c ∈ vP,c≠32:=(by decide);split
 ·have a:=qX (n:=x.s) oo
  simp only[List.mem_cons,List.not_mem_nil,or_false];rintro p (rfl|rfl|rfl|rfl)<;>assumption
 ·split
  ·have a:=qX (n:=x.s) oo
   simp only[List.mem_cons,List.not_mem_nil,or_false];rintro p (rfl|rfl|rfl|rfl)<;>assumption
  ·split
   ·have a:=qX (n:=x.s) oo
    have m:=qX (n:=x.f) oo;have o:=qX (n:=x.t) oo;simp only[List.mem_cons,List.not_mem_nil,or_false];rintro p (rfl|rfl|rfl|rfl|rfl|rfl)<;>assumption
   ·split
    ·have a:=qX (n:=x.s) oo
     simp only[List.mem_cons,List.not_mem_nil,or_false];rintro p (rfl|rfl|rfl)<;>assumption
    ·simp only[List.mem_cons,List.not_mem_nil,or_false]
     rintro p (rfl|rfl)<;>assumption
theorem OpR.TF (x:OpR):x.parts≠[]:=by
 unfold OpR.parts;repeat(first|split|simp)
def yH :List Bs→Option OpR
 |[a,b,c,e]=>if a=jS∨a=wM then match numOf c,hexD e with
    |some s,some d=>some ⟨if a=wM then 1 else 0,0,0,s,b,d⟩
    |_,_=>none
  else none
 |[a,b,c,e,g,h]=>if a=wz then match numOf c,numOf e,numOf g,hexD h with
    |some f,some t,some s,some d=>some ⟨2,f,t,s,b,d⟩
    |_,_,_,_=>none
  else none
 |[a,b,c]=>if a=uH then(numOf c).map fun s=>⟨3,0,0,s,b,[]⟩ else none
 |[a,b]=>if a=vP then some ⟨4,0,0,0,b,[]⟩ else none
 |_=>none
def xh :List Bs→Option OpR
 |[a,b,c,e]=>if a=jS∨a=wM then some ⟨if a=wM then 1 else 0,0,0,(mr c).getD 0,b,(unhex (xH e)).getD []⟩ else none
 |[a,b,c,e,g,h]=>if a=wz then some ⟨2,(mr c).getD 0,(mr e).getD 0,(mr g).getD 0,b,(unhex (xH h)).getD []⟩ else none
 |[a,b,c]=>if a=uH then some ⟨3,0,0,(mr c).getD 0,b,[]⟩ else none
 |[a,b]=>if a=vP then some ⟨4,0,0,0,b,[]⟩ else none
 |_=>none
theorem qZ {n:Int}(h0:0≤n)(h1:n≤100000000000):mr (Lib.itoa n)=some n:=by
 obtain⟨u,rfl⟩:=Int.eq_ofNat_of_zero_le h0;rw[eQ,TM u (by omega)]
theorem rP {n:Int}(h0:0≤n)(h1:n≤100000000000):numOf (Lib.itoa n)=some n:=by
 obtain⟨u,rfl⟩:=Int.eq_ofNat_of_zero_le h0;rw[eQ,Va u (by omega)]
theorem OpR.Ii {x:OpR}(h:x.ok):xh x.parts=some x:=by
 obtain⟨k,f,t,s,i,d⟩:=x;have c:=h.2.1;have hk:=h.2.2;simp only at c hk;have h1:=QO (d:=d) oo;unfold OpR.parts;simp only;rcases hk with⟨rfl|rfl,a,b,rfl,rfl⟩|⟨rfl,a,b,j,l,m⟩|⟨rfl,a,b,rfl,rfl,rfl⟩|⟨rfl,rfl,rfl,rfl,rfl⟩
 ·have h2:=qZ (n:=s) oo oo
  simp [xh,h1,h2]
 ·have h2:=qZ (n:=s) oo oo
  simp [xh,h1,h2]
 ·have h2:=qZ (n:=s) oo oo
  have e:=qZ (n:=f) oo oo;have g:=qZ (n:=t) oo oo;simp [xh,h1,h2,e,g]
 ·have h2:=qZ (n:=s) oo oo
  simp [xh,h2]
 ·simp [xh]
theorem OpR.JI {x:OpR}(h:x.ok):yH x.parts=some x:=by
 obtain⟨k,f,t,s,i,d⟩:=x;have c:=h.2.1;have hk:=h.2.2;simp only at c hk;have h1:=MC (d:=d) oo;unfold OpR.parts;simp only;rcases hk with⟨rfl|rfl,a,b,rfl,rfl⟩|⟨rfl,a,b,j,l,m⟩|⟨rfl,a,b,rfl,rfl,rfl⟩|⟨rfl,rfl,rfl,rfl,rfl⟩
 ·have h2:=rP (n:=s) oo oo
  simp [yH,h1,h2]
 ·have h2:=rP (n:=s) oo oo
  simp [yH,h1,h2]
 ·have h2:=rP (n:=s) oo oo
  have e:=rP (n:=f) oo oo;have g:=rP (n:=t) oo oo;simp [yH,h1,h2,e,g]
 ·have h2:=rP (n:=s) oo oo
  simp [yH,h2]
 ·simp [yH]
theorem JE {ps:List Bs}{x:OpR}(h:yH ps=some x):x.parts=ps:=by
 unfold yH at h;split at h
 ·rename_i a b c e
  split at h
  ·rename_i j
   cases hn:numOf c with
   |none=>rw[hn] at h;simp at h
   |some s=>
    cases hh:hexD e with
    |none=>rw[hn,hh] at h;simp at h
    |some d=>
     rw[hn,hh] at h;simp at h;subst h;unfold OpR.parts;simp only;rw[pg hn,Wi hh];rcases j with rfl|rfl
     ·simp
     ·simp
  ·cases h
 ·rename_i a b c e g i
  split at h
  ·rename_i j
   cases hn:numOf c with
   |none=>rw[hn] at h;simp at h
   |some f=>
    cases hn2:numOf e with
    |none=>rw[hn,hn2] at h;simp at h
    |some t=>
     cases hn3:numOf g with
     |none=>rw[hn,hn2,hn3] at h;simp at h
     |some s=>
      cases hh:hexD i with
      |none=>rw[hn,hn2,hn3,hh] at h;simp at h
      |some d=>
       rw[hn,hn2,hn3,hh] at h;simp at h;subst h;unfold OpR.parts;simp only;rw[pg hn,pg hn2,pg hn3,Wi hh,j];simp
  ·cases h
 ·rename_i a b c
  split at h
  ·rename_i j
   cases hn:numOf c with
   |none=>rw[hn] at h;simp at h
   |some s=>
    rw[hn] at h;simp at h;subst h;unfold OpR.parts;simp only;rw[pg hn,j];simp
  ·cases h
 ·split at h
  ·rename_i j
   simp at h;subst h;unfold OpR.parts;simp only;rw[j];simp
  ·cases h
 ·cases h
def yK (t:Bs):Option OpR:=match yH (cut 32 t) with
 |some x=>if x.ok then some x else none
 |none=>none
theorem Jb {x:OpR}(h:¬x.ok):x.fmt=[]:=by
 unfold OpR.fmt wu;exact if_neg h
theorem PG (t:Bs):(match xh (cut 32 t) with
 |some x=>if x.fmt=t then some x else none
 |none=>none)=yK t:=by
 unfold yK;by_cases h:∃x:OpR,x.ok∧x.parts=cut 32 t
 ·obtain⟨x,a,c⟩:=h
  rw[←c,OpR.Ii a,OpR.JI a];have:x.fmt=t:=(by rw[OpR.dN a,c,Yy]);simp only[this,if_pos a,if_true]
 ·have h1:∀x,xh (cut 32 t)=some x→¬x.fmt=t:=by
   intro x a e;by_cases b:x.ok
   ·refine h ⟨x,b,?_⟩
    rw[←e,OpR.dN b,YQ 32 _ x.TF (OpR.Ig b)]
   ·rw[Jb b] at e
    subst e;simp [cut,xh] at a
  have h2:∀x,yH (cut 32 t)=some x→¬x.ok:=fun x a b=>h ⟨x,b,JE a⟩
  cases hs:xh (cut 32 t) with
  |none=>
   cases hi:yH (cut 32 t) with
   |none=>rfl
   |some y=>simp only[if_neg (h2 y hi)]
  |some x=>
   simp only[if_neg (h1 x hs)]
   cases hi:yH (cut 32 t) with
   |none=>rfl
   |some y=>simp only[if_neg (h2 y hi)]
end Go.Proofs.YtoedhpcmgondjaaGreatDoor
namespace Go.Proofs.YtoedhpcmgondjaaGreatDoor
def uK (l:Bs):Bs:=two l.length++l++two (sumOf l)
theorem xJ (n:Int):(two n).length=2:=rfl
theorem two_bytes (l:Bs)(a:Nat)(h:a+1<l.length):two (numAt l a)=(l.drop a).take 2:=by
 have b:=yh l a oo;have c:=yh l (a+1) h;have h1:=l[a].toNat_lt;have h2:=l[a+1].toNat_lt;have d:(l.drop a).take 2=[l[a],l[a+1]]:=by
  rw[List.drop_eq_getElem_cons (by omega),List.drop_eq_getElem_cons h];rfl
 rw[d];unfold two numAt;rw[b,show((a:Int)+1)=((a+1:Nat):Int) by omega,c];have e:(((l[a].toNat:Int)*256+(l[a+1].toNat:Int)) / 256 % 256).toNat=l[a].toNat:=oo;have f:(((l[a].toNat:Int)*256+(l[a+1].toNat:Int)) % 256).toNat=l[a+1].toNat:=oo;rw[e,f];simp
theorem Uj {m n:Int}(h0:0≤m)(h1:m<65536)(h2:0≤n)(c:n<65536)(h:two m=two n):m=n:=by
 unfold two at h;injection h with h4 h5
 injection h5 with h5 _
 have a:=congrArg UInt8.toNat h4;have b:=congrArg UInt8.toNat h5;rw[UInt8.toNat_ofNat',UInt8.toNat_ofNat'] at a b;omega
theorem Ti (l:Bs)(a:Nat)(h:a+1<l.length):numAt ((l.drop a).take 2) 0=numAt l a:=by
 have b:=yh l a oo;have c:=yh l (a+1) h;have d:(l.drop a).take 2=[l[a],l[a+1]]:=by
  rw[List.drop_eq_getElem_cons (by omega),List.drop_eq_getElem_cons h];rfl
 unfold numAt;rw[d,b,show((a:Int)+1)=((a+1:Nat):Int) by omega,c];simp [byteAt]
def qA (l:Bs)(a:Nat):Bs:=(l.drop (a+2)).take (numAt l a).toNat
theorem fQ (l:Bs)(a:Nat)(h:a+4+(numAt l a).toNat≤l.length):(qA l a).length=(numAt l a).toNat:=by
 unfold qA;simp;omega
theorem Tf (l:Bs)(a:Nat)(h:a+4+(numAt l a).toNat≤l.length):uK (qA l a)=(l.drop a).take (4+(numAt l a).toNat)↔sumOf (qA l a)=numAt l ((a:Int)+2+numAt l a):=by
 have i:=xQ l a;have d:=fQ l a h;have e:(l.drop a).take (4+(numAt l a).toNat)=(l.drop a).take 2++qA l a++(l.drop (a+2+(numAt l a).toNat)).take 2:=by
  unfold qA;generalize(numAt l a).toNat=n at*;have h1:(l.drop a).take (4+n)=(l.drop a).take 2++((l.drop a).drop 2).take (2+n):=by
   rw[show 4+n=2+(2+n) by omega,List.take_add]
  have h2:((l.drop a).drop 2).take (2+n)=((l.drop a).drop 2).take n++(((l.drop a).drop 2).drop n).take 2:=by
   rw[show 2+n=n+2 by omega,List.take_add]
  rw[h1,h2,List.drop_drop,List.drop_drop,List.append_assoc]
 have f:two ((qA l a).length:Int)=(l.drop a).take 2:=by
  rw[d,show(((numAt l a).toNat:Nat):Int)=numAt l a by omega];exact two_bytes l a oo
 have c:=two_bytes l (a+2+(numAt l a).toNat) oo;have g:((a+2+(numAt l a).toNat:Nat):Int)=(a:Int)+2+numAt l a:=oo;rw[g] at c;rw[e,←c];unfold uK;rw[f];have j:=tq (qA l a);have k:=xQ l ((a:Int)+2+numAt l a);constructor
 ·intro b
  have:=List.append_cancel_left b;exact Uj oo oo oo oo this
 ·intro b;rw[b]
def zZ (l:Bs)(a:Int):Option (OpR×Int):=
 if 0≤a∧a+4≤l.length∧a+4+numAt l a≤l.length then
  match yK (qA l a.toNat) with
  |some x=>if sumOf (qA l a.toNat)=numAt l (a+2+numAt l a) then some (x,a+4+numAt l a) else none
  |none=>none
 else none
