import Derived.Test.YtoedhpcmgondjaaGreatDoorYGA
import Derived.Lib.Split
import Derived.Lib.CountLaws
import Derived.Lib.Bytealg
set_option linter.all false
set_option maxHeartbeats 8000000
namespace Go.Proofs.YtoedhpcmgondjaaGreatDoor
open Go.RowKit
abbrev hexL :Bs:=[48,49,50,51,52,53,54,55,56,57,97,98,99,100,101,102]
def hexOf (l:Bs):Bs:=l.flatMap fun c=>[hexL.getD (c.toNat / 16) 0,hexL.getD (c.toNat % 16) 0]
theorem hexOf_length (l:Bs):(hexOf l).length=2*l.length:=by
 induction l with
 |nil=>rfl
 |cons c l a=>simp only[hexOf,List.flatMap_cons,List.length_append,List.length_cons,List.length_nil] at a⊢;omega
theorem Qy (l:Bs)(k:Nat)(h:k<l.length):hexOf (l.take (k+1))=hexOf (l.take k)++[hexL.getD (l[k].toNat / 16) 0,hexL.getD (l[k].toNat % 16) 0]:=by
 rw[take_snoc' l k h,hexOf,List.flatMap_append];rfl
theorem Ib (l:Bs)(k:Nat)(h:k<l.length):byteAt hexL (byteAt l k / 16)=((hexL.getD (l[k].toNat / 16) 0).toNat:Int):=by
 rw[yh l k h];show((hexL[((l[k].toNat:Int) / 16).toNat]?.getD 0).toNat:Int)=_;rw[show((l[k].toNat:Int) / 16).toNat=l[k].toNat / 16 by omega];rfl
theorem Ij (l:Bs)(k:Nat)(h:k<l.length):byteAt hexL (byteAt l k % 16)=((hexL.getD (l[k].toNat % 16) 0).toNat:Int):=by
 rw[yh l k h];show((hexL[((l[k].toNat:Int) % 16).toNat]?.getD 0).toNat:Int)=_;rw[show((l[k].toNat:Int) % 16).toNat=l[k].toNat % 16 by omega];rfl
def vX (l:Bs):Bs:=if l=[] then[45] else l
def qJ (l:Bs):Bs:=if l.length≤4000 then hexOf l else[]
end Go.Proofs.YtoedhpcmgondjaaGreatDoor
namespace Go.Proofs.YtoedhpcmgondjaaGreatDoor
def cut (c:UInt8):Bs→List Bs
 |[]=>[[]]
 |x::r=>if x=c then[]::cut c r else match cut c r with
  |[]=>[[x]]
  |y::a=>(x::y)::a
theorem Ru (c:UInt8)(l:Bs):cut c l≠[]:=by
 cases l with
 |nil=>simp [cut]
 |cons x r=>
  unfold cut;split
  ·simp
  ·split<;>simp
theorem kR (c:UInt8):∀a:Bs,(∀x ∈ a,x≠c)→cut c a=[a]
 |[],_=>rfl
 |x::r,h=>by
  unfold cut;rw[if_neg (h x List.mem_cons_self),kR c r (fun y b=>h y (List.mem_cons_of_mem _ b))]
theorem cu (c:UInt8)(r:Bs):∀a:Bs,(∀x ∈ a,x≠c)→cut c (a++c::r)=a::cut c r
 |[],_=>by simp [cut]
 |x::a,h=>by
  have e:cut c (x::(a++c::r))=if x=c then[]::cut c (a++c::r) else match cut c (a++c::r) with
   |[]=>[[x]]
   |y::b=>(x::y)::b:=rfl
  rw[List.cons_append,e,if_neg (h x List.mem_cons_self),cu c r a (fun y d=>h y (List.mem_cons_of_mem _ d))]
theorem ag (c:UInt8):∀l:Bs,(∀x ∈ l,x≠c)∨∃a r,l=a++c::r∧∀x ∈ a,x≠c
 |[]=>.inl (by simp)
 |x::l=>by
  by_cases d:x=c
  ·exact .inr ⟨[],l,by simp [d],by simp⟩
  ·rcases ag c l with h|⟨a,r,rfl,h⟩
   ·refine .inl fun y b=> ?_
    rcases List.mem_cons.1 b with rfl|b
    ·exact d
    ·exact h y b
   ·refine .inr ⟨x::a,r,rfl,fun y b=> ?_⟩
    rcases List.mem_cons.1 b with rfl|b
    ·exact d
    ·exact h y b
theorem ZR (c:UInt8):∀a:Bs,(∀x ∈ a,x≠c)→Lib.index a [c]= -1
 |[],_=>rfl
 |x::a,h=>by
  have h1:=ZR c a (fun y b=>h y (List.mem_cons_of_mem _ b));have h2:([c]:Bs).isPrefixOf (x::a)=false:=by
   simp [List.isPrefixOf];exact fun e=>h x List.mem_cons_self e.symm
  unfold Lib.index;rw[h2,h1];rfl
theorem Vy (c:UInt8)(r:Bs):∀a:Bs,(∀x ∈ a,x≠c)→Lib.index (a++c::r) [c]=(a.length:Int)
 |[],_=>by
  show Lib.index (c::r) [c]=0;unfold Lib.index;simp [List.isPrefixOf]
 |x::a,h=>by
  have h1:=Vy c r a (fun y b=>h y (List.mem_cons_of_mem _ b));have h2:([c]:Bs).isPrefixOf (x::(a++c::r))=false:=by
   simp [List.isPrefixOf];exact fun e=>h x List.mem_cons_self e.symm
  rw[List.cons_append];unfold Lib.index;rw[h2,h1];have:((a.length:Int)== -1)=false:=by
   rw[beq_eq_false_iff_ne];omega
  rw[this];simp
theorem XE (c:UInt8):∀(n:Nat) (l:Bs),l.length≤n→Lib.splitK [c] 0 (Lib.count l [c]) l=cut c l
 |0,l,h=>by
  have:l=[]:=List.eq_nil_of_length_eq_zero oo;subst this;rfl
 |n+1,l,h=>by
  rcases ag c l with b|⟨a,r,rfl,d⟩
  ·rw[Lib.count_miss (ZR c l b),kR c l b];rfl
  ·have e:=Vy c r a d
   have g:(a++c::r).length=a.length+1+r.length:=(by simp;omega);have f:(a++c::r).drop (a.length+1)=r:=by
    rw[List.drop_append];simp
   rw[Lib.count_hit (by simp) e,cu c r a d,Nat.add_comm 1];unfold Lib.splitK;rw[e];have:((a.length:Int)== -1)=false:=by
    rw[beq_eq_false_iff_ne];omega
   rw[this];simp only[Bool.false_eq_true,if_false,Int.toNat_natCast,List.length_cons,List.length_nil,Nat.add_zero];rw[show a.length+(0+1)=a.length+1 by omega,f,XE c n r (by omega)];simp
theorem O7 (c:UInt8)(t:Bs):(Lib.splitB ⟨#[c]⟩ 0 (Lib.countB ⟨t.toArray⟩ ⟨#[c]⟩) ⟨t.toArray⟩).map Value.string=(cut c t).map fun l=>Value.string ⟨l.toArray⟩:=by
 have h:=Lib.splitB_data ⟨#[c]⟩ 0 (Lib.countB ⟨t.toArray⟩ ⟨#[c]⟩) ⟨t.toArray⟩;have e:Lib.countB ⟨t.toArray⟩ ⟨#[c]⟩=Lib.count t [c]:=(by simp [Lib.countB]);rw[e] at h⊢;have h2:=XE c t.length t (Nat.le_refl _);have a:(Lib.splitB ⟨#[c]⟩ 0 (Lib.count t [c]) ⟨t.toArray⟩).map (·.data.toList)=cut c t:=(by rw[h,←h2]);rw[←a,List.map_map];apply List.map_congr_left;intro x _;simp
theorem Zc (c:UInt8):∀(n:Nat) (l:Bs),l.length≤n→Lib.count l [c]+1=(cut c l).length
 |0,l,h=>by
  have:l=[]:=List.eq_nil_of_length_eq_zero oo;subst this;rfl
 |n+1,l,h=>by
  rcases ag c l with b|⟨a,r,rfl,d⟩
  ·rw[Lib.count_miss (ZR c l b),kR c l b];rfl
  ·have e:=Vy c r a d
   have g:(a++c::r).length=a.length+1+r.length:=(by simp;omega);have f:(a++c::r).drop (a.length+1)=r:=by
    rw[List.drop_append];simp
   rw[Lib.count_hit (by simp) e,cu c r a d,List.length_cons];simp only[List.length_cons,List.length_nil,Nat.zero_add,f];have:=Zc c n r oo;omega
def vY (c:UInt8):Int:=Lib.indexByte hexL c
theorem Jm :∀x:Fin 256,(0≤vY (UInt8.ofNat x.val)→vY (UInt8.ofNat x.val)<16∧hexL.getD (vY (UInt8.ofNat x.val)).toNat 0=UInt8.ofNat x.val)∧ -1≤vY (UInt8.ofNat x.val):=by decide+kernel
theorem RF (c:UInt8):(0≤vY c→vY c<16∧hexL.getD (vY c).toNat 0=c)∧ -1≤vY c:=by
 have:=Jm ⟨c.toNat,c.toNat_lt⟩;simpa using this
theorem Pv :∀n:Fin 16,vY (hexL.getD n.val 0)=n.val:=by decide+kernel
theorem Py :∀n:Fin 16,hexL.getD n.val 0≠32:=by decide+kernel
def unhexL :Bs→Option Bs
 |a::b::r=>if 0≤vY a∧0≤vY b then(unhexL r).map (UInt8.ofNat (16*(vY a).toNat+(vY b).toNat)::·) else none
 |[]=>some []
 |[_]=>none
def unhex (l:Bs):Option Bs:=if l.length % 2=0∧l.length≤8000 then unhexL l else none
theorem Zz {P:Bs→Prop}(h0:P [])(h1:∀a,P [a])(h2:∀a b r,P r→P (a::b::r)):∀l,P l
 |[]=>h0
 |[a]=>h1 a
 |a::b::r=>h2 a b r (Zz h0 h1 h2 r)
theorem SY (x y:Nat)(a:x<16)(b:y<16):(UInt8.ofNat (16*x+y)).toNat / 16=x∧(UInt8.ofNat (16*x+y)).toNat % 16=y:=by
 rw[UInt8.toNat_ofNat'];omega
theorem XV (l:Bs):∀r,unhexL l=some r→hexOf r=l:=by
 induction l using Zz with
 |h0=>intro r h;simp [unhexL] at h;subst h;rfl
 |h1 a=>intro r h;simp [unhexL] at h
 |h2 a b t e=>
  intro r h;unfold unhexL at h;split at h
  ·rename_i d
   cases hu:unhexL t with
   |none=>rw[hu] at h;simp at h
   |some u=>
    rw[hu] at h;simp at h;subst h;have f:=(RF a).1 d.1;have g:=(RF b).1 d.2;have c:=SY (vY a).toNat (vY b).toNat oo oo;have:=e u hu;unfold hexOf at this⊢;rw[List.flatMap_cons,this];rw[show UInt8.ofNat (16*(vY a).toNat+(vY b).toNat)=UInt8.ofNat (16*(vY a).toNat+(vY b).toNat) from rfl] at c;simp only[UInt8.ofNat_add,UInt8.ofNat_mul] at c⊢;show [hexL.getD ((UInt8.ofNat 16*UInt8.ofNat (vY a).toNat+UInt8.ofNat (vY b).toNat).toNat / 16) 0,hexL.getD ((UInt8.ofNat 16*UInt8.ofNat (vY a).toNat+UInt8.ofNat (vY b).toNat).toNat % 16) 0]++t=_;rw[c.1,c.2,f.2,g.2];rfl
  ·cases h
theorem Nc (r:Bs):unhexL (hexOf r)=some r:=by
 induction r with
 |nil=>rfl
 |cons c r d=>
  have e:hexOf (c::r)=hexL.getD (c.toNat / 16) 0::hexL.getD (c.toNat % 16) 0::hexOf r:=rfl;have h1:=c.toNat_lt;have a:=Pv ⟨c.toNat / 16,oo⟩;have b:=Pv ⟨c.toNat % 16,oo⟩;simp only at a b;rw[e];unfold unhexL;rw[a,b,if_pos ⟨by omega,by omega⟩,d];simp only[Int.toNat_natCast,Option.map_some];congr 2;have:16*(c.toNat / 16)+c.toNat % 16=c.toNat:=oo;rw[this];simp
theorem J6 (r:Bs):∀x ∈ hexOf r,x≠32:=by
 intro x a;unfold hexOf at a;rw[List.mem_flatMap] at a;obtain⟨c,_,a⟩:=a;have h1:=c.toNat_lt;have b:=Py ⟨c.toNat / 16,oo⟩;have d:=Py ⟨c.toNat % 16,oo⟩;simp only at b d;rcases List.mem_cons.1 a with rfl|a
 ·exact b
 ·rcases List.mem_cons.1 a with rfl|a
  ·exact d
  ·cases a
theorem TJ (l:Bs):∀(k:Nat),2*k+1<l.length→l.length % 2=0→
 unhexL (l.take (2*(k+1)))=(unhexL (l.take (2*k))).bind fun r=>if 0≤vY (l.getD (2*k) 0)∧0≤vY (l.getD (2*k+1) 0) then some (r++[UInt8.ofNat (16*(vY (l.getD (2*k) 0)).toNat+(vY (l.getD (2*k+1) 0)).toNat)]) else none:=by
 induction l using Zz with
 |h0=>intro k h;simp at h
 |h1 a=>intro k h;simp at h
 |h2 a b t e=>
  intro k h f
  cases k with
  |zero=>
   simp only[Nat.mul_zero,Nat.zero_add,Nat.mul_one,List.take_succ_cons,List.take_zero];show unhexL [a,b]=some ([]:Bs)>>= _;simp [unhexL]
  |succ k=>
   have g:2*(k+1+1)=2*(k+1)+1+1:=oo;have d:2*(k+1)=2*k+1+1:=oo;have i:(a::b::t).getD (2*(k+1)) 0=t.getD (2*k) 0:=(by rw[d];rfl);have j:(a::b::t).getD (2*(k+1)+1) 0=t.getD (2*k+1) 0:=(by rw[d];rfl);have m:=e k (by simp at h;omega) (by simp at f;omega);rw[i,j,g,List.take_succ_cons,List.take_succ_cons];rw[d,List.take_succ_cons,List.take_succ_cons];rw[show 2*k+1+1=2*(k+1) by omega];unfold unhexL;rw[m];by_cases c:0≤vY a∧0≤vY b
   ·rw[if_pos c,if_pos c]
    cases unhexL (t.take (2*k)) with
    |none=>rfl
    |some r=>
     simp only[Option.bind_some,Option.map_some];split<;>rfl
   ·rw[if_neg c,if_neg c];rfl
theorem Qc (l:Bs):∀r,unhexL l=some r→l.length=2*r.length:=by
 intro r h;rw[←XV l r h,hexOf_length]
theorem QQ (l:Bs):∀(k:Nat),2*k+1<l.length→¬(0≤vY (l.getD (2*k) 0)∧0≤vY (l.getD (2*k+1) 0))→unhexL l=none:=by
 induction l using Zz with
 |h0=>intro k h;simp at h
 |h1 a=>intro k h;simp at h
 |h2 a b t e=>
  intro k h c;unfold unhexL
  cases k with
  |zero=>exact if_neg c
  |succ k=>
   have d:2*(k+1)=2*k+1+1:=oo;have f:(a::b::t).getD (2*(k+1)) 0=t.getD (2*k) 0:=(by rw[d];rfl);have g:(a::b::t).getD (2*(k+1)+1) 0=t.getD (2*k+1) 0:=(by rw[d];rfl);rw[f,g] at c;rw[e k (by simp at h;omega) c];split<;>rfl
theorem Ur {l r:Bs}{k:Nat}(h:2*k+1<l.length)(a:l.length % 2=0)(b:unhexL (l.take (2*k))=some r)(h1:0≤vY (l.getD (2*k) 0))(h2:0≤vY (l.getD (2*k+1) 0)):
 unhexL (l.take (2*(k+1)))=some (r++[UInt8.ofNat (16*(vY (l.getD (2*k) 0)).toNat+(vY (l.getD (2*k+1) 0)).toNat)]):=by
 rw[TJ l k h a,b];simp only[Option.bind_some];rw[if_pos ⟨h1,h2⟩]
theorem P8 (c:UInt8):∀l:Bs,(∀x ∈ l,x≠c)→Lib.indexByte l c= -1
 |[],_=>rfl
 |x::l,h=>by
  have h1:=P8 c l (fun y a=>h y (List.mem_cons_of_mem _ a));have h2:(x==c)=false:=(by simpa using h x List.mem_cons_self);unfold Lib.indexByte;rw[h1,h2];rfl
theorem L9 (c:UInt8):∀(l:Bs) (k:Nat) (hk:k<l.length),(∀x ∈ l.take k,x≠c)→l[k]=c→Lib.indexByte l c=k
 |[],k,hk,_,_=>absurd hk (by simp)
 |x::l,0,_,_,a=>by
  have h2:(x==c)=true:=(by simpa using a);unfold Lib.indexByte;rw[h2];rfl
 |x::l,k+1,hk,h,a=>by
  have h1:=L9 c l k (by simpa using hk) (fun y b=>h y (by simp [b])) a;have h2:(x==c)=false:=(by simpa using h x (by simp));unfold Lib.indexByte;rw[h1,h2];have:((k:Int)== -1)=false:=(by rw[beq_eq_false_iff_ne];omega);rw[this];simp
def join (c:UInt8):List Bs→Bs
 |[]=>[]
 |[a]=>a
 |a::b::r=>a++c::join c (b::r)
theorem YQ (c:UInt8):∀d:List Bs,d≠[]→(∀l ∈ d,∀x ∈ l,x≠c)→cut c (join c d)=d
 |[a],_,h=>kR c a (h a List.mem_cons_self)
 |a::b::r,_,h=>by
  show cut c (a++c::join c (b::r))=_;rw[cu c _ a (h a List.mem_cons_self),YQ c (b::r) (by simp) (fun l e=>h l (List.mem_cons_of_mem _ e))]
theorem join_cons (c:UInt8)(a:Bs)(d:List Bs)(h:d≠[]):join c (a::d)=a++c::join c d:=by
 cases d with
 |nil=>exact absurd rfl h
 |cons b r=>rfl
theorem Yy (c:UInt8):∀l:Bs,join c (cut c l)=l
 |[]=>rfl
 |x::r=>by
  have a:=Yy c r;have b:=Ru c r;unfold cut;split
  ·rename_i e
   rw[join_cons c _ _ b,a,e];rfl
  ·cases hc:cut c r with
   |nil=>exact absurd hc b
   |cons y d=>
    rw[hc] at a
    cases d with
    |nil=>show x::y=_;rw[←a];rfl
    |cons z f=>
     show(x::y)++c::join c (z::f)=_;rw[←a];rfl
theorem WL (p r:Bs)(h:unhex p=some r):r.length≤4000∧p.length=2*r.length:=by
 unfold unhex at h;split at h
 ·rename_i a
  have:=Qc p r h;omega
 ·cases h
theorem ZK (p:Bs):((unhex p).getD []).length≤4000:=by
 cases h:unhex p with
 |none=>simp
 |some r=>exact(WL p r h).1
theorem PM (c:UInt8):∀l:Bs,(cut c l).length≤l.length+1
 |[]=>by simp [cut]
 |x::r=>by
  have a:=PM c r;unfold cut;split
  ·simp;omega
  ·cases hc:cut c r with
   |nil=>simp
   |cons y b=>rw[hc] at a;simp at a⊢;omega
theorem oV (c:UInt8):∀(l:Bs),∀p ∈ cut c l,p.length≤l.length
 |[],p,h=>by simp [cut] at h;subst h;simp
 |x::r,p,h=>by
  have a:=oV c r;unfold cut at h;split at h
  ·rcases List.mem_cons.1 h with rfl|h
   ·simp
   ·have:=a p h;simp;omega
  ·cases hc:cut c r with
   |nil=>rw[hc] at h;simp at h;subst h;simp
   |cons y b=>
    rw[hc] at h a;rcases List.mem_cons.1 h with rfl|h
    ·have:=a y List.mem_cons_self;simp;omega
    ·have:=a p (List.mem_cons_of_mem _ h);simp;omega
end Go.Proofs.YtoedhpcmgondjaaGreatDoor
namespace Go.Proofs.YtoedhpcmgondjaaGreatDoor
open Go.Lib(hid)
open Go.RowKit Go.Proofs.Tryz
set_option maxRecDepth 100000
attribute [local go_sem high] zG zF zH zV zN yu zD zl zn zt zi zu y9 zK yE zJ
theorem L8 (c:UInt8)(l:Bs)(f k:Nat)(b:f≤k)(hk:k<l.length)(h:∀x ∈ (l.drop f).take (k - f),x≠c)(a:l[k]=c):
 cut c (l.drop f)=(l.drop f).take (k - f)::cut c (l.drop (k+1)):=by
 have e:l.drop f=(l.drop f).take (k - f)++c::l.drop (k+1):=by
  conv=>lhs;rw[←List.take_append_drop (k - f) (l.drop f)]
  rw[List.drop_drop,show f+(k - f)=k by omega,List.drop_eq_getElem_cons hk,a]
 conv=>lhs;rw[e]
 exact cu c _ _ h
theorem O8 (c:UInt8)(l:Bs)(f k:Nat)(d:f≤k)(hk:k<l.length)(h:∀x ∈ (l.drop f).take (k - f),x≠c)(b:l[k]≠c):∀x ∈ (l.drop f).take (k+1 - f),x≠c:=by
 intro x a;rw[show k+1 - f=(k - f)+1 by omega,List.take_succ_eq_append_getElem (by simp;omega)] at a;rcases List.mem_append.1 a with a|a
 ·exact h x a
 ·simp at a
  rw[a];simpa [show f+(k - f)=k by omega] using b
def JR (c:UInt8)(l:Bs)(out:List Bs)(f k:Nat):Prop:=
 k≤l.length+1∧(k≤l.length→f≤k∧cut c l=out++cut c (l.drop f)∧∀x ∈ (l.drop f).take (k - f),x≠c)∧(k=l.length+1→out=cut c l)
theorem Ov (c:UInt8)(l:Bs)(w:World)(P:l.length≤2000000):
 Calls prog 78 #[.string ⟨l.toArray⟩,.int .u8 (c.toNat:Int)] w fun e w'=>(∃v,e= .returned v∧w'.ownsRow w.heap.size 9 1 v (cut c l).length ((cut c l).map sv))∧Below w.heap.size w w':=by
 obtain⟨i,z,A,B,C⟩:=info_parts MI;go_enter func78,ntmps78;go_wp2;go_loopw [5,6,7] (fun v f k wr=>∃(F K:Nat) (out:List Bs),f= .int .i64 F∧k= .int .i64 K∧JR c l out F K∧out.length≤K∧F≤l.length+1∧wr.ownsRow w.heap.size 9 1 v out.length (out.map sv)∧Below w.heap.size w wr) (fun _ _ k _=>l.length+1 - (intOf k).toNat)
 case atStart=>
  refine⟨0,0,[],rfl,rfl,⟨by omega,fun _=>⟨Nat.le_refl _,by simp,by simp⟩,fun h=>by omega⟩,Nat.le_refl _,by omega,World.ownsRow_made w _ 0 (Nat.le_refl _) (by unfold maxLen;omega) rfl,zy⟩
 case round=>
  obtain⟨F,K,out,rfl,rfl,hinv,Q,I,a,d⟩:=hrel;have D:=d.size;obtain⟨R,j,m⟩:=hinv;by_cases J:K≤l.length
  ·obtain⟨E,hcut,G⟩:=j J
   have n:=hid hcut;have o:=hid G;clear j m hcut G;by_cases g:K<l.length
   ·have S:=zQ l K
    have T:=yG l K;have U:(K:Int)<l.length:=oo;by_cases b:l[K]=c
    ·have L:(byteAt l K==(c.toNat:Int))=true:=by rw[yh l K g,b];simp
     have p:=hid (L8 c l F K E g o.out b);clear b;have r:out.length+1≤maxLen:=(by unfold maxLen;omega);have s:(out.length+1)*16≤140737488355328:=oo;go_wp2_with(at_builtin;go_must(refine wpList_append_own _ rfl _ _ 88 rfl (w.heap.size) 9 i _ 1 16 underlying88 z A B C rfl oo _ _ _ rfl (a.alloc _) ⟨wr.heap.size,0,none⟩ 1 1 [sv ((l.drop F).take (K - F))] rfl rfl ?_ ?_ r s ?_ ?_));try(case refine_1=>first|exact cell_one_new _ _ _|omega|(simp<;>omega;done)|(simp [Value.oneCell'];done))
     try(case refine_2=>first|exact cell_one_new _ _ _|omega|(simp<;>omega;done)|(simp [Value.oneCell'];done))
     try(case refine_3=>first|exact cell_one_new _ _ _|omega|(simp<;>omega;done)|(simp [Value.oneCell'];done))
     intro M N t u _;go_wp2;go_roundw
     case rel=>
      refine⟨K+1,K+1,out++[(l.drop F).take (K - F)],by go_num,by go_num,⟨by omega,fun _=>⟨Nat.le_refl _,?_,by simp⟩,fun h=>by omega⟩,by simp;omega,by omega,?_,?_⟩
      ·rw[n.out,p.out];simp
      ·simpa using t
      ·exact d.trans (((Below.refl w.heap.size wr).alloc D _).grown u oC (by intro q x;have:=(a.lt q x);omega))
     case measure=>simp [intOf];omega
    ·have L:(byteAt l K==(c.toNat:Int))=false:=by
      rw[yh l K g,beq_eq_false_iff_ne];intro e;exact b (UInt8.toNat_inj.1 oo)
     have p:=hid (O8 c l F K E g o.out b);clear b;go_wp2;go_roundw
     case rel=>
      exact⟨F,K+1,out,rfl,by go_num,⟨by omega,fun _=>⟨by omega,n.out,p.out⟩,fun h=>by omega⟩,oo,I,a,d⟩
     case measure=>simp [intOf];omega
   ·have y:K=l.length:=oo
    subst y;have r:out.length+1≤maxLen:=(by unfold maxLen;omega);have s:(out.length+1)*16≤140737488355328:=oo;go_wp2_with(at_builtin;go_must(refine wpList_append_own _ rfl _ _ 88 rfl (w.heap.size) 9 i _ 1 16 underlying88 z A B C rfl oo _ _ _ rfl (a.alloc _) ⟨wr.heap.size,0,none⟩ 1 1 [sv ((l.drop F).take (l.length - F))] rfl rfl ?_ ?_ r s ?_ ?_));try(case refine_1=>first|exact cell_one_new _ _ _|omega|(simp<;>omega;done)|(simp [Value.oneCell'];done))
    try(case refine_2=>first|exact cell_one_new _ _ _|omega|(simp<;>omega;done)|(simp [Value.oneCell'];done))
    try(case refine_3=>first|exact cell_one_new _ _ _|omega|(simp<;>omega;done)|(simp [Value.oneCell'];done))
    intro M N t u _;go_wp2;go_roundw
    case rel=>
     refine⟨l.length+1,l.length+1,out++[(l.drop F).take (l.length - F)],by go_num,by go_num,⟨by omega,fun h=>by omega,fun _=> ?_⟩,by first|(simp;omega)|simp,by omega,?_,?_⟩
     ·have e:(l.drop F).take (l.length - F)=l.drop F:=List.take_of_length_le (by simp)
      have H:=o.out;rw[e] at H⊢;rw[n.out,kR c _ H]
     ·simpa using t
     ·exact d.trans (((Below.refl w.heap.size wr).alloc D _).grown u oC (by intro q x;have:=(a.lt q x);omega))
    case measure=>first|(simp [intOf];done)|(simp [intOf];omega)
  ·have y:K=l.length+1:=oo
   subst y;have O:=hid (m rfl);clear j m;go_wp2;go_ret;exact⟨⟨_,rfl,by rw[←O.out];exact a⟩,d⟩
