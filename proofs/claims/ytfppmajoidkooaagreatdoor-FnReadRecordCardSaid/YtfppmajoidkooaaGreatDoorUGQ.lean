import Derived.Test.YtfppmajoidkooaaGreatDoorUGA
import Derived.Lib.Split
import Derived.Lib.CountLaws
import Derived.Lib.Bytealg
set_option linter.unusedVariables false
set_option linter.unusedSimpArgs false
set_option maxHeartbeats 8000000
namespace Go.Proofs.YtfppmajoidkooaaGreatDoor
open Go.RowKit
abbrev hexL :Bs:=[48,49,50,51,52,53,54,55,56,57,97,98,99,100,101,102]
def hexOf (l:Bs):Bs:=l.flatMap fun c=>[hexL.getD (c.toNat / 16) 0,hexL.getD (c.toNat % 16) 0]
theorem hexOf_length (l:Bs):(hexOf l).length=2*l.length:=by
 induction l with
 |nil=>rfl
 |cons c l ih=>simp only[hexOf,List.flatMap_cons,List.length_append,List.length_cons,List.length_nil] at ih⊢;omega
theorem Z5 (l:Bs)(k:Nat)(h:k<l.length):hexOf (l.take (k+1))=hexOf (l.take k)++[hexL.getD (l[k].toNat / 16) 0,hexL.getD (l[k].toNat % 16) 0]:=by
 rw[take_snoc' l k h,hexOf,List.flatMap_append];rfl
theorem LX (l:Bs)(k:Nat)(h:k<l.length):byteAt hexL (byteAt l k / 16)=((hexL.getD (l[k].toNat / 16) 0).toNat:Int):=by
 rw[zX l k h];show((hexL[((l[k].toNat:Int) / 16).toNat]?.getD 0).toNat:Int)=_;rw[show((l[k].toNat:Int) / 16).toNat=l[k].toNat / 16 by omega];rfl
theorem L8 (l:Bs)(k:Nat)(h:k<l.length):byteAt hexL (byteAt l k % 16)=((hexL.getD (l[k].toNat % 16) 0).toNat:Int):=by
 rw[zX l k h];show((hexL[((l[k].toNat:Int) % 16).toNat]?.getD 0).toNat:Int)=_;rw[show((l[k].toNat:Int) % 16).toNat=l[k].toNat % 16 by omega];rfl
def wH (l:Bs):Bs:=if l=[] then[45] else l
def uV (l:Bs):Bs:=if l.length≤4000 then hexOf l else[]
end Go.Proofs.YtfppmajoidkooaaGreatDoor
namespace Go.Proofs.YtfppmajoidkooaaGreatDoor
def cut (c:UInt8):Bs→List Bs
 |[]=>[[]]
 |x::r=>if x=c then[]::cut c r else match cut c r with
  |[]=>[[x]]
  |y::ys=>(x::y)::ys
theorem TW (c:UInt8)(l:Bs):cut c l≠[]:=by
 cases l with
 |nil=>simp [cut]
 |cons x r=>
  unfold cut;split
  ·simp
  ·split<;>simp
theorem kF (c:UInt8):∀a:Bs,(∀x ∈ a,x≠c)→cut c a=[a]
 |[],_=>rfl
 |x::r,h=>by
  unfold cut;rw[if_neg (h x List.mem_cons_self),kF c r (fun y hy=>h y (List.mem_cons_of_mem _ hy))]
theorem gz (c:UInt8)(r:Bs):∀a:Bs,(∀x ∈ a,x≠c)→cut c (a++c::r)=a::cut c r
 |[],_=>by simp [cut]
 |x::a,h=>by
  have e:cut c (x::(a++c::r))=if x=c then[]::cut c (a++c::r) else match cut c (a++c::r) with
   |[]=>[[x]]
   |y::ys=>(x::y)::ys:=rfl
  rw[List.cons_append,e,if_neg (h x List.mem_cons_self),gz c r a (fun y hy=>h y (List.mem_cons_of_mem _ hy))]
theorem dC (c:UInt8):∀l:Bs,(∀x ∈ l,x≠c)∨∃a r,l=a++c::r∧∀x ∈ a,x≠c
 |[]=>.inl (by simp)
 |x::l=>by
  by_cases hx:x=c
  ·exact .inr ⟨[],l,by simp [hx],by simp⟩
  ·rcases dC c l with h|⟨a,r,rfl,h⟩
   ·refine .inl fun y hy=> ?_
    rcases List.mem_cons.1 hy with rfl|hy
    ·exact hx
    ·exact h y hy
   ·refine .inr ⟨x::a,r,rfl,fun y hy=> ?_⟩
    rcases List.mem_cons.1 hy with rfl|hy
    ·exact hx
    ·exact h y hy
theorem Zp (c:UInt8):∀a:Bs,(∀x ∈ a,x≠c)→Lib.index a [c]= -1
 |[],_=>rfl
 |x::a,h=>by
  have h1:=Zp c a (fun y hy=>h y (List.mem_cons_of_mem _ hy));have h2:([c]:Bs).isPrefixOf (x::a)=false:=by
   simp [List.isPrefixOf];exact fun e=>h x List.mem_cons_self e.symm
  unfold Lib.index;rw[h2,h1];rfl
theorem Vx (c:UInt8)(r:Bs):∀a:Bs,(∀x ∈ a,x≠c)→Lib.index (a++c::r) [c]=(a.length:Int)
 |[],_=>by
  show Lib.index (c::r) [c]=0;unfold Lib.index;simp [List.isPrefixOf]
 |x::a,h=>by
  have h1:=Vx c r a (fun y hy=>h y (List.mem_cons_of_mem _ hy));have h2:([c]:Bs).isPrefixOf (x::(a++c::r))=false:=by
   simp [List.isPrefixOf];exact fun e=>h x List.mem_cons_self e.symm
  rw[List.cons_append];unfold Lib.index;rw[h2,h1];have:((a.length:Int)== -1)=false:=by
   rw[beq_eq_false_iff_ne];omega
  rw[this];simp
theorem Xn (c:UInt8):∀(n:Nat) (l:Bs),l.length≤n→Lib.splitK [c] 0 (Lib.count l [c]) l=cut c l
 |0,l,h=>by
  have:l=[]:=List.eq_nil_of_length_eq_zero oo;subst this;rfl
 |n+1,l,h=>by
  rcases dC c l with hm|⟨a,r,rfl,ha⟩
  ·rw[Lib.count_miss (Zp c l hm),kF c l hm];rfl
  ·have hi:=Vx c r a ha
   have hlen:(a++c::r).length=a.length+1+r.length:=(by simp;omega);have hd:(a++c::r).drop (a.length+1)=r:=by
    rw[List.drop_append];simp
   rw[Lib.count_hit (by simp) hi,gz c r a ha,Nat.add_comm 1];unfold Lib.splitK;rw[hi];have:((a.length:Int)== -1)=false:=by
    rw[beq_eq_false_iff_ne];omega
   rw[this];simp only[Bool.false_eq_true,if_false,Int.toNat_natCast,List.length_cons,List.length_nil,Nat.add_zero];rw[show a.length+(0+1)=a.length+1 by omega,hd,Xn c n r (by omega)];simp
theorem PT (c:UInt8)(t:Bs):(Lib.splitB ⟨#[c]⟩ 0 (Lib.countB ⟨t.toArray⟩ ⟨#[c]⟩) ⟨t.toArray⟩).map Value.string=(cut c t).map fun l=>Value.string ⟨l.toArray⟩:=by
 have h:=Lib.splitB_data ⟨#[c]⟩ 0 (Lib.countB ⟨t.toArray⟩ ⟨#[c]⟩) ⟨t.toArray⟩;have e:Lib.countB ⟨t.toArray⟩ ⟨#[c]⟩=Lib.count t [c]:=(by simp [Lib.countB]);rw[e] at h⊢;have h2:=Xn c t.length t (Nat.le_refl _);have h3:(Lib.splitB ⟨#[c]⟩ 0 (Lib.count t [c]) ⟨t.toArray⟩).map (·.data.toList)=cut c t:=(by rw[h,←h2]);rw[←h3,List.map_map];apply List.map_congr_left;intro x _;simp
theorem bJ (c:UInt8):∀(n:Nat) (l:Bs),l.length≤n→Lib.count l [c]+1=(cut c l).length
 |0,l,h=>by
  have:l=[]:=List.eq_nil_of_length_eq_zero oo;subst this;rfl
 |n+1,l,h=>by
  rcases dC c l with hm|⟨a,r,rfl,ha⟩
  ·rw[Lib.count_miss (Zp c l hm),kF c l hm];rfl
  ·have hi:=Vx c r a ha
   have hlen:(a++c::r).length=a.length+1+r.length:=(by simp;omega);have hd:(a++c::r).drop (a.length+1)=r:=by
    rw[List.drop_append];simp
   rw[Lib.count_hit (by simp) hi,gz c r a ha,List.length_cons];simp only[List.length_cons,List.length_nil,Nat.zero_add,hd];have:=bJ c n r oo;omega
def vz (c:UInt8):Int:=Lib.indexByte hexL c
theorem LG :∀x:Fin 256,(0≤vz (UInt8.ofNat x.val)→vz (UInt8.ofNat x.val)<16∧hexL.getD (vz (UInt8.ofNat x.val)).toNat 0=UInt8.ofNat x.val)∧ -1≤vz (UInt8.ofNat x.val):=by decide+kernel
theorem SX (c:UInt8):(0≤vz c→vz c<16∧hexL.getD (vz c).toNat 0=c)∧ -1≤vz c:=by
 have:=LG ⟨c.toNat,c.toNat_lt⟩;simpa using this
theorem Qx :∀n:Fin 16,vz (hexL.getD n.val 0)=n.val:=by decide+kernel
theorem Qq :∀n:Fin 16,hexL.getD n.val 0≠32:=by decide+kernel
def unhexL :Bs→Option Bs
 |a::b::r=>if 0≤vz a∧0≤vz b then(unhexL r).map (UInt8.ofNat (16*(vz a).toNat+(vz b).toNat)::·) else none
 |[]=>some []
 |[_]=>none
def unhex (l:Bs):Option Bs:=if l.length % 2=0∧l.length≤8000 then unhexL l else none
theorem aI {P:Bs→Prop}(h0:P [])(h1:∀a,P [a])(h2:∀a b r,P r→P (a::b::r)):∀l,P l
 |[]=>h0
 |[a]=>h1 a
 |a::b::r=>h2 a b r (aI h0 h1 h2 r)
theorem TA (x y:Nat)(hx:x<16)(hy:y<16):(UInt8.ofNat (16*x+y)).toNat / 16=x∧(UInt8.ofNat (16*x+y)).toNat % 16=y:=by
 rw[UInt8.toNat_ofNat'];omega
theorem Xu (l:Bs):∀r,unhexL l=some r→hexOf r=l:=by
 induction l using aI with
 |h0=>intro r h;simp [unhexL] at h;subst h;rfl
 |h1 a=>intro r h;simp [unhexL] at h
 |h2 a b t ih=>
  intro r h;unfold unhexL at h;split at h
  ·rename_i hd
   cases hu:unhexL t with
   |none=>rw[hu] at h;simp at h
   |some u=>
    rw[hu] at h;simp at h;subst h;have ha:=(SX a).1 hd.1;have hb:=(SX b).1 hd.2;have hs:=TA (vz a).toNat (vz b).toNat oo oo;have:=ih u hu;unfold hexOf at this⊢;rw[List.flatMap_cons,this];rw[show UInt8.ofNat (16*(vz a).toNat+(vz b).toNat)=UInt8.ofNat (16*(vz a).toNat+(vz b).toNat) from rfl] at hs;simp only[UInt8.ofNat_add,UInt8.ofNat_mul] at hs⊢;show [hexL.getD ((UInt8.ofNat 16*UInt8.ofNat (vz a).toNat+UInt8.ofNat (vz b).toNat).toNat / 16) 0,hexL.getD ((UInt8.ofNat 16*UInt8.ofNat (vz a).toNat+UInt8.ofNat (vz b).toNat).toNat % 16) 0]++t=_;rw[hs.1,hs.2,ha.2,hb.2];rfl
  ·cases h
theorem Oc (r:Bs):unhexL (hexOf r)=some r:=by
 induction r with
 |nil=>rfl
 |cons c r ih=>
  have e:hexOf (c::r)=hexL.getD (c.toNat / 16) 0::hexL.getD (c.toNat % 16) 0::hexOf r:=rfl;have h1:=c.toNat_lt;have d1:=Qx ⟨c.toNat / 16,oo⟩;have d2:=Qx ⟨c.toNat % 16,oo⟩;simp only at d1 d2;rw[e];unfold unhexL;rw[d1,d2,if_pos ⟨by omega,by omega⟩,ih];simp only[Int.toNat_natCast,Option.map_some];congr 2;have:16*(c.toNat / 16)+c.toNat % 16=c.toNat:=oo;rw[this];simp
theorem KJ (r:Bs):∀x ∈ hexOf r,x≠32:=by
 intro x hx;unfold hexOf at hx;rw[List.mem_flatMap] at hx;obtain⟨c,_,hx⟩:=hx;have h1:=c.toNat_lt;have d1:=Qq ⟨c.toNat / 16,oo⟩;have d2:=Qq ⟨c.toNat % 16,oo⟩;simp only at d1 d2;rcases List.mem_cons.1 hx with rfl|hx
 ·exact d1
 ·rcases List.mem_cons.1 hx with rfl|hx
  ·exact d2
  ·cases hx
theorem VS (l:Bs):∀(k:Nat),2*k+1<l.length→l.length % 2=0→
 unhexL (l.take (2*(k+1)))=(unhexL (l.take (2*k))).bind fun r=>if 0≤vz (l.getD (2*k) 0)∧0≤vz (l.getD (2*k+1) 0) then some (r++[UInt8.ofNat (16*(vz (l.getD (2*k) 0)).toNat+(vz (l.getD (2*k+1) 0)).toNat)]) else none:=by
 induction l using aI with
 |h0=>intro k h;simp at h
 |h1 a=>intro k h;simp at h
 |h2 a b t ih=>
  intro k h he
  cases k with
  |zero=>
   simp only[Nat.mul_zero,Nat.zero_add,Nat.mul_one,List.take_succ_cons,List.take_zero];show unhexL [a,b]=some ([]:Bs)>>= _;simp [unhexL]
  |succ k=>
   have e1:2*(k+1+1)=2*(k+1)+1+1:=oo;have e2:2*(k+1)=2*k+1+1:=oo;have e3:(a::b::t).getD (2*(k+1)) 0=t.getD (2*k) 0:=(by rw[e2];rfl);have e4:(a::b::t).getD (2*(k+1)+1) 0=t.getD (2*k+1) 0:=(by rw[e2];rfl);have h3:=ih k (by simp at h;omega) (by simp at he;omega);rw[e3,e4,e1,List.take_succ_cons,List.take_succ_cons];rw[e2,List.take_succ_cons,List.take_succ_cons];rw[show 2*k+1+1=2*(k+1) by omega];unfold unhexL;rw[h3];by_cases hd:0≤vz a∧0≤vz b
   ·rw[if_pos hd,if_pos hd]
    cases unhexL (t.take (2*k)) with
    |none=>rfl
    |some r=>
     simp only[Option.bind_some,Option.map_some];split<;>rfl
   ·rw[if_neg hd,if_neg hd];rfl
theorem U6 (l:Bs):∀r,unhexL l=some r→l.length=2*r.length:=by
 intro r h;rw[←Xu l r h,hexOf_length]
theorem Su (l:Bs):∀(k:Nat),2*k+1<l.length→¬(0≤vz (l.getD (2*k) 0)∧0≤vz (l.getD (2*k+1) 0))→unhexL l=none:=by
 induction l using aI with
 |h0=>intro k h;simp at h
 |h1 a=>intro k h;simp at h
 |h2 a b t ih=>
  intro k h hb;unfold unhexL
  cases k with
  |zero=>exact if_neg hb
  |succ k=>
   have e2:2*(k+1)=2*k+1+1:=oo;have e3:(a::b::t).getD (2*(k+1)) 0=t.getD (2*k) 0:=(by rw[e2];rfl);have e4:(a::b::t).getD (2*(k+1)+1) 0=t.getD (2*k+1) 0:=(by rw[e2];rfl);rw[e3,e4] at hb;rw[ih k (by simp at h;omega) hb];split<;>rfl
theorem UL {l r:Bs}{k:Nat}(h:2*k+1<l.length)(he:l.length % 2=0)(hr:unhexL (l.take (2*k))=some r)(h1:0≤vz (l.getD (2*k) 0))(h2:0≤vz (l.getD (2*k+1) 0)):
 unhexL (l.take (2*(k+1)))=some (r++[UInt8.ofNat (16*(vz (l.getD (2*k) 0)).toNat+(vz (l.getD (2*k+1) 0)).toNat)]):=by
 rw[VS l k h he,hr];simp only[Option.bind_some];rw[if_pos ⟨h1,h2⟩]
theorem QJ (c:UInt8):∀l:Bs,(∀x ∈ l,x≠c)→Lib.indexByte l c= -1
 |[],_=>rfl
 |x::l,h=>by
  have h1:=QJ c l (fun y hy=>h y (List.mem_cons_of_mem _ hy));have h2:(x==c)=false:=(by simpa using h x List.mem_cons_self);unfold Lib.indexByte;rw[h1,h2];rfl
theorem Nk (c:UInt8):∀(l:Bs) (k:Nat) (hk:k<l.length),(∀x ∈ l.take k,x≠c)→l[k]=c→Lib.indexByte l c=k
 |[],k,hk,_,_=>absurd hk (by simp)
 |x::l,0,_,_,he=>by
  have h2:(x==c)=true:=(by simpa using he);unfold Lib.indexByte;rw[h2];rfl
 |x::l,k+1,hk,h,he=>by
  have h1:=Nk c l k (by simpa using hk) (fun y hy=>h y (by simp [hy])) he;have h2:(x==c)=false:=(by simpa using h x (by simp));unfold Lib.indexByte;rw[h1,h2];have:((k:Int)== -1)=false:=(by rw[beq_eq_false_iff_ne];omega);rw[this];simp
def join (c:UInt8):List Bs→Bs
 |[]=>[]
 |[a]=>a
 |a::b::r=>a++c::join c (b::r)
theorem aX (c:UInt8):∀ls:List Bs,ls≠[]→(∀l ∈ ls,∀x ∈ l,x≠c)→cut c (join c ls)=ls
 |[a],_,h=>kF c a (h a List.mem_cons_self)
 |a::b::r,_,h=>by
  show cut c (a++c::join c (b::r))=_;rw[gz c _ a (h a List.mem_cons_self),aX c (b::r) (by simp) (fun l hl=>h l (List.mem_cons_of_mem _ hl))]
theorem join_cons (c:UInt8)(a:Bs)(ls:List Bs)(h:ls≠[]):join c (a::ls)=a++c::join c ls:=by
 cases ls with
 |nil=>exact absurd rfl h
 |cons b r=>rfl
theorem aW (c:UInt8):∀l:Bs,join c (cut c l)=l
 |[]=>rfl
 |x::r=>by
  have ih:=aW c r;have hne:=TW c r;unfold cut;split
  ·rename_i e
   rw[join_cons c _ _ hne,ih,e];rfl
  ·cases hc:cut c r with
   |nil=>exact absurd hc hne
   |cons y ys=>
    rw[hc] at ih
    cases ys with
    |nil=>show x::y=_;rw[←ih];rfl
    |cons z zs=>
     show(x::y)++c::join c (z::zs)=_;rw[←ih];rfl
theorem Xr (p r:Bs)(h:unhex p=some r):r.length≤4000∧p.length=2*r.length:=by
 unfold unhex at h;split at h
 ·rename_i hp
  have:=U6 p r h;omega
 ·cases h
theorem ZK (p:Bs):((unhex p).getD []).length≤4000:=by
 cases h:unhex p with
 |none=>simp
 |some r=>exact(Xr p r h).1
theorem QG (c:UInt8):∀l:Bs,(cut c l).length≤l.length+1
 |[]=>by simp [cut]
 |x::r=>by
  have ih:=QG c r;unfold cut;split
  ·simp;omega
  ·cases hc:cut c r with
   |nil=>simp
   |cons y ys=>rw[hc] at ih;simp at ih⊢;omega
theorem pK (c:UInt8):∀(l:Bs),∀p ∈ cut c l,p.length≤l.length
 |[],p,h=>by simp [cut] at h;subst h;simp
 |x::r,p,h=>by
  have ih:=pK c r;unfold cut at h;split at h
  ·rcases List.mem_cons.1 h with rfl|h
   ·simp
   ·have:=ih p h;simp;omega
  ·cases hc:cut c r with
   |nil=>rw[hc] at h;simp at h;subst h;simp
   |cons y ys=>
    rw[hc] at h ih;rcases List.mem_cons.1 h with rfl|h
    ·have:=ih y List.mem_cons_self;simp;omega
    ·have:=ih p (List.mem_cons_of_mem _ h);simp;omega
end Go.Proofs.YtfppmajoidkooaaGreatDoor
namespace Go.Proofs.YtfppmajoidkooaaGreatDoor
open Go.RowKit
set_option maxRecDepth 100000
attribute [local go_sem high] zy zA zB zO zK zY zx zk zl zq zi zo yP zD yt zF
theorem N7 (c:UInt8)(l:Bs)(f k:Nat)(hf:f≤k)(hk:k<l.length)(h:∀x ∈ (l.drop f).take (k - f),x≠c)(hc:l[k]=c):
 cut c (l.drop f)=(l.drop f).take (k - f)::cut c (l.drop (k+1)):=by
 have e:l.drop f=(l.drop f).take (k - f)++c::l.drop (k+1):=by
  conv=>lhs;rw[←List.take_append_drop (k - f) (l.drop f)]
  rw[List.drop_drop,show f+(k - f)=k by omega,List.drop_eq_getElem_cons hk,hc]
 conv=>lhs;rw[e]
 exact gz c _ _ h
theorem Po (c:UInt8)(l:Bs)(f k:Nat)(hf:f≤k)(hk:k<l.length)(h:∀x ∈ (l.drop f).take (k - f),x≠c)(hc:l[k]≠c):∀x ∈ (l.drop f).take (k+1 - f),x≠c:=by
 intro x hx;rw[show k+1 - f=(k - f)+1 by omega,List.take_succ_eq_append_getElem (by simp;omega)] at hx;rcases List.mem_append.1 hx with hx|hx
 ·exact h x hx
 ·simp at hx
  rw[hx];simpa [show f+(k - f)=k by omega] using hc
def Kw (c:UInt8)(l:Bs)(out:List Bs)(f k:Nat):Prop:=
 k≤l.length+1∧(k≤l.length→f≤k∧cut c l=out++cut c (l.drop f)∧∀x ∈ (l.drop f).take (k - f),x≠c)∧(k=l.length+1→out=cut c l)
theorem QP (c:UInt8)(l:Bs)(w:World)(hs:l.length≤2000000):
 Calls Tryz.prog 83 #[.string ⟨l.toArray⟩,.int .u8 (c.toNat:Int)] w fun e w'=>(∃v,e= .returned v∧w'.ownsRow w.heap.size 9 1 v (cut c l).length ((cut c l).map sv))∧Below w.heap.size w w':=by
 obtain⟨i,hi,hz0,hz1,hz2⟩:=info_parts N8;go_enter Tryz.func83,Tryz.ntmps83;go_wp2;go_loopw [5,6,7] (fun v f k wr=>∃(F K:Nat) (out:List Bs),f= .int .i64 F∧k= .int .i64 K∧Kw c l out F K∧out.length≤K∧F≤l.length+1∧wr.ownsRow w.heap.size 9 1 v out.length (out.map sv)∧Below w.heap.size w wr) (fun _ _ k _=>l.length+1 - (intOf k).toNat)
 case atStart=>
  refine⟨0,0,[],rfl,rfl,⟨by omega,fun _=>⟨Nat.le_refl _,by simp,by simp⟩,fun h=>by omega⟩,Nat.le_refl _,by omega,World.ownsRow_made w _ 0 (Nat.le_refl _) (by unfold maxLen;omega) rfl,zu⟩
 case round=>
  obtain⟨F,K,out,rfl,rfl,hinv,hol,hF,hown,hb⟩:=hrel;have hz:=hb.size;obtain⟨hk1,hk2,hk3⟩:=hinv;by_cases hle:K≤l.length
  ·obtain⟨hfk,hcut,hno⟩:=hk2 hle
   have HC:=Go.Lib.hid hcut;have HN:=Go.Lib.hid hno;clear hk2 hk3 hcut hno;by_cases hlt:K<l.length
   ·have hc1:=zL l K
    have hc2:=yu l K;have ha:(K:Int)<l.length:=oo;by_cases hc:l[K]=c
    ·have hbc:(byteAt l K==(c.toNat:Int))=true:=by rw[zX l K hlt,hc];simp
     have HS:=Go.Lib.hid (N7 c l F K hfk hlt HN.out hc);clear hc;have hm1:out.length+1≤maxLen:=(by unfold maxLen;omega);have hm2:(out.length+1)*16≤140737488355328:=oo;go_wp2_with(at_builtin;go_must(refine wpList_append_own _ rfl _ _ 116 rfl (w.heap.size) 9 i _ 1 16 Tryz.underlying116 hi hz0 hz1 hz2 rfl oo _ _ _ rfl (hown.alloc _) ⟨wr.heap.size,0,none⟩ 1 1 [sv ((l.drop F).take (K - F))] rfl rfl ?_ ?_ hm1 hm2 ?_ ?_));try(case refine_1=>first|exact cell_one_new _ _ _|omega|(simp<;>omega;done)|(simp [Value.oneCell'];done))
     try(case refine_2=>first|exact cell_one_new _ _ _|omega|(simp<;>omega;done)|(simp [Value.oneCell'];done))
     try(case refine_3=>first|exact cell_one_new _ _ _|omega|(simp<;>omega;done)|(simp [Value.oneCell'];done))
     intro v2 w2 hown2 hg2 _;go_wp2;go_roundw
     case rel=>
      refine⟨K+1,K+1,out++[(l.drop F).take (K - F)],by go_num,by go_num,⟨by omega,fun _=>⟨Nat.le_refl _,?_,by simp⟩,fun h=>by omega⟩,by simp;omega,by omega,?_,?_⟩
      ·rw[HC.out,HS.out];simp
      ·simpa using hown2
      ·exact hb.trans (((Below.refl w.heap.size wr).alloc hz _).grown hg2 oC (by intro q hq;have:=(hown.lt q hq);omega))
     case measure=>simp [intOf];omega
    ·have hbc:(byteAt l K==(c.toNat:Int))=false:=by
      rw[zX l K hlt,beq_eq_false_iff_ne];intro e;exact hc (UInt8.toNat_inj.1 oo)
     have HS:=Go.Lib.hid (Po c l F K hfk hlt HN.out hc);clear hc;go_wp2;go_roundw
     case rel=>
      exact⟨F,K+1,out,rfl,by go_num,⟨by omega,fun _=>⟨by omega,HC.out,HS.out⟩,fun h=>by omega⟩,oo,hF,hown,hb⟩
     case measure=>simp [intOf];omega
   ·have hKe:K=l.length:=oo
    subst hKe;have hm1:out.length+1≤maxLen:=(by unfold maxLen;omega);have hm2:(out.length+1)*16≤140737488355328:=oo;go_wp2_with(at_builtin;go_must(refine wpList_append_own _ rfl _ _ 116 rfl (w.heap.size) 9 i _ 1 16 Tryz.underlying116 hi hz0 hz1 hz2 rfl oo _ _ _ rfl (hown.alloc _) ⟨wr.heap.size,0,none⟩ 1 1 [sv ((l.drop F).take (l.length - F))] rfl rfl ?_ ?_ hm1 hm2 ?_ ?_));try(case refine_1=>first|exact cell_one_new _ _ _|omega|(simp<;>omega;done)|(simp [Value.oneCell'];done))
    try(case refine_2=>first|exact cell_one_new _ _ _|omega|(simp<;>omega;done)|(simp [Value.oneCell'];done))
    try(case refine_3=>first|exact cell_one_new _ _ _|omega|(simp<;>omega;done)|(simp [Value.oneCell'];done))
    intro v2 w2 hown2 hg2 _;go_wp2;go_roundw
    case rel=>
     refine⟨l.length+1,l.length+1,out++[(l.drop F).take (l.length - F)],by go_num,by go_num,⟨by omega,fun h=>by omega,fun _=> ?_⟩,by first|(simp;omega)|simp,by omega,?_,?_⟩
     ·have e:(l.drop F).take (l.length - F)=l.drop F:=List.take_of_length_le (by simp)
      have HN2:=HN.out;rw[e] at HN2⊢;rw[HC.out,kF c _ HN2]
     ·simpa using hown2
     ·exact hb.trans (((Below.refl w.heap.size wr).alloc hz _).grown hg2 oC (by intro q hq;have:=(hown.lt q hq);omega))
    case measure=>first|(simp [intOf];done)|(simp [intOf];omega)
  ·have hKe:K=l.length+1:=oo
   subst hKe;have HO:=Go.Lib.hid (hk3 rfl);clear hk2 hk3;go_wp2;go_ret;exact⟨⟨_,rfl,by rw[←HO.out];exact hown⟩,hb⟩
end Go.Proofs.YtfppmajoidkooaaGreatDoor
