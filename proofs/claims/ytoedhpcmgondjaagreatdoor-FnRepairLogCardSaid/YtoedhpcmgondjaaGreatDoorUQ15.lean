import Derived.Test.YtoedhpcmgondjaaGreatDoorUQ14
import Derived.Lib.ItoaLen
set_option linter.all false
namespace Go.Proofs.YtoedhpcmgondjaaGreatDoor
open Go.RowKit
theorem Vx (x:OpR):x.fmt.length≤9000:=by
 obtain⟨k,f,t,s,b,d⟩:=x;unfold OpR.fmt xR;simp only;split
 ·rename_i h
  obtain⟨h1,h2,g⟩:=h;have a:=oN h1;have i:=Lib.itoa_length_le s oo oo;have c:=jQ d;have e:=jY (rY d);split
  ·simp;omega
  split
  ·simp;omega
  split
  ·have j:=Lib.itoa_length_le f oo oo
   have l:=Lib.itoa_length_le t oo oo;simp;omega
  split
  ·simp;omega
  ·simp;omega
 ·simp
theorem Tu {x:OpR}(h:x.ok):yE x.fmt=some x:=by
 unfold yE;rw[OpR.fJ h,ZN 32 _ x.UF (OpR.KF h),OpR.LC h];simp [h]
theorem P5 {t:Bs}{x:OpR}(h:yE t=some x):x.ok∧x.fmt=t:=by
 unfold yE at h
 cases hi:yA (cut 32 t) with
 |none=>rw[hi] at h;cases h
 |some y=>
  rw[hi] at h;simp only at h;split at h
  ·rename_i a
   injection h with h
   subst h;exact⟨a,by rw[OpR.fJ a,Ll hi,Z4]⟩
  ·cases h
theorem aH {L:Bs}{a:Nat}{n:Int}(h0:0≤n)(h1:n<65536)(h:(L.drop a).take 2=two n)(b:a+1<L.length):numAt L a=n:=by
 have c:=xC L a;exact Vr oo oo h0 h1 ((two_bytes L a b).trans h)
def uB (x:OpR):Bs:=uA x.fmt
theorem dL (T:Bs):(uA T).length=T.length+4:=by unfold uA;simp [tY];omega
theorem iP (x:OpR):4≤(uB x).length∧(uB x).length≤9004:=by
 have:=dL x.fmt;have:=Vx x;unfold uB;omega
theorem QZ {x:OpR}(h:x.ok)(p s:Bs):yj (p++(uB x++s)) p.length=some (x,(p.length:Int)+(uB x).length):=by
 have m:=Vx x;have i:=Tu h;have b:=dL x.fmt;unfold uB;generalize x.fmt=T at*;have o:(p++(uA T++s)).length=p.length+(T.length+4)+s.length:=(by simp [b];omega);have c:(p++(uA T++s)).drop p.length=uA T++s:=(by simp);have h2:((p++(uA T++s)).drop p.length).take 2=two (T.length:Int):=by
  rw[c];unfold uA;rw[List.append_assoc,List.append_assoc,List.take_append_of_le_length (by rw[tY];omega),List.take_of_length_le (by rw[tY];omega)]
 have d:=aH (L:=p++(uA T++s)) (a:=p.length) (n:=(T.length:Int)) oo oo h2 oo;have e:(p++(uA T++s)).drop (p.length+2)=T++(two (sumOf T)++s):=by
  rw[←List.drop_drop,c];unfold uA;rw[List.append_assoc,List.append_assoc,List.drop_append_of_le_length (by rw[tY];omega),List.drop_of_length_le (by rw[tY];omega)];simp
 have j:qQ (p++(uA T++s)) p.length=T:=by
  unfold qQ;rw[d,e];simp
 have k:((p++(uA T++s)).drop (p.length+2+T.length)).take 2=two (sumOf T):=by
  rw[←List.drop_drop,e,List.drop_left,List.take_append_of_le_length (by rw[tY];omega),List.take_of_length_le (by rw[tY];omega)]
 have f:=uZ T;have g:=aH (L:=p++(uA T++s)) (a:=p.length+2+T.length) (n:=sumOf T) f.1 f.2 k oo;have l:((p.length+2+T.length:Nat):Int)=(p.length:Int)+2+T.length:=oo;rw[l] at g;unfold yj;rw[Int.toNat_natCast,d,j,i,if_pos ⟨by omega,by omega,by omega⟩];simp only;rw[if_pos g.symm,b];congr 2;omega
theorem sS {l:Bs}{a:Int}{x:OpR}{e:Int}(h:yj l a=some (x,e)):∃n:Nat,a=n∧x.ok∧e=(n:Int)+(uB x).length∧n+(uB x).length≤l.length∧(l.drop n).take (uB x).length=uB x:=by
 unfold yj at h;split at h
 ·rename_i d
  obtain⟨h0,h1,h2⟩:=d;obtain⟨n,rfl⟩:=Int.eq_ofNat_of_zero_le h0;rw[Int.toNat_natCast] at h
  cases hp:yE (qQ l n) with
  |none=>rw[hp] at h;cases h
  |some y=>
   rw[hp] at h;simp only at h;split at h
   ·rename_i f
    injection h with h
    injection h with hxy he
    subst hxy;obtain⟨g,b⟩:=P5 hp;have m:=xC l n;have c:n+4+(numAt l n).toNat≤l.length:=oo;have i:=fP l n c;have j:=(VH l n c).2 f;have k:(uB y).length=4+(numAt l n).toNat:=(by unfold uB;rw[dL,b,i];omega);refine⟨n,rfl,g,oo,oo,?_⟩;rw[k,←j];unfold uB;rw[b]
   ·cases h
 ·cases h
theorem dO {l:Bs}{n:Nat}{x:OpR}(a:x.ok)(c:n+(uB x).length≤l.length)(h:(l.drop n).take (uB x).length=uB x):yj l n=some (x,(n:Int)+(uB x).length):=by
 have e:l=l.take n++(uB x++l.drop (n+(uB x).length)):=by
  conv=>lhs;rw[←List.take_append_drop n l,←List.take_append_drop (uB x).length (l.drop n),h,List.drop_drop]
 have b:(l.take n).length=n:=(by rw[List.length_take];omega);have:=QZ a (l.take n) (l.drop (n+(uB x).length));rw[←e,b] at this;exact this
theorem mF {l:Bs}{k:Nat}(hk:k≤l.length){a:Int}{x:OpR}{e:Int} :yj (l.take k) a=some (x,e)↔yj l a=some (x,e)∧e≤k:=by
 constructor
 ·intro h
  obtain⟨n,rfl,b,rfl,h1,h2⟩:=sS h;rw[List.length_take,Nat.min_eq_left hk] at h1;refine⟨dO b oo ?_,oo⟩;rw[List.drop_take,List.take_take,Nat.min_eq_left (by omega)] at h2;exact h2
 ·rintro⟨h,c⟩
  obtain⟨n,rfl,b,rfl,h1,h2⟩:=sS h;refine dO b (by rw[List.length_take];omega) ?_;rw[List.drop_take,List.take_take,Nat.min_eq_left (by omega)];exact h2
theorem kJ {l:Bs}{a:Int}{x:OpR}{e:Int}(h:yj l a=some (x,e)):0≤a∧a+4≤e∧e≤l.length:=by
 obtain⟨n,rfl,b,rfl,h1,h2⟩:=sS h;have:=iP x;omega
def vX :Nat→Sto→Bs→Int→Sto×Int
 |0,S,_,a=>(S,a)
 |n+1,S,l,a=>match yj l a with
  |none=>(S,a)
  |some (x,e)=>match apO S x with
   |none=>(S,a)
   |some T=>vX n T l e
theorem kH {n:Nat}{S:Sto}{l:Bs}{a:Int}(h:yj l a=none):vX n S l a=(S,a):=by
 cases n with
 |zero=>rfl
 |succ n=>unfold vX;rw[h]
theorem kN {n:Nat}{S:Sto}{l:Bs}{a:Int}{x:OpR}{e:Int}(h:yj l a=some (x,e))(h2:apO S x=none):vX n S l a=(S,a):=by
 cases n with
 |zero=>rfl
 |succ n=>unfold vX;rw[h];simp only;rw[h2]
theorem gy {n:Nat}{S T:Sto}{l:Bs}{a:Int}{x:OpR}{e:Int}(h:yj l a=some (x,e))(h2:apO S x=some T):vX (n+1) S l a=vX n T l e:=by
 conv=>lhs;unfold vX
 rw[h];simp only;rw[h2]
inductive Chain (l : Bs) : Sto → Nat → List OpR → Sto → Nat → Prop
 | nil (S : Sto) (a : Nat) : Chain l S a [] S a
 | cons {S T U : Sto} {a b c : Nat} {x : OpR} {xs : List OpR} (h1 : yj l a = some (x, (b : Int))) (h2 : apO S x = some T) (h3 : Chain l T b xs U c) : Chain l S a (x :: xs) U c
def Xr (l:Bs)(S:Sto)(a:Nat):Prop:=∀x e,yj l a=some (x,e)→apO S x=none
theorem dW :∀(n:Nat) (S:Sto) (l:Bs) (a:Nat),(l.length:Int)<(a:Int)+n→∃(xs:List OpR) (b:Nat),(vX n S l a).2=(b:Int)∧Chain l S a xs (vX n S l a).1 b∧Xr l (vX n S l a).1 b
 |0,S,l,a,h=>⟨[],a,rfl,.nil S a,fun x e d=>by have:=kJ d;omega⟩
 |n+1,S,l,a,g=>by
  cases d:yj l a with
  |none=>rw[kH d];exact⟨[],a,rfl,.nil S a,fun x e h=>by rw[d] at h;cases h⟩
  |some p=>
   obtain⟨x,e⟩:=p;have i:=kJ d
   cases ha:apO S x with
   |none=>rw[kN d ha];exact⟨[],a,rfl,.nil S a,fun y j h=>by rw[d] at h;injection h with h;injection h with h;rw[←h];exact ha⟩
   |some T=>
    rw[gy d ha];obtain⟨b,rfl⟩:=Int.eq_ofNat_of_zero_le (by omega:0≤e);obtain⟨xs,c,h1,h2,f⟩:=dW n T l b oo;exact⟨x::xs,c,h1,.cons d ha h2,f⟩
theorem Chain.bd {l:Bs}{S T:Sto}{a b:Nat}{xs:List OpR}(h:Chain l S a xs T b):a+4*xs.length≤b∧(a≤l.length→b≤l.length):=by
 induction h with
 |nil=>simp
 |cons h1 h2 d c=>
  have:=kJ h1;exact⟨by rw[List.length_cons];omega,fun _=>c.2 (by omega)⟩
theorem Chain.go {l:Bs}{S T:Sto}{a b:Nat}{xs:List OpR}(h:Chain l S a xs T b)(c:Xr l T b):∀n:Nat,(l.length:Int)<(a:Int)+n→vX n S l a=(T,(b:Int)):=by
 induction h with
 |nil S a=>
  intro n d
  cases hr:yj l a with
  |none=>exact kH hr
  |some p=>obtain⟨x,e⟩:=p;exact kN hr (c x e hr)
 |cons h1 h2 g f=>
  intro n d;have:=kJ h1
  cases n with
  |zero=>omega
  |succ n=>rw[gy h1 h2];exact f c n (by omega)
theorem Chain.append {l:Bs}{S T U:Sto}{a b c:Nat}{xs d:List OpR}(h:Chain l S a xs T b)(h2:Chain l T b d U c):Chain l S a (xs++d) U c:=by
 induction h with
 |nil=>exact h2
 |cons h1 e g f=>exact .cons h1 e (f h2)
theorem Chain.take {l:Bs}{S T:Sto}{a b k:Nat}{xs:List OpR}(h:Chain l S a xs T b)(hk:k≤l.length)(c:b≤k):Chain (l.take k) S a xs T b:=by
 induction h with
 |nil S a=>exact .nil S a
 |cons h1 h2 d e=>exact .cons ((mF hk).2 ⟨h1,by have:=d.bd.1;omega⟩) h2 (e c)
theorem Chain.Kw {l:Bs}{S T:Sto}{a b k:Nat}{xs:List OpR}(hk:k≤l.length)(h:Chain (l.take k) S a xs T b):Chain l S a xs T b:=by
 induction h with
 |nil S a=>exact .nil S a
 |cons h1 h2 d c=>exact .cons ((mF hk).1 h1).1 h2 c
theorem Xr.take {l:Bs}{T:Sto}{b k:Nat}(hk:k≤l.length)(h:Xr l T b):Xr (l.take k) T b:=fun x e a=>h x e ((mF hk).1 a).1
theorem Chain.okS {l:Bs}{S T:Sto}{a b:Nat}{xs:List OpR}(h:Chain l S a xs T b)(d:S.ok):T.ok∧T.o=S.o∧T.l=S.l∧T.m=S.m∧T.dict=S.dict:=by
 induction h with
 |nil=>exact⟨d,rfl,rfl,rfl,rfl⟩
 |cons h1 h2 q e=>
  obtain⟨n,_,f,_⟩:=sS h1;have c:=aI d f h2;obtain⟨g,i,j,k,p⟩:=e c.ok;exact⟨g,i.trans c.o,j.trans c.l,k.trans c.m,p.trans c.dict⟩
def bY (o l m:Int)(dict:Bs):Sto:=⟨o,l,m,dict,[]⟩
theorem Wi {o l m:Int}{dict:Bs}(h:fits o l m dict):(bY o l m dict).ok:=⟨h,by simp [bY],fun i a=>by simp [bY] at a⟩
def rX (o l m:Int)(dict log:Bs):Option (Sto×Int):=if fits o l m dict∧log.length≤30000 then some (vX (log.length+1) (bY o l m dict) log 0) else none
structure RpF (o l m : Int) (dict log : Bs) (T : Sto) (b : Nat) (xs : List OpR) : Prop where
 fit : fits o l m dict
 short : log.length ≤ 30000
 chain : Chain log (bY o l m dict) 0 xs T b
 stuck : Xr log T b
 le : b ≤ log.length
theorem dA {o l m:Int}{dict log:Bs}{T:Sto}{n:Int}(h:rX o l m dict log=some (T,n)):∃(b:Nat) (xs:List OpR),n=b∧RpF o l m dict log T b xs:=by
 unfold rX at h;split at h
 ·rename_i c
  injection h with h
  obtain⟨xs,b,h1,h2,a⟩:=dW (log.length+1) (bY o l m dict) log 0 oo;rw[show((0:Nat):Int)=0 from rfl,h] at h1 h2 a;simp only at h1 h2 a;exact⟨b,xs,h1,c.1,c.2,h2,a,h2.bd.2 oo⟩
 ·cases h
theorem RpF.rpl {o l m:Int}{dict log:Bs}{T:Sto}{b:Nat}{xs:List OpR}(h:RpF o l m dict log T b xs):rX o l m dict log=some (T,(b:Int)):=by
 unfold rX;rw[if_pos ⟨h.fit,h.short⟩];have:=h.chain.go h.stuck (log.length+1) oo;rw[show((0:Nat):Int)=0 from rfl] at this;rw[this]
theorem RpF.ok {o l m:Int}{dict log:Bs}{T:Sto}{b:Nat}{xs:List OpR}(h:RpF o l m dict log T b xs):T.ok∧T.o=o∧T.l=l∧T.m=m∧T.dict=dict:=h.chain.okS (Wi h.fit)
def RN (a:Nat):List OpR→List Nat
 |[]=>[]
 |x::xs=>(a+(uB x).length)::RN (a+(uB x).length) xs
theorem Chain.next {l:Bs}{S T:Sto}{a b:Nat}{x:OpR}{xs:List OpR}(h:Chain l S a (x::xs) T b):∃U,yj l a=some (x,((a+(uB x).length:Nat):Int))∧apO S x=some U∧Chain l U (a+(uB x).length) xs T b:=by
 cases h with
 |cons h1 h2 c=>
  obtain⟨n,d,f,e,_⟩:=sS h1;obtain rfl:=Int.ofNat_inj.1 d;obtain rfl:=Int.ofNat_inj.1 (e.trans (by push_cast;rfl));exact⟨_,h1,h2,c⟩
theorem Chain.split {l:Bs}{S T:Sto}{a b:Nat}{xs:List OpR}(h:Chain l S a xs T b):∀i,i≤xs.length→∃U c,Chain l S a (xs.take i) U c∧Chain l U c (xs.drop i) T b∧(a::RN a xs)[i]? =some c:=by
 induction xs generalizing S a with
 |nil=>intro i d;have:i=0:=by simpa using d
       subst this;exact⟨S,a,.nil S a,h,rfl⟩
 |cons x xs e=>
  intro i d
  cases i with
  |zero=>exact⟨S,a,.nil S a,h,rfl⟩
  |succ i=>
   obtain⟨V,h1,h2,f⟩:=h.next;obtain⟨U,c,g,j,k⟩:=e f i (by simpa using d);exact⟨U,c,.cons h1 h2 g,j,by simpa [RN] using k⟩
theorem Chain.end {l:Bs}{S T:Sto}{a b:Nat}{xs:List OpR}(h:Chain l S a xs T b):(a::RN a xs)[xs.length]? =some b:=by
 obtain⟨U,c,f,d,e⟩:=h.split xs.length (Nat.le_refl _);rw[List.drop_length] at d
 cases d;exact e
theorem RpF.upto {o l m:Int}{dict log:Bs}(b:fits o l m dict)(i:log.length≤30000){a:List OpR}{U:Sto}{c k:Nat}(d:Chain log (bY o l m dict) 0 a U c)(hk:k≤log.length)(f:c≤k)
 (g:∀x e,yj log c=some (x,e)→e≤k→apO U x=none):RpF o l m dict (log.take k) U c a where
 fit:=b
 short:=by rw[List.length_take];omega
 chain:=d.take hk f
 stuck:=fun x e h=>by
  obtain⟨h1,h2⟩:=(mF hk).1 h;exact g x e h1 h2
 le:=by rw[List.length_take];omega
theorem RpF.cut {o l m:Int}{dict log:Bs}{T:Sto}{b:Nat}{xs:List OpR}(h:RpF o l m dict log T b xs):RpF o l m dict (log.take b) T b xs:=
 RpF.upto h.fit h.short h.chain h.le (Nat.le_refl _) fun x e a _=>h.stuck x e a
theorem Chain.ext {l s:Bs}{S T:Sto}{a b:Nat}{xs:List OpR}(h:Chain l S a xs T b):Chain (l++s) S a xs T b:=
 Chain.Kw (k:=l.length) (by simp) (by rw[List.take_left];exact h)
def apL (o l m:Int)(dict log:Bs)(x:OpR):Option Bs:=(rX o l m dict log).bind fun p=>if p.2=(log.length:Int)∧x.ok∧log.length+(uB x).length≤30000∧(apO p.1 x).isSome=true then some (log++uB x) else none
def rpL (o l m:Int)(dict log:Bs):Option Bs:=(rX o l m dict log).map fun p=>log.take p.2.toNat
