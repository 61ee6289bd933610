import Derived.Test.YtfppmajoidkooaaGreatDoorUQ14
import Derived.Test.YtfppmajoidkooaaGreatDoorUGR
import Derived.Lib.ItoaLen
import Derived.Test.YtfppmajoidkooaaGreatDoorUGB
set_option linter.unusedVariables false
set_option linter.unusedSimpArgs false
namespace Go.Proofs.YtfppmajoidkooaaGreatDoor
open Go.RowKit
theorem Uk (x:OpR):x.fmt.length≤9000:=by
 obtain⟨k,f,t,s,nm,d⟩:=x;unfold OpR.fmt yU;simp only;split
 ·rename_i h
  obtain⟨h1,h2,h3⟩:=h;have a:=qx h1;have b1:=Lib.itoa_length_le s oo oo;have c:=nJ d;have e:=nI (uV d);split
  ·simp;omega
  split
  ·simp;omega
  split
  ·have b2:=Lib.itoa_length_le f oo oo
   have b3:=Lib.itoa_length_le t oo oo;simp;omega
  split
  ·simp;omega
  ·simp;omega
 ·simp
theorem RF {x:OpR}(h:x.ok):yB x.fmt=some x:=by
 unfold yB;rw[OpR.iW h,aX 32 _ x.UJ (OpR.KT h),OpR.LZ h];simp [h]
theorem PI {t:Bs}{x:OpR}(h:yB t=some x):x.ok∧x.fmt=t:=by
 unfold yB at h
 cases hi:yx (cut 32 t) with
 |none=>rw[hi] at h;cases h
 |some y=>
  rw[hi] at h;simp only at h;split at h
  ·rename_i hy
   injection h with h
   subst h;exact⟨hy,by rw[OpR.iW hy,LY hi,aW]⟩
  ·cases h
theorem aT {L:Bs}{a:Nat}{n:Int}(h0:0≤n)(h1:n<65536)(h:(L.drop a).take 2=two n)(ha:a+1<L.length):numAt L a=n:=by
 have hb:=xA L a;exact UC oo oo h0 h1 ((two_bytes L a ha).trans h)
def vg (x:OpR):Bs:=uu x.fmt
theorem eX (T:Bs):(uu T).length=T.length+4:=by unfold uu;simp [tH];omega
theorem lh (x:OpR):4≤(vg x).length∧(vg x).length≤9004:=by
 have:=eX x.fmt;have:=Uk x;unfold vg;omega
theorem Pq {x:OpR}(hx:x.ok)(p s:Bs):yh (p++(vg x++s)) p.length=some (x,(p.length:Int)+(vg x).length):=by
 have hT:=Uk x;have hpx:=RF hx;have hl:=eX x.fmt;unfold vg;generalize x.fmt=T at*;have hL:(p++(uu T++s)).length=p.length+(T.length+4)+s.length:=(by simp [hl];omega);have hd:(p++(uu T++s)).drop p.length=uu T++s:=(by simp);have h2:((p++(uu T++s)).drop p.length).take 2=two (T.length:Int):=by
  rw[hd];unfold uu;rw[List.append_assoc,List.append_assoc,List.take_append_of_le_length (by rw[tH];omega),List.take_of_length_le (by rw[tH];omega)]
 have hn:=aT (L:=p++(uu T++s)) (a:=p.length) (n:=(T.length:Int)) oo oo h2 oo;have hdr:(p++(uu T++s)).drop (p.length+2)=T++(two (sumOf T)++s):=by
  rw[←List.drop_drop,hd];unfold uu;rw[List.append_assoc,List.append_assoc,List.drop_append_of_le_length (by rw[tH];omega),List.drop_of_length_le (by rw[tH];omega)];simp
 have hr:qR (p++(uu T++s)) p.length=T:=by
  unfold qR;rw[hn,hdr];simp
 have h3:((p++(uu T++s)).drop (p.length+2+T.length)).take 2=two (sumOf T):=by
  rw[←List.drop_drop,hdr,List.drop_left,List.take_append_of_le_length (by rw[tH];omega),List.take_of_length_le (by rw[tH];omega)]
 have hsb:=uH T;have hs:=aT (L:=p++(uu T++s)) (a:=p.length+2+T.length) (n:=sumOf T) hsb.1 hsb.2 h3 oo;have e3:((p.length+2+T.length:Nat):Int)=(p.length:Int)+2+T.length:=oo;rw[e3] at hs;unfold yh;rw[Int.toNat_natCast,hn,hr,hpx,if_pos ⟨by omega,by omega,by omega⟩];simp only;rw[if_pos hs.symm,hl];congr 2;omega
theorem sS {l:Bs}{a:Int}{x:OpR}{e:Int}(h:yh l a=some (x,e)):∃n:Nat,a=n∧x.ok∧e=(n:Int)+(vg x).length∧n+(vg x).length≤l.length∧(l.drop n).take (vg x).length=vg x:=by
 unfold yh at h;split at h
 ·rename_i hc
  obtain⟨h0,h1,h2⟩:=hc;obtain⟨n,rfl⟩:=Int.eq_ofNat_of_zero_le h0;rw[Int.toNat_natCast] at h
  cases hp:yB (qR l n) with
  |none=>rw[hp] at h;cases h
  |some y=>
   rw[hp] at h;simp only at h;split at h
   ·rename_i hs
    injection h with h
    injection h with hxy he
    subst hxy;obtain⟨hok,hf⟩:=PI hp;have hb:=xA l n;have hle:n+4+(numAt l n).toNat≤l.length:=oo;have hrl:=gG l n hle;have hrt:=(UA l n hle).2 hs;have hlen:(vg y).length=4+(numAt l n).toNat:=(by unfold vg;rw[eX,hf,hrl];omega);refine⟨n,rfl,hok,oo,oo,?_⟩;rw[hlen,←hrt];unfold vg;rw[hf]
   ·cases h
 ·cases h
theorem bC {l:Bs}{n:Nat}{x:OpR}(hx:x.ok)(hl:n+(vg x).length≤l.length)(h:(l.drop n).take (vg x).length=vg x):yh l n=some (x,(n:Int)+(vg x).length):=by
 have e:l=l.take n++(vg x++l.drop (n+(vg x).length)):=by
  conv=>lhs;rw[←List.take_append_drop n l,←List.take_append_drop (vg x).length (l.drop n),h,List.drop_drop]
 have hn:(l.take n).length=n:=(by rw[List.length_take];omega);have:=Pq hx (l.take n) (l.drop (n+(vg x).length));rw[←e,hn] at this;exact this
theorem nV {l:Bs}{k:Nat}(hk:k≤l.length){a:Int}{x:OpR}{e:Int} :yh (l.take k) a=some (x,e)↔yh l a=some (x,e)∧e≤k:=by
 constructor
 ·intro h
  obtain⟨n,rfl,hok,rfl,h1,h2⟩:=sS h;rw[List.length_take,Nat.min_eq_left hk] at h1;refine⟨bC hok oo ?_,oo⟩;rw[List.drop_take,List.take_take,Nat.min_eq_left (by omega)] at h2;exact h2
 ·rintro⟨h,hek⟩
  obtain⟨n,rfl,hok,rfl,h1,h2⟩:=sS h;refine bC hok (by rw[List.length_take];omega) ?_;rw[List.drop_take,List.take_take,Nat.min_eq_left (by omega)];exact h2
theorem dR {l:Bs}{a:Int}{x:OpR}{e:Int}(h:yh l a=some (x,e)):0≤a∧a+4≤e∧e≤l.length:=by
 obtain⟨n,rfl,hok,rfl,h1,h2⟩:=sS h;have:=lh x;omega
def vY :Nat→Sto→Bs→Int→Sto×Int
 |0,S,_,a=>(S,a)
 |n+1,S,l,a=>match yh l a with
  |none=>(S,a)
  |some (x,e)=>match apO S x with
   |none=>(S,a)
   |some T=>vY n T l e
theorem eH {n:Nat}{S:Sto}{l:Bs}{a:Int}(h:yh l a=none):vY n S l a=(S,a):=by
 cases n with
 |zero=>rfl
 |succ n=>unfold vY;rw[h]
theorem dA {n:Nat}{S:Sto}{l:Bs}{a:Int}{x:OpR}{e:Int}(h:yh l a=some (x,e))(h2:apO S x=none):vY n S l a=(S,a):=by
 cases n with
 |zero=>rfl
 |succ n=>unfold vY;rw[h];simp only;rw[h2]
theorem ZL {n:Nat}{S T:Sto}{l:Bs}{a:Int}{x:OpR}{e:Int}(h:yh l a=some (x,e))(h2:apO S x=some T):vY (n+1) S l a=vY n T l e:=by
 conv=>lhs;unfold vY
 rw[h];simp only;rw[h2]
inductive Chain (l : Bs) : Sto → Nat → List OpR → Sto → Nat → Prop
 | nil (S : Sto) (a : Nat) : Chain l S a [] S a
 | cons {S T U : Sto} {a b c : Nat} {x : OpR} {xs : List OpR} (h1 : yh l a = some (x, (b : Int))) (h2 : apO S x = some T) (h3 : Chain l T b xs U c) : Chain l S a (x :: xs) U c
def UF (l:Bs)(S:Sto)(a:Nat):Prop:=∀x e,yh l a=some (x,e)→apO S x=none
theorem bD :∀(n:Nat) (S:Sto) (l:Bs) (a:Nat),(l.length:Int)<(a:Int)+n→∃(xs:List OpR) (b:Nat),(vY n S l a).2=(b:Int)∧Chain l S a xs (vY n S l a).1 b∧UF l (vY n S l a).1 b
 |0,S,l,a,h=>⟨[],a,rfl,.nil S a,fun x e hr=>by have:=dR hr;omega⟩
 |n+1,S,l,a,hn=>by
  cases hr:yh l a with
  |none=>rw[eH hr];exact⟨[],a,rfl,.nil S a,fun x e h=>by rw[hr] at h;cases h⟩
  |some p=>
   obtain⟨x,e⟩:=p;have hp:=dR hr
   cases ha:apO S x with
   |none=>rw[dA hr ha];exact⟨[],a,rfl,.nil S a,fun y e' h=>by rw[hr] at h;injection h with h;injection h with h;rw[←h];exact ha⟩
   |some T=>
    rw[ZL hr ha];obtain⟨b,rfl⟩:=Int.eq_ofNat_of_zero_le (by omega:0≤e);obtain⟨xs,c,h1,h2,h3⟩:=bD n T l b oo;exact⟨x::xs,c,h1,.cons hr ha h2,h3⟩
theorem Chain.bd {l:Bs}{S T:Sto}{a b:Nat}{xs:List OpR}(h:Chain l S a xs T b):a+4*xs.length≤b∧(a≤l.length→b≤l.length):=by
 induction h with
 |nil=>simp
 |cons h1 h2 h3 ih=>
  have:=dR h1;exact⟨by rw[List.length_cons];omega,fun _=>ih.2 (by omega)⟩
theorem Chain.append {l:Bs}{S T U:Sto}{a b c:Nat}{xs ys:List OpR}(h:Chain l S a xs T b)(h2:Chain l T b ys U c):Chain l S a (xs++ys) U c:=by
 induction h with
 |nil=>exact h2
 |cons h1 h3 h4 ih=>exact .cons h1 h3 (ih h2)
theorem Chain.take {l:Bs}{S T:Sto}{a b k:Nat}{xs:List OpR}(h:Chain l S a xs T b)(hk:k≤l.length)(hb:b≤k):Chain (l.take k) S a xs T b:=by
 induction h with
 |nil S a=>exact .nil S a
 |cons h1 h2 h3 ih=>exact .cons ((nV hk).2 ⟨h1,by have:=h3.bd.1;omega⟩) h2 (ih hb)
theorem Chain.KL {l:Bs}{S T:Sto}{a b k:Nat}{xs:List OpR}(hk:k≤l.length)(h:Chain (l.take k) S a xs T b):Chain l S a xs T b:=by
 induction h with
 |nil S a=>exact .nil S a
 |cons h1 h2 h3 ih=>exact .cons ((nV hk).1 h1).1 h2 ih
theorem UF.take {l:Bs}{T:Sto}{b k:Nat}(hk:k≤l.length)(h:UF l T b):UF (l.take k) T b:=fun x e hr=>h x e ((nV hk).1 hr).1
theorem Chain.okS {l:Bs}{S T:Sto}{a b:Nat}{xs:List OpR}(h:Chain l S a xs T b)(hS:S.ok):T.ok∧T.o=S.o∧T.l=S.l∧T.m=S.m∧T.dict=S.dict:=by
 induction h with
 |nil=>exact⟨hS,rfl,rfl,rfl,rfl⟩
 |cons h1 h2 h3 ih=>
  obtain⟨n,_,hok,_⟩:=sS h1;have hF:=Yf hS hok h2;obtain⟨i1,i2,i3,i4,i5⟩:=ih hF.ok;exact⟨i1,i2.trans hF.o,i3.trans hF.l,i4.trans hF.m,i5.trans hF.dict⟩
def ae (o l m:Int)(dict:Bs):Sto:=⟨o,l,m,dict,[]⟩
theorem X0 {o l m:Int}{dict:Bs}(h:fits o l m dict):(ae o l m dict).ok:=⟨h,by simp [ae],fun i hi=>by simp [ae] at hi⟩
def qj (o l m:Int)(dict log:Bs):Option (Sto×Int):=if fits o l m dict∧log.length≤30000 then some (vY (log.length+1) (ae o l m dict) log 0) else none
structure RpF (o l m : Int) (dict log : Bs) (T : Sto) (b : Nat) (xs : List OpR) : Prop where
 fit : fits o l m dict
 short : log.length ≤ 30000
 chain : Chain log (ae o l m dict) 0 xs T b
 stuck : UF log T b
 le : b ≤ log.length
theorem kR {o l m:Int}{dict log:Bs}{T:Sto}{n:Int}(h:qj o l m dict log=some (T,n)):∃(b:Nat) (xs:List OpR),n=b∧RpF o l m dict log T b xs:=by
 unfold qj at h;split at h
 ·rename_i hc
  injection h with h
  obtain⟨xs,b,h1,h2,h3⟩:=bD (log.length+1) (ae o l m dict) log 0 oo;rw[show((0:Nat):Int)=0 from rfl,h] at h1 h2 h3;simp only at h1 h2 h3;exact⟨b,xs,h1,hc.1,hc.2,h2,h3,h2.bd.2 oo⟩
 ·cases h
theorem RpF.ok {o l m:Int}{dict log:Bs}{T:Sto}{b:Nat}{xs:List OpR}(h:RpF o l m dict log T b xs):T.ok∧T.o=o∧T.l=l∧T.m=m∧T.dict=dict:=h.chain.okS (X0 h.fit)
def Qj (a:Nat):List OpR→List Nat
 |[]=>[]
 |x::xs=>(a+(vg x).length)::Qj (a+(vg x).length) xs
theorem Chain.next {l:Bs}{S T:Sto}{a b:Nat}{x:OpR}{xs:List OpR}(h:Chain l S a (x::xs) T b):∃U,yh l a=some (x,((a+(vg x).length:Nat):Int))∧apO S x=some U∧Chain l U (a+(vg x).length) xs T b:=by
 cases h with
 |cons h1 h2 h3=>
  obtain⟨n,hn,hok,he,_⟩:=sS h1;obtain rfl:=Int.ofNat_inj.1 hn;obtain rfl:=Int.ofNat_inj.1 (he.trans (by push_cast;rfl));exact⟨_,h1,h2,h3⟩
theorem Chain.split {l:Bs}{S T:Sto}{a b:Nat}{xs:List OpR}(h:Chain l S a xs T b):∀i,i≤xs.length→∃U c,Chain l S a (xs.take i) U c∧Chain l U c (xs.drop i) T b∧(a::Qj a xs)[i]? =some c:=by
 induction xs generalizing S a with
 |nil=>intro i hi;have:i=0:=by simpa using hi
       subst this;exact⟨S,a,.nil S a,h,rfl⟩
 |cons x xs ih=>
  intro i hi
  cases i with
  |zero=>exact⟨S,a,.nil S a,h,rfl⟩
  |succ i=>
   obtain⟨V,h1,h2,h3⟩:=h.next;obtain⟨U,c,k1,k2,k3⟩:=ih h3 i (by simpa using hi);exact⟨U,c,.cons h1 h2 k1,k2,by simpa [Qj] using k3⟩
theorem Chain.end {l:Bs}{S T:Sto}{a b:Nat}{xs:List OpR}(h:Chain l S a xs T b):(a::Qj a xs)[xs.length]? =some b:=by
 obtain⟨U,c,k1,k2,k3⟩:=h.split xs.length (Nat.le_refl _);rw[List.drop_length] at k2
 cases k2;exact k3
theorem RpF.upto {o l m:Int}{dict log:Bs}(hf:fits o l m dict)(hs:log.length≤30000){ys:List OpR}{U:Sto}{c k:Nat}(hC:Chain log (ae o l m dict) 0 ys U c)(hk:k≤log.length)(hc:c≤k)
 (hst:∀x e,yh log c=some (x,e)→e≤k→apO U x=none):RpF o l m dict (log.take k) U c ys where
 fit:=hf
 short:=by rw[List.length_take];omega
 chain:=hC.take hk hc
 stuck:=fun x e hr=>by
  obtain⟨h1,h2⟩:=(nV hk).1 hr;exact hst x e h1 h2
 le:=by rw[List.length_take];omega
theorem RpF.cut {o l m:Int}{dict log:Bs}{T:Sto}{b:Nat}{xs:List OpR}(h:RpF o l m dict log T b xs):RpF o l m dict (log.take b) T b xs:=
 RpF.upto h.fit h.short h.chain h.le (Nat.le_refl _) fun x e hr _=>h.stuck x e hr
theorem Chain.ext {l s:Bs}{S T:Sto}{a b:Nat}{xs:List OpR}(h:Chain l S a xs T b):Chain (l++s) S a xs T b:=
 Chain.KL (k:=l.length) (by simp) (by rw[List.take_left];exact h)
def apL (o l m:Int)(dict log:Bs)(x:OpR):Option Bs:=(qj o l m dict log).bind fun p=>if p.2=(log.length:Int)∧x.ok∧log.length+(vg x).length≤30000∧(apO p.1 x).isSome=true then some (log++vg x) else none
def rpL (o l m:Int)(dict log:Bs):Option Bs:=(qj o l m dict log).map fun p=>log.take p.2.toNat
end Go.Proofs.YtfppmajoidkooaaGreatDoor
