import Derived.Test.YtoedhpcmgondjaaGreatDoorYQ14
import Derived.Lib.ItoaLen
set_option linter.all false
namespace Go.Proofs.YtoedhpcmgondjaaGreatDoor
open Go.RowKit
theorem ZO (x:OpR):x.fmt.length≤9000:=by
 obtain⟨k,f,t,s,b,d⟩:=x;unfold OpR.fmt wu;simp only;split
 ·rename_i h
  obtain⟨h1,h2,g⟩:=h;have a:=qY h1;have i:=Lib.itoa_length_le s oo oo;have c:=gZ d;have e:=gV (qJ d);split
  ·simp;omega
  split
  ·simp;omega
  split
  ·have j:=Lib.itoa_length_le f oo oo
   have l:=Lib.itoa_length_le t oo oo;simp;omega
  split
  ·simp;omega
  ·simp;omega
 ·simp
theorem Qn {x:OpR}(h:x.ok):yK x.fmt=some x:=by
 unfold yK;rw[OpR.dN h,YQ 32 _ x.TF (OpR.Ig h),OpR.JI h];simp [h]
theorem Nw {t:Bs}{x:OpR}(h:yK t=some x):x.ok∧x.fmt=t:=by
 unfold yK at h
 cases hi:yH (cut 32 t) with
 |none=>rw[hi] at h;cases h
 |some y=>
  rw[hi] at h;simp only at h;split at h
  ·rename_i a
   injection h with h
   subst h;exact⟨a,by rw[OpR.dN a,JE hi,Yy]⟩
  ·cases h
theorem lV {L:Bs}{a:Nat}{n:Int}(h0:0≤n)(h1:n<65536)(h:(L.drop a).take 2=two n)(b:a+1<L.length):numAt L a=n:=by
 have c:=xQ L a;exact Uj oo oo h0 h1 ((two_bytes L a b).trans h)
def wL (x:OpR):Bs:=uK x.fmt
theorem jO (T:Bs):(uK T).length=T.length+4:=by unfold uK;simp [xJ];omega
theorem pJ (x:OpR):4≤(wL x).length∧(wL x).length≤9004:=by
 have:=jO x.fmt;have:=ZO x;unfold wL;omega
theorem OE {x:OpR}(h:x.ok)(p s:Bs):zZ (p++(wL x++s)) p.length=some (x,(p.length:Int)+(wL x).length):=by
 have m:=ZO x;have i:=Qn h;have b:=jO x.fmt;unfold wL;generalize x.fmt=T at*;have o:(p++(uK T++s)).length=p.length+(T.length+4)+s.length:=(by simp [b];omega);have c:(p++(uK T++s)).drop p.length=uK T++s:=(by simp);have h2:((p++(uK T++s)).drop p.length).take 2=two (T.length:Int):=by
  rw[c];unfold uK;rw[List.append_assoc,List.append_assoc,List.take_append_of_le_length (by rw[xJ];omega),List.take_of_length_le (by rw[xJ];omega)]
 have d:=lV (L:=p++(uK T++s)) (a:=p.length) (n:=(T.length:Int)) oo oo h2 oo;have e:(p++(uK T++s)).drop (p.length+2)=T++(two (sumOf T)++s):=by
  rw[←List.drop_drop,c];unfold uK;rw[List.append_assoc,List.append_assoc,List.drop_append_of_le_length (by rw[xJ];omega),List.drop_of_length_le (by rw[xJ];omega)];simp
 have j:qA (p++(uK T++s)) p.length=T:=by
  unfold qA;rw[d,e];simp
 have k:((p++(uK T++s)).drop (p.length+2+T.length)).take 2=two (sumOf T):=by
  rw[←List.drop_drop,e,List.drop_left,List.take_append_of_le_length (by rw[xJ];omega),List.take_of_length_le (by rw[xJ];omega)]
 have f:=tq T;have g:=lV (L:=p++(uK T++s)) (a:=p.length+2+T.length) (n:=sumOf T) f.1 f.2 k oo;have l:((p.length+2+T.length:Nat):Int)=(p.length:Int)+2+T.length:=oo;rw[l] at g;unfold zZ;rw[Int.toNat_natCast,d,j,i,if_pos ⟨by omega,by omega,by omega⟩];simp only;rw[if_pos g.symm,b];congr 2;omega
theorem uA {l:Bs}{a:Int}{x:OpR}{e:Int}(h:zZ l a=some (x,e)):∃n:Nat,a=n∧x.ok∧e=(n:Int)+(wL x).length∧n+(wL x).length≤l.length∧(l.drop n).take (wL x).length=wL x:=by
 unfold zZ at h;split at h
 ·rename_i d
  obtain⟨h0,h1,h2⟩:=d;obtain⟨n,rfl⟩:=Int.eq_ofNat_of_zero_le h0;rw[Int.toNat_natCast] at h
  cases hp:yK (qA l n) with
  |none=>rw[hp] at h;cases h
  |some y=>
   rw[hp] at h;simp only at h;split at h
   ·rename_i f
    injection h with h
    injection h with hxy he
    subst hxy;obtain⟨g,b⟩:=Nw hp;have m:=xQ l n;have c:n+4+(numAt l n).toNat≤l.length:=oo;have i:=fQ l n c;have j:=(Tf l n c).2 f;have k:(wL y).length=4+(numAt l n).toNat:=(by unfold wL;rw[jO,b,i];omega);refine⟨n,rfl,g,oo,oo,?_⟩;rw[k,←j];unfold wL;rw[b]
   ·cases h
 ·cases h
theorem aX {l:Bs}{n:Nat}{x:OpR}(a:x.ok)(c:n+(wL x).length≤l.length)(h:(l.drop n).take (wL x).length=wL x):zZ l n=some (x,(n:Int)+(wL x).length):=by
 have e:l=l.take n++(wL x++l.drop (n+(wL x).length)):=by
  conv=>lhs;rw[←List.take_append_drop n l,←List.take_append_drop (wL x).length (l.drop n),h,List.drop_drop]
 have b:(l.take n).length=n:=(by rw[List.length_take];omega);have:=OE a (l.take n) (l.drop (n+(wL x).length));rw[←e,b] at this;exact this
theorem lG {l:Bs}{k:Nat}(hk:k≤l.length){a:Int}{x:OpR}{e:Int} :zZ (l.take k) a=some (x,e)↔zZ l a=some (x,e)∧e≤k:=by
 constructor
 ·intro h
  obtain⟨n,rfl,b,rfl,h1,h2⟩:=uA h;rw[List.length_take,Nat.min_eq_left hk] at h1;refine⟨aX b oo ?_,oo⟩;rw[List.drop_take,List.take_take,Nat.min_eq_left (by omega)] at h2;exact h2
 ·rintro⟨h,c⟩
  obtain⟨n,rfl,b,rfl,h1,h2⟩:=uA h;refine aX b (by rw[List.length_take];omega) ?_;rw[List.drop_take,List.take_take,Nat.min_eq_left (by omega)];exact h2
theorem sK {l:Bs}{a:Int}{x:OpR}{e:Int}(h:zZ l a=some (x,e)):0≤a∧a+4≤e∧e≤l.length:=by
 obtain⟨n,rfl,b,rfl,h1,h2⟩:=uA h;have:=pJ x;omega
def ug :Nat→Sto→Bs→Int→Sto×Int
 |0,S,_,a=>(S,a)
 |n+1,S,l,a=>match zZ l a with
  |none=>(S,a)
  |some (x,e)=>match apO S x with
   |none=>(S,a)
   |some T=>ug n T l e
theorem mJ {n:Nat}{S:Sto}{l:Bs}{a:Int}(h:zZ l a=none):ug n S l a=(S,a):=by
 cases n with
 |zero=>rfl
 |succ n=>unfold ug;rw[h]
theorem mP {n:Nat}{S:Sto}{l:Bs}{a:Int}{x:OpR}{e:Int}(h:zZ l a=some (x,e))(h2:apO S x=none):ug n S l a=(S,a):=by
 cases n with
 |zero=>rfl
 |succ n=>unfold ug;rw[h];simp only;rw[h2]
theorem ji {n:Nat}{S T:Sto}{l:Bs}{a:Int}{x:OpR}{e:Int}(h:zZ l a=some (x,e))(h2:apO S x=some T):ug (n+1) S l a=ug n T l e:=by
 conv=>lhs;unfold ug
 rw[h];simp only;rw[h2]
inductive Chain (l : Bs) : Sto → Nat → List OpR → Sto → Nat → Prop
 | nil (S : Sto) (a : Nat) : Chain l S a [] S a
 | cons {S T U : Sto} {a b c : Nat} {x : OpR} {xs : List OpR} (h1 : zZ l a = some (x, (b : Int))) (h2 : apO S x = some T) (h3 : Chain l T b xs U c) : Chain l S a (x :: xs) U c
def XP (l:Bs)(S:Sto)(a:Nat):Prop:=∀x e,zZ l a=some (x,e)→apO S x=none
theorem Zd :∀(n:Nat) (S:Sto) (l:Bs) (a:Nat),(l.length:Int)<(a:Int)+n→∃(xs:List OpR) (b:Nat),(ug n S l a).2=(b:Int)∧Chain l S a xs (ug n S l a).1 b∧XP l (ug n S l a).1 b
 |0,S,l,a,h=>⟨[],a,rfl,.nil S a,fun x e d=>by have:=sK d;omega⟩
 |n+1,S,l,a,g=>by
  cases d:zZ l a with
  |none=>rw[mJ d];exact⟨[],a,rfl,.nil S a,fun x e h=>by rw[d] at h;cases h⟩
  |some p=>
   obtain⟨x,e⟩:=p;have i:=sK d
   cases ha:apO S x with
   |none=>rw[mP d ha];exact⟨[],a,rfl,.nil S a,fun y j h=>by rw[d] at h;injection h with h;injection h with h;rw[←h];exact ha⟩
   |some T=>
    rw[ji d ha];obtain⟨b,rfl⟩:=Int.eq_ofNat_of_zero_le (by omega:0≤e);obtain⟨xs,c,h1,h2,f⟩:=Zd n T l b oo;exact⟨x::xs,c,h1,.cons d ha h2,f⟩
theorem Chain.bd {l:Bs}{S T:Sto}{a b:Nat}{xs:List OpR}(h:Chain l S a xs T b):a+4*xs.length≤b∧(a≤l.length→b≤l.length):=by
 induction h with
 |nil=>simp
 |cons h1 h2 d c=>
  have:=sK h1;exact⟨by rw[List.length_cons];omega,fun _=>c.2 (by omega)⟩
theorem Chain.go {l:Bs}{S T:Sto}{a b:Nat}{xs:List OpR}(h:Chain l S a xs T b)(c:XP l T b):∀n:Nat,(l.length:Int)<(a:Int)+n→ug n S l a=(T,(b:Int)):=by
 induction h with
 |nil S a=>
  intro n d
  cases hr:zZ l a with
  |none=>exact mJ hr
  |some p=>obtain⟨x,e⟩:=p;exact mP hr (c x e hr)
 |cons h1 h2 g f=>
  intro n d;have:=sK h1
  cases n with
  |zero=>omega
  |succ n=>rw[ji h1 h2];exact f c n (by omega)
theorem Chain.append {l:Bs}{S T U:Sto}{a b c:Nat}{xs d:List OpR}(h:Chain l S a xs T b)(h2:Chain l T b d U c):Chain l S a (xs++d) U c:=by
 induction h with
 |nil=>exact h2
 |cons h1 e g f=>exact .cons h1 e (f h2)
theorem Chain.take {l:Bs}{S T:Sto}{a b k:Nat}{xs:List OpR}(h:Chain l S a xs T b)(hk:k≤l.length)(c:b≤k):Chain (l.take k) S a xs T b:=by
 induction h with
 |nil S a=>exact .nil S a
 |cons h1 h2 d e=>exact .cons ((lG hk).2 ⟨h1,by have:=d.bd.1;omega⟩) h2 (e c)
theorem Chain.MO {l:Bs}{S T:Sto}{a b k:Nat}{xs:List OpR}(hk:k≤l.length)(h:Chain (l.take k) S a xs T b):Chain l S a xs T b:=by
 induction h with
 |nil S a=>exact .nil S a
 |cons h1 h2 d c=>exact .cons ((lG hk).1 h1).1 h2 c
theorem XP.take {l:Bs}{T:Sto}{b k:Nat}(hk:k≤l.length)(h:XP l T b):XP (l.take k) T b:=fun x e a=>h x e ((lG hk).1 a).1
theorem Chain.okS {l:Bs}{S T:Sto}{a b:Nat}{xs:List OpR}(h:Chain l S a xs T b)(d:S.ok):T.ok∧T.o=S.o∧T.l=S.l∧T.m=S.m∧T.dict=S.dict:=by
 induction h with
 |nil=>exact⟨d,rfl,rfl,rfl,rfl⟩
 |cons h1 h2 q e=>
  obtain⟨n,_,f,_⟩:=uA h1;have c:=dC d f h2;obtain⟨g,i,j,k,p⟩:=e c.ok;exact⟨g,i.trans c.o,j.trans c.l,k.trans c.m,p.trans c.dict⟩
def kz (o l m:Int)(dict:Bs):Sto:=⟨o,l,m,dict,[]⟩
theorem Zx {o l m:Int}{dict:Bs}(h:fits o l m dict):(kz o l m dict).ok:=⟨h,by simp [kz],fun i a=>by simp [kz] at a⟩
def wU (o l m:Int)(dict log:Bs):Option (Sto×Int):=if fits o l m dict∧log.length≤30000 then some (ug (log.length+1) (kz o l m dict) log 0) else none
structure RpF (o l m : Int) (dict log : Bs) (T : Sto) (b : Nat) (xs : List OpR) : Prop where
 fit : fits o l m dict
 short : log.length ≤ 30000
 chain : Chain log (kz o l m dict) 0 xs T b
 stuck : XP log T b
 le : b ≤ log.length
theorem nV {o l m:Int}{dict log:Bs}{T:Sto}{n:Int}(h:wU o l m dict log=some (T,n)):∃(b:Nat) (xs:List OpR),n=b∧RpF o l m dict log T b xs:=by
 unfold wU at h;split at h
 ·rename_i c
  injection h with h
  obtain⟨xs,b,h1,h2,a⟩:=Zd (log.length+1) (kz o l m dict) log 0 oo;rw[show((0:Nat):Int)=0 from rfl,h] at h1 h2 a;simp only at h1 h2 a;exact⟨b,xs,h1,c.1,c.2,h2,a,h2.bd.2 oo⟩
 ·cases h
theorem RpF.rpl {o l m:Int}{dict log:Bs}{T:Sto}{b:Nat}{xs:List OpR}(h:RpF o l m dict log T b xs):wU o l m dict log=some (T,(b:Int)):=by
 unfold wU;rw[if_pos ⟨h.fit,h.short⟩];have:=h.chain.go h.stuck (log.length+1) oo;rw[show((0:Nat):Int)=0 from rfl] at this;rw[this]
theorem RpF.ok {o l m:Int}{dict log:Bs}{T:Sto}{b:Nat}{xs:List OpR}(h:RpF o l m dict log T b xs):T.ok∧T.o=o∧T.l=l∧T.m=m∧T.dict=dict:=h.chain.okS (Zx h.fit)
def wY (a:Nat):List OpR→List Nat
 |[]=>[]
 |x::xs=>(a+(wL x).length)::wY (a+(wL x).length) xs
theorem Chain.next {l:Bs}{S T:Sto}{a b:Nat}{x:OpR}{xs:List OpR}(h:Chain l S a (x::xs) T b):∃U,zZ l a=some (x,((a+(wL x).length:Nat):Int))∧apO S x=some U∧Chain l U (a+(wL x).length) xs T b:=by
 cases h with
 |cons h1 h2 c=>
  obtain⟨n,d,f,e,_⟩:=uA h1;obtain rfl:=Int.ofNat_inj.1 d;obtain rfl:=Int.ofNat_inj.1 (e.trans (by push_cast;rfl));exact⟨_,h1,h2,c⟩
def uO :Nat→Bs→Int→List (OpR×Int)
 |0,_,_=>[]
 |n+1,l,a=>match zZ l a with
  |none=>[]
  |some (x,e)=>(x,e)::uO n l e
def nS (l:Bs):List (OpR×Int):=uO (l.length+1) l 0
theorem oh {n:Nat}{l:Bs}{a:Int}(h:zZ l a=none):uO n l a=[]:=by
 cases n with
 |zero=>rfl
 |succ n=>unfold uO;rw[h]
theorem nP {n:Nat}{l:Bs}{a:Int}{x:OpR}{e:Int}(h:zZ l a=some (x,e)):uO (n+1) l a=(x,e)::uO n l e:=by
 conv=>lhs;unfold uO
 rw[h]
def Zn (S:Sto)(a:Int):List (OpR×Int)→Sto×Int
 |[]=>(S,a)
 |(x,e)::r=>match apO S x with
  |none=>(S,a)
  |some T=>Zn T e r
theorem U4 :∀(n:Nat) (S:Sto) (l:Bs) (a:Int),ug n S l a=Zn S a (uO n l a)
 |0,S,l,a=>rfl
 |n+1,S,l,a=>by
  cases hr:zZ l a with
  |none=>rw[mJ hr,oh hr];rfl
  |some p=>
   obtain⟨x,e⟩:=p;rw[nP hr,Zn]
   cases ha:apO S x with
   |none=>rw[mP hr ha]
   |some T=>rw[ji hr ha];exact U4 n T l e
theorem gJ :∀(n:Nat) (l:Bs) (a:Int),a≤l.length→4*((uO n l a).length:Int)≤l.length - a
 |0,l,a,h=>by simp [uO];omega
 |n+1,l,a,h=>by
  cases hr:zZ l a with
  |none=>rw[oh hr];simp;omega
  |some p=>
   obtain⟨x,e⟩:=p;have b:=sK hr;have:=gJ n l e oo;rw[nP hr,List.length_cons];omega
theorem PR :∀(n:Nat) (l:Bs) (a:Int),∀p ∈ uO n l a,p.1.ok∧a≤p.2∧p.2≤l.length
 |0,l,a,p,h=>by simp [uO] at h
 |n+1,l,a,p,h=>by
  cases hr:zZ l a with
  |none=>rw[oh hr] at h;cases h
  |some q=>
   obtain⟨x,e⟩:=q;have b:=sK hr;obtain⟨_,_,c,_⟩:=uA hr;rw[nP hr] at h;rcases List.mem_cons.1 h with rfl|h
   ·exact⟨c,by simp only;omega,b.2.2⟩
   ·have:=PR n l e p h
    exact⟨this.1,oo,this.2.2⟩
theorem Chain.scan {l:Bs}{S T:Sto}{a b:Nat}{xs:List OpR}(h:Chain l S a xs T b)(c:zZ l b=none):∀n:Nat,(l.length:Int)<(a:Int)+n→uO n l a=xs.zip ((wY a xs).map fun e:Nat=>(e:Int)):=by
 induction xs generalizing S a with
 |nil=>cases h;intro n _;exact oh c
 |cons x xs d=>
  obtain⟨U,h1,h2,f⟩:=h.next;intro n g;have:=sK h1
  cases n with
  |zero=>omega
  |succ n=>rw[nP h1,d f n (by omega)];simp [wY]
theorem rD (a:Nat)(xs:List OpR):(wY a xs).length=xs.length:=by
 induction xs generalizing a with
 |nil=>rfl
 |cons x xs b=>simp [wY,b]
theorem MS (a:Nat)(xs:List OpR):∀e ∈ wY a xs,a<e:=by
 induction xs generalizing a with
 |nil=>intro e h;cases h
 |cons x xs b=>
  intro e h;have:=pJ x;rcases List.mem_cons.1 h with rfl|h
  ·omega
  ·have:=b _ e h;omega
theorem Chain.split {l:Bs}{S T:Sto}{a b:Nat}{xs:List OpR}(h:Chain l S a xs T b):∀i,i≤xs.length→∃U c,Chain l S a (xs.take i) U c∧Chain l U c (xs.drop i) T b∧(a::wY a xs)[i]? =some c:=by
 induction xs generalizing S a with
 |nil=>intro i d;have:i=0:=by simpa using d
       subst this;exact⟨S,a,.nil S a,h,rfl⟩
 |cons x xs e=>
  intro i d
  cases i with
  |zero=>exact⟨S,a,.nil S a,h,rfl⟩
  |succ i=>
   obtain⟨V,h1,h2,f⟩:=h.next;obtain⟨U,c,g,j,k⟩:=e f i (by simpa using d);exact⟨U,c,.cons h1 h2 g,j,by simpa [wY] using k⟩
theorem Chain.end {l:Bs}{S T:Sto}{a b:Nat}{xs:List OpR}(h:Chain l S a xs T b):(a::wY a xs)[xs.length]? =some b:=by
 obtain⟨U,c,f,d,e⟩:=h.split xs.length (Nat.le_refl _);rw[List.drop_length] at d
 cases d;exact e
theorem RpF.upto {o l m:Int}{dict log:Bs}(b:fits o l m dict)(i:log.length≤30000){a:List OpR}{U:Sto}{c k:Nat}(d:Chain log (kz o l m dict) 0 a U c)(hk:k≤log.length)(f:c≤k)
 (g:∀x e,zZ log c=some (x,e)→e≤k→apO U x=none):RpF o l m dict (log.take k) U c a where
 fit:=b
 short:=by rw[List.length_take];omega
 chain:=d.take hk f
 stuck:=fun x e h=>by
  obtain⟨h1,h2⟩:=(lG hk).1 h;exact g x e h1 h2
 le:=by rw[List.length_take];omega
theorem RpF.cut {o l m:Int}{dict log:Bs}{T:Sto}{b:Nat}{xs:List OpR}(h:RpF o l m dict log T b xs):RpF o l m dict (log.take b) T b xs:=
 RpF.upto h.fit h.short h.chain h.le (Nat.le_refl _) fun x e a _=>h.stuck x e a
theorem RpF.JL {o l m:Int}{dict log:Bs}{T:Sto}{b:Nat}{xs:List OpR}(h:RpF o l m dict log T b xs){k i c:Nat}(hk:k≤log.length)(s:i≤xs.length)(t:(0::wY 0 xs)[i]? =some c)(u:c≤k)(v:∀e,(0::wY 0 xs)[i+1]? =some e→k<e):
 ∃U,RpF o l m dict (log.take k) U c (xs.take i)∧RpF o l m dict (log.take c) U c (xs.take i):=by
 obtain⟨U,G,n,d,f⟩:=h.chain.split i s;rw[t] at f;injection f with f
 subst f;have q:∀x e,zZ log c=some (x,e)→e≤(k:Int)→apO U x=none:=by
  intro x e a w;by_cases r:i<xs.length
  ·exfalso
   have y:xs.drop i=xs[i]::xs.drop (i+1):=List.drop_eq_getElem_cons r;rw[y] at d;obtain⟨V,g,z,H⟩:=d.next;rw[a] at g;injection g with g
   injection g with jx je
   obtain⟨A,p,B,I,C⟩:=h.chain.split (i+1) oo;have:=v p C;have D:Chain log (kz o l m dict) 0 (xs.take i++[xs[i]]) A p:=(by rw[←List.take_succ_eq_append_getElem r];exact B);have J:p=c+(wL xs[i]).length:=by
    have E:=(n.append (.cons (b:=c+(wL xs[i]).length) (by rw[a,jx,je]) z (.nil V _))).end;have j:=D.end;rw[E] at j;injection j with j
    exact j.symm
   omega
  ·have F:xs.drop i=[]:=List.drop_of_length_le oo
   rw[F] at d
   cases d;exact h.stuck x e a
 exact⟨U,RpF.upto h.fit h.short n hk u q,RpF.upto h.fit h.short n oo (Nat.le_refl _) fun x e a w=>q x e a oo⟩
theorem Chain.ext {l s:Bs}{S T:Sto}{a b:Nat}{xs:List OpR}(h:Chain l S a xs T b):Chain (l++s) S a xs T b:=
 Chain.MO (k:=l.length) (by simp) (by rw[List.take_left];exact h)
def apL (o l m:Int)(dict log:Bs)(x:OpR):Option Bs:=(wU o l m dict log).bind fun p=>if p.2=(log.length:Int)∧x.ok∧log.length+(wL x).length≤30000∧(apO p.1 x).isSome=true then some (log++wL x) else none
theorem V8 {p s:Bs}{x:OpR}(I:x.ok){k:Nat}{c:UInt8}(hk:k<(wL x).length)(h2:2≤k)(f:((c.toNat:Int) - (wL x)[k].toNat) % 255≠0):zZ (p++((wL x).set k c++s)) p.length=none:=by
 have J:=ZO x;have C:=jO x.fmt;obtain⟨R,g⟩:∃R,wL x=R:=⟨_,rfl⟩;have K:R.length=x.fmt.length+4:=(by rw[←g];exact C);have d:R=two x.fmt.length++(x.fmt++two (sumOf x.fmt)):=(by rw[←g];unfold wL uK;rw[List.append_assoc]);generalize x.fmt=T at*;simp only[g] at hk f⊢;have M:(R.set k c).length=R.length:=List.length_set;have D:(R.set k c).take 2=two (T.length:Int):=by
  rw[List.take_set_of_le (by omega),d,List.take_left' (xJ _)]
 have N:(p++(R.set k c++s)).length=p.length+R.length+s.length:=(by simp;omega);have E:((p++(R.set k c++s)).drop p.length).take 2=two (T.length:Int):=by
  rw[List.drop_left,List.take_append_of_le_length (by omega),D]
 have j:=lV (L:=p++(R.set k c++s)) (a:=p.length) (n:=(T.length:Int)) oo oo E oo;have l:qA (p++(R.set k c++s)) p.length=((R.set k c).drop 2).take T.length:=by
  unfold qA;rw[j,Int.toNat_natCast,←List.drop_drop,List.drop_left,List.drop_append_of_le_length (by omega),List.take_append_of_le_length (by rw[List.length_drop];omega)]
 have m:((p++(R.set k c++s)).drop (p.length+2+T.length)).take 2=((R.set k c).drop (2+T.length)).take 2:=by
  rw[Nat.add_assoc,←List.drop_drop,List.drop_left,List.drop_append_of_le_length (by omega),List.take_append_of_le_length (by rw[List.length_drop];omega)]
 have o:=tq T;have q:((p.length+2+T.length:Nat):Int)=(p.length:Int)+2+T.length:=oo;have r:R.drop (2+T.length)=two (sumOf T):=by
  rw[d,←List.drop_drop,List.drop_left' (xJ _),List.drop_left]
 have t:(R.drop 2).take T.length=T:=(by rw[d,List.drop_left' (xJ _),List.take_left]);unfold zZ;rw[Int.toNat_natCast,j];split
 ·cases hp:yK (qA (p++(R.set k c++s)) p.length) with
  |none=>rfl
  |some y=>
   simp only;rw[if_neg];intro b;by_cases O:k<2+T.length
   ·
    have F:((p++(R.set k c++s)).drop (p.length+2+T.length)).take 2=two (sumOf T):=by
     rw[m,List.drop_set_of_lt (by omega),r,List.take_of_length_le (by rw[xJ];omega)]
    have u:=lV (L:=p++(R.set k c++s)) (a:=p.length+2+T.length) (n:=sumOf T) o.1 o.2 F oo;rw[q] at u;rw[u,l] at b;have h:((R.set k c).drop 2).take T.length=T.set (k - 2) c:=by
     rw[List.drop_set,if_neg (by omega),List.take_set,t]
    have v:k - 2<T.length:=oo;rw[h,OL T (k - 2) c v] at b;have G:T=T.take (k - 2)++T[k - 2]::T.drop (k - 2+1):=by rw[List.getElem_cons_drop,List.take_append_drop]
    conv at b=>rhs;rw[G]
    have:=Qj _ _ _ _ b;have i:R[k]'oo=T[k - 2]:=by
     have w:R[k]? =T[k - 2]? :=by
      rw[d,List.getElem?_append_right (by rw[xJ];omega),xJ,List.getElem?_append_left (by omega)]
     rw[List.getElem?_eq_getElem (by omega),List.getElem?_eq_getElem v] at w;injection w
    rw[i] at f;exact f this
   ·
    have h:((R.set k c).drop 2).take T.length=T:=by
     rw[List.drop_set,if_neg (by omega),List.take_set_of_le (by omega),t]
    rw[l,h] at b;have A:numAt (p++(R.set k c++s)) ((p.length:Int)+2+T.length)=sumOf T:=b.symm;rw[←q] at A;have B:=two_bytes (p++(R.set k c++s)) (p.length+2+T.length) oo;rw[A,m,List.drop_set,if_neg (by omega),r,List.take_of_length_le (by rw[List.length_set,xJ];omega)] at B;have H:k - (2+T.length)<(two (sumOf T)).length:=(by rw[xJ];omega);have e:=congrArg (fun z:Bs=>z[k - (2+T.length)]?) B;rw[List.getElem?_set_self H] at e;have i:R[k]? =(two (sumOf T))[k - (2+T.length)]? :=by
     rw[d,List.getElem?_append_right (by rw[xJ];omega),xJ,List.getElem?_append_right (by omega)];congr 1;omega
    rw[←i,List.getElem?_eq_getElem (by omega)] at e;injection e with e
    exact f (by rw[e];simp)
 ·rfl
def yT (k a:Nat)(es:List Nat):Nat:=es.foldl (fun a e=>if e≤k then e else a) a
theorem YZ {k a:Nat} :∀ {es:List Nat},(∀e ∈ es,k<e)→yT k a es=a
 |[],_=>rfl
 |e::es,h=>by
  have h1:=h e (by simp);unfold yT;rw[List.foldl_cons,if_neg (by omega)];exact YZ (es:=es) fun x b=>h x (by simp [b])
theorem iW {k:Nat} :∀ {es:List Nat} {a:Nat},(a::es).Pairwise (·<·)→a≤k→∃i,i≤es.length∧(a::es)[i]? =some (yT k a es)∧yT k a es≤k∧∀e,(a::es)[i+1]? =some e→k<e
 |[],a,_,d=>⟨0,by simp,rfl,d,fun e c=>by simp at c⟩
 |e::es,a,g,d=>by
  have f:=List.pairwise_cons.1 g;by_cases c:e≤k
  ·obtain⟨i,h1,h2,h,j⟩:=iW (k:=k) f.2 c
   have l:yT k a (e::es)=yT k e es:=(by unfold yT;rw[List.foldl_cons,if_pos c]);rw[l];exact⟨i+1,by simpa using h1,by simpa using h2,h,fun x b=>j x (by simpa using b)⟩
  ·have m:yT k a (e::es)=a:=YZ fun x b=>by
    rcases List.mem_cons.1 b with rfl|b
    ·omega
    ·have:=(List.pairwise_cons.1 f.2).1 x b;omega
   rw[m];exact⟨0,by simp,rfl,d,fun x b=>by simp at b;omega⟩
theorem Yu {k a:Nat}{es:List Nat}{i:Nat}(h:i<es.length):yT k a (es.take (i+1))=if es[i]≤k then es[i] else yT k a (es.take i):=by
 unfold yT;rw[List.take_succ_eq_append_getElem h,List.foldl_append];rfl
theorem Uh (a:Nat)(xs:List OpR):(a::wY a xs).Pairwise (·<·):=by
 induction xs generalizing a with
 |nil=>simp [wY]
 |cons x xs b=>
  have:=pJ x;rw[List.pairwise_cons];exact⟨fun e c=>MS a _ e c,b _⟩
theorem Chain.le {l:Bs}{S T:Sto}{a b:Nat}{xs:List OpR}(h:Chain l S a xs T b):∀e ∈ wY a xs,e≤b:=by
 induction xs generalizing S a with
 |nil=>intro e h;cases h
 |cons x xs f=>
  obtain⟨U,h1,h2,d⟩:=h.next;intro e c;rcases List.mem_cons.1 c with rfl|c
  ·have:=d.bd.1;omega
  ·exact f d e c
theorem RpF.scan {o l m:Int}{dict log:Bs}{T:Sto}{b:Nat}{xs:List OpR}(h:RpF o l m dict log T b xs):nS (log.take b)=xs.zip ((wY 0 xs).map fun e:Nat=>(e:Int)):=by
 have c:(log.take b).length=b:=(by rw[List.length_take];have:=h.le;omega);have:=h.cut.chain.scan (by
  cases a:zZ (log.take b) (b:Int) with
  |none=>rfl
  |some p=>have:=sK (x:=p.1) (e:=p.2) a;omega) ((log.take b).length+1) oo
 exact this
theorem UA (xs:List OpR):(xs.zip ((wY 0 xs).map fun e:Nat=>(e:Int))).length=(wY 0 xs).length∧((xs.zip ((wY 0 xs).map fun e:Nat=>(e:Int))).map fun p=>Value.int .i64 p.2)=(wY 0 xs).map fun e:Nat=>Value.int .i64 (e:Int):=by
 have a:=rD 0 xs;constructor
 ·simp [a]
 ·have:(fun p:OpR×Int=>Value.int .i64 p.2)=(fun n:Int=>Value.int .i64 n) ∘ Prod.snd:=rfl
  rw[this,←List.map_map,List.map_snd_zip (by simp [a]),List.map_map];rfl
theorem RpF.last {o l m:Int}{dict log:Bs}{T:Sto}{b:Nat}{xs:List OpR}(h:RpF o l m dict log T b xs){k:Nat}(hk:k≤log.length):
 yT k 0 (wY 0 xs)≤k∧∃U,U.fs.length≤6∧wU o l m dict (log.take k)=some (U,(yT k 0 (wY 0 xs):Int))∧wU o l m dict (log.take (yT k 0 (wY 0 xs)))=some (U,(yT k 0 (wY 0 xs):Int)):=by
 obtain⟨i,h1,h2,a,c⟩:=iW (k:=k) (Uh 0 xs) (Nat.zero_le k);rw[rD] at h1;obtain⟨U,u1,u2⟩:=h.JL hk h1 h2 a c;exact⟨a,U,u1.ok.1.2.1,u1.rpl,u2.rpl⟩
end Go.Proofs.YtoedhpcmgondjaaGreatDoor
namespace Go.Proofs.YtoedhpcmgondjaaGreatDoor
theorem RpF.change {o l m:Int}{dict log:Bs}{T:Sto}{b:Nat}{xs:List OpR}(h:RpF o l m dict log T b xs){k:Nat}(hk:k<b):
 yT k 0 (wY 0 xs)≤k∧∃U,U.fs.length≤6∧wU o l m dict (log.take (yT k 0 (wY 0 xs)))=some (U,(yT k 0 (wY 0 xs):Int))∧
  (yT k 0 (wY 0 xs)+2≤k→∀c d:UInt8,log[k]? =some d→((c.toNat:Int) - d.toNat) % 255≠0→wU o l m dict (log.take k++c::log.drop (k+1))=some (U,(yT k 0 (wY 0 xs):Int))):=by
 have Y:=h.le;obtain⟨i,h1,h2,r,t⟩:=iW (k:=k) (Uh 0 xs) (Nat.zero_le k);rw[rD] at h1;obtain⟨U,u1,u2⟩:=h.JL (k:=k) oo h1 h2 r t;refine⟨r,U,u2.ok.1.2.1,u2.rpl,fun Z c d u C=> ?_⟩;generalize yT k 0 (wY 0 xs)=a at*;have v:i<xs.length:=by
  by_cases D:i<xs.length
  ·exact D
  ·have e:i=xs.length:=oo
   have:=h.chain.end;rw[←e,h2] at this;injection this with this
   omega
 obtain⟨V,a',E,w,g⟩:=h.chain.split i h1;rw[h2] at g;injection g with g
 subst g;rw[List.drop_eq_getElem_cons v] at w;obtain⟨F,y,G,j3⟩:=w.next;obtain⟨H,q,I,q2,J⟩:=h.chain.split (i+1) oo;have a3:=t q J;have K:Chain log (kz o l m dict) 0 (xs.take i++[xs[i]]) H q:=(by rw[←List.take_succ_eq_append_getElem v];exact I);have L:q=a+(wL xs[i]).length:=by
  have M:=(E.append (.cons (b:=a+(wL xs[i]).length) y G (.nil F _))).end;have j:=K.end;rw[M] at j;injection j with j
  exact j.symm
 subst L;obtain⟨n,N,O,_,a4,P⟩:=uA y;obtain rfl:a=n:=Int.ofNat_inj.1 N;generalize xs[i]=x at*;have Q:k<log.length:=oo;have R:log.take k++c::log.drop (k+1)=log.set k c:=(by rw[List.set_eq_take_append_cons_drop,if_pos Q]);have f:(log.take a).length=a:=(by rw[List.length_take];omega);have z:log=log.take a++(wL x++log.drop (a+(wL x).length)):=by
  conv=>lhs;rw[←List.take_append_drop a log,←List.take_append_drop (wL x).length (log.drop a),P,List.drop_drop]
 have S:log.set k c=log.take a++((wL x).set (k - a) c++log.drop (a+(wL x).length)):=by
  conv=>lhs;rw[z]
  rw[List.set_append_right _ _ (by rw[f];omega),f,List.set_append_left _ _ (by omega)]
 have W:(wL x)[k - a]? =some d:=by
  rw[z,List.getElem?_append_right (by rw[f];omega),f,List.getElem?_append_left (by omega)] at u;exact u
 have A:=V8 (p:=log.take a) (s:=log.drop (a+(wL x).length)) O (k:=k - a) (c:=c) oo oo (by
  have e:=(List.getElem?_eq_some_iff.1 W).2;rw[e];exact C)
 rw[←S,f] at A;rw[R];have X:RpF o l m dict (log.set k c) U a (xs.take i):= {
  fit:=h.fit
  short:=by rw[List.length_set];exact h.short
  chain:=Chain.MO (k:=a) (by rw[List.length_set];omega) (by rw[List.take_set_of_le (by omega)];exact u2.chain)
  stuck:=fun a5 e B=>by rw[A] at B;cases B
  le:=by rw[List.length_set];omega }
 exact X.rpl
