import Derived.Test.YtoedhpcmgondjaaGreatDoorUGU3
import Derived.Test.YtoedhpcmgondjaaGreatDoorUGR
set_option linter.all false
namespace Go.Proofs.YtoedhpcmgondjaaGreatDoor
open Go.RowKit
def uK (fs:List Fl)(n:Bs):Nat:=(fs.takeWhile fun f=>ltS f.1 n).length
def sJ (fs:List Fl)(n X:Bs):List Fl:=fs.takeWhile (fun f=>ltS f.1 n)++(n,X)::(fs.dropWhile fun f=>ltS f.1 n).filter fun f=>decide (f.1≠n)
def tV (fs:List Fl)(n:Bs):List Fl:=fs.filter fun f=>decide (f.1≠n)
theorem ax (fs:List Fl)(n:Bs):uK fs n≤fs.length:=by
 unfold uK;have h:=congrArg List.length (List.takeWhile_append_dropWhile (p:=fun f:Fl=>ltS f.1 n) (l:=fs));rw[List.length_append] at h;omega
theorem VW (fs:List Fl)(n:Bs):fs.takeWhile (fun f=>ltS f.1 n)=fs.take (uK fs n)∧fs.dropWhile (fun f=>ltS f.1 n)=fs.drop (uK fs n):=by
 have h:=List.takeWhile_append_dropWhile (p:=fun f:Fl=>ltS f.1 n) (l:=fs);unfold uK;constructor
 ·conv=>rhs;arg 2;rw[←h]
  rw[List.take_left]
 ·conv=>rhs;arg 2;rw[←h]
  rw[List.drop_left]
theorem X9 {fs:List Fl}{n:Bs}{p:Nat}(a:p≤fs.length)(h:∀(j:Nat) (b:j<p),ltS (fs[j]'oo).1 n=true)(h2:∀h:p<fs.length,ltS fs[p].1 n=false):uK fs n=p:=by
 unfold uK
 induction fs generalizing p with
 |nil=>simp at a;simp [a]
 |cons f fs c=>
  cases p with
  |zero=>
   have:=h2 (by simp);simp only[List.getElem_cons_zero] at this;rw[List.takeWhile_cons_of_neg (p:=fun f:Fl=>ltS f.1 n) (by rw[this];simp)];rfl
  |succ p=>
   have h0:=h 0 oo;simp only[List.getElem_cons_zero] at h0;rw[List.takeWhile_cons_of_pos (p:=fun f:Fl=>ltS f.1 n) h0,List.length_cons,c (p:=p) (by simpa using a) (fun j b=>by have:=h (j+1) (by omega);simpa using this) (fun d=>by have:=h2 (by simpa using d);simpa using this)]
theorem RQ (fs:List Fl)(n X:Bs):sJ fs n X=fs.take (uK fs n)++(n,X)::(fs.drop (uK fs n)).filter fun f=>decide (f.1≠n):=by
 unfold sJ;rw[(VW fs n).1,(VW fs n).2]
def yS (n X:Bs)(a:Bool×List Fl)(f:Fl):Bool×List Fl:=
 let b:=if a.1=false∧ltS f.1 n=false then(true,a.2++[(n,X)]) else a
 (b.1,if f.1≠n then b.2++[f] else b.2)
theorem fC (n X:Bs):∀(fs:List Fl) (out:List Fl),fs.foldl (yS n X) (true,out)=(true,out++fs.filter fun f=>decide (f.1≠n))
 |[],out=>by simp
 |f::fs,out=>by
  rw[List.foldl_cons];have:yS n X (true,out) f=(true,if f.1≠n then out++[f] else out):=(by unfold yS;simp);rw[this,fC n X fs,List.filter_cons];by_cases h:f.1=n
  ·simp [h]
  ·simp [h]
def oq (n X:Bs)(r:Bool×List Fl):List Fl:=if r.1=true then r.2 else r.2++[(n,X)]
theorem jw (n X:Bs):∀(fs:List Fl) (out:List Fl),oq n X (fs.foldl (yS n X) (false,out))=out++sJ fs n X
 |[],out=>by simp [sJ,oq]
 |f::fs,out=>by
  rw[List.foldl_cons];by_cases h:ltS f.1 n=true
  ·have a:f.1≠n:=lV h
   have e:yS n X (false,out) f=(false,out++[f]):=(by unfold yS;simp [h,a]);rw[e,jw n X fs (out++[f])];unfold sJ;rw[List.takeWhile_cons_of_pos (p:=fun f:Fl=>ltS f.1 n) h,List.dropWhile_cons_of_pos (p:=fun f:Fl=>ltS f.1 n) h];simp
  ·have b:ltS f.1 n=false:=by simpa using h
   have e:yS n X (false,out) f=(true,if f.1≠n then out++[(n,X)]++[f] else out++[(n,X)]):=(by unfold yS;simp [b]);rw[e,fC];unfold oq;simp only[if_true];unfold sJ;rw[List.takeWhile_cons_of_neg (p:=fun f:Fl=>ltS f.1 n) h,List.dropWhile_cons_of_neg (p:=fun f:Fl=>ltS f.1 n) h,List.filter_cons];by_cases h2:f.1=n
   ·simp [h2]
   ·simp [h2]
theorem MX (fs:List Fl)(n X:Bs):oq n X (fs.foldl (yS n X) (false,[]))=sJ fs n X:=by
 have:=jw n X fs [];simpa using this
theorem bf (n X:Bs)(a:Bool×List Fl)(f:Fl):(yS n X a f).2.length+(if a.1 then 1 else 0)≤a.2.length+1+(if(yS n X a f).1 then 1 else 0)∧(yS n X a f).2.length≤a.2.length+2:=by
 unfold yS;obtain⟨d,out⟩:=a
 cases d<;>simp only<;>(repeat' split)<;>simp_all<;>omega
theorem mY {S:Sto}(d:S.ok){n:Bs}{i:Nat}(h:xQ S.fs n=some i):∃b:i<S.fs.length,S.fs[i].1=n∧uK S.fs n=i∧(∀(j:Nat) (c:j<S.fs.length),j≠i→S.fs[j].1≠n):=by
 have b:=aj h;unfold xQ at h;rw[List.findIdx?_eq_some_iff_getElem] at h;obtain⟨_,h1,h2⟩:=h;have a:S.fs[i].1=n:=(by simpa using h1);refine⟨b,a,X9 oo (fun j c=> ?_) (fun _=> ?_),fun j c f=> ?_⟩
 ·rw[←a];exact Sto.asc d i j b c
 ·rw[a];exact qJ n
 ·by_cases e:j<i
  ·have:=Sto.asc d i j b e
   rw[a] at this;exact lV this
  ·have:=Sto.asc d j i c oo
   rw[a] at this;exact(lV this).symm
theorem LK {S:Sto}{n:Bs}(h:xQ S.fs n=none):∀f ∈ S.fs,f.1≠n:=by
 unfold xQ at h;rw[List.findIdx?_eq_none_iff] at h;intro f a;simpa using h f a
theorem kW {n:Bs}{fs:List Fl}(h:∀f ∈ fs,f.1≠n):(fs.filter fun f=>decide (f.1≠n))=fs:=by
 rw[List.filter_eq_self];intro f a;simpa using h f a
theorem Zo {S:Sto}(b:S.ok){n X:Bs}{i:Nat}(h:xQ S.fs n=some i):sJ S.fs n X=S.fs.set i (n,X):=by
 obtain⟨a,c,d,e⟩:=mY b h;rw[RQ,d,List.drop_eq_getElem_cons a,List.filter_cons,if_neg (by simp [c]),kW,List.set_eq_take_append_cons_drop,if_pos a];intro f g;obtain⟨j,k,rfl⟩:=List.getElem_of_mem g;rw[List.getElem_drop];rw[List.length_drop] at k;exact e _ oo oo
theorem Ym {S:Sto}{n X:Bs}(h:xQ S.fs n=none):sJ S.fs n X=S.fs.take (uK S.fs n)++(n,X)::S.fs.drop (uK S.fs n):=by
 rw[RQ,kW];intro f a;exact LK h f (List.mem_of_mem_drop a)
theorem U9 {S:Sto}(d:S.ok){n:Bs}{i:Nat}(h:xQ S.fs n=some i):tV S.fs n=S.fs.take i++S.fs.drop (i+1):=by
 obtain⟨e,g,k,c⟩:=mY d h;unfold tV
 conv=>lhs;arg 2;rw[←List.take_append_drop i S.fs,List.drop_eq_getElem_cons e]
 rw[List.filter_append,List.filter_cons,if_neg (by simp [g]),kW,kW]
 ·intro f a
  obtain⟨j,b,rfl⟩:=List.getElem_of_mem a;rw[List.getElem_drop];rw[List.length_drop] at b;exact c _ oo oo
 ·intro f a
  obtain⟨j,b,rfl⟩:=List.getElem_of_mem a;rw[List.getElem_take];rw[List.length_take] at b;exact c _ oo oo
theorem Vk {S:Sto}(a:S.ok)(n X:Bs):(sJ S.fs n X).length=if(xQ S.fs n).isSome then S.fs.length else S.fs.length+1:=by
 cases h:xQ S.fs n with
 |some i=>rw[Zo a h];simp
 |none=>rw[Ym h];simp;have:=ax S.fs n;omega
def chO (S:Sto)(x:OpR)(X:Bs):Option Bs:=
 if x.k=0 then mkC S.o S.l S.m S.dict x.d x.s else
 if x.k=1 then apD S.o S.l S.m S.dict X x.d x.s else
 if x.k=2 then rpD S.o S.l S.m S.dict X x.f x.t x.d x.s else mgD S.o S.l S.m S.dict X x.s
theorem Xo {o l m:Int}{dict d X:Bs}{size:Int}(h:mkC o l m dict d size=some X):X.length≤2960∧cdB o l m dict X=some d:=by
 obtain⟨n,b,cs,g,h1,h2,c,hk,a⟩:=Me h;refine⟨a.short,?_⟩;rw[rO c a.blocks];have:∀k,k≤b.length→yL (zy o l m dict) (b.take k)=some (cs.take k).flatten:=by
  intro k
  induction k with
  |zero=>intro _;rfl
  |succ k f=>
   intro hk;have i:=a.len;rw[Zw (by omega) (f (by omega)) (a.dat k (by omega) (by omega)).1,List.take_succ_eq_append_getElem (l:=cs) (by omega),List.flatten_append];simp
 have e:=this b.length (Nat.le_refl _);rw[List.take_length,a.len,List.take_length,a.flat] at e;exact e
def edO (x:OpR)(y:Bs):Bs:=if x.k=0 then x.d else if x.k=1 then y++x.d else if x.k=2 then y.take x.f.toNat++x.d++y.drop x.t.toNat else y
theorem NQ {S:Sto}{x:OpR}{X Y:Bs}(h:chO S x X=some Y)(d:x.k=0∨(cdB S.o S.l S.m S.dict X).isSome=true):cdB S.o S.l S.m S.dict Y=some (edO x ((cdB S.o S.l S.m S.dict X).getD []))∧(x.k=2→0≤x.f∧x.f≤x.t∧x.t≤((cdB S.o S.l S.m S.dict X).getD []).length):=by
 unfold chO at h;unfold edO;by_cases h0:x.k=0
 ·rw[if_pos h0] at h⊢
  exact⟨(Xo h).2,fun h2=>by omega⟩
 rw[if_neg h0] at h⊢;have d:(cdB S.o S.l S.m S.dict X).isSome=true:=(by rcases d with d|d;exact absurd d h0;exact d);obtain⟨y,g⟩:=Option.isSome_iff_exists.1 d;by_cases h1:x.k=1
 ·rw[if_pos h1] at h⊢
  rw[g];exact⟨OZ h g,fun h2=>by omega⟩
 rw[if_neg h1] at h⊢;by_cases h2:x.k=2
 ·rw[if_pos h2] at h⊢
  rw[g];obtain⟨a,b,c,e⟩:=Oz h g;exact⟨e,fun _=>⟨a,b,c⟩⟩
 ·rw[if_neg h2] at h⊢
  obtain⟨z,i,e⟩:=NG h;rw[i];exact⟨e,fun j=>absurd j h2⟩
def apO (S:Sto)(x:OpR):Option Sto:=
 if x.k=4 then(if(xQ S.fs x.nm).isSome=true then some { S with fs:=tV S.fs x.nm } else none) else
 (if x.k=0 then mkC S.o S.l S.m S.dict x.d x.s else(xQ S.fs x.nm).bind fun i=>chO S x (S.fs[i]?.getD ([],[])).2).bind fun X=>
  if(sJ S.fs x.nm X).length≤6 then some { S with fs:=sJ S.fs x.nm X } else none
theorem RZ {S:Sto}{x:OpR}(h:x.k=4):apO S x=if(xQ S.fs x.nm).isSome=true then some { S with fs:=tV S.fs x.nm } else none:=by unfold apO;rw[if_pos h]
theorem MP {S:Sto}(a:S.ok){x:OpR}(h:x.k≠4){i:Nat}(b:xQ S.fs x.nm=some i):∃c:i<S.fs.length,apO S x=(chO S x S.fs[i].2).map fun X=> { S with fs:=S.fs.set i (x.nm,X) } :=by
 obtain⟨c,f,g,j⟩:=mY a b;refine⟨c,?_⟩;unfold apO;rw[if_neg h];have e:(if x.k=0 then mkC S.o S.l S.m S.dict x.d x.s else(xQ S.fs x.nm).bind fun i=>chO S x (S.fs[i]?.getD ([],[])).2)=chO S x S.fs[i].2:=by
  by_cases h0:x.k=0
  ·rw[if_pos h0];unfold chO;rw[if_pos h0]
  ·rw[if_neg h0,b,Option.bind_some,List.getElem?_eq_getElem c];rfl
 rw[e]
 cases chO S x S.fs[i].2 with
 |none=>rfl
 |some X=>
  rw[Option.bind_some,Option.map_some,if_pos (by rw[Vk a,b];simp;exact a.2.1),Zo a b]
theorem RG {S:Sto}{x:OpR}(h:x.k≠4)(a:xQ S.fs x.nm=none):apO S x=if x.k=0∧S.fs.length≠6∧S.fs.length≤6 then(mkC S.o S.l S.m S.dict x.d x.s).map fun X=> { S with fs:=S.fs.take (uK S.fs x.nm)++(x.nm,X)::S.fs.drop (uK S.fs x.nm) } else none:=by
 unfold apO;rw[if_neg h];by_cases h0:x.k=0
 ·rw[if_pos h0]
  have c:∀X,(sJ S.fs x.nm X).length=S.fs.length+1:=fun X=>by rw[Ym a];simp;have:=ax S.fs x.nm;omega
  cases mkC S.o S.l S.m S.dict x.d x.s with
  |none=>rw[Option.bind_none,Option.map_none];split<;>rfl
  |some X=>
   rw[Option.bind_some,c,Option.map_some,Ym a];by_cases b:S.fs.length≠6∧S.fs.length≤6
   ·rw[if_pos (by omega),if_pos ⟨h0,b⟩]
   ·rw[if_neg (by omega),if_neg (fun h=>b h.2)]
 ·rw[if_neg h0,a,if_neg (fun h=>h0 h.1)];rfl
theorem Sto.LG {S:Sto}(e:S.ok){c:List Fl}(g:c.length≤6)(h:∀f ∈ c,uj f.1=true∧(cdB S.o S.l S.m S.dict f.2).isSome=true)(j:c.Pairwise fun a b=>ltS a.1 b.1=true):({ S with fs:=c } :Sto).ok:=by
 refine⟨e.1,g,fun i d=>⟨(h _ (List.getElem_mem d)).1,(h _ (List.getElem_mem d)).2,fun h0=> ?_⟩⟩;have k:i<c.length:=d;exact List.pairwise_iff_getElem.1 j (i - 1) i oo k oo
theorem Sto.pw {S:Sto}(c:S.ok):S.fs.Pairwise fun a b=>ltS a.1 b.1=true:=by
 rw[List.pairwise_iff_getElem];exact fun i j f d e=>Sto.asc c j i d e
theorem Sto.mem {S:Sto}(a:S.ok):∀f ∈ S.fs,uj f.1=true∧(cdB S.o S.l S.m S.dict f.2).isSome=true:=by
 intro f c;obtain⟨i,b,rfl⟩:=List.getElem_of_mem c;exact⟨(a.2.2 i b).1,(a.2.2 i b).2.1⟩
theorem Lh {fs:List Fl}{n X:Bs}(h:fs.Pairwise fun a b=>ltS a.1 b.1=true):(sJ fs n X).Pairwise fun a b=>ltS a.1 b.1=true:=by
 induction fs with
 |nil=>simp [sJ]
 |cons f fs m=>
  have i:=List.pairwise_cons.1 h;unfold sJ;by_cases e:ltS f.1 n=true
  ·rw[List.takeWhile_cons_of_pos (p:=fun f:Fl=>ltS f.1 n) e,List.dropWhile_cons_of_pos (p:=fun f:Fl=>ltS f.1 n) e,List.cons_append,List.pairwise_cons]
   refine⟨fun g c=> ?_,m i.2⟩;rcases List.mem_append.1 c with c|c
   ·exact i.1 g (List.takeWhile_subset _ c)
   ·rcases List.mem_cons.1 c with rfl|c
    ·exact e
    ·exact i.1 g (List.dropWhile_subset _ (List.mem_filter.1 c).1)
  ·rw[List.takeWhile_cons_of_neg (p:=fun f:Fl=>ltS f.1 n) e,List.dropWhile_cons_of_neg (p:=fun f:Fl=>ltS f.1 n) e,List.nil_append,List.pairwise_cons]
   refine⟨fun g c=> ?_,List.Pairwise.sublist List.filter_sublist h⟩;have k:=List.mem_filter.1 c;have o:g.1≠n:=(by simpa using k.2);have j:f=g∨ltS f.1 g.1=true:=by
    rcases List.mem_cons.1 k.1 with rfl|q
    ·exact .inl rfl
    ·exact .inr (i.1 g q)
   have l:n=f.1∨ltS n f.1=true:=by
    cases h4:ltS n f.1 with
    |true=>exact .inr rfl
    |false=>exact .inl (kz _ _ h4 (by simpa using e))
   rcases j with rfl|j
   ·rcases l with d|d
    ·exact absurd d.symm o
    ·exact d
   ·rcases l with d|d
    ·show ltS n g.1=true;rw[d];exact j
    ·exact oL _ _ _ d j
theorem O7 {α:Type}{p:α→Bool}{x:α} :∀ {l:List α},x ∈ l.takeWhile p→p x=true
 |[],h=>by cases h
 |a::l,h=>by
  by_cases b:p a=true
  ·rw[List.takeWhile_cons_of_pos b] at h
   rcases List.mem_cons.1 h with rfl|h2
   ·exact b
   ·exact O7 h2
  ·rw[List.takeWhile_cons_of_neg b] at h;cases h
theorem NC {fs:List Fl}{n X:Bs}{f:Fl}(h:f ∈ sJ fs n X):f=(n,X)∨(f ∈ fs∧f.1≠n):=by
 unfold sJ at h;rcases List.mem_append.1 h with h|h
 ·refine .inr ⟨List.takeWhile_subset _ h,?_⟩
  exact lV (O7 (p:=fun f:Fl=>ltS f.1 n) h)
 ·rcases List.mem_cons.1 h with h|h
  ·exact .inl h
  ·have:=List.mem_filter.1 h
   exact .inr ⟨List.dropWhile_subset _ this.1,by simpa using this.2⟩
structure ApF (S : Sto) (x : OpR) (T : Sto) : Prop where
 o : T.o = S.o
 l : T.l = S.l
 m : T.m = S.m
 dict : T.dict = S.dict
 ok : T.ok
 kind : x.k = 4 ∧ (∃ i, xQ S.fs x.nm = some i) ∧ T.fs = tV S.fs x.nm ∨ x.k ≠ 4 ∧ ∃ X, T.fs = sJ S.fs x.nm X ∧ (x.k = 0 ∧ mkC S.o S.l S.m S.dict x.d x.s = some X ∨ ∃ (i : Nat) (h : i < S.fs.length), xQ S.fs x.nm = some i ∧ chO S x S.fs[i].2 = some X)
theorem aI {S T:Sto}{x:OpR}(b:S.ok)(p:x.ok)(h:apO S x=some T):ApF S x T:=by
 have q:uj x.nm=true:=p.1;unfold apO at h;by_cases g:x.k=4
 ·rw[if_pos g] at h
  split at h
  ·rename_i c
   injection h with h
   subst h;obtain⟨i,c⟩:=Option.isSome_iff_exists.1 c;refine⟨rfl,rfl,rfl,rfl,Sto.LG b ?_ (fun f e=>Sto.mem b f (List.mem_filter.1 e).1) (List.Pairwise.sublist List.filter_sublist (Sto.pw b)),.inl ⟨g,⟨i,c⟩,rfl⟩⟩;have:=List.length_filter_le (fun f:Fl=>decide (f.1≠x.nm)) S.fs;have:=b.2.1;unfold tV;omega
  ·cases h
 ·rw[if_neg g] at h
  obtain⟨X,a,h⟩:=xh h;split at h
  ·rename_i r
   injection h with h
   subst h;have n:(cdB S.o S.l S.m S.dict X).isSome=true∧(x.k=0∧mkC S.o S.l S.m S.dict x.d x.s=some X∨∃(i:Nat) (h:i<S.fs.length),xQ S.fs x.nm=some i∧chO S x S.fs[i].2=some X):=by
    split at a
    ·rename_i h0
     rw[(Xo a).2];exact⟨rfl,.inl ⟨h0,a⟩⟩
    ·rename_i h0
     obtain⟨i,c,a⟩:=xh a;have j:=aj c;rw[List.getElem?_eq_getElem j] at a;simp only[Option.getD_some] at a;have t:=(NQ a (.inr (Sto.mem b _ (List.getElem_mem j)).2)).1;rw[t];exact⟨rfl,.inr ⟨i,j,c,a⟩⟩
   refine⟨rfl,rfl,rfl,rfl,Sto.LG b r (fun f e=> ?_) (Lh (Sto.pw b)),.inr ⟨g,X,rfl,n.2⟩⟩;rcases NC e with rfl|⟨e,_⟩
   ·exact⟨q,n.1⟩
   ·exact Sto.mem b f e
  ·cases h
theorem oO (a b:List Fl):yC (a++b)=yC a++yC b:=by unfold yC;rw[List.flatMap_append]
theorem YV (fs:List Fl)(p:Nat)(a:p≤fs.length):(yC fs).take (p*2)=yC (fs.take p):=by
 conv=>lhs;rw[←List.take_append_drop p fs,oO]
 rw[List.take_append_of_le_length (by rw[uo,List.length_take];omega),List.take_of_length_le (by rw[uo,List.length_take];omega)]
theorem Xn (fs:List Fl)(p:Nat)(a:p≤fs.length):(yC fs).drop (p*2)=yC (fs.drop p):=by
 conv=>lhs;rw[←List.take_append_drop p fs,oO]
 rw[List.drop_append_of_le_length (by rw[uo,List.length_take];omega),List.drop_of_length_le (by rw[uo,List.length_take];omega),List.nil_append]
theorem ZY (fs:List Fl):∀u ∈ yC fs,u.oneCell'=true:=by
 intro u a;unfold yC at a;obtain⟨b,_,c⟩:=List.mem_flatMap.1 a;simp only[flL,List.mem_cons,List.not_mem_nil,or_false] at c;rcases c with rfl|rfl<;>rfl
theorem O9 (fs:List Fl)(p:Nat)(a:p<fs.length)(Y:Bs):(yC fs).set (p*2+1) (.string ⟨Y.toArray⟩)=yC (fs.set p (fs[p].1,Y)):=by
 have e:fs=fs.take p++(fs[p]::fs.drop (p+1)):=(by rw[List.getElem_cons_drop,List.take_append_drop]);have b:fs.set p (fs[p].1,Y)=fs.take p++((fs[p].1,Y)::fs.drop (p+1)):=(by rw[List.set_eq_take_append_cons_drop,if_pos a]);rw[b]
 conv=>lhs;rw[e]
 rw[oO,oO,List.set_append_right _ _ (by rw[uo,List.length_take];omega),uo,List.length_take,Nat.min_eq_left (by omega),show p*2+1 - p*2=1 by omega];rfl
theorem Ot (fs:List Fl)(p:Nat)(a:p≤fs.length)(n Y:Bs):(yC fs).take (p*2)++[.string ⟨n.toArray⟩,.string ⟨Y.toArray⟩]++(yC fs).drop (p*2)=yC (fs.take p++(n,Y)::fs.drop p):=by
 rw[YV fs p a,Xn fs p a,oO,List.append_assoc];rfl
theorem Oe (fs:List Fl)(p:Nat)(a:p<fs.length):(yC fs).take (p*2)++(yC fs).drop ((p+1)*2)=yC (fs.take p++fs.drop (p+1)):=by
 rw[YV fs p (by omega),Xn fs (p+1) (by omega),oO]
def Sz (S:Sto)(x:OpR)(a:List Fl)(p:Nat):Prop:=∃h:p<a.length,a.length≤6∧a[p].1=x.nm∧a[p].2.length≤3000∧apO S x=(if x.k=4 then some { S with fs:=a.take p++a.drop (p+1) } else(chO S x a[p].2).map fun Y=> { S with fs:=a.set p (x.nm,Y) })
theorem Ti {o l m:Int}{dict t:Bs}(h:(cdB o l m dict t).isSome=true):t.length≤2960:=by
 unfold cdB at h;split at h
 ·cases hb:zX t with
  |none=>rw[hb] at h;cases h
  |some a=>exact(xO hb).1
 ·cases h
theorem Pj {S:Sto}{x:OpR}{i:Nat}(a:S.ok)(b:xQ S.fs x.nm=some i):Sz S x S.fs i:=by
 obtain⟨d,e,f,g⟩:=mY a b;refine⟨d,a.2.1,e,by have:=Ti (a.2.2 i d).2.1;omega,?_⟩;by_cases c:x.k=4
 ·rw[if_pos c,RZ c,b,if_pos (show(some i).isSome=true from rfl),U9 a b]
 ·rw[if_neg c]
  exact(MP a c b).2
theorem Lc {S:Sto}{x:OpR}(c:S.ok)(e:xQ S.fs x.nm=none)(hk:x.k=0)(f:S.fs.length≠6):Sz S x (S.fs.take (uK S.fs x.nm)++(x.nm,[])::S.fs.drop (uK S.fs x.nm)) (uK S.fs x.nm):=by
 have j:=ax S.fs x.nm;have g:=c.2.1;have b:(S.fs.take (uK S.fs x.nm)).length=uK S.fs x.nm:=(by rw[List.length_take];omega);have a:∀h,(S.fs.take (uK S.fs x.nm)++(x.nm,([]:Bs))::S.fs.drop (uK S.fs x.nm))[uK S.fs x.nm]'h=(x.nm,[]):=fun h=>by
  rw[List.getElem_append_right (by omega)];simp [b]
 refine⟨by simp;omega,by simp;omega,by rw[a],by rw[a];simp,?_⟩;rw[if_neg (by omega),RG (by omega) e,if_pos ⟨hk,f,g⟩,a];have i:chO S x []=mkC S.o S.l S.m S.dict x.d x.s:=(by unfold chO;rw[if_pos hk]);rw[i]
 cases mkC S.o S.l S.m S.dict x.d x.s with
 |none=>rfl
 |some X=>
  rw[Option.map_some,Option.map_some,List.set_append_right _ _ (by omega),b,Nat.sub_self,List.set_cons_zero]
theorem LP {S:Sto}{x:OpR}(a:xQ S.fs x.nm=none)(h:x.k≠0∨S.fs.length=6):apO S x=none:=by
 by_cases b:x.k=4
 ·rw[RZ b,a];rfl
 ·rw[RG b a,if_neg]
  rintro⟨h1,h2,_⟩;rcases h with h|h
  ·exact h h1
  ·exact h2 h
