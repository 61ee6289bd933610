import Derived.Test.YtoedhpcmgondjaaGreatDoorYGU3
import Derived.Test.YtoedhpcmgondjaaGreatDoorYGR
set_option linter.all false
namespace Go.Proofs.YtoedhpcmgondjaaGreatDoor
open Go.RowKit
def tN (fs:List Fl)(n:Bs):Nat:=(fs.takeWhile fun f=>ltS f.1 n).length
def rV (fs:List Fl)(n X:Bs):List Fl:=fs.takeWhile (fun f=>ltS f.1 n)++(n,X)::(fs.dropWhile fun f=>ltS f.1 n).filter fun f=>decide (f.1≠n)
def ry (fs:List Fl)(n:Bs):List Fl:=fs.filter fun f=>decide (f.1≠n)
theorem ZG (fs:List Fl)(n:Bs):tN fs n≤fs.length:=by
 unfold tN;have h:=congrArg List.length (List.takeWhile_append_dropWhile (p:=fun f:Fl=>ltS f.1 n) (l:=fs));rw[List.length_append] at h;omega
theorem Us (fs:List Fl)(n:Bs):fs.takeWhile (fun f=>ltS f.1 n)=fs.take (tN fs n)∧fs.dropWhile (fun f=>ltS f.1 n)=fs.drop (tN fs n):=by
 have h:=List.takeWhile_append_dropWhile (p:=fun f:Fl=>ltS f.1 n) (l:=fs);unfold tN;constructor
 ·conv=>rhs;arg 2;rw[←h]
  rw[List.take_left]
 ·conv=>rhs;arg 2;rw[←h]
  rw[List.drop_left]
theorem VX {fs:List Fl}{n:Bs}{p:Nat}(a:p≤fs.length)(h:∀(j:Nat) (b:j<p),ltS (fs[j]'oo).1 n=true)(h2:∀h:p<fs.length,ltS fs[p].1 n=false):tN fs n=p:=by
 unfold tN
 induction fs generalizing p with
 |nil=>simp at a;simp [a]
 |cons f fs c=>
  cases p with
  |zero=>
   have:=h2 (by simp);simp only[List.getElem_cons_zero] at this;rw[List.takeWhile_cons_of_neg (p:=fun f:Fl=>ltS f.1 n) (by rw[this];simp)];rfl
  |succ p=>
   have h0:=h 0 oo;simp only[List.getElem_cons_zero] at h0;rw[List.takeWhile_cons_of_pos (p:=fun f:Fl=>ltS f.1 n) h0,List.length_cons,c (p:=p) (by simpa using a) (fun j b=>by have:=h (j+1) (by omega);simpa using this) (fun d=>by have:=h2 (by simpa using d);simpa using this)]
theorem Oa (fs:List Fl)(n X:Bs):rV fs n X=fs.take (tN fs n)++(n,X)::(fs.drop (tN fs n)).filter fun f=>decide (f.1≠n):=by
 unfold rV;rw[(Us fs n).1,(Us fs n).2]
def xe (n X:Bs)(a:Bool×List Fl)(f:Fl):Bool×List Fl:=
 let b:=if a.1=false∧ltS f.1 n=false then(true,a.2++[(n,X)]) else a
 (b.1,if f.1≠n then b.2++[f] else b.2)
theorem bu (n X:Bs):∀(fs:List Fl) (out:List Fl),fs.foldl (xe n X) (true,out)=(true,out++fs.filter fun f=>decide (f.1≠n))
 |[],out=>by simp
 |f::fs,out=>by
  rw[List.foldl_cons];have:xe n X (true,out) f=(true,if f.1≠n then out++[f] else out):=(by unfold xe;simp);rw[this,bu n X fs,List.filter_cons];by_cases h:f.1=n
  ·simp [h]
  ·simp [h]
def ny (n X:Bs)(r:Bool×List Fl):List Fl:=if r.1=true then r.2 else r.2++[(n,X)]
theorem iC (n X:Bs):∀(fs:List Fl) (out:List Fl),ny n X (fs.foldl (xe n X) (false,out))=out++rV fs n X
 |[],out=>by simp [rV,ny]
 |f::fs,out=>by
  rw[List.foldl_cons];by_cases h:ltS f.1 n=true
  ·have a:f.1≠n:=kQ h
   have e:xe n X (false,out) f=(false,out++[f]):=(by unfold xe;simp [h,a]);rw[e,iC n X fs (out++[f])];unfold rV;rw[List.takeWhile_cons_of_pos (p:=fun f:Fl=>ltS f.1 n) h,List.dropWhile_cons_of_pos (p:=fun f:Fl=>ltS f.1 n) h];simp
  ·have b:ltS f.1 n=false:=by simpa using h
   have e:xe n X (false,out) f=(true,if f.1≠n then out++[(n,X)]++[f] else out++[(n,X)]):=(by unfold xe;simp [b]);rw[e,bu];unfold ny;simp only[if_true];unfold rV;rw[List.takeWhile_cons_of_neg (p:=fun f:Fl=>ltS f.1 n) h,List.dropWhile_cons_of_neg (p:=fun f:Fl=>ltS f.1 n) h,List.filter_cons];by_cases h2:f.1=n
   ·simp [h2]
   ·simp [h2]
theorem Jf (fs:List Fl)(n X:Bs):ny n X (fs.foldl (xe n X) (false,[]))=rV fs n X:=by
 have:=iC n X fs [];simpa using this
theorem aQ (n X:Bs)(a:Bool×List Fl)(f:Fl):(xe n X a f).2.length+(if a.1 then 1 else 0)≤a.2.length+1+(if(xe n X a f).1 then 1 else 0)∧(xe n X a f).2.length≤a.2.length+2:=by
 unfold xe;obtain⟨d,out⟩:=a
 cases d<;>simp only<;>(repeat' split)<;>simp_all<;>omega
theorem jd {S:Sto}(d:S.ok){n:Bs}{i:Nat}(h:wB S.fs n=some i):∃b:i<S.fs.length,S.fs[i].1=n∧tN S.fs n=i∧(∀(j:Nat) (c:j<S.fs.length),j≠i→S.fs[j].1≠n):=by
 have b:=ZI h;unfold wB at h;rw[List.findIdx?_eq_some_iff_getElem] at h;obtain⟨_,h1,h2⟩:=h;have a:S.fs[i].1=n:=(by simpa using h1);refine⟨b,a,VX oo (fun j c=> ?_) (fun _=> ?_),fun j c f=> ?_⟩
 ·rw[←a];exact Sto.asc d i j b c
 ·rw[a];exact pF n
 ·by_cases e:j<i
  ·have:=Sto.asc d i j b e
   rw[a] at this;exact kQ this
  ·have:=Sto.asc d j i c oo
   rw[a] at this;exact(kQ this).symm
theorem J5 {S:Sto}{n:Bs}(h:wB S.fs n=none):∀f ∈ S.fs,f.1≠n:=by
 unfold wB at h;rw[List.findIdx?_eq_none_iff] at h;intro f a;simpa using h f a
theorem jD {n:Bs}{fs:List Fl}(h:∀f ∈ fs,f.1≠n):(fs.filter fun f=>decide (f.1≠n))=fs:=by
 rw[List.filter_eq_self];intro f a;simpa using h f a
theorem Y7 {S:Sto}(b:S.ok){n X:Bs}{i:Nat}(h:wB S.fs n=some i):rV S.fs n X=S.fs.set i (n,X):=by
 obtain⟨a,c,d,e⟩:=jd b h;rw[Oa,d,List.drop_eq_getElem_cons a,List.filter_cons,if_neg (by simp [c]),jD,List.set_eq_take_append_cons_drop,if_pos a];intro f g;obtain⟨j,k,rfl⟩:=List.getElem_of_mem g;rw[List.getElem_drop];rw[List.length_drop] at k;exact e _ oo oo
theorem Xj {S:Sto}{n X:Bs}(h:wB S.fs n=none):rV S.fs n X=S.fs.take (tN S.fs n)++(n,X)::S.fs.drop (tN S.fs n):=by
 rw[Oa,jD];intro f a;exact J5 h f (List.mem_of_mem_drop a)
theorem QK {S:Sto}(d:S.ok){n:Bs}{i:Nat}(h:wB S.fs n=some i):ry S.fs n=S.fs.take i++S.fs.drop (i+1):=by
 obtain⟨e,g,k,c⟩:=jd d h;unfold ry
 conv=>lhs;arg 2;rw[←List.take_append_drop i S.fs,List.drop_eq_getElem_cons e]
 rw[List.filter_append,List.filter_cons,if_neg (by simp [g]),jD,jD]
 ·intro f a
  obtain⟨j,b,rfl⟩:=List.getElem_of_mem a;rw[List.getElem_drop];rw[List.length_drop] at b;exact c _ oo oo
 ·intro f a
  obtain⟨j,b,rfl⟩:=List.getElem_of_mem a;rw[List.getElem_take];rw[List.length_take] at b;exact c _ oo oo
theorem TK {S:Sto}(a:S.ok)(n X:Bs):(rV S.fs n X).length=if(wB S.fs n).isSome then S.fs.length else S.fs.length+1:=by
 cases h:wB S.fs n with
 |some i=>rw[Y7 a h];simp
 |none=>rw[Xj h];simp;have:=ZG S.fs n;omega
def chO (S:Sto)(x:OpR)(X:Bs):Option Bs:=
 if x.k=0 then mkC S.o S.l S.m S.dict x.d x.s else
 if x.k=1 then apD S.o S.l S.m S.dict X x.d x.s else
 if x.k=2 then rpD S.o S.l S.m S.dict X x.f x.t x.d x.s else mgD S.o S.l S.m S.dict X x.s
theorem WR {o l m:Int}{dict d X:Bs}{size:Int}(h:mkC o l m dict d size=some X):X.length≤2960∧cdB o l m dict X=some d:=by
 obtain⟨n,b,cs,g,h1,h2,c,hk,a⟩:=Jl h;refine⟨a.short,?_⟩;rw[sU c a.blocks];have:∀k,k≤b.length→yM (zA o l m dict) (b.take k)=some (cs.take k).flatten:=by
  intro k
  induction k with
  |zero=>intro _;rfl
  |succ k f=>
   intro hk;have i:=a.len;rw[iO (by omega) (f (by omega)) (a.dat k (by omega) (by omega)).1,List.take_succ_eq_append_getElem (l:=cs) (by omega),List.flatten_append];simp
 have e:=this b.length (Nat.le_refl _);rw[List.take_length,a.len,List.take_length,a.flat] at e;exact e
def edO (x:OpR)(y:Bs):Bs:=if x.k=0 then x.d else if x.k=1 then y++x.d else if x.k=2 then y.take x.f.toNat++x.d++y.drop x.t.toNat else y
theorem KT {S:Sto}{x:OpR}{X Y:Bs}(h:chO S x X=some Y)(d:x.k=0∨(cdB S.o S.l S.m S.dict X).isSome=true):cdB S.o S.l S.m S.dict Y=some (edO x ((cdB S.o S.l S.m S.dict X).getD []))∧(x.k=2→0≤x.f∧x.f≤x.t∧x.t≤((cdB S.o S.l S.m S.dict X).getD []).length):=by
 unfold chO at h;unfold edO;by_cases h0:x.k=0
 ·rw[if_pos h0] at h⊢
  exact⟨(WR h).2,fun h2=>by omega⟩
 rw[if_neg h0] at h⊢;have d:(cdB S.o S.l S.m S.dict X).isSome=true:=(by rcases d with d|d;exact absurd d h0;exact d);obtain⟨y,g⟩:=Option.isSome_iff_exists.1 d;by_cases h1:x.k=1
 ·rw[if_pos h1] at h⊢
  rw[g];exact⟨KF h g,fun h2=>by omega⟩
 rw[if_neg h1] at h⊢;by_cases h2:x.k=2
 ·rw[if_pos h2] at h⊢
  rw[g];obtain⟨a,b,c,e⟩:=MX h g;exact⟨e,fun _=>⟨a,b,c⟩⟩
 ·rw[if_neg h2] at h⊢
  obtain⟨z,i,e⟩:=MN h;rw[i];exact⟨e,fun j=>absurd j h2⟩
def apO (S:Sto)(x:OpR):Option Sto:=
 if x.k=4 then(if(wB S.fs x.nm).isSome=true then some { S with fs:=ry S.fs x.nm } else none) else
 (if x.k=0 then mkC S.o S.l S.m S.dict x.d x.s else(wB S.fs x.nm).bind fun i=>chO S x (S.fs[i]?.getD ([],[])).2).bind fun X=>
  if(rV S.fs x.nm X).length≤6 then some { S with fs:=rV S.fs x.nm X } else none
theorem PZ {S:Sto}{x:OpR}(h:x.k=4):apO S x=if(wB S.fs x.nm).isSome=true then some { S with fs:=ry S.fs x.nm } else none:=by unfold apO;rw[if_pos h]
theorem JA {S:Sto}(a:S.ok){x:OpR}(h:x.k≠4){i:Nat}(b:wB S.fs x.nm=some i):∃c:i<S.fs.length,apO S x=(chO S x S.fs[i].2).map fun X=> { S with fs:=S.fs.set i (x.nm,X) } :=by
 obtain⟨c,f,g,j⟩:=jd a b;refine⟨c,?_⟩;unfold apO;rw[if_neg h];have e:(if x.k=0 then mkC S.o S.l S.m S.dict x.d x.s else(wB S.fs x.nm).bind fun i=>chO S x (S.fs[i]?.getD ([],[])).2)=chO S x S.fs[i].2:=by
  by_cases h0:x.k=0
  ·rw[if_pos h0];unfold chO;rw[if_pos h0]
  ·rw[if_neg h0,b,Option.bind_some,List.getElem?_eq_getElem c];rfl
 rw[e]
 cases chO S x S.fs[i].2 with
 |none=>rfl
 |some X=>
  rw[Option.bind_some,Option.map_some,if_pos (by rw[TK a,b];simp;exact a.2.1),Y7 a b]
theorem Pm {S:Sto}{x:OpR}(h:x.k≠4)(a:wB S.fs x.nm=none):apO S x=if x.k=0∧S.fs.length≠6∧S.fs.length≤6 then(mkC S.o S.l S.m S.dict x.d x.s).map fun X=> { S with fs:=S.fs.take (tN S.fs x.nm)++(x.nm,X)::S.fs.drop (tN S.fs x.nm) } else none:=by
 unfold apO;rw[if_neg h];by_cases h0:x.k=0
 ·rw[if_pos h0]
  have c:∀X,(rV S.fs x.nm X).length=S.fs.length+1:=fun X=>by rw[Xj a];simp;have:=ZG S.fs x.nm;omega
  cases mkC S.o S.l S.m S.dict x.d x.s with
  |none=>rw[Option.bind_none,Option.map_none];split<;>rfl
  |some X=>
   rw[Option.bind_some,c,Option.map_some,Xj a];by_cases b:S.fs.length≠6∧S.fs.length≤6
   ·rw[if_pos (by omega),if_pos ⟨h0,b⟩]
   ·rw[if_neg (by omega),if_neg (fun h=>b h.2)]
 ·rw[if_neg h0,a,if_neg (fun h=>h0 h.1)];rfl
theorem Sto.JO {S:Sto}(e:S.ok){c:List Fl}(g:c.length≤6)(h:∀f ∈ c,vV f.1=true∧(cdB S.o S.l S.m S.dict f.2).isSome=true)(j:c.Pairwise fun a b=>ltS a.1 b.1=true):({ S with fs:=c } :Sto).ok:=by
 refine⟨e.1,g,fun i d=>⟨(h _ (List.getElem_mem d)).1,(h _ (List.getElem_mem d)).2,fun h0=> ?_⟩⟩;have k:i<c.length:=d;exact List.pairwise_iff_getElem.1 j (i - 1) i oo k oo
theorem Sto.pw {S:Sto}(c:S.ok):S.fs.Pairwise fun a b=>ltS a.1 b.1=true:=by
 rw[List.pairwise_iff_getElem];exact fun i j f d e=>Sto.asc c j i d e
theorem Sto.mem {S:Sto}(a:S.ok):∀f ∈ S.fs,vV f.1=true∧(cdB S.o S.l S.m S.dict f.2).isSome=true:=by
 intro f c;obtain⟨i,b,rfl⟩:=List.getElem_of_mem c;exact⟨(a.2.2 i b).1,(a.2.2 i b).2.1⟩
theorem Ja {fs:List Fl}{n X:Bs}(h:fs.Pairwise fun a b=>ltS a.1 b.1=true):(rV fs n X).Pairwise fun a b=>ltS a.1 b.1=true:=by
 induction fs with
 |nil=>simp [rV]
 |cons f fs m=>
  have i:=List.pairwise_cons.1 h;unfold rV;by_cases e:ltS f.1 n=true
  ·rw[List.takeWhile_cons_of_pos (p:=fun f:Fl=>ltS f.1 n) e,List.dropWhile_cons_of_pos (p:=fun f:Fl=>ltS f.1 n) e,List.cons_append,List.pairwise_cons]
   refine⟨fun g c=> ?_,m i.2⟩;rcases List.mem_append.1 c with c|c
   ·exact i.1 g (List.takeWhile_subset _ c)
   ·rcases List.mem_cons.1 c with rfl|c
    ·exact e
    ·exact i.1 g (List.dropWhile_subset _ (List.mem_filter.1 c).1)
  ·rw[List.takeWhile_cons_of_neg (p:=fun f:Fl=>ltS f.1 n) e,List.dropWhile_cons_of_neg (p:=fun f:Fl=>ltS f.1 n) e,List.nil_append,List.pairwise_cons]
   refine⟨fun g c=> ?_,List.Pairwise.sublist List.filter_sublist h⟩;have k:=List.mem_filter.1 c;have o:g.1≠n:=(by simpa using k.2);have j:f=g∨ltS f.1 g.1=true:=by
    rcases List.mem_cons.1 k.1 with rfl|q
    ·exact .inl rfl
    ·exact .inr (i.1 g q)
   have l:n=f.1∨ltS n f.1=true:=by
    cases h4:ltS n f.1 with
    |true=>exact .inr rfl
    |false=>exact .inl (jA _ _ h4 (by simpa using e))
   rcases j with rfl|j
   ·rcases l with d|d
    ·exact absurd d.symm o
    ·exact d
   ·rcases l with d|d
    ·show ltS n g.1=true;rw[d];exact j
    ·exact mF _ _ _ d j
theorem KH {α:Type}{p:α→Bool}{x:α} :∀ {l:List α},x ∈ l.takeWhile p→p x=true
 |[],h=>by cases h
 |a::l,h=>by
  by_cases b:p a=true
  ·rw[List.takeWhile_cons_of_pos b] at h
   rcases List.mem_cons.1 h with rfl|h2
   ·exact b
   ·exact KH h2
  ·rw[List.takeWhile_cons_of_neg b] at h;cases h
theorem Lp {fs:List Fl}{n X:Bs}{f:Fl}(h:f ∈ rV fs n X):f=(n,X)∨(f ∈ fs∧f.1≠n):=by
 unfold rV at h;rcases List.mem_append.1 h with h|h
 ·refine .inr ⟨List.takeWhile_subset _ h,?_⟩
  exact kQ (KH (p:=fun f:Fl=>ltS f.1 n) h)
 ·rcases List.mem_cons.1 h with h|h
  ·exact .inl h
  ·have:=List.mem_filter.1 h
   exact .inr ⟨List.dropWhile_subset _ this.1,by simpa using this.2⟩
structure ApF (S : Sto) (x : OpR) (T : Sto) : Prop where
 o : T.o = S.o
 l : T.l = S.l
 m : T.m = S.m
 dict : T.dict = S.dict
 ok : T.ok
 kind : x.k = 4 ∧ (∃ i, wB S.fs x.nm = some i) ∧ T.fs = ry S.fs x.nm ∨ x.k ≠ 4 ∧ ∃ X, T.fs = rV S.fs x.nm X ∧ (x.k = 0 ∧ mkC S.o S.l S.m S.dict x.d x.s = some X ∨ ∃ (i : Nat) (h : i < S.fs.length), wB S.fs x.nm = some i ∧ chO S x S.fs[i].2 = some X)
theorem dC {S T:Sto}{x:OpR}(b:S.ok)(p:x.ok)(h:apO S x=some T):ApF S x T:=by
 have q:vV x.nm=true:=p.1;unfold apO at h;by_cases g:x.k=4
 ·rw[if_pos g] at h
  split at h
  ·rename_i c
   injection h with h
   subst h;obtain⟨i,c⟩:=Option.isSome_iff_exists.1 c;refine⟨rfl,rfl,rfl,rfl,Sto.JO b ?_ (fun f e=>Sto.mem b f (List.mem_filter.1 e).1) (List.Pairwise.sublist List.filter_sublist (Sto.pw b)),.inl ⟨g,⟨i,c⟩,rfl⟩⟩;have:=List.length_filter_le (fun f:Fl=>decide (f.1≠x.nm)) S.fs;have:=b.2.1;unfold ry;omega
  ·cases h
 ·rw[if_neg g] at h
  obtain⟨X,a,h⟩:=xC h;split at h
  ·rename_i r
   injection h with h
   subst h;have n:(cdB S.o S.l S.m S.dict X).isSome=true∧(x.k=0∧mkC S.o S.l S.m S.dict x.d x.s=some X∨∃(i:Nat) (h:i<S.fs.length),wB S.fs x.nm=some i∧chO S x S.fs[i].2=some X):=by
    split at a
    ·rename_i h0
     rw[(WR a).2];exact⟨rfl,.inl ⟨h0,a⟩⟩
    ·rename_i h0
     obtain⟨i,c,a⟩:=xC a;have j:=ZI c;rw[List.getElem?_eq_getElem j] at a;simp only[Option.getD_some] at a;have t:=(KT a (.inr (Sto.mem b _ (List.getElem_mem j)).2)).1;rw[t];exact⟨rfl,.inr ⟨i,j,c,a⟩⟩
   refine⟨rfl,rfl,rfl,rfl,Sto.JO b r (fun f e=> ?_) (Ja (Sto.pw b)),.inr ⟨g,X,rfl,n.2⟩⟩;rcases Lp e with rfl|⟨e,_⟩
   ·exact⟨q,n.1⟩
   ·exact Sto.mem b f e
  ·cases h
theorem mM (a b:List Fl):yz (a++b)=yz a++yz b:=by unfold yz;rw[List.flatMap_append]
theorem We (fs:List Fl)(p:Nat)(a:p≤fs.length):(yz fs).take (p*2)=yz (fs.take p):=by
 conv=>lhs;rw[←List.take_append_drop p fs,mM]
 rw[List.take_append_of_le_length (by rw[ui,List.length_take];omega),List.take_of_length_le (by rw[ui,List.length_take];omega)]
theorem WQ (fs:List Fl)(p:Nat)(a:p≤fs.length):(yz fs).drop (p*2)=yz (fs.drop p):=by
 conv=>lhs;rw[←List.take_append_drop p fs,mM]
 rw[List.drop_append_of_le_length (by rw[ui,List.length_take];omega),List.drop_of_length_le (by rw[ui,List.length_take];omega),List.nil_append]
theorem Yx (fs:List Fl):∀u ∈ yz fs,u.oneCell'=true:=by
 intro u a;unfold yz at a;obtain⟨b,_,c⟩:=List.mem_flatMap.1 a;simp only[flL,List.mem_cons,List.not_mem_nil,or_false] at c;rcases c with rfl|rfl<;>rfl
theorem Lh (fs:List Fl)(p:Nat)(a:p<fs.length)(Y:Bs):(yz fs).set (p*2+1) (.string ⟨Y.toArray⟩)=yz (fs.set p (fs[p].1,Y)):=by
 have e:fs=fs.take p++(fs[p]::fs.drop (p+1)):=(by rw[List.getElem_cons_drop,List.take_append_drop]);have b:fs.set p (fs[p].1,Y)=fs.take p++((fs[p].1,Y)::fs.drop (p+1)):=(by rw[List.set_eq_take_append_cons_drop,if_pos a]);rw[b]
 conv=>lhs;rw[e]
 rw[mM,mM,List.set_append_right _ _ (by rw[ui,List.length_take];omega),ui,List.length_take,Nat.min_eq_left (by omega),show p*2+1 - p*2=1 by omega];rfl
theorem Kw (fs:List Fl)(p:Nat)(a:p≤fs.length)(n Y:Bs):(yz fs).take (p*2)++[.string ⟨n.toArray⟩,.string ⟨Y.toArray⟩]++(yz fs).drop (p*2)=yz (fs.take p++(n,Y)::fs.drop p):=by
 rw[We fs p a,WQ fs p a,mM,List.append_assoc];rfl
theorem LD (fs:List Fl)(p:Nat)(a:p<fs.length):(yz fs).take (p*2)++(yz fs).drop ((p+1)*2)=yz (fs.take p++fs.drop (p+1)):=by
 rw[We fs p (by omega),WQ fs (p+1) (by omega),mM]
def RQ (S:Sto)(x:OpR)(a:List Fl)(p:Nat):Prop:=∃h:p<a.length,a.length≤6∧a[p].1=x.nm∧a[p].2.length≤3000∧apO S x=(if x.k=4 then some { S with fs:=a.take p++a.drop (p+1) } else(chO S x a[p].2).map fun Y=> { S with fs:=a.set p (x.nm,Y) })
theorem Ry {o l m:Int}{dict t:Bs}(h:(cdB o l m dict t).isSome=true):t.length≤2960:=by
 unfold cdB at h;split at h
 ·cases hb:zX t with
  |none=>rw[hb] at h;cases h
  |some a=>exact(xI hb).1
 ·cases h
theorem Oo {S:Sto}{x:OpR}{i:Nat}(a:S.ok)(b:wB S.fs x.nm=some i):RQ S x S.fs i:=by
 obtain⟨d,e,f,g⟩:=jd a b;refine⟨d,a.2.1,e,by have:=Ry (a.2.2 i d).2.1;omega,?_⟩;by_cases c:x.k=4
 ·rw[if_pos c,PZ c,b,if_pos (show(some i).isSome=true from rfl),QK a b]
 ·rw[if_neg c]
  exact(JA a c b).2
theorem Ju {S:Sto}{x:OpR}(c:S.ok)(e:wB S.fs x.nm=none)(hk:x.k=0)(f:S.fs.length≠6):RQ S x (S.fs.take (tN S.fs x.nm)++(x.nm,[])::S.fs.drop (tN S.fs x.nm)) (tN S.fs x.nm):=by
 have j:=ZG S.fs x.nm;have g:=c.2.1;have b:(S.fs.take (tN S.fs x.nm)).length=tN S.fs x.nm:=(by rw[List.length_take];omega);have a:∀h,(S.fs.take (tN S.fs x.nm)++(x.nm,([]:Bs))::S.fs.drop (tN S.fs x.nm))[tN S.fs x.nm]'h=(x.nm,[]):=fun h=>by
  rw[List.getElem_append_right (by omega)];simp [b]
 refine⟨by simp;omega,by simp;omega,by rw[a],by rw[a];simp,?_⟩;rw[if_neg (by omega),Pm (by omega) e,if_pos ⟨hk,f,g⟩,a];have i:chO S x []=mkC S.o S.l S.m S.dict x.d x.s:=(by unfold chO;rw[if_pos hk]);rw[i]
 cases mkC S.o S.l S.m S.dict x.d x.s with
 |none=>rfl
 |some X=>
  rw[Option.map_some,Option.map_some,List.set_append_right _ _ (by omega),b,Nat.sub_self,List.set_cons_zero]
theorem J4 {S:Sto}{x:OpR}(a:wB S.fs x.nm=none)(h:x.k≠0∨S.fs.length=6):apO S x=none:=by
 by_cases b:x.k=4
 ·rw[PZ b,a];rfl
 ·rw[Pm b a,if_neg]
  rintro⟨h1,h2,_⟩;rcases h with h|h
  ·exact h h1
  ·exact h2 h
