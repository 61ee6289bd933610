import Derived.Test.YtfppmajoidkooaaGreatDoorUGU3
import Derived.Test.YtfppmajoidkooaaGreatDoorUGU1
import Derived.Test.YtfppmajoidkooaaGreatDoorUGR
set_option linter.unusedVariables false
set_option linter.unusedSimpArgs false
namespace Go.Proofs.YtfppmajoidkooaaGreatDoor
open Go.RowKit
def uK (fs:List Fl)(n:Bs):Nat:=(fs.takeWhile fun f=>ltS f.1 n).length
def su (fs:List Fl)(n X:Bs):List Fl:=fs.takeWhile (fun f=>ltS f.1 n)++(n,X)::(fs.dropWhile fun f=>ltS f.1 n).filter fun f=>decide (f.1≠n)
def tq (fs:List Fl)(n:Bs):List Fl:=fs.filter fun f=>decide (f.1≠n)
theorem aH (fs:List Fl)(n:Bs):uK fs n≤fs.length:=by
 unfold uK;have h:=congrArg List.length (List.takeWhile_append_dropWhile (p:=fun f:Fl=>ltS f.1 n) (l:=fs));rw[List.length_append] at h;omega
theorem VD (fs:List Fl)(n:Bs):fs.takeWhile (fun f=>ltS f.1 n)=fs.take (uK fs n)∧fs.dropWhile (fun f=>ltS f.1 n)=fs.drop (uK fs n):=by
 have h:=List.takeWhile_append_dropWhile (p:=fun f:Fl=>ltS f.1 n) (l:=fs);unfold uK;constructor
 ·conv=>rhs;arg 2;rw[←h]
  rw[List.take_left]
 ·conv=>rhs;arg 2;rw[←h]
  rw[List.drop_left]
theorem WL {fs:List Fl}{n:Bs}{p:Nat}(hp:p≤fs.length)(h:∀(j:Nat) (hj:j<p),ltS (fs[j]'oo).1 n=true)(h2:∀h:p<fs.length,ltS fs[p].1 n=false):uK fs n=p:=by
 unfold uK
 induction fs generalizing p with
 |nil=>simp at hp;simp [hp]
 |cons f fs ih=>
  cases p with
  |zero=>
   have:=h2 (by simp);simp only[List.getElem_cons_zero] at this;rw[List.takeWhile_cons_of_neg (p:=fun f:Fl=>ltS f.1 n) (by rw[this];simp)];rfl
  |succ p=>
   have h0:=h 0 oo;simp only[List.getElem_cons_zero] at h0;rw[List.takeWhile_cons_of_pos (p:=fun f:Fl=>ltS f.1 n) h0,List.length_cons,ih (p:=p) (by simpa using hp) (fun j hj=>by have:=h (j+1) (by omega);simpa using this) (fun hh=>by have:=h2 (by simpa using hh);simpa using this)]
theorem QF (fs:List Fl)(n X:Bs):su fs n X=fs.take (uK fs n)++(n,X)::(fs.drop (uK fs n)).filter fun f=>decide (f.1≠n):=by
 unfold su;rw[(VD fs n).1,(VD fs n).2]
def yS (n X:Bs)(a:Bool×List Fl)(f:Fl):Bool×List Fl:=
 let a':=if a.1=false∧ltS f.1 n=false then(true,a.2++[(n,X)]) else a
 (a'.1,if f.1≠n then a'.2++[f] else a'.2)
theorem gy (n X:Bs):∀(fs:List Fl) (out:List Fl),fs.foldl (yS n X) (true,out)=(true,out++fs.filter fun f=>decide (f.1≠n))
 |[],out=>by simp
 |f::fs,out=>by
  rw[List.foldl_cons];have:yS n X (true,out) f=(true,if f.1≠n then out++[f] else out):=(by unfold yS;simp);rw[this,gy n X fs,List.filter_cons];by_cases h:f.1=n
  ·simp [h]
  ·simp [h]
def oN (n X:Bs)(r:Bool×List Fl):List Fl:=if r.1=true then r.2 else r.2++[(n,X)]
theorem jF (n X:Bs):∀(fs:List Fl) (out:List Fl),oN n X (fs.foldl (yS n X) (false,out))=out++su fs n X
 |[],out=>by simp [su,oN]
 |f::fs,out=>by
  rw[List.foldl_cons];by_cases h:ltS f.1 n=true
  ·have hne:f.1≠n:=ku h
   have e:yS n X (false,out) f=(false,out++[f]):=(by unfold yS;simp [h,hne]);rw[e,jF n X fs (out++[f])];unfold su;rw[List.takeWhile_cons_of_pos (p:=fun f:Fl=>ltS f.1 n) h,List.dropWhile_cons_of_pos (p:=fun f:Fl=>ltS f.1 n) h];simp
  ·have h':ltS f.1 n=false:=by simpa using h
   have e:yS n X (false,out) f=(true,if f.1≠n then out++[(n,X)]++[f] else out++[(n,X)]):=(by unfold yS;simp [h']);rw[e,gy];unfold oN;simp only[if_true];unfold su;rw[List.takeWhile_cons_of_neg (p:=fun f:Fl=>ltS f.1 n) h,List.dropWhile_cons_of_neg (p:=fun f:Fl=>ltS f.1 n) h,List.filter_cons];by_cases h2:f.1=n
   ·simp [h2]
   ·simp [h2]
theorem Lr (fs:List Fl)(n X:Bs):oN n X (fs.foldl (yS n X) (false,[]))=su fs n X:=by
 have:=jF n X fs [];simpa using this
theorem bU (n X:Bs)(a:Bool×List Fl)(f:Fl):(yS n X a f).2.length+(if a.1 then 1 else 0)≤a.2.length+1+(if(yS n X a f).1 then 1 else 0)∧(yS n X a f).2.length≤a.2.length+2:=by
 unfold yS;obtain⟨d,out⟩:=a
 cases d<;>simp only<;>(repeat' split)<;>simp_all<;>omega
theorem lU {S:Sto}(hok:S.ok){n:Bs}{i:Nat}(h:xK S.fs n=some i):∃hi:i<S.fs.length,S.fs[i].1=n∧uK S.fs n=i∧(∀(j:Nat) (hj:j<S.fs.length),j≠i→S.fs[j].1≠n):=by
 have hi:=aG h;unfold xK at h;rw[List.findIdx?_eq_some_iff_getElem] at h;obtain⟨_,h1,h2⟩:=h;have he:S.fs[i].1=n:=(by simpa using h1);refine⟨hi,he,WL oo (fun j hj=> ?_) (fun _=> ?_),fun j hj hne=> ?_⟩
 ·rw[←he];exact Sto.asc hok i j hi hj
 ·rw[he];exact pF n
 ·by_cases hji:j<i
  ·have:=Sto.asc hok i j hi hji
   rw[he] at this;exact ku this
  ·have:=Sto.asc hok j i hj oo
   rw[he] at this;exact(ku this).symm
theorem KR {S:Sto}{n:Bs}(h:xK S.fs n=none):∀f ∈ S.fs,f.1≠n:=by
 unfold xK at h;rw[List.findIdx?_eq_none_iff] at h;intro f hf;simpa using h f hf
theorem kZ {n:Bs}{fs:List Fl}(h:∀f ∈ fs,f.1≠n):(fs.filter fun f=>decide (f.1≠n))=fs:=by
 rw[List.filter_eq_self];intro f hf;simpa using h f hf
theorem ZX {S:Sto}(hok:S.ok){n X:Bs}{i:Nat}(h:xK S.fs n=some i):su S.fs n X=S.fs.set i (n,X):=by
 obtain⟨hi,he,hp,hne⟩:=lU hok h;rw[QF,hp,List.drop_eq_getElem_cons hi,List.filter_cons,if_neg (by simp [he]),kZ,List.set_eq_take_append_cons_drop,if_pos hi];intro f hf;obtain⟨j,hj,rfl⟩:=List.getElem_of_mem hf;rw[List.getElem_drop];rw[List.length_drop] at hj;exact hne _ oo oo
theorem Zk {S:Sto}{n X:Bs}(h:xK S.fs n=none):su S.fs n X=S.fs.take (uK S.fs n)++(n,X)::S.fs.drop (uK S.fs n):=by
 rw[QF,kZ];intro f hf;exact KR h f (List.mem_of_mem_drop hf)
theorem S9 {S:Sto}(hok:S.ok){n:Bs}{i:Nat}(h:xK S.fs n=some i):tq S.fs n=S.fs.take i++S.fs.drop (i+1):=by
 obtain⟨hi,he,hp,hne⟩:=lU hok h;unfold tq
 conv=>lhs;arg 2;rw[←List.take_append_drop i S.fs,List.drop_eq_getElem_cons hi]
 rw[List.filter_append,List.filter_cons,if_neg (by simp [he]),kZ,kZ]
 ·intro f hf
  obtain⟨j,hj,rfl⟩:=List.getElem_of_mem hf;rw[List.getElem_drop];rw[List.length_drop] at hj;exact hne _ oo oo
 ·intro f hf
  obtain⟨j,hj,rfl⟩:=List.getElem_of_mem hf;rw[List.getElem_take];rw[List.length_take] at hj;exact hne _ oo oo
theorem VO {S:Sto}(hok:S.ok)(n X:Bs):(su S.fs n X).length=if(xK S.fs n).isSome then S.fs.length else S.fs.length+1:=by
 cases h:xK S.fs n with
 |some i=>rw[ZX hok h];simp
 |none=>rw[Zk h];simp;have:=aH S.fs n;omega
def chO (S:Sto)(x:OpR)(X:Bs):Option Bs:=
 if x.k=0 then mkC S.o S.l S.m S.dict x.d x.s else
 if x.k=1 then apD S.o S.l S.m S.dict X x.d x.s else
 if x.k=2 then rpD S.o S.l S.m S.dict X x.f x.t x.d x.s else mgD S.o S.l S.m S.dict X x.s
theorem Xz {o l m:Int}{dict d X:Bs}{size:Int}(h:mkC o l m dict d size=some X):X.length≤2960∧cdB o l m dict X=some d:=by
 obtain⟨n,bs,cs,hn,h1,h2,hf,hk,hM⟩:=LP h;refine⟨hM.short,?_⟩;rw[rX hf hM.blocks];have:∀k,k≤bs.length→yK (zt o l m dict) (bs.take k)=some (cs.take k).flatten:=by
  intro k
  induction k with
  |zero=>intro _;rfl
  |succ k ih=>
   intro hk;have hl:=hM.len;rw[Zc (by omega) (ih (by omega)) (hM.dat k (by omega) (by omega)).1,List.take_succ_eq_append_getElem (l:=cs) (by omega),List.flatten_append];simp
 have e:=this bs.length (Nat.le_refl _);rw[List.take_length,hM.len,List.take_length,hM.flat] at e;exact e
def edO (x:OpR)(y:Bs):Bs:=if x.k=0 then x.d else if x.k=1 then y++x.d else if x.k=2 then y.take x.f.toNat++x.d++y.drop x.t.toNat else y
theorem NL {S:Sto}{x:OpR}{X Y:Bs}(h:chO S x X=some Y)(hX:x.k=0∨(cdB S.o S.l S.m S.dict X).isSome=true):cdB S.o S.l S.m S.dict Y=some (edO x ((cdB S.o S.l S.m S.dict X).getD []))∧(x.k=2→0≤x.f∧x.f≤x.t∧x.t≤((cdB S.o S.l S.m S.dict X).getD []).length):=by
 unfold chO at h;unfold edO;by_cases h0:x.k=0
 ·rw[if_pos h0] at h⊢
  exact⟨(Xz h).2,fun h2=>by omega⟩
 rw[if_neg h0] at h⊢;have hX:(cdB S.o S.l S.m S.dict X).isSome=true:=(by rcases hX with hX|hX;exact absurd hX h0;exact hX);obtain⟨y,hy⟩:=Option.isSome_iff_exists.1 hX;by_cases h1:x.k=1
 ·rw[if_pos h1] at h⊢
  rw[hy];exact⟨MJ h hy,fun h2=>by omega⟩
 rw[if_neg h1] at h⊢;by_cases h2:x.k=2
 ·rw[if_pos h2] at h⊢
  rw[hy];obtain⟨a,b,c,e⟩:=NV h hy;exact⟨e,fun _=>⟨a,b,c⟩⟩
 ·rw[if_neg h2] at h⊢
  obtain⟨z,hz,e⟩:=OI h;rw[hz];exact⟨e,fun h3=>absurd h3 h2⟩
def apO (S:Sto)(x:OpR):Option Sto:=
 if x.k=4 then(if(xK S.fs x.nm).isSome=true then some { S with fs:=tq S.fs x.nm } else none) else
 (if x.k=0 then mkC S.o S.l S.m S.dict x.d x.s else(xK S.fs x.nm).bind fun i=>chO S x (S.fs[i]?.getD ([],[])).2).bind fun X=>
  if(su S.fs x.nm X).length≤6 then some { S with fs:=su S.fs x.nm X } else none
theorem Qo {S:Sto}{x:OpR}(h:x.k=4):apO S x=if(xK S.fs x.nm).isSome=true then some { S with fs:=tq S.fs x.nm } else none:=by unfold apO;rw[if_pos h]
theorem LC {S:Sto}(hok:S.ok){x:OpR}(h:x.k≠4){i:Nat}(hi:xK S.fs x.nm=some i):∃hl:i<S.fs.length,apO S x=(chO S x S.fs[i].2).map fun X=> { S with fs:=S.fs.set i (x.nm,X) } :=by
 obtain⟨hl,he,hp,hne⟩:=lU hok hi;refine⟨hl,?_⟩;unfold apO;rw[if_neg h];have e:(if x.k=0 then mkC S.o S.l S.m S.dict x.d x.s else(xK S.fs x.nm).bind fun i=>chO S x (S.fs[i]?.getD ([],[])).2)=chO S x S.fs[i].2:=by
  by_cases h0:x.k=0
  ·rw[if_pos h0];unfold chO;rw[if_pos h0]
  ·rw[if_neg h0,hi,Option.bind_some,List.getElem?_eq_getElem hl];rfl
 rw[e]
 cases chO S x S.fs[i].2 with
 |none=>rfl
 |some X=>
  rw[Option.bind_some,Option.map_some,if_pos (by rw[VO hok,hi];simp;exact hok.2.1),ZX hok hi]
theorem QE {S:Sto}{x:OpR}(h:x.k≠4)(hi:xK S.fs x.nm=none):apO S x=if x.k=0∧S.fs.length≠6∧S.fs.length≤6 then(mkC S.o S.l S.m S.dict x.d x.s).map fun X=> { S with fs:=S.fs.take (uK S.fs x.nm)++(x.nm,X)::S.fs.drop (uK S.fs x.nm) } else none:=by
 unfold apO;rw[if_neg h];by_cases h0:x.k=0
 ·rw[if_pos h0]
  have hl:∀X,(su S.fs x.nm X).length=S.fs.length+1:=fun X=>by rw[Zk hi];simp;have:=aH S.fs x.nm;omega
  cases mkC S.o S.l S.m S.dict x.d x.s with
  |none=>rw[Option.bind_none,Option.map_none];split<;>rfl
  |some X=>
   rw[Option.bind_some,hl,Option.map_some,Zk hi];by_cases h6:S.fs.length≠6∧S.fs.length≤6
   ·rw[if_pos (by omega),if_pos ⟨h0,h6⟩]
   ·rw[if_neg (by omega),if_neg (fun h=>h6 h.2)]
 ·rw[if_neg h0,hi,if_neg (fun h=>h0 h.1)];rfl
theorem Sto.Kt {S:Sto}(hok:S.ok){gs:List Fl}(hl:gs.length≤6)(h:∀f ∈ gs,um f.1=true∧(cdB S.o S.l S.m S.dict f.2).isSome=true)(hs:gs.Pairwise fun a b=>ltS a.1 b.1=true):({ S with fs:=gs } :Sto).ok:=by
 refine⟨hok.1,hl,fun i hi=>⟨(h _ (List.getElem_mem hi)).1,(h _ (List.getElem_mem hi)).2,fun h0=> ?_⟩⟩;have hi':i<gs.length:=hi;exact List.pairwise_iff_getElem.1 hs (i - 1) i oo hi' oo
theorem Sto.pw {S:Sto}(hok:S.ok):S.fs.Pairwise fun a b=>ltS a.1 b.1=true:=by
 rw[List.pairwise_iff_getElem];exact fun i j hi hj hij=>Sto.asc hok j i hj hij
theorem Sto.mem {S:Sto}(hok:S.ok):∀f ∈ S.fs,um f.1=true∧(cdB S.o S.l S.m S.dict f.2).isSome=true:=by
 intro f hf;obtain⟨i,hi,rfl⟩:=List.getElem_of_mem hf;exact⟨(hok.2.2 i hi).1,(hok.2.2 i hi).2.1⟩
theorem Le {fs:List Fl}{n X:Bs}(h:fs.Pairwise fun a b=>ltS a.1 b.1=true):(su fs n X).Pairwise fun a b=>ltS a.1 b.1=true:=by
 induction fs with
 |nil=>simp [su]
 |cons f fs ih=>
  have h':=List.pairwise_cons.1 h;unfold su;by_cases hl:ltS f.1 n=true
  ·rw[List.takeWhile_cons_of_pos (p:=fun f:Fl=>ltS f.1 n) hl,List.dropWhile_cons_of_pos (p:=fun f:Fl=>ltS f.1 n) hl,List.cons_append,List.pairwise_cons]
   refine⟨fun g hg=> ?_,ih h'.2⟩;rcases List.mem_append.1 hg with hg|hg
   ·exact h'.1 g (List.takeWhile_subset _ hg)
   ·rcases List.mem_cons.1 hg with rfl|hg
    ·exact hl
    ·exact h'.1 g (List.dropWhile_subset _ (List.mem_filter.1 hg).1)
  ·rw[List.takeWhile_cons_of_neg (p:=fun f:Fl=>ltS f.1 n) hl,List.dropWhile_cons_of_neg (p:=fun f:Fl=>ltS f.1 n) hl,List.nil_append,List.pairwise_cons]
   refine⟨fun g hg=> ?_,List.Pairwise.sublist List.filter_sublist h⟩;have hm:=List.mem_filter.1 hg;have hne:g.1≠n:=(by simpa using hm.2);have hlt:f=g∨ltS f.1 g.1=true:=by
    rcases List.mem_cons.1 hm.1 with rfl|h3
    ·exact .inl rfl
    ·exact .inr (h'.1 g h3)
   have hfn:n=f.1∨ltS n f.1=true:=by
    cases h4:ltS n f.1 with
    |true=>exact .inr rfl
    |false=>exact .inl (kY _ _ h4 (by simpa using hl))
   rcases hlt with rfl|hlt
   ·rcases hfn with h5|h5
    ·exact absurd h5.symm hne
    ·exact h5
   ·rcases hfn with h5|h5
    ·show ltS n g.1=true;rw[h5];exact hlt
    ·exact ng _ _ _ h5 hlt
theorem MB {α:Type}{p:α→Bool}{x:α} :∀ {l:List α},x ∈ l.takeWhile p→p x=true
 |[],h=>by cases h
 |a::l,h=>by
  by_cases ha:p a=true
  ·rw[List.takeWhile_cons_of_pos ha] at h
   rcases List.mem_cons.1 h with rfl|h2
   ·exact ha
   ·exact MB h2
  ·rw[List.takeWhile_cons_of_neg ha] at h;cases h
theorem UI {fs:List Fl}{n X:Bs}{f:Fl}(h:f ∈ su fs n X):f=(n,X)∨(f ∈ fs∧f.1≠n):=by
 unfold su at h;rcases List.mem_append.1 h with h|h
 ·refine .inr ⟨List.takeWhile_subset _ h,?_⟩
  exact ku (MB (p:=fun f:Fl=>ltS f.1 n) h)
 ·rcases List.mem_cons.1 h with h|h
  ·exact .inl h
  ·have:=List.mem_filter.1 h
   exact .inr ⟨List.dropWhile_subset _ this.1,by simpa using this.2⟩
theorem NU {fs:List Fl}{n X:Bs}{f:Fl}(h:f ∈ fs)(hn:f.1≠n):f ∈ su fs n X:=by
 unfold su;rw[←List.takeWhile_append_dropWhile (p:=fun f:Fl=>ltS f.1 n) (l:=fs)] at h;rcases List.mem_append.1 h with h|h
 ·exact List.mem_append.2 (.inl h)
 ·exact List.mem_append.2 (.inr (List.mem_cons.2 (.inr (List.mem_filter.2 ⟨h,by simpa using hn⟩))))
structure ApF (S : Sto) (x : OpR) (T : Sto) : Prop where
 o : T.o = S.o
 l : T.l = S.l
 m : T.m = S.m
 dict : T.dict = S.dict
 ok : T.ok
 kind : x.k = 4 ∧ (∃ i, xK S.fs x.nm = some i) ∧ T.fs = tq S.fs x.nm ∨ x.k ≠ 4 ∧ ∃ X, T.fs = su S.fs x.nm X ∧ (x.k = 0 ∧ mkC S.o S.l S.m S.dict x.d x.s = some X ∨ ∃ (i : Nat) (h : i < S.fs.length), xK S.fs x.nm = some i ∧ chO S x S.fs[i].2 = some X)
theorem Yf {S T:Sto}{x:OpR}(hok:S.ok)(hx:x.ok)(h:apO S x=some T):ApF S x T:=by
 have hnm:um x.nm=true:=hx.1;unfold apO at h;by_cases h4:x.k=4
 ·rw[if_pos h4] at h
  split at h
  ·rename_i hi
   injection h with h
   subst h;obtain⟨i,hi⟩:=Option.isSome_iff_exists.1 hi;refine⟨rfl,rfl,rfl,rfl,Sto.Kt hok ?_ (fun f hf=>Sto.mem hok f (List.mem_filter.1 hf).1) (List.Pairwise.sublist List.filter_sublist (Sto.pw hok)),.inl ⟨h4,⟨i,hi⟩,rfl⟩⟩;have:=List.length_filter_le (fun f:Fl=>decide (f.1≠x.nm)) S.fs;have:=hok.2.1;unfold tq;omega
  ·cases h
 ·rw[if_neg h4] at h
  obtain⟨X,hX,h⟩:=xe h;split at h
  ·rename_i h6
   injection h with h
   subst h;have key:(cdB S.o S.l S.m S.dict X).isSome=true∧(x.k=0∧mkC S.o S.l S.m S.dict x.d x.s=some X∨∃(i:Nat) (h:i<S.fs.length),xK S.fs x.nm=some i∧chO S x S.fs[i].2=some X):=by
    split at hX
    ·rename_i h0
     rw[(Xz hX).2];exact⟨rfl,.inl ⟨h0,hX⟩⟩
    ·rename_i h0
     obtain⟨i,hi,hX⟩:=xe hX;have hl:=aG hi;rw[List.getElem?_eq_getElem hl] at hX;simp only[Option.getD_some] at hX;have hc:=(NL hX (.inr (Sto.mem hok _ (List.getElem_mem hl)).2)).1;rw[hc];exact⟨rfl,.inr ⟨i,hl,hi,hX⟩⟩
   refine⟨rfl,rfl,rfl,rfl,Sto.Kt hok h6 (fun f hf=> ?_) (Le (Sto.pw hok)),.inr ⟨h4,X,rfl,key.2⟩⟩;rcases UI hf with rfl|⟨hf,_⟩
   ·exact⟨hnm,key.1⟩
   ·exact Sto.mem hok f hf
  ·cases h
theorem ApF.others {S T:Sto}{x:OpR}(hok:S.ok)(h:ApF S x T){n X:Bs}(hn:n≠x.nm):(n,X) ∈ T.fs↔(n,X) ∈ S.fs:=by
 rcases h.kind with⟨_,_,e⟩|⟨_,Y,e,_⟩
 ·rw[e];unfold tq;rw[List.mem_filter];simp [hn]
 ·rw[e]
  constructor
  ·intro h2
   rcases UI h2 with h3|h3
   ·injection h3 with h3;exact absurd h3 hn
   ·exact h3.1
  ·exact fun h2=>NU h2 hn
theorem rU (gs hs:List Fl):yf (gs++hs)=yf gs++yf hs:=by unfold yf;rw[List.flatMap_append]
theorem XQ (fs:List Fl)(p:Nat)(hp:p≤fs.length):(yf fs).take (p*2)=yf (fs.take p):=by
 conv=>lhs;rw[←List.take_append_drop p fs,rU]
 rw[List.take_append_of_le_length (by rw[vH,List.length_take];omega),List.take_of_length_le (by rw[vH,List.length_take];omega)]
theorem Xo (fs:List Fl)(p:Nat)(hp:p≤fs.length):(yf fs).drop (p*2)=yf (fs.drop p):=by
 conv=>lhs;rw[←List.take_append_drop p fs,rU]
 rw[List.drop_append_of_le_length (by rw[vH,List.length_take];omega),List.drop_of_length_le (by rw[vH,List.length_take];omega),List.nil_append]
theorem Yt (fs:List Fl):∀u ∈ yf fs,u.oneCell'=true:=by
 intro u hu;unfold yf at hu;obtain⟨b,_,hb⟩:=List.mem_flatMap.1 hu;simp only[flL,List.mem_cons,List.not_mem_nil,or_false] at hb;rcases hb with rfl|rfl<;>rfl
theorem OT (fs:List Fl)(p:Nat)(hp:p<fs.length)(Y:Bs):(yf fs).set (p*2+1) (.string ⟨Y.toArray⟩)=yf (fs.set p (fs[p].1,Y)):=by
 have e:fs=fs.take p++(fs[p]::fs.drop (p+1)):=(by rw[List.getElem_cons_drop,List.take_append_drop]);have e2:fs.set p (fs[p].1,Y)=fs.take p++((fs[p].1,Y)::fs.drop (p+1)):=(by rw[List.set_eq_take_append_cons_drop,if_pos hp]);rw[e2]
 conv=>lhs;rw[e]
 rw[rU,rU,List.set_append_right _ _ (by rw[vH,List.length_take];omega),vH,List.length_take,Nat.min_eq_left (by omega),show p*2+1 - p*2=1 by omega];rfl
theorem MF (fs:List Fl)(p:Nat)(hp:p≤fs.length)(n Y:Bs):(yf fs).take (p*2)++[.string ⟨n.toArray⟩,.string ⟨Y.toArray⟩]++(yf fs).drop (p*2)=yf (fs.take p++(n,Y)::fs.drop p):=by
 rw[XQ fs p hp,Xo fs p hp,rU,List.append_assoc];rfl
theorem NP (fs:List Fl)(p:Nat)(hp:p<fs.length):(yf fs).take (p*2)++(yf fs).drop ((p+1)*2)=yf (fs.take p++fs.drop (p+1)):=by
 rw[XQ fs p (by omega),Xo fs (p+1) (by omega),rU]
def Sr (S:Sto)(x:OpR)(gs:List Fl)(p:Nat):Prop:=∃h:p<gs.length,gs.length≤6∧gs[p].1=x.nm∧gs[p].2.length≤3000∧apO S x=(if x.k=4 then some { S with fs:=gs.take p++gs.drop (p+1) } else(chO S x gs[p].2).map fun Y=> { S with fs:=gs.set p (x.nm,Y) })
theorem U7 {o l m:Int}{dict t:Bs}(h:(cdB o l m dict t).isSome=true):t.length≤2960:=by
 unfold cdB at h;split at h
 ·cases hb:zT t with
  |none=>rw[hb] at h;cases h
  |some bs=>exact(xN hb).1
 ·cases h
theorem Oj {S:Sto}{x:OpR}{i:Nat}(hok:S.ok)(hi:xK S.fs x.nm=some i):Sr S x S.fs i:=by
 obtain⟨hl,he,hp,hne⟩:=lU hok hi;refine⟨hl,hok.2.1,he,by have:=U7 (hok.2.2 i hl).2.1;omega,?_⟩;by_cases h4:x.k=4
 ·rw[if_pos h4,Qo h4,hi,if_pos (show(some i).isSome=true from rfl),S9 hok hi]
 ·rw[if_neg h4]
  exact(LC hok h4 hi).2
theorem La {S:Sto}{x:OpR}(hok:S.ok)(hi:xK S.fs x.nm=none)(hk:x.k=0)(h6:S.fs.length≠6):Sr S x (S.fs.take (uK S.fs x.nm)++(x.nm,[])::S.fs.drop (uK S.fs x.nm)) (uK S.fs x.nm):=by
 have hp:=aH S.fs x.nm;have h6':=hok.2.1;have htl:(S.fs.take (uK S.fs x.nm)).length=uK S.fs x.nm:=(by rw[List.length_take];omega);have hge:∀h,(S.fs.take (uK S.fs x.nm)++(x.nm,([]:Bs))::S.fs.drop (uK S.fs x.nm))[uK S.fs x.nm]'h=(x.nm,[]):=fun h=>by
  rw[List.getElem_append_right (by omega)];simp [htl]
 refine⟨by simp;omega,by simp;omega,by rw[hge],by rw[hge];simp,?_⟩;rw[if_neg (by omega),QE (by omega) hi,if_pos ⟨hk,h6,h6'⟩,hge];have hc:chO S x []=mkC S.o S.l S.m S.dict x.d x.s:=(by unfold chO;rw[if_pos hk]);rw[hc]
 cases mkC S.o S.l S.m S.dict x.d x.s with
 |none=>rfl
 |some X=>
  rw[Option.map_some,Option.map_some,List.set_append_right _ _ (by omega),htl,Nat.sub_self,List.set_cons_zero]
theorem KC {S:Sto}{x:OpR}(hi:xK S.fs x.nm=none)(h:x.k≠0∨S.fs.length=6):apO S x=none:=by
 by_cases h4:x.k=4
 ·rw[Qo h4,hi];rfl
 ·rw[QE h4 hi,if_neg]
  rintro⟨h1,h2,_⟩;rcases h with h|h
  ·exact h h1
  ·exact h2 h
end Go.Proofs.YtfppmajoidkooaaGreatDoor
