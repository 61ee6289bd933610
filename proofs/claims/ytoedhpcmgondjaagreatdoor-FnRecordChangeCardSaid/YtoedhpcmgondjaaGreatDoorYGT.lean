import Derived.Test.YtoedhpcmgondjaaGreatDoorYGS1
set_option linter.all false
namespace Go.Proofs.YtoedhpcmgondjaaGreatDoor
structure Nd where
 par : Int
 last : UInt8
 first : UInt8
 code : Int
structure Tr where
 nds : List Nd
 prs : List Nat
def Tr.xG (T:Tr)(cl c:Int):Nat:=if cl+1<c then T.prs.getD (c - cl - 2).toNat 0 else c.toNat
def PX (a:Nat)(b:UInt8)(d:Nd):Bool:=decide (d.par=(a:Int))&&d.last==b
def Tr.kid (T:Tr)(a:Nat)(b:UInt8):Option Nat:=T.nds.findIdx? (PX a b)
def Tr.learn (cl:Int)(T:Tr)(p:Pr):Tr:=
 match T.kid (T.xG cl p.1) (UInt8.ofNat p.2.toNat) with
 |some n=>⟨T.nds,T.prs++[n]⟩
 |none=>⟨T.nds++[⟨T.xG cl p.1,UInt8.ofNat p.2.toNat,(T.nds[T.xG cl p.1]?.getD ⟨0,0,0,0⟩).first,cl+2+T.prs.length⟩],T.prs++[T.nds.length]⟩
def Tr.lits (cl:Int):Tr:=⟨(List.range cl.toNat).map fun b=>⟨-1,UInt8.ofNat b,UInt8.ofNat b,b⟩,[]⟩
def qF (cl:Int)(ps:List Pr):Tr:=ps.foldl (Tr.learn cl) (Tr.lits cl)
theorem qV (cl:Int)(ps:List Pr)(p:Pr):qF cl (ps++[p])=(qF cl ps).learn cl p:=by unfold qF;rw[List.foldl_append];rfl
def wF (c:List Nd):List Bs:=c.foldl (fun a d=>a++[if d.par<0 then[d.last] else a.getD d.par.toNat []++[d.last]]) []
theorem oz (a:List Nd)(d:Nd):wF (a++[d])=wF a++[if d.par<0 then[d.last] else(wF a).getD d.par.toNat []++[d.last]]:=by unfold wF;rw[List.foldl_append];rfl
theorem tH (a:List Nd):(wF a).length=a.length:=by
 induction a using xx with
 |h0=>rfl
 |h1 a d c=>rw[oz,List.length_append,c,List.length_append];rfl
structure rJ (cl : Int) (ps : List Pr) (T : Tr) : Prop where
 lits : cl.toNat ≤ T.nds.length
 lit : ∀ i (h : i < cl.toNat), ∃ d, T.nds[i]? = some d ∧ d.par = -1 ∧ d.last = UInt8.ofNat i ∧ d.code = (i : Int)
 len : T.prs.length = ps.length
 pr : ∀ j (h : j < T.prs.length), T.prs[j] < T.nds.length
 prw : ∀ j (h : j < T.prs.length), (wF T.nds)[T.prs[j]]? = (words cl ps)[j]?
 up : ∀ i (h : i < T.nds.length), T.nds[i].par < (i : Int) ∧ (cl.toNat ≤ i → 0 ≤ T.nds[i].par)
 uniq : ∀ i j (hi : i < T.nds.length) (hj : j < T.nds.length), T.nds[i].par = T.nds[j].par → T.nds[i].last = T.nds[j].last → i = j
 first : ∀ i (h : i < T.nds.length), ∃ w, (wF T.nds)[i]? = some w ∧ w ≠ [] ∧ (T.nds[i].first.toNat : Int) = wV w
 code : ∀ i (h : i < T.nds.length), cl.toNat ≤ i → ∃ (j : Nat) (hj : j < T.prs.length), T.nds[i].code = cl + 2 + (j : Int) ∧ T.prs[j] = i ∧ ∀ j' (h' : j' < j), T.prs[j']'oo ≠ i
theorem QH (a b:List Nd):∃c,wF (a++b)=wF a++c:=by
 induction b using xx with
 |h0=>exact⟨[],by simp⟩
 |h1 b d e=>
  obtain⟨c,h⟩:=e;rw[←List.append_assoc,oz,h,List.append_assoc];exact⟨_,rfl⟩
theorem ZM {a:List Nd}(d:∀i (h:i<a.length),a[i].par<(i:Int))(i:Nat)(f:i<a.length):
 (wF a)[i]? =some (if a[i].par<0 then[a[i].last] else(wF a).getD a[i].par.toNat []++[a[i].last]):=by
 have e:a=a.take i++(a[i]::a.drop (i+1)):=(by rw[List.getElem_cons_drop,List.take_append_drop]);have g:a=(a.take i++[a[i]])++a.drop (i+1):=(by rw[List.append_assoc];exact e);obtain⟨r,c⟩:=QH (a.take i++[a[i]]) (a.drop (i+1));rw[←g,oz] at c;have m:(wF (a.take i)).length=i:=(by rw[tH];simp;omega);have o:∀k,k<i→(wF a).getD k []=(wF (a.take i)).getD k []:=fun k hk=>by
  simp only[List.getD_eq_getElem?_getD];rw[c,List.append_assoc,List.getElem?_append_left (by omega)]
 have s:=d i f;have q:(if a[i].par<0 then[a[i].last] else(wF a).getD a[i].par.toNat []++[a[i].last])=(if a[i].par<0 then[a[i].last] else(wF (a.take i)).getD a[i].par.toNat []++[a[i].last]):=by
  by_cases h0:a[i].par<0
  ·rw[if_pos h0,if_pos h0]
  ·rw[if_neg h0,if_neg h0,o _ (by omega)]
 rw[q,c,List.append_assoc,List.getElem?_append_right (by omega),m,Nat.sub_self];rfl
theorem rJ.w {cl:Int}{ps:List Pr}{T:Tr}(h:rJ cl ps T)(i:Nat)(a:i<T.nds.length):
 (wF T.nds)[i]? =some (if T.nds[i].par<0 then[T.nds[i].last] else(wF T.nds).getD T.nds[i].par.toNat []++[T.nds[i].last]):=
 ZM (fun i c=>(h.up i c).1) i a
theorem NJ {cl:Int}(h0:0≤cl)(h1:cl≤256):rJ cl [] (Tr.lits cl):=by
 have f:(Tr.lits cl).nds.length=cl.toNat:=(by simp [Tr.lits]);have c:∀i (h:i<(Tr.lits cl).nds.length),(Tr.lits cl).nds[i]=⟨-1,UInt8.ofNat i,UInt8.ofNat i,i⟩:=fun i h=>(by simp [Tr.lits]);have e:∀i (h:i<(Tr.lits cl).nds.length),(Tr.lits cl).nds[i].par<(i:Int):=fun i h=>(by rw[c i h];show(-1:Int)<i;omega);refine⟨by omega,fun i a=>⟨⟨-1,UInt8.ofNat i,UInt8.ofNat i,i⟩,?_,rfl,rfl,rfl⟩,rfl,fun j d=>by simp [Tr.lits] at d,fun j d=>by simp [Tr.lits] at d,fun i a=>⟨e i a,fun h=>by omega⟩,fun i j a d _ h2=> ?_,fun i a=> ?_,fun i a h=>by omega⟩
 ·rw[List.getElem?_eq_getElem (by omega),c i (by omega)]
 ·rw[c i a,c j d] at h2
  have:=congrArg UInt8.toNat h2;simp only[UInt8.toNat_ofNat'] at this;omega
 ·refine⟨_,ZM e i a,?_,?_⟩
  ·rw[c i a];simp
  ·rw[c i a];simp [wV]
theorem rJ.node {cl:Int}{ps:List Pr}{T:Tr}(h:rJ cl ps T){c:Int}(i:codeOk cl ps.length c):
 T.xG cl c<T.nds.length∧(wF T.nds)[T.xG cl c]? =some (wAt cl (words cl ps) c):=by
 have q:=h.len;unfold Tr.xG;rcases i with⟨h0,h1⟩|⟨h0,h1⟩
 ·rw[if_neg (by omega)]
  have r:=h.lits;obtain⟨d,a,k,m,s⟩:=h.lit c.toNat oo;have f:c.toNat<T.nds.length:=oo;rw[List.getElem?_eq_getElem f] at a;injection a with a
  refine⟨f,?_⟩;rw[h.w _ f,a,k,if_pos (by omega),m,jG _ _ _ h1]
 ·rw[if_pos h0]
  have g:(c - cl - 2).toNat<T.prs.length:=oo;have e:T.prs.getD (c - cl - 2).toNat 0=T.prs[(c - cl - 2).toNat]:=(by rw[List.getD_eq_getElem?_getD,List.getElem?_eq_getElem g];rfl);rw[e];refine⟨h.pr _ g,?_⟩;rw[h.prw _ g];have o:(c - cl - 2).toNat<(words cl ps).length:=(by rw[wo];omega);unfold wAt;rw[if_neg (by omega),List.getD_eq_getElem?_getD,List.getElem?_eq_getElem o];rfl
theorem dO {T:Tr}{a n:Nat}{b:UInt8}(h:T.kid a b=some n):∃c:n<T.nds.length,T.nds[n].par=(a:Int)∧T.nds[n].last=b:=by
 unfold Tr.kid at h;rw[List.findIdx?_eq_some_iff_getElem] at h;obtain⟨c,h1,_⟩:=h;unfold PX at h1;simp at h1;exact⟨c,h1.1,h1.2⟩
theorem Yb {T:Tr}{a:Nat}{b:UInt8}(h:T.kid a b=none)(n:Nat)(c:n<T.nds.length):¬(T.nds[n].par=(a:Int)∧T.nds[n].last=b):=by
 unfold Tr.kid at h;rw[List.findIdx?_eq_none_iff] at h;have:=h T.nds[n] (List.getElem_mem c);unfold PX at this;simp at this;intro ⟨h1,h2⟩;exact this h1 h2
theorem WO {w:Bs}(x:Bs)(h:w≠[]):wV (w++x)=wV w:=by
 cases w with
 |nil=>exact absurd rfl h
 |cons a r=>rfl
theorem rJ.learn {cl:Int}{ps:List Pr}{T:Tr}{p:Pr}(h:rJ cl ps T)(L:codeOk cl ps.length p.1):rJ cl (ps++[p]) (T.learn cl p):=by
 obtain⟨C,u⟩:=h.node L;have r:=h.len;have v:=lC cl ps p;have E:=wo cl ps;generalize M:T.xG cl p.1=P at*;generalize N:UInt8.ofNat p.2.toNat=B at*;generalize hW:wAt cl (words cl ps) p.1=W at*;have G:∀(x:List Nd),(∃H,wF x=wF T.nds++H)→∀j (a:j<T.prs.length),(wF x)[T.prs[j]]? =(words cl (ps++[p]))[j]? :=fun x ⟨H,O⟩ j a=>by
  have h1:=h.pr j a;rw[O,List.getElem?_append_left (by rw[tH];exact h1),h.prw j a,v,List.getElem?_append_left (by omega)]
 unfold Tr.learn;rw[M,N]
 cases hk:T.kid P B with
 |some n=>
  obtain⟨I,R,U⟩:=dO hk;have V:(wF T.nds)[n]? =some (W++[B]):=by
   rw[h.w n I,R,if_neg (by omega),U,List.getD_eq_getElem?_getD,Int.toNat_natCast,u];rfl
  refine⟨h.lits,h.lit,by simp [r],fun j a=> ?_,fun j a=> ?_,h.up,h.uniq,h.first,fun i f y=> ?_⟩
  ·by_cases c:j<T.prs.length
   ·simp only[List.getElem_append_left c];exact h.pr j c
   ·have:j=T.prs.length:=by simp at a;omega
    subst this;simpa using I
  ·by_cases c:j<T.prs.length
   ·simp only[List.getElem_append_left c];exact G T.nds ⟨[],by simp⟩ j c
   ·have:j=T.prs.length:=by simp at a;omega
    subst this;simp only[List.getElem_concat_length];rw[V,v,List.getElem?_append_right (by omega),E,r];simp
  ·obtain⟨j,a,h1,h2,g⟩:=h.code i f y
   refine⟨j,by simp;omega,h1,by simp only[List.getElem_append_left a];exact h2,fun k m=> ?_⟩;simp only[List.getElem_append_left (show k<T.prs.length by omega)];exact g k m
 |none=>
  have J:=Yb hk;generalize X:(T.nds[P]?.getD ⟨0,0,0,0⟩).first=F
  generalize s:(⟨(P:Int),B,F,cl+2+(T.prs.length:Int)⟩:Nd)=D;have t:D.par=(P:Int):=(by rw[←s]);have z:D.last=B:=(by rw[←s]);have Y:D.first=F:=(by rw[←s]);have Z:D.code=cl+2+(T.prs.length:Int):=(by rw[←s]);have A:=oz T.nds D;have K:(wF (T.nds++[D]))[T.nds.length]? =some (W++[B]):=by
   rw[A,List.getElem?_append_right (by rw[tH];exact Nat.le_refl _),tH,t,if_neg (by omega),z,List.getD_eq_getElem?_getD,Int.toNat_natCast,u];simp
  have a3:=h.lits;refine⟨by simp;omega,fun i f=> ?_,by simp [r],fun j a=> ?_,fun j a=> ?_,fun i f=> ?_,fun i j f a o q=> ?_,fun i f=> ?_,fun i f y=> ?_⟩
  ·obtain⟨d,hd,a1⟩:=h.lit i f
   exact⟨d,by rw[List.getElem?_append_left (by omega)];exact hd,a1⟩
  ·by_cases c:j<T.prs.length
   ·have:=h.pr j c
    simp only[List.getElem_append_left c,List.length_append];omega
   ·have:j=T.prs.length:=by simp at a;omega
    subst this;simp
  ·by_cases c:j<T.prs.length
   ·simp only[List.getElem_append_left c];exact G _ ⟨_,A⟩ j c
   ·have:j=T.prs.length:=by simp at a;omega
    subst this;simp only[List.getElem_concat_length];rw[K,v,List.getElem?_append_right (by omega),E,r];simp
  ·by_cases e:i<T.nds.length
   ·simp only[List.getElem_append_left e];exact h.up i e
   ·have:i=T.nds.length:=by simp at f;omega
    subst this;simp only[List.getElem_concat_length,t];omega
  ·by_cases e:i<T.nds.length<;>by_cases c:j<T.nds.length
   ·simp only[List.getElem_append_left e,List.getElem_append_left c] at o q
    exact h.uniq i j e c o q
   ·have:j=T.nds.length:=by simp at a;omega
    subst this;simp only[List.getElem_append_left e,List.getElem_concat_length,t,z] at o q;exact absurd ⟨o,q⟩ (J i e)
   ·have:i=T.nds.length:=by simp at f;omega
    subst this;simp only[List.getElem_append_left c,List.getElem_concat_length,t,z] at o q;exact absurd ⟨o.symm,q.symm⟩ (J j c)
   ·simp at f a;omega
  ·by_cases e:i<T.nds.length
   ·obtain⟨w,h1,h2,g⟩:=h.first i e
    refine⟨w,by rw[A,List.getElem?_append_left (by rw[tH];exact e)];exact h1,h2,?_⟩;simp only[List.getElem_append_left e];exact g
   ·have:i=T.nds.length:=by simp at f;omega
    subst this;obtain⟨w,h1,h2,g⟩:=h.first P C;rw[u] at h1;injection h1 with h1
    subst h1;refine⟨_,K,by simp,?_⟩;simp only[List.getElem_concat_length,Y];rw[WO _ h2,←g,←X,List.getElem?_eq_getElem C];rfl
  ·by_cases e:i<T.nds.length
   ·obtain⟨j,a,h1,h2,g⟩:=h.code i e y
    refine⟨j,by simp;omega,by simp only[List.getElem_append_left e];exact h1,by simp only[List.getElem_append_left a];exact h2,fun k m=> ?_⟩;simp only[List.getElem_append_left (show k<T.prs.length by omega)];exact g k m
   ·have:i=T.nds.length:=by simp at f;omega
    subst this;refine⟨T.prs.length,by simp,by simp only[List.getElem_concat_length,Z],by simp,fun k m=> ?_⟩;simp only[List.getElem_append_left m];have:=h.pr k m;omega
theorem Pj {cl:Int}(h0:0≤cl)(h1:cl≤256){ps:List Pr}(a:YR cl ps):rJ cl ps (qF cl ps):=by
 induction ps using xx with
 |h0=>exact NJ h0 h1
 |h1 ps p c=>
  rw[qV];have h2:=a ps.length (by simp);simp at h2;have d:=c (by have:=jq a ps.length;rwa [List.take_left' rfl] at this);exact d.learn h2.1
section
variable {cl : Int} {ps : List Pr} {T : Tr}
def Tr.word (T:Tr)(i:Nat):Bs:=(wF T.nds).getD i []
theorem rJ.qc (h:rJ cl ps T)(i:Nat)(a:i<T.nds.length):T.word i=if T.nds[i].par<0 then[T.nds[i].last] else T.word T.nds[i].par.toNat++[T.nds[i].last]:=by
 unfold Tr.word;rw[List.getD_eq_getElem?_getD,h.w i a];rfl
theorem rJ.jC (h:rJ cl ps T)(i:Nat)(a:i<T.nds.length):T.word i≠[]:=by
 rw[h.qc i a];split<;>simp
theorem rJ.distinct (h:rJ cl ps T):∀(n i j:Nat),i<n→(c:i<T.nds.length)→(f:j<T.nds.length)→T.word i=T.word j→i=j:=by
 intro n
 induction n with
 |zero=>intro i j h0;omega
 |succ n r=>
  intro i j y c f a;rw[h.qc i c,h.qc j f] at a;have s:=h.up i c;have t:=h.up j f;by_cases h1:T.nds[i].par<0<;>by_cases h2:T.nds[j].par<0
  ·rw[if_pos h1,if_pos h2] at a
   have z:¬cl.toNat≤i:=fun m=>(by have:=s.2 m;omega);have A:¬cl.toNat≤j:=fun m=>(by have:=t.2 m;omega);obtain⟨d,g,u,B,_⟩:=h.lit i oo;obtain⟨e,k,v,C,_⟩:=h.lit j oo;rw[List.getElem?_eq_getElem c] at g;rw[List.getElem?_eq_getElem f] at k;injection g with g
   injection k with k
   injection a with a
   exact h.uniq i j c f (by rw[g,k,u,v]) a
  ·rw[if_pos h1,if_neg h2] at a
   have o:=congrArg List.length a;have w:=List.length_pos_iff.2 (h.jC T.nds[j].par.toNat oo);rw[List.length_append,List.length_singleton,List.length_singleton] at o;omega
  ·rw[if_neg h1,if_pos h2] at a
   have o:=congrArg List.length a;have w:=List.length_pos_iff.2 (h.jC T.nds[i].par.toNat oo);rw[List.length_append,List.length_singleton,List.length_singleton] at o;omega
  ·rw[if_neg h1,if_neg h2] at a
   obtain⟨x,q⟩:=List.append_inj' a rfl;have D:=r T.nds[i].par.toNat T.nds[j].par.toNat oo oo oo x;injection q with q
   exact h.uniq i j c f oo q
theorem rJ.inj (h:rJ cl ps T){i j:Nat}(a:i<T.nds.length)(c:j<T.nds.length)(d:T.word i=T.word j):i=j:=h.distinct (i+1) i j oo a c d
theorem rJ.closed (h:rJ cl ps T):∀(n i t:Nat),i<n→(c:i<T.nds.length)→1≤t→t≤(T.word i).length→∃j,j<T.nds.length∧T.word j=(T.word i).take t:=by
 intro n
 induction n with
 |zero=>intro i t h0;omega
 |succ n g=>
  intro i t m c h1 h2;by_cases d:t=(T.word i).length
  ·exact⟨i,c,by rw[d,List.take_length]⟩
  ·have a:=h.qc i c
   have o:=h.up i c;by_cases f:T.nds[i].par<0
   ·rw[if_pos f] at a
    rw[a] at h2 d;simp at h2 d;omega
   ·rw[if_neg f] at a
    have q:(T.word i).length=(T.word T.nds[i].par.toNat).length+1:=(by rw[a];simp);obtain⟨j,k,e⟩:=g T.nds[i].par.toNat t oo oo h1 oo;refine⟨j,k,?_⟩;rw[e,a,List.take_append_of_le_length (by omega)]
end
def Tr.desc (T:Tr):Nat→Bs→Nat×Nat
 |n,[]=>(n,0)
 |n,b::r=>match T.kid n b with
  |some m=>((T.desc m r).1,(T.desc m r).2+1)
  |none=>(n,0)
section
variable {cl : Int} {ps : List Pr} {T : Tr}
theorem rJ.NW (h:rJ cl ps T){n m:Nat}{b:UInt8}(hk:T.kid n b=some m):m<T.nds.length∧T.word m=T.word n++[b]:=by
 obtain⟨a,h1,h2⟩:=dO hk;refine⟨a,?_⟩;rw[h.qc m a,h1,if_neg (by omega),h2,Int.toNat_natCast]
theorem rJ.Vw (h:rJ cl ps T):∀(rest:Bs) (n:Nat),n<T.nds.length→
 (T.desc n rest).1<T.nds.length∧(T.desc n rest).2≤rest.length∧T.word (T.desc n rest).1=T.word n++rest.take (T.desc n rest).2∧(∀b,rest[(T.desc n rest).2]? =some b→T.kid (T.desc n rest).1 b=none)
 |[],n,a=>by simp [Tr.desc,a]
 |b::r,n,a=>by
  unfold Tr.desc
  cases hk:T.kid n b with
  |none=>simp [a,hk]
  |some m=>
   obtain⟨d,e⟩:=h.NW hk;obtain⟨h1,h2,f,g⟩:=rJ.Vw h r m d;refine⟨h1,by simp;omega,?_,fun c i=>g c (by simpa using i)⟩;simp only;rw[f,e,List.take_succ_cons,List.append_assoc];rfl
theorem rJ.LQ (h:rJ cl ps T)(rest:Bs)(n:Nat)(o:n<T.nds.length)(i:Nat)(q:i<T.nds.length)(f:T.word i=(T.word n++rest).take (T.word i).length):
 (T.word i).length≤(T.word (T.desc n rest).1).length:=by
 obtain⟨h1,h2,g,r⟩:=h.Vw rest n o;generalize T.desc n rest=x at*;rcases Nat.lt_or_ge (T.word x.1).length (T.word i).length with A|s
 ·exfalso
  have B:=List.length_pos_iff.2 (h.jC x.1 h1);have k:(T.word x.1).length=(T.word n).length+x.2:=(by rw[g,List.length_append,List.length_take];omega);obtain⟨j,c,d⟩:=h.closed (i+1) i ((T.word x.1).length+1) oo q oo oo;have t:(T.word i).length≤(T.word n++rest).length:=by
   have:=congrArg List.length f;rw[List.length_take] at this;omega
  have u:x.2<rest.length:=(by rw[List.length_append] at t;omega);have v:(T.word n++rest).take (T.word x.1).length=T.word x.1:=by
   rw[k,List.take_length_add_append,←g]
  have w:(T.word i).take ((T.word x.1).length+1)=T.word x.1++[rest[x.2]]:=by
   rw[f,List.take_take,Nat.min_eq_left (by omega),List.take_succ_eq_append_getElem (by rw[List.length_append];omega),v,List.getElem_append_right (by omega)];simp only[k,Nat.add_sub_cancel_left]
  rw[w] at d;have a:=h.qc j c;have C:=h.up j c;by_cases m:T.nds[j].par<0
  ·rw[if_pos m,d] at a
   have y:=congrArg List.length a;rw[List.length_append,List.length_singleton,List.length_singleton] at y;omega
  ·rw[if_neg m,d] at a
   obtain⟨z,e⟩:=List.append_inj' a rfl;have D:=h.inj h1 oo z;injection e with e
   have hk:=r rest[x.2] (List.getElem?_eq_getElem u);exact Yb hk j c ⟨by omega,e.symm⟩
 ·exact s
end
theorem RH (data:Bs)(a:List Bs)(b:Bs):b.length≤(a.foldl (better data) b).length∧∀w ∈ a,w.isPrefixOf data=true→w.length≤(a.foldl (better data) b).length:=by
 induction a using xx with
 |h0=>simp
 |h1 a x e=>
  rw[List.foldl_append];simp only[List.foldl_cons,List.foldl_nil];obtain⟨h1,h2⟩:=e;generalize a.foldl (better data) b=r at*;have g:r.length≤(better data r x).length:=(by unfold better;split<;>omega);refine⟨by omega,fun w c d=> ?_⟩;rcases List.mem_append.1 c with c|c
  ·have:=h2 w c d;omega
  ·simp at c
   subst c;unfold better;split
   ·exact Nat.le_refl _
   ·next f=>
    rcases Nat.lt_or_ge r.length w.length with h|h
    ·exact absurd ⟨h,d⟩ f
    ·exact h
theorem Kn.aS (K:Kn)(data:Bs):∀w ∈ K.yP,w.isPrefixOf data=true→w.length≤(K.longest data).length:=(RH data K.yP (data.take 1)).2
def Kn.tr (K:Kn):Tr:=qF K.cl K.ps
theorem Kn.ok.fV {K:Kn}(h:K.ok):rJ K.cl K.ps K.tr:=Pj (by have:=h.bd;omega) (by have:=h.bd;omega) h.pairs
theorem Kn.uS {K:Kn}(h:K.ok){c:Int}(a:codeOk K.cl K.ps.length c):K.tr.xG K.cl c<K.tr.nds.length∧K.tr.word (K.tr.xG K.cl c)=K.word c:=by
 obtain⟨h1,h2⟩:=h.fV.node a;refine⟨h1,?_⟩;unfold Tr.word;rw[List.getD_eq_getElem?_getD,h2];rfl
theorem Kn.jr {K:Kn}(h:K.ok)(i:Nat)(d:i<K.yP.length):(K.cl+2+(i:Int)=K.nx∧K.gr=true∧K.yP[i]=K.any K.nx)∨(codeOk K.cl K.ps.length (K.cl+2+(i:Int))∧K.yP[i]=K.word (K.cl+2+(i:Int))):=by
 have e:K.yP[i]=K.any (K.cl+2+(i:Int)):=(by simp [Kn.yP]);have a:=K.jw i d;unfold Kn.fol at a;simp only[decide_eq_true_eq] at a;rcases a with a|⟨f,c⟩
 ·right
  refine⟨a,?_⟩;rw[e];unfold Kn.any;rw[if_neg];intro g;unfold codeOk at a;unfold Kn.nx at g;unfold Kn.cl at*;omega
 ·left
  exact⟨c,f,by rw[e,c]⟩
theorem Kn.KZ {K:Kn}(h:K.ok){c:Int}(h0:K.cl+1<c)(h1:c≤K.cl+1+K.ps.length):K.word c ∈ K.yP:=by
 have d:=K.tJ h;have a:(c - K.cl - 2).toNat<K.yP.length:=(by rw[K.uo];omega);have e:K.cl+2+((c - K.cl - 2).toNat:Int)=c:=oo;rcases K.jr h _ a with⟨h2,_,_⟩|⟨_,h2⟩
 ·exfalso;rw[e] at h2;unfold Kn.nx at h2;unfold Kn.cl at*;omega
 ·rw[e] at h2
  rw[←h2];exact List.getElem_mem a
theorem Kn.Jh {K:Kn}(h:K.ok)(a:K.gr=true):K.any K.nx ∈ K.yP:=by
 have c:K.ps.length<K.yP.length:=by
  rw[K.uo];unfold Kn.great;rw[if_pos a];unfold Kn.nx Kn.cl;omega
 have e:K.yP[K.ps.length]=K.any (K.cl+2+(K.ps.length:Int)):=(by simp [Kn.yP]);have d:K.cl+2+(K.ps.length:Int)=K.nx:=(by unfold Kn.nx Kn.cl;omega);rw[←d,←e];exact List.getElem_mem c
theorem YU {w d:Bs}(h:w=d.take w.length):w.isPrefixOf d=true:=by
 rw[List.isPrefixOf_iff_prefix,h];exact List.take_prefix _ _
theorem QG {w d:Bs}(h:w.isPrefixOf d=true):w=d.take w.length∧w.length≤d.length:=by
 rw[List.isPrefixOf_iff_prefix] at h;obtain⟨t,rfl⟩:=h;simp
theorem Kn.Lr {K:Kn}(h:K.ok)(b:UInt8)(f:(b.toNat:Int)<K.cl):b.toNat<K.tr.nds.length∧K.tr.word b.toNat=[b]:=by
 have c:=h.fV;have g:=c.lits;obtain⟨d,a,h1,h2,i⟩:=c.lit b.toNat oo;have e:b.toNat<K.tr.nds.length:=oo;refine⟨e,?_⟩;rw[List.getElem?_eq_getElem e] at a;injection a with a
 rw[c.qc _ e,a,h1,if_pos (by omega),h2];simp
theorem Kn.WA {K:Kn}(h:K.ok)(m:Nat)(e:m<K.tr.nds.length)(i:K.cl.toNat≤m):∃c:Int,K.tr.nds[m].code=c∧K.cl+1<c∧c≤K.cl+1+K.ps.length∧K.tr.word m=K.word c∧(∀a,K.cl+1<a→a<c→K.word a≠K.tr.word m):=by
 have d:=h.fV;have u:=h.bd;obtain⟨j,o,h1,h2,q⟩:=d.code m e i;have v:=d.len;have f:∀k (hk:k<K.tr.prs.length),K.tr.word K.tr.prs[k]=K.word (K.cl+2+(k:Int)):=fun k hk=>by
  have r:codeOk K.cl K.ps.length (K.cl+2+(k:Int)):=.inr ⟨by omega,oo⟩;obtain⟨_,s⟩:=K.uS h r;rw[←s];unfold Tr.xG;rw[if_pos (by omega),show(K.cl+2+(k:Int) - K.cl - 2).toNat=k by omega,List.getD_eq_getElem?_getD,List.getElem?_eq_getElem hk];rfl
 refine⟨K.cl+2+(j:Int),h1,oo,oo,?_,fun a w x t=> ?_⟩
 ·rw[←f j o,h2]
 ·have hk:(a - K.cl - 2).toNat<K.tr.prs.length:=oo
  have g:=f _ hk;rw[show K.cl+2+((a - K.cl - 2).toNat:Int)=a by omega,t] at g;exact q (a - K.cl - 2).toNat oo (d.inj (d.pr _ hk) e g)
structure Kr (K : Kn) (b : UInt8) (r : Bs) (m k : Nat) : Prop where
 lt : m < K.tr.nds.length
 le : k ≤ r.length
 word : K.tr.word m = (b :: r).take (k + 1)
 max : ∀ i, i < K.tr.nds.length → K.tr.word i = (b :: r).take (K.tr.word i).length → (K.tr.word i).length ≤ k + 1
theorem Kn.JQ {K:Kn}(h:K.ok)(b:UInt8)(r:Bs)(c:(b.toNat:Int)<K.cl):Kr K b r (K.tr.desc b.toNat r).1 (K.tr.desc b.toNat r).2:=by
 obtain⟨h1,h2⟩:=K.Lr h b c;obtain⟨d,e,a,k⟩:=h.fV.Vw r b.toNat h1;refine⟨d,e,by rw[a,h2];rfl,fun i f g=> ?_⟩;have:=h.fV.LQ r b.toNat h1 i f (by rw[h2];exact g);rw[a,h2] at this;simp only[List.length_append,List.length_singleton,List.length_take] at this;omega
def Grown (K:Kn)(r:Bs)(m k:Nat):Prop:=K.gr=true∧m=K.tr.xG K.cl K.last∧∃c,r[k]? =some c∧(K.word K.last).head? =some c
theorem Kn.MF (K:Kn):K.any K.nx=K.word K.last++(K.word K.last).take 1:=by unfold Kn.any;rw[if_pos rfl]
theorem Kn.Tc {K:Kn}(h:K.ok){b:UInt8}{r:Bs}{m k:Nat}(U:Kr K b r m k):
 (Grown K r m k→(K.longest (b::r)).length=k+2)∧(¬Grown K r m k→(K.longest (b::r)).length=k+1):=by
 have A:=h.fV;obtain⟨B,hk,u,J⟩:=U;have C:(K.tr.word m).length=k+1:=(by rw[u,List.length_take,List.length_cons];omega);have a6:k+1≤(K.longest (b::r)).length:=by
  by_cases V:K.cl.toNat≤m
  ·obtain⟨c,_,h1,h2,v,_⟩:=K.WA h m B V
   have:=K.aS (b::r) (K.word c) (K.KZ h h1 h2) (YU (by rw[←v,C];exact u));rw[←v,C] at this;exact this
  ·have h1:=A.lit m oo
   obtain⟨d,D,h2,v,_⟩:=h1;rw[List.getElem?_eq_getElem B] at D;injection D with D
   have M:=A.qc m B;rw[D,h2,if_pos (by omega)] at M;rw[M] at C;simp at C;have:=K.xE (data:=b::r) (by simp);omega
 have W:∀w ∈ K.yP,w.isPrefixOf (b::r)=true→w.length≤k+1∨(w.length=k+2∧Grown K r m k):=fun w X Y=>by
  obtain⟨i,Z,rfl⟩:=List.getElem_of_mem X;obtain⟨o,E⟩:=QG Y;rcases K.jr h i Z with⟨_,x,F⟩|⟨a0,F⟩
  ·rw[F,K.MF] at o E⊢
   obtain⟨s,f⟩:=K.uS h (K.qf h x);have N:=A.jC _ s;rw[f] at N;generalize hL:K.word K.last=L at*
   cases L with
   |nil=>exact absurd rfl N
   |cons a t=>
    simp only[List.take_succ_cons,List.take_zero] at o E⊢;have a2:((a::t)++[a]).length=(a::t).length+1:=(by simp);rw[a2] at o E⊢;have y:(a::t).length<(b::r).length:=oo;rw[List.take_succ_eq_append_getElem y] at o;obtain⟨O,z⟩:=List.append_inj' o rfl;injection z with z
    have h5:=J _ s (by rw[f];exact O);rw[f] at h5;rcases Nat.lt_or_ge (a::t).length (k+1) with a7|a8
    ·left;omega
    ·right
     have G:(a::t).length=k+1:=oo;refine⟨by omega,x,?_,a,?_,by rw[hL];rfl⟩
     ·exact A.inj B s (by rw[f,u,O,G])
     ·simp only[G] at z
      rw[List.getElem_cons_succ] at z;rw[List.getElem?_eq_getElem (by simp at y G;omega)];exact congrArg some z.symm
  ·left
   rw[F] at o E⊢;obtain⟨s,f⟩:=K.uS h a0;have:=J _ s (by rw[f];exact o)
   rwa [f] at this
 have a4:(K.longest (b::r)).length≤k+1∨((K.longest (b::r)).length=k+2∧Grown K r m k):=by
  rcases K.pI (b::r) with h1|⟨h1,_,v⟩
  ·left;rw[h1];simp
  ·exact W _ h1 v
 refine⟨fun H=> ?_,fun H=> ?_⟩
 ·obtain⟨x,R,c,g,I⟩:=H
  obtain⟨s,f⟩:=K.uS h (K.qf h x);have e:K.any K.nx=(b::r).take (k+2):=by
   rw[K.MF,←f,←R,u];have y:k<r.length:=by
    rcases Nat.lt_or_ge k r.length with q|q
    ·exact q
    ·rw[List.getElem?_eq_none q] at g;cases g
   rw[List.take_succ_eq_append_getElem (show k+1<(b::r).length by simp;omega)];congr 1;rw[List.getElem?_eq_getElem y] at g;injection g with g
   rw[←f,←R,u] at I;rw[List.getElem_cons_succ,g];simp only[List.take_succ_cons,List.head?_cons,Option.some.injEq,List.take_zero] at I⊢;rw[I]
  have y:k<r.length:=by
   rcases Nat.lt_or_ge k r.length with q|q
   ·exact q
   ·rw[List.getElem?_eq_none q] at g;cases g
  have a5:(K.any K.nx).length=k+2:=(by rw[e,List.length_take,List.length_cons];omega);have:=K.aS (b::r) _ (K.Jh h x) (YU (by rw[a5];exact e));omega
 ·rcases a4 with h1|⟨_,h2⟩
  ·omega
  ·exact absurd h2 H
theorem Kn.PY (K:Kn)(x:Bs)(a:¬(x.length=1∧wV x<K.cl))(i:Nat)(c:i<K.yP.length)(d:K.yP[i]=x)(e:∀j (h:j<i),K.yP[j]'oo≠x):K.find x=K.cl+2+(i:Int):=by
 unfold Kn.find;rw[if_neg a];have:K.yP.findIdx? (fun y=>decide (y=x))=some i:=by
  rw[List.findIdx?_eq_some_iff_getElem];exact⟨c,by simpa using d,fun j h=>by simpa using e j h⟩
 rw[this]
theorem Kn.Nj {K:Kn}(h:K.ok){b:UInt8}{r:Bs}{m k:Nat}(F:Kr K b r m k):
 (Grown K r m k→K.find (K.longest (b::r))=K.nx)∧(¬Grown K r m k→∃f:m<K.tr.nds.length,K.find (K.longest (b::r))=K.tr.nds[m].code):=by
 obtain⟨L,M⟩:=K.Tc h F;have q:=h.fV;have X:=h.bd;have u:=(K.yQ (b::r)).1;obtain⟨f,hk,N,G⟩:=F;refine⟨fun v=> ?_,fun v=>⟨f,?_⟩⟩
 ·have w:=L v
  have Y:k+2≤(b::r).length:=(by have:=(K.yQ (b::r)).2;omega);have O:K.any K.nx=K.longest (b::r):=by
   rcases K.pI (b::r) with h1|⟨h1,_,y⟩
   ·rw[h1] at w;simp at w
   ·obtain⟨i,o,e⟩:=List.getElem_of_mem h1
    rcases K.jr h i o with⟨_,_,a⟩|⟨z,a⟩
    ·rw[←a,e]
    ·exfalso
     obtain⟨A,g⟩:=K.uS h z;rw[←a,e] at g;have:=G _ A (by rw[g];exact u);rw[g] at this;omega
  have o:K.ps.length<K.yP.length:=by
   rw[K.uo];unfold Kn.great;rw[if_pos v.1];unfold Kn.nx Kn.cl;omega
  have B:K.cl+2+(K.ps.length:Int)=K.nx:=(by unfold Kn.nx Kn.cl;omega);rw[K.PY _ (by omega) K.ps.length o ?_ ?_,B]
  ·have e:K.yP[K.ps.length]=K.any (K.cl+2+(K.ps.length:Int)):=by simp [Kn.yP]
   rw[e,B,O]
  ·intro j R a
   rcases K.jr h j oo with⟨s,_,_⟩|⟨z,C⟩
   ·rw[←B] at s;omega
   ·obtain⟨A,g⟩:=K.uS h z
    rw[←C,a] at g;have:=G _ A (by rw[g];exact u);rw[g] at this;omega
 ·have w:=M v
  rw[w,←N] at u;rw[u];by_cases s:K.cl.toNat≤m
  ·obtain⟨c,h1,h2,y,D,U⟩:=K.WA h m f s
   have Z:=K.tJ h;have o:(c - K.cl - 2).toNat<K.yP.length:=(by rw[K.uo];omega);have V:¬((K.tr.word m).length=1∧wV (K.tr.word m)<K.cl):=by
    intro ⟨x,_⟩;have H:=q.up m f;have I:=q.qc m f;rw[if_neg (by have:=H.2 s;omega)] at I;have h7:=List.length_pos_iff.2 (q.jC K.tr.nds[m].par.toNat (by have:=H.2 s;omega));have W:=congrArg List.length I;rw[List.length_append,List.length_singleton] at W;omega
   rw[K.PY _ V _ o ?_ ?_,h1]
   ·omega
   ·rcases K.jr h _ o with⟨x,_,_⟩|⟨_,a⟩
    ·exfalso;unfold Kn.nx at x;unfold Kn.cl at*;omega
    ·rw[a,D];congr 1;omega
   ·intro j R a
    rcases K.jr h j oo with⟨x,_,_⟩|⟨_,C⟩
    ·unfold Kn.nx at x;unfold Kn.cl at*;omega
    ·rw[C] at a
     exact U (K.cl+2+(j:Int)) oo oo a
  ·obtain⟨d,t,h2,y,D⟩:=q.lit m oo
   rw[List.getElem?_eq_getElem f] at t;injection t with t
   have E:=q.qc m f;rw[t,h2,if_pos (by omega),y] at E;have J:wV (K.tr.word m)=(m:Int):=by
    rw[E];show(((UInt8.ofNat m).toNat:Nat):Int)=_;rw[UInt8.toNat_ofNat'];omega
   unfold Kn.find;rw[if_pos ⟨by rw[E];rfl,by rw[J];omega⟩,J,t,D]
theorem Tr.ae (cl:Int)(T:Tr)(p:Pr):∃a q,T.learn cl p=⟨T.nds++a,T.prs++[q]⟩∧∀d ∈ a,d.code=cl+2+(T.prs.length:Int):=by
 unfold Tr.learn;split
 ·next n _=>exact⟨[],n,by simp,by simp⟩
 ·exact⟨_,_,rfl,by simp⟩
theorem Y2 (cl:Int)(ps:List Pr):(qF cl ps).prs.length=ps.length:=by
 induction ps using xx with
 |h0=>rfl
 |h1 ps p a=>
  rw[qV];obtain⟨c,q,h,_⟩:=Tr.ae cl (qF cl ps) p;rw[h];simp [a]
theorem MP (cl:Int)(ps a:List Pr):∃e rs,qF cl (ps++a)=⟨(qF cl ps).nds++e,(qF cl ps).prs++rs⟩∧(∀d ∈ e,cl+2+(ps.length:Int)≤d.code):=by
 induction a using xx with
 |h0=>exact⟨[],[],by simp,by simp⟩
 |h1 a q f=>
  obtain⟨e,rs,h,g⟩:=f;rw[←List.append_assoc,qV];obtain⟨i,r,h2,k⟩:=Tr.ae cl (qF cl (ps++a)) q;have m:=Y2 cl (ps++a);rw[h2,h];refine⟨e++i,rs++[r],by simp,fun d c=> ?_⟩;rcases List.mem_append.1 c with c|c
  ·exact g d c
  ·rw[k d c,m,List.length_append];omega
theorem Q4 {cl:Int}(h0:0≤cl)(ps:List Pr):∀d ∈ (qF cl ps).nds,d.code<cl+2+(ps.length:Int):=by
 induction ps using xx with
 |h0=>
  intro d a;unfold qF Tr.lits at a;simp at a;obtain⟨b,g,rfl⟩:=a;simp;omega
 |h1 ps p c=>
  rw[qV];obtain⟨i,q,h,e⟩:=Tr.ae cl (qF cl ps) p;have f:=Y2 cl ps;rw[h];intro d a;rcases List.mem_append.1 a with a|a
  ·have:=c d a;simp;omega
  ·rw[e d a,f];simp;omega
theorem OZ {cl:Int}(h0:0≤cl)(ps:List Pr)(k:Nat)(hk:k≤ps.length):∃n,(qF cl (ps.take k)).nds=(qF cl ps).nds.take n∧n≤(qF cl ps).nds.length∧(qF cl (ps.take k)).prs=(qF cl ps).prs.take k∧
 (∀i (h:i<(qF cl ps).nds.length),(i<n→(qF cl ps).nds[i].code<cl+2+(k:Int))∧(n≤i→cl+2+(k:Int)≤(qF cl ps).nds[i].code)):=by
 obtain⟨f,rs,h,a⟩:=MP cl (ps.take k) (ps.drop k);rw[List.take_append_drop] at h;have e:(ps.take k).length=k:=(by simp;omega);have c:=Y2 cl (ps.take k);have d:=Q4 h0 (ps.take k);rw[e] at c a d;generalize qF cl (ps.take k)=S at*;rw[h];refine⟨S.nds.length,by simp,by simp,by simp [c],fun i g=>⟨fun h1=> ?_,fun h1=> ?_⟩⟩
 ·simp only[List.getElem_append_left h1]
  exact d _ (List.getElem_mem h1)
 ·simp only[List.getElem_append_right h1]
  exact a _ (List.getElem_mem _)
def yN (a:List Nd)(p:Int):Nat→Int
 |0=> -1
 |m+1=>if(a[m]?.getD ⟨0,0,0,0⟩).par=p then(m:Int) else yN a p m
theorem YD (a:List Nd)(p:Int):∀m, -1≤yN a p m∧yN a p m<m
 |0=>by simp [yN]
 |m+1=>by
  have:=YD a p m;unfold yN;split<;>omega
theorem Yq (a:List Nd)(p:Int):∀m,yN a p m= -1→∀j,j<m→(a[j]?.getD ⟨0,0,0,0⟩).par≠p
 |0,_,j,c=>by omega
 |m+1,h,j,c=>by
  unfold yN at h;split at h
  ·omega
  ·next d=>
   by_cases e:j=m
   ·subst e;exact d
   ·exact Yq a p m h j oo
theorem iP (a:List Nd)(p:Int):∀m (n:Nat),yN a p m=(n:Int)→n<m∧(a[n]?.getD ⟨0,0,0,0⟩).par=p∧∀j,n<j→j<m→(a[j]?.getD ⟨0,0,0,0⟩).par≠p
 |0,n,h=>by unfold yN at h;omega
 |m+1,n,h=>by
  unfold yN at h;split at h
  ·next c=>
   have:n=m:=oo;subst this;exact⟨by omega,c,fun j h1 h2=>by omega⟩
  ·next c=>
   obtain⟨h1,h2,d⟩:=iP a p m n h;refine⟨by omega,h2,fun j f g=> ?_⟩;by_cases e:j=m
   ·subst e;exact c
   ·exact d j f oo
end Go.Proofs.YtoedhpcmgondjaaGreatDoor
namespace Go.Proofs.YtoedhpcmgondjaaGreatDoor
open Go.RowKit
def nxt (a:List Nd)(i:Nat):Int:=if(a[i]?.getD ⟨0,0,0,0⟩).par<0 then -1 else yN a (a[i]?.getD ⟨0,0,0,0⟩).par i
def ndV (a:List Nd)(n i:Nat):List Value:=
 [.int .i64 (a[i]?.getD ⟨0,0,0,0⟩).par,.int .i64 (yN a i n),.int .i64 (nxt a i),.int .u8 ((a[i]?.getD ⟨0,0,0,0⟩).last.toNat:Int),.int .u8 ((a[i]?.getD ⟨0,0,0,0⟩).first.toNat:Int),.int .i64 (a[i]?.getD ⟨0,0,0,0⟩).code]
theorem Y6 (a:List Nd)(n i:Nat):(ndV a n i).length=6:=rfl
def ndC (a:List Nd)(n:Nat):List Value:=(List.range a.length).flatMap (ndV a n)
theorem mY {f:Nat→List Value}(a:∀i,(f i).length=6)(m:Nat):((List.range m).flatMap f).length=m*6:=by
 induction m with
 |zero=>rfl
 |succ m c=>rw[List.range_succ,List.flatMap_append,List.length_append,c];simp [a];omega
theorem JZ {f:Nat→List Value}(a:∀i,(f i).length=6)(m:Nat):∀i k,i<m→k<6→((List.range m).flatMap f)[i*6+k]? =(f i)[k]? :=by
 induction m with
 |zero=>intro i k h;omega
 |succ m c=>
  intro i k d hk;rw[List.range_succ,List.flatMap_append];by_cases h:i<m
  ·rw[List.getElem?_append_left (by rw[mY a];omega),c i k h hk]
  ·have:i=m:=oo
   subst this;rw[List.getElem?_append_right (by rw[mY a];omega),mY a,show i*6+k - i*6=k by omega];simp
theorem wI (a:List Nd)(n:Nat):(ndC a n).length=a.length*6:=mY (Y6 a n) _
theorem vU (a:List Nd)(n:Nat){i k:Nat}(c:i<a.length)(hk:k<6):(ndC a n)[i*6+k]? =(ndV a n i)[k]? :=JZ (Y6 a n) _ i k c hk
theorem VI {a b:List Value}(m:Nat)(c:a.length=m*6)(d:b.length=m*6)(h:∀i k,i<m→k<6→a[i*6+k]? =b[i*6+k]?):a=b:=by
 apply List.ext_getElem?;intro j;by_cases e:j<m*6
 ·have:=h (j / 6) (j % 6) oo oo
  rwa [show j / 6*6+j % 6=j by omega] at this
 ·rw[List.getElem?_eq_none (by omega),List.getElem?_eq_none (by omega)]
theorem jK (a:List Nd)(d:Nd)(p:Int):∀m,m≤a.length→yN (a++[d]) p m=yN a p m
 |0,_=>rfl
 |m+1,h=>by
  unfold yN;rw[List.getElem?_append_left (by omega),jK a d p m (by omega)]
theorem gy (a:List Nd)(p:Int)(n:Nat):∀m,m≤n→yN (a.take n) p m=yN a p m
 |0,_=>rfl
 |m+1,h=>by
  unfold yN;rw[List.getElem?_take,if_pos (show m<n by omega),gy a p n m (by omega)]
theorem Jw (a:List Nd)(d:Nd)(i:Nat)(c:i<a.length):nxt (a++[d]) i=nxt a i:=by
 unfold nxt;rw[List.getElem?_append_left c,jK _ _ _ _ (by omega)]
theorem MZ (a:List Nd)(n i:Nat)(c:i<n):nxt (a.take n) i=nxt a i:=by
 unfold nxt;rw[List.getElem?_take,if_pos c,gy _ _ _ _ (by omega)]
theorem Yt (a:List Nd)(c:∀i (h:i<a.length),a[i].par<(i:Int))(p:Int):∀m,m≤a.length→(m:Int)≤p→yN a p m= -1
 |0,_,_=>rfl
 |m+1,h,h1=>by
  have h2:=c m oo;unfold yN;rw[List.getElem?_eq_getElem (by omega),Option.getD_some,if_neg (by omega)];exact Yt a c p m oo oo
theorem Jq (a:List Nd)(o:∀i (h:i<a.length),a[i].par<(i:Int))(d:Nd)(P:Nat)(u:P<a.length)(c:d.par=(P:Int)):
 ((ndC a a.length++[Value.int .i64 (P:Int),.int .i64 (-1),.int .i64 (yN a (P:Int) a.length),.int .u8 (d.last.toNat:Int),.int .u8 (d.first.toNat:Int),.int .i64 d.code]).set (P*6+1) (Value.int .i64 (a.length:Int)))=ndC (a++[d]) (a++[d]).length:=by
 have e:∀q:Int,yN (a++[d]) q (a++[d]).length=if d.par=q then(a.length:Int) else yN a q a.length:=fun q=>by
  rw[List.length_append,List.length_singleton];show yN (a++[d]) q (a.length+1)=_;rw[yN,List.getElem?_append_right (Nat.le_refl _),jK _ _ _ _ (Nat.le_refl _)];simp
 refine VI (a.length+1) ?_ ?_ fun i k v hk=> ?_
 ·rw[List.length_set,List.length_append,wI];simp;omega
 ·rw[wI,List.length_append];rfl
 ·rw[vU (a++[d]) _ (by simp;omega) hk,List.getElem?_set]
  have r:(ndC a a.length++[Value.int .i64 (P:Int),.int .i64 (-1),.int .i64 (yN a (P:Int) a.length),.int .u8 (d.last.toNat:Int),.int .u8 (d.first.toNat:Int),.int .i64 d.code]).length=(a.length+1)*6:=by
   rw[List.length_append,wI];simp;omega
  rw[r];by_cases f:i<a.length
  ·by_cases g:P*6+1=i*6+k
   ·have h1:P=i:=oo
    have h2:k=1:=oo;subst h1 h2;rw[if_pos g,if_pos (by omega)];unfold ndV;rw[e,c,if_pos rfl];rfl
   ·rw[if_neg g,List.getElem?_append_left (by rw[wI];omega),vU a _ f hk]
    unfold ndV;rw[List.getElem?_append_left f,e,Jw _ _ _ f,c];by_cases m:k=1
    ·subst m
     rw[if_neg (by omega)]
    ·match k,hk,m with
     |0,_,_|2,_,_|3,_,_|4,_,_|5,_,_=>rfl
  ·have:i=a.length:=oo
   subst this;rw[if_neg (by omega),List.getElem?_append_right (by rw[wI];omega),wI,show a.length*6+k - a.length*6=k by omega];unfold ndV;have s:yN (a++[d]) (a.length:Int) (a++[d]).length= -1:=(by rw[e,c,if_neg (by omega),Yt a o _ _ (Nat.le_refl _) (Int.le_refl _)]);rw[List.getElem?_append_right (Nat.le_refl _),s];have t:nxt (a++[d]) a.length=yN a (P:Int) a.length:=by
    unfold nxt;rw[List.getElem?_append_right (Nat.le_refl _)];simp only[Nat.sub_self,List.getElem?_cons_zero,Option.getD_some,c];rw[if_neg (by omega),jK _ _ _ _ (Nat.le_refl _)]
   rw[t];simp only[Nat.sub_self,List.getElem?_cons_zero,Option.getD_some,c]
theorem JC (a:List Nd)(n P:Nat)(g:n<a.length)(h:P<n)(c:(a[n]?.getD ⟨0,0,0,0⟩).par=(P:Int)):
 ((ndC a (n+1)).set (P*6+1) (Value.int .i64 (nxt a n)))=ndC a n:=by
 refine VI a.length ?_ ?_ fun i k d hk=> ?_
 ·rw[List.length_set,wI]
 ·rw[wI]
 ·rw[List.getElem?_set,wI,vU _ _ d hk,vU _ _ d hk]
  by_cases e:P*6+1=i*6+k
  ·have h1:P=i:=oo
   have h2:k=1:=oo;subst h1 h2;rw[if_pos e,if_pos (by omega)];unfold ndV nxt;rw[c,if_neg (by omega)];rfl
  ·rw[if_neg e]
   unfold ndV;by_cases f:k=1
   ·subst f
    have:yN a (i:Int) (n+1)=yN a (i:Int) n:=(by rw[yN,c,if_neg (by omega)]);rw[this]
   ·match k,hk,f with
    |0,_,_|2,_,_|3,_,_|4,_,_|5,_,_=>rfl
theorem MB (a:List Nd)(n:Nat)(e:n≤a.length):(ndC a n).take (n*6)=ndC (a.take n) (a.take n).length:=by
 have c:(a.take n).length=n:=(by simp;omega);refine VI n ?_ ?_ fun i k d hk=> ?_
 ·rw[List.length_take,wI];omega
 ·rw[wI,c]
 ·rw[List.getElem?_take,if_pos (by omega),vU _ _ (by omega) hk,vU _ _ (by omega) hk]
  unfold ndV;rw[c,List.getElem?_take,if_pos (by omega),gy _ _ _ _ (Nat.le_refl _),MZ _ _ _ d]
def Tr.kC (T:Tr)(p:Nat)(b:UInt8):Int:=match T.kid p b with
 |some m=>(m:Int)
 |none=> -1
theorem bD {T:Tr}{p m:Nat}{b:UInt8}(h:T.kid p b=some m):T.kC p b=(m:Int):=by unfold Tr.kC;rw[h]
theorem WC {T:Tr}{p:Nat}{b:UInt8}(h:T.kid p b=none):T.kC p b= -1:=by unfold Tr.kC;rw[h]
theorem Sj {T:Tr}{p:Nat}{b:UInt8}(h:T.kC p b<0):T.kid p b=none:=by
 cases hk:T.kid p b with
 |none=>rfl
 |some m=>rw[bD hk] at h;omega
theorem PO {T:Tr}{p:Nat}{b:UInt8}(h:0≤T.kC p b):T.kid p b=some (T.kC p b).toNat∧(T.kC p b).toNat<T.nds.length:=by
 cases hk:T.kid p b with
 |none=>rw[WC hk] at h;omega
 |some m=>rw[bD hk];exact⟨rfl,(dO hk).1⟩
def Zb (a:List Nd)(p:Nat)(b:UInt8)(j:Nat):Prop:=∀i (h:i<a.length),j≤i→¬(a[i].par=(p:Int)∧a[i].last=b)
theorem Zb.start (a:List Nd)(p:Nat)(b:UInt8):Zb a p b a.length:=fun i h h2=>by omega
section
variable {T : Tr} {p j : Nat} {b : UInt8}
theorem Oq (h:Zb T.nds p b j)(g:j≤T.nds.length)(hk:yN T.nds (p:Int) j= -1):T.kC p b= -1:=by
 apply WC;unfold Tr.kid;rw[List.findIdx?_eq_none_iff];intro x c;obtain⟨i,a,rfl⟩:=List.getElem_of_mem c;have d:¬(T.nds[i].par=(p:Int)∧T.nds[i].last=b):=by
  by_cases e:j≤i
  ·exact h i a e
  ·have:=Yq T.nds (p:Int) j hk i oo
   rw[List.getElem?_eq_getElem a] at this;exact fun f=>this f.1
 unfold PX;simp;exact fun h1 h2=>d ⟨h1,h2⟩
theorem ND (d:∀i j (k:i<T.nds.length) (e:j<T.nds.length),T.nds[i].par=T.nds[j].par→T.nds[i].last=T.nds[j].last→i=j){n:Nat}(e:j≤T.nds.length)(hk:yN T.nds (p:Int) j=(n:Int))(a:(T.nds[n]?.getD ⟨0,0,0,0⟩).last=b):T.kC p b=(n:Int):=by
 obtain⟨h1,h2,_⟩:=iP T.nds (p:Int) j n hk;have c:n<T.nds.length:=oo;rw[List.getElem?_eq_getElem c] at h2 a
 cases hc:T.kid p b with
 |none=>exact absurd ⟨h2,a⟩ (Yb hc n c)
 |some m=>
  obtain⟨f,g,h⟩:=dO hc;have:=d m n f c (by rw[g];exact h2.symm) (by rw[h];exact a.symm);rw[bD hc,this]
theorem QE {n:Nat}(h:Zb T.nds p b j)(k:j≤T.nds.length)(hk:yN T.nds (p:Int) j=(n:Int))(d:¬(T.nds[n]?.getD ⟨0,0,0,0⟩).last=b):Zb T.nds p b n∧n<j∧nxt T.nds n=yN T.nds (p:Int) n:=by
 obtain⟨h1,h2,e⟩:=iP T.nds (p:Int) j n hk;refine⟨fun i a m=> ?_,h1,?_⟩
 ·by_cases f:j≤i
  ·exact h i a f
  ·by_cases g:i=n
   ·subst g
    rw[List.getElem?_eq_getElem a] at d;exact fun c=>d c.2
   ·have:=e i oo oo
    rw[List.getElem?_eq_getElem a] at this;exact fun c=>this c.1
 ·unfold nxt
  rw[h2,if_neg (by omega)]
end
def jQ (T:Tr)(b:UInt8)(r:Bs)(n k:Nat):Prop:=T.desc b.toNat r=((T.desc n (r.drop k)).1,k+(T.desc n (r.drop k)).2)
theorem jQ.start (T:Tr)(b:UInt8)(r:Bs):jQ T b r b.toNat 0:=by unfold jQ;simp
theorem jQ.next {T:Tr}{b:UInt8}{r:Bs}{n k m:Nat}(h:jQ T b r n k)(hk:k<r.length)(a:T.kid n r[k]=some m):jQ T b r m (k+1):=by
 unfold jQ at*;rw[h,←List.getElem_cons_drop hk,Tr.desc,a];simp;omega
theorem jQ.stop {T:Tr}{b:UInt8}{r:Bs}{n k:Nat}(h:jQ T b r n k)(hk:k<r.length)(a:T.kid n r[k]=none):T.desc b.toNat r=(n,k):=by
 unfold jQ at h;rw[h,←List.getElem_cons_drop hk,Tr.desc,a];simp
theorem jQ.fin {T:Tr}{b:UInt8}{r:Bs}{n k:Nat}(h:jQ T b r n k)(hk:r.length≤k):T.desc b.toNat r=(n,k):=by
 unfold jQ at h;rw[h,List.drop_eq_nil_of_le hk];simp [Tr.desc]
theorem Kn.YM {K:Kn}(h:K.ok){c:Int}(a:codeOk K.cl K.ps.length c):((K.tr.nds[K.tr.xG K.cl c]?.getD ⟨0,0,0,0⟩).first.toNat:Int)=wV (K.word c):=by
 obtain⟨h1,h2⟩:=K.uS h a;obtain⟨w,d,f,e⟩:=h.fV.first _ h1;rw[List.getElem?_eq_getElem h1,Option.getD_some,e];have:K.tr.word (K.tr.xG K.cl c)=w:=(by unfold Tr.word;rw[List.getD_eq_getElem?_getD,d];rfl);rw[←h2,this]
theorem Kn.VF {K:Kn}(h:K.ok){b:UInt8}{r:Bs}(u:(b.toNat:Int)<K.cl){n k:Nat}(v:K.tr.desc b.toNat r=(n,k)):
 n<K.tr.nds.length∧k≤r.length∧
 (K.gr=true→k<r.length→n=K.tr.xG K.cl K.last→byteAt (b::r) ((k+1:Nat):Int)=((K.tr.nds[n]?.getD ⟨0,0,0,0⟩).first.toNat:Int)→K.find (K.longest (b::r))=K.nx∧(K.longest (b::r)).length=k+2)∧
 (¬(K.gr=true∧k<r.length∧n=K.tr.xG K.cl K.last∧byteAt (b::r) ((k+1:Nat):Int)=((K.tr.nds[n]?.getD ⟨0,0,0,0⟩).first.toNat:Int))→K.find (K.longest (b::r))=(K.tr.nds[n]?.getD ⟨0,0,0,0⟩).code∧(K.longest (b::r)).length=k+1):=by
 have f:=K.JQ h b r u;rw[v] at f;obtain⟨w,x⟩:=K.Tc h f;obtain⟨y,z⟩:=K.Nj h f;have A:=f.lt;have o:K.gr=true→k<r.length→n=K.tr.xG K.cl K.last→(byteAt (b::r) ((k+1:Nat):Int)=((K.tr.nds[n]?.getD ⟨0,0,0,0⟩).first.toNat:Int)↔∃c,r[k]? =some c∧(K.word K.last).head? =some c):=by
  intro d hk e;have q:=K.qf h d;have s:=K.YM h q;rw[←e] at s;rw[s,yh _ _ (by simp;omega),List.getElem_cons_succ,List.getElem?_eq_getElem hk];have B:K.word K.last≠[]:=by
   obtain⟨h1,h2⟩:=K.uS h q;rw[←h2];exact h.fV.jC _ h1
  generalize K.word K.last=W at*
  cases W with
  |nil=>exact absurd rfl B
  |cons a t=>
   simp only[wV,List.headD_cons,List.head?_cons,Option.some.injEq];constructor
   ·intro H
    refine⟨r[k],rfl,?_⟩;exact UInt8.toNat_inj.1 oo
   ·rintro⟨c,rfl,h2⟩
    rw[h2]
 refine⟨A,f.le,fun d hk e C=> ?_,fun D=> ?_⟩
 ·have g:Grown K r n k:=⟨d,e,(o d hk e).1 C⟩
  exact⟨y g,w g⟩
 ·have g:¬Grown K r n k:=fun⟨d,e,c,i,E⟩=>by
   have hk:k<r.length:=by
    rcases Nat.lt_or_ge k r.length with m|m
    ·exact m
    ·rw[List.getElem?_eq_none m] at i;cases i
   exact D ⟨d,hk,e,(o d hk e).2 ⟨c,i,E⟩⟩
  obtain⟨F,G⟩:=z g;exact⟨by rw[G,List.getElem?_eq_getElem F];rfl,x g⟩
section
variable {P : Program} {Q : Exit → Act → World → Prop} {S : World → Prop} {l : List Oper} {n : Nat}
def YJ (l:List Oper)(n:Nat):Nat→Nat→Nat→Bool
 |0,k,i=>Region.waitsFor .any l.toArray k i
 |f+1,k,i=>Region.waitsFor .any l.toArray k i||(List.range n).any fun j=>Region.waitsFor .any l.toArray k j&&YJ l n f j i
def kV (l:List Oper)(n:Nat):Bool:=
 decide (l.length=n+1)&&((List.range n).all fun i=>YJ l n 20 n i)&&
 ((List.range (n+1)).all fun i=>match l.toArray[i]? with
   |some o=>o.after.all (fun e=> !Region.binds .any e||decide (e.on<i))&&(match o.guard with|some (g,_)=>decide (g<n)|none=>true)
   |none=>true)
theorem Rz {i:Nat}{a:Act}{w:World}{K f:Act→World→Prop}(k:kV l n=true)(q:i<n)(d:∀a w,K a w→f a w)
 (h:wpOp P (l.take n).toArray (fH P l.toArray n Q) i K a w):wpOp P l.toArray Q i f a w:=by
 simp only[kV,Bool.and_eq_true,decide_eq_true_eq] at k;obtain⟨⟨v,_⟩,c⟩:=k;have c:=List.all_eq_true.1 c i (List.mem_range.2 oo);have r:(l.take n).toArray[i]? =l.toArray[i]? :=(by simp [q]);unfold wpOp at*;rw[r] at h
 cases ho:l.toArray[i]? with
 |none=>simp only[ho] at h;exact d _ _ h
 |some o=>
  simp only[ho] at h c⊢;have s:Region.wanted o (yielded (l.take n).toArray a.tmps)=Region.wanted o (yielded l.toArray a.tmps):=by
   unfold Region.wanted;rw[Bool.and_eq_true] at c;have m:=c.2
   cases hgu:o.guard with
   |none=>rfl
   |some t=>
    obtain⟨g,x⟩:=t;simp only[hgu,decide_eq_true_eq] at m;have:yielded (l.take n).toArray a.tmps g=yielded l.toArray a.tmps g:=by
     unfold yielded;rw[show(l.take n).toArray[g]? =l.toArray[g]? by simp [m]]
    simp only[this]
  rw[s] at h;split
  ·rename_i e
   rw[if_pos e] at h;rcases h with h|⟨h1,h2⟩
   ·exact .inl (XN d _ h)
   ·obtain⟨u,w',h2⟩:=h2
    exact .inr ⟨h1,u,w',h2⟩
  ·rename_i e
   rw[if_neg e] at h;exact d _ _ h
theorem TD {a:Array Bool}(g:kV l n=true)(s:a.size=n)(h:Region.ready .any (l.take n).toArray a=[]):∀i,i<n→a.getD i false=true:=by
 have d:=g;simp only[kV,Bool.and_eq_true,decide_eq_true_eq] at d;obtain⟨⟨t,_⟩,c⟩:=d;intro i
 induction i using Nat.strongRecOn with
 |_ i k=>
  intro m
  cases hc:a.getD i false with
  |true=>rfl
  |false=>
   exfalso;have c:=List.all_eq_true.1 c i (List.mem_range.2 oo);have o:l.toArray[i]? =some (l[i]'(by omega)):=(by simp [List.getElem?_eq_getElem (show i<l.length by omega)]);simp only[o,Bool.and_eq_true] at c;have f:i ∈ Region.ready .any (l.take n).toArray a:=by
    rw[mem_ready];refine⟨getD_in (by omega) hc,l[i]'(by omega),by simp [m,List.getElem?_eq_getElem (show i<l.length by omega)],fun e q r=> ?_⟩;have h1:=Array.all_eq_true'.1 c.1 e q;simp only[r,Bool.not_true,Bool.false_or,decide_eq_true_eq] at h1;exact k e.on h1 oo
   rw[h] at f
   cases f
def P6 (l:List Oper)(n:Nat)(a:Array Bool):Prop:=∀k,k<n→a.getD k false=true→∀j,j<n→Region.waitsFor .any l.toArray k j=true→a.getD j false=true
theorem P6.reach {e:Array Bool}(h:P6 l n e):∀(f k i:Nat),k<n→i<n→e.getD k false=true→YJ l n f k i=true→e.getD i false=true
 |0,k,i,hk,c,d,a=>h k hk d i c a
 |f+1,k,i,hk,c,d,a=>by
  unfold YJ at a;rw[Bool.or_eq_true] at a;rcases a with a|a
  ·exact h k hk d i c a
  ·obtain⟨j,m,g⟩:=List.any_eq_true.1 a
   rw[Bool.and_eq_true] at g;exact h.reach f j i (List.mem_range.1 m) c (h k hk d j (List.mem_range.1 m) g.1) g.2
theorem TU (B:kV l n=true):∀(g:Nat) (c:Array Bool) (a:Act) (w:World),c.size=n→P6 l n c→wpAnyH P .any (l.take n).toArray (fH P l.toArray n Q) S g c a w→
 wpAny P .any l.toArray Q (g+1) (c.push false) a w:=by
 have J:=B;simp only[kV,Bool.and_eq_true,decide_eq_true_eq] at J;obtain⟨⟨hl,Y⟩,Z⟩:=J;have K:l.toArray[n]? =some (l[n]'(by omega)):=(by simp [List.getElem?_eq_getElem (show n<l.length by omega)]);have fin:∀(g:Nat) (c:Array Bool) (a:Act) (w:World),c.size=n→Region.ready .any (l.take n).toArray c=[]→wpOp P l.toArray Q n (Q .normal) a w→wpAny P .any l.toArray Q (g+1) (c.push false) a w:=by
  intro g c a w f h0 h;have q:=TD B f h0;have L:n ∈ Region.ready .any l.toArray (c.push false):=by
   rw[mem_ready];refine⟨by simp [←f],l[n]'(by omega),K,fun e t u=> ?_⟩;rw[wK];have M:=List.all_eq_true.1 Z n (List.mem_range.2 oo);simp only[K,Bool.and_eq_true] at M;have h1:=Array.all_eq_true'.1 M.1 e t;simp only[u,Bool.not_true,Bool.false_or,decide_eq_true_eq] at h1;exact q e.on h1
  refine⟨fun h1=>(by rw[h1] at L;cases L),fun i r=> ?_⟩;have s:i=n:=by
   obtain⟨_,o,d,_⟩:=mem_ready.1 r;have N:i<l.length:=(by simpa using(Array.getElem?_eq_some_iff.1 d).1);rcases Nat.lt_or_ge i n with h2|h2
   ·have:=(su f i h2).1 r
    rw[h0] at this;cases this
   ·omega
  subst s;refine wpOp_mono (fun O w' C=> ?_) h;have hz:Region.ready .any l.toArray ((c.push false).setIfInBounds i true)=[]:=by
   apply List.eq_nil_iff_forall_not_mem.2;intro j v;obtain⟨a1,o,d,_⟩:=mem_ready.1 v;have N:j<l.length:=(by simpa using(Array.getElem?_eq_some_iff.1 d).1);have D:=getD_both a1;by_cases y:j=i
   ·subst y;simp [f] at D
   ·have:=q j oo
    rw[getD_set_ne false (Ne.symm y),wK,this] at D
    cases D
  exact wpAny_done hz C _
 intro g
 induction g with
 |zero=>intro c a w f _ h;exact fin 0 c a w f h.1 h.2
 |succ g ih=>
  intro c a w f R h;by_cases h0:Region.ready .any (l.take n).toArray c=[]
  ·exact fin _ c a w f h0 (h.1 h0)
  ·obtain⟨j,v⟩:∃j,j ∈ Region.ready .any (l.take n).toArray c:=by
    cases hr:Region.ready .any (l.take n).toArray c with
    |nil=>exact absurd hr h0
    |cons x xs=>exact⟨x,List.mem_cons_self⟩
   have E:j<n:=by
    obtain⟨_,o,d,_⟩:=mem_ready.1 v;have:=(Array.getElem?_eq_some_iff.1 d).1;simp at this;omega
   refine⟨fun h1=> ?_,fun i r=> ?_⟩
   ·have:=(su f j E).2 v
    rw[h1] at this;cases this
   ·have s:i<n:=by
     obtain⟨_,o,d,q⟩:=mem_ready.1 r;have N:i<l.length:=(by simpa using(Array.getElem?_eq_some_iff.1 d).1);rcases Nat.lt_or_ge i n with h2|h2
     ·exact h2
     ·exfalso
      have a3:i=n:=oo;subst a3;have m:=List.all_eq_true.1 Y j (List.mem_range.2 E);have U:∀k,Region.waitsFor .any l.toArray i k=true→c.getD k false=true:=fun k hk=>by
       obtain⟨oj,F,e,t,u,G⟩:=gI hk;rw[F] at d;injection d with d
       subst d;have z:=q e t u;rw[wK,G] at z;exact z
      have A:c.getD j false=true:=by
       unfold YJ at m;rw[Bool.or_eq_true] at m;rcases m with m|m
       ·exact U j m
       ·obtain⟨k,hk,H⟩:=List.any_eq_true.1 m
        rw[Bool.and_eq_true] at H;exact R.reach 19 k j (List.mem_range.1 hk) E (U k H.1) H.2
      rw[getD_both (mem_ready.1 v).1] at A
      cases A
    refine Rz B s (fun O w' C=> ?_) (h.2 i ((su f i s).1 r));have a5:P6 l n (c.setIfInBounds i true):=by
     intro k hk V I a6 W;have A:c.getD I false=true:=by
      by_cases X:k=i
      ·subst X
       obtain⟨_,o,d,q⟩:=mem_ready.1 ((su f k s).1 r);obtain⟨oj,F,e,t,u,G⟩:=gI W;have a7:(l.take n).toArray[k]? =l.toArray[k]? :=(by simp [hk]);rw[a7,F] at d;injection d with d
       subst d;have z:=q e t u
       rwa [G] at z
      ·rw[getD_set_ne false (Ne.symm X)] at V
       exact R k hk V I a6 W
     by_cases y:I=i
     ·subst y;simp [f,s]
     ·rw[getD_set_ne false (Ne.symm y)];exact A
    have:=ih (c.setIfInBounds i true) O w' (by simpa using f) a5 C.2;rw[Uu c i (by omega)] at this;exact this
theorem yV {id:Nat}{a:Act}{w:World}(n:Nat)(S:World→Prop)(d:P.follows .mixedOrders=true)(c:kV l n=true)(f:S w.drew)
 (h:S w.drew→wpAnyH P .any (l.take n).toArray (fH P l.toArray n (NoPanic Q)) S n (Array.replicate n false) a w.drew):(Code.region id l.toArray true).wp P Q a w:=by
 have g:l.length=n+1:=by
  simp only[kV,Bool.and_eq_true,decide_eq_true_eq] at c;exact c.1.1
 refine wp_region_noPanic (wp_region_any d ?_);have h2:=TU c n _ a w.drew (by simp) (fun k hk i=>by simp [hk] at i) (h f);have e:(Array.replicate n false).push false=Array.replicate (n+1) false:=(by rw[←Array.replicate_succ]);rw[e] at h2;have es:l.toArray.size=n+1:=(by simp [g]);rw[es];exact h2
end
structure Rg where
 cs : List Int
 d : Bs
 fin : Int
 use : Nat
def Rg.pre (cs:List Int)(d:Bs)(n:Nat)(r:Rg):Rg:=⟨cs++r.cs,d++r.d,r.fin,n+r.use⟩
def Kn.wd (K:Kn)(c:Int):Bs:=if c=K.cl then[] else K.any c
def xg (K:Kn)(b:Bs)(z:Nat):Except Rg Int:=
 if b.length<K.width then .error ⟨[],[],1,0⟩ else
 if(numBits K.o (b.take K.width):Int)=K.cl+1 then .error ⟨[(numBits K.o (b.take K.width):Int)],[],0,K.width⟩ else
 if(numBits K.o (b.take K.width):Int)≠K.cl∧K.fol (numBits K.o (b.take K.width):Int)=false then .error ⟨[],[],2,K.width⟩ else
 if 2000<z+(K.wd (numBits K.o (b.take K.width):Int)).length then .error ⟨[],[],3,K.width⟩ else .ok (numBits K.o (b.take K.width):Int)
def yB :Nat→Kn→Bs→Nat→Rg
 |0,K,b,z=>match xg K b z with
  | .error r=>r
  | .ok c=>⟨[c],K.wd c,3,K.width⟩
 |f+1,K,b,z=>match xg K b z with
  | .error r=>r
  | .ok c=>(yB f (K.step c) (b.drop K.width) (z+(K.wd c).length)).pre [c] (K.wd c) K.width
theorem sD {f:Nat}{K:Kn}{b:Bs}{z:Nat}{r:Rg}(h:xg K b z= .error r):yB f K b z=r:=by
 cases f<;>simp [yB,h]
theorem lI {K:Kn}{b:Bs}{z:Nat}{c:Int}(h:xg K b z= .ok c):yB 0 K b z=⟨[c],K.wd c,3,K.width⟩:=by simp [yB,h]
theorem nU {f:Nat}{K:Kn}{b:Bs}{z:Nat}{c:Int}(h:xg K b z= .ok c):yB (f+1) K b z=(yB f (K.step c) (b.drop K.width) (z+(K.wd c).length)).pre [c] (K.wd c) K.width:=by simp [yB,h]
theorem Rg.P5 (cs a:List Int)(d c:Bs)(n e:Nat)(r:Rg):(r.pre a c e).pre cs d n=r.pre (cs++a) (d++c) (n+e):=by
 simp [Rg.pre,Nat.add_assoc]
theorem mV {K:Kn}{b:Bs}{z:Nat} :(∀r,xg K b z= .error r→r.cs.length≤1∧r.d=[]∧r.use≤b.length∧0≤r.fin∧r.fin≤3)∧(∀c,xg K b z= .ok c→z+(K.wd c).length≤2000∧K.width≤b.length∧(c≠K.cl→K.fol c=true)∧c≠K.cl+1):=by
 unfold xg;split
 ·refine⟨fun r h=> ?_,fun c h=>(by cases h)⟩
  injection h with h;subst h;simp
 ·rename_i h0
  split
  ·refine⟨fun r h=> ?_,fun c h=>(by cases h)⟩
   injection h with h;subst h;simp;omega
  ·rename_i h1
   split
   ·refine⟨fun r h=> ?_,fun c h=>(by cases h)⟩
    injection h with h;subst h;simp;omega
   ·rename_i h2
    split
    ·refine⟨fun r h=> ?_,fun c h=>(by cases h)⟩
     injection h with h;subst h;simp;omega
    ·rename_i e
     refine⟨fun r h=>(by cases h),fun c h=> ?_⟩;injection h with h;subst h
     refine⟨by omega,oo,fun a=> ?_,h1⟩
     cases hf:K.fol (numBits K.o (b.take K.width):Int) with
     |false=>exact absurd ⟨a,hf⟩ h2
     |true=>rfl
theorem bH :∀(f:Nat) (K:Kn) (b:Bs) (z:Nat),z≤2000→(yB f K b z).cs.length≤f+1∧z+(yB f K b z).d.length≤2000∧(yB f K b z).use≤b.length∧0≤(yB f K b z).fin∧(yB f K b z).fin≤3:=by
 intro f
 induction f with
 |zero=>
  intro K b z i;obtain⟨h1,h2⟩:=mV (K:=K) (b:=b) (z:=z)
  cases h:xg K b z with
  |error r=>rw[sD h];obtain⟨a,g,c,d,e⟩:=h1 r h;rw[g];simp;omega
  |ok c=>rw[lI h];obtain⟨a,g,_⟩:=h2 c h;simp;omega
 |succ f k=>
  intro K b z i;obtain⟨h1,h2⟩:=mV (K:=K) (b:=b) (z:=z)
  cases h:xg K b z with
  |error r=>rw[sD h];obtain⟨a,g,c,d,e⟩:=h1 r h;rw[g];simp;omega
  |ok c=>
   rw[nU h];obtain⟨a,g,_⟩:=h2 c h;have:=k (K.step c) (b.drop K.width) (z+(K.wd c).length) a;simp only[List.length_drop] at this;simp only[Rg.pre,List.length_append,List.length_cons,List.length_nil];omega
def nZ :Kn→List Int→Nat→Prop
 |_,[],_=>True
 |K,c::r,n=>if c=K.cl+1 then r=[] else if c=K.cl then nZ K.cleared r n else K.fol c=true∧n≤2000∧nZ (K.after c) r (n+(K.any c).length)
def wR :Kn→List Int→Bs
 |_,[]=>[]
 |K,c::r=>if c=K.cl+1 then[] else K.wd c++wR (K.step c) r
theorem V3 {K:Kn} :K.step K.cl=K.cleared:=if_pos rfl
theorem ZE {K:Kn}{c:Int}(h:c≠K.cl):K.step c=K.after c:=if_neg h
theorem Lj {K:Kn} :K.wd K.cl=[]:=if_pos rfl
theorem PK {K:Kn}{c:Int}(h:c≠K.cl):K.wd c=K.any c:=if_neg h
theorem XU {K:Kn}{c:Int}{n:Nat}(d:n≤2000)(e:c≠K.cl→K.fol c=true)(f:c≠K.cl+1){r:List Int}(h:nZ (K.step c) r (n+(K.wd c).length)):nZ K (c::r) n:=by
 unfold nZ;rw[if_neg f];by_cases a:c=K.cl
 ·rw[if_pos a]
  subst a;rw[V3,Lj] at h;exact h
 ·rw[if_neg a]
  rw[ZE a,PK a] at h;exact⟨e a,d,h⟩
theorem U6 :∀(f:Nat) (K:Kn) (b:Bs) (z:Nat),z≤2000→nZ K (yB f K b z).cs z∧(yB f K b z).d=wR K (yB f K b z).cs:=by
 have k:∀(K:Kn) (b:Bs) (z:Nat) (r:Rg),xg K b z= .error r→nZ K r.cs z∧r.d=wR K r.cs:=by
  intro K b z r h;unfold xg at h;split at h
  ·injection h with h;subst h;exact⟨trivial,rfl⟩
  ·split at h
   ·rename_i h1
    injection h with h;subst h
    simp only[nZ,wR,if_pos h1];simp
   ·split at h
    ·injection h with h;subst h;exact⟨trivial,rfl⟩
    ·split at h
     ·injection h with h;subst h;exact⟨trivial,rfl⟩
     ·cases h
 intro f
 induction f with
 |zero=>
  intro K b z g;obtain⟨h1,h2⟩:=mV (K:=K) (b:=b) (z:=z)
  cases h:xg K b z with
  |error r=>rw[sD h];exact k K b z r h
  |ok c=>
   rw[lI h];obtain⟨a,_,i,e⟩:=h2 c h;refine⟨XU g i e trivial,?_⟩;simp only[wR,if_neg e,List.append_nil]
 |succ f m=>
  intro K b z g;obtain⟨h1,h2⟩:=mV (K:=K) (b:=b) (z:=z)
  cases h:xg K b z with
  |error r=>rw[sD h];exact k K b z r h
  |ok c=>
   rw[nU h];obtain⟨a,_,i,e⟩:=h2 c h;obtain⟨o,q⟩:=m (K.step c) (b.drop K.width) (z+(K.wd c).length) a;refine⟨XU g i e o,?_⟩;simp only[Rg.pre,List.cons_append,List.nil_append,wR,if_neg e,q]
def sF (K:Kn)(l:Bs):Bs×Int×Int:=
 if 4000<l.length then([],4,0) else
  ((yB 3099 K (zO K.o l) 0).d,(yB 3099 K (zO K.o l) 0).fin,if(yB 3099 K (zO K.o l) 0).fin=1 then(l.length:Int) else(((yB 3099 K (zO K.o l) 0).use+7) / 8:Nat))
theorem YO (K:Kn)(l:Bs):(sF K l).1.length≤2000:=by
 unfold sF;split
 ·simp
 ·have:=bH 3099 K (zO K.o l) 0 oo
  simp only;omega
theorem Wu (K:Kn)(c:Int)(r:List Int):K.bits (c::r)=yg K.o c.toNat K.width++(K.step c).bits r:=by
 have a:(K.step c).o=K.o:=(by unfold Kn.step;split<;>rfl);unfold Kn.bits;rw[nO,List.zip_cons_cons,List.flatMap_cons,a]
theorem Kq {K:Kn}(h:K.ok):K.great.toNat<2 ^ K.width:=WM _ _ (by unfold Kn.width;omega)
theorem O1 :∀(cs:List Int) (K:Kn) (z f:Nat) (a:Bs),K.ok→vG K cs z→cs.length≤f+1→z+(wR K cs).length≤2000→
 yB f K (K.bits cs++a) z=⟨cs,wR K cs,0,(K.bits cs).length⟩:=by
 intro cs
 induction cs with
 |nil=>intro K z f a _ h;exact absurd h (by simp [vG])
 |cons c r A=>
  intro K z f a hk d s t;have G:=K.tJ hk;have H:=hk.bd;have I:=Kq hk;rw[vG] at d;have J:0≤c∧c≤K.great:=by
   split at d
   ·omega
   ·split at d
    ·omega
    ·obtain⟨i,_,_⟩:=d
     unfold Kn.fol at i;simp only[decide_eq_true_eq] at i;unfold codeOk at i;rcases i with i|⟨h1,h2⟩
     ·omega
     ·unfold Kn.great;rw[if_pos h1];unfold Kn.nx at*;have:=xu K.l (by have:=hk.st;unfold vk at this;omega) (by have:=hk.st;unfold vk at this;omega);omega
  have q:K.bits (c::r)++a=yg K.o c.toNat K.width++((K.step c).bits r++a):=(by rw[Wu,List.append_assoc]);have m:(yg K.o c.toNat K.width).length=K.width:=xP _ _ _;have B:(K.bits (c::r)++a).take K.width=yg K.o c.toNat K.width:=(by rw[q];exact List.take_left' m);have C:(K.bits (c::r)++a).drop K.width=(K.step c).bits r++a:=(by rw[q];exact List.drop_left' m);have u:(numBits K.o ((K.bits (c::r)++a).take K.width):Int)=c:=(by rw[B,NZ _ _ _ (by omega)];omega);have v:¬(K.bits (c::r)++a).length<K.width:=(by rw[q,List.length_append,m];omega);have w:(K.bits (c::r)).length=K.width+((K.step c).bits r).length:=(by rw[Wu,List.length_append,m]);by_cases e:c=K.cl+1
  ·rw[if_pos e] at d
   subst d;have h1:xg K (K.bits [c]++a) z= .error ⟨[c],[],0,K.width⟩:=by
    unfold xg;rw[if_neg v,u,if_pos e]
   rw[sD h1];have h2:(K.bits [c]).length=K.width:=(by rw[w];simp [Kn.bits]);rw[h2];simp [wR,e]
  ·have D:wR K (c::r)=K.wd c++wR (K.step c) r:=by rw[wR,if_neg e]
   rw[D] at t⊢;rw[List.length_append] at t;rw[if_neg e] at d;have x:c≠K.cl→K.fol c=true:=fun h=>(by rw[if_neg h] at d;exact d.1);have y:vG (K.step c) r (z+(K.wd c).length):=by
    by_cases k:c=K.cl
    ·rw[if_pos k] at d
     subst k;rw[V3,Lj];exact d
    ·rw[if_neg k] at d
     rw[ZE k,PK k];exact d.2.2
   have h1:xg K (K.bits (c::r)++a) z= .ok c:=by
    unfold xg;rw[if_neg v,u,if_neg e,if_neg (fun h=>by rw[x h.1] at h;cases h.2),if_neg (by omega)]
   have E:r≠[]:=fun h=>(by subst h;exact absurd y (by simp [vG]));obtain⟨g,F⟩:∃g,f=g+1:=⟨f - 1,by have:=List.length_pos_iff.2 E;simp at s;omega⟩;subst F;rw[nU h1,C,A (K.step c) _ g a (step_ok hk x) y (by simp at s;omega) (by omega),w];simp [Rg.pre]
theorem pq :∀(n:Nat) (K:Kn) (t:Bs),K.ok→t.all (uq K.l)=true→t.length≤n→wR K (yc n K t++[K.cl+1])=t
 |0,K,t,_,_,q=>by
  have:t=[]:=List.eq_nil_of_length_eq_zero oo;subst this;simp [yc,wR]
 |n+1,K,t,hk,d,q=>by
  unfold yc;split
  ·rename_i h;subst h;simp [wR]
  ·rename_i e
   have r:=K.rC hk e d;have s:=K.yQ t;have x:=K.xE e;obtain⟨f,g,y⟩:=r;have a:=aF hk f;have i:=K.uy hk f;have z:(t.drop (K.longest t).length).length=t.length - (K.longest t).length:=(by simp);have k:(t.drop (K.longest t).length).all (uq K.l)=true:=qB _ _ _ d;have m:K.longest t++t.drop (K.longest t).length=t:=by
    conv=>lhs;lhs;rw[s.1]
    rw[List.take_append_drop]
   have o:(K.after (K.find (K.longest t))).cl=K.cl:=rfl;have u:((K.after (K.find (K.longest t))).cleared).cl=K.cl:=rfl;simp only;split
   ·have c:=pq n _ _ (Kn.xy i) k oo
    rw[u] at c;rw[List.cons_append,wR,if_neg a.2.2.2,PK a.2.2.1,ZE a.2.2.1,g,List.cons_append,wR,o,if_neg (by omega)];have v:(K.after (K.find (K.longest t))).wd K.cl=[]:=if_pos rfl;have w:(K.after (K.find (K.longest t))).step K.cl=(K.after (K.find (K.longest t))).cleared:=if_pos rfl;rw[v,w,c,List.nil_append,m]
   ·have c:=pq n _ _ i k oo
    rw[o] at c;rw[List.cons_append,wR,if_neg a.2.2.2,PK a.2.2.1,ZE a.2.2.1,g,c,m]
theorem VH {K:Kn}(hk:K.ok){t:Bs}(a:t.all (uq K.l)=true):wR K (K.yw t)=t:=by
 unfold Kn.yw;rw[wR,if_neg (by omega),Lj,V3,List.nil_append];exact pq _ _ _ (Kn.xy hk) a (Nat.le_refl _)
theorem OY (n q:Nat)(a:q≤1):nK (2*n+q) 0=UInt8.ofNat (48+q):=by
 unfold nK;congr 1;omega
theorem Nv (n q i:Nat)(a:q≤1):nK (2*n+q) (i+1)=nK n i:=by
 unfold nK;rw[Nat.pow_succ,Nat.mul_comm (2 ^ i) 2,←Nat.div_div_eq_div_mul,show(2*n+q) / 2=n by omega]
theorem dA (l:Bs)(h:yU l=true):vz (yS l) l.length=l.reverse:=by
 induction l using xx with
 |h0=>rfl
 |h1 l c a=>
  unfold yU at h a;rw[List.all_append,Bool.and_eq_true] at h;have h1:=a h.1;have h2:c=48∨c=49:=(by simpa using h.2);have d:c.toNat - 48≤1:=(by rcases h2 with e|e<;>subst e<;>decide);have f:UInt8.ofNat (48+(c.toNat - 48))=c:=(by rcases h2 with e|e<;>subst e<;>decide);rw[vO,List.length_append,List.length_singleton,List.reverse_append];unfold vz at h1⊢;rw[List.range_succ_eq_map,List.map_cons,OY _ _ d,f,List.map_map];show c::_=c::_;congr 1;rw[←h1];apply List.map_congr_left;intro i _;exact Nv _ _ _ d
theorem KD (o:Int)(l:Bs)(h:yU l=true):yg o (numBits o l) l.length=l:=by
 unfold yg numBits;split
 ·have:=dA l.reverse (by rw[nH];exact h)
  rwa [List.length_reverse,List.reverse_reverse] at this
 ·rw[dA l h,List.reverse_reverse]
theorem fB {α c:Type}{l:List α}{f g:α→List c}(h:∀x ∈ l,f x=g x):l.flatMap f=l.flatMap g:=by
 induction l with
 |nil=>rfl
 |cons a l d=>rw[List.flatMap_cons,List.flatMap_cons,h a List.mem_cons_self,d fun x e=>h x (List.mem_cons_of_mem _ e)]
theorem OH {l:Bs}(n:Nat)(h:8*n=l.length):((List.range n).flatMap fun i=>(l.drop (8*i)).take 8)=l:=by
 induction n generalizing l with
 |zero=>have:l=[]:=List.eq_nil_of_length_eq_zero oo
        subst this;rfl
 |succ n a=>
  rw[List.range_succ,List.flatMap_append];have h1:=a (l:=l.take (8*n)) (by rw[List.length_take];omega);have h2:((List.range n).flatMap fun i=>(l.drop (8*i)).take 8)=(List.range n).flatMap fun i=>((l.take (8*n)).drop (8*i)).take 8:=by
   apply fB;intro i c;rw[List.mem_range] at c;rw[List.drop_take,List.take_take,Nat.min_eq_left (by omega)]
  rw[h2,h1];simp only[List.flatMap_cons,List.flatMap_nil,List.append_nil];rw[List.take_of_length_le (l:=l.drop (8*n)) (by simp;omega),List.take_append_drop]
theorem rY (l:Bs)(a n:Nat)(h:yU l=true):yU ((l.drop a).take n)=true:=by
 unfold yU at*;rw[List.all_eq_true] at*;exact fun x c=>h x (List.mem_of_mem_drop (List.mem_of_mem_take c))
theorem unpack_pack (o:Int)(l:Bs)(h:yU l=true):zO o (tK o l)=uZ l:=by
 have a:yU (uZ l)=true:=by
  unfold uZ yU at*;rw[List.all_append,h];simp
 have k:=sN l;generalize e:uZ l=P at*;have f:8*(P.length / 8)=P.length:=oo;unfold zO tK;rw[e,List.flatMap_map]
 conv=>rhs;rw[←OH (P.length / 8) f]
 apply fB;intro i g;rw[List.mem_range] at g;have c:((P.drop (8*i)).take 8).length=8:=(by rw[List.length_take,List.length_drop];omega);have d:=pY o _ (rY P (8*i) 8 a);rw[c] at d;have:=KD o _ (rY P (8*i) 8 a);rw[c] at this;rw[UInt8.toNat_ofNat',Nat.mod_eq_of_lt (by simpa using d),this]
theorem MH {K:Kn}(hk:K.ok){t:Bs}(a:t.all (uq K.l)=true)(d:t.length≤2000)(i:(K.yw t).length≤3100)(k:(K.comp t).length≤4000):sF K (K.comp t)=(t,0,((K.comp t).length:Int)):=by
 have e:=aP hk a d;have c:=VH hk a;have f:=O1 (K.yw t) K 0 3099 (List.replicate ((8 - (K.bits (K.yw t)).length % 8) % 8) 48) hk e (by omega) (by rw[c];omega);have g:zO K.o (K.comp t)=uZ (K.bits (K.yw t)):=unpack_pack _ _ (iV _ _);have h:(K.comp t).length=((K.bits (K.yw t)).length+7) / 8:=eU _ _;unfold sF;rw[if_neg (by omega),g];unfold uZ;rw[f,c];simp only[if_neg (show ¬(0:Int)=1 by omega),h]
