import Derived.Test.YtfppmajoidkooaaGreatDoorUGZ
import Derived.Test.YtfppmajoidkooaaGreatDoorUGS1
import Derived.Test.YtfppmajoidkooaaGreatDoorUGA
set_option linter.unusedVariables false
set_option linter.unusedSimpArgs false
namespace Go.Proofs.YtfppmajoidkooaaGreatDoor
structure Nd where
 par : Int
 last : UInt8
 first : UInt8
 code : Int
structure Tr where
 nds : List Nd
 prs : List Nat
def Tr.xh (T:Tr)(cl c:Int):Nat:=if cl+1<c then T.prs.getD (c - cl - 2).toNat 0 else c.toNat
def Qy (par:Nat)(b:UInt8)(d:Nd):Bool:=decide (d.par=(par:Int))&&d.last==b
def Tr.kid (T:Tr)(par:Nat)(b:UInt8):Option Nat:=T.nds.findIdx? (Qy par b)
def Tr.learn (cl:Int)(T:Tr)(p:Pr):Tr:=
 match T.kid (T.xh cl p.1) (UInt8.ofNat p.2.toNat) with
 |some n=>⟨T.nds,T.prs++[n]⟩
 |none=>⟨T.nds++[⟨T.xh cl p.1,UInt8.ofNat p.2.toNat,(T.nds[T.xh cl p.1]?.getD ⟨0,0,0,0⟩).first,cl+2+T.prs.length⟩],T.prs++[T.nds.length]⟩
def Tr.lits (cl:Int):Tr:=⟨(List.range cl.toNat).map fun b=>⟨-1,UInt8.ofNat b,UInt8.ofNat b,b⟩,[]⟩
def rH (cl:Int)(ps:List Pr):Tr:=ps.foldl (Tr.learn cl) (Tr.lits cl)
theorem qA (cl:Int)(ps:List Pr)(p:Pr):rH cl (ps++[p])=(rH cl ps).learn cl p:=by unfold rH;rw[List.foldl_append];rfl
def xX (nds:List Nd):List Bs:=nds.foldl (fun ws d=>ws++[if d.par<0 then[d.last] else ws.getD d.par.toNat []++[d.last]]) []
theorem pR (nds:List Nd)(d:Nd):xX (nds++[d])=xX nds++[if d.par<0 then[d.last] else(xX nds).getD d.par.toNat []++[d.last]]:=by unfold xX;rw[List.foldl_append];rfl
theorem uN (nds:List Nd):(xX nds).length=nds.length:=by
 induction nds using y5 with
 |h0=>rfl
 |h1 nds d ih=>rw[pR,List.length_append,ih,List.length_append];rfl
structure sH (cl : Int) (ps : List Pr) (T : Tr) : Prop where
 lits : cl.toNat ≤ T.nds.length
 lit : ∀ i (h : i < cl.toNat), ∃ d, T.nds[i]? = some d ∧ d.par = -1 ∧ d.last = UInt8.ofNat i ∧ d.code = (i : Int)
 len : T.prs.length = ps.length
 pr : ∀ j (h : j < T.prs.length), T.prs[j] < T.nds.length
 prw : ∀ j (h : j < T.prs.length), (xX T.nds)[T.prs[j]]? = (words cl ps)[j]?
 up : ∀ i (h : i < T.nds.length), T.nds[i].par < (i : Int) ∧ (cl.toNat ≤ i → 0 ≤ T.nds[i].par)
 uniq : ∀ i j (hi : i < T.nds.length) (hj : j < T.nds.length), T.nds[i].par = T.nds[j].par → T.nds[i].last = T.nds[j].last → i = j
 first : ∀ i (h : i < T.nds.length), ∃ w, (xX T.nds)[i]? = some w ∧ w ≠ [] ∧ (T.nds[i].first.toNat : Int) = wE w
 code : ∀ i (h : i < T.nds.length), cl.toNat ≤ i → ∃ (j : Nat) (hj : j < T.prs.length), T.nds[i].code = cl + 2 + (j : Int) ∧ T.prs[j] = i ∧ ∀ j' (h' : j' < j), T.prs[j']'oo ≠ i
theorem Tf (a b:List Nd):∃vs,xX (a++b)=xX a++vs:=by
 induction b using y5 with
 |h0=>exact⟨[],by simp⟩
 |h1 b d ih=>
  obtain⟨vs,h⟩:=ih;rw[←List.append_assoc,pR,h,List.append_assoc];exact⟨_,rfl⟩
theorem Zt {nds:List Nd}(hup:∀i (h:i<nds.length),nds[i].par<(i:Int))(i:Nat)(hi:i<nds.length):
 (xX nds)[i]? =some (if nds[i].par<0 then[nds[i].last] else(xX nds).getD nds[i].par.toNat []++[nds[i].last]):=by
 have e:nds=nds.take i++(nds[i]::nds.drop (i+1)):=(by rw[List.getElem_cons_drop,List.take_append_drop]);have e2:nds=(nds.take i++[nds[i]])++nds.drop (i+1):=(by rw[List.append_assoc];exact e);obtain⟨vs,hv⟩:=Tf (nds.take i++[nds[i]]) (nds.drop (i+1));rw[←e2,pR] at hv;have hl:(xX (nds.take i)).length=i:=(by rw[uN];simp;omega);have hg:∀k,k<i→(xX nds).getD k []=(xX (nds.take i)).getD k []:=fun k hk=>by
  simp only[List.getD_eq_getElem?_getD];rw[hv,List.append_assoc,List.getElem?_append_left (by omega)]
 have hp:=hup i hi;have hR:(if nds[i].par<0 then[nds[i].last] else(xX nds).getD nds[i].par.toNat []++[nds[i].last])=(if nds[i].par<0 then[nds[i].last] else(xX (nds.take i)).getD nds[i].par.toNat []++[nds[i].last]):=by
  by_cases h0:nds[i].par<0
  ·rw[if_pos h0,if_pos h0]
  ·rw[if_neg h0,if_neg h0,hg _ (by omega)]
 rw[hR,hv,List.append_assoc,List.getElem?_append_right (by omega),hl,Nat.sub_self];rfl
theorem sH.w {cl:Int}{ps:List Pr}{T:Tr}(h:sH cl ps T)(i:Nat)(hi:i<T.nds.length):
 (xX T.nds)[i]? =some (if T.nds[i].par<0 then[T.nds[i].last] else(xX T.nds).getD T.nds[i].par.toNat []++[T.nds[i].last]):=
 Zt (fun i h'=>(h.up i h').1) i hi
theorem PQ {cl:Int}(h0:0≤cl)(h1:cl≤256):sH cl [] (Tr.lits cl):=by
 have hl:(Tr.lits cl).nds.length=cl.toNat:=(by simp [Tr.lits]);have hg:∀i (h:i<(Tr.lits cl).nds.length),(Tr.lits cl).nds[i]=⟨-1,UInt8.ofNat i,UInt8.ofNat i,i⟩:=fun i h=>(by simp [Tr.lits]);have hup:∀i (h:i<(Tr.lits cl).nds.length),(Tr.lits cl).nds[i].par<(i:Int):=fun i h=>(by rw[hg i h];show(-1:Int)<i;omega);refine⟨by omega,fun i hi=>⟨⟨-1,UInt8.ofNat i,UInt8.ofNat i,i⟩,?_,rfl,rfl,rfl⟩,rfl,fun j hj=>by simp [Tr.lits] at hj,fun j hj=>by simp [Tr.lits] at hj,fun i hi=>⟨hup i hi,fun h=>by omega⟩,fun i j hi hj _ h2=> ?_,fun i hi=> ?_,fun i hi h=>by omega⟩
 ·rw[List.getElem?_eq_getElem (by omega),hg i (by omega)]
 ·rw[hg i hi,hg j hj] at h2
  have:=congrArg UInt8.toNat h2;simp only[UInt8.toNat_ofNat'] at this;omega
 ·refine⟨_,Zt hup i hi,?_,?_⟩
  ·rw[hg i hi];simp
  ·rw[hg i hi];simp [wE]
theorem sH.node {cl:Int}{ps:List Pr}{T:Tr}(h:sH cl ps T){c:Int}(hc:codeOk cl ps.length c):
 T.xh cl c<T.nds.length∧(xX T.nds)[T.xh cl c]? =some (wAt cl (words cl ps) c):=by
 have hl:=h.len;unfold Tr.xh;rcases hc with⟨h0,h1⟩|⟨h0,h1⟩
 ·rw[if_neg (by omega)]
  have hll:=h.lits;obtain⟨d,hd,hd1,hd2,hd3⟩:=h.lit c.toNat oo;have hlt:c.toNat<T.nds.length:=oo;rw[List.getElem?_eq_getElem hlt] at hd;injection hd with hd
  refine⟨hlt,?_⟩;rw[h.w _ hlt,hd,hd1,if_pos (by omega),hd2,kP _ _ _ h1]
 ·rw[if_pos h0]
  have hj:(c - cl - 2).toNat<T.prs.length:=oo;have e:T.prs.getD (c - cl - 2).toNat 0=T.prs[(c - cl - 2).toNat]:=(by rw[List.getD_eq_getElem?_getD,List.getElem?_eq_getElem hj];rfl);rw[e];refine⟨h.pr _ hj,?_⟩;rw[h.prw _ hj];have hw:(c - cl - 2).toNat<(words cl ps).length:=(by rw[xO];omega);unfold wAt;rw[if_neg (by omega),List.getD_eq_getElem?_getD,List.getElem?_eq_getElem hw];rfl
theorem fD {T:Tr}{par n:Nat}{b:UInt8}(h:T.kid par b=some n):∃hn:n<T.nds.length,T.nds[n].par=(par:Int)∧T.nds[n].last=b:=by
 unfold Tr.kid at h;rw[List.findIdx?_eq_some_iff_getElem] at h;obtain⟨hn,h1,_⟩:=h;unfold Qy at h1;simp at h1;exact⟨hn,h1.1,h1.2⟩
theorem ZR {T:Tr}{par:Nat}{b:UInt8}(h:T.kid par b=none)(n:Nat)(hn:n<T.nds.length):¬(T.nds[n].par=(par:Int)∧T.nds[n].last=b):=by
 unfold Tr.kid at h;rw[List.findIdx?_eq_none_iff] at h;have:=h T.nds[n] (List.getElem_mem hn);unfold Qy at this;simp at this;intro ⟨h1,h2⟩;exact this h1 h2
theorem Xq {w:Bs}(x:Bs)(h:w≠[]):wE (w++x)=wE w:=by
 cases w with
 |nil=>exact absurd rfl h
 |cons a r=>rfl
theorem sH.learn {cl:Int}{ps:List Pr}{T:Tr}{p:Pr}(h:sH cl ps T)(hp:codeOk cl ps.length p.1):sH cl (ps++[p]) (T.learn cl p):=by
 obtain⟨hn1,hn2⟩:=h.node hp;have hlen:=h.len;have hwp:=mr cl ps p;have hwl:=xO cl ps;generalize hP:T.xh cl p.1=P at*;generalize hB:UInt8.ofNat p.2.toNat=B at*;generalize hW:wAt cl (words cl ps) p.1=W at*;have hold:∀(nds:List Nd),(∃vs,xX nds=xX T.nds++vs)→∀j (hj:j<T.prs.length),(xX nds)[T.prs[j]]? =(words cl (ps++[p]))[j]? :=fun nds ⟨vs,hv⟩ j hj=>by
  have h1:=h.pr j hj;rw[hv,List.getElem?_append_left (by rw[uN];exact h1),h.prw j hj,hwp,List.getElem?_append_left (by omega)]
 unfold Tr.learn;rw[hP,hB]
 cases hk:T.kid P B with
 |some n=>
  obtain⟨hn,hn3,hn4⟩:=fD hk;have hwn:(xX T.nds)[n]? =some (W++[B]):=by
   rw[h.w n hn,hn3,if_neg (by omega),hn4,List.getD_eq_getElem?_getD,Int.toNat_natCast,hn2];rfl
  refine⟨h.lits,h.lit,by simp [hlen],fun j hj=> ?_,fun j hj=> ?_,h.up,h.uniq,h.first,fun i hi hc=> ?_⟩
  ·by_cases hj2:j<T.prs.length
   ·simp only[List.getElem_append_left hj2];exact h.pr j hj2
   ·have:j=T.prs.length:=by simp at hj;omega
    subst this;simpa using hn
  ·by_cases hj2:j<T.prs.length
   ·simp only[List.getElem_append_left hj2];exact hold T.nds ⟨[],by simp⟩ j hj2
   ·have:j=T.prs.length:=by simp at hj;omega
    subst this;simp only[List.getElem_concat_length];rw[hwn,hwp,List.getElem?_append_right (by omega),hwl,hlen];simp
  ·obtain⟨j,hj,h1,h2,h3⟩:=h.code i hi hc
   refine⟨j,by simp;omega,h1,by simp only[List.getElem_append_left hj];exact h2,fun j' h'=> ?_⟩;simp only[List.getElem_append_left (show j'<T.prs.length by omega)];exact h3 j' h'
 |none=>
  have hno:=ZR hk;generalize hF:(T.nds[P]?.getD ⟨0,0,0,0⟩).first=F
  generalize hD:(⟨(P:Int),B,F,cl+2+(T.prs.length:Int)⟩:Nd)=D;have hD1:D.par=(P:Int):=(by rw[←hD]);have hD2:D.last=B:=(by rw[←hD]);have hD3:D.first=F:=(by rw[←hD]);have hD4:D.code=cl+2+(T.prs.length:Int):=(by rw[←hD]);have hvs:=pR T.nds D;have hnew:(xX (T.nds++[D]))[T.nds.length]? =some (W++[B]):=by
   rw[hvs,List.getElem?_append_right (by rw[uN];exact Nat.le_refl _),uN,hD1,if_neg (by omega),hD2,List.getD_eq_getElem?_getD,Int.toNat_natCast,hn2];simp
  have hll:=h.lits;refine⟨by simp;omega,fun i hi=> ?_,by simp [hlen],fun j hj=> ?_,fun j hj=> ?_,fun i hi=> ?_,fun i j hi hj e1 e2=> ?_,fun i hi=> ?_,fun i hi hc=> ?_⟩
  ·obtain⟨d,hd,hd2⟩:=h.lit i hi
   exact⟨d,by rw[List.getElem?_append_left (by omega)];exact hd,hd2⟩
  ·by_cases hj2:j<T.prs.length
   ·have:=h.pr j hj2
    simp only[List.getElem_append_left hj2,List.length_append];omega
   ·have:j=T.prs.length:=by simp at hj;omega
    subst this;simp
  ·by_cases hj2:j<T.prs.length
   ·simp only[List.getElem_append_left hj2];exact hold _ ⟨_,hvs⟩ j hj2
   ·have:j=T.prs.length:=by simp at hj;omega
    subst this;simp only[List.getElem_concat_length];rw[hnew,hwp,List.getElem?_append_right (by omega),hwl,hlen];simp
  ·by_cases hi2:i<T.nds.length
   ·simp only[List.getElem_append_left hi2];exact h.up i hi2
   ·have:i=T.nds.length:=by simp at hi;omega
    subst this;simp only[List.getElem_concat_length,hD1];omega
  ·by_cases hi2:i<T.nds.length<;>by_cases hj2:j<T.nds.length
   ·simp only[List.getElem_append_left hi2,List.getElem_append_left hj2] at e1 e2
    exact h.uniq i j hi2 hj2 e1 e2
   ·have:j=T.nds.length:=by simp at hj;omega
    subst this;simp only[List.getElem_append_left hi2,List.getElem_concat_length,hD1,hD2] at e1 e2;exact absurd ⟨e1,e2⟩ (hno i hi2)
   ·have:i=T.nds.length:=by simp at hi;omega
    subst this;simp only[List.getElem_append_left hj2,List.getElem_concat_length,hD1,hD2] at e1 e2;exact absurd ⟨e1.symm,e2.symm⟩ (hno j hj2)
   ·simp at hi hj;omega
  ·by_cases hi2:i<T.nds.length
   ·obtain⟨w,h1,h2,h3⟩:=h.first i hi2
    refine⟨w,by rw[hvs,List.getElem?_append_left (by rw[uN];exact hi2)];exact h1,h2,?_⟩;simp only[List.getElem_append_left hi2];exact h3
   ·have:i=T.nds.length:=by simp at hi;omega
    subst this;obtain⟨w,h1,h2,h3⟩:=h.first P hn1;rw[hn2] at h1;injection h1 with h1
    subst h1;refine⟨_,hnew,by simp,?_⟩;simp only[List.getElem_concat_length,hD3];rw[Xq _ h2,←h3,←hF,List.getElem?_eq_getElem hn1];rfl
  ·by_cases hi2:i<T.nds.length
   ·obtain⟨j,hj,h1,h2,h3⟩:=h.code i hi2 hc
    refine⟨j,by simp;omega,by simp only[List.getElem_append_left hi2];exact h1,by simp only[List.getElem_append_left hj];exact h2,fun j' h'=> ?_⟩;simp only[List.getElem_append_left (show j'<T.prs.length by omega)];exact h3 j' h'
   ·have:i=T.nds.length:=by simp at hi;omega
    subst this;refine⟨T.prs.length,by simp,by simp only[List.getElem_concat_length,hD4],by simp,fun j' h'=> ?_⟩;simp only[List.getElem_append_left h'];have:=h.pr j' h';omega
theorem Qh {cl:Int}(h0:0≤cl)(h1:cl≤256){ps:List Pr}(hp:Zl cl ps):sH cl ps (rH cl ps):=by
 induction ps using y5 with
 |h0=>exact PQ h0 h1
 |h1 ps p ih=>
  rw[qA];have h2:=hp ps.length (by simp);simp at h2;have h3:=ih (by have:=kW hp ps.length;rwa [List.take_left' rfl] at this);exact h3.learn h2.1
section
variable {cl : Int} {ps : List Pr} {T : Tr}
def Tr.word (T:Tr)(i:Nat):Bs:=(xX T.nds).getD i []
theorem sH.rf (h:sH cl ps T)(i:Nat)(hi:i<T.nds.length):T.word i=if T.nds[i].par<0 then[T.nds[i].last] else T.word T.nds[i].par.toNat++[T.nds[i].last]:=by
 unfold Tr.word;rw[List.getD_eq_getElem?_getD,h.w i hi];rfl
theorem sH.kU (h:sH cl ps T)(i:Nat)(hi:i<T.nds.length):T.word i≠[]:=by
 rw[h.rf i hi];split<;>simp
theorem sH.distinct (h:sH cl ps T):∀(n i j:Nat),i<n→(hi:i<T.nds.length)→(hj:j<T.nds.length)→T.word i=T.word j→i=j:=by
 intro n
 induction n with
 |zero=>intro i j h0;omega
 |succ n ih=>
  intro i j hn hi hj he;rw[h.rf i hi,h.rf j hj] at he;have hui:=h.up i hi;have huj:=h.up j hj;by_cases h1:T.nds[i].par<0<;>by_cases h2:T.nds[j].par<0
  ·rw[if_pos h1,if_pos h2] at he
   have h3:¬cl.toNat≤i:=fun hc=>(by have:=hui.2 hc;omega);have h4:¬cl.toNat≤j:=fun hc=>(by have:=huj.2 hc;omega);obtain⟨d,hd,hd1,hd2,_⟩:=h.lit i oo;obtain⟨e,he',he1,he2,_⟩:=h.lit j oo;rw[List.getElem?_eq_getElem hi] at hd;rw[List.getElem?_eq_getElem hj] at he';injection hd with hd
   injection he' with he'
   injection he with he
   exact h.uniq i j hi hj (by rw[hd,he',hd1,he1]) he
  ·rw[if_pos h1,if_neg h2] at he
   have h5:=congrArg List.length he;have h6:=List.length_pos_iff.2 (h.kU T.nds[j].par.toNat oo);rw[List.length_append,List.length_singleton,List.length_singleton] at h5;omega
  ·rw[if_neg h1,if_pos h2] at he
   have h5:=congrArg List.length he;have h6:=List.length_pos_iff.2 (h.kU T.nds[i].par.toNat oo);rw[List.length_append,List.length_singleton,List.length_singleton] at h5;omega
  ·rw[if_neg h1,if_neg h2] at he
   obtain⟨e1,e2⟩:=List.append_inj' he rfl;have hpp:=ih T.nds[i].par.toNat T.nds[j].par.toNat oo oo oo e1;injection e2 with e2
   exact h.uniq i j hi hj oo e2
theorem sH.inj (h:sH cl ps T){i j:Nat}(hi:i<T.nds.length)(hj:j<T.nds.length)(he:T.word i=T.word j):i=j:=h.distinct (i+1) i j oo hi hj he
theorem sH.closed (h:sH cl ps T):∀(n i t:Nat),i<n→(hi:i<T.nds.length)→1≤t→t≤(T.word i).length→∃j,j<T.nds.length∧T.word j=(T.word i).take t:=by
 intro n
 induction n with
 |zero=>intro i t h0;omega
 |succ n ih=>
  intro i t hn hi h1 h2;by_cases ht:t=(T.word i).length
  ·exact⟨i,hi,by rw[ht,List.take_length]⟩
  ·have hw:=h.rf i hi
   have hui:=h.up i hi;by_cases hp:T.nds[i].par<0
   ·rw[if_pos hp] at hw
    rw[hw] at h2 ht;simp at h2 ht;omega
   ·rw[if_neg hp] at hw
    have hl:(T.word i).length=(T.word T.nds[i].par.toNat).length+1:=(by rw[hw];simp);obtain⟨j,hj,e⟩:=ih T.nds[i].par.toNat t oo oo h1 oo;refine⟨j,hj,?_⟩;rw[e,hw,List.take_append_of_le_length (by omega)]
end
def Tr.desc (T:Tr):Nat→Bs→Nat×Nat
 |n,[]=>(n,0)
 |n,b::r=>match T.kid n b with
  |some m=>((T.desc m r).1,(T.desc m r).2+1)
  |none=>(n,0)
section
variable {cl : Int} {ps : List Pr} {T : Tr}
theorem sH.Nl (h:sH cl ps T){n m:Nat}{b:UInt8}(hk:T.kid n b=some m):m<T.nds.length∧T.word m=T.word n++[b]:=by
 obtain⟨hm,h1,h2⟩:=fD hk;refine⟨hm,?_⟩;rw[h.rf m hm,h1,if_neg (by omega),h2,Int.toNat_natCast]
theorem sH.WE (h:sH cl ps T):∀(rest:Bs) (n:Nat),n<T.nds.length→
 (T.desc n rest).1<T.nds.length∧(T.desc n rest).2≤rest.length∧T.word (T.desc n rest).1=T.word n++rest.take (T.desc n rest).2∧(∀b,rest[(T.desc n rest).2]? =some b→T.kid (T.desc n rest).1 b=none)
 |[],n,hn=>by simp [Tr.desc,hn]
 |b::r,n,hn=>by
  unfold Tr.desc
  cases hk:T.kid n b with
  |none=>simp [hn,hk]
  |some m=>
   obtain⟨hm,hw⟩:=h.Nl hk;obtain⟨h1,h2,h3,h4⟩:=sH.WE h r m hm;refine⟨h1,by simp;omega,?_,fun c hc=>h4 c (by simpa using hc)⟩;simp only;rw[h3,hw,List.take_succ_cons,List.append_assoc];rfl
theorem sH.O0 (h:sH cl ps T)(rest:Bs)(n:Nat)(hn:n<T.nds.length)(i:Nat)(hi:i<T.nds.length)(hp:T.word i=(T.word n++rest).take (T.word i).length):
 (T.word i).length≤(T.word (T.desc n rest).1).length:=by
 obtain⟨h1,h2,h3,h4⟩:=h.WE rest n hn;generalize T.desc n rest=x at*;rcases Nat.lt_or_ge (T.word x.1).length (T.word i).length with hlt|hge
 ·exfalso
  have hne:=List.length_pos_iff.2 (h.kU x.1 h1);have hL:(T.word x.1).length=(T.word n).length+x.2:=(by rw[h3,List.length_append,List.length_take];omega);obtain⟨j,hj,hw⟩:=h.closed (i+1) i ((T.word x.1).length+1) oo hi oo oo;have hil:(T.word i).length≤(T.word n++rest).length:=by
   have:=congrArg List.length hp;rw[List.length_take] at this;omega
  have hxr:x.2<rest.length:=(by rw[List.length_append] at hil;omega);have hd:(T.word n++rest).take (T.word x.1).length=T.word x.1:=by
   rw[hL,List.take_length_add_append,←h3]
  have hdn:(T.word i).take ((T.word x.1).length+1)=T.word x.1++[rest[x.2]]:=by
   rw[hp,List.take_take,Nat.min_eq_left (by omega),List.take_succ_eq_append_getElem (by rw[List.length_append];omega),hd,List.getElem_append_right (by omega)];simp only[hL,Nat.add_sub_cancel_left]
  rw[hdn] at hw;have hwj:=h.rf j hj;have huj:=h.up j hj;by_cases hpar:T.nds[j].par<0
  ·rw[if_pos hpar,hw] at hwj
   have h9:=congrArg List.length hwj;rw[List.length_append,List.length_singleton,List.length_singleton] at h9;omega
  ·rw[if_neg hpar,hw] at hwj
   obtain⟨e1,e2⟩:=List.append_inj' hwj rfl;have hm:=h.inj h1 oo e1;injection e2 with e2
   have hk:=h4 rest[x.2] (List.getElem?_eq_getElem hxr);exact ZR hk j hj ⟨by omega,e2.symm⟩
 ·exact hge
end
theorem SI (data:Bs)(ws:List Bs)(b:Bs):b.length≤(ws.foldl (better data) b).length∧∀w ∈ ws,w.isPrefixOf data=true→w.length≤(ws.foldl (better data) b).length:=by
 induction ws using y5 with
 |h0=>simp
 |h1 ws x ih=>
  rw[List.foldl_append];simp only[List.foldl_cons,List.foldl_nil];obtain⟨h1,h2⟩:=ih;generalize ws.foldl (better data) b=r at*;have hbl:r.length≤(better data r x).length:=(by unfold better;split<;>omega);refine⟨by omega,fun w hw hp=> ?_⟩;rcases List.mem_append.1 hw with hw|hw
  ·have:=h2 w hw hp;omega
  ·simp at hw
   subst hw;unfold better;split
   ·exact Nat.le_refl _
   ·next hc=>
    rcases Nat.lt_or_ge r.length w.length with h|h
    ·exact absurd ⟨h,hp⟩ hc
    ·exact h
theorem Kn.bf (K:Kn)(data:Bs):∀w ∈ K.yF,w.isPrefixOf data=true→w.length≤(K.longest data).length:=(SI data K.yF (data.take 1)).2
def Kn.tr (K:Kn):Tr:=rH K.cl K.ps
theorem Kn.ok.gB {K:Kn}(h:K.ok):sH K.cl K.ps K.tr:=Qh (by have:=h.bd;omega) (by have:=h.bd;omega) h.pairs
theorem Kn.uB {K:Kn}(h:K.ok){c:Int}(hc:codeOk K.cl K.ps.length c):K.tr.xh K.cl c<K.tr.nds.length∧K.tr.word (K.tr.xh K.cl c)=K.word c:=by
 obtain⟨h1,h2⟩:=h.gB.node hc;refine⟨h1,?_⟩;unfold Tr.word;rw[List.getD_eq_getElem?_getD,h2];rfl
theorem Kn.kT {K:Kn}(h:K.ok)(i:Nat)(hi:i<K.yF.length):(K.cl+2+(i:Int)=K.nx∧K.gr=true∧K.yF[i]=K.any K.nx)∨(codeOk K.cl K.ps.length (K.cl+2+(i:Int))∧K.yF[i]=K.word (K.cl+2+(i:Int))):=by
 have e:K.yF[i]=K.any (K.cl+2+(i:Int)):=(by simp [Kn.yF]);have hf:=K.jd i hi;unfold Kn.fol at hf;simp only[decide_eq_true_eq] at hf;rcases hf with hf|⟨hg,hn⟩
 ·right
  refine⟨hf,?_⟩;rw[e];unfold Kn.any;rw[if_neg];intro hc;unfold codeOk at hf;unfold Kn.nx at hc;unfold Kn.cl at*;omega
 ·left
  exact⟨hn,hg,by rw[e,hn]⟩
theorem Kn.MO {K:Kn}(h:K.ok){c:Int}(h0:K.cl+1<c)(h1:c≤K.cl+1+K.ps.length):K.word c ∈ K.yF:=by
 have hg:=K.uJ h;have hi:(c - K.cl - 2).toNat<K.yF.length:=(by rw[K.vP];omega);have e:K.cl+2+((c - K.cl - 2).toNat:Int)=c:=oo;rcases K.kT h _ hi with⟨h2,_,_⟩|⟨_,h2⟩
 ·exfalso;rw[e] at h2;unfold Kn.nx at h2;unfold Kn.cl at*;omega
 ·rw[e] at h2
  rw[←h2];exact List.getElem_mem hi
theorem Kn.MM {K:Kn}(h:K.ok)(hg:K.gr=true):K.any K.nx ∈ K.yF:=by
 have hi:K.ps.length<K.yF.length:=by
  rw[K.vP];unfold Kn.great;rw[if_pos hg];unfold Kn.nx Kn.cl;omega
 have e:K.yF[K.ps.length]=K.any (K.cl+2+(K.ps.length:Int)):=(by simp [Kn.yF]);have e2:K.cl+2+(K.ps.length:Int)=K.nx:=(by unfold Kn.nx Kn.cl;omega);rw[←e2,←e];exact List.getElem_mem hi
theorem Ya {w d:Bs}(h:w=d.take w.length):w.isPrefixOf d=true:=by
 rw[List.isPrefixOf_iff_prefix,h];exact List.take_prefix _ _
theorem U9 {w d:Bs}(h:w.isPrefixOf d=true):w=d.take w.length∧w.length≤d.length:=by
 rw[List.isPrefixOf_iff_prefix] at h;obtain⟨t,rfl⟩:=h;simp
theorem Kn.OD {K:Kn}(h:K.ok)(b:UInt8)(hb:(b.toNat:Int)<K.cl):b.toNat<K.tr.nds.length∧K.tr.word b.toNat=[b]:=by
 have hT:=h.gB;have hl:=hT.lits;obtain⟨d,hd,h1,h2,h3⟩:=hT.lit b.toNat oo;have hlt:b.toNat<K.tr.nds.length:=oo;refine⟨hlt,?_⟩;rw[List.getElem?_eq_getElem hlt] at hd;injection hd with hd
 rw[hT.rf _ hlt,hd,h1,if_pos (by omega),h2];simp
theorem Kn.Xy {K:Kn}(h:K.ok)(m:Nat)(hm:m<K.tr.nds.length)(hc:K.cl.toNat≤m):∃c:Int,K.tr.nds[m].code=c∧K.cl+1<c∧c≤K.cl+1+K.ps.length∧K.tr.word m=K.word c∧(∀c',K.cl+1<c'→c'<c→K.word c'≠K.tr.word m):=by
 have hT:=h.gB;have hbd:=h.bd;obtain⟨j,hj,h1,h2,h3⟩:=hT.code m hm hc;have hlen:=hT.len;have key:∀k (hk:k<K.tr.prs.length),K.tr.word K.tr.prs[k]=K.word (K.cl+2+(k:Int)):=fun k hk=>by
  have hcd:codeOk K.cl K.ps.length (K.cl+2+(k:Int)):=.inr ⟨by omega,oo⟩;obtain⟨_,h5⟩:=K.uB h hcd;rw[←h5];unfold Tr.xh;rw[if_pos (by omega),show(K.cl+2+(k:Int) - K.cl - 2).toNat=k by omega,List.getD_eq_getElem?_getD,List.getElem?_eq_getElem hk];rfl
 refine⟨K.cl+2+(j:Int),h1,oo,oo,?_,fun c' hc0 hc1 he=> ?_⟩
 ·rw[←key j hj,h2]
 ·have hk:(c' - K.cl - 2).toNat<K.tr.prs.length:=oo
  have h6:=key _ hk;rw[show K.cl+2+((c' - K.cl - 2).toNat:Int)=c' by omega,he] at h6;exact h3 (c' - K.cl - 2).toNat oo (hT.inj (hT.pr _ hk) hm h6)
structure O6 (K : Kn) (b : UInt8) (r : Bs) (m k : Nat) : Prop where
 lt : m < K.tr.nds.length
 le : k ≤ r.length
 word : K.tr.word m = (b :: r).take (k + 1)
 max : ∀ i, i < K.tr.nds.length → K.tr.word i = (b :: r).take (K.tr.word i).length → (K.tr.word i).length ≤ k + 1
theorem Kn.KF {K:Kn}(h:K.ok)(b:UInt8)(r:Bs)(hb:(b.toNat:Int)<K.cl):O6 K b r (K.tr.desc b.toNat r).1 (K.tr.desc b.toNat r).2:=by
 obtain⟨h1,h2⟩:=K.OD h b hb;obtain⟨d1,d2,d3,d4⟩:=h.gB.WE r b.toNat h1;refine⟨d1,d2,by rw[d3,h2];rfl,fun i hi hw=> ?_⟩;have:=h.gB.O0 r b.toNat h1 i hi (by rw[h2];exact hw);rw[d3,h2] at this;simp only[List.length_append,List.length_singleton,List.length_take] at this;omega
def Grown (K:Kn)(r:Bs)(m k:Nat):Prop:=K.gr=true∧m=K.tr.xh K.cl K.last∧∃c,r[k]? =some c∧(K.word K.last).head? =some c
theorem Kn.OH (K:Kn):K.any K.nx=K.word K.last++(K.word K.last).take 1:=by unfold Kn.any;rw[if_pos rfl]
theorem Kn.Ut {K:Kn}(h:K.ok){b:UInt8}{r:Bs}{m k:Nat}(hD:O6 K b r m k):
 (Grown K r m k→(K.longest (b::r)).length=k+2)∧(¬Grown K r m k→(K.longest (b::r)).length=k+1):=by
 have hT:=h.gB;obtain⟨hm,hk,hw,hmax⟩:=hD;have hwl:(K.tr.word m).length=k+1:=(by rw[hw,List.length_take,List.length_cons];omega);have hlo:k+1≤(K.longest (b::r)).length:=by
  by_cases hc:K.cl.toNat≤m
  ·obtain⟨c,_,h1,h2,h3,_⟩:=K.Xy h m hm hc
   have:=K.bf (b::r) (K.word c) (K.MO h h1 h2) (Ya (by rw[←h3,hwl];exact hw));rw[←h3,hwl] at this;exact this
  ·have h1:=hT.lit m oo
   obtain⟨d,hd,h2,h3,_⟩:=h1;rw[List.getElem?_eq_getElem hm] at hd;injection hd with hd
   have h4:=hT.rf m hm;rw[hd,h2,if_pos (by omega)] at h4;rw[h4] at hwl;simp at hwl;have:=K.xg (data:=b::r) (by simp);omega
 have hnode:∀w ∈ K.yF,w.isPrefixOf (b::r)=true→w.length≤k+1∨(w.length=k+2∧Grown K r m k):=fun w hwc hp=>by
  obtain⟨i,hi,rfl⟩:=List.getElem_of_mem hwc;obtain⟨hp1,hp2⟩:=U9 hp;rcases K.kT h i hi with⟨_,hg,he⟩|⟨hcd,he⟩
  ·rw[he,K.OH] at hp1 hp2⊢
   obtain⟨hn1,hn2⟩:=K.uB h (K.rq h hg);have hne:=hT.kU _ hn1;rw[hn2] at hne;generalize hL:K.word K.last=L at*
   cases L with
   |nil=>exact absurd rfl hne
   |cons a t=>
    simp only[List.take_succ_cons,List.take_zero] at hp1 hp2⊢;have hpl:((a::t)++[a]).length=(a::t).length+1:=(by simp);rw[hpl] at hp1 hp2⊢;have hlt:(a::t).length<(b::r).length:=oo;rw[List.take_succ_eq_append_getElem hlt] at hp1;obtain⟨e1,e2⟩:=List.append_inj' hp1 rfl;injection e2 with e2
    have h5:=hmax _ hn1 (by rw[hn2];exact e1);rw[hn2] at h5;rcases Nat.lt_or_ge (a::t).length (k+1) with hlt2|hge
    ·left;omega
    ·right
     have hle:(a::t).length=k+1:=oo;refine⟨by omega,hg,?_,a,?_,by rw[hL];rfl⟩
     ·exact hT.inj hm hn1 (by rw[hn2,hw,e1,hle])
     ·simp only[hle] at e2
      rw[List.getElem_cons_succ] at e2;rw[List.getElem?_eq_getElem (by simp at hlt hle;omega)];exact congrArg some e2.symm
  ·left
   rw[he] at hp1 hp2⊢;obtain⟨hn1,hn2⟩:=K.uB h hcd;have:=hmax _ hn1 (by rw[hn2];exact hp1)
   rwa [hn2] at this
 have hup:(K.longest (b::r)).length≤k+1∨((K.longest (b::r)).length=k+2∧Grown K r m k):=by
  rcases K.pg (b::r) with h1|⟨h1,_,h3⟩
  ·left;rw[h1];simp
  ·exact hnode _ h1 h3
 refine⟨fun hG=> ?_,fun hG=> ?_⟩
 ·obtain⟨hg,hm2,c,hc1,hc2⟩:=hG
  obtain⟨hn1,hn2⟩:=K.uB h (K.rq h hg);have e:K.any K.nx=(b::r).take (k+2):=by
   rw[K.OH,←hn2,←hm2,hw];have hlt:k<r.length:=by
    rcases Nat.lt_or_ge k r.length with h'|h'
    ·exact h'
    ·rw[List.getElem?_eq_none h'] at hc1;cases hc1
   rw[List.take_succ_eq_append_getElem (show k+1<(b::r).length by simp;omega)];congr 1;rw[List.getElem?_eq_getElem hlt] at hc1;injection hc1 with hc1
   rw[←hn2,←hm2,hw] at hc2;rw[List.getElem_cons_succ,hc1];simp only[List.take_succ_cons,List.head?_cons,Option.some.injEq,List.take_zero] at hc2⊢;rw[hc2]
  have hlt:k<r.length:=by
   rcases Nat.lt_or_ge k r.length with h'|h'
   ·exact h'
   ·rw[List.getElem?_eq_none h'] at hc1;cases hc1
  have hel:(K.any K.nx).length=k+2:=(by rw[e,List.length_take,List.length_cons];omega);have:=K.bf (b::r) _ (K.MM h hg) (Ya (by rw[hel];exact e));omega
 ·rcases hup with h1|⟨_,h2⟩
  ·omega
  ·exact absurd h2 hG
theorem Kn.Qm (K:Kn)(x:Bs)(hx:¬(x.length=1∧wE x<K.cl))(i:Nat)(hi:i<K.yF.length)(he:K.yF[i]=x)(hj:∀j (h:j<i),K.yF[j]'oo≠x):K.find x=K.cl+2+(i:Int):=by
 unfold Kn.find;rw[if_neg hx];have:K.yF.findIdx? (fun y=>decide (y=x))=some i:=by
  rw[List.findIdx?_eq_some_iff_getElem];exact⟨hi,by simpa using he,fun j h=>by simpa using hj j h⟩
 rw[this]
theorem Kn.PD {K:Kn}(h:K.ok){b:UInt8}{r:Bs}{m k:Nat}(hD:O6 K b r m k):
 (Grown K r m k→K.find (K.longest (b::r))=K.nx)∧(¬Grown K r m k→∃hm:m<K.tr.nds.length,K.find (K.longest (b::r))=K.tr.nds[m].code):=by
 obtain⟨t1,t2⟩:=K.Ut h hD;have hT:=h.gB;have hbd:=h.bd;have hlp:=(K.yE (b::r)).1;obtain⟨hm,hk,hw,hmax⟩:=hD;refine⟨fun hG=> ?_,fun hG=>⟨hm,?_⟩⟩
 ·have hl:=t1 hG
  have hk2:k+2≤(b::r).length:=(by have:=(K.yE (b::r)).2;omega);have hany:K.any K.nx=K.longest (b::r):=by
   rcases K.pg (b::r) with h1|⟨h1,_,h3⟩
   ·rw[h1] at hl;simp at hl
   ·obtain⟨i,hi,e⟩:=List.getElem_of_mem h1
    rcases K.kT h i hi with⟨_,_,he⟩|⟨hcd,he⟩
    ·rw[←he,e]
    ·exfalso
     obtain⟨hn1,hn2⟩:=K.uB h hcd;rw[←he,e] at hn2;have:=hmax _ hn1 (by rw[hn2];exact hlp);rw[hn2] at this;omega
  have hi:K.ps.length<K.yF.length:=by
   rw[K.vP];unfold Kn.great;rw[if_pos hG.1];unfold Kn.nx Kn.cl;omega
  have e2:K.cl+2+(K.ps.length:Int)=K.nx:=(by unfold Kn.nx Kn.cl;omega);rw[K.Qm _ (by omega) K.ps.length hi ?_ ?_,e2]
  ·have e:K.yF[K.ps.length]=K.any (K.cl+2+(K.ps.length:Int)):=by simp [Kn.yF]
   rw[e,e2,hany]
  ·intro j hj he
   rcases K.kT h j oo with⟨hc,_,_⟩|⟨hcd,he2⟩
   ·rw[←e2] at hc;omega
   ·obtain⟨hn1,hn2⟩:=K.uB h hcd
    rw[←he2,he] at hn2;have:=hmax _ hn1 (by rw[hn2];exact hlp);rw[hn2] at this;omega
 ·have hl:=t2 hG
  rw[hl,←hw] at hlp;rw[hlp];by_cases hc:K.cl.toNat≤m
  ·obtain⟨c,h1,h2,h3,h4,h5⟩:=K.Xy h m hm hc
   have hgb:=K.uJ h;have hi:(c - K.cl - 2).toNat<K.yF.length:=(by rw[K.vP];omega);have hlen2:¬((K.tr.word m).length=1∧wE (K.tr.word m)<K.cl):=by
    intro ⟨hq,_⟩;have hup:=hT.up m hm;have hwm:=hT.rf m hm;rw[if_neg (by have:=hup.2 hc;omega)] at hwm;have h7:=List.length_pos_iff.2 (hT.kU K.tr.nds[m].par.toNat (by have:=hup.2 hc;omega));have h8:=congrArg List.length hwm;rw[List.length_append,List.length_singleton] at h8;omega
   rw[K.Qm _ hlen2 _ hi ?_ ?_,h1]
   ·omega
   ·rcases K.kT h _ hi with⟨hq,_,_⟩|⟨_,he⟩
    ·exfalso;unfold Kn.nx at hq;unfold Kn.cl at*;omega
    ·rw[he,h4];congr 1;omega
   ·intro j hj he
    rcases K.kT h j oo with⟨hq,_,_⟩|⟨_,he2⟩
    ·unfold Kn.nx at hq;unfold Kn.cl at*;omega
    ·rw[he2] at he
     exact h5 (K.cl+2+(j:Int)) oo oo he
  ·obtain⟨d,hd,h2,h3,h4⟩:=hT.lit m oo
   rw[List.getElem?_eq_getElem hm] at hd;injection hd with hd
   have h6:=hT.rf m hm;rw[hd,h2,if_pos (by omega),h3] at h6;have hh:wE (K.tr.word m)=(m:Int):=by
    rw[h6];show(((UInt8.ofNat m).toNat:Nat):Int)=_;rw[UInt8.toNat_ofNat'];omega
   unfold Kn.find;rw[if_pos ⟨by rw[h6];rfl,by rw[hh];omega⟩,hh,hd,h4]
theorem Tr.dM (cl:Int)(T:Tr)(p:Pr):∃ns q,T.learn cl p=⟨T.nds++ns,T.prs++[q]⟩∧∀d ∈ ns,d.code=cl+2+(T.prs.length:Int):=by
 unfold Tr.learn;split
 ·next n _=>exact⟨[],n,by simp,by simp⟩
 ·exact⟨_,_,rfl,by simp⟩
theorem Zx (cl:Int)(ps:List Pr):(rH cl ps).prs.length=ps.length:=by
 induction ps using y5 with
 |h0=>rfl
 |h1 ps p ih=>
  rw[qA];obtain⟨ns,q,h,_⟩:=Tr.dM cl (rH cl ps) p;rw[h];simp [ih]
theorem NT (cl:Int)(ps qs:List Pr):∃ns rs,rH cl (ps++qs)=⟨(rH cl ps).nds++ns,(rH cl ps).prs++rs⟩∧(∀d ∈ ns,cl+2+(ps.length:Int)≤d.code):=by
 induction qs using y5 with
 |h0=>exact⟨[],[],by simp,by simp⟩
 |h1 qs q ih=>
  obtain⟨ns,rs,h,hc⟩:=ih;rw[←List.append_assoc,qA];obtain⟨ms,r,h2,hc2⟩:=Tr.dM cl (rH cl (ps++qs)) q;have hp:=Zx cl (ps++qs);rw[h2,h];refine⟨ns++ms,rs++[r],by simp,fun d hd=> ?_⟩;rcases List.mem_append.1 hd with hd|hd
  ·exact hc d hd
  ·rw[hc2 d hd,hp,List.length_append];omega
theorem SA {cl:Int}(h0:0≤cl)(ps:List Pr):∀d ∈ (rH cl ps).nds,d.code<cl+2+(ps.length:Int):=by
 induction ps using y5 with
 |h0=>
  intro d hd;unfold rH Tr.lits at hd;simp at hd;obtain⟨b,hb,rfl⟩:=hd;simp;omega
 |h1 ps p ih=>
  rw[qA];obtain⟨ns,q,h,hc⟩:=Tr.dM cl (rH cl ps) p;have hp:=Zx cl ps;rw[h];intro d hd;rcases List.mem_append.1 hd with hd|hd
  ·have:=ih d hd;simp;omega
  ·rw[hc d hd,hp];simp;omega
theorem Pn {cl:Int}(h0:0≤cl)(ps:List Pr)(k:Nat)(hk:k≤ps.length):∃n,(rH cl (ps.take k)).nds=(rH cl ps).nds.take n∧n≤(rH cl ps).nds.length∧(rH cl (ps.take k)).prs=(rH cl ps).prs.take k∧
 (∀i (h:i<(rH cl ps).nds.length),(i<n→(rH cl ps).nds[i].code<cl+2+(k:Int))∧(n≤i→cl+2+(k:Int)≤(rH cl ps).nds[i].code)):=by
 obtain⟨ns,rs,h,hc⟩:=NT cl (ps.take k) (ps.drop k);rw[List.take_append_drop] at h;have hl:(ps.take k).length=k:=(by simp;omega);have hp:=Zx cl (ps.take k);have hcd:=SA h0 (ps.take k);rw[hl] at hp hc hcd;generalize rH cl (ps.take k)=S at*;rw[h];refine⟨S.nds.length,by simp,by simp,by simp [hp],fun i hi=>⟨fun h1=> ?_,fun h1=> ?_⟩⟩
 ·simp only[List.getElem_append_left h1]
  exact hcd _ (List.getElem_mem h1)
 ·simp only[List.getElem_append_right h1]
  exact hc _ (List.getElem_mem _)
def yC (nds:List Nd)(p:Int):Nat→Int
 |0=> -1
 |m+1=>if(nds[m]?.getD ⟨0,0,0,0⟩).par=p then(m:Int) else yC nds p m
theorem Zh (nds:List Nd)(p:Int):∀m, -1≤yC nds p m∧yC nds p m<m
 |0=>by simp [yC]
 |m+1=>by
  have:=Zh nds p m;unfold yC;split<;>omega
theorem aU (nds:List Nd)(p:Int):∀m,yC nds p m= -1→∀j,j<m→(nds[j]?.getD ⟨0,0,0,0⟩).par≠p
 |0,_,j,hj=>by omega
 |m+1,h,j,hj=>by
  unfold yC at h;split at h
  ·omega
  ·next hc=>
   by_cases e:j=m
   ·subst e;exact hc
   ·exact aU nds p m h j oo
theorem ig (nds:List Nd)(p:Int):∀m (n:Nat),yC nds p m=(n:Int)→n<m∧(nds[n]?.getD ⟨0,0,0,0⟩).par=p∧∀j,n<j→j<m→(nds[j]?.getD ⟨0,0,0,0⟩).par≠p
 |0,n,h=>by unfold yC at h;omega
 |m+1,n,h=>by
  unfold yC at h;split at h
  ·next hc=>
   have:n=m:=oo;subst this;exact⟨by omega,hc,fun j h1 h2=>by omega⟩
  ·next hc=>
   obtain⟨h1,h2,h3⟩:=ig nds p m n h;refine⟨by omega,h2,fun j h4 h5=> ?_⟩;by_cases e:j=m
   ·subst e;exact hc
   ·exact h3 j h4 oo
end Go.Proofs.YtfppmajoidkooaaGreatDoor
namespace Go.Proofs.YtfppmajoidkooaaGreatDoor
open Go.RowKit
def nxt (nds:List Nd)(i:Nat):Int:=if(nds[i]?.getD ⟨0,0,0,0⟩).par<0 then -1 else yC nds (nds[i]?.getD ⟨0,0,0,0⟩).par i
def ndV (nds:List Nd)(n i:Nat):List Value:=
 [.int .i64 (nds[i]?.getD ⟨0,0,0,0⟩).par,.int .i64 (yC nds i n),.int .i64 (nxt nds i),.int .u8 ((nds[i]?.getD ⟨0,0,0,0⟩).last.toNat:Int),.int .u8 ((nds[i]?.getD ⟨0,0,0,0⟩).first.toNat:Int),.int .i64 (nds[i]?.getD ⟨0,0,0,0⟩).code]
theorem ZW (nds:List Nd)(n i:Nat):(ndV nds n i).length=6:=rfl
def ndC (nds:List Nd)(n:Nat):List Value:=(List.range nds.length).flatMap (ndV nds n)
theorem nP {f:Nat→List Value}(hf:∀i,(f i).length=6)(m:Nat):((List.range m).flatMap f).length=m*6:=by
 induction m with
 |zero=>rfl
 |succ m ih=>rw[List.range_succ,List.flatMap_append,List.length_append,ih];simp [hf];omega
theorem Kz {f:Nat→List Value}(hf:∀i,(f i).length=6)(m:Nat):∀i k,i<m→k<6→((List.range m).flatMap f)[i*6+k]? =(f i)[k]? :=by
 induction m with
 |zero=>intro i k h;omega
 |succ m ih=>
  intro i k hi hk;rw[List.range_succ,List.flatMap_append];by_cases h:i<m
  ·rw[List.getElem?_append_left (by rw[nP hf];omega),ih i k h hk]
  ·have:i=m:=oo
   subst this;rw[List.getElem?_append_right (by rw[nP hf];omega),nP hf,show i*6+k - i*6=k by omega];simp
theorem x8 (nds:List Nd)(n:Nat):(ndC nds n).length=nds.length*6:=nP (ZW nds n) _
theorem ve (nds:List Nd)(n:Nat){i k:Nat}(hi:i<nds.length)(hk:k<6):(ndC nds n)[i*6+k]? =(ndV nds n i)[k]? :=Kz (ZW nds n) _ i k hi hk
theorem WV {a b:List Value}(m:Nat)(ha:a.length=m*6)(hb:b.length=m*6)(h:∀i k,i<m→k<6→a[i*6+k]? =b[i*6+k]?):a=b:=by
 apply List.ext_getElem?;intro j;by_cases hj:j<m*6
 ·have:=h (j / 6) (j % 6) oo oo
  rwa [show j / 6*6+j % 6=j by omega] at this
 ·rw[List.getElem?_eq_none (by omega),List.getElem?_eq_none (by omega)]
theorem je (nds:List Nd)(d:Nd)(p:Int):∀m,m≤nds.length→yC (nds++[d]) p m=yC nds p m
 |0,_=>rfl
 |m+1,h=>by
  unfold yC;rw[List.getElem?_append_left (by omega),je nds d p m (by omega)]
theorem iq (nds:List Nd)(p:Int)(n:Nat):∀m,m≤n→yC (nds.take n) p m=yC nds p m
 |0,_=>rfl
 |m+1,h=>by
  unfold yC;rw[List.getElem?_take,if_pos (show m<n by omega),iq nds p n m (by omega)]
theorem MX (nds:List Nd)(d:Nd)(i:Nat)(hi:i<nds.length):nxt (nds++[d]) i=nxt nds i:=by
 unfold nxt;rw[List.getElem?_append_left hi,je _ _ _ _ (by omega)]
theorem Nv (nds:List Nd)(n i:Nat)(hi:i<n):nxt (nds.take n) i=nxt nds i:=by
 unfold nxt;rw[List.getElem?_take,if_pos hi,iq _ _ _ _ (by omega)]
theorem Yg (nds:List Nd)(hu:∀i (h:i<nds.length),nds[i].par<(i:Int))(p:Int):∀m,m≤nds.length→(m:Int)≤p→yC nds p m= -1
 |0,_,_=>rfl
 |m+1,h,h1=>by
  have h2:=hu m oo;unfold yC;rw[List.getElem?_eq_getElem (by omega),Option.getD_some,if_neg (by omega)];exact Yg nds hu p m oo oo
theorem LQ (nds:List Nd)(hu:∀i (h:i<nds.length),nds[i].par<(i:Int))(d:Nd)(P:Nat)(hP:P<nds.length)(hd:d.par=(P:Int)):
 ((ndC nds nds.length++[Value.int .i64 (P:Int),.int .i64 (-1),.int .i64 (yC nds (P:Int) nds.length),.int .u8 (d.last.toNat:Int),.int .u8 (d.first.toNat:Int),.int .i64 d.code]).set (P*6+1) (Value.int .i64 (nds.length:Int)))=ndC (nds++[d]) (nds++[d]).length:=by
 have hup:∀q:Int,yC (nds++[d]) q (nds++[d]).length=if d.par=q then(nds.length:Int) else yC nds q nds.length:=fun q=>by
  rw[List.length_append,List.length_singleton];show yC (nds++[d]) q (nds.length+1)=_;rw[yC,List.getElem?_append_right (Nat.le_refl _),je _ _ _ _ (Nat.le_refl _)];simp
 refine WV (nds.length+1) ?_ ?_ fun i k hi hk=> ?_
 ·rw[List.length_set,List.length_append,x8];simp;omega
 ·rw[x8,List.length_append];rfl
 ·rw[ve (nds++[d]) _ (by simp;omega) hk,List.getElem?_set]
  have hlen:(ndC nds nds.length++[Value.int .i64 (P:Int),.int .i64 (-1),.int .i64 (yC nds (P:Int) nds.length),.int .u8 (d.last.toNat:Int),.int .u8 (d.first.toNat:Int),.int .i64 d.code]).length=(nds.length+1)*6:=by
   rw[List.length_append,x8];simp;omega
  rw[hlen];by_cases hi2:i<nds.length
  ·by_cases he:P*6+1=i*6+k
   ·have h1:P=i:=oo
    have h2:k=1:=oo;subst h1 h2;rw[if_pos he,if_pos (by omega)];unfold ndV;rw[hup,hd,if_pos rfl];rfl
   ·rw[if_neg he,List.getElem?_append_left (by rw[x8];omega),ve nds _ hi2 hk]
    unfold ndV;rw[List.getElem?_append_left hi2,hup,MX _ _ _ hi2,hd];by_cases hk1:k=1
    ·subst hk1
     rw[if_neg (by omega)]
    ·match k,hk,hk1 with
     |0,_,_|2,_,_|3,_,_|4,_,_|5,_,_=>rfl
  ·have:i=nds.length:=oo
   subst this;rw[if_neg (by omega),List.getElem?_append_right (by rw[x8];omega),x8,show nds.length*6+k - nds.length*6=k by omega];unfold ndV;have hk0:yC (nds++[d]) (nds.length:Int) (nds++[d]).length= -1:=(by rw[hup,hd,if_neg (by omega),Yg nds hu _ _ (Nat.le_refl _) (Int.le_refl _)]);rw[List.getElem?_append_right (Nat.le_refl _),hk0];have hn:nxt (nds++[d]) nds.length=yC nds (P:Int) nds.length:=by
    unfold nxt;rw[List.getElem?_append_right (Nat.le_refl _)];simp only[Nat.sub_self,List.getElem?_cons_zero,Option.getD_some,hd];rw[if_neg (by omega),je _ _ _ _ (Nat.le_refl _)]
   rw[hn];simp only[Nat.sub_self,List.getElem?_cons_zero,Option.getD_some,hd]
theorem Lp (nds:List Nd)(n P:Nat)(hn:n<nds.length)(hP:P<n)(hd:(nds[n]?.getD ⟨0,0,0,0⟩).par=(P:Int)):
 ((ndC nds (n+1)).set (P*6+1) (Value.int .i64 (nxt nds n)))=ndC nds n:=by
 refine WV nds.length ?_ ?_ fun i k hi hk=> ?_
 ·rw[List.length_set,x8]
 ·rw[x8]
 ·rw[List.getElem?_set,x8,ve _ _ hi hk,ve _ _ hi hk]
  by_cases he:P*6+1=i*6+k
  ·have h1:P=i:=oo
   have h2:k=1:=oo;subst h1 h2;rw[if_pos he,if_pos (by omega)];unfold ndV nxt;rw[hd,if_neg (by omega)];rfl
  ·rw[if_neg he]
   unfold ndV;by_cases hk1:k=1
   ·subst hk1
    have:yC nds (i:Int) (n+1)=yC nds (i:Int) n:=(by rw[yC,hd,if_neg (by omega)]);rw[this]
   ·match k,hk,hk1 with
    |0,_,_|2,_,_|3,_,_|4,_,_|5,_,_=>rfl
theorem OB (nds:List Nd)(n:Nat)(hn:n≤nds.length):(ndC nds n).take (n*6)=ndC (nds.take n) (nds.take n).length:=by
 have hl:(nds.take n).length=n:=(by simp;omega);refine WV n ?_ ?_ fun i k hi hk=> ?_
 ·rw[List.length_take,x8];omega
 ·rw[x8,hl]
 ·rw[List.getElem?_take,if_pos (by omega),ve _ _ (by omega) hk,ve _ _ (by omega) hk]
  unfold ndV;rw[hl,List.getElem?_take,if_pos (by omega),iq _ _ _ _ (Nat.le_refl _),Nv _ _ _ hi]
def Tr.mY (T:Tr)(p:Nat)(b:UInt8):Int:=match T.kid p b with
 |some m=>(m:Int)
 |none=> -1
theorem dS {T:Tr}{p m:Nat}{b:UInt8}(h:T.kid p b=some m):T.mY p b=(m:Int):=by unfold Tr.mY;rw[h]
theorem Xf {T:Tr}{p:Nat}{b:UInt8}(h:T.kid p b=none):T.mY p b= -1:=by unfold Tr.mY;rw[h]
theorem VZ {T:Tr}{p:Nat}{b:UInt8}(h:T.mY p b<0):T.kid p b=none:=by
 cases hk:T.kid p b with
 |none=>rfl
 |some m=>rw[dS hk] at h;omega
theorem Qz {T:Tr}{p:Nat}{b:UInt8}(h:0≤T.mY p b):T.kid p b=some (T.mY p b).toNat∧(T.mY p b).toNat<T.nds.length:=by
 cases hk:T.kid p b with
 |none=>rw[Xf hk] at h;omega
 |some m=>rw[dS hk];exact⟨rfl,(fD hk).1⟩
def bF (nds:List Nd)(p:Nat)(b:UInt8)(j:Nat):Prop:=∀i (h:i<nds.length),j≤i→¬(nds[i].par=(p:Int)∧nds[i].last=b)
theorem bF.start (nds:List Nd)(p:Nat)(b:UInt8):bF nds p b nds.length:=fun i h h2=>by omega
section
variable {T : Tr} {p j : Nat} {b : UInt8}
theorem PG (h:bF T.nds p b j)(hj:j≤T.nds.length)(hk:yC T.nds (p:Int) j= -1):T.mY p b= -1:=by
 apply Xf;unfold Tr.kid;rw[List.findIdx?_eq_none_iff];intro x hx;obtain⟨i,hi,rfl⟩:=List.getElem_of_mem hx;have key:¬(T.nds[i].par=(p:Int)∧T.nds[i].last=b):=by
  by_cases hji:j≤i
  ·exact h i hi hji
  ·have:=aU T.nds (p:Int) j hk i oo
   rw[List.getElem?_eq_getElem hi] at this;exact fun hh=>this hh.1
 unfold Qy;simp;exact fun h1 h2=>key ⟨h1,h2⟩
theorem QW (hu:∀i j (hi:i<T.nds.length) (hj:j<T.nds.length),T.nds[i].par=T.nds[j].par→T.nds[i].last=T.nds[j].last→i=j){n:Nat}(hj:j≤T.nds.length)(hk:yC T.nds (p:Int) j=(n:Int))(hb:(T.nds[n]?.getD ⟨0,0,0,0⟩).last=b):T.mY p b=(n:Int):=by
 obtain⟨h1,h2,_⟩:=ig T.nds (p:Int) j n hk;have hn:n<T.nds.length:=oo;rw[List.getElem?_eq_getElem hn] at h2 hb
 cases hc:T.kid p b with
 |none=>exact absurd ⟨h2,hb⟩ (ZR hc n hn)
 |some m=>
  obtain⟨hm,h3,h4⟩:=fD hc;have:=hu m n hm hn (by rw[h3];exact h2.symm) (by rw[h4];exact hb.symm);rw[dS hc,this]
theorem Ry {n:Nat}(h:bF T.nds p b j)(hj:j≤T.nds.length)(hk:yC T.nds (p:Int) j=(n:Int))(hb:¬(T.nds[n]?.getD ⟨0,0,0,0⟩).last=b):bF T.nds p b n∧n<j∧nxt T.nds n=yC T.nds (p:Int) n:=by
 obtain⟨h1,h2,h3⟩:=ig T.nds (p:Int) j n hk;refine⟨fun i hi hni=> ?_,h1,?_⟩
 ·by_cases hji:j≤i
  ·exact h i hi hji
  ·by_cases hin:i=n
   ·subst hin
    rw[List.getElem?_eq_getElem hi] at hb;exact fun hh=>hb hh.2
   ·have:=h3 i oo oo
    rw[List.getElem?_eq_getElem hi] at this;exact fun hh=>this hh.1
 ·unfold nxt
  rw[h2,if_neg (by omega)]
end
def ji (T:Tr)(b:UInt8)(r:Bs)(n k:Nat):Prop:=T.desc b.toNat r=((T.desc n (r.drop k)).1,k+(T.desc n (r.drop k)).2)
theorem ji.start (T:Tr)(b:UInt8)(r:Bs):ji T b r b.toNat 0:=by unfold ji;simp
theorem ji.next {T:Tr}{b:UInt8}{r:Bs}{n k m:Nat}(h:ji T b r n k)(hk:k<r.length)(hm:T.kid n r[k]=some m):ji T b r m (k+1):=by
 unfold ji at*;rw[h,←List.getElem_cons_drop hk,Tr.desc,hm];simp;omega
theorem ji.stop {T:Tr}{b:UInt8}{r:Bs}{n k:Nat}(h:ji T b r n k)(hk:k<r.length)(hm:T.kid n r[k]=none):T.desc b.toNat r=(n,k):=by
 unfold ji at h;rw[h,←List.getElem_cons_drop hk,Tr.desc,hm];simp
theorem ji.fin {T:Tr}{b:UInt8}{r:Bs}{n k:Nat}(h:ji T b r n k)(hk:r.length≤k):T.desc b.toNat r=(n,k):=by
 unfold ji at h;rw[h,List.drop_eq_nil_of_le hk];simp [Tr.desc]
theorem Kn.aZ {K:Kn}(h:K.ok){c:Int}(hc:codeOk K.cl K.ps.length c):((K.tr.nds[K.tr.xh K.cl c]?.getD ⟨0,0,0,0⟩).first.toNat:Int)=wE (K.word c):=by
 obtain⟨h1,h2⟩:=K.uB h hc;obtain⟨w,h3,h4,h5⟩:=h.gB.first _ h1;rw[List.getElem?_eq_getElem h1,Option.getD_some,h5];have:K.tr.word (K.tr.xh K.cl c)=w:=(by unfold Tr.word;rw[List.getD_eq_getElem?_getD,h3];rfl);rw[←h2,this]
theorem Kn.WO {K:Kn}(h:K.ok){b:UInt8}{r:Bs}(hb:(b.toNat:Int)<K.cl){n k:Nat}(hd:K.tr.desc b.toNat r=(n,k)):
 n<K.tr.nds.length∧k≤r.length∧
 (K.gr=true→k<r.length→n=K.tr.xh K.cl K.last→byteAt (b::r) ((k+1:Nat):Int)=((K.tr.nds[n]?.getD ⟨0,0,0,0⟩).first.toNat:Int)→K.find (K.longest (b::r))=K.nx∧(K.longest (b::r)).length=k+2)∧
 (¬(K.gr=true∧k<r.length∧n=K.tr.xh K.cl K.last∧byteAt (b::r) ((k+1:Nat):Int)=((K.tr.nds[n]?.getD ⟨0,0,0,0⟩).first.toNat:Int))→K.find (K.longest (b::r))=(K.tr.nds[n]?.getD ⟨0,0,0,0⟩).code∧(K.longest (b::r)).length=k+1):=by
 have hD:=K.KF h b r hb;rw[hd] at hD;obtain⟨l1,l2⟩:=K.Ut h hD;obtain⟨c1,c2⟩:=K.PD h hD;have hlt:=hD.lt;have hiff:K.gr=true→k<r.length→n=K.tr.xh K.cl K.last→(byteAt (b::r) ((k+1:Nat):Int)=((K.tr.nds[n]?.getD ⟨0,0,0,0⟩).first.toNat:Int)↔∃c,r[k]? =some c∧(K.word K.last).head? =some c):=by
  intro hg hk hn;have hgl:=K.rq h hg;have hf:=K.aZ h hgl;rw[←hn] at hf;rw[hf,zX _ _ (by simp;omega),List.getElem_cons_succ,List.getElem?_eq_getElem hk];have hne:K.word K.last≠[]:=by
   obtain⟨h1,h2⟩:=K.uB h hgl;rw[←h2];exact h.gB.kU _ h1
  generalize K.word K.last=W at*
  cases W with
  |nil=>exact absurd rfl hne
  |cons a t=>
   simp only[wE,List.headD_cons,List.head?_cons,Option.some.injEq];constructor
   ·intro he
    refine⟨r[k],rfl,?_⟩;exact UInt8.toNat_inj.1 oo
   ·rintro⟨c,rfl,h2⟩
    rw[h2]
 refine⟨hlt,hD.le,fun hg hk hn hb2=> ?_,fun hno=> ?_⟩
 ·have hG:Grown K r n k:=⟨hg,hn,(hiff hg hk hn).1 hb2⟩
  exact⟨c1 hG,l1 hG⟩
 ·have hG:¬Grown K r n k:=fun⟨hg,hn,c,hc1,hc2⟩=>by
   have hk:k<r.length:=by
    rcases Nat.lt_or_ge k r.length with h'|h'
    ·exact h'
    ·rw[List.getElem?_eq_none h'] at hc1;cases hc1
   exact hno ⟨hg,hk,hn,(hiff hg hk hn).2 ⟨c,hc1,hc2⟩⟩
  obtain⟨hm,hc⟩:=c2 hG;exact⟨by rw[hc,List.getElem?_eq_getElem hm];rfl,l2 hG⟩
section
variable {P : Program} {Q : Exit → Act → World → Prop} {S : World → Prop} {l : List Oper} {n : Nat}
def ZG (l:List Oper)(n:Nat):Nat→Nat→Nat→Bool
 |0,k,i=>Region.waitsFor .any l.toArray k i
 |f+1,k,i=>Region.waitsFor .any l.toArray k i||(List.range n).any fun j=>Region.waitsFor .any l.toArray k j&&ZG l n f j i
def mZ (l:List Oper)(n:Nat):Bool:=
 decide (l.length=n+1)&&((List.range n).all fun i=>ZG l n 20 n i)&&
 ((List.range (n+1)).all fun i=>match l.toArray[i]? with
   |some o=>o.after.all (fun e=> !Region.binds .any e||decide (e.on<i))&&(match o.guard with|some (g,_)=>decide (g<n)|none=>true)
   |none=>true)
theorem Rl {i:Nat}{a:Act}{w:World}{K K':Act→World→Prop}(hb:mZ l n=true)(hi:i<n)(hK:∀a w,K a w→K' a w)
 (h:wpOp P (l.take n).toArray (gJ P l.toArray n Q) i K a w):wpOp P l.toArray Q i K' a w:=by
 simp only[mZ,Bool.and_eq_true,decide_eq_true_eq] at hb;obtain⟨⟨hl,_⟩,hg⟩:=hb;have hg:=List.all_eq_true.1 hg i (List.mem_range.2 oo);have he:(l.take n).toArray[i]? =l.toArray[i]? :=(by simp [hi]);unfold wpOp at*;rw[he] at h
 cases ho:l.toArray[i]? with
 |none=>simp only[ho] at h;exact hK _ _ h
 |some o=>
  simp only[ho] at h hg⊢;have hy:Region.wanted o (yielded (l.take n).toArray a.tmps)=Region.wanted o (yielded l.toArray a.tmps):=by
   unfold Region.wanted;rw[Bool.and_eq_true] at hg;have hg2:=hg.2
   cases hgu:o.guard with
   |none=>rfl
   |some gw=>
    obtain⟨g,want⟩:=gw;simp only[hgu,decide_eq_true_eq] at hg2;have:yielded (l.take n).toArray a.tmps g=yielded l.toArray a.tmps g:=by
     unfold yielded;rw[show(l.take n).toArray[g]? =l.toArray[g]? by simp [hg2]]
    simp only[this]
  rw[hy] at h;split
  ·rename_i hw
   rw[if_pos hw] at h;rcases h with h|⟨h1,h2⟩
   ·exact .inl (XT hK _ h)
   ·obtain⟨a',w',h2⟩:=h2
    exact .inr ⟨h1,a',w',h2⟩
  ·rename_i hw
   rw[if_neg hw] at h;exact hK _ _ h
theorem Uc {listed:Array Bool}(hb:mZ l n=true)(hs:listed.size=n)(h:Region.ready .any (l.take n).toArray listed=[]):∀i,i<n→listed.getD i false=true:=by
 have hb':=hb;simp only[mZ,Bool.and_eq_true,decide_eq_true_eq] at hb';obtain⟨⟨hl,_⟩,hg⟩:=hb';intro i
 induction i using Nat.strongRecOn with
 |_ i ih=>
  intro hi
  cases hc:listed.getD i false with
  |true=>rfl
  |false=>
   exfalso;have hg:=List.all_eq_true.1 hg i (List.mem_range.2 oo);have ho:l.toArray[i]? =some (l[i]'(by omega)):=(by simp [List.getElem?_eq_getElem (show i<l.length by omega)]);simp only[ho,Bool.and_eq_true] at hg;have hm:i ∈ Region.ready .any (l.take n).toArray listed:=by
    rw[mem_ready];refine⟨getD_in (by omega) hc,l[i]'(by omega),by simp [hi,List.getElem?_eq_getElem (show i<l.length by omega)],fun e he hbnd=> ?_⟩;have h1:=Array.all_eq_true'.1 hg.1 e he;simp only[hbnd,Bool.not_true,Bool.false_or,decide_eq_true_eq] at h1;exact ih e.on h1 oo
   rw[h] at hm
   cases hm
def Qd (l:List Oper)(n:Nat)(listed:Array Bool):Prop:=∀k,k<n→listed.getD k false=true→∀j,j<n→Region.waitsFor .any l.toArray k j=true→listed.getD j false=true
theorem Qd.reach {listed:Array Bool}(h:Qd l n listed):∀(f k i:Nat),k<n→i<n→listed.getD k false=true→ZG l n f k i=true→listed.getD i false=true
 |0,k,i,hk,hi,hl,hr=>h k hk hl i hi hr
 |f+1,k,i,hk,hi,hl,hr=>by
  unfold ZG at hr;rw[Bool.or_eq_true] at hr;rcases hr with hr|hr
  ·exact h k hk hl i hi hr
  ·obtain⟨j,hj,hjj⟩:=List.any_eq_true.1 hr
   rw[Bool.and_eq_true] at hjj;exact h.reach f j i (List.mem_range.1 hj) hi (h k hk hl j (List.mem_range.1 hj) hjj.1) hjj.2
theorem UW (hb : mZ l n = true) : ∀ (fuel : Nat) (listed : Array Bool) (a : Act) (w : World), listed.size = n → Qd l n listed → wpAnyH P .any (l.take n).toArray (gJ P l.toArray n Q) S fuel listed a w →
    wpAny P .any l.toArray Q (fuel + 1) (listed.push false) a w := by
  have hb' := hb
  simp only [mZ, Bool.and_eq_true, decide_eq_true_eq] at hb'
  obtain ⟨⟨hl, hwait⟩, hedge⟩ := hb'
  have hlast : l.toArray[n]? = some (l[n]'(by omega)) := by simp [List.getElem?_eq_getElem (show n < l.length by omega)]
  -- where nothing else may come up, the last one does
  have fin : ∀ (fuel : Nat) (listed : Array Bool) (a : Act) (w : World), listed.size = n → Region.ready .any (l.take n).toArray listed = [] → wpOp P l.toArray Q n (Q .normal) a w → wpAny P .any l.toArray Q (fuel + 1) (listed.push false) a w := by
    intro fuel listed a w hs h0 h
    have hall := Uc hb hs h0
    have hn : n ∈ Region.ready .any l.toArray (listed.push false) := by
      rw [mem_ready]
      refine ⟨by simp [← hs], l[n]'(by omega), hlast, fun e he hbnd => ?_⟩
      rw [x9]
      have hg := List.all_eq_true.1 hedge n (List.mem_range.2 oo)
      simp only [hlast, Bool.and_eq_true] at hg
      have h1 := Array.all_eq_true'.1 hg.1 e he
      simp only [hbnd, Bool.not_true, Bool.false_or, decide_eq_true_eq] at h1
      exact hall e.on h1
    refine ⟨fun h1 => (by rw [h1] at hn; cases hn), fun i hi => ?_⟩
    have hin : i = n := by
      obtain ⟨_, o, ho, _⟩ := mem_ready.1 hi
      have hlt : i < l.length := by simpa using (Array.getElem?_eq_some_iff.1 ho).1
      rcases Nat.lt_or_ge i n with h2 | h2
      · have := (uT hs i h2).1 hi
        rw [h0] at this; cases this
      · omega
    subst hin
    refine wpOp_mono (fun a' w' h' => ?_) h
    have hz : Region.ready .any l.toArray ((listed.push false).setIfInBounds i true) = [] := by
      apply List.eq_nil_iff_forall_not_mem.2
      intro j hj
      obtain ⟨hun, o, ho, _⟩ := mem_ready.1 hj
      have hlt : j < l.length := by simpa using (Array.getElem?_eq_some_iff.1 ho).1
      have hd := getD_both hun
      by_cases hji : j = i
      · subst hji; simp [hs] at hd
      · have := hall j oo
        rw [getD_set_ne false (Ne.symm hji), x9, this] at hd
        cases hd
    exact wpAny_done hz h' _
  intro fuel
  induction fuel with
  | zero => intro listed a w hs _ h; exact fin 0 listed a w hs h.1 h.2
  | succ fuel ih =>
    intro listed a w hs hV h
    by_cases h0 : Region.ready .any (l.take n).toArray listed = []
    · exact fin _ listed a w hs h0 (h.1 h0)
    · obtain ⟨j, hj⟩ : ∃ j, j ∈ Region.ready .any (l.take n).toArray listed := by
        cases hr : Region.ready .any (l.take n).toArray listed with
        | nil => exact absurd hr h0
        | cons x xs => exact ⟨x, List.mem_cons_self⟩
      have hjn : j < n := by
        obtain ⟨_, o, ho, _⟩ := mem_ready.1 hj
        have := (Array.getElem?_eq_some_iff.1 ho).1
        simp at this; omega
      refine ⟨fun h1 => ?_, fun i hi => ?_⟩
      · have := (uT hs j hjn).2 hj
        rw [h1] at this; cases this
      · have hin : i < n := by
          obtain ⟨_, o, ho, hall⟩ := mem_ready.1 hi
          have hlt : i < l.length := by simpa using (Array.getElem?_eq_some_iff.1 ho).1
          rcases Nat.lt_or_ge i n with h2 | h2
          · exact h2
          · exfalso
            have hie : i = n := oo
            subst hie
            have h3 := List.all_eq_true.1 hwait j (List.mem_range.2 hjn)
            have key : ∀ k, Region.waitsFor .any l.toArray i k = true → listed.getD k false = true := fun k hk => by
              obtain ⟨oj, hoj, e, he, hbnd, hon⟩ := jL hk
              rw [hoj] at ho
              injection ho with ho
              subst ho
              have h4 := hall e he hbnd
              rw [x9, hon] at h4
              exact h4
            have hjl : listed.getD j false = true := by
              unfold ZG at h3
              rw [Bool.or_eq_true] at h3
              rcases h3 with h3 | h3
              · exact key j h3
              · obtain ⟨k, hk, hkk⟩ := List.any_eq_true.1 h3
                rw [Bool.and_eq_true] at hkk
                exact hV.reach 19 k j (List.mem_range.1 hk) hjn (key k hkk.1) hkk.2
            rw [getD_both (mem_ready.1 hj).1] at hjl
            cases hjl
        refine Rl hb hin (fun a' w' h' => ?_) (h.2 i ((uT hs i hin).1 hi))
        have hV2 : Qd l n (listed.setIfInBounds i true) := by
          intro k hk hkl j' hj' hw'
          have hjl : listed.getD j' false = true := by
            by_cases hki : k = i
            · subst hki
              obtain ⟨_, o, ho, hall⟩ := mem_ready.1 ((uT hs k hin).1 hi)
              obtain ⟨oj, hoj, e, he, hbnd, hon⟩ := jL hw'
              have hoe : (l.take n).toArray[k]? = l.toArray[k]? := by simp [hk]
              rw [hoe, hoj] at ho
              injection ho with ho
              subst ho
              have h4 := hall e he hbnd
              rwa [hon] at h4
            · rw [getD_set_ne false (Ne.symm hki)] at hkl
              exact hV k hk hkl j' hj' hw'
          by_cases hji : j' = i
          · subst hji; simp [hs, hin]
          · rw [getD_set_ne false (Ne.symm hji)]; exact hjl
        have := ih (listed.setIfInBounds i true) a' w' (by simpa using hs) hV2 h'.2
        rw [UK listed i (by omega)] at this
        exact this
theorem yY {id:Nat}{a:Act}{w:World}(n:Nat)(S:World→Prop)(hm:P.follows .mixedOrders=true)(hb:mZ l n=true)(hS:S w.drew)
 (h:S w.drew→wpAnyH P .any (l.take n).toArray (gJ P l.toArray n (NoPanic Q)) S n (Array.replicate n false) a w.drew):(Code.region id l.toArray true).wp P Q a w:=by
 have hl:l.length=n+1:=by
  simp only[mZ,Bool.and_eq_true,decide_eq_true_eq] at hb;exact hb.1.1
 refine wp_region_noPanic (wp_region_any hm ?_);have h2:=UW hb n _ a w.drew (by simp) (fun k hk hkl=>by simp [hk] at hkl) (h hS);have e:(Array.replicate n false).push false=Array.replicate (n+1) false:=(by rw[←Array.replicate_succ]);rw[e] at h2;have es:l.toArray.size=n+1:=(by simp [hl]);rw[es];exact h2
end
structure Rg where
 cs : List Int
 d : Bs
 fin : Int
 use : Nat
def Rg.pre (cs:List Int)(d:Bs)(n:Nat)(r:Rg):Rg:=⟨cs++r.cs,d++r.d,r.fin,n+r.use⟩
def Kn.wd (K:Kn)(c:Int):Bs:=if c=K.cl then[] else K.any c
def yR (K:Kn)(b:Bs)(z:Nat):Except Rg Int:=
 if b.length<K.width then .error ⟨[],[],1,0⟩ else
 if(numBits K.o (b.take K.width):Int)=K.cl+1 then .error ⟨[(numBits K.o (b.take K.width):Int)],[],0,K.width⟩ else
 if(numBits K.o (b.take K.width):Int)≠K.cl∧K.fol (numBits K.o (b.take K.width):Int)=false then .error ⟨[],[],2,K.width⟩ else
 if 2000<z+(K.wd (numBits K.o (b.take K.width):Int)).length then .error ⟨[],[],3,K.width⟩ else .ok (numBits K.o (b.take K.width):Int)
def yg :Nat→Kn→Bs→Nat→Rg
 |0,K,b,z=>match yR K b z with
  | .error r=>r
  | .ok c=>⟨[c],K.wd c,3,K.width⟩
 |f+1,K,b,z=>match yR K b z with
  | .error r=>r
  | .ok c=>(yg f (K.step c) (b.drop K.width) (z+(K.wd c).length)).pre [c] (K.wd c) K.width
theorem uU {f:Nat}{K:Kn}{b:Bs}{z:Nat}{r:Rg}(h:yR K b z= .error r):yg f K b z=r:=by
 cases f<;>simp [yg,h]
theorem nY {K:Kn}{b:Bs}{z:Nat}{c:Int}(h:yR K b z= .ok c):yg 0 K b z=⟨[c],K.wd c,3,K.width⟩:=by simp [yg,h]
theorem oW {f:Nat}{K:Kn}{b:Bs}{z:Nat}{c:Int}(h:yR K b z= .ok c):yg (f+1) K b z=(yg f (K.step c) (b.drop K.width) (z+(K.wd c).length)).pre [c] (K.wd c) K.width:=by simp [yg,h]
theorem Rg.QI (cs cs2:List Int)(d d2:Bs)(n n2:Nat)(r:Rg):(r.pre cs2 d2 n2).pre cs d n=r.pre (cs++cs2) (d++d2) (n+n2):=by
 simp [Rg.pre,Nat.add_assoc]
theorem nZ {K:Kn}{b:Bs}{z:Nat} :(∀r,yR K b z= .error r→r.cs.length≤1∧r.d=[]∧r.use≤b.length∧0≤r.fin∧r.fin≤3)∧(∀c,yR K b z= .ok c→z+(K.wd c).length≤2000∧K.width≤b.length∧(c≠K.cl→K.fol c=true)∧c≠K.cl+1):=by
 unfold yR;split
 ·refine⟨fun r h=> ?_,fun c h=>(by cases h)⟩
  injection h with h;subst h;simp
 ·rename_i h0
  split
  ·refine⟨fun r h=> ?_,fun c h=>(by cases h)⟩
   injection h with h;subst h;simp;omega
  ·rename_i h1
   split
   ·refine⟨fun r h=> ?_,fun c h=>(by cases h)⟩
    injection h with h;subst h;simp;omega
   ·rename_i h2
    split
    ·refine⟨fun r h=> ?_,fun c h=>(by cases h)⟩
     injection h with h;subst h;simp;omega
    ·rename_i h3
     refine⟨fun r h=>(by cases h),fun c h=> ?_⟩;injection h with h;subst h
     refine⟨by omega,oo,fun hc=> ?_,h1⟩
     cases hf:K.fol (numBits K.o (b.take K.width):Int) with
     |false=>exact absurd ⟨hc,hf⟩ h2
     |true=>rfl
theorem dL :∀(f:Nat) (K:Kn) (b:Bs) (z:Nat),z≤2000→(yg f K b z).cs.length≤f+1∧z+(yg f K b z).d.length≤2000∧(yg f K b z).use≤b.length∧0≤(yg f K b z).fin∧(yg f K b z).fin≤3:=by
 intro f
 induction f with
 |zero=>
  intro K b z hz;obtain⟨h1,h2⟩:=nZ (K:=K) (b:=b) (z:=z)
  cases h:yR K b z with
  |error r=>rw[uU h];obtain⟨a,b',c,d,e⟩:=h1 r h;rw[b'];simp;omega
  |ok c=>rw[nY h];obtain⟨a,b',_⟩:=h2 c h;simp;omega
 |succ f ih=>
  intro K b z hz;obtain⟨h1,h2⟩:=nZ (K:=K) (b:=b) (z:=z)
  cases h:yR K b z with
  |error r=>rw[uU h];obtain⟨a,b',c,d,e⟩:=h1 r h;rw[b'];simp;omega
  |ok c=>
   rw[oW h];obtain⟨a,b',_⟩:=h2 c h;have:=ih (K.step c) (b.drop K.width) (z+(K.wd c).length) a;simp only[List.length_drop] at this;simp only[Rg.pre,List.length_append,List.length_cons,List.length_nil];omega
def oP :Kn→List Int→Nat→Prop
 |_,[],_=>True
 |K,c::r,n=>if c=K.cl+1 then r=[] else if c=K.cl then oP K.cleared r n else K.fol c=true∧n≤2000∧oP (K.after c) r (n+(K.any c).length)
def wB :Kn→List Int→Bs
 |_,[]=>[]
 |K,c::r=>if c=K.cl+1 then[] else K.wd c++wB (K.step c) r
theorem X5 {K:Kn} :K.step K.cl=K.cleared:=if_pos rfl
theorem aJ {K:Kn}{c:Int}(h:c≠K.cl):K.step c=K.after c:=if_neg h
theorem Nq {K:Kn} :K.wd K.cl=[]:=if_pos rfl
theorem Qs {K:Kn}{c:Int}(h:c≠K.cl):K.wd c=K.any c:=if_neg h
theorem XG {K:Kn}{c:Int}{n:Nat}(hn:n≤2000)(hf:c≠K.cl→K.fol c=true)(he:c≠K.cl+1){r:List Int}(h:oP (K.step c) r (n+(K.wd c).length)):oP K (c::r) n:=by
 unfold oP;rw[if_neg he];by_cases hc:c=K.cl
 ·rw[if_pos hc]
  subst hc;rw[X5,Nq] at h;exact h
 ·rw[if_neg hc]
  rw[aJ hc,Qs hc] at h;exact⟨hf hc,hn,h⟩
theorem VM :∀(f:Nat) (K:Kn) (b:Bs) (z:Nat),z≤2000→oP K (yg f K b z).cs z∧(yg f K b z).d=wB K (yg f K b z).cs:=by
 have herr:∀(K:Kn) (b:Bs) (z:Nat) (r:Rg),yR K b z= .error r→oP K r.cs z∧r.d=wB K r.cs:=by
  intro K b z r h;unfold yR at h;split at h
  ·injection h with h;subst h;exact⟨trivial,rfl⟩
  ·split at h
   ·rename_i h1
    injection h with h;subst h
    simp only[oP,wB,if_pos h1];simp
   ·split at h
    ·injection h with h;subst h;exact⟨trivial,rfl⟩
    ·split at h
     ·injection h with h;subst h;exact⟨trivial,rfl⟩
     ·cases h
 intro f
 induction f with
 |zero=>
  intro K b z hz;obtain⟨h1,h2⟩:=nZ (K:=K) (b:=b) (z:=z)
  cases h:yR K b z with
  |error r=>rw[uU h];exact herr K b z r h
  |ok c=>
   rw[nY h];obtain⟨a,_,hf,he⟩:=h2 c h;refine⟨XG hz hf he trivial,?_⟩;simp only[wB,if_neg he,List.append_nil]
 |succ f ih=>
  intro K b z hz;obtain⟨h1,h2⟩:=nZ (K:=K) (b:=b) (z:=z)
  cases h:yR K b z with
  |error r=>rw[uU h];exact herr K b z r h
  |ok c=>
   rw[oW h];obtain⟨a,_,hf,he⟩:=h2 c h;obtain⟨i1,i2⟩:=ih (K.step c) (b.drop K.width) (z+(K.wd c).length) a;refine⟨XG hz hf he i1,?_⟩;simp only[Rg.pre,List.cons_append,List.nil_append,wB,if_neg he,i2]
def uP (K:Kn)(l:Bs):Bs×Int×Int:=
 if 4000<l.length then([],4,0) else
  ((yg 3099 K (zM K.o l) 0).d,(yg 3099 K (zM K.o l) 0).fin,if(yg 3099 K (zM K.o l) 0).fin=1 then(l.length:Int) else(((yg 3099 K (zM K.o l) 0).use+7) / 8:Nat))
theorem ZP (K:Kn)(l:Bs):(uP K l).1.length≤2000:=by
 unfold uP;split
 ·simp
 ·have:=dL 3099 K (zM K.o l) 0 oo
  simp only;omega
theorem XD (K:Kn)(c:Int)(r:List Int):K.bits (c::r)=zU K.o c.toNat K.width++(K.step c).bits r:=by
 have ho:(K.step c).o=K.o:=(by unfold Kn.step;split<;>rfl);unfold Kn.bits;rw[nG,List.zip_cons_cons,List.flatMap_cons,ho]
theorem MH {K:Kn}(h:K.ok):K.great.toNat<2 ^ K.width:=Xh _ _ (by unfold Kn.width;omega)
theorem QQ :∀(cs:List Int) (K:Kn) (z f:Nat) (pad:Bs),K.ok→wO K cs z→cs.length≤f+1→z+(wB K cs).length≤2000→
 yg f K (K.bits cs++pad) z=⟨cs,wB K cs,0,(K.bits cs).length⟩:=by
 intro cs
 induction cs with
 |nil=>intro K z f pad _ h;exact absurd h (by simp [wO])
 |cons c r ih=>
  intro K z f pad hk hg hl hz;have hgb:=K.uJ hk;have hbd:=hk.bd;have hlt:=MH hk;rw[wO] at hg;have hcb:0≤c∧c≤K.great:=by
   split at hg
   ·omega
   ·split at hg
    ·omega
    ·obtain⟨hf,_,_⟩:=hg
     unfold Kn.fol at hf;simp only[decide_eq_true_eq] at hf;unfold codeOk at hf;rcases hf with hf|⟨h1,h2⟩
     ·omega
     ·unfold Kn.great;rw[if_pos h1];unfold Kn.nx at*;have:=yZ K.l (by have:=hk.st;unfold vW at this;omega) (by have:=hk.st;unfold vW at this;omega);omega
  have e0:K.bits (c::r)++pad=zU K.o c.toNat K.width++((K.step c).bits r++pad):=(by rw[XD,List.append_assoc]);have hcl:(zU K.o c.toNat K.width).length=K.width:=xx _ _ _;have e1:(K.bits (c::r)++pad).take K.width=zU K.o c.toNat K.width:=(by rw[e0];exact List.take_left' hcl);have e2:(K.bits (c::r)++pad).drop K.width=(K.step c).bits r++pad:=(by rw[e0];exact List.drop_left' hcl);have e3:(numBits K.o ((K.bits (c::r)++pad).take K.width):Int)=c:=(by rw[e1,OW _ _ _ (by omega)];omega);have e4:¬(K.bits (c::r)++pad).length<K.width:=(by rw[e0,List.length_append,hcl];omega);have e5:(K.bits (c::r)).length=K.width+((K.step c).bits r).length:=(by rw[XD,List.length_append,hcl]);by_cases hend:c=K.cl+1
  ·rw[if_pos hend] at hg
   subst hg;have h1:yR K (K.bits [c]++pad) z= .error ⟨[c],[],0,K.width⟩:=by
    unfold yR;rw[if_neg e4,e3,if_pos hend]
   rw[uU h1];have h2:(K.bits [c]).length=K.width:=(by rw[e5];simp [Kn.bits]);rw[h2];simp [wB,hend]
  ·have hcd:wB K (c::r)=K.wd c++wB (K.step c) r:=by rw[wB,if_neg hend]
   rw[hcd] at hz⊢;rw[List.length_append] at hz;rw[if_neg hend] at hg;have hfol:c≠K.cl→K.fol c=true:=fun h=>(by rw[if_neg h] at hg;exact hg.1);have hgr:wO (K.step c) r (z+(K.wd c).length):=by
    by_cases hc:c=K.cl
    ·rw[if_pos hc] at hg
     subst hc;rw[X5,Nq];exact hg
    ·rw[if_neg hc] at hg
     rw[aJ hc,Qs hc];exact hg.2.2
   have h1:yR K (K.bits (c::r)++pad) z= .ok c:=by
    unfold yR;rw[if_neg e4,e3,if_neg hend,if_neg (fun h=>by rw[hfol h.1] at h;cases h.2),if_neg (by omega)]
   have hr:r≠[]:=fun h=>(by subst h;exact absurd hgr (by simp [wO]));obtain⟨g,hg2⟩:∃g,f=g+1:=⟨f - 1,by have:=List.length_pos_iff.2 hr;simp at hl;omega⟩;subst hg2;rw[oW h1,e2,ih (K.step c) _ g pad (step_ok hk hfol) hgr (by simp at hl;omega) (by omega),e5];simp [Rg.pre]
theorem qN :∀(n:Nat) (K:Kn) (t:Bs),K.ok→t.all (vI K.l)=true→t.length≤n→wB K (zV n K t++[K.cl+1])=t
 |0,K,t,_,_,ht=>by
  have:t=[]:=List.eq_nil_of_length_eq_zero oo;subst this;simp [zV,wB]
 |n+1,K,t,hk,hl,ht=>by
  unfold zV;split
  ·rename_i h;subst h;simp [wB]
  ·rename_i hne
   have hf:=K.sF hk hne hl;have hlp:=K.yE t;have hlq:=K.xg hne;obtain⟨hf1,hf2,hf3⟩:=hf;have hb:=dU hk hf1;have hao:=K.vU hk hf1;have hd:(t.drop (K.longest t).length).length=t.length - (K.longest t).length:=(by simp);have hrl:(t.drop (K.longest t).length).all (vI K.l)=true:=rJ _ _ _ hl;have hjoin:K.longest t++t.drop (K.longest t).length=t:=by
    conv=>lhs;lhs;rw[hlp.1]
    rw[List.take_append_drop]
   have e1:(K.after (K.find (K.longest t))).cl=K.cl:=rfl;have e2:((K.after (K.find (K.longest t))).cleared).cl=K.cl:=rfl;simp only;split
   ·have ih:=qN n _ _ (Kn.y7 hao) hrl oo
    rw[e2] at ih;rw[List.cons_append,wB,if_neg hb.2.2.2,Qs hb.2.2.1,aJ hb.2.2.1,hf2,List.cons_append,wB,e1,if_neg (by omega)];have e3:(K.after (K.find (K.longest t))).wd K.cl=[]:=if_pos rfl;have e4:(K.after (K.find (K.longest t))).step K.cl=(K.after (K.find (K.longest t))).cleared:=if_pos rfl;rw[e3,e4,ih,List.nil_append,hjoin]
   ·have ih:=qN n _ _ hao hrl oo
    rw[e1] at ih;rw[List.cons_append,wB,if_neg hb.2.2.2,Qs hb.2.2.1,aJ hb.2.2.1,hf2,ih,hjoin]
theorem WX {K:Kn}(hk:K.ok){t:Bs}(hl:t.all (vI K.l)=true):wB K (K.yc t)=t:=by
 unfold Kn.yc;rw[wB,if_neg (by omega),Nq,X5,List.nil_append];exact qN _ _ _ (Kn.y7 hk) hl (Nat.le_refl _)
theorem Ov (n q:Nat)(hq:q≤1):oz (2*n+q) 0=UInt8.ofNat (48+q):=by
 unfold oz;congr 1;omega
theorem Oh (n q i:Nat)(hq:q≤1):oz (2*n+q) (i+1)=oz n i:=by
 unfold oz;rw[Nat.pow_succ,Nat.mul_comm (2 ^ i) 2,←Nat.div_div_eq_div_mul,show(2*n+q) / 2=n by omega]
theorem fU (l:Bs)(h:yJ l=true):wJ (yI l) l.length=l.reverse:=by
 induction l using y5 with
 |h0=>rfl
 |h1 l c ih=>
  unfold yJ at h ih;rw[List.all_append,Bool.and_eq_true] at h;have h1:=ih h.1;have h2:c=48∨c=49:=(by simpa using h.2);have h3:c.toNat - 48≤1:=(by rcases h2 with e|e<;>subst e<;>decide);have h4:UInt8.ofNat (48+(c.toNat - 48))=c:=(by rcases h2 with e|e<;>subst e<;>decide);rw[wW,List.length_append,List.length_singleton,List.reverse_append];unfold wJ at h1⊢;rw[List.range_succ_eq_map,List.map_cons,Ov _ _ h3,h4,List.map_map];show c::_=c::_;congr 1;rw[←h1];apply List.map_congr_left;intro i _;exact Oh _ _ _ h3
theorem Nr (o:Int)(l:Bs)(h:yJ l=true):zU o (numBits o l) l.length=l:=by
 unfold zU numBits;split
 ·have:=fU l.reverse (by rw[ou];exact h)
  rwa [List.length_reverse,List.reverse_reverse] at this
 ·rw[fU l h,List.reverse_reverse]
theorem iE {α β:Type}{l:List α}{f g:α→List β}(h:∀x ∈ l,f x=g x):l.flatMap f=l.flatMap g:=by
 induction l with
 |nil=>rfl
 |cons a l ih=>rw[List.flatMap_cons,List.flatMap_cons,h a List.mem_cons_self,ih fun x hx=>h x (List.mem_cons_of_mem _ hx)]
theorem PK {l:Bs}(n:Nat)(h:8*n=l.length):((List.range n).flatMap fun i=>(l.drop (8*i)).take 8)=l:=by
 induction n generalizing l with
 |zero=>have:l=[]:=List.eq_nil_of_length_eq_zero oo
        subst this;rfl
 |succ n ih=>
  rw[List.range_succ,List.flatMap_append];have h1:=ih (l:=l.take (8*n)) (by rw[List.length_take];omega);have h2:((List.range n).flatMap fun i=>(l.drop (8*i)).take 8)=(List.range n).flatMap fun i=>((l.take (8*n)).drop (8*i)).take 8:=by
   apply iE;intro i hi;rw[List.mem_range] at hi;rw[List.drop_take,List.take_take,Nat.min_eq_left (by omega)]
  rw[h2,h1];simp only[List.flatMap_cons,List.flatMap_nil,List.append_nil];rw[List.take_of_length_le (l:=l.drop (8*n)) (by simp;omega),List.take_append_drop]
theorem sQ (l:Bs)(a n:Nat)(h:yJ l=true):yJ ((l.drop a).take n)=true:=by
 unfold yJ at*;rw[List.all_eq_true] at*;exact fun x hx=>h x (List.mem_of_mem_drop (List.mem_of_mem_take hx))
theorem unpack_pack (o:Int)(l:Bs)(h:yJ l=true):zM o (uG o l)=uF l:=by
 have hp:yJ (uF l)=true:=by
  unfold uF yJ at*;rw[List.all_append,h];simp
 have hl:=uY l;generalize hP:uF l=P at*;have hn:8*(P.length / 8)=P.length:=oo;unfold zM uG;rw[hP,List.flatMap_map]
 conv=>rhs;rw[←PK (P.length / 8) hn]
 apply iE;intro i hi;rw[List.mem_range] at hi;have hl8:((P.drop (8*i)).take 8).length=8:=(by rw[List.length_take,List.length_drop];omega);have hb:=qW o _ (sQ P (8*i) 8 hp);rw[hl8] at hb;have:=Nr o _ (sQ P (8*i) 8 hp);rw[hl8] at this;rw[UInt8.toNat_ofNat',Nat.mod_eq_of_lt (by simpa using hb),this]
theorem NS {K:Kn}(hk:K.ok){t:Bs}(hl:t.all (vI K.l)=true)(ht:t.length≤2000)(hc:(K.yc t).length≤3100)(hs:(K.comp t).length≤4000):uP K (K.comp t)=(t,0,((K.comp t).length:Int)):=by
 have hg:=bV hk hl ht;have hcd:=WX hk hl;have hr:=QQ (K.yc t) K 0 3099 (List.replicate ((8 - (K.bits (K.yc t)).length % 8) % 8) 48) hk hg (by omega) (by rw[hcd];omega);have hu:zM K.o (K.comp t)=uF (K.bits (K.yc t)):=unpack_pack _ _ (iF _ _);have hpl:(K.comp t).length=((K.bits (K.yc t)).length+7) / 8:=fH _ _;unfold uP;rw[if_neg (by omega),hu];unfold uF;rw[hr,hcd];simp only[if_neg (show ¬(0:Int)=1 by omega),hpl]
end Go.Proofs.YtfppmajoidkooaaGreatDoor
