import Derived.Test.YtfppmajoidkooaaGreatDoorUGA
set_option linter.unusedVariables false
set_option linter.unusedSimpArgs false
namespace Go.Proofs.YtfppmajoidkooaaGreatDoor
abbrev Pr :=Int×Int
def wAt (cl:Int)(ws:List Bs)(c:Int):Bs:=if c<cl then[UInt8.ofNat c.toNat] else ws.getD (c - cl - 2).toNat []
def words (cl:Int)(ps:List Pr):List Bs:=ps.foldl (fun ws p=>ws++[wAt cl ws p.1++[UInt8.ofNat p.2.toNat]]) []
theorem mr (cl:Int)(ps:List Pr)(p:Pr):words cl (ps++[p])=words cl ps++[wAt cl (words cl ps) p.1++[UInt8.ofNat p.2.toNat]]:=by
 unfold words;rw[List.foldl_append];rfl
theorem xO (cl:Int)(ps:List Pr):(words cl ps).length=ps.length:=by
 induction ps using y5 with
 |h0=>rfl
 |h1 ps p ih=>rw[mr,List.length_append,ih,List.length_append];rfl
def codeOk (cl:Int)(n:Nat)(c:Int):Prop:=(0≤c∧c<cl)∨(cl+1<c∧c≤cl+1+n)
instance (cl : Int) (n : Nat) (c : Int) : Decidable (codeOk cl n c) := by unfold codeOk; infer_instance
def Zl (cl:Int)(ps:List Pr):Prop:=∀i (h:i<ps.length),codeOk cl i ps[i].1∧0≤ps[i].2∧ps[i].2<cl
theorem PN {cl:Int}{ps:List Pr}{p:Pr}(h:Zl cl ps)(h1:codeOk cl ps.length p.1)(h2:0≤p.2)(h3:p.2<cl):Zl cl (ps++[p]):=by
 intro i hi;by_cases hlt:i<ps.length
 ·rw[List.getElem_append_left hlt];exact h i hlt
 ·have:i=ps.length:=by simp at hi;omega
  subst this;simp [h1,h2,h3]
theorem kW {cl:Int}{ps:List Pr}(h:Zl cl ps)(k:Nat):Zl cl (ps.take k):=by
 intro i hi;rw[List.getElem_take];exact h i (by simp at hi;omega)
theorem Ru {cl:Int}{ws:List Bs}{n:Nat}{c:Int}(h:codeOk cl n c)(hn:n≤ws.length)(vs:List Bs):wAt cl (ws++vs) c=wAt cl ws c:=by
 unfold wAt;split
 ·rfl
 ·rcases h with h|h
  ·omega
  ·rw[List.getD_eq_getElem?_getD,List.getD_eq_getElem?_getD,List.getElem?_append_left (by omega)]
theorem Vu (cl:Int)(ps qs:List Pr):∃vs,words cl (ps++qs)=words cl ps++vs:=by
 induction qs using y5 with
 |h0=>exact⟨[],by simp⟩
 |h1 qs q ih=>
  obtain⟨vs,h⟩:=ih;rw[←List.append_assoc,mr,h,List.append_assoc];exact⟨_,rfl⟩
theorem ZZ (cl:Int)(ps:List Pr)(k:Nat):words cl (ps.take k)=(words cl ps).take k:=by
 obtain⟨vs,h⟩:=Vu cl (ps.take k) (ps.drop k);rw[List.take_append_drop] at h;by_cases hk:k≤ps.length
 ·rw[h,List.take_append_of_le_length (by rw[xO];simp;omega),List.take_of_length_le (l:=words cl (ps.take k)) (by rw[xO];simp;omega)]
 ·have hl:=congrArg List.length h
  rw[xO,List.length_append,xO,List.length_take] at hl;have:vs=[]:=List.eq_nil_of_length_eq_zero oo;subst this;rw[List.append_nil] at h;rw[←h,List.take_of_length_le (by rw[xO];omega)]
theorem PW {cl:Int}{ps:List Pr}(h:Zl cl ps)(i:Nat)(hi:i<ps.length):
 (words cl ps)[i]? =some (wAt cl (words cl ps) ps[i].1++[UInt8.ofNat ps[i].2.toNat]):=by
 have e:words cl (ps.take (i+1))=words cl (ps.take i)++[wAt cl (words cl (ps.take i)) ps[i].1++[UInt8.ofNat ps[i].2.toNat]]:=by
  rw[List.take_succ_eq_append_getElem hi,mr]
 rw[ZZ] at e;have h1:((words cl ps).take (i+1))[i]? =(words cl ps)[i]? :=(by rw[List.getElem?_take,if_pos (by omega)]);rw[←h1,e,List.getElem?_append_right (by rw[xO];simp;omega)];have h2:(words cl (ps.take i)).length=i:=(by rw[xO];simp;omega);rw[h2];simp only[Nat.sub_self,List.getElem?_cons_zero];congr 2;rw[ZZ];have h3:words cl ps=(words cl ps).take i++(words cl ps).drop i:=(List.take_append_drop _ _).symm
 conv=>rhs;rw[h3]
 exact(Ru (h i hi).1 (by rw[List.length_take,xO];omega) _).symm
theorem kP (cl:Int)(ws:List Bs)(c:Int)(h:c<cl):wAt cl ws c=[UInt8.ofNat c.toNat]:=by unfold wAt;rw[if_pos h]
theorem fG {cl:Int}{ps:List Pr}(h:Zl cl ps)(c:Int)(h0:cl+1<c)(h1:c≤cl+1+ps.length):
 ∃hi:(c - cl - 2).toNat<ps.length,wAt cl (words cl ps) c=wAt cl (words cl ps) (ps[(c - cl - 2).toNat]'hi).1++[UInt8.ofNat (ps[(c - cl - 2).toNat]'hi).2.toNat]:=by
 refine⟨by omega,?_⟩
 conv=>lhs;unfold wAt
 rw[if_neg (by omega),List.getD_eq_getElem?_getD,PW h _ (by omega)];rfl
theorem fK {cl:Int}{ps:List Pr}(h:Zl cl ps):∀(n:Nat) (c:Int),n≤ps.length→codeOk cl n c→1≤(wAt cl (words cl ps) c).length∧(wAt cl (words cl ps) c).length≤n+1:=by
 intro n
 induction n using Nat.strongRecOn with
 |ind n ih=>
  intro c hn hc;by_cases hlt:c<cl
  ·rw[kP _ _ _ hlt];simp
  ·rcases hc with hc|hc
   ·omega
   ·obtain⟨hi,e⟩:=fG h c hc.1 oo
    rw[e];have:=ih (c - cl - 2).toNat oo _ oo (h _ hi).1;simp;omega
theorem Un {cl:Int}{ps:List Pr}(h:Zl cl ps):∀(n:Nat) (c:Int),n≤ps.length→codeOk cl n c→∀x ∈ wAt cl (words cl ps) c,(x.toNat:Int)<cl:=by
 intro n
 induction n using Nat.strongRecOn with
 |ind n ih=>
  intro c hn hc x hx;have key:∀y:Int,0≤y→y<cl→((UInt8.ofNat y.toNat).toNat:Int)<cl:=by
   intro y h0 h1;rw[UInt8.toNat_ofNat'];have:=Nat.mod_le y.toNat (2 ^ 8);omega
  by_cases hlt:c<cl
  ·rw[kP _ _ _ hlt] at hx
   simp at hx;subst hx;rcases hc with hc|hc
   ·exact key c hc.1 hc.2
   ·omega
  ·rcases hc with hc|hc
   ·omega
   ·obtain⟨hi,e⟩:=fG h c hc.1 oo
    rw[e] at hx;rcases List.mem_append.1 hx with hx|hx
    ·exact ih (c - cl - 2).toNat oo _ oo (h _ hi).1 x hx
    ·simp at hx
     subst hx;exact key _ (h _ hi).2.1 (h _ hi).2.2
structure Kn where
 o : Int
 l : Int
 m : Int
 ps : List Pr
 base : Int
 last : Int
def Kn.cl (K:Kn):Int:=pow2 K.l
def Kn.nx (K:Kn):Int:=pow2 K.l+2+K.ps.length
def Kn.top (K:Kn):Int:=pow2 K.m - 1
def Kn.gr (K:Kn):Bool:=decide (0≤K.last∧K.nx≤K.top)
def Kn.great (K:Kn):Int:=if K.gr=true then K.nx else K.nx - 1
structure Kn.ok (K : Kn) : Prop where
 st : vW K.o K.l K.m
 pairs : Zl K.cl K.ps
 len : K.cl + 1 + K.ps.length ≤ K.top
 base0 : 0 ≤ K.base
 base1 : K.base ≤ K.ps.length
 last : (K.last = -1 ∧ K.base = K.ps.length) ∨ codeOk K.cl K.ps.length K.last
theorem Kn.ok.bd {K:Kn}(h:K.ok):2≤K.cl∧K.cl≤256∧K.top≤1023∧K.ps.length≤1020∧K.cl+2≤K.top:=by
 obtain⟨h1,h2,h3,h4,h5⟩:=h.st;have hl:=h.len;have e1:2≤K.cl∧K.cl≤256∧K.top≤1023∧K.cl+2≤K.top:=by
  unfold Kn.cl Kn.top pow2;have ll:K.l=1∨K.l=2∨K.l=3∨K.l=4∨K.l=5∨K.l=6∨K.l=7∨K.l=8:=oo;have mm:K.m=3∨K.m=4∨K.m=5∨K.m=6∨K.m=7∨K.m=8∨K.m=9∨K.m=10:=oo;rcases ll with e|e|e|e|e|e|e|e<;>rcases mm with f|f|f|f|f|f|f|f<;>rw[e] at h4⊢<;>rw[f] at h4⊢<;>first|decide|omega
 omega
def Kn.word (K:Kn)(c:Int):Bs:=wAt K.cl (words K.cl K.ps) c
def Kn.any (K:Kn)(c:Int):Bs:=if c=K.nx then K.word K.last++(K.word K.last).take 1 else K.word c
def Kn.fol (K:Kn)(c:Int):Bool:=decide (codeOk K.cl K.ps.length c∨(K.gr=true∧c=K.nx))
theorem Kn.rq {K:Kn}(h:K.ok)(hg:K.gr=true):codeOk K.cl K.ps.length K.last:=by
 unfold Kn.gr at hg;rcases h.last with h1|h1
 ·simp at hg;omega
 ·exact h1
theorem Kn.rE {K:Kn}(h:K.ok){c:Int}(hc:K.fol c=true):1≤(K.any c).length∧(K.any c).length≤K.ps.length+2:=by
 unfold Kn.fol at hc;simp only[decide_eq_true_eq] at hc;unfold Kn.any;split
 ·rename_i e
  rcases hc with hc|⟨hg,_⟩
  ·unfold codeOk at hc;unfold Kn.nx at e;unfold Kn.cl at hc;omega
  ·have:=fK h.pairs _ _ (Nat.le_refl _) (K.rq h hg)
   simp only[List.length_append,List.length_take,Kn.word];omega
 ·rcases hc with hc|⟨_,e⟩
  ·have:=fK h.pairs _ _ (Nat.le_refl _) hc
   unfold Kn.word;omega
  ·contradiction
theorem Kn.V5 {K:Kn}(h:K.ok){c:Int}(hc:K.fol c=true):∀x ∈ K.any c,(x.toNat:Int)<K.cl:=by
 unfold Kn.fol at hc;simp only[decide_eq_true_eq] at hc;unfold Kn.any;intro x hx;split at hx
 ·rename_i e
  rcases hc with hc|⟨hg,_⟩
  ·unfold codeOk at hc;unfold Kn.nx at e;unfold Kn.cl at hc;omega
  ·have:=Un h.pairs _ _ (Nat.le_refl _) (K.rq h hg)
   rcases List.mem_append.1 hx with hx|hx
   ·exact this x hx
   ·exact this x (List.mem_of_mem_take hx)
 ·rcases hc with hc|⟨_,e⟩
  ·exact Un h.pairs _ _ (Nat.le_refl _) hc x hx
  ·contradiction
def wE (l:Bs):Int:=((l.headD 0).toNat:Int)
theorem gK (l:Bs):0≤wE l∧wE l≤255:=by unfold wE;have:=(l.headD 0).toNat_lt;omega
theorem dw {l:Bs}{cl:Int}(hl:1≤l.length)(h:∀x ∈ l,(x.toNat:Int)<cl):wE l<cl:=by
 match l,hl with
 |x::r,_=>exact h x List.mem_cons_self
def Kn.after (K:Kn)(c:Int):Kn:= { K with ps:=if K.gr=true then K.ps++[(K.last,wE (K.any c))] else K.ps,last:=c }
def Kn.cleared (K:Kn):Kn:= { K with ps:=K.ps.take K.base.toNat,last:= -1 }
theorem Kn.y7 {K:Kn}(h:K.ok):K.cleared.ok:=by
 have h0:=h.base0;have h1:=h.base1;have hl:=h.len;refine⟨h.st,kW h.pairs _,?_,h0,?_,.inl ⟨rfl,?_⟩⟩
 ·show K.cl+1+((K.ps.take K.base.toNat).length:Int)≤K.top
  simp;omega
 ·show K.base≤((K.ps.take K.base.toNat).length:Int)
  simp;omega
 ·show K.base=((K.ps.take K.base.toNat).length:Int)
  simp;omega
theorem kC {cl:Int}{n m:Nat}{c:Int}(h:codeOk cl n c)(hn:n≤m):codeOk cl m c:=by
 unfold codeOk at*;omega
theorem Kn.vU {K:Kn}(h:K.ok){c:Int}(hc:K.fol c=true):(K.after c).ok:=by
 have h0:=h.base0;have h1:=h.base1;have hl:=h.len;have hb:=h.bd;have ha:=K.rE h hc;have hlit:=dw ha.1 (K.V5 h hc);have hh:=gK (K.any c);unfold Kn.fol at hc;simp only[decide_eq_true_eq] at hc;by_cases hg:K.gr=true
 ·have hg':=hg
  have hgl:=K.rq h hg;unfold Kn.gr at hg';simp only[decide_eq_true_eq] at hg';have e:(K.after c).ps=K.ps++[(K.last,wE (K.any c))]:=(by unfold Kn.after;simp [hg]);have el:((K.after c).ps.length:Int)=K.ps.length+1:=(by rw[e];simp);refine⟨h.st,?_,?_,h0,?_,.inr ?_⟩
  ·rw[e]
   exact PN h.pairs hgl hh.1 hlit
  ·rw[el]
   show K.cl+1+((K.ps.length:Int)+1)≤K.top;have:=hg'.2;unfold Kn.nx at this;unfold Kn.cl;omega
  ·rw[el]
   show K.base≤(K.ps.length:Int)+1;omega
  ·show codeOk K.cl (K.after c).ps.length c
   have el':(K.after c).ps.length=K.ps.length+1:=oo;rw[el'];rcases hc with hc|⟨_,e⟩
   ·exact kC hc oo
   ·right;unfold Kn.nx at e;unfold Kn.cl;omega
 ·have e:(K.after c).ps=K.ps:=by unfold Kn.after;simp [hg]
  refine⟨h.st,by rw[e];exact h.pairs,by rw[e];exact hl,h0,by rw[e];exact h1,.inr ?_⟩;rw[e];rcases hc with hc|⟨hg2,_⟩
  ·exact hc
  ·exact absurd hg2 hg
def Kn.yF (K:Kn):List Bs:=(List.range (K.great - K.cl - 1).toNat).map fun(i:Nat)=>K.any (K.cl+2+(i:Int))
theorem Kn.uJ {K:Kn}(h:K.ok):K.cl+1≤K.great∧K.great≤K.top∧K.great≤K.cl+2+K.ps.length∧K.cl+1+K.ps.length≤K.great:=by
 have hl:=h.len;have hb:=h.bd;unfold Kn.great;by_cases hg:K.gr=true
 ·rw[if_pos hg]
  unfold Kn.gr at hg;simp only[decide_eq_true_eq] at hg;have:=hg.2;unfold Kn.nx at*;unfold Kn.cl at*;omega
 ·rw[if_neg hg];unfold Kn.nx;unfold Kn.cl at*;omega
theorem Kn.vP (K:Kn):K.yF.length=(K.great - K.cl - 1).toNat:=by unfold Kn.yF;simp
theorem Kn.jd {K:Kn}(i:Nat)(hi:i<K.yF.length):K.fol (K.cl+2+i)=true:=by
 rw[K.vP] at hi;unfold Kn.fol;simp only[decide_eq_true_eq];unfold Kn.great at hi;by_cases hg:K.gr=true
 ·rw[if_pos hg] at hi
  unfold Kn.nx at*;unfold codeOk;unfold Kn.cl at*;by_cases e:i=K.ps.length
  ·right;exact⟨hg,oo⟩
  ·left;right;omega
 ·rw[if_neg hg] at hi
  left;right;unfold Kn.nx at hi;unfold Kn.cl at*;omega
def better (data best w:Bs):Bs:=if best.length<w.length∧w.isPrefixOf data=true then w else best
def Kn.longest (K:Kn)(data:Bs):Bs:=K.yF.foldl (better data) (data.take 1)
def Kn.find (K:Kn)(w:Bs):Int:=
 if w.length=1∧wE w<K.cl then wE w else match K.yF.findIdx? (fun x=>decide (x=w)) with
  |some i=>K.cl+2+i
  |none=> -1
theorem Xp (data:Bs)(ws:List Bs)(b:Bs):ws.foldl (better data) b=b∨(ws.foldl (better data) b ∈ ws∧b.length<(ws.foldl (better data) b).length∧(ws.foldl (better data) b).isPrefixOf data=true):=by
 induction ws using y5 with
 |h0=>exact .inl rfl
 |h1 ws w ih=>
  rw[List.foldl_append];simp only[List.foldl_cons,List.foldl_nil];unfold better at ih⊢;split
  ·rename_i hc
   refine .inr ⟨by simp,?_,hc.2⟩;rcases ih with e|⟨_,h2,_⟩
   ·rw[e] at hc;exact hc.1
   ·have:=hc.1;omega
  ·rcases ih with e|⟨h1,h2,h3⟩
   ·exact .inl e
   ·exact .inr ⟨List.mem_append_left _ h1,h2,h3⟩
theorem Kn.pg (K:Kn)(data:Bs):K.longest data=data.take 1∨(K.longest data ∈ K.yF∧1<(K.longest data).length+(if data=[] then 1 else 0)∧(K.longest data).isPrefixOf data=true):=by
 unfold Kn.longest;rcases Xp data K.yF (data.take 1) with h|⟨h1,h2,h3⟩
 ·exact .inl h
 ·refine .inr ⟨h1,?_,h3⟩
  cases data<;>simp at h2⊢<;>omega
theorem Kn.yE (K:Kn)(data:Bs):K.longest data=data.take (K.longest data).length∧(K.longest data).length≤data.length:=by
 rcases K.pg data with h|⟨_,_,h⟩
 ·rw[h]
  cases data<;>simp
 ·have:=List.isPrefixOf_iff_prefix.1 h
  exact⟨List.prefix_iff_eq_take.1 this,this.length_le⟩
theorem Kn.xg (K:Kn){data:Bs}(h:data≠[]):1≤(K.longest data).length:=by
 rcases K.pg data with e|⟨_,h2,_⟩
 ·rw[e];cases data<;>simp at h⊢
 ·rw[if_neg h] at h2;omega
theorem Kn.sF {K:Kn}(h:K.ok){data:Bs}(hd:data≠[])(hl:data.all (vI K.l)=true):K.fol (K.find (K.longest data))=true∧K.any (K.find (K.longest data))=K.longest data∧0≤K.find (K.longest data):=by
 have hb:=h.bd;have hp:=K.yE data;have h1:=K.xg hd;have hhead:wE (K.longest data)<K.cl:=by
  refine dw h1 fun x hx=> ?_;rw[hp.1] at hx;have:=List.all_eq_true.1 hl x (List.mem_of_mem_take hx);simpa [vI,Kn.cl] using this
 have hbd:=gK (K.longest data);unfold Kn.find;by_cases hone:(K.longest data).length=1
 ·rw[if_pos ⟨hone,hhead⟩]
  refine⟨?_,?_,hbd.1⟩
  ·unfold Kn.fol;simp only[decide_eq_true_eq];left;left;omega
  ·unfold Kn.any
   rw[if_neg (by unfold Kn.nx;unfold Kn.cl at*;omega)];unfold Kn.word;rw[kP _ _ _ hhead];generalize K.longest data=x at hone
   match x,hone with
   |[c],_=>simp [wE]
 ·rw[if_neg (fun hh=>hone hh.1)]
  rcases K.pg data with e|⟨hm,_,_⟩
  ·exact absurd (by rw[e];cases data<;>simp at hd⊢) hone
  ·have hs:(K.yF.findIdx? (fun x=>decide (x=K.longest data))).isSome=true:=by
    rw[List.findIdx?_isSome,List.any_eq_true];exact⟨_,hm,by simp⟩
   obtain⟨i,hi⟩:=Option.isSome_iff_exists.1 hs;rw[hi];obtain⟨hlt,hx,_⟩:=List.findIdx?_eq_some_iff_getElem.1 hi;have hf:=K.jd i hlt;simp only;refine⟨hf,?_,oo⟩;simp only[decide_eq_true_eq] at hx;rw[←hx];simp [Kn.yF]
def wu :Nat→Kn→Bs→Kn
 |0,K,_=>K
 |n+1,K,t=>if t=[] then K else wu n (K.after (K.find (K.longest t))) (t.drop (K.longest t).length)
def Kn.learn (K:Kn)(t:Bs):Kn:=
 let K1:=wu t.length K.cleared t
 { K1 with base:=K1.ps.length,last:= -1 }
def vX (o l m:Int):Kn:=⟨o,l,m,[],0, -1⟩
def zt (o l m:Int)(d:Bs):Kn:=(vX o l m).learn d
def zV :Nat→Kn→Bs→List Int
 |0,_,_=>[]
 |n+1,K,t=>if t=[] then[] else
  let c:=K.find (K.longest t)
  let K1:=K.after c
  let r:=t.drop (K.longest t).length
  if r≠[]∧K1.top<K1.nx∧K1.base<K1.ps.length then c::K.cl::zV n K1.cleared r else c::zV n K1 r
def Kn.yc (K:Kn)(t:Bs):List Int:=K.cl::(zV t.length K.cleared t++[K.cl+1])
theorem rJ (p:UInt8→Bool)(t:Bs)(n:Nat)(h:t.all p=true):(t.drop n).all p=true:=by
 rw[List.all_eq_true] at h⊢;exact fun x hx=>h x (List.mem_of_mem_drop hx)
theorem aS :∀(n:Nat) (K:Kn) (t:Bs),K.ok→t.all (vI K.l)=true→(wu n K t).ok∧(wu n K t).o=K.o∧(wu n K t).l=K.l∧(wu n K t).m=K.m
 |0,K,_,h,_=>⟨h,rfl,rfl,rfl⟩
 |n+1,K,t,h,hl=>by
  unfold wu;split
  ·exact⟨h,rfl,rfl,rfl⟩
  ·rename_i hne
   have hf:=K.sF h hne hl;have:=aS n (K.after (K.find (K.longest t))) (t.drop (K.longest t).length) (K.vU h hf.1) (rJ _ _ _ hl);exact this
theorem Kn.Np {K:Kn}(h:K.ok){t:Bs}(hl:t.all (vI K.l)=true):(K.learn t).ok∧(K.learn t).o=K.o∧(K.learn t).l=K.l∧(K.learn t).m=K.m:=by
 have h1:=aS t.length K.cleared t (K.y7 h) hl;obtain⟨hk,h2,h3,h4⟩:=h1;refine⟨⟨hk.st,hk.pairs,hk.len,?_,?_,.inl ⟨rfl,rfl⟩⟩,h2,h3,h4⟩
 ·show(0:Int)≤((wu t.length K.cleared t).ps.length:Int);omega
 ·exact Int.le_refl _
theorem kN {o l m:Int}(h:vW o l m):(vX o l m).ok:=by
 have hb:pow2 l+1≤pow2 m - 1:=by
  obtain⟨h1,h2,h3,h4,h5⟩:=h;unfold pow2;have ll:l=1∨l=2∨l=3∨l=4∨l=5∨l=6∨l=7∨l=8:=oo;have mm:m=3∨m=4∨m=5∨m=6∨m=7∨m=8∨m=9∨m=10:=oo;rcases ll with e|e|e|e|e|e|e|e<;>rcases mm with f|f|f|f|f|f|f|f<;>rw[e] at h4⊢<;>rw[f] at h4⊢<;>first|decide|omega
 refine⟨h,?_,?_,Int.le_refl _,Int.le_refl _,.inl ⟨rfl,rfl⟩⟩
 ·intro i hi;exact absurd hi (by simp [vX])
 ·show pow2 l+1+((0:Nat):Int)≤pow2 m - 1
  omega
def needed (n:Nat):Nat:=if n≤1 then 1 else needed (n / 2)+1
termination_by n
decreasing_by omega
theorem pJ (n:Nat)(h:1<n):needed n=needed (n / 2)+1:=by rw[needed,if_neg (by omega)]
theorem sJ (n:Nat)(h:n≤1):needed n=1:=by rw[needed,if_pos h]
theorem qF :∀(k n:Nat),n<2 ^ (k+1)→1≤needed n∧needed n≤k+1
 |0,n,h=>by rw[sJ n (by omega)];omega
 |k+1,n,h=>by
  by_cases h1:n≤1
  ·rw[sJ n h1];omega
  ·rw[pJ n (by omega)]
   have:=qF k (n / 2) (by rw[Nat.pow_succ] at h;omega);omega
theorem Xh :∀(k n:Nat),needed n≤k→n<2 ^ k
 |k,n,h=>by
  by_cases h1:n≤1
  ·rw[sJ n h1] at h
   have:2 ^ 1≤2 ^ k:=Nat.pow_le_pow_right oo h;omega
  ·rw[pJ n (by omega)] at h
   match k,h with
   |k+1,h=>
    have:=Xh k (n / 2) oo;rw[Nat.pow_succ];omega
 termination_by k n=>n
 decreasing_by omega
def oz (c i:Nat):UInt8:=UInt8.ofNat (48+c / 2 ^ i % 2)
def wJ (c w:Nat):Bs:=(List.range w).map (oz c)
def zU (o:Int)(c w:Nat):Bs:=if o=0 then wJ c w else(wJ c w).reverse
theorem xx (o:Int)(c w:Nat):(zU o c w).length=w:=by unfold zU;split<;>simp [wJ]
theorem mF (c w:Nat):wJ c (w+1)=wJ c w++[oz c w]:=by unfold wJ;rw[List.range_succ,List.map_append];rfl
theorem WJ (o:Int)(c w:Nat)(h:o=0):zU o c (w+1)=zU o c w++[oz c w]:=by
 unfold zU;rw[if_pos h,if_pos h,mF]
theorem YL (o:Int)(c w:Nat)(h:o≠0):zU o c (w+1)=oz c w::zU o c w:=by
 unfold zU;rw[if_neg h,if_neg h,mF,List.reverse_append];rfl
def yJ (l:Bs):Bool:=l.all fun c=>c=48||c=49
theorem Qc (c i:Nat):oz c i=48∨oz c i=49:=by
 unfold oz;have:c / 2 ^ i % 2=0∨c / 2 ^ i % 2=1:=oo;rcases this with e|e<;>rw[e]<;>decide
theorem jr (o:Int)(c w:Nat):yJ (zU o c w)=true:=by
 have h:yJ (wJ c w)=true:=by
  unfold yJ wJ;rw[List.all_eq_true];intro x hx;simp only[List.mem_map] at hx;obtain⟨i,_,rfl⟩:=hx;rcases Qc c i with e|e<;>simp [e]
 unfold zU;split
 ·exact h
 ·unfold yJ at*;rw[List.all_reverse];exact h
def yI (l:Bs):Nat:=l.foldl (fun n c=>2*n+(c.toNat - 48)) 0
def numBits (o:Int)(l:Bs):Nat:=if o=0 then yI l.reverse else yI l
theorem wW (l:Bs)(c:UInt8):yI (l++[c])=2*yI l+(c.toNat - 48):=by unfold yI;rw[List.foldl_append];rfl
theorem jY (l:Bs)(h:yJ l=true):yI l<2 ^ l.length:=by
 induction l using y5 with
 |h0=>simp [yI]
 |h1 l c ih=>
  unfold yJ at h ih;rw[List.all_append,Bool.and_eq_true] at h;have h1:=ih h.1;have h2:c=48∨c=49:=(by simpa using h.2);rw[wW,List.length_append,List.length_cons,List.length_nil,Nat.pow_add];have h3:c.toNat - 48≤1:=(by rcases h2 with e|e<;>subst e<;>decide);omega
theorem ou (l:Bs):yJ l.reverse=yJ l:=by unfold yJ;rw[List.all_reverse]
theorem qW (o:Int)(l:Bs)(h:yJ l=true):numBits o l<2 ^ l.length:=by
 unfold numBits;split
 ·have:=jY l.reverse (by rw[ou];exact h);rwa [List.length_reverse] at this
 ·exact jY l h
theorem rY (c:Nat):∀w,yI (wJ c w).reverse=c % 2 ^ w
 |0=>by simp [wJ,yI,Nat.mod_one]
 |w+1=>by
  have key:∀(l:Bs) (x:UInt8),(∀y ∈ l,y=48∨y=49)→yI (x::l)=(x.toNat - 48)*2 ^ l.length+yI l:=by
   intro l
   induction l using y5 with
   |h0=>intro x _;simp [yI]
   |h1 l y ih=>
    intro x h;rw[show x::(l++[y])=(x::l)++[y] from rfl,wW,wW,ih x (fun z hz=>h z (by simp [hz]))];rw[List.length_append,List.length_cons,List.length_nil,Nat.pow_add,Nat.mul_add];have:2*((x.toNat - 48)*2 ^ l.length)=(x.toNat - 48)*(2 ^ l.length*2 ^ (0+1)):=by
     rw[Nat.zero_add,Nat.pow_one,←Nat.mul_assoc,Nat.mul_comm 2 (x.toNat - 48),Nat.mul_assoc,Nat.mul_comm 2]
    omega
  rw[mF,List.reverse_append];show yI (oz c w::(wJ c w).reverse)=_;rw[key _ _ (fun y hy=>by
   simp only[List.mem_reverse,wJ,List.mem_map] at hy;obtain⟨i,_,rfl⟩:=hy;exact Qc c i),rY c w]
  have hl:(wJ c w).reverse.length=w:=(by simp [wJ]);rw[hl];have hb:(oz c w).toNat - 48=c / 2 ^ w % 2:=by
   unfold oz;rw[UInt8.toNat_ofNat'];omega
  rw[hb,Nat.pow_succ,Nat.mod_mul,Nat.mul_comm,Nat.add_comm]
theorem OW (o:Int)(c w:Nat)(h:c<2 ^ w):numBits o (zU o c w)=c:=by
 unfold numBits zU;split
 ·rw[rY,Nat.mod_eq_of_lt h]
 ·rw[rY,Nat.mod_eq_of_lt h]
def uF (l:Bs):Bs:=l++List.replicate ((8 - l.length % 8) % 8) 48
theorem uY (l:Bs):(uF l).length=(l.length+7) / 8*8:=by unfold uF;simp;omega
def uG (o:Int)(l:Bs):Bs:=(List.range ((uF l).length / 8)).map fun i=>UInt8.ofNat (numBits o (((uF l).drop (8*i)).take 8))
theorem fH (o:Int)(l:Bs):(uG o l).length=(l.length+7) / 8:=by unfold uG;rw[List.length_map,List.length_range,uY];omega
def zM (o:Int)(l:Bs):Bs:=l.flatMap fun c=>zU o c.toNat 8
theorem tN (o:Int)(l:Bs):(zM o l).length=8*l.length:=by
 induction l with
 |nil=>rfl
 |cons c l ih=>unfold zM at*;rw[List.flatMap_cons,List.length_append,ih,xx,List.length_cons];omega
theorem fJ (o:Int)(l:Bs):yJ (zM o l)=true:=by
 induction l with
 |nil=>rfl
 |cons c l ih=>
  have h:=jr o c.toNat 8;unfold zM yJ at*;rw[List.flatMap_cons,List.all_append,h,ih];rfl
def Kn.width (K:Kn):Nat:=max (K.l.toNat+1) (needed K.great.toNat)
def Kn.step (K:Kn)(c:Int):Kn:=if c=K.cl then K.cleared else K.after c
structure Wk where
 K : Kn
 ws : List Nat
 d : Bs
def Wk.step (x:Wk)(c:Int):Wk:=⟨x.K.step c,x.ws++[x.K.width],x.d++(if c=x.K.cl then[] else x.K.any c)⟩
def Kn.walk (K:Kn)(cs:List Int):Wk:=cs.foldl Wk.step ⟨K,[],[]⟩
theorem Pm (K:Kn)(cs:List Int)(c:Int):K.walk (cs++[c])=(K.walk cs).step c:=by unfold Kn.walk;rw[List.foldl_append];rfl
theorem Qw (K:Kn)(cs:List Int):(K.walk cs).ws.length=cs.length:=by
 induction cs using y5 with
 |h0=>rfl
 |h1 cs c ih=>rw[Pm];simp [Wk.step,ih]
def Kn.bits (K:Kn)(cs:List Int):Bs:=(cs.zip (K.walk cs).ws).flatMap fun p=>zU K.o p.1.toNat p.2
def Kn.comp (K:Kn)(t:Bs):Bs:=uG K.o (K.bits (K.yc t))
end Go.Proofs.YtfppmajoidkooaaGreatDoor
namespace Go.Proofs.YtfppmajoidkooaaGreatDoor
open Go.RowKit
def wO :Kn→List Int→Nat→Prop
 |_,[],_=>False
 |K,c::r,n=>if c=K.cl+1 then r=[] else if c=K.cl then wO K.cleared r n else K.fol c=true∧n≤2000∧wO (K.after c) r (n+(K.any c).length)
theorem dU {K:Kn}(h:K.ok){c:Int}(hc:K.fol c=true):0≤c∧c≤1100*2∧c≠K.cl∧c≠K.cl+1:=by
 have hb:=h.bd;unfold Kn.fol at hc;simp only[decide_eq_true_eq] at hc;unfold codeOk Kn.nx at hc;unfold Kn.cl at*;omega
theorem oJ :∀(n:Nat) (K:Kn) (t:Bs) (m:Nat),K.ok→t.all (vI K.l)=true→t.length≤n→m+t.length≤2000→wO K (zV n K t++[K.cl+1]) m
 |0,K,t,m,_,_,ht,_=>by simp [zV,wO]
 |n+1,K,t,m,hk,hl,ht,hm=>by
  unfold zV;split
  ·simp [wO]
  ·rename_i hne
   have hf:=K.sF hk hne hl;have hlp:=(K.yE t).2;have hlq:=K.xg hne;obtain⟨hf1,hf2,hf3⟩:=hf;have hb:=dU hk hf1;have hao:=K.vU hk hf1;have hd:(t.drop (K.longest t).length).length=t.length - (K.longest t).length:=(by simp);have hrl:(t.drop (K.longest t).length).all (vI K.l)=true:=rJ _ _ _ hl;simp only;split
   ·rw[List.cons_append,wO,if_neg hb.2.2.2,if_neg hb.2.2.1,hf2,List.cons_append,wO]
    refine⟨hf1,oo,?_⟩;have e1:(K.after (K.find (K.longest t))).cl=K.cl:=rfl;rw[e1,if_neg (by omega),if_pos rfl];exact oJ n _ _ _ (Kn.y7 hao) hrl oo oo
   ·rw[List.cons_append,wO,if_neg hb.2.2.2,if_neg hb.2.2.1,hf2]
    exact⟨hf1,oo,oJ n _ _ _ hao hrl oo oo⟩
theorem bV {K:Kn}(hk:K.ok){t:Bs}(hl:t.all (vI K.l)=true)(ht:t.length≤2000):wO K (K.yc t) 0:=by
 unfold Kn.yc;rw[wO,if_neg (by omega),if_pos rfl];exact oJ _ _ _ _ (Kn.y7 hk) hl (Nat.le_refl _) oo
theorem Q9 (cs:List Int):∀(K:Kn) (ws:List Nat) (d:Bs),cs.foldl Wk.step ⟨K,ws,d⟩=⟨(K.walk cs).K,ws++(K.walk cs).ws,d++(K.walk cs).d⟩:=by
 induction cs with
 |nil=>intro K ws d;simp [Kn.walk]
 |cons c r ih=>
  intro K ws d;show r.foldl Wk.step ⟨K.step c,ws++[K.width],d++(if c=K.cl then[] else K.any c)⟩=_;rw[ih];have h:K.walk (c::r)=r.foldl Wk.step ⟨K.step c,[]++[K.width],[]++(if c=K.cl then[] else K.any c)⟩:=rfl;rw[h,ih];simp
theorem nG (K:Kn)(c:Int)(r:List Int):(K.walk (c::r)).ws=K.width::((K.step c).walk r).ws:=by
 have h:K.walk (c::r)=r.foldl Wk.step ⟨K.step c,[]++[K.width],[]++(if c=K.cl then[] else K.any c)⟩:=rfl;rw[h,Q9];simp
theorem lu {K:Kn}(h:K.ok):1≤K.width∧K.width≤10:=by
 have hb:=h.bd;have hg:=K.uJ h;have hn:=qF 9 K.great.toNat oo;obtain⟨h1,h2,h3,h4,h5⟩:=h.st;unfold Kn.width;omega
theorem step_ok {K:Kn}(h:K.ok){c:Int}(hc:c≠K.cl→K.fol c=true):(K.step c).ok:=by
 unfold Kn.step;split
 ·exact K.y7 h
 ·rename_i hne;exact K.vU h (hc hne)
theorem jW (cs:List Int):∀(K:Kn) (n:Nat),K.ok→wO K cs n→∀p ∈ cs.zip (K.walk cs).ws,0≤p.1∧p.1≤2200∧p.2≤10:=by
 induction cs with
 |nil=>intro K n _ h;exact absurd h (by simp [wO])
 |cons c r ih=>
  intro K n hk hg p hp;have hw:=lu hk;have hb:=hk.bd;rw[nG,List.zip_cons_cons,List.mem_cons] at hp;rw[wO] at hg;split at hg
  ·rename_i he
   subst hg;rcases hp with rfl|hp
   ·simp only;omega
   ·simp at hp
  ·split at hg
   ·rename_i he
    rcases hp with rfl|hp
    ·simp only;omega
    ·have hs:K.step c=K.cleared:=if_pos he
     rw[hs] at hp;exact ih _ _ (K.y7 hk) hg p hp
   ·rename_i he
    have hf:=dU hk hg.1;rcases hp with rfl|hp
    ·simp only;omega
    ·have hs:K.step c=K.after c:=if_neg he
     rw[hs] at hp;exact ih _ _ (K.vU hk hg.1) hg.2.2 p hp
theorem iF (K:Kn)(cs:List Int):yJ (K.bits cs)=true:=by
 unfold Kn.bits yJ;rw[List.all_flatMap,List.all_eq_true];intro p _;exact jr _ _ _
theorem lD {K:Kn}(hk:K.ok){cs:List Int}{n:Nat}(hg:wO K cs n):(K.bits cs).length≤10*cs.length:=by
 have hf:=jW cs K n hk hg;have hl:(cs.zip (K.walk cs).ws).length≤cs.length:=(by rw[List.length_zip];omega);unfold Kn.bits;generalize cs.zip (K.walk cs).ws=z at*;have:(z.flatMap fun p=>zU K.o p.1.toNat p.2).length≤10*z.length:=by
  clear hl
  induction z with
  |nil=>simp
  |cons p z ih=>
   have h1:=(hf p List.mem_cons_self).2.2;have h2:=ih fun q hq=>hf q (List.mem_cons_of_mem _ hq);rw[List.flatMap_cons,List.length_append,xx,List.length_cons];omega
 omega
end Go.Proofs.YtfppmajoidkooaaGreatDoor
