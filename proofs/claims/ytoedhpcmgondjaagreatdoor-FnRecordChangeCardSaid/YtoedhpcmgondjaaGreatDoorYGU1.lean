import Derived.Test.YtoedhpcmgondjaaGreatDoorYGS4
import Derived.Test.YtoedhpcmgondjaaGreatDoorYGL
import Derived.Deep.SlicePairs
set_option linter.all false
namespace Go.Proofs.YtoedhpcmgondjaaGreatDoor
open Go.RowKit
set_option maxRecDepth 100000
attribute [local instance] mU hZ cvZ
theorem tY {K:Kn}{b:Blk}{d:Bs}(a:b.ok=true)(h:b.dat K=some d):(d.length:Int)=b.size:=by
 unfold Blk.dat at h;obtain⟨n,r,s,t⟩:=b;rw[Blk.jh] at a;simp only at h⊢
 cases r with
 |true=>simp only[if_true] at h a;injection h with h;subst h;exact a.2.2.2.2
 |false=>
  simp only[Bool.false_eq_true,if_false] at h;split at h
  ·cases h
  ·rename_i c
   injection h with h
   subst h;have e:=not_or.1 (not_or.1 c).2;exact Classical.not_not.1 e.2
theorem qO {b:Blk}(h:b.ok=true):b.body.length≤64:=by
 obtain⟨n,r,s,t⟩:=b;rw[Blk.jh] at h
 cases r<;>simp at h<;>simp only<;>omega
def yM (K:Kn):List Blk→Option Bs
 |[]=>some []
 |b::a=>(b.dat K).bind fun d=>(yM K a).map (d++·)
theorem uJ (K:Kn)(a:List Blk)(b:Blk):yM K (a++[b])=(yM K a).bind fun x=>(b.dat K).map (x++·):=by
 induction a with
 |nil=>simp only[List.nil_append,yM,Option.bind_some];cases b.dat K<;>simp
 |cons c a e=>
  simp only[List.cons_append,yM,e]
  cases c.dat K with
  |none=>rfl
  |some d=>
   simp only[Option.bind_some]
   cases yM K a with
   |none=>rfl
   |some x=>simp only[Option.bind_some,Option.map_some];cases b.dat K<;>simp
theorem Yi {K:Kn}{a:List Blk}(h:yM K a=none)(cs:List Blk):yM K (a++cs)=none:=by
 induction cs using xx with
 |h0=>simpa using h
 |h1 cs c b=>rw[←List.append_assoc,uJ,b];rfl
theorem iO {K:Kn}{a:List Blk}{k:Nat}{x d:Bs}(hk:k<a.length)(h:yM K (a.take k)=some x)(b:a[k].dat K=some d):yM K (a.take (k+1))=some (x++d):=by
 rw[List.take_succ_eq_append_getElem hk,uJ,h,b];rfl
theorem gU {K:Kn}{a:List Blk}{k:Nat}(hk:k<a.length)(b:a[k].dat K=none):yM K a=none:=by
 have h:yM K (a.take (k+1))=none:=by
  rw[List.take_succ_eq_append_getElem hk,uJ,b];cases yM K (a.take k)<;>rfl
 have e:=Yi h (a.drop (k+1))
 rwa [List.take_append_drop] at e
theorem OG {K:Kn}{a:List Blk}{x:Bs}(e:∀b ∈ a,b.ok=true)(h:yM K a=some x):(x.length:Int)=zo a:=by
 induction a using xx generalizing x with
 |h0=>injection h with h;subst h;rfl
 |h1 a b f=>
  rw[uJ] at h
  cases h1:yM K a with
  |none=>rw[h1] at h;cases h
  |some y=>
   rw[h1] at h
   cases h2:b.dat K with
   |none=>rw[h2] at h;cases h
   |some d=>
    rw[h2] at h;injection h with h
    subst h;have i:=f (fun c g=>e c (by simp [g])) h1;have j:=tY (e b (by simp)) h2;rw[uj];simp only[List.length_append];omega
theorem xU {l:Bs}{a:List Blk}(h:zX l=some a):∀b ∈ a,b.ok=true:=by
 exact aG (kL h).1
theorem XZ {l:Bs}{a:List Blk}(h:zX l=some a):zo a≤2000:=(kL h).2.2
def cdB (o l m:Int)(dict t:Bs):Option Bs:=if fits o l m dict then(zX t).bind (yM (zA o l m dict)) else none
theorem Mc {o l m:Int}{dict t:Bs}(h:¬fits o l m dict):cdB o l m dict t=none:=by unfold cdB;rw[if_neg h]
theorem UU {o l m:Int}{dict t:Bs}(h:zX t=none):cdB o l m dict t=none:=by unfold cdB;rw[h];split<;>rfl
theorem sU {o l m:Int}{dict t:Bs}{a:List Blk}(b:fits o l m dict)(h:zX t=some a):cdB o l m dict t=yM (zA o l m dict) a:=by unfold cdB;rw[h,if_pos b];rfl
abbrev Pc :=Int×Bs
def RG (ps:List Pc)(k:Int):Prop:=(∀(i:Nat) (h:i<ps.length),0≤ps[i].1∧ps[i].1<k∧1≤ps[i].2.length∧ps[i].2.length≤64)∧∀(i:Nat) (h:i+1<ps.length),ps[i].1<ps[i+1].1
abbrev ltS (a b:Bs):Bool:=Op.bytesLess a b
theorem pF :∀a:Bs,ltS a a=false
 |[]=>rfl
 |x::a=>by
  have h:=pF a;show(decide (x<x)||(x==x&&Op.bytesLess a a))=false;have h2:Op.bytesLess a a=false:=h;rw[h2];simp
theorem TY (x y:UInt8)(a b:Bs):ltS (x::a) (y::b)=(decide (x<y)||(x==y&&ltS a b)):=rfl
theorem jA :∀a b:Bs,ltS a b=false→ltS b a=false→a=b
 |[],[],_,_=>rfl
 |[],y::b,h,_=>by cases h
 |x::a,[],_,h=>by cases h
 |x::a,y::b,h,c=>by
  rw[TY] at h c;simp only[Bool.or_eq_false_iff,decide_eq_false_iff_not,Bool.and_eq_false_iff,beq_eq_false_iff_ne] at h c;have d:x=y:=by
   have h1:=h.1;have h2:=c.1;apply UInt8.toNat_inj.1;simp only[UInt8.lt_iff_toNat_lt] at h1 h2;omega
  subst d;have h1:ltS a b=false:=(by rcases h.2 with h|h;exact absurd rfl h;exact h);have h2:ltS b a=false:=(by rcases c.2 with h|h;exact absurd rfl h;exact h);rw[jA a b h1 h2]
theorem mF :∀a b c:Bs,ltS a b=true→ltS b c=true→ltS a c=true
 |[],[],_,h,_=>by cases h
 |_::_,[],_,h,_=>by cases h
 |_,_::_,[],_,h=>by cases h
 |[],y::b,z::c,_,_=>rfl
 |x::a,y::b,z::c,h,d=>by
  rw[TY] at h d⊢;simp only[Bool.or_eq_true,decide_eq_true_eq,Bool.and_eq_true,beq_iff_eq] at h d⊢;rcases h with h|⟨rfl,h⟩
  ·rcases d with d|⟨rfl,d⟩
   ·left;simp only[UInt8.lt_iff_toNat_lt] at*;omega
   ·exact .inl h
  ·rcases d with d|⟨rfl,d⟩
   ·exact .inl d
   ·exact .inr ⟨rfl,mF a b c h d⟩
theorem kQ {a b:Bs}(h:ltS a b=true):a≠b:=by rintro rfl;rw[pF] at h;cases h
theorem KU (a b:Bs):(Op.bytesLess a b||a==b)= !(ltS b a):=by
 by_cases h:a=b
 ·subst h;rw[pF];simp
 ·cases h1:ltS b a with
  |true=>
   have h2:ltS a b=false:=by
    cases h2:ltS a b with
    |false=>rfl
    |true=>have:=mF _ _ _ h1 h2;rw[pF] at this;cases this
   have c:Op.bytesLess a b=false:=h2;rw[c];simpa using h
  |false=>
   have c:Op.bytesLess a b=true:=by
    cases h2:Op.bytesLess a b with
    |true=>rfl
    |false=>exact absurd (jA a b h2 h1) h
   rw[c];rfl
theorem oO (t:TypeId)(a b:Bs):binOp .leq t (.string ⟨a.toArray⟩) (.string ⟨b.toArray⟩)=pure (.bool (!(Op.bytesLess b a))):=by
 rw[binOp_string_leq,zN,zN,KU]
theorem oJ (t:TypeId)(a b:Bs):binOp .geq t (.string ⟨a.toArray⟩) (.string ⟨b.toArray⟩)=pure (.bool (!(Op.bytesLess a b))):=by
 rw[binOp_string_geq,zN,zN]
abbrev Fl :=Bs×Bs
def flL (f:Fl):List Value:=[.string ⟨f.1.toArray⟩,.string ⟨f.2.toArray⟩]
def yz (fs:List Fl):List Value:=fs.flatMap flL
theorem rX (ps:List Fl)(p:Fl):yz (ps++[p])=yz ps++flL p:=by unfold yz;rw[List.flatMap_append];simp
theorem ui (ps:List Fl):(yz ps).length=ps.length*2:=by
 induction ps with
 |nil=>rfl
 |cons f fs a=>unfold yz at*;rw[List.flatMap_cons,List.length_append,a];simp [flL];omega
theorem ZJ (ps:List Fl)(k:Nat)(h:k<ps.length):(yz ps)[k*2+0]? =some (.string ⟨ps[k].1.toArray⟩)∧(yz ps)[k*2+1]? =some (.string ⟨ps[k].2.toArray⟩):=by
 have e:ps=ps.take k++(ps[k]::ps.drop (k+1)):=(by rw[List.getElem_cons_drop,List.take_append_drop]);have a:(yz (ps.take k)).length=k*2:=(by rw[ui,List.length_take];omega);have b:yz ps=yz (ps.take k)++(flL ps[k]++yz (ps.drop (k+1))):=by
  conv=>lhs;rw[e]
  unfold yz;rw[List.flatMap_append,List.flatMap_cons]
 rw[b];refine⟨?_,?_⟩<;>(rw[List.getElem?_append_right (by omega),a];simp [flL])
structure Sto where
 o : Int
 l : Int
 m : Int
 dict : Bs
 fs : List Fl
def Sto.fine (S:Sto)(i:Nat)(h:i<S.fs.length):Prop:=vV S.fs[i].1=true∧(cdB S.o S.l S.m S.dict S.fs[i].2).isSome=true∧∀h0:0<i,ltS (S.fs[i - 1]'oo).1 S.fs[i].1=true
def Sto.ok (S:Sto):Prop:=fits S.o S.l S.m S.dict∧S.fs.length≤6∧∀(i:Nat) (h:i<S.fs.length),S.fine i h
open Classical in
noncomputable def Sto.okB (S:Sto):Bool:=decide S.ok
theorem Sto.dS (S:Sto):S.okB=true↔S.ok:=by unfold Sto.okB;simp
theorem Sto.RU {S:Sto}(h:¬S.ok):S.okB=false:=by unfold Sto.okB;simpa using h
theorem Sto.asc {S:Sto}(h:S.ok):∀(j i:Nat) (a:j<S.fs.length) (b:i<j),ltS (S.fs[i]'oo).1 S.fs[j].1=true
 |0,i,a,b=>by omega
 |j+1,i,a,b=>by
  have h1:=(h.2.2 (j+1) a).2.2 oo;simp only[Nat.add_sub_cancel] at h1;by_cases c:i=j
  ·subst c;exact h1
  ·exact mF _ _ _ (Sto.asc h j i oo oo) h1
theorem Sto.UB {S:Sto}(h:¬fits S.o S.l S.m S.dict):S.okB=false:=Sto.RU fun h2=>h h2.1
theorem Sto.PD {S:Sto}(h:¬S.fs.length≤6):S.okB=false:=Sto.RU fun h2=>h h2.2.1
theorem Sto.Oe {S:Sto}{k:Nat}{hk:k<S.fs.length}(h:¬S.fine k hk):S.okB=false:=Sto.RU fun h2=>h (h2.2.2 k hk)
theorem Sto.Po {S:Sto}(h:fits S.o S.l S.m S.dict)(h2:S.fs.length≤6)(b:∀(i:Nat) (a:i<S.fs.length),i<S.fs.length→S.fine i a):S.okB=true:=(Sto.dS S).2 ⟨h,h2,fun i a=>b i a a⟩
theorem Sto.bG {S:Sto}{k:Nat}(a:∀(i:Nat) (h:i<S.fs.length),i<k→S.fine i h)(hk:k<S.fs.length)(b:S.fine k hk):∀(i:Nat) (h:i<S.fs.length),i<k+1→S.fine i h:=by
 intro i h d;by_cases c:i=k
 ·subst c;exact b
 ·exact a i h oo
def lZ (fs:List Fl)(k:Nat):Bs:=(fs[k - 1]?.getD ([],[])).1
theorem Sto.dw {S:Sto}{k:Nat}(hk:k<S.fs.length):S.fine k hk↔vV S.fs[k].1=true∧(cdB S.o S.l S.m S.dict S.fs[k].2).isSome=true∧(k=0∨Op.bytesLess (lZ S.fs k) S.fs[k].1=true):=by
 unfold Sto.fine lZ;rw[List.getElem?_eq_getElem (show k - 1<S.fs.length by omega)];simp only[Option.getD_some];constructor
 ·rintro⟨a,b,c⟩
  refine⟨a,b,?_⟩;by_cases h:k=0
  ·exact .inl h
  ·exact .inr (c oo)
 ·rintro⟨a,b,c⟩
  exact⟨a,b,fun h=>by rcases c with c|c;omega;exact c⟩
def wB (fs:List Fl)(n:Bs):Option Nat:=fs.findIdx? (fun f=>decide (f.1=n))
theorem Wq {fs:List Fl}{n:Bs}{i:Nat}(b:i<fs.length)(c:fs[i].1=n)(d:∀(j:Nat) (a:j<i),(fs[j]'oo).1≠n):wB fs n=some i:=by
 unfold wB;rw[List.findIdx?_eq_some_iff_getElem];exact⟨b,by simpa using c,fun j a=>by simpa using d j a⟩
theorem aB {fs:List Fl}{n:Bs}(b:∀(j:Nat) (a:j<fs.length),fs[j].1≠n):wB fs n=none:=by
 unfold wB;rw[List.findIdx?_eq_none_iff];intro f c;obtain⟨j,a,rfl⟩:=List.getElem_of_mem c;simpa using b j a
theorem ZI {fs:List Fl}{n:Bs}{i:Nat}(h:wB fs n=some i):i<fs.length:=by
 unfold wB at h;rw[List.findIdx?_eq_some_iff_getElem] at h;exact h.1
theorem Nl {S:Sto}(d:S.ok){n:Bs}{k:Nat}(hk:k<S.fs.length)(c:∀(j:Nat) (h:j<S.fs.length),j<k→Op.bytesLess S.fs[j].1 n=true)(h:Op.bytesLess S.fs[k].1 n=false):
 wB S.fs n=if S.fs[k].1=n then some k else none:=by
 split
 ·rename_i a
  exact Wq hk a fun j b=>kQ (c j oo b)
 ·rename_i a
  have e:ltS n S.fs[k].1=true:=by
   cases h2:ltS n S.fs[k].1 with
   |true=>rfl
   |false=>exact absurd (jA _ _ h h2) a
  refine aB fun j b=> ?_;by_cases h1:j<k
  ·exact kQ (c j b h1)
  ·by_cases h2:j=k
   ·subst h2;exact a
   ·exact(kQ (mF _ _ _ e (Sto.asc d j k b oo))).symm
theorem KQ {S:Sto}{n:Bs}{k:Nat}(hk:S.fs.length≤k)(a:∀(j:Nat) (h:j<S.fs.length),j<k→Op.bytesLess S.fs[j].1 n=true):wB S.fs n=none:=
 aB fun j b=>kQ (a j b oo)
theorem O6 {fs:List Fl}{n:Bs}{k:Nat}(hk:k<fs.length)(a:∀(j:Nat) (h:j<fs.length),j<k→Op.bytesLess fs[j].1 n=true)(h:Op.bytesLess fs[k].1 n=true):∀(j:Nat) (h:j<fs.length),j<k+1→Op.bytesLess fs[j].1 n=true:=by
 intro j b h1;by_cases c:j=k
 ·subst c;exact h
 ·exact a j b oo
theorem Jv {fs:List Fl}{n:Bs}{k:Nat}(hk:k<fs.length)(a:∀(j:Nat) (h:j<fs.length),j<k→fs[j].1≠n)(h:fs[k].1≠n):∀(j:Nat) (h:j<fs.length),j<k+1→fs[j].1≠n:=by
 intro j b h1;by_cases c:j=k
 ·subst c;exact h
 ·exact a j b oo
def fsz (fs:List Fl):Int:=fs.foldl (fun n f=>n+f.2.length) 0
open Classical in
noncomputable def Sto.size (S:Sto):Int:=if S.ok then fsz S.fs else -1
abbrev Sto.C (S:Sto)(A:Option Addr)(cap:Nat):Array Value:=#[S.o,S.l,S.m,S.dict,.slice A S.fs.length cap]
abbrev Sto.V (S:Sto)(A:Option Addr)(cap:Nat):Value:=.agg #[S.o,S.l,S.m,S.dict,.slice A S.fs.length cap]
