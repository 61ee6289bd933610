import Derived.Test.YtfppmajoidkooaaGreatDoorUGP2
import Derived.Test.YtfppmajoidkooaaGreatDoorUGB
import Derived.Test.YtfppmajoidkooaaGreatDoorUGW
import Derived.Test.YtfppmajoidkooaaGreatDoorUGL
import Derived.Deep.SlicePairs
set_option linter.unusedVariables false
set_option linter.unusedSimpArgs false
namespace Go.Proofs.YtfppmajoidkooaaGreatDoor
open Go.RowKit
set_option maxRecDepth 100000
theorem sD {K:Kn}{b:Blk}{d:Bs}(hb:b.ok=true)(h:b.dat K=some d):(d.length:Int)=b.size:=by
 unfold Blk.dat at h;obtain⟨n,r,s,t⟩:=b;rw[Blk.lZ] at hb;simp only at h⊢
 cases r with
 |true=>simp only[if_true] at h hb;injection h with h;subst h;exact hb.2.2.2.2
 |false=>
  simp only[Bool.false_eq_true,if_false] at h;split at h
  ·cases h
  ·rename_i hn
   injection h with h
   subst h;have h3:=not_or.1 (not_or.1 hn).2;exact Classical.not_not.1 h3.2
theorem pW {b:Blk}(h:b.ok=true):b.body.length≤64:=by
 obtain⟨n,r,s,t⟩:=b;rw[Blk.lZ] at h
 cases r<;>simp at h<;>simp only<;>omega
def yK (K:Kn):List Blk→Option Bs
 |[]=>some []
 |b::bs=>(b.dat K).bind fun d=>(yK K bs).map (d++·)
theorem uq (K:Kn)(bs:List Blk)(b:Blk):yK K (bs++[b])=(yK K bs).bind fun x=>(b.dat K).map (x++·):=by
 induction bs with
 |nil=>simp only[List.nil_append,yK,Option.bind_some];cases b.dat K<;>simp
 |cons c bs ih=>
  simp only[List.cons_append,yK,ih]
  cases c.dat K with
  |none=>rfl
  |some d=>
   simp only[Option.bind_some]
   cases yK K bs with
   |none=>rfl
   |some x=>simp only[Option.bind_some,Option.map_some];cases b.dat K<;>simp
theorem Zy {K:Kn}{bs:List Blk}(h:yK K bs=none)(cs:List Blk):yK K (bs++cs)=none:=by
 induction cs using y5 with
 |h0=>simpa using h
 |h1 cs c ih=>rw[←List.append_assoc,uq,ih];rfl
theorem Zc {K:Kn}{bs:List Blk}{k:Nat}{x d:Bs}(hk:k<bs.length)(h:yK K (bs.take k)=some x)(hd:bs[k].dat K=some d):yK K (bs.take (k+1))=some (x++d):=by
 rw[List.take_succ_eq_append_getElem hk,uq,h,hd];rfl
theorem Yd {K:Kn}{bs:List Blk}{k:Nat}(hk:k<bs.length)(hd:bs[k].dat K=none):yK K bs=none:=by
 have h:yK K (bs.take (k+1))=none:=by
  rw[List.take_succ_eq_append_getElem hk,uq,hd];cases yK K (bs.take k)<;>rfl
 have e:=Zy h (bs.drop (k+1))
 rwa [List.take_append_drop] at e
theorem PU {K:Kn}{bs:List Blk}{x:Bs}(hok:∀b ∈ bs,b.ok=true)(h:yK K bs=some x):(x.length:Int)=zn bs:=by
 induction bs using y5 generalizing x with
 |h0=>injection h with h;subst h;rfl
 |h1 bs b ih=>
  rw[uq] at h
  cases h1:yK K bs with
  |none=>rw[h1] at h;cases h
  |some y=>
   rw[h1] at h
   cases h2:b.dat K with
   |none=>rw[h2] at h;cases h
   |some d=>
    rw[h2] at h;injection h with h
    subst h;have e1:=ih (fun c hc=>hok c (by simp [hc])) h1;have e2:=sD (hok b (by simp)) h2;rw[vT];simp only[List.length_append];omega
theorem xU {l:Bs}{bs:List Blk}(h:zT l=some bs):∀b ∈ bs,b.ok=true:=by
 exact eQ (lI h).1
theorem Xd {l:Bs}{bs:List Blk}(h:zT l=some bs):zn bs≤2000:=(lI h).2.2
def cdB (o l m:Int)(dict t:Bs):Option Bs:=if fits o l m dict then(zT t).bind (yK (zt o l m dict)) else none
theorem KD {o l m:Int}{dict t:Bs}(h:¬fits o l m dict):cdB o l m dict t=none:=by unfold cdB;rw[if_neg h]
theorem NF {o l m:Int}{dict t:Bs}(h:zT t=none):cdB o l m dict t=none:=by unfold cdB;rw[h];split<;>rfl
theorem rX {o l m:Int}{dict t:Bs}{bs:List Blk}(hf:fits o l m dict)(h:zT t=some bs):cdB o l m dict t=yK (zt o l m dict) bs:=by unfold cdB;rw[h,if_pos hf];rfl
abbrev Pc :=Int×Bs
def RP (ps:List Pc)(k:Int):Prop:=(∀(i:Nat) (h:i<ps.length),0≤ps[i].1∧ps[i].1<k∧1≤ps[i].2.length∧ps[i].2.length≤64)∧∀(i:Nat) (h:i+1<ps.length),ps[i].1<ps[i+1].1
abbrev ltS (a b:Bs):Bool:=Op.bytesLess a b
theorem pF :∀a:Bs,ltS a a=false
 |[]=>rfl
 |x::a=>by
  have h:=pF a;show(decide (x<x)||(x==x&&Op.bytesLess a a))=false;have h2:Op.bytesLess a a=false:=h;rw[h2];simp
theorem Uf (x y:UInt8)(a b:Bs):ltS (x::a) (y::b)=(decide (x<y)||(x==y&&ltS a b)):=rfl
theorem kY :∀a b:Bs,ltS a b=false→ltS b a=false→a=b
 |[],[],_,_=>rfl
 |[],y::b,h,_=>by cases h
 |x::a,[],_,h=>by cases h
 |x::a,y::b,h,h'=>by
  rw[Uf] at h h';simp only[Bool.or_eq_false_iff,decide_eq_false_iff_not,Bool.and_eq_false_iff,beq_eq_false_iff_ne] at h h';have hxy:x=y:=by
   have h1:=h.1;have h2:=h'.1;apply UInt8.toNat_inj.1;simp only[UInt8.lt_iff_toNat_lt] at h1 h2;omega
  subst hxy;have h1:ltS a b=false:=(by rcases h.2 with h|h;exact absurd rfl h;exact h);have h2:ltS b a=false:=(by rcases h'.2 with h|h;exact absurd rfl h;exact h);rw[kY a b h1 h2]
theorem ng :∀a b c:Bs,ltS a b=true→ltS b c=true→ltS a c=true
 |[],[],_,h,_=>by cases h
 |_::_,[],_,h,_=>by cases h
 |_,_::_,[],_,h=>by cases h
 |[],y::b,z::c,_,_=>rfl
 |x::a,y::b,z::c,h,h'=>by
  rw[Uf] at h h'⊢;simp only[Bool.or_eq_true,decide_eq_true_eq,Bool.and_eq_true,beq_iff_eq] at h h'⊢;rcases h with h|⟨rfl,h⟩
  ·rcases h' with h'|⟨rfl,h'⟩
   ·left;simp only[UInt8.lt_iff_toNat_lt] at*;omega
   ·exact .inl h
  ·rcases h' with h'|⟨rfl,h'⟩
   ·exact .inl h'
   ·exact .inr ⟨rfl,ng a b c h h'⟩
theorem ku {a b:Bs}(h:ltS a b=true):a≠b:=by rintro rfl;rw[pF] at h;cases h
theorem MK (a b:Bs):(Op.bytesLess a b||a==b)= !(ltS b a):=by
 by_cases h:a=b
 ·subst h;rw[pF];simp
 ·cases h1:ltS b a with
  |true=>
   have h2:ltS a b=false:=by
    cases h2:ltS a b with
    |false=>rfl
    |true=>have:=ng _ _ _ h1 h2;rw[pF] at this;cases this
   have h3:Op.bytesLess a b=false:=h2;rw[h3];simpa using h
  |false=>
   have h3:Op.bytesLess a b=true:=by
    cases h2:Op.bytesLess a b with
    |true=>rfl
    |false=>exact absurd (kY a b h2 h1) h
   rw[h3];rfl
theorem rO (t:TypeId)(a b:Bs):binOp .leq t (.string ⟨a.toArray⟩) (.string ⟨b.toArray⟩)=pure (.bool (!(Op.bytesLess b a))):=by
 rw[binOp_string_leq,zK,zK,MK]
theorem rM (t:TypeId)(a b:Bs):binOp .geq t (.string ⟨a.toArray⟩) (.string ⟨b.toArray⟩)=pure (.bool (!(Op.bytesLess a b))):=by
 rw[binOp_string_geq,zK,zK]
abbrev Fl :=Bs×Bs
def flL (f:Fl):List Value:=[.string ⟨f.1.toArray⟩,.string ⟨f.2.toArray⟩]
def yf (fs:List Fl):List Value:=fs.flatMap flL
theorem sZ (ps:List Fl)(p:Fl):yf (ps++[p])=yf ps++flL p:=by unfold yf;rw[List.flatMap_append];simp
theorem vH (ps:List Fl):(yf ps).length=ps.length*2:=by
 induction ps with
 |nil=>rfl
 |cons f fs ih=>unfold yf at*;rw[List.flatMap_cons,List.length_append,ih];simp [flL];omega
theorem aF (ps:List Fl)(k:Nat)(h:k<ps.length):(yf ps)[k*2+0]? =some (.string ⟨ps[k].1.toArray⟩)∧(yf ps)[k*2+1]? =some (.string ⟨ps[k].2.toArray⟩):=by
 have e:ps=ps.take k++(ps[k]::ps.drop (k+1)):=(by rw[List.getElem_cons_drop,List.take_append_drop]);have hl:(yf (ps.take k)).length=k*2:=(by rw[vH,List.length_take];omega);have e2:yf ps=yf (ps.take k)++(flL ps[k]++yf (ps.drop (k+1))):=by
  conv=>lhs;rw[e]
  unfold yf;rw[List.flatMap_append,List.flatMap_cons]
 rw[e2];refine⟨?_,?_⟩<;>(rw[List.getElem?_append_right (by omega),hl];simp [flL])
structure Sto where
 o : Int
 l : Int
 m : Int
 dict : Bs
 fs : List Fl
def Sto.fine (S:Sto)(i:Nat)(h:i<S.fs.length):Prop:=um S.fs[i].1=true∧(cdB S.o S.l S.m S.dict S.fs[i].2).isSome=true∧∀h0:0<i,ltS (S.fs[i - 1]'oo).1 S.fs[i].1=true
def Sto.ok (S:Sto):Prop:=fits S.o S.l S.m S.dict∧S.fs.length≤6∧∀(i:Nat) (h:i<S.fs.length),S.fine i h
open Classical in
noncomputable def Sto.okB (S:Sto):Bool:=decide S.ok
theorem Sto.Vt (S:Sto):S.okB=true↔S.ok:=by unfold Sto.okB;simp
theorem Sto.SB {S:Sto}(h:¬S.ok):S.okB=false:=by unfold Sto.okB;simpa using h
theorem Sto.asc {S:Sto}(h:S.ok):∀(j i:Nat) (hj:j<S.fs.length) (hi:i<j),ltS (S.fs[i]'oo).1 S.fs[j].1=true
 |0,i,hj,hi=>by omega
 |j+1,i,hj,hi=>by
  have h1:=(h.2.2 (j+1) hj).2.2 oo;simp only[Nat.add_sub_cancel] at h1;by_cases he:i=j
  ·subst he;exact h1
  ·exact ng _ _ _ (Sto.asc h j i oo oo) h1
theorem Sto.OL {S:Sto}(h:¬fits S.o S.l S.m S.dict):S.okB=false:=Sto.SB fun h2=>h h2.1
theorem Sto.LU {S:Sto}(h:¬S.fs.length≤6):S.okB=false:=Sto.SB fun h2=>h h2.2.1
theorem Sto.MN {S:Sto}{k:Nat}{hk:k<S.fs.length}(h:¬S.fine k hk):S.okB=false:=Sto.SB fun h2=>h (h2.2.2 k hk)
theorem Sto.MV {S:Sto}(h:fits S.o S.l S.m S.dict)(h2:S.fs.length≤6)(h3:∀(i:Nat) (hi:i<S.fs.length),i<S.fs.length→S.fine i hi):S.okB=true:=(Sto.Vt S).2 ⟨h,h2,fun i hi=>h3 i hi hi⟩
theorem Sto.Xc {S:Sto}{k:Nat}(hA:∀(i:Nat) (h:i<S.fs.length),i<k→S.fine i h)(hk:k<S.fs.length)(hf:S.fine k hk):∀(i:Nat) (h:i<S.fs.length),i<k+1→S.fine i h:=by
 intro i h hi;by_cases he:i=k
 ·subst he;exact hf
 ·exact hA i h oo
def bP (fs:List Fl)(k:Nat):Bs:=(fs[k - 1]?.getD ([],[])).1
theorem Sto.VC {S:Sto}{k:Nat}(hk:k<S.fs.length):S.fine k hk↔um S.fs[k].1=true∧(cdB S.o S.l S.m S.dict S.fs[k].2).isSome=true∧(k=0∨Op.bytesLess (bP S.fs k) S.fs[k].1=true):=by
 unfold Sto.fine bP;rw[List.getElem?_eq_getElem (show k - 1<S.fs.length by omega)];simp only[Option.getD_some];constructor
 ·rintro⟨a,b,c⟩
  refine⟨a,b,?_⟩;by_cases h:k=0
  ·exact .inl h
  ·exact .inr (c oo)
 ·rintro⟨a,b,c⟩
  exact⟨a,b,fun h=>by rcases c with c|c;omega;exact c⟩
def xK (fs:List Fl)(n:Bs):Option Nat:=fs.findIdx? (fun f=>decide (f.1=n))
theorem XI {fs:List Fl}{n:Bs}{i:Nat}(hi:i<fs.length)(he:fs[i].1=n)(hb:∀(j:Nat) (hj:j<i),(fs[j]'oo).1≠n):xK fs n=some i:=by
 unfold xK;rw[List.findIdx?_eq_some_iff_getElem];exact⟨hi,by simpa using he,fun j hj=>by simpa using hb j hj⟩
theorem di {fs:List Fl}{n:Bs}(hb:∀(j:Nat) (hj:j<fs.length),fs[j].1≠n):xK fs n=none:=by
 unfold xK;rw[List.findIdx?_eq_none_iff];intro f hf;obtain⟨j,hj,rfl⟩:=List.getElem_of_mem hf;simpa using hb j hj
theorem aG {fs:List Fl}{n:Bs}{i:Nat}(h:xK fs n=some i):i<fs.length:=by
 unfold xK at h;rw[List.findIdx?_eq_some_iff_getElem] at h;exact h.1
theorem QZ {S:Sto}(hok:S.ok){n:Bs}{k:Nat}(hk:k<S.fs.length)(hA:∀(j:Nat) (h:j<S.fs.length),j<k→Op.bytesLess S.fs[j].1 n=true)(h:Op.bytesLess S.fs[k].1 n=false):
 xK S.fs n=if S.fs[k].1=n then some k else none:=by
 split
 ·rename_i he
  exact XI hk he fun j hj=>ku (hA j oo hj)
 ·rename_i he
  have hgt:ltS n S.fs[k].1=true:=by
   cases h2:ltS n S.fs[k].1 with
   |true=>rfl
   |false=>exact absurd (kY _ _ h h2) he
  refine di fun j hj=> ?_;by_cases h1:j<k
  ·exact ku (hA j hj h1)
  ·by_cases h2:j=k
   ·subst h2;exact he
   ·exact(ku (ng _ _ _ hgt (Sto.asc hok j k hj oo))).symm
theorem OM {S:Sto}{n:Bs}{k:Nat}(hk:S.fs.length≤k)(hA:∀(j:Nat) (h:j<S.fs.length),j<k→Op.bytesLess S.fs[j].1 n=true):xK S.fs n=none:=
 di fun j hj=>ku (hA j hj oo)
theorem PO {fs:List Fl}{n:Bs}{k:Nat}(hk:k<fs.length)(hA:∀(j:Nat) (h:j<fs.length),j<k→Op.bytesLess fs[j].1 n=true)(h:Op.bytesLess fs[k].1 n=true):∀(j:Nat) (h:j<fs.length),j<k+1→Op.bytesLess fs[j].1 n=true:=by
 intro j hj h1;by_cases he:j=k
 ·subst he;exact h
 ·exact hA j hj oo
theorem Lc {fs:List Fl}{n:Bs}{k:Nat}(hk:k<fs.length)(hA:∀(j:Nat) (h:j<fs.length),j<k→fs[j].1≠n)(h:fs[k].1≠n):∀(j:Nat) (h:j<fs.length),j<k+1→fs[j].1≠n:=by
 intro j hj h1;by_cases he:j=k
 ·subst he;exact h
 ·exact hA j hj oo
open Classical in
noncomputable def Sto.file (S:Sto)(n:Bs):Option Bs:=if S.ok then(xK S.fs n).bind fun i=>(S.fs[i]?).map (·.2) else none
def fsz (fs:List Fl):Int:=fs.foldl (fun n f=>n+f.2.length) 0
open Classical in
noncomputable def Sto.size (S:Sto):Int:=if S.ok then fsz S.fs else -1
def Jc (d:Bs)(a b:Int):Option Bs:=if 0≤a∧a≤b∧b≤d.length then some ((d.drop a.toNat).take (b.toNat - a.toNat)) else none
def rrB (o l m:Int)(dict t:Bs)(a b:Int):Option Bs:=(cdB o l m dict t).bind fun d=>Jc d a b
abbrev Sto.C (S:Sto)(A:Option Addr)(cap:Nat):Array Value:=#[.int .i64 S.o,.int .i64 S.l,.int .i64 S.m,.string ⟨S.dict.toArray⟩,.slice A S.fs.length cap]
abbrev Sto.V (S:Sto)(A:Option Addr)(cap:Nat):Value:=.agg #[.int .i64 S.o,.int .i64 S.l,.int .i64 S.m,.string ⟨S.dict.toArray⟩,.slice A S.fs.length cap]
end Go.Proofs.YtfppmajoidkooaaGreatDoor
