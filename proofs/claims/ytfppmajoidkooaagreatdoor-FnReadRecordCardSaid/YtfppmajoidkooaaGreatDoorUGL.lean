import Derived.Test.YtfppmajoidkooaaGreatDoorRows
import Derived.WalkKit
import Derived.ProofKit
import Derived.OpenShut
import Derived.JoinedCond
import Derived.Below
import Derived.ChangeSame
import Derived.Carry
import Derived.WideKeyArgs
import Derived.ShutString
import Derived.ChangeArms
import Derived.Test.YtfppmajoidkooaaGreatDoorUGA
import Derived.ChangeSlices
set_option linter.unusedVariables false
set_option linter.unusedSimpArgs false
namespace Go.Proofs.YtfppmajoidkooaaGreatDoor
open Go.RowKit Go.WideShapes Go.ChangeShapes Go.ChangeAt
theorem NM :laidOutB Tryz.prog=true:=by kernel_rfl
theorem Ym :ownKnob Tryz.prog.godebug=none:=by kernel_rfl
section
variable {H : Type} {enc : TypeId × Value → H}
theorem jy {W W':World}{sp:Nat→Bool}(hb:Below W.heap.size W W'):∀(ts:List TypeId) (vs:List Value) (ds:List (DataW H)) (p:List MemPlace),
 (∀t ∈ ts,Tryz.prog.readableRec t=true∧t<Tryz.prog.types.size)→DataW.TrodAll enc Tryz.prog W 0 (fun _=>true) true ts vs ds p→(∀x ∈ p,x.block<W.heap.size)→(∀x ∈ p,sp x.block=true)→
 DataW.TrodAll enc Tryz.prog W' 0 sp true ts vs ds p
 |[],_,_,_,_,h,_,_=>by
  obtain⟨rfl,rfl,rfl⟩:=trodAll_nil h;exact trodAll_mk0
 |t::ts,_,_,_,hr,h,hlt,hsp=>by
  obtain⟨v,vs,d,ds,p,q,rfl,rfl,rfl,h1,h2⟩:=trodAll_cons h;obtain⟨hr1,hr2⟩:=hr t List.mem_cons_self;refine trodAll_cons_mk (WideElems.Trod_stays NM hr1 hr2 h1 (fun x hx=>hb.same (hlt x (List.mem_append_left _ hx))) (fun x hx=>hsp x (List.mem_append_left _ hx))) ?_;exact jy hb ts vs ds q (fun t ht=>hr t (List.mem_cons_of_mem _ ht)) h2 (fun x hx=>hlt x (List.mem_append_right _ hx)) (fun x hx=>hsp x (List.mem_append_right _ hx))
theorem Yo {f:Func}{s:ChangeSpec}{W W':World}{args:Array Value}{ds gs:List (DataW H)}{before:List MemPlace}(hvars:s.vars=[])
 (hf:f.resultTypes=#[4]) (hread0:(f.params.toList.all fun t=>Tryz.prog.readableRec t&&decide (t<Tryz.prog.types.size))=true)
 (hs:(s.fn H (ds++gs)).results=[.lit (.bool true)]∧(s.fn H (ds++gs)).args=ds∧(s.fn H (ds++gs)).vars=[])
 (hW:DataW.Whole enc Tryz.prog f.params.toList s.vars false W args.toList ds gs before) (hb:Below W.heap.size W W'):
 s.post enc Tryz.prog f false true false false W args (.bool true) W':=by
 have hread:∀t ∈ f.params.toList,Tryz.prog.readableRec t=true∧t<Tryz.prog.types.size:=fun t ht=>by
  have h:=List.all_eq_true.1 hread0 t ht;rw[Bool.and_eq_true,decide_eq_true_eq] at h;exact h
 obtain⟨hs1,hs2,hs3⟩:=hs;have hlt:∀p ∈ before,p.block<W.heap.size:=fun p hp=>hW.lt p hp;have hold:∀p ∈ before,(fun b=>decide (b<W.heap.size)) p.block=true:=fun p hp=>(by simpa using hlt p hp);have hW':=hW;obtain⟨p,q,hA,hV,rfl,hfz,hnd⟩:=hW;rw[hvars] at hV;obtain⟨rfl,rfl⟩:=trodVars_none hV;simp only[List.append_nil] at hlt hold hfz;have hres:∀(b:Nat) (sp:Nat→Bool) (hd:Bool),DataW.TrodAll enc Tryz.prog W' b sp hd f.resultTypes.toList ((Value.bool true).resultList f.resultTypes.size) (s.fn H (ds++[])).results []:=by
  intro b sp hd;rw[hs1,hf];exact trodAll_cons_mk (shut_bool Tryz.underlying4 _) trodAll_mk0
 have hargs:∀sp:Nat→Bool,(∀x ∈ p,sp x.block=true)→DataW.TrodAll enc Tryz.prog W' 0 sp true f.params.toList args.toList (s.fn H (ds++[])).args p:=by
  intro sp hsp;rw[hs2];exact jy hb _ _ _ _ hread hA hlt hsp
 have hvs:∀sp:Nat→Bool,DataW.TrodVars enc Tryz.prog W' sp s.vars (s.fn H (ds++[])).vars []:=by
  intro sp;rw[hvars,hs3];rfl
 refine⟨ds,[],p++[],[],p,[],hW',hres _ _ _,hargs _ hold,hvs _,World.keptBut_mono (fun x hx=>⟨by simpa using hx,Or.inr (by simpa using hx)⟩) (hb.frame (·∈ p)),fun h=>by cases h⟩
end
section
variable {H : Type} {enc : TypeId × Value → H} {W : World}
theorem sK {n:Nat}{t:TypeId}{k:IntKind}{c:Value}{x:Option (DataW H×List MemPlace)}(ht:Tryz.prog.underlying t=some (.int k))(hx:∃y,x=some y)
 (h:DataW.trod enc Tryz.prog W 0 (fun _=>true) true n t [c]=x):∃a,c= .int k a∧(Lit.int k a).wf=true:=by
 obtain⟨y,rfl⟩:=hx;obtain⟨a,e,_,hw⟩:=DataW.trod_int ht h;injection e with e _
 exact⟨a,e,hw⟩
theorem gW {n:Nat}{t:TypeId}{c:Value}{x:Option (DataW H×List MemPlace)}(ht:Tryz.prog.underlying t=some .string)(hx:∃y,x=some y)
 (h:DataW.trod enc Tryz.prog W 0 (fun _=>true) true n t [c]=x):∃l:List UInt8,c= .string ⟨l.toArray⟩∧l.length≤9223372036854775807:=by
 obtain⟨y,rfl⟩:=hx;obtain⟨s,e,_,hw⟩:=DataW.trod_string ht h;injection e with e _
 refine⟨s.data.toList,by rw[e],?_⟩;unfold maxLen at hw;simpa using hw
theorem vS {α:Type}{xs:List α}{i n:Nat}(h:xs.length=n)(hi:i<n):∃y,xs[i]? =some y:=⟨xs[i],List.getElem?_eq_getElem oo⟩
end
set_option maxRecDepth 100000 in
theorem nN {H:Type}{enc:TypeId×Value→H}{W:World}{b:Nat}{v:Value}{d:DataW H}{p:List MemPlace}(hv:Value.okWide Tryz.prog W .any b 33 v)(h:DataW.Trod enc Tryz.prog W 0 (fun _=>true) true 33 v d p):
 ∃(o l m:Int),v= .agg #[.int .i64 o,.int .i64 l,.int .i64 m]:=by
 obtain⟨cs,rfl,hsz⟩:=okWide_struct Tryz.underlying33 hv;obtain⟨fuel,hf⟩:=h;obtain⟨xs,n,_,_,_,hlen,hg⟩:=DataW.trod_struct Tryz.underlying33 hf;obtain⟨l⟩:=cs;have hC:Tryz.prog.cellsOf 33=3:=kr
 match l,hsz.trans hC with
 |[c0,c1,c2],_=>
  have h0:=hg 0 _ rfl;have h1:=hg 1 _ rfl;have h2:=hg 2 _ rfl;obtain⟨k,rfl,_⟩:=sK Tryz.underlying3 (vS hlen (by decide)) h0;obtain⟨f,rfl,_⟩:=sK Tryz.underlying3 (vS hlen (by decide)) h1;obtain⟨t,rfl,_⟩:=sK Tryz.underlying3 (vS hlen (by decide)) h2;exact⟨k,f,t,rfl⟩
set_option maxRecDepth 100000 in
theorem eY {H:Type}{enc:TypeId×Value→H}{W:World}{b:Nat}{v:Value}{d:DataW H}{p:List MemPlace}(hv:Value.okWide Tryz.prog W .any b 9 v)(h:DataW.Trod enc Tryz.prog W 0 (fun _=>true) true 9 v d p):
 ∃l:List UInt8,v= .string ⟨l.toArray⟩∧l.length≤9223372036854775807:=by
 obtain⟨s,rfl,_,_,hw⟩:=Go.ChangeMaps.open_string Tryz.underlying9 hv h;unfold maxLen at hw;exact⟨s.data.toList,rfl,by simpa using hw⟩
set_option maxRecDepth 100000 in
theorem LJ {H:Type}{enc:TypeId×Value→H}{W:World}{b:Nat}{v:Value}{d:DataW H}{p:List MemPlace}(hv:Value.okWide Tryz.prog W .any b 52 v)(h:DataW.Trod enc Tryz.prog W 0 (fun _=>true) true 52 v d p):
 ∃(k f t s:Int) (nm dd:List UInt8),v= .agg #[.int .i64 k,.string ⟨nm.toArray⟩,.int .i64 f,.int .i64 t,.int .i64 s,.string ⟨dd.toArray⟩]∧nm.length≤9223372036854775807∧dd.length≤9223372036854775807:=by
 obtain⟨cs,rfl,hsz⟩:=okWide_struct Tryz.underlying52 hv;obtain⟨fuel,hf⟩:=h;obtain⟨xs,n,_,_,_,hlen,hg⟩:=DataW.trod_struct Tryz.underlying52 hf;obtain⟨l⟩:=cs;have hC:Tryz.prog.cellsOf 52=6:=kr
 match l,hsz.trans hC with
 |[c0,c1,c2,c3,c4,c5],_=>
  have h0:=hg 0 _ rfl;have h1:=hg 1 _ rfl;have h2:=hg 2 _ rfl;have h3:=hg 3 _ rfl;have h4:=hg 4 _ rfl;have h5:=hg 5 _ rfl;obtain⟨k,rfl,_⟩:=sK Tryz.underlying3 (vS hlen (by decide)) h0;obtain⟨nm,rfl,e1⟩:=gW Tryz.underlying9 (vS hlen (by decide)) h1;obtain⟨f,rfl,_⟩:=sK Tryz.underlying3 (vS hlen (by decide)) h2;obtain⟨t,rfl,_⟩:=sK Tryz.underlying3 (vS hlen (by decide)) h3;obtain⟨s,rfl,_⟩:=sK Tryz.underlying3 (vS hlen (by decide)) h4;obtain⟨dd,rfl,e5⟩:=gW Tryz.underlying9 (vS hlen (by decide)) h5;exact⟨k,f,t,s,nm,dd,rfl,e1,e5⟩
set_option maxRecDepth 100000
end Go.Proofs.YtfppmajoidkooaaGreatDoor
