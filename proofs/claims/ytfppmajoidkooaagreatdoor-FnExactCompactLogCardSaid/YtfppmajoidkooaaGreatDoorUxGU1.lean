import Derived.Test.YtfppmajoidkooaaGreatDoorUGU1
import Derived.Test.YtfppmajoidkooaaGreatDoorUGP2
import Derived.Test.YtfppmajoidkooaaGreatDoorUGB
import Derived.Test.YtfppmajoidkooaaGreatDoorUGW
import Derived.Test.YtfppmajoidkooaaGreatDoorUGL
import Derived.Deep.SlicePairs
set_option maxHeartbeats 8000000
namespace Go.Proofs.YtfppmajoidkooaaGreatDoor
open Go.RowKit
set_option linter.unusedVariables false
set_option linter.unusedSimpArgs false
set_option maxRecDepth 100000
theorem cdB_len {o l m:Int}{dict t x:Bs}(h:cdB o l m dict t=some x):x.length≤2000:=by
 unfold cdB at h;split at h
 ·cases hb:zT t with
  |none=>rw[hb] at h;cases h
  |some bs=>
   rw[hb] at h;have:=PU (xU hb) h;have:=Xd hb;omega
 ·cases h
end Go.Proofs.YtfppmajoidkooaaGreatDoor
namespace Go.Proofs.YtfppmajoidkooaaGreatDoor
open Go.RowKit
set_option linter.unusedVariables false
set_option linter.unusedSimpArgs false
set_option maxRecDepth 100000
end Go.Proofs.YtfppmajoidkooaaGreatDoor
namespace Go.Proofs.YtfppmajoidkooaaGreatDoor
open Go.RowKit
set_option linter.unusedVariables false
set_option linter.unusedSimpArgs false
set_option maxRecDepth 100000
def strOf :Value→Bs
 | .string s=>s.data.toList
 |_=>[]
theorem strOf_S (s:ByteArray):Value.string s=sv (strOf (.string s)):=by unfold strOf;simp [sv]
open Go.WideShapes Go.ChangeShapes Go.ChangeAt in
theorem open_Files {H:Type}{enc:TypeId×Value→H}{W:World}{n:Nat}{c:Value}{x:DataW H×List MemPlace}(h:DataW.trod enc Tryz.prog W 0 (fun _=>true) true n 34 [c]=some x):
 ∃(A:Option Addr) (cap:Nat) (fs:List Fl),c= .slice A fs.length cap∧Sl W A fs.length cap 2 (yf fs)∧∀f ∈ fs,f.1.length≤9223372036854775807∧f.2.length≤9223372036854775807:=by
 rcases Go.Deep.open_slice_pairs Tryz.underlying34 Tryz.underlying126 (by kernel_rfl) rfl rfl (by kernel_rfl) (by kernel_rfl) h with⟨hcs,_⟩|⟨a,len,cap,m,n',V0,V1,D0,D1,P0,P1,hcs,_,hl,hm,hmm,_,hx⟩
 ·injection hcs with hcs _
  subst hcs;exact⟨none,0,[],rfl,Sl.nil _ _,fun f hf=>by cases hf⟩
 ·injection hcs with hcs _
  subst hcs;simp only[if_true] at hmm;rw[hmm] at hx;clear hmm;have key:∀i,i<len→W.cell? (a.add (i*2))=some (sv (strOf (V0 i)))∧W.cell? (a.add (i*2+1))=some (sv (strOf (V1 i)))∧(strOf (V0 i)).length≤9223372036854775807∧(strOf (V1 i)).length≤9223372036854775807:=by
   intro i hi;obtain⟨c0,c1,t0,t1⟩:=hx i (by omega);obtain⟨s0,e0,_,w0⟩:=DataW.trod_string Tryz.underlying9 t0;obtain⟨s1,e1,_,w1⟩:=DataW.trod_string Tryz.underlying9 t1;injection e0 with e0 _
   injection e1 with e1 _
   rw[e0] at c0⊢;rw[e1] at c1⊢;unfold maxLen at w0 w1;exact⟨by rw[←strOf_S];exact c0,by rw[←strOf_S];exact c1,by simpa [strOf] using w0,by simpa [strOf] using w1⟩
  have hfl:((List.range len).map fun i=>((strOf (V0 i),strOf (V1 i)):Fl)).length=len:=(by simp);have hat:∀i (h:i<((List.range len).map fun i=>((strOf (V0 i),strOf (V1 i)):Fl)).length),((List.range len).map fun i=>((strOf (V0 i),strOf (V1 i)):Fl))[i]=(strOf (V0 i),strOf (V1 i)):=fun i h=>(by simp);have hbd:∀f ∈ ((List.range len).map fun i=>((strOf (V0 i),strOf (V1 i)):Fl)),f.1.length≤9223372036854775807∧f.2.length≤9223372036854775807:=by
   intro f hf;obtain⟨i,hi,rfl⟩:=List.mem_map.1 hf;have h1:=key i (by simpa using hi);exact⟨h1.2.2.1,h1.2.2.2⟩
  generalize((List.range len).map fun i=>((strOf (V0 i),strOf (V1 i)):Fl))=fs at*;refine⟨some a,cap,fs,by rw[hfl],?_,hbd⟩;rw[hfl];refine⟨hl,by unfold maxLen at hm;omega,by rw[vH,hfl],fun h0=> ?_⟩;obtain⟨g,off,spot⟩:=a;have hspot:spot=none:=(by simpa [Addr.add] using World.cell?_spot ((key 0 h0).1));subst hspot;have h00:=(key 0 h0).1;rw[Go.WideShapes.add_plain] at h00;refine⟨g,off,rfl,lt_of_cell h00,fun j u hu=> ?_⟩;have hj:j<len*2:=by
   have:=List.getElem?_eq_some_iff.1 hu;obtain⟨hj,_⟩:=this;rw[vH,hfl] at hj;exact hj
  obtain⟨i,rfl|rfl⟩:∃i,j=i*2+0∨j=i*2+1:=⟨j / 2,by omega⟩
  ·have hi:i<len:=by omega
   have hk:=(key i hi).1;have hv:=(aF fs i (by omega)).1;rw[hat i (by omega)] at hv;rw[hv] at hu;rw[Go.WideShapes.add_plain] at hk;rw[←hu,←hk];rfl
  ·have hi:i<len:=by omega
   have hk:=(key i hi).2.1;have hv:=(aF fs i (by omega)).2;rw[hat i (by omega)] at hv;rw[hv] at hu;rw[Go.WideShapes.add_plain] at hk;rw[←hu,←hk]
open Go.WideShapes Go.ChangeShapes Go.ChangeAt in
theorem open_Store {H:Type}{enc:TypeId×Value→H}{W:World}{b:Nat}{v:Value}{d:DataW H}{p:List MemPlace}(hv:Value.okWide Tryz.prog W .any b 36 v)(h:DataW.Trod enc Tryz.prog W 0 (fun _=>true) true 36 v d p):
 ∃(S:Sto) (A:Option Addr) (cap:Nat),v=S.V A cap∧Sl W A S.fs.length cap 2 (yf S.fs)∧S.dict.length≤9223372036854775807∧∀f ∈ S.fs,f.1.length≤9223372036854775807∧f.2.length≤9223372036854775807:=by
 obtain⟨cs,rfl,hsz⟩:=okWide_struct Tryz.underlying36 hv;obtain⟨fuel,hf⟩:=h;obtain⟨xs,n,_,_,_,hlen,hg⟩:=DataW.trod_struct Tryz.underlying36 hf;obtain⟨l⟩:=cs;have hC:Tryz.prog.cellsOf 36=5:=(by kernel_rfl);have hC3:Tryz.prog.cellsOf 33=3:=(by kernel_rfl);have hC1:Tryz.prog.cellsOf 34=1:=(by kernel_rfl);have hC0:Tryz.prog.cellsOf 9=1:=by kernel_rfl
 match l,hsz.trans hC with
 |[c0,c1,c2,c3,c4],_=>
  have h0:=hg 0 _ rfl;have h1:=hg 1 _ rfl;have h2:=hg 2 _ rfl;obtain⟨y0,hy0⟩:=vS hlen (i:=0) (by decide);obtain⟨y2,hy2⟩:=vS hlen (i:=2) (by decide);rw[hy0] at h0;rw[hy2] at h2;simp [hC3] at h0;simp [hC1] at h2;obtain⟨xs',n',_,_,_,hlen',hg'⟩:=DataW.trod_struct Tryz.underlying33 h0;have k0:=hg' 0 _ rfl;have k1:=hg' 1 _ rfl;have k2:=hg' 2 _ rfl;obtain⟨o,rfl,_⟩:=sK Tryz.underlying3 (vS hlen' (by decide)) k0;obtain⟨li,rfl,_⟩:=sK Tryz.underlying3 (vS hlen' (by decide)) k1;obtain⟨m,rfl,_⟩:=sK Tryz.underlying3 (vS hlen' (by decide)) k2;obtain⟨dict,rfl,hd⟩:=gW Tryz.underlying9 (vS hlen (by decide)) h1;obtain⟨A,cap,fs,rfl,hs,hb⟩:=open_Files h2;exact⟨⟨o,li,m,dict,fs⟩,A,cap,rfl,hs,hd,hb⟩
end Go.Proofs.YtfppmajoidkooaaGreatDoor
