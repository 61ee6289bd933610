import Derived.Test.YtfppmajoidkooaaGreatDoorUQ15
import Derived.Test.YtfppmajoidkooaaGreatDoorUxGU1
set_option maxHeartbeats 8000000
namespace Go.Proofs.YtfppmajoidkooaaGreatDoor
open Go.RowKit
set_option linter.unusedSimpArgs false
set_option linter.unusedVariables false
def Sto.dt (S:Sto)(f:Fl):Bs:=(cdB S.o S.l S.m S.dict f.2).getD []
def putX (S:Sto)(f:Fl):OpR:=⟨0,0,0,64,f.1,S.dt f⟩
def cmpX (S:Sto):Bs:=S.fs.flatMap fun f=>vg (putX S f)
open Classical in
noncomputable def cmpB (S:Sto):Option Bs:=if S.ok∧(cmpX S).length≤30000 then some (cmpX S) else none
theorem Sto.dt_len (S:Sto)(f:Fl):(S.dt f).length≤2000:=by
 unfold Sto.dt
 cases h:cdB S.o S.l S.m S.dict f.2 with
 |none=>simp
 |some x=>exact cdB_len h
theorem putX_ok {S:Sto}(hok:S.ok){f:Fl}(hf:f ∈ S.fs):(putX S f).ok:=
 ⟨(Sto.mem hok f hf).1,S.dt_len f,.inl ⟨.inl rfl,(by show(1:Int)≤64;decide),(by show(64:Int)≤64;decide),rfl,rfl⟩⟩
end Go.Proofs.YtfppmajoidkooaaGreatDoor
