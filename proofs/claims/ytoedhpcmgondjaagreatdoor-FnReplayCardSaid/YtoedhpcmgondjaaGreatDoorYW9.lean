import Derived.Test.YtoedhpcmgondjaaGreatDoorYGW
import Derived.Test.YtoedhpcmgondjaaGreatDoorYW3
import Derived.Test.YtoedhpcmgondjaaGreatDoorYW8
import Derived.Test.YtoedhpcmgondjaaGreatDoorYGR
set_option linter.all false
namespace Go.Proofs.YtoedhpcmgondjaaGreatDoor
open Go.RowKit Go.Proofs.Tryz
set_option maxRecDepth 100000
attribute [local go_sem high] zG zF zH zV zN yu zD zl zn zt zi zu y9 zK yE zJ
abbrev SlS (w:World)(A:Option Addr)(cap:Nat)(a:List Bs):Prop:=Sl w A a.length cap 1 (a.map sv)
theorem SlS.at {w:World}{A:Option Addr}{cap:Nat}{b:List Bs}(h:SlS w A cap b){k:Nat}(hk:k<b.length):∃g a,A=some ⟨g,a,none⟩∧g<w.heap.size∧w.cell? ⟨g,a+k,none⟩=some (sv b[k]):=by
 obtain⟨g,a,u,d,e,c,f⟩:=Sl.at1 h hk;refine⟨g,a,d,e,?_⟩;rw[List.getElem?_map,List.getElem?_eq_getElem hk] at c;simp at c;rw[f,←c]
theorem SlS.sG {w:World}{B:Nat}{A:Option Addr}{cap:Nat}{a:List Bs}(h:w.ownsRow B 9 1 (.slice A a.length cap) a.length (a.map sv)):SlS w A cap a:=by
 obtain⟨d,e,b,c⟩:=Sl.sG h;injection b with e1 e2 e3
 subst e1;subst e3;exact c
theorem Wn (p:Bs):uX p= .returned (.tuple #[sv ((unhex p).getD []),.bool (unhex p).isSome]):=rfl
theorem Xd (l:Bs)(w:World):
 Calls prog 82 #[.string ⟨l.toArray⟩] w fun e w'=>e= .returned (.string ⟨(xH l).toArray⟩)∧w=w':=by
 by_cases h:l=[45]
 ·subst h
  go_enter func82,ntmps82;go_wp2;go_ret;exact⟨rfl,rfl⟩
 ·have a:Hid (xH l=l):=by show _=_;unfold xH;rw[if_neg h]
  have b:decide (l=[45])=false:=(by simpa using h);clear h;go_enter func82,ntmps82;go_wp2;go_ret;exact⟨rO a.out.symm,rfl⟩
theorem NH (c:UInt8)(t:Bs)(m:Int)(w:World)(b:t.length≤4000000)(a:w.cell? ⟨0,0,none⟩=some (.int .i64 m)):
 Calls prog 70 #[.string ⟨t.toArray⟩,.string ⟨#[c]⟩] w fun e w'=>e= .returned (.slice (some ⟨w.heap.size,0,none⟩) (cut c t).length (cut c t).length)∧w'=w.alloc (.cells ((cut c t).map sv).toArray 9):=by
 have h:=Tryz.strings_Split ⟨t.toArray⟩ ⟨#[c]⟩ m w (by rw[yu];omega) a (by simp [ByteArray.size]);rw[O7] at h;have e:Lib.countB ⟨t.toArray⟩ ⟨#[c]⟩+1=(cut c t).length:=by
  have:=Zc c t.length t (Nat.le_refl _);simpa [Lib.countB] using this
 rw[e] at h;exact h
