import Derived.Test.YtfppmajoidkooaaGreatDoorUGW
import Derived.Test.YtfppmajoidkooaaGreatDoorUW3
import Derived.Test.YtfppmajoidkooaaGreatDoorUW8
import Derived.Test.YtfppmajoidkooaaGreatDoorUGR
import Derived.Test.YtfppmajoidkooaaGreatDoorUGQ
import Derived.Test.YtfppmajoidkooaaGreatDoorUGA
set_option linter.unusedVariables false
set_option linter.unusedSimpArgs false
namespace Go.Proofs.YtfppmajoidkooaaGreatDoor
open Go.RowKit
set_option maxRecDepth 100000
attribute [local go_sem high] zy zA zB zO zK zY zx zk zl zq zi zo yP zD yt zF
abbrev SlS (w:World)(A:Option Addr)(cap:Nat)(ls:List Bs):Prop:=Sl w A ls.length cap 1 (ls.map sv)
theorem SlS.at {w:World}{A:Option Addr}{cap:Nat}{ls:List Bs}(h:SlS w A cap ls){k:Nat}(hk:k<ls.length):∃g off,A=some ⟨g,off,none⟩∧g<w.heap.size∧w.cell? ⟨g,off+k,none⟩=some (sv ls[k]):=by
 obtain⟨g,off,u,hA,hg,hu,hc⟩:=Sl.at1 h hk;refine⟨g,off,hA,hg,?_⟩;rw[List.getElem?_map,List.getElem?_eq_getElem hk] at hu;simp at hu;rw[hc,←hu]
theorem SlS.sN {w:World}{B:Nat}{A:Option Addr}{cap:Nat}{ls:List Bs}(h:w.ownsRow B 9 1 (.slice A ls.length cap) ls.length (ls.map sv)):SlS w A cap ls:=by
 obtain⟨A',cap',hv,hs⟩:=Sl.sN h;injection hv with e1 e2 e3
 subst e1;subst e3;exact hs
theorem Y7 (p:Bs):uC p= .returned (.tuple #[sv ((unhex p).getD []),.bool (unhex p).isSome]):=rfl
theorem ZV (l:Bs)(w:World):
 Calls Tryz.prog 87 #[.string ⟨l.toArray⟩] w fun e w'=>e= .returned (.string ⟨(xm l).toArray⟩)∧w=w':=by
 by_cases h:l=[45]
 ·subst h
  go_enter Tryz.func87,Tryz.ntmps87;go_wp2;go_ret;exact⟨rfl,rfl⟩
 ·have HE:Hid (xm l=l):=by show _=_;unfold xm;rw[if_neg h]
  have hd:decide (l=[45])=false:=(by simpa using h);clear h;go_enter Tryz.func87,Tryz.ntmps87;go_wp2;go_ret;exact⟨vZ HE.out.symm,rfl⟩
theorem Pz (c:UInt8)(t:Bs)(m:Int)(w:World)(hs:t.length≤4000000)(hm:w.cell? ⟨0,0,none⟩=some (.int .i64 m)):
 Calls Tryz.prog 82 #[.string ⟨t.toArray⟩,.string ⟨#[c]⟩] w fun e w'=>e= .returned (.slice (some ⟨w.heap.size,0,none⟩) (cut c t).length (cut c t).length)∧w'=w.alloc (.cells ((cut c t).map sv).toArray 9):=by
 have h:=Tryz.strings_Split ⟨t.toArray⟩ ⟨#[c]⟩ m w (by rw[zY];omega) hm (by simp [ByteArray.size]);rw[PT] at h;have e:Lib.countB ⟨t.toArray⟩ ⟨#[c]⟩+1=(cut c t).length:=by
  have:=bJ c t.length t (Nat.le_refl _);simpa [Lib.countB] using this
 rw[e] at h;exact h
def YS (k:Nat):Bs:=if k=0 then[] else Lib.decDigits k
theorem QK (u:Nat)(h:0<u):YS u=YS (u / 10)++[UInt8.ofNat (48+u % 10)]:=by
 unfold YS;rw[if_neg (by omega)];by_cases h10:u<10
 ·rw[if_pos (by omega),decDigits_one u h10,show u % 10=u by omega];rfl
 ·rw[if_neg (by omega),lN u (by omega)]
theorem O7 (u:Nat)(h:u≤9000000000000):(YS u).length≤21:=by
 unfold YS;split
 ·simp
 ·have h1:=Lib.itoa_length_le (u:Int) oo oo
  rw[Lib.itoa_nonneg] at h1;omega
def markT (k:Nat):Bs:=if k=0 then[109,48] else 109::YS k
theorem qp (n:Nat)(w:World)(hn:n≤9000000000000):
 Calls Tryz.prog 118 #[.int .i64 n] w fun e w'=>e= .returned (.string ⟨(markT n).toArray⟩)∧Below w.heap.size w w':=by
 by_cases h0:n=0
 ·subst h0
  go_enter Tryz.func118,Tryz.ntmps118;go_wp2;go_ret;exact⟨rfl,zu⟩
 ·have HE:Hid (markT n=109::YS n):=by show _=_;unfold markT;rw[if_neg h0]
  have hp:¬(n:Int)≤0:=oo;have HLen:=Go.Lib.hid (O7 n hn);go_enter Tryz.func118,Tryz.ntmps118;go_wp2;go_loopw [0,3] (fun a b wr=>∃(u:Nat) (o:Bs),u≤n∧a= .int .i64 u∧b= .string ⟨o.toArray⟩∧Hid (YS n=YS u++o)∧Below w.heap.size w wr) (fun a _ _=>(intOf a).toNat)
  case atStart=>exact⟨n,[],Nat.le_refl _,rfl,rfl,by show _=_;simp,Below.refl _ _⟩
  case round=>
   obtain⟨u,o,hu,rfl,rfl,HD,hb⟩:=hrel;have ho:o.length≤21:=by
    have h1:=HLen.out;rw[HD.out,List.length_append] at h1;omega
   have ho1:1+o.length≤9223372036854775807:=oo;have hz:=hb.size;by_cases h10:0<u
   ·have HS:=Go.Lib.hid (QK u h10)
    go_wp2;go_roundw
    case rel=>
     refine⟨u / 10,_,oo,by go_num,rfl,?_,zu⟩;show _=_;rw[HD.out,HS.out,List.append_assoc];simp
    case measure=>simp [intOf];omega
   ·have HS:Hid (YS n=o):=by
     show _=_;rw[HD.out,show u=0 by omega];rfl
    go_wp2;go_ret;refine⟨?_,zu⟩;rw[HE.out,HS.out];simp
end Go.Proofs.YtfppmajoidkooaaGreatDoor
