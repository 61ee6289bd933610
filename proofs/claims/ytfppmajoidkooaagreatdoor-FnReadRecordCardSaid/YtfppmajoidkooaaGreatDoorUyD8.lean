import Derived.Test.YtfppmajoidkooaaGreatDoorUGL
import Derived.Test.YtfppmajoidkooaaGreatDoorRows
import Derived.WalkKit
import Derived.ProofKit
import Derived.OpenShut
import Derived.JoinedCond
import Derived.Below
import Derived.ChangeSame
import Derived.Carry
import Derived.WideKeyArgs
import Derived.ShutString
import Derived.ChangeArms
import Derived.Test.YtfppmajoidkooaaGreatDoorUGA
import Derived.ChangeSlices
import Derived.Test.YtfppmajoidkooaaGreatDoorUS29
import Derived.Test.YtfppmajoidkooaaGreatDoorUyD5
import Derived.Test.YtfppmajoidkooaaGreatDoorUyGD2
import Derived.Deep.RegionHeld3
import Derived.Deep.Cut
set_option maxHeartbeats 8000000
namespace Go.Proofs.YtfppmajoidkooaaGreatDoor
open Go.RowKit Go.WideShapes Go.ChangeShapes Go.ChangeAt
section
variable {H : Type} {enc : TypeId × Value → H}
end
end Go.Proofs.YtfppmajoidkooaaGreatDoor
namespace Go.Proofs.YtfppmajoidkooaaGreatDoor
open Go.RowKit Go.WideShapes Go.ChangeShapes Go.ChangeAt
section
variable {H : Type} {enc : TypeId × Value → H} {W : World}
end
end Go.Proofs.YtfppmajoidkooaaGreatDoor
namespace Go.Proofs.YtfppmajoidkooaaGreatDoor
open Go.RowKit Go.WideShapes Go.ChangeShapes Go.ChangeAt
set_option maxRecDepth 100000
theorem open_B {H:Type}{enc:TypeId×Value→H}{W:World}{b:Nat}{v:Value}{d:DataW H}{p:List MemPlace}(hv:Value.okWide Tryz.prog W .any b 22 v)(h:DataW.Trod enc Tryz.prog W 0 (fun _=>true) true 22 v d p):
 ∃(A:Option Addr) (cap:Nat) (bs:Bs),v= .slice A bs.length cap∧Sl W A bs.length cap 1 (bs.map u8v):=by
 obtain⟨a,len,cap,rfl⟩:=okWide_slice Tryz.underlying22 hv;obtain⟨fuel,hf⟩:=h;have hc:Tryz.prog.cellsOf 5=1:=(by kernel_rfl);rcases open_ints Tryz.underlying22 Tryz.underlying5 hc hf with⟨hcs,_⟩|⟨a',len',cap',zs,hcs,_,hl,hm,hzl,_,hcell,hwf⟩
 ·simp [Value.cells] at hcs
  obtain⟨rfl,rfl,rfl⟩:=hcs;exact⟨none,0,[],rfl,Sl.nil _ _⟩
 ·simp [Value.cells] at hcs
  obtain⟨rfl,rfl,rfl⟩:=hcs;simp only[if_true] at hzl;have hbl:((zs.take len).map fun n=>UInt8.ofNat n.toNat).length=len:=(by simp;omega);refine⟨some a',cap,(zs.take len).map fun n=>UInt8.ofNat n.toNat,by rw[hbl],?_⟩;rw[hbl];refine⟨hl,by unfold maxLen at hm;omega,by simp;omega,fun h0=> ?_⟩;obtain⟨g,off,rfl,hat⟩:=ints_at hcell (by omega);have h1:=hat 0 (by omega);refine⟨g,off,rfl,lt_of_cell h1,fun j u hu=> ?_⟩;simp only[List.getElem?_map] at hu;by_cases hj:j<len
  ·have hjz:j<zs.length:=by omega
   rw[List.getElem?_take,if_pos hj,List.getElem?_eq_getElem hjz] at hu;simp at hu;rw[hat j hjz,←hu];have hb:=bounds_u8 (hwf zs[j] (List.getElem_mem hjz));rw[List.getD_eq_getElem?_getD,List.getElem?_eq_getElem hjz];simp only[Option.getD_some,u8v,UInt8.toNat_ofNat'];congr 2;omega
  ·rw[List.getElem?_take,if_neg hj] at hu
   simp at hu
open Go.RowKit
set_option linter.unusedVariables false
set_option linter.unusedSimpArgs false
set_option maxRecDepth 100000
attribute [local go_sem high] zy zA zB zO zK zY zx zk zl zq zi zo yP zD yt zF
theorem apL_short {o l m:Int}{dict log L:Bs}{x:OpR}(h:apL o l m dict log x=some L):L.length≤30000:=by
 unfold apL at h
 cases hR:qj o l m dict log with
 |none=>rw[hR] at h;cases h
 |some p=>
  rw[hR,Option.bind_some] at h;split at h
  ·rename_i hc;injection h with h;rw[←h,List.length_append];exact hc.2.2.1
  ·cases h
theorem l8Log_any (r M:Nat)(w:World)(hR:Rd w r M)(hM:M≤10000000):
 Calls Tryz.prog 41 #[.pointer (some ⟨r,0,none⟩)] w fun e w'=>(∃(o l m:Int) (dict log:Bs),e= .returned (.tuple #[.agg #[.int .i64 o,.int .i64 l,.int .i64 m],sv dict,sv log])∧vW o l m∧dict.length≤40∧log.length≤30000)∧Rd w' r (M+1000)∧BelowR w.heap.size r w w':=by
 have hr:=hR.lt;have K0_0:=Bk.new w #[.int .i64 0,.int .i64 0,.int .i64 0] 39;have R0:=hR.alloc (.cells #[.int .i64 0,.int .i64 0,.int .i64 0] 39);have g0:BelowR w.heap.size r w (w.alloc (.cells #[.int .i64 0,.int .i64 0,.int .i64 0] 39)):=below_toR zu r;go_enter Tryz.func41,Tryz.ntmps41;go_wp2_with fail;refine(l5Setup_any r M _ R0 (by omega)).mono ?_;rintro e w1 ⟨⟨o,l,m,dict,rfl,hst,hdl⟩,R1,b1⟩;have z1:=b1.size;try simp only[World.size_alloc,World.size_setCell,World.size_drew] at z1
 have K0_1:=K0_0.belowR b1 (by first|omega|(simp;done)|(simp;omega)) (by omega);have g1:=g0.trans (b1.mono (by first|omega|(simp;done)|(simp;omega)));clear b1 g0 K0_0;have K1:=Bk.new w1 #[.int .i64 o,.int .i64 l,.int .i64 m] 39;have K0:=K0_1.alloc (.cells #[.int .i64 o,.int .i64 l,.int .i64 m] 39);have R2:=R1.alloc (.cells #[.int .i64 o,.int .i64 l,.int .i64 m] 39);have g2:=g1.alloc (by omega) (.cells #[.int .i64 o,.int .i64 l,.int .i64 m] 39);have hz0:w.heap.size<w1.heap.size:=K0_1.lt;have l1:=K1.lt;have l0:=K0.lt;go_upto_region 3 with(fail)
 clear R1 g1 K0_1;generalize w1.alloc (.cells #[.int .i64 o,.int .i64 l,.int .i64 m] 39)=w2 at*;generalize w1.heap.size=bb at*;go_wp2_with fail;refine(pick_any r _ 7 _ R2 (by omega) (by omega) (by omega)).mono ?_;rintro e w3 ⟨⟨n0,rfl,hn0,hn1⟩,R3,b3⟩;have z3:=b3.size;have K1_3:=K1.belowR b3 l1 (by omega);have K0_3:=K0.belowR b3 l0 (by omega);have g3:=g2.trans (b3.mono (by omega));obtain⟨n,rfl⟩:=Int.eq_ofNat_of_zero_le hn0;have hnm:n≤6:=(by omega);clear hn0 hn1 K1 K0 R2 g2 b3;go_wp2;go_loopw [7,8] (fun x a wr=>∃(k c:Nat) (log:Bs),x= .string ⟨log.toArray⟩∧a= .int .i64 (k:Int)∧c+k=n∧log.length≤30000∧Rd wr r (M+120+100*c)∧BelowR w.heap.size r w wr∧Bk wr w.heap.size 39 #[.int .i64 0,.int .i64 0,.int .i64 0]∧Bk wr bb 39 #[.int .i64 o,.int .i64 l,.int .i64 m]) (fun _ a _=>(intOf a).toNat)
 case atStart=>exact⟨n,0,[],rfl,rfl,by omega,by simp,R3.mono (by omega),g3,K0_3,K1_3⟩
 case round=>
  obtain⟨k,c,log,rfl,rfl,hck,hll,R4,g4,K0_4,K1_4⟩:=hrel;clear R3 g3 K0_3 K1_3;have z4:=g4.size;have l14:=K1_4.lt;have hX:=K1_4.cell;by_cases hk:0<k
  ·have hki:(0:Int)<k:=by omega
   go_upto_region 6 with(fail)
   refine wp_region_held_drew (S:=(fun w'=>w'.cell? ⟨bb,0,none⟩=some (.int .i64 o)∧w'.cell? ⟨bb,1,none⟩=some (.int .i64 l)∧w'.cell? ⟨bb,2,none⟩=some (.int .i64 m))) (by kernel_rfl) ?_ (fun hSS=> ?_);focus((refine⟨?_,?_,?_⟩;all_goals first|(simp [hX8];done)|(simp [hX7];done)|(simp [hX];done)))
   refine tk 0 ?_;try simp only[Act.put,u2,u3,u4]
   refine tk 1 ?_;try simp only[Act.put,u2,u3,u4]
   refine tk 2 ?_;try simp only[Act.put,u2,u3,u4]
   refine tk 3 ?_;try simp only[Act.put,u2,u3,u4]
   refine tk 4 ?_;try simp only[Act.put,u2,u3,u4]
   refine rd1 5 fun KK hKK=> ?_;go_simp
   (go_at_call 75;refine(l8Op_any r _ o l m _ R4.drew (by omega) hst).mono ?_;rintro e w7 ⟨⟨x,rfl,hsm⟩,R7,b7⟩;have z7:wr.heap.size≤w7.heap.size:=b7.size;have K1_7:=K1_4.drew.belowR b7 l14 (by omega);have K0_7:=K0_4.drew.belowR b7 (by show _<wr.heap.size;omega) (by omega);have g7:=g4.drew.trans (b7.mono (by show _≤wr.heap.size;omega));have hX7:=K1_7.cell;have hs1:=hsm.1;have hs2:=hsm.2)
   refine hKK.out _ _ (by(refine⟨?_,?_,?_⟩;all_goals first|(simp [hX8];done)|(simp [hX7];done)|(simp [hX];done))) fun hSS=> ?_;try simp only[Act.put,u2,u3,u4]
   refine rd1 6 fun KK hKK=> ?_;go_simp
   (go_at_call 29;refine(Ze o l m dict log x _ (by omega) (by omega) (by omega) (by omega)).mono ?_;rintro e w8 ⟨rfl,b8⟩;have z8:=b8.size;have K1_8:=K1_7.below b8 (by omega);have K0_8:=K0_7.below b8 (by omega);have R8:=R7.keep b8;have g8:=g7.trans (below_toR (b8.mono (by omega)) r);have hX8:=K1_8.cell;(have hsh:=fun L h=>apL_short (o:=o) (l:=l) (m:=m) (dict:=dict) (log:=log) (x:=x) (L:=L) h);generalize apL o l m dict log x=G at*;have HSH:=Go.Lib.hid hsh;clear hsh;unfold zZ)
   refine hKK.out _ _ (by(refine⟨?_,?_,?_⟩;all_goals first|(simp [hX8];done)|(simp [hX7];done)|(simp [hX];done))) fun hSS=> ?_;try simp only[Act.put,u2,u3,u4]
   refine tk 7 ?_;try simp only[Act.put,u2,u3,u4]
   refine tk 8 ?_;try simp only[Act.put,u2,u3,u4]
   refine tk 9 ?_;try simp only[Act.put,u2,u3,u4]
   refine tk 10 ?_;try simp only[Act.put,u2,u3,u4]
   refine tk 11 ?_;try simp only[Act.put,u2,u3,u4]
   refine wpAnyH_done (by kernel_rfl) ?_ _;have R8':=R8.mono (show _≤M+120+100*(c+1) by omega);clear hKK hX hX7 hX8 R4 R7 R8 K1_7 K0_7 g7 b8 b7
   cases G with
   |none=>
    simp only[Option.isSome_none];go_wp2;go_roundw
    case rel=>exact⟨k - 1,c+1,log,rfl,by go_num,by omega,hll,R8',g8,K0_8,K1_8⟩
    case measure=>simp [intOf];omega
   |some L=>
    have hL:=HSH.out L rfl;simp only[Option.isSome_some,Option.getD_some];go_wp2;go_roundw
    case rel=>exact⟨k - 1,c+1,L,rfl,by go_num,by omega,hL,R8',g8,K0_8,K1_8⟩
    case measure=>simp [intOf];omega
  ·have hki:¬(0:Int)<k:=by omega
   have hF:=K0_4.free;have hY:=K0_4.cell;go_wp2;have Q:=(((K0_4.set 0 (.int .i64 o)).set 1 (.int .i64 l)).set 2 (.int .i64 m)).cell;have R9:Rd (((wr.setCell ⟨w.heap.size,0,none⟩ (.int .i64 o)).setCell ⟨w.heap.size,1,none⟩ (.int .i64 l)).setCell ⟨w.heap.size,2,none⟩ (.int .i64 m)) r (M+1000):=Rd.far (Rd.far (Rd.far (R4.mono (by omega)) hr _) hr _) hr _;have g9:BelowR w.heap.size r w (((wr.setCell ⟨w.heap.size,0,none⟩ (.int .i64 o)).setCell ⟨w.heap.size,1,none⟩ (.int .i64 l)).setCell ⟨w.heap.size,2,none⟩ (.int .i64 m)):=BelowR.setCell (BelowR.setCell (BelowR.setCell g4 (.inr (Nat.le_refl _)) _) (.inr (Nat.le_refl _)) _) (.inr (Nat.le_refl _)) _;exact bodyPost_ret (v:=.tuple #[.agg #[.int .i64 o,.int .i64 l,.int .i64 m],sv dict,sv log]) (by simp [results,Tryz.results41,go_sem,Q]) rfl ⟨⟨o,l,m,dict,log,rfl,hst,hdl,hll⟩,R9,g9⟩
end Go.Proofs.YtfppmajoidkooaaGreatDoor
