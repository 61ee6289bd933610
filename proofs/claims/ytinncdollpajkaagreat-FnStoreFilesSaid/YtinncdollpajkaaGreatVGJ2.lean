import Derived.Test.YtinncdollpajkaaGreatVGJ1
import Derived.Test.YtinncdollpajkaaGreatVGS3
import Derived.Deep.CutBlock
import Derived.Test.YtinncdollpajkaaGreatVGT
import Derived.Test.YtinncdollpajkaaGreatVGS2
import Derived.Test.YtinncdollpajkaaGreatVGS4
set_option linter.unusedVariables false
set_option linter.unusedSimpArgs false
set_option maxHeartbeats 8000000
namespace Go.Proofs.YtinncdollpajkaaGreat
open Go.RowKit
set_option maxRecDepth 100000
attribute [local go_sem high] zA zu zy zO zK zX zx zk zn zq zi zo yQ zC yf zD
theorem Xt {B b : Nat} {K : Kn} {A An Ap : Option Addr} {cap cn cp : Nat} (d : Bs) (w : World) (hT : xm w B b K A An Ap cap cn cp) (hk : K.ok) (hd0 : d ≠ []) (hdl : d.length ≤ 100000) (hlit : d.all (vU K.l) = true) :
  Calls Tryz.prog 175 #[.pointer (some ⟨b, 0, none⟩), sv d] w fun e w' => e = .returned (.tuple #[.int .i64 (K.find (K.longest d)), ivn (K.longest d).length]) ∧ Below w.heap.size w w' := by
 obtain ⟨x, r, hxr⟩ : ∃ x r, d = x :: r := by cases d with
  | nil => exact absurd rfl hd0
  | cons x r => exact ⟨x, r, rfl⟩
 have hst := hk.st
 have hbd := hk.bd
 have hfin := hk.fine
 have hnl := hfin.RJ
 have hlits := hfin.tr.lits
 have hxcl : (x.toNat : Int) < K.cl := by
  have h := List.all_eq_true.1 hlit x (by rw [hxr]; exact List.mem_cons_self)
  simpa [vU, Kn.cl] using h
 have hxn : x.toNat < K.tr.nds.length := by omega
 have hb0 : byteAt d 0 = (x.toNat : Int) := by rw [hxr]; rfl
 have hrl : d.length = r.length + 1 := by rw [hxr]; rfl
 have HBY : Hid (∀ (k : Nat) (h : k < r.length), byteAt d ((k : Int) + 1) = (r[k].toNat : Int)) := fun k h => by
  rw [show ((k : Int) + 1) = ((k + 1 : Nat) : Int) by omega, hxr, zV _ _ (by simp; omega), List.getElem_cons_succ]
 have HLT : Hid (∀ n k, K.tr.desc x.toNat r = (n, k) →
  n < K.tr.nds.length ∧ k ≤ r.length ∧
  (K.gr = true → k < r.length → n = K.tr.y7 K.cl K.last → byteAt d ((k : Int) + 1) = ((K.tr.nds[n]?.getD ⟨0, 0, 0, 0⟩).first.toNat : Int) → K.find (K.longest d) = K.nx ∧ (K.longest d).length = k + 2) ∧
  (¬ (K.gr = true ∧ k < r.length ∧ n = K.tr.y7 K.cl K.last ∧ byteAt d ((k : Int) + 1) = ((K.tr.nds[n]?.getD ⟨0, 0, 0, 0⟩).first.toNat : Int)) → K.find (K.longest d) = (K.tr.nds[n]?.getD ⟨0, 0, 0, 0⟩).code ∧ (K.longest d).length = k + 1)) := fun n k h => by
  have := K.YG hk hxcl h
  rw [← hxr] at this
  exact this
 have HDS := Go.Lib.hid (mZ.start K.tr x r)
 have HRL := Go.Lib.hid hrl
 clear hxr hrl hlit hd0
 have hd0 : 0 < d.length := by have := HRL.out; omega
 obtain ⟨hnl1, hnl2⟩ := hnl
 generalize K.find (K.longest d) = F at *
 generalize (K.longest d).length = L at *
 go_enter Tryz.func175, Tryz.ntmps175
 go_upto_block 0 with (fail)
 go_cut [6, 7] (fun a c wx => ∃ n k : Nat, a = .int .i64 (n : Int) ∧ c = .int .i64 ((k : Int) + 1) ∧ Hid (K.tr.desc x.toNat r = (n, k)) ∧ w = wx)
 case first =>
  go_wp2_with fail
  go_loop [6, 7] (fun a c => ∃ n k : Nat, a = .int .i64 (n : Int) ∧ c = .int .i64 ((k : Int) + 1) ∧ n < K.tr.nds.length ∧ k ≤ r.length ∧ Hid (mZ K.tr x r n k)) (fun _ c => d.length - (intOf c).toNat)
  case atStart => exact ⟨x.toNat, 0, rfl, rfl, hxn, by omega, HDS⟩
  case round =>
   obtain ⟨n, k, rfl, rfl, hn, hkr, HD⟩ := hrel
   by_cases hlt : k < r.length
   ·have hki : (k : Int) + 1 < d.length := by have := HRL.out; omega
    have hby := HBY.out k hlt
    have HNX : Hid (∀ m, K.tr.kid n r[k] = some m → mZ K.tr x r m (k + 1)) := fun m hm => HD.out.next hlt hm
    have HSTP : Hid (K.tr.kid n r[k] = none → K.tr.desc x.toNat r = (n, k)) := fun hm => HD.out.stop hlt hm
    obtain ⟨y, hy⟩ : ∃ y, r[k] = y := ⟨_, rfl⟩
    rw [hy] at hby HNX HSTP
    have hy255 : (y.toNat : Int) ≤ 255 := by have := y.toNat_lt; omega
    have cC := Zz n (y.toNat : Int) w hT hfin hn (by omega) hy255
    rw [show UInt8.ofNat ((y.toNat : Int)).toNat = y by simp] at cC
    have HQ1 : Hid (K.tr.oO n y < 0 → K.tr.kid n y = none) := fun h => XW h
    have HQ2 : Hid (0 ≤ K.tr.oO n y → K.tr.kid n y = some (K.tr.oO n y).toNat ∧ (K.tr.oO n y).toNat < K.tr.nds.length) := fun h => UK h
    generalize K.tr.oO n y = q at *
    clear hy
    by_cases hq : q < 0
    ·have HE := Go.Lib.hid (HSTP.out (HQ1.out hq))
     go_wp2_with (go_at_call 199; refine cC.mono ?_; rintro e w' ⟨rfl, rfl⟩)
     go_meet
     exact ⟨n, k, rfl, rfl, HE, rfl⟩
    ·obtain ⟨hm1, hm2⟩ := HQ2.out (by omega)
     have HE := Go.Lib.hid (HNX.out _ hm1)
     clear hm1
     obtain ⟨m, rfl⟩ := Int.eq_ofNat_of_zero_le (show 0 ≤ q by omega)
     rw [Int.toNat_natCast] at hm2 HE
     go_wp2_with (go_at_call 199; refine cC.mono ?_; rintro e w' ⟨rfl, rfl⟩)
     go_round
     case rel => exact ⟨m, k + 1, rfl, by go_num, hm2, by omega, HE⟩
     case measure => have := HRL.out; simp [intOf]; omega
   ·have hki : ¬ (k : Int) + 1 < d.length := by have := HRL.out; omega
    have HE := Go.Lib.hid (HD.out.fin (by omega))
    go_wp2
    go_meet
    exact ⟨n, k, rfl, rfl, HE, rfl⟩
 case rest =>
  obtain ⟨n, k, rfl, rfl, HE, rfl⟩ := hcut
  obtain ⟨hn, hkr, hyes, hno⟩ := HLT.out n k HE.out
  clear HLT HE HDS HBY hb0
  have hki0 : (k : Int) + 1 ≤ d.length := by have := HRL.out; omega
  have hiff : (k : Int) + 1 < d.length ↔ k < r.length := by have := HRL.out; omega
  obtain ⟨gn, cn2, hv, hgn⟩ := hT.nds.form (by omega)
  injection hv with e1 e2 e3
  subst e1 e3
  clear e2
  have hbl := hT.box.lt
  have hgl := (hT.nds.lt gn rfl).2
  have hX := hT.box.cell
  have c4 := (hT.nds.cellAt (n * 6 + 4) (by omega)).trans (wF _ _ hn (by omega))
  have c5 := (hT.nds.cellAt (n * 6 + 5) (by omega)).trans (wF _ _ hn (by omega))
  simp only [ndV, List.getElem?_cons_zero, List.getElem?_cons_succ] at c4 c5
  have hni : (n : Int) < K.tr.nds.length := by omega
  obtain ⟨dd, hdd⟩ : ∃ dd, K.tr.nds[n]?.getD ⟨0, 0, 0, 0⟩ = dd := ⟨_, rfl⟩
  rw [hdd] at c4 c5 hyes hno
  clear hdd
  have hG := zG hX hbl
  have hG2 := wS c4 hgl
  have hby0 := zM d ((k : Int) + 1)
  have hby1 := yg d ((k : Int) + 1)
  obtain ⟨P, hP⟩ : ∃ P, K.tr.y7 K.cl K.last = P := ⟨_, rfl⟩
  have CN : Hid (K.gr = true → ∀ w, xm w B b K A (some ⟨gn, 0, none⟩) Ap cap cn cp → Calls Tryz.prog 198 #[.pointer (some ⟨b, 0, none⟩), .int .i64 K.last] w fun e w' => e = .returned (.int .i64 (P : Int)) ∧ Below w.heap.size w w') := fun hg w h => by
   have := rV K.last w h hfin (K.tH hk hg)
   rw [hP] at this
   exact this
  rw [hP] at hyes hno
  have HY := Go.Lib.hid hyes
  have HN := Go.Lib.hid hno
  clear hyes hno hP
  have hcases : (¬ (k : Int) + 1 < d.length) ∨ ((k : Int) + 1 < d.length ∧ K.gr = false) ∨ ((k : Int) + 1 < d.length ∧ K.gr = true ∧ ((n : Int) == (P : Int)) = false) ∨
    ((k : Int) + 1 < d.length ∧ K.gr = true ∧ ((n : Int) == (P : Int)) = true ∧ (byteAt d ((k : Int) + 1) == (dd.first.toNat : Int)) = false) ∨ ((k : Int) + 1 < d.length ∧ K.gr = true ∧ ((n : Int) == (P : Int)) = true ∧ (byteAt d ((k : Int) + 1) == (dd.first.toNat : Int)) = true) := by
   by_cases h1 : (k : Int) + 1 < d.length
   ·cases h2 : K.gr
    ·exact .inr (.inl ⟨h1, rfl⟩)
    ·cases h3 : ((n : Int) == (P : Int))
     ·exact .inr (.inr (.inl ⟨h1, rfl, rfl⟩))
     ·cases h4 : (byteAt d ((k : Int) + 1) == (dd.first.toNat : Int))
      ·exact .inr (.inr (.inr (.inl ⟨h1, rfl, rfl, rfl⟩)))
      ·exact .inr (.inr (.inr (.inr ⟨h1, rfl, rfl, rfl⟩)))
   ·exact .inl h1
  rcases hcases with h1 | ⟨h1, h2⟩ | ⟨h1, h2, h3⟩ | ⟨h1, h2, h3, h4⟩ | ⟨h1, h2, h3, h4⟩
  ·have HR := Go.Lib.hid (HN.out (fun hh => h1 (hiff.2 hh.2.1)))
   have hd1 : decide ((k : Int) + 1 < d.length) = false := decide_eq_false h1
   clear hiff HN HY
   have CN := Go.Lib.hid (fun w h => rV (B := B) (b := b) (K := K) (A := A) (An := some ⟨gn, 0, none⟩) (Ap := Ap) (cap := cap) (cn := cn) (cp := cp) 0 w h hfin (.inl ⟨by omega, by omega⟩))
   go_wp2_with fail
   refine wp_region_quiet_below (by kernel_rfl) (by kernel_rfl) ?_
   repeat (go_big_quiet_step ((first | (go_at_call 174; exact Calls.regrown_of (vM K A cap _ hk)) | (go_at_call 198; exact Calls.regrown_of (CN.out _ (hT.keep (below_regrown _ _ _)))))))
   refine wpQuiet_nil ?_
   intro w2 hw2
   have hb2 : Below _ _ w2 := zh hw2
   clear hw2
   have c6 := (hb2.cell (p := ⟨gn, n * 6 + 5, none⟩) hgl).trans c5
   have hX2 := (hT.box.below hb2 hbl).cell
   clear hG hG2 hX c4 c5
   go_wp2
   go_ret2
   refine ⟨?_, hb2⟩
   rw [HR.out.1, HR.out.2]
   rfl
  ·have HR := Go.Lib.hid (HN.out (fun hh => by rw [h2] at hh; cases hh.1))
   clear hiff HN HY
   have CN := Go.Lib.hid (fun w h => rV (B := B) (b := b) (K := K) (A := A) (An := some ⟨gn, 0, none⟩) (Ap := Ap) (cap := cap) (cn := cn) (cp := cp) 0 w h hfin (.inl ⟨by omega, by omega⟩))
   go_wp2_with fail
   refine wp_region_quiet_below (by kernel_rfl) (by kernel_rfl) ?_
   repeat (go_big_quiet_step ((first | (go_at_call 174; exact Calls.regrown_of (vM K A cap _ hk)) | (go_at_call 198; exact Calls.regrown_of (CN.out _ (hT.keep (below_regrown _ _ _)))))))
   refine wpQuiet_nil ?_
   intro w2 hw2
   have hb2 : Below _ _ w2 := zh hw2
   clear hw2
   have c6 := (hb2.cell (p := ⟨gn, n * 6 + 5, none⟩) hgl).trans c5
   have hX2 := (hT.box.below hb2 hbl).cell
   clear hG hG2 hX c4 c5
   go_wp2
   go_ret2
   refine ⟨?_, hb2⟩
   rw [HR.out.1, HR.out.2]
   rfl
  ·have HR := Go.Lib.hid (HN.out (fun hh => by have := hh.2.2.1; simp at h3; omega))
   have CN := Go.Lib.hid (CN.out h2)
   clear hiff HN HY
   go_wp2_with fail
   refine wp_region_quiet_below (by kernel_rfl) (by kernel_rfl) ?_
   repeat (go_big_quiet_step ((first | (go_at_call 174; exact Calls.regrown_of (vM K A cap _ hk)) | (go_at_call 198; exact Calls.regrown_of (CN.out _ (hT.keep (below_regrown _ _ _)))))))
   refine wpQuiet_nil ?_
   intro w2 hw2
   have hb2 : Below _ _ w2 := zh hw2
   clear hw2
   have c6 := (hb2.cell (p := ⟨gn, n * 6 + 5, none⟩) hgl).trans c5
   have hX2 := (hT.box.below hb2 hbl).cell
   clear hG hG2 hX c4 c5
   go_wp2
   go_ret2
   refine ⟨?_, hb2⟩
   rw [HR.out.1, HR.out.2]
   rfl
  ·have HR := Go.Lib.hid (HN.out (fun hh => by have := hh.2.2.2; simp at h4; omega))
   have CN := Go.Lib.hid (CN.out h2)
   clear hiff HN HY
   go_wp2_with fail
   refine wp_region_quiet_below (by kernel_rfl) (by kernel_rfl) ?_
   repeat (go_big_quiet_step ((first | (go_at_call 174; exact Calls.regrown_of (vM K A cap _ hk)) | (go_at_call 198; exact Calls.regrown_of (CN.out _ (hT.keep (below_regrown _ _ _)))))))
   refine wpQuiet_nil ?_
   intro w2 hw2
   have hb2 : Below _ _ w2 := zh hw2
   clear hw2
   have c6 := (hb2.cell (p := ⟨gn, n * 6 + 5, none⟩) hgl).trans c5
   have hX2 := (hT.box.below hb2 hbl).cell
   clear hG hG2 hX c4 c5
   go_wp2
   go_ret2
   refine ⟨?_, hb2⟩
   rw [HR.out.1, HR.out.2]
   rfl
  ·have HR := Go.Lib.hid (HY.out h2 (hiff.1 h1) (by simp at h3; omega) (by simpa using h4))
   have CN := Go.Lib.hid (CN.out h2)
   clear hiff HN HY
   go_wp2_with fail
   refine wp_region_quiet_below (by kernel_rfl) (by kernel_rfl) ?_
   repeat (go_big_quiet_step ((first | (go_at_call 174; exact Calls.regrown_of (vM K A cap _ hk)) | (go_at_call 198; exact Calls.regrown_of (CN.out _ (hT.keep (below_regrown _ _ _)))))))
   refine wpQuiet_nil ?_
   intro w2 hw2
   have hb2 : Below _ _ w2 := zh hw2
   clear hw2
   have hX2 := (hT.box.below hb2 hbl).cell
   clear hG hG2 hX c4 c5
   go_wp2_with fail
   refine (xK K A cap _ hst (by omega)).mono ?_
   rintro e w3 ⟨rfl, hb3⟩
   clear hX2
   have g3 := hb2.trans (hb3.mono hb2.size)
   go_wp2
   go_ret2
   refine ⟨?_, g3⟩
   have e : ivn (k + 2) = .int .i64 ((k : Int) + 1 + 1) := by
    show Value.int .i64 ((k + 2 : Nat) : Int) = _
    rw [show ((k + 2 : Nat) : Int) = (k : Int) + 1 + 1 by omega]
   rw [HR.out.1, HR.out.2, e]
   rfl
def OV (j : Nat) : List Value := [.int .i64 (-1), .int .i64 (-1), .int .i64 (-1), .int .u8 (j : Int), .int .u8 (j : Int), .int .i64 (j : Int)]
def af (m : Nat) : List Value := (List.range m).flatMap OV
theorem Vs (m : Nat) : af (m + 1) = af m ++ OV m := by unfold af; rw [List.range_succ, List.flatMap_append]; simp
theorem WJ (cl : Int) (h : cl ≤ 256) : af cl.toNat = ndC (Tr.lits cl).nds (Tr.lits cl).nds.length := by
  have hl : (Tr.lits cl).nds.length = cl.toNat := by simp [Tr.lits]
  have hg : ∀ i, i < cl.toNat → (Tr.lits cl).nds[i]?.getD ⟨0, 0, 0, 0⟩ = ⟨-1, UInt8.ofNat i, UInt8.ofNat i, i⟩ := fun i hi => by
    rw [List.getElem?_eq_getElem (by omega)]; simp [Tr.lits]
  have hk : ∀ (p : Nat) m, m ≤ cl.toNat → yt (Tr.lits cl).nds (p : Int) m = -1 := fun p m => by
    induction m with
    | zero => intro _; rfl
    | succ m ih =>
      intro hm
      rw [yt, hg m (by omega), if_neg (by show ¬ (-1 : Int) = p; omega)]
      exact ih (by omega)
  unfold af ndC
  rw [hl]
  apply lQ
  intro i hi
  rw [List.mem_range] at hi
  have hu : (UInt8.ofNat i).toNat = i := by rw [UInt8.toNat_ofNat']; omega
  unfold OV ndV nxt
  rw [hk i _ (Nat.le_refl _), hg i hi]
  simp only [hu]
  rw [if_pos (by omega)]
def O4 (K : Kn) (w : World) (e : Ending) (w' : World) : Prop := ∃ b A An Ap cap cn cp, e = .returned (.pointer (some ⟨b, 0, none⟩)) ∧ xm w' w.heap.size b K A An Ap cap cn cp ∧ Below w.heap.size w w'
theorem Xf (K : Kn) (A : Option Addr) (cap : Nat) (w : World) (hk : K.ok) (hs : Sl w A K.ps.length cap 2 (psV K.ps)) :
  Calls Tryz.prog 172 #[knV K A cap] w (O4 K w) := by
 obtain ⟨i, hi, hz0, hz1, hz2⟩ := info_parts Zr
 have hst := hk.st
 have hcl := hk.fine.cl
 have hpsl := hk.fine.len
 have hcap := hs.1
 obtain ⟨cl, hcln⟩ : ∃ cl : Nat, pow2 K.l = cl := ⟨(pow2 K.l).toNat, by unfold Kn.cl at hcl; omega⟩
 have hcl1 : 2 ≤ cl ∧ cl ≤ 256 := by unfold Kn.cl at hcl; omega
 obtain ⟨hcl1, hcl2⟩ := hcl1
 have HCL := Go.Lib.hid hcln
 have cC : Hid (∀ w, Calls Tryz.prog 171 #[.agg #[.int .i64 K.o, .int .i64 K.l, .int .i64 K.m]] w fun e w' => e = .returned (.int .i64 (cl : Int)) ∧ Below w.heap.size w w') := fun w => by
  have := y8 K.o K.l K.m w hst
  rw [hcln] at this
  exact this
 clear hcln hcl
 go_enter Tryz.func172, Tryz.ntmps172
 go_upto_region 3 with (fail)
 have hK0 : Bk ((w.alloc (.cells (knC K A cap) 102)).alloc (.cells #[.int .i64 K.o, .int .i64 K.l, .int .i64 K.m, .slice none 0 0, .int .i64 K.base, .int .i64 K.last, .slice none 0 0, .slice none 0 0] 195)) w.heap.size 102 (knC K A cap) := tBk
 have hR0 : Bk ((w.alloc (.cells (knC K A cap) 102)).alloc (.cells #[.int .i64 K.o, .int .i64 K.l, .int .i64 K.m, .slice none 0 0, .int .i64 K.base, .int .i64 K.last, .slice none 0 0, .slice none 0 0] 195)) (w.heap.size + 1) 195 #[.int .i64 K.o, .int .i64 K.l, .int .i64 K.m, .slice none 0 0, .int .i64 K.base, .int .i64 K.last, .slice none 0 0, .slice none 0 0] := tBk
 have g0 : Below w.heap.size w ((w.alloc (.cells (knC K A cap) 102)).alloc (.cells #[.int .i64 K.o, .int .i64 K.l, .int .i64 K.m, .slice none 0 0, .int .i64 K.base, .int .i64 K.last, .slice none 0 0, .slice none 0 0] 195)) := zH
 generalize (w.alloc (.cells (knC K A cap) 102)).alloc (.cells #[.int .i64 K.o, .int .i64 K.l, .int .i64 K.m, .slice none 0 0, .int .i64 K.base, .int .i64 K.last, .slice none 0 0, .slice none 0 0] 195) = w0 at *
 have hX0 := hK0.cell
 have hz0' := hR0.lt
 go_wp2_with fail
 refine (cC.out _).mono ?_
 rintro e w1 ⟨rfl, hb1⟩
 have hz1' := hb1.size
 have hK1 := hK0.below hb1 (by omega)
 have hR1 := hR0.below hb1 (by omega)
 have g1 := g0.trans (hb1.mono (by omega))
 clear hb1 hK0 hR0 g0 hX0
 go_wp2_with fail
 go_loopw [17] (fun v wr => ∃ (j : Nat) (An : Option Addr) (cn : Nat), v = .int .i64 (j : Int) ∧ j ≤ cl ∧ Bk wr w.heap.size 102 (knC K A cap) ∧ Bk wr (w.heap.size + 1) 195 #[.int .i64 K.o, .int .i64 K.l, .int .i64 K.m, .slice none 0 0, .int .i64 K.base, .int .i64 K.last, .slice An j cn, .slice none 0 0] ∧
  wr.ownsRow w.heap.size 214 6 (.slice An j cn) j (af j) ∧ Below w.heap.size w wr) (fun v _ => cl - (intOf v).toNat)
 case atStart => exact ⟨0, none, 0, rfl, by omega, hK1, hR1, ⟨by simp [af], .inl ⟨rfl, rfl⟩⟩, g1⟩
 case round =>
  obtain ⟨j, An, cn, rfl, hj, hK2, hR2, hown, g2⟩ := hrel
  clear hK1 hR1 g1
  have hX2 := hR2.cell
  have hz2' := hR2.lt
  by_cases hlt : j < cl
  ·have hji : (j : Int) < (cl : Int) := by omega
   have hm1 : j + 1 ≤ maxLen := by unfold maxLen; omega
   have hm2 : (j + 1) * 40 ≤ 140737488355328 := by omega
   go_wp2_with (at_builtin; go_must (refine yh _ rfl _ _ 193 rfl (w.heap.size) 214 i _ 6 40 Tryz.underlying193 hi hz0 hz1 hz2 rfl (by omega) _ _ _ rfl (hown.alloc _) _ 1 1 [.int .i64 (-1), .int .i64 (-1), .int .i64 (-1), .int .u8 (j : Int), .int .u8 (j : Int), .int .i64 (j : Int)] rfl (Sl.newAt wr #[.int .i64 (-1), .int .i64 (-1), .int .i64 (-1), .int .u8 (j : Int), .int .u8 (j : Int), .int .i64 (j : Int)] _ 1 6 (by first | rfl | simp) (by simp) (by omega)) (by simp [Value.oneCell']) hm1 hm2 ?_ ?_))
   try (case refine_1 => first | omega | (simp <;> omega; done))
   intro A5 cap5 w5 hown5 hg5 hat5
   have hR5 := Bk.grown (hR2.alloc _) hg5 (own_ne hown hR2 (by decide))
   have hK5 := Bk.grown (hK2.alloc _) hg5 (own_ne hown hK2 (by decide))
   have g5 := yR g2 hg5 (by omega) (fun k hk => (hown.lt k hk).1)
   have hX5 := hR5.cell
   have hF5 := hR5.free
   clear hX2 hg5 hat5 hown hR2 hK2 g2
   go_wp2
   go_roundw
   case rel =>
    refine ⟨j + 1, A5, cap5, by go_num, by omega, hK5.far (p := ⟨w.heap.size + 1, 6, none⟩) (by show w.heap.size ≠ w.heap.size + 1; omega) _, hR5.set 6 _, ?_, g5.setCell (by show w.heap.size ≤ w.heap.size + 1; omega) _⟩
    rw [Vs]
    exact zB hown5 (p := ⟨w.heap.size + 1, 6, none⟩) (own_ne hown5 hR5 (by decide)) _
   case measure => simp [intOf]; omega
  ·have hji : ¬ (j : Int) < (cl : Int) := by omega
   have hje : j = cl := by omega
   subst hje
   have hX3 := hK2.cell
   have hkl : K.cl.toNat = j := by have := HCL.out; unfold Kn.cl; omega
   have hcap2 := hcap
   have HS : Hid (∀ wr, Below w.heap.size w wr → Sl wr A K.ps.length cap 2 (psV K.ps)) := fun wr h => hs.below h
   clear hX2 hs
   have hT0 : xm wr w.heap.size (w.heap.size + 1) { K with ps := K.ps.take 0 } none An none 0 cn 0 := by
    have htr : ({ K with ps := K.ps.take 0 } : Kn).tr = Tr.lits K.cl := rfl
    have hnl : (Tr.lits K.cl).nds.length = j := by rw [← hkl]; simp [Tr.lits]
    refine ⟨by omega, ?_, ?_, ?_, ?_⟩
    ·unfold trC
     rw [htr, hnl]
     exact hR2
    ·exact ⟨by simp [psV], .inl ⟨rfl, rfl⟩⟩
    ·rw [htr, ← WJ K.cl (by have := HCL.out; unfold Kn.cl; omega), hkl, hnl]
     exact hown
    ·rw [htr]
     exact ⟨by simp [Tr.lits], .inl ⟨rfl, rfl⟩⟩
   clear hR2 hown
   go_wp2_with fail
   go_loopw [39] (fun v wx => ∃ (q : Nat) (A' An' Ap' : Option Addr) (cap' cn' cp' : Nat), v = .int .i64 (q : Int) ∧ q ≤ K.ps.length ∧ xm wx w.heap.size (w.heap.size + 1) { K with ps := K.ps.take q } A' An' Ap' cap' cn' cp' ∧ Below w.heap.size w wx) (fun v _ => K.ps.length - (intOf v).toNat)
   case atStart => exact ⟨0, none, An, none, 0, cn, 0, rfl, by omega, hT0, g2⟩
   case round =>
    obtain ⟨q, A', An', Ap', cap', cn', cp', rfl, hq, hT, hb⟩ := hrel
    clear hT0
    by_cases hlt : q < K.ps.length
    ·have hqi : (q : Int) < K.ps.length := by omega
     obtain ⟨g, off, hA, hg, hc0, hc1⟩ := kZ (HS.out wr hb) q hlt
     obtain ⟨hp1, hp2, hp3⟩ := hk.pairs q hlt
     have hq2 : (K.ps.take q).length = q := by rw [List.length_take]; omega
     have hKq : Hid (({ ({ K with ps := K.ps.take q } : Kn) with ps := ({ K with ps := K.ps.take q } : Kn).ps ++ [(K.ps[q].1, K.ps[q].2)] } : Kn) = { K with ps := K.ps.take (q + 1) }) := by
      show _ = _
      have : K.ps.take (q + 1) = K.ps.take q ++ [K.ps[q]] := List.take_succ_eq_append_getElem hlt
      rw [this]
     have hfq : ({ K with ps := K.ps.take q } : Kn).fine := ⟨hst, mF hk.pairs _, by show (K.ps.take q).length ≤ 1020; omega⟩
     have cL : Hid (∀ w', xm w' w.heap.size (w.heap.size + 1) { K with ps := K.ps.take q } A' An' Ap' cap' cn' cp' → Calls Tryz.prog 195 #[.pointer (some ⟨w.heap.size + 1, 0, none⟩), .agg #[.int .i64 K.ps[q].1, .int .i64 K.ps[q].2]] w' (dD w.heap.size (w.heap.size + 1) { K with ps := K.ps.take (q + 1) } (oI (w.heap.size + 1) A' An' Ap') w')) := fun w' h => by
      have := ZQ K.ps[q].1 K.ps[q].2 w' h hfq (by show (K.ps.take q).length < 1020; omega) (by show codeOk K.cl (K.ps.take q).length _; rw [hq2]; exact hp1) hp2 hp3
      rw [hKq.out] at this
      exact this
     generalize K.ps[q] = pr at *
     obtain ⟨p1, p2⟩ := pr
     simp only at hc0 hc1 cL
     subst hA
     clear hKq
     go_wp2_with fail
     refine (cL.out _ (hT.alloc _)).mono ?_
     rintro e w6 ⟨rfl, ⟨A6, An6, Ap6, cap6, cn6, cp6, hT6, hS6⟩, g6⟩
     have hb6 := (hb.alloc (by have := hT.box.lt; omega) (.cells #[.int .i64 p1, .int .i64 p2] 189)).trans (g6.below (by have := hT.box.lt; simp; omega))
     clear hT hb hc0 hc1
     go_wp2
     go_roundw
     case rel => exact ⟨q + 1, A6, An6, Ap6, cap6, cn6, cp6, by go_num, by omega, hT6, hb6⟩
     case measure => simp [intOf]; omega
    ·have hqi : ¬ (q : Int) < K.ps.length := by omega
     have hqe : q = K.ps.length := by omega
     rw [hqe, List.take_length] at hT
     go_wp2
     go_ret
     exact ⟨w.heap.size + 1, A', An', Ap', cap', cn', cp', rfl, hT, hb⟩
theorem lD (K : Kn) (A : Option Addr) (cap : Nat) (w : World) (hl : K.ps.length ≤ 100000) (hs : Sl w A K.ps.length cap 2 (psV K.ps)) :
  Calls Tryz.prog 176 #[knV K A cap] w (qU K w) := by
 obtain ⟨i, hi, hz0, hz1, hz2⟩ := info_parts qV
 have hm1 : 0 + K.ps.length ≤ maxLen := by unfold maxLen; omega
 have hm2 : (0 + K.ps.length) * 16 ≤ 140737488355328 := by omega
 go_enter Tryz.func176, Tryz.ntmps176
 have hK0 : Bk ((w.alloc (.cells (knC K A cap) 102)).alloc (.cells knZ 102)) w.heap.size 102 (knC K A cap) := tBk
 have hR0 : Bk ((w.alloc (.cells (knC K A cap) 102)).alloc (.cells knZ 102)) (w.heap.size + 1) 102 knZ := tBk
 have g0 : Below w.heap.size w ((w.alloc (.cells (knC K A cap) 102)).alloc (.cells knZ 102)) := zH
 go_upto_region 1 with (fail)
 generalize (w.alloc (.cells (knC K A cap) 102)).alloc (.cells knZ 102) = w0 at *
 have hX0 := hK0.cell
 have hF0 := hK0.free
 have hz0' := hR0.lt
 have hs0 := hs.below g0
 go_wp2_with (at_builtin; go_must (refine yh _ rfl _ _ 100 rfl (w.heap.size + 2) 189 i _ 2 16 Tryz.underlying100 hi hz0 hz1 hz2 rfl (by omega) (.slice none 0 0) 0 [] rfl ⟨by simp, .inl ⟨rfl, rfl⟩⟩ A K.ps.length cap (psV K.ps) rfl hs0 (YM _) hm1 hm2 ?_ ?_))
 try (case refine_1 => omega)
 intro A5 cap5 w5 hown5 hg5 hat5
 have hn0 : ∀ k : Nat, (Value.slice none 0 0).ownBlock = some k → k ≠ w.heap.size := fun k hk => by cases hk
 have hn1 : ∀ k : Nat, (Value.slice none 0 0).ownBlock = some k → k ≠ w.heap.size + 1 := fun k hk => by cases hk
 have hK5 := hK0.grown hg5 hn0
 have hR5 := hR0.grown hg5 hn1
 have g5 := g0.grown hg5 (by omega) (fun k hk => by cases hk)
 have hX5 := hK5.cell
 have hF5 := hK5.free
 clear hX0 hF0 hg5 hat5 hK0 hR0 g0 hs0
 have hK6 := hK5.set 3 (.slice A5 K.ps.length cap5)
 have hR6 := hR5.far (p := ⟨w.heap.size, 3, none⟩) (by show w.heap.size + 1 ≠ w.heap.size; omega) (.slice A5 K.ps.length cap5)
 have o6 := ownsRow_setCell_below hown5 (a := ⟨w.heap.size, 3, none⟩) (by show w.heap.size < w.heap.size + 2; omega) (.slice A5 K.ps.length cap5)
 have g6 := g5.setCell (p := ⟨w.heap.size, 3, none⟩) (Nat.le_refl _) (.slice A5 K.ps.length cap5)
 go_upto_region 2 with (fail)
 generalize w5.setCell ⟨w.heap.size, 3, none⟩ (.slice A5 K.ps.length cap5) = w6 at *
 clear hX5 hF5 hK5 hR5 g5 hown5
 have hX6 := hK6.cell
 have hF6 := hR6.free
 have hY6 := hR6.cell
 go_wp2
 have hQ := (wU hR6 K A5 cap5).cell
 have g7 := yz g6 (b := w.heap.size + 1) (by omega) K A5 cap5
 have o7 := zF (B' := w.heap.size) (yI o6 (b := w.heap.size + 1) (by omega) K A5 cap5) (by omega)
 try simp only [Exit.inBlock, Exit.then]
 refine bodyPost_ret (v := knV K A5 cap5) (by simp [results, Tryz.results176, go_sem, hQ]) rfl ?_
 exact ⟨A5, cap5, rfl, o7, g7⟩
def Om (K : Kn) (w : World) (e : Ending) (w' : World) : Prop := ∃ A cap x, e = .returned (.tuple #[knV K A cap, .int .i64 x]) ∧ w'.ownsRow w.heap.size 189 2 (.slice A K.ps.length cap) K.ps.length (psV K.ps) ∧ Below w.heap.size w w'
theorem VJ (K : Kn) (A : Option Addr) (cap : Nat) (d : Bs) (w : World) (hk : K.ok) (hs : Sl w A K.ps.length cap 2 (psV K.ps)) (hl : d.length ≤ 100000) (hf : d.all (vU K.l) = true) :
  Calls Tryz.prog 134 #[knV K A cap, sv d] w (Om (K.learn d) w) := by
 have hck := K.xU hk
 have HG0 : Hid (K.learn d = (xO d.length K.cleared (d.drop 0)).rest) := rfl
 have hst := hk.st
 have cN := fun w hs => Xf K A cap w hk hs
 have CN := Go.Lib.hid cN
 have HCL : Hid (K.cl = pow2 K.l) := rfl
 have CF : Hid (∀ B b A2 An Ap c2 cn cp w', xm w' B b K A2 An Ap c2 cn cp → Calls Tryz.prog 173 #[.pointer (some ⟨b, 0, none⟩), .int .i64 (pow2 K.l)] w' (dD B b K.cleared (oI b A2 An Ap) w')) := fun B b A2 An Ap c2 cn cp w' h => YU w' h hk
 have hs2 := hs
 clear cN hs2
 have hKl : K.cleared.l = K.l := rfl
 generalize hGe : K.learn d = G at *
 have HGe := Go.Lib.hid hGe
 clear hGe hk
 generalize K.cleared = K0 at *
 have HKL := Go.Lib.hid hKl
 clear hKl
 go_enter Tryz.func134, Tryz.ntmps134
 have hK0 : Bk ((w.alloc (.cells (knC K A cap) 102)).alloc (.cells knZ 102)) w.heap.size 102 (knC K A cap) := tBk
 have hR0 : Bk ((w.alloc (.cells (knC K A cap) 102)).alloc (.cells knZ 102)) (w.heap.size + 1) 102 knZ := tBk
 have g0 : Below w.heap.size w ((w.alloc (.cells (knC K A cap) 102)).alloc (.cells knZ 102)) := zH
 go_upto_region 1 with (fail)
 generalize (w.alloc (.cells (knC K A cap) 102)).alloc (.cells knZ 102) = w0 at *
 have hX0 := hK0.cell
 have hz0' := hR0.lt
 have hs0 := hs.below g0
 go_wp2_with fail
 refine (CN.out _ hs0).mono ?_
 rintro e w1 ⟨b, A1, An1, Ap1, cap1, cn1, cp1, rfl, hT1, hb1⟩
 have hz1' := hb1.size
 have hK1 := hK0.below hb1 (by omega)
 have hR1 := hR0.below hb1 (by omega)
 have g1 := g0.trans (hb1.mono (by omega))
 clear hb1 hK0 hR0 g0 hX0 hs0
 have hX1 := hK1.cell
 go_wp2_with fail
 refine (y8 _ _ _ _ hst).mono ?_
 rintro e w2 ⟨rfl, hb2⟩
 have hT2 := hT1.keep hb2
 have hK2 := hK1.below hb2 (by omega)
 have hR2 := hR1.below hb2 (by omega)
 have g2 := g1.trans (hb2.mono (by omega))
 have hz2' := hb2.size
 clear hb2 hK1 hR1 g1 hX1 hT1
 have hBb := hT2.bB
 go_wp2_with fail
 refine (CF.out _ _ _ _ _ _ _ _ _ hT2).mono ?_
 rintro e w3 ⟨rfl, ⟨A3, An3, Ap3, cap3, cn3, cp3, hT3, hS3⟩, g3⟩
 have hb3 := g3.below (by omega)
 have hz3' := hb3.size
 have hK3 := hK2.below hb3 (by omega)
 have hR3 := hR2.below hb3 (by omega)
 have g4 := g2.trans (hb3.mono (by omega))
 clear hb3 hK2 hR2 g2 hT2 g3 hS3
 go_wp2_with fail
 go_loopw [7, 8] (fun u v wr => ∃ (at_ n : Nat) (x : Int) (K' : Kn) (A' An' Ap' : Option Addr) (cap' cn' cp' : Nat), u = .int .i64 x ∧ v = .int .i64 (at_ : Int) ∧ at_ ≤ d.length ∧ d.length ≤ at_ + n ∧ K'.ok ∧ Hid (K'.l = K.l) ∧ Hid (G = (xO n K' (d.drop at_)).rest) ∧
  xm wr w0.heap.size b K' A' An' Ap' cap' cn' cp' ∧ Bk wr (w.heap.size + 1) 102 knZ ∧ Below w.heap.size w wr) (fun _ v _ => d.length - (intOf v).toNat)
 case atStart => exact ⟨0, d.length, 0, K0, A3, An3, Ap3, cap3, cn3, cp3, rfl, rfl, by omega, by omega, hck, HKL.out, HG0, hT3, hR3, g4⟩
 case round =>
  obtain ⟨at_, n, x, K', A', An', Ap', cap', cn', cp', rfl, rfl, hat, hatn, hk', HL, HG, hT, hR, hg⟩ := hrel
  clear hT3 hK3 hR3 g4 HG0 hck
  have hX := hT.box.cell
  have hwz := hT.box.lt
  have hst' := hk'.st
  have hrl := hR.lt
  by_cases hlt : at_ < d.length
  ·have hli : (at_ : Int) < d.length := by omega
   have hne : d.drop at_ ≠ [] := fun h => by have := congrArg List.length h; simp at this; omega
   have hrf : (d.drop at_).all (vU K'.l) = true := by rw [HL.out]; exact qR _ _ _ hf
   have hrl2 : (d.drop at_).length = d.length - at_ := by simp
   obtain ⟨m, rfl⟩ : ∃ m, n = m + 1 := ⟨n - 1, by omega⟩
   have hfol := K'.pq hk' hne hrf
   obtain ⟨hfol, _, hc0⟩ := hfol
   have hlp := (K'.yX (d.drop at_)).2
   have hlq := K'.wB hne
   have hao := K'.tV hk' hfol
   have HN : Hid (G = (xO m (K'.after (K'.find (K'.longest (d.drop at_)))) (d.drop (at_ + (K'.longest (d.drop at_)).length))).rest) := by
    show _ = _
    rw [HG.out, aB m K' _ hne, List.drop_drop]
   have HL1 : Hid ((K'.after (K'.find (K'.longest (d.drop at_)))).l = K.l) := HL.out
   have cG := Go.Lib.hid (fun w => vM K' A' cap' w hk')
   have cL : Hid (∀ w', xm w' w0.heap.size b K' A' An' Ap' cap' cn' cp' → Calls Tryz.prog 175 #[.pointer (some ⟨b, 0, none⟩), sv (d.drop at_)] w' fun e w'' => e = .returned (.tuple #[.int .i64 (K'.find (K'.longest (d.drop at_))), ivn (K'.longest (d.drop at_)).length]) ∧ Below w'.heap.size w' w'') := fun w' h => Xt _ w' h hk' hne (by omega) hrf
   have cF : Hid (∀ w', xm w' w0.heap.size b K' A' An' Ap' cap' cn' cp' → Calls Tryz.prog 173 #[.pointer (some ⟨b, 0, none⟩), .int .i64 (K'.find (K'.longest (d.drop at_)))] w' (dD w0.heap.size b (K'.after (K'.find (K'.longest (d.drop at_)))) (oI b A' An' Ap') w')) := fun w' h => Wu _ w' h hk' hfol
   clear HG hfol hne hrf
   generalize K'.after (K'.find (K'.longest (d.drop at_))) = K1 at *
   generalize K'.find (K'.longest (d.drop at_)) = c at *
   generalize (K'.longest (d.drop at_)).length = L at *
   have HR2 := Go.Lib.hid hrl2
   rw [hrl2] at hlp
   clear hrl2
   go_wp2_with fail
   refine (cG.out _).mono ?_
   rintro e w5 ⟨rfl, hb5⟩
   have hT5 := hT.keep hb5
   have hR5 := hR.below hb5 hrl
   have g5 := hg.trans (hb5.mono (by omega))
   have hz5 := hb5.size
   clear hX hb5 hT hR hg cG
   cases hgr : K'.gr
   all_goals
    go_wp2_with fail
    refine (cL.out _ hT5).mono ?_
    rintro e w6 ⟨rfl, hb6⟩
    have hT6 := hT5.keep hb6
    have hR6 := hR5.below hb6 (by omega)
    have g6 := g5.trans (hb6.mono (by omega))
    have hz6 := hb6.size
    clear hb6 hT5 hR5 g5 hgr
    go_wp2_with fail
    refine (cF.out _ hT6).mono ?_
    rintro e w7 ⟨rfl, ⟨A7, An7, Ap7, cap7, cn7, cp7, hT7, hS7⟩, g7⟩
    have hb7 := g7.below (by omega)
    have hR7 := hR6.below hb7 (by omega)
    have g8 := g6.trans (hb7.mono (by omega))
    clear hb7 hT6 hR6 g6 g7 hS7
    go_wp2
    go_roundw
    case rel => exact ⟨at_ + L, m, _, K1, A7, An7, Ap7, cap7, cn7, cp7, rfl, by go_num, by omega, by omega, hao, HL1, HN, hT7, hR7, g8⟩
    case measure => simp [intOf]; omega
  ·have hli : ¬ (at_ : Int) < d.length := by omega
   have hae : at_ = d.length := by omega
   have HE : Hid (G = K'.rest) := by
    show _ = _
    rw [HG.out, hae, List.drop_length, fF]
   clear HG
   have hlk : K'.ps.length ≤ 100000 := by have := hk'.fine.len; omega
   go_wp2_with fail
   refine (lD K' A' cap' _ hlk (Sl.own hT.prs)).mono ?_
   rintro e w5 ⟨A5, cap5, rfl, o5, hb5⟩
   have hz5 := hb5.size
   have hR5 := (hR.below hb5 hrl).alloc (.cells (knC K' A5 cap5) 102)
   have hN5 := Bk.new w5 (knC K' A5 cap5) 102
   have o6 := o5.alloc (.cells (knC K' A5 cap5) 102)
   have g5 := (hg.trans (hb5.mono (by omega))).alloc (by omega) (.cells (knC K' A5 cap5) 102)
   have hne1 : w5.heap.size ≠ w.heap.size + 1 := by omega
   clear hX hT hR hg hb5 o5
   go_upto_region 12 with (fail)
   generalize w5.alloc (.cells (knC K' A5 cap5) 102) = W at *
   have hX5 := hN5.cell
   have hF5 := hN5.free
   have hN6 := hN5.set 4 (.int .i64 (K'.ps.length : Int))
   have hR6 := hR5.far (p := ⟨w5.heap.size, 4, none⟩) (by show w.heap.size + 1 ≠ w5.heap.size; omega) (.int .i64 (K'.ps.length : Int))
   have o7 := zB o6 (p := ⟨w5.heap.size, 4, none⟩) (own_ne o6 hN5 (by decide)) (.int .i64 (K'.ps.length : Int))
   have g6 := g5.setCell (p := ⟨w5.heap.size, 4, none⟩) (by show w.heap.size ≤ w5.heap.size; omega) (.int .i64 (K'.ps.length : Int))
   go_upto_region 13 with (fail)
   generalize W.setCell ⟨w5.heap.size, 4, none⟩ (.int .i64 (K'.ps.length : Int)) = W2 at *
   clear hX5 hF5 hN5 hR5 o6 g5
   have hX6 := hN6.cell
   have hF6 := hN6.free
   have hN7 := hN6.set 5 (.int .i64 (-1))
   have hR7 := hR6.far (p := ⟨w5.heap.size, 5, none⟩) (by show w.heap.size + 1 ≠ w5.heap.size; omega) (.int .i64 (-1))
   have o8 := zB o7 (p := ⟨w5.heap.size, 5, none⟩) (own_ne o7 hN6 (by decide)) (.int .i64 (-1))
   have g7 := g6.setCell (p := ⟨w5.heap.size, 5, none⟩) (by show w.heap.size ≤ w5.heap.size; omega) (.int .i64 (-1))
   go_upto_region 14 with (fail)
   generalize W2.setCell ⟨w5.heap.size, 5, none⟩ (.int .i64 (-1)) = W3 at *
   clear hX6 hF6 hN6 hR6 o7 g6
   have hX7 := hN7.cell
   have hF7 := hR7.free
   have hY7 := hR7.cell
   go_wp2
   have hQ := (wU hR7 K'.rest A5 cap5).cell
   have g8 := yz g7 (b := w.heap.size + 1) (by omega) K'.rest A5 cap5
   have o9 := zF (B' := w.heap.size) (yI o8 (b := w.heap.size + 1) (by omega) K'.rest A5 cap5) (by omega)
   simp only [Kn.rest] at hQ g8 o9
   have hG := HE.out
   clear HE
   subst hG
   try simp only [Exit.inBlock, Exit.then]
   refine bodyPost_ret (v := .tuple #[knV K'.rest A5 cap5, .int .i64 x]) (by simp [results, Tryz.results134, go_sem, hQ, Kn.rest]) rfl ?_
   exact ⟨A5, cap5, x, rfl, o9, g8⟩
theorem iW (o l m c : Int) (n : Nat) (w : World) (hst : xH o l m) (hn : n ≤ 100000) :
  Calls Tryz.prog 170 #[.agg #[.int .i64 o, .int .i64 l, .int .i64 m], .int .i64 (n : Int), .int .i64 c] w fun e w' => e = .returned (.bool (decide (codeOk (pow2 l) n c))) ∧ Below w.heap.size w w' := by
 obtain ⟨h0, h1, h2, h3⟩ := hst.lm
 have hp := xe l h0 h1
 obtain ⟨hp0, hp1⟩ := hp
 have HX : Hid (∀ b : Bool, (b = true ↔ codeOk (pow2 l) n c) → b = decide (codeOk (pow2 l) n c)) := fun b h => by
  rw [Bool.eq_iff_iff, h, decide_eq_true_eq]
 generalize hD : decide (codeOk (pow2 l) n c) = D at *
 clear hD
 by_cases hc0 : 0 ≤ c
 ·go_enter Tryz.func170, Tryz.ntmps170
  go_wp2_with fail
  refine (wC _ _ _ _ hst).mono ?_
  rintro e w1 ⟨rfl, hb1⟩
  have hz1 := hb1.size
  simp only [World.size_alloc] at hz1
  have X0_1 := zQ (yw _ _ _) hb1 (by simp)
  have L0_1 : w.heap.size < w1.heap.size := by omega
  have g1 : Below w.heap.size w w1 := ((Below.refl _ _).alloc (Nat.le_refl _) _).trans (hb1.mono (by simp))
  clear hb1
  go_wp2_with fail
  refine (y8 _ _ _ _ hst).mono ?_
  rintro e w2 ⟨rfl, hb2⟩
  have hz2 := hb2.size
  have X0_2 := zQ X0_1 hb2 L0_1
  have L0_2 : w.heap.size < w2.heap.size := by omega
  have g2 : Below w.heap.size w w2 := g1.trans (hb2.mono (by omega))
  clear hb2 X0_1 L0_1 g1
  by_cases hc1 : c < pow2 l
  ·go_wp2
   go_ret
   exact ⟨zS (HX.out _ (by simp [codeOk]; omega)), g2⟩
  ·by_cases hc2 : pow2 l + 1 < c
   ·by_cases hc3 : c ≤ pow2 l + 1 + n
    ·go_wp2
     go_ret
     exact ⟨zS (HX.out _ (by simp [codeOk]; omega)), g2⟩
    ·have hd3 : decide (c ≤ pow2 l + 1 + n) = false := decide_eq_false hc3
     go_wp2
     go_ret
     exact ⟨zS (HX.out _ (by simp [codeOk]; omega)), g2⟩
   ·have hd2 : decide (pow2 l + 1 < c) = false := decide_eq_false hc2
    go_wp2
    go_ret
    exact ⟨zS (HX.out _ (by simp [codeOk]; omega)), g2⟩
 ·have hd0 : decide (0 ≤ c) = false := decide_eq_false hc0
  go_enter Tryz.func170, Tryz.ntmps170
  go_wp2_with fail
  refine (wC _ _ _ _ hst).mono ?_
  rintro e w1 ⟨rfl, hb1⟩
  have hz1 := hb1.size
  simp only [World.size_alloc] at hz1
  have X0_1 := zQ (yw _ _ _) hb1 (by simp)
  have L0_1 : w.heap.size < w1.heap.size := by omega
  have g1 : Below w.heap.size w w1 := ((Below.refl _ _).alloc (Nat.le_refl _) _).trans (hb1.mono (by simp))
  clear hb1
  have hd2 : decide (pow2 l + 1 < c) = false := decide_eq_false (by omega)
  go_wp2
  go_ret
  exact ⟨zS (HX.out _ (by simp [codeOk]; omega)), g1⟩
theorem sG (K : Kn) (A : Option Addr) (cap : Nat) (w : World) (hk : K.ok) (hs : Sl w A K.ps.length cap 2 (psV K.ps)) :
  Calls Tryz.prog 133 #[knV K A cap] w fun e w' => e = .returned (.bool true) ∧ Below w.heap.size w w' := by
 have hst := hk.st
 have hb := hk.bd
 have hlen := hk.len
 have hb0 := hk.base0
 have hb1 := hk.base1
 unfold Kn.cl Kn.top at hlen
 have hps : K.ps.length ≤ 100000 := by omega
 have hp := hk.lm
 obtain ⟨hp1, hp2, hp3, hp4⟩ := hp
 have hpw := xe K.l hp1 hp2
 have hpm := xe K.m hp3 hp4
 have cSV : Hid (∀ w, Calls Tryz.prog 83 #[.agg #[.int .i64 K.o, .int .i64 K.l, .int .i64 K.m]] w fun e w' => e = .returned (.bool true) ∧ Below w.heap.size w w') := fun w => (xh _ _ _ w).mono fun e w' ⟨h1, h2⟩ => ⟨by rw [h1, decide_eq_true hk.st], h2⟩
 have cPC : Hid (∀ (i : Nat) (hi : i < K.ps.length) w, Calls Tryz.prog 170 #[.agg #[.int .i64 K.o, .int .i64 K.l, .int .i64 K.m], .int .i64 (i : Int), .int .i64 K.ps[i].1] w fun e w' => e = .returned (.bool true) ∧ Below w.heap.size w w') := fun i hi w => (iW _ _ _ _ i w hst (by omega)).mono fun e w' ⟨h1, h2⟩ => ⟨by rw [h1, decide_eq_true (show codeOk (pow2 K.l) i K.ps[i].1 from (hk.pairs i hi).1)], h2⟩
 have hPB : Hid (∀ (i : Nat) (hi : i < K.ps.length), 0 ≤ K.ps[i].2 ∧ K.ps[i].2 < K.cl) := fun i hi => (hk.pairs i hi).2
 have hLast := hk.last
 have hcap := hs.1
 have hcap2 := hs.2.1
 have HS : Hid (∀ wr, Below w.heap.size w wr → Sl wr A K.ps.length cap 2 (psV K.ps)) := fun wr h => hs.below h
 clear hs
 go_enter Tryz.func133, Tryz.ntmps133
 go_wp2_with fail
 have hK0 : Bk ((w.alloc (.cells (knC K A cap) 102)).alloc (.cells #[.int .i64 K.o, .int .i64 K.l, .int .i64 K.m] 24)) w.heap.size 102 (knC K A cap) := tBk
 have hI0 : Bk ((w.alloc (.cells (knC K A cap) 102)).alloc (.cells #[.int .i64 K.o, .int .i64 K.l, .int .i64 K.m] 24)) (w.heap.size + 1) 24 #[.int .i64 K.o, .int .i64 K.l, .int .i64 K.m] := tBk
 have g0 : Below w.heap.size w ((w.alloc (.cells (knC K A cap) 102)).alloc (.cells #[.int .i64 K.o, .int .i64 K.l, .int .i64 K.m] 24)) := zH
 generalize (w.alloc (.cells (knC K A cap) 102)).alloc (.cells #[.int .i64 K.o, .int .i64 K.l, .int .i64 K.m] 24) = w0 at *
 have hG := zG hK0.cell hK0.lt
 have hG2 := zG hI0.cell hI0.lt
 have hz0 := hI0.lt
 have hdl : decide (pow2 K.m - 1 - (pow2 K.l + 1) < (K.ps.length : Int)) = false := by simp; omega
 refine wp_region_quiet_below (by kernel_rfl) (by kernel_rfl) ?_
 repeat (go_big_quiet_step ((first | (go_at_call 83; exact Calls.regrown_of (cSV.out _)) | (go_at_call 168; exact Calls.regrown_of (oG _ _ _ _ hst)) | (go_at_call 169; exact Calls.regrown_of (wC _ _ _ _ hst)))))
 refine wpQuiet_nil ?_
 intro w2 hw2
 have hb2 : Below _ _ w2 := zh hw2
 clear hw2
 have hz2 := hb2.size
 have hK2 := hK0.below hb2 (by omega)
 have hI2 := hI0.below hb2 (by omega)
 have g2 := g0.trans (hb2.mono (by omega))
 clear hG hG2 hK0 hI0 g0 hb2 cSV
 have hX2 := hK2.cell
 go_wp2
 go_loopw [25] (fun i wr => ∃ k : Nat, i = .int .i64 (k : Int) ∧ k ≤ K.ps.length ∧ Bk wr w.heap.size 102 (knC K A cap) ∧ Bk wr (w.heap.size + 1) 24 #[.int .i64 K.o, .int .i64 K.l, .int .i64 K.m] ∧ Below w.heap.size w wr) (fun i _ => K.ps.length - (intOf i).toNat)
 case atStart => exact ⟨0, rfl, by omega, hK2, hI2, g2⟩
 case round =>
  obtain ⟨k, rfl, hk', hK3, hI3, g3⟩ := hrel
  clear hK2 hI2 g2 hX2
  have hz3 := hI3.lt
  have hX := hK3.cell
  have hY := hI3.cell
  by_cases hlt : k < K.ps.length
  ·have hki : (k : Int) < K.ps.length := by omega
   obtain ⟨g, off, rfl, hg, h1, h2⟩ := kZ (HS.out wr g3) k hlt
   have cP := cPC.out k hlt
   have hpb := hPB.out k hlt
   unfold Kn.cl at hpb
   generalize K.ps[k] = pr at *
   obtain ⟨p1, p2⟩ := pr
   simp only at h1 h2 cP hpb
   obtain ⟨hpb1, hpb2⟩ := hpb
   have hdp1 : decide (p2 < 0) = false := by simp; omega
   have hdp2 : decide (pow2 K.l ≤ p2) = false := by simp; omega
   have hK4 := hK3.alloc (.cells #[.int .i64 p1, .int .i64 p2] 189)
   have hI4 := hI3.alloc (.cells #[.int .i64 p1, .int .i64 p2] 189)
   have hP4 := Bk.new wr #[.int .i64 p1, .int .i64 p2] 189
   have g4 := g3.alloc (by omega) (.cells #[.int .i64 p1, .int .i64 p2] 189)
   have hzw : wr.heap.size < (wr.alloc (.cells #[.int .i64 p1, .int .i64 p2] 189)).heap.size := by simp
   go_upto_region 7 with (fail)
   generalize wr.alloc (.cells #[.int .i64 p1, .int .i64 p2] 189) = W at *
   clear hX hY hK3 hI3 g3 h1 h2
   have hG := zG hK4.cell hK4.lt
   have hG2 := zG hI4.cell hI4.lt
   have hG3 := zG hP4.cell hP4.lt
   refine wp_region_quiet_below (by kernel_rfl) (by kernel_rfl) ?_
   repeat (go_big_quiet_step ((first | (go_at_call 170; exact Calls.regrown_of (cP _)) | (go_at_call 171; exact Calls.regrown_of (y8 _ _ _ _ hst)))))
   refine wpQuiet_nil ?_
   intro w4 hw2
   have hb4 : Below _ _ w4 := zh hw2
   clear hw2
   have hz4 := hb4.size
   have hK5 := hK4.below hb4 (by omega)
   have hI5 := hI4.below hb4 (by omega)
   have g5 := g4.trans (hb4.mono (by omega))
   clear hG hG2 hG3 hK4 hI4 g4 hb4 cP hP4
   go_wp2
   go_roundw
   case rel => exact ⟨k + 1, by go_num, by omega, hK5, hI5, g5⟩
   case measure => simp [intOf]; omega
  ·have hki : ¬ (k : Int) < K.ps.length := by omega
   have hdb1 : decide (K.base < 0) = false := by simp; omega
   have hdb2 : decide ((K.ps.length : Int) < K.base) = false := by simp; omega
   by_cases hl : K.last = -1
   ·have hd1 : (K.last == (-1 : Int)) = true := by simpa using hl
    have hbe : K.base = K.ps.length := by
     rcases hLast with h | h
     ·exact h.2
     ·unfold codeOk at h; omega
    have hd2 : (K.base == (K.ps.length : Int)) = true := by simpa using hbe
    clear hLast hl hbe
    go_wp2
    go_ret
    exact ⟨rfl, g3⟩
   ·have hd1 : (K.last == (-1 : Int)) = false := by simpa using hl
    have hc : codeOk (pow2 K.l) K.ps.length K.last := hLast.elim (fun h => absurd h.1 hl) id
    have hd : decide (codeOk (pow2 K.l) K.ps.length K.last) = true := decide_eq_true hc
    clear hLast hl hc
    go_wp2_with fail
    refine (iW _ _ _ _ _ _ hst hps).mono ?_
    rintro e w4 ⟨rfl, hb4⟩
    have g4 := g3.trans (hb4.mono (by omega))
    go_wp2
    go_ret
    exact ⟨rfl, g4⟩
theorem au (o l m : Int) (w : World) (hst : xH o l m) :
  Calls Tryz.prog 104 #[.agg #[.int .i64 o, .int .i64 l, .int .i64 m]] w fun e w' => e = .returned (.tuple #[knV (ve o l m) none 0, .bool true]) ∧ Below w.heap.size w w' := by
 have hd : decide (xH o l m) = true := decide_eq_true hst
 go_enter Tryz.func104, Tryz.ntmps104
 go_wp2_with fail
 refine (xh _ _ _ _).mono ?_
 rintro e w2 ⟨rfl, hb2⟩
 have hI : Bk ((w.alloc (.cells #[.int .i64 o, .int .i64 l, .int .i64 m] 24)).alloc (.cells knZ 102)) w.heap.size 24 #[.int .i64 o, .int .i64 l, .int .i64 m] := tBk
 have hK : Bk ((w.alloc (.cells #[.int .i64 o, .int .i64 l, .int .i64 m] 24)).alloc (.cells knZ 102)) (w.heap.size + 1) 102 knZ := tBk
 have g0 : Below w.heap.size w ((w.alloc (.cells #[.int .i64 o, .int .i64 l, .int .i64 m] 24)).alloc (.cells knZ 102)) := zH
 generalize (w.alloc (.cells #[.int .i64 o, .int .i64 l, .int .i64 m] 24)).alloc (.cells knZ 102) = w0 at *
 have hz := hK.lt
 have hI2 := hI.below hb2 (by omega)
 have hK2 := hK.below hb2 (by omega)
 have g2 := g0.trans (hb2.mono (by omega))
 have hX := hI2.cell
 have hF := hK2.free
 have hY := hK2.cell
 clear hI hK g0 hb2
 go_wp2
 have hQ := (wU hK2 (ve o l m) none 0).cell
 have g3 := yz g2 (b := w.heap.size + 1) (by omega) (ve o l m) none 0
 simp only [ve, List.length_nil] at hQ g3
 exact bodyPost_ret (v := .tuple #[knV (ve o l m) none 0, .bool true]) (by simp [results, Tryz.results104, go_sem, hQ, ve]) rfl ⟨rfl, g3⟩
abbrev Yh : Value := .agg #[.int .i64 0, .int .i64 0, .int .i64 0, .slice none 0 0, .int .i64 0, .int .i64 0]
theorem Tn (o l m : Int) (w : World) (hst : ¬ xH o l m) :
  Calls Tryz.prog 104 #[.agg #[.int .i64 o, .int .i64 l, .int .i64 m]] w fun e w' => e = .returned (.tuple #[Yh, .bool false]) ∧ Below w.heap.size w w' := by
 have hd : decide (xH o l m) = false := decide_eq_false hst
 go_enter Tryz.func104, Tryz.ntmps104
 go_wp2_with fail
 refine (xh _ _ _ _).mono ?_
 rintro e w2 ⟨rfl, hb2⟩
 have hK : Bk ((w.alloc (.cells #[.int .i64 o, .int .i64 l, .int .i64 m] 24)).alloc (.cells knZ 102)) (w.heap.size + 1) 102 knZ := tBk
 have g0 : Below w.heap.size w ((w.alloc (.cells #[.int .i64 o, .int .i64 l, .int .i64 m] 24)).alloc (.cells knZ 102)) := zH
 generalize (w.alloc (.cells #[.int .i64 o, .int .i64 l, .int .i64 m] 24)).alloc (.cells knZ 102) = w0 at *
 have hz := hK.lt
 have hK2 := hK.below hb2 (by omega)
 have g2 := g0.trans (hb2.mono (by omega))
 have hF := hK2.free
 have hY := hK2.cell
 clear hK g0 hb2
 go_wp2
 have hQ := (wU hK2 ⟨0, 0, 0, [], 0, 0⟩ none 0).cell
 have g3 := yz g2 (b := w.heap.size + 1) (by omega) ⟨0, 0, 0, [], 0, 0⟩ none 0
 simp only [List.length_nil] at hQ g3
 exact bodyPost_ret (v := .tuple #[Yh, .bool false]) (by simp [results, Tryz.results104, go_sem, hQ]) rfl ⟨rfl, g3⟩
theorem fJ (K : Kn) (A : Option Addr) (cap : Nat) (d : Bs) (w : World) (hk : K.ok) (hs : Sl w A K.ps.length cap 2 (psV K.ps)) (hf : fits K.o K.l K.m d) :
  Calls Tryz.prog 105 #[knV K A cap, .string ⟨d.toArray⟩] w (jI (K.learn d) w) := by
 have hd : decide (fits K.o K.l K.m d) = true := decide_eq_true hf
 have hdl : d.length ≤ 2000 := hf.2.1
 have cV : Hid (∀ wr, Below w.heap.size w wr → Calls Tryz.prog 133 #[knV K A cap] wr fun e w' => e = .returned (.bool true) ∧ Below wr.heap.size wr w') := fun wr h => sG K A cap wr hk (hs.below h)
 have cL : Hid (∀ wr, Below w.heap.size w wr → Calls Tryz.prog 134 #[knV K A cap, .string ⟨d.toArray⟩] wr (Om (K.learn d) wr)) := fun wr h => VJ K A cap d wr hk (hs.below h) (by omega) hf.2.2
 clear hs hf
 generalize K.learn d = K1 at *
 go_enter Tryz.func105, Tryz.ntmps105
 go_wp2_with fail
 have hK : Bk ((w.alloc (.cells (knC K A cap) 102)).alloc (.cells knZ 102)) w.heap.size 102 (knC K A cap) := tBk
 have hI : Bk ((w.alloc (.cells (knC K A cap) 102)).alloc (.cells knZ 102)) (w.heap.size + 1) 102 knZ := tBk
 have g0 : Below w.heap.size w ((w.alloc (.cells (knC K A cap) 102)).alloc (.cells knZ 102)) := zH
 generalize (w.alloc (.cells (knC K A cap) 102)).alloc (.cells knZ 102) = w0 at *
 refine (cV.out _ g0).mono ?_
 rintro e w2 ⟨rfl, hb2⟩
 have z0 := hI.lt
 have z2 := hb2.size
 have hK2 := hK.below hb2 (by omega)
 have hI2 := hI.below hb2 (by omega)
 have g2 := g0.trans (hb2.mono (by omega))
 have hX := hK2.cell
 clear hK hI g0 hb2
 go_wp2_with fail
 refine (pO _ _ _ _ _ (by omega)).mono ?_
 rintro e w3 ⟨rfl, hb3⟩
 have z3 := hb3.size
 have hK3 := hK2.below hb3 (by omega)
 have hI3 := hI2.below hb3 (by omega)
 have g3 := g2.trans (hb3.mono (by omega))
 clear hX
 have hX := hK3.cell
 clear hK2 hI2 g2 hb3
 go_wp2_with fail
 refine (cL.out _ g3).mono ?_
 rintro e w4 ⟨A4, c4, x4, rfl, o4, hb4⟩
 have z4 := hb4.size
 have hI4 := (hI3.below hb4 (by omega)).alloc (.cells (knC K1 A4 c4) 102)
 have hN4 := Bk.new w4 (knC K1 A4 c4) 102
 have o5 := o4.alloc (.cells (knC K1 A4 c4) 102)
 have g4 := (g3.trans (hb4.mono (by omega))).alloc (by omega) (.cells (knC K1 A4 c4) 102)
 clear hK3 hI3 g3 hb4 hX o4
 go_upto_region 4 with (fail)
 generalize w4.alloc (.cells (knC K1 A4 c4) 102) = W at *
 have hX4 := hN4.cell
 have hF := hI4.free
 have hY := hI4.cell
 go_wp2
 have hQ := (wU hI4 K1 A4 c4).cell
 have g5 := yz g4 (b := w.heap.size + 1) (by omega) K1 A4 c4
 have o6 := zF (B' := w.heap.size) (yI o5 (b := w.heap.size + 1) (by omega) K1 A4 c4) (by omega)
 exact bodyPost_ret (v := .tuple #[knV K1 A4 c4, .bool true]) (by simp [results, Tryz.results105, go_sem, hQ]) rfl ⟨A4, c4, rfl, o6, g5⟩
theorem aQ (K : Kn) (A : Option Addr) (cap : Nat) (d : Bs) (w : World) (hk : K.ok) (hs : Sl w A K.ps.length cap 2 (psV K.ps)) (hf : ¬ fits K.o K.l K.m d) (hdl : d.length ≤ 9223372036854775807) :
  Calls Tryz.prog 105 #[knV K A cap, .string ⟨d.toArray⟩] w fun e w' => e = .returned (.tuple #[Yh, .bool false]) ∧ Below w.heap.size w w' := by
 have hd : decide (fits K.o K.l K.m d) = false := decide_eq_false hf
 have cV : Hid (∀ wr, Below w.heap.size w wr → Calls Tryz.prog 133 #[knV K A cap] wr fun e w' => e = .returned (.bool true) ∧ Below wr.heap.size wr w') := fun wr h => sG K A cap wr hk (hs.below h)
 clear hs hf
 go_enter Tryz.func105, Tryz.ntmps105
 go_wp2_with fail
 have hK : Bk ((w.alloc (.cells (knC K A cap) 102)).alloc (.cells knZ 102)) w.heap.size 102 (knC K A cap) := tBk
 have hI : Bk ((w.alloc (.cells (knC K A cap) 102)).alloc (.cells knZ 102)) (w.heap.size + 1) 102 knZ := tBk
 have g0 : Below w.heap.size w ((w.alloc (.cells (knC K A cap) 102)).alloc (.cells knZ 102)) := zH
 generalize (w.alloc (.cells (knC K A cap) 102)).alloc (.cells knZ 102) = w0 at *
 refine (cV.out _ g0).mono ?_
 rintro e w2 ⟨rfl, hb2⟩
 have z0 := hI.lt
 have z2 := hb2.size
 have hK2 := hK.below hb2 (by omega)
 have hI2 := hI.below hb2 (by omega)
 have g2 := g0.trans (hb2.mono (by omega))
 have hX := hK2.cell
 clear hK hI g0 hb2
 go_wp2_with fail
 refine (pO _ _ _ _ _ hdl).mono ?_
 rintro e w3 ⟨rfl, hb3⟩
 have z3 := hb3.size
 have hI3 := hI2.below hb3 (by omega)
 have g3 := g2.trans (hb3.mono (by omega))
 have hF := hI3.free
 have hY := hI3.cell
 clear hX hK2 hI2 g2 hb3
 go_wp2
 have hQ := (wU hI3 ⟨0, 0, 0, [], 0, 0⟩ none 0).cell
 have g4 := yz g3 (b := w.heap.size + 1) (by omega) ⟨0, 0, 0, [], 0, 0⟩ none 0
 simp only [List.length_nil] at hQ g4
 exact bodyPost_ret (v := .tuple #[Yh, .bool false]) (by simp [results, Tryz.results105, go_sem, hQ]) rfl ⟨rfl, g4⟩
theorem az (o l m : Int) (d : Bs) (w : World) (hf : fits o l m d) :
  Calls Tryz.prog 74 #[.agg #[.int .i64 o, .int .i64 l, .int .i64 m], .string ⟨d.toArray⟩] w (jI (zI o l m d) w) := by
 have cS : Hid (∀ w, Calls Tryz.prog 104 #[.agg #[.int .i64 o, .int .i64 l, .int .i64 m]] w fun e w' => e = .returned (.tuple #[.agg #[.int .i64 o, .int .i64 l, .int .i64 m, .slice none 0 0, .int .i64 0, .int .i64 (-1)], .bool true]) ∧ Below w.heap.size w w') := fun w => au o l m w hf.1
 have cL : Hid (∀ w, Calls Tryz.prog 105 #[.agg #[.int .i64 o, .int .i64 l, .int .i64 m, .slice none 0 0, .int .i64 0, .int .i64 (-1)], .string ⟨d.toArray⟩] w (jI (zI o l m d) w)) := fun w => fJ (ve o l m) none 0 d w (nT hf.1) (Sl.nil _ _) hf
 clear hf
 generalize zI o l m d = K1 at *
 go_enter Tryz.func74, Tryz.ntmps74
 go_wp2_with fail
 have hJ : Bk ((w.alloc (.cells #[.int .i64 o, .int .i64 l, .int .i64 m] 24)).alloc (.cells knZ 102)) w.heap.size 24 #[.int .i64 o, .int .i64 l, .int .i64 m] := tBk
 have hI : Bk ((w.alloc (.cells #[.int .i64 o, .int .i64 l, .int .i64 m] 24)).alloc (.cells knZ 102)) (w.heap.size + 1) 102 knZ := tBk
 have g0 : Below w.heap.size w ((w.alloc (.cells #[.int .i64 o, .int .i64 l, .int .i64 m] 24)).alloc (.cells knZ 102)) := zH
 generalize (w.alloc (.cells #[.int .i64 o, .int .i64 l, .int .i64 m] 24)).alloc (.cells knZ 102) = w0 at *
 refine (cS.out _).mono ?_
 rintro e w2 ⟨rfl, hb2⟩
 have z0 := hI.lt
 have z2 := hb2.size
 have hI2 := (hI.below hb2 (by omega)).alloc (.cells #[.int .i64 o, .int .i64 l, .int .i64 m, .slice none 0 0, .int .i64 0, .int .i64 (-1)] 102)
 have hK2 := Bk.new w2 #[.int .i64 o, .int .i64 l, .int .i64 m, .slice none 0 0, .int .i64 0, .int .i64 (-1)] 102
 have g2 := (g0.trans (hb2.mono (by omega))).alloc (by omega) (.cells #[.int .i64 o, .int .i64 l, .int .i64 m, .slice none 0 0, .int .i64 0, .int .i64 (-1)] 102)
 have hX := hK2.cell
 have hF := hK2.free
 clear hJ hI g0 hb2
 go_wp2_with fail
 refine (cL.out _).mono ?_
 rintro e w4 ⟨A4, c4, rfl, o4, hb4⟩
 have z4 := hb4.size
 simp only [World.size_alloc] at z4
 have hI4 := hI2.below hb4 (by simp; omega)
 have g4 := g2.trans (hb4.mono (by simp; omega))
 clear hX hF
 have hF := hI4.free
 have hY := hI4.cell
 clear hK2 hI2 g2 hb4
 go_wp2
 have hQ := (wU hI4 K1 A4 c4).cell
 have g5 := yz g4 (b := w.heap.size + 1) (by omega) K1 A4 c4
 have o5 := zF (B' := w.heap.size) (yI o4 (b := w.heap.size + 1) (by simp; omega) K1 A4 c4) (by simp; omega)
 exact bodyPost_ret (v := .tuple #[knV K1 A4 c4, .bool true]) (by simp [results, Tryz.results74, go_sem, hQ]) rfl ⟨A4, c4, rfl, o5, g5⟩
theorem Zj (o l m : Int) (d : Bs) (w : World) (hf : ¬ fits o l m d) (hdl : d.length ≤ 9223372036854775807) :
  Calls Tryz.prog 74 #[.agg #[.int .i64 o, .int .i64 l, .int .i64 m], .string ⟨d.toArray⟩] w fun e w' => e = .returned (.tuple #[Yh, .bool false]) ∧ Below w.heap.size w w' := by
 by_cases hst : xH o l m
 ·have cS : Hid (∀ w, Calls Tryz.prog 104 #[.agg #[.int .i64 o, .int .i64 l, .int .i64 m]] w fun e w' => e = .returned (.tuple #[.agg #[.int .i64 o, .int .i64 l, .int .i64 m, .slice none 0 0, .int .i64 0, .int .i64 (-1)], .bool true]) ∧ Below w.heap.size w w') := fun w => au o l m w hst
  have cL : Hid (∀ w, Calls Tryz.prog 105 #[.agg #[.int .i64 o, .int .i64 l, .int .i64 m, .slice none 0 0, .int .i64 0, .int .i64 (-1)], .string ⟨d.toArray⟩] w fun e w' => e = .returned (.tuple #[Yh, .bool false]) ∧ Below w.heap.size w w') := fun w => aQ (ve o l m) none 0 d w (nT hst) (Sl.nil _ _) hf hdl
  clear hf hst
  go_enter Tryz.func74, Tryz.ntmps74
  go_wp2_with fail
  have hJ : Bk ((w.alloc (.cells #[.int .i64 o, .int .i64 l, .int .i64 m] 24)).alloc (.cells knZ 102)) w.heap.size 24 #[.int .i64 o, .int .i64 l, .int .i64 m] := tBk
  have hI : Bk ((w.alloc (.cells #[.int .i64 o, .int .i64 l, .int .i64 m] 24)).alloc (.cells knZ 102)) (w.heap.size + 1) 102 knZ := tBk
  have g0 : Below w.heap.size w ((w.alloc (.cells #[.int .i64 o, .int .i64 l, .int .i64 m] 24)).alloc (.cells knZ 102)) := zH
  generalize (w.alloc (.cells #[.int .i64 o, .int .i64 l, .int .i64 m] 24)).alloc (.cells knZ 102) = w0 at *
  refine (cS.out _).mono ?_
  rintro e w2 ⟨rfl, hb2⟩
  have z0 := hI.lt
  have z2 := hb2.size
  have hI2 := (hI.below hb2 (by omega)).alloc (.cells #[.int .i64 o, .int .i64 l, .int .i64 m, .slice none 0 0, .int .i64 0, .int .i64 (-1)] 102)
  have hK2 := Bk.new w2 #[.int .i64 o, .int .i64 l, .int .i64 m, .slice none 0 0, .int .i64 0, .int .i64 (-1)] 102
  have g2 := (g0.trans (hb2.mono (by omega))).alloc (by omega) (.cells #[.int .i64 o, .int .i64 l, .int .i64 m, .slice none 0 0, .int .i64 0, .int .i64 (-1)] 102)
  have hX := hK2.cell
  have hF := hK2.free
  clear hJ hI g0 hb2
  go_wp2_with fail
  refine (cL.out _).mono ?_
  rintro e w4 ⟨rfl, hb4⟩
  have z4 := hb4.size
  simp only [World.size_alloc] at z4
  have hI4 := hI2.below hb4 (by simp; omega)
  have g4 := g2.trans (hb4.mono (by simp; omega))
  clear hX hF
  have hF := hI4.free
  have hY := hI4.cell
  clear hK2 hI2 g2 hb4
  go_wp2
  have hQ := (wU hI4 ⟨0, 0, 0, [], 0, 0⟩ none 0).cell
  have g5 := yz g4 (b := w.heap.size + 1) (by omega) ⟨0, 0, 0, [], 0, 0⟩ none 0
  simp only [List.length_nil] at hQ g5
  exact bodyPost_ret (v := .tuple #[Yh, .bool false]) (by simp [results, Tryz.results74, go_sem, hQ]) rfl ⟨rfl, g5⟩
 ·have cS : Hid (∀ w, Calls Tryz.prog 104 #[.agg #[.int .i64 o, .int .i64 l, .int .i64 m]] w fun e w' => e = .returned (.tuple #[Yh, .bool false]) ∧ Below w.heap.size w w') := fun w => Tn o l m w hst
  clear hf hst
  go_enter Tryz.func74, Tryz.ntmps74
  go_wp2_with fail
  have hI : Bk ((w.alloc (.cells #[.int .i64 o, .int .i64 l, .int .i64 m] 24)).alloc (.cells knZ 102)) (w.heap.size + 1) 102 knZ := tBk
  have g0 : Below w.heap.size w ((w.alloc (.cells #[.int .i64 o, .int .i64 l, .int .i64 m] 24)).alloc (.cells knZ 102)) := zH
  generalize (w.alloc (.cells #[.int .i64 o, .int .i64 l, .int .i64 m] 24)).alloc (.cells knZ 102) = w0 at *
  refine (cS.out _).mono ?_
  rintro e w2 ⟨rfl, hb2⟩
  have z0 := hI.lt
  have z2 := hb2.size
  have hI2 := (hI.below hb2 (by omega)).alloc (.cells knZ 102)
  have g2 := (g0.trans (hb2.mono (by omega))).alloc (by omega) (.cells knZ 102)
  clear hI g0 hb2
  go_upto_region 3 with (fail)
  generalize w2.alloc (.cells knZ 102) = W at *
  have hF := hI2.free
  have hY := hI2.cell
  go_wp2
  have hQ := (wU hI2 ⟨0, 0, 0, [], 0, 0⟩ none 0).cell
  have g5 := yz g2 (b := w.heap.size + 1) (by omega) ⟨0, 0, 0, [], 0, 0⟩ none 0
  simp only [List.length_nil] at hQ g5
  exact bodyPost_ret (v := .tuple #[Yh, .bool false]) (by simp [results, Tryz.results74, go_sem, hQ]) rfl ⟨rfl, g5⟩
end Go.Proofs.YtinncdollpajkaaGreat
