/- Walks: the word of a code that can follow; the longest word; the least code with a word. -/
import Derived.Test.YtgcjfddkgbigoaaS3
namespace Go.Proofs.Ytgcjfddkgbigoaa
open Go.RowKit
set_option linter.unusedSimpArgs false
set_option linter.unusedVariables false
attribute [local go_sem high] run_index_S binOp_eql_S binOp_neq_S append_S toList_S size_S run_slice_S run_slice_from_S run_slice_to_S wrap64_byteAt wrap64_byteAt_mul bits_or_bytes convU conv1_some convU2 conv2_some
theorem headI_eq (l : Bs) : headI l = byteAt l 0 := by
  unfold headI byteAt
  cases l <;> rfl
set_option maxRecDepth 100000 in
theorem l2Any_any (K : Kn) (A : Option Addr) (cap : Nat) (c : Int) (w : World) (hk : K.ok) (hs : Sl w A K.ps.length cap 2 (psV K.ps)) (hc : K.fol c = true) :
    Calls Try.prog 137 #[knV K A cap, .int .i64 c] w fun e w' => e = .returned (.string ⟨(K.any c).toArray⟩) ∧ Below w.heap.size w w' := by
  have hc' := hc
  unfold Kn.fol at hc'
  simp only [decide_eq_true_eq] at hc'
  go_enter Try.func137, Try.ntmps137
  go_wp2_with fail
  refine (l2Next_any _ _ _ _ hk).mono ?_
  rintro e w1 ⟨rfl, hb1⟩
  have hz1 := hb1.size
  simp only [World.size_alloc] at hz1
  have X0_1 := box_keep (box_new _ _ _) hb1 (by simp)
  have L0_1 : w.heap.size < w1.heap.size := by omega
  have g1 : Below w.heap.size w w1 := ((Below.refl _ _).alloc (Nat.le_refl _) _).trans (hb1.mono (by simp))
  clear hb1
  by_cases he : c = K.nx
  · have hg : K.gr = true := by
      rcases hc' with h | ⟨h, _⟩
      · exfalso; unfold codeOk at h; unfold Kn.nx at he; unfold Kn.cl at h; omega
      · exact h
    have hl := K.gr_last hk hg
    have hlen := wAt_len hk.pairs _ _ (Nat.le_refl _) hl
    have hbd := hk.bd
    have hX : K.any c = K.word K.last ++ (K.word K.last).take 1 := by unfold Kn.any; rw [if_pos he]
    have HX := Go.Lib.hid hX
    have hd : (c == K.nx) = true := by simpa using he
    clear hX he hc'
    have hw1 : 1 ≤ (K.word K.last).length := hlen.1
    have hw2 : (K.word K.last).length ≤ 2000 := by have := hlen.2; unfold Kn.word; omega
    have hw3 : ((K.word K.last).take 1).length ≤ 1 := by simp; omega
    go_wp2_with fail
    refine (l2Word_any K A cap K.last _ hk (hs.below g1) hl).mono ?_
    rintro e w2 ⟨rfl, hb2⟩
    have hz2 := hb2.size
    have X0_2 := box_keep X0_1 hb2 L0_1
    have L0_2 : w.heap.size < w2.heap.size := by omega
    have g2 : Below w.heap.size w w2 := g1.trans (hb2.mono (by omega))
    clear hb2 X0_1 L0_1 g1
    generalize K.word K.last = W at *
    go_wp2
    go_ret
    exact ⟨ret_S (by rw [HX.out, ByteArray.extract_mk]; simp), g2⟩
  · have hcc : codeOk K.cl K.ps.length c := by
      rcases hc' with h | ⟨_, h⟩
      · exact h
      · exact absurd h he
    have HX : Go.RowKit.Hid (K.any c = K.word c) := by show _ = _; unfold Kn.any; rw [if_neg he]
    have hd : (c == K.nx) = false := by simpa using he
    clear he hc'
    go_wp2_with fail
    refine (l2Word_any K A cap c _ hk (hs.below g1) hcc).mono ?_
    rintro e w2 ⟨rfl, hb2⟩
    have hz2 := hb2.size
    have X0_2 := box_keep X0_1 hb2 L0_1
    have L0_2 : w.heap.size < w2.heap.size := by omega
    have g2 : Below w.heap.size w w2 := g1.trans (hb2.mono (by omega))
    clear hb2 X0_1 L0_1 g1
    go_wp2
    go_ret
    exact ⟨ret_S HX.out.symm, g2⟩
theorem cands_get (K : Kn) (i : Nat) (h : i < K.cands.length) : K.cands[i] = K.any (K.cl + 2 + i) := by simp [Kn.cands]
theorem better_take (K : Kn) (data : Bs) (i : Nat) (h : i < K.cands.length) (b : Bs) : (K.cands.take (i + 1)).foldl (better data) b = better data ((K.cands.take i).foldl (better data) b) (K.any (K.cl + 2 + i)) := by
  rw [List.take_succ_eq_append_getElem h, List.foldl_append, cands_get K i h]; rfl
theorem better_yes {data b x : Bs} (h1 : b.length < x.length) (h2 : data.take x.length = x) : better data b x = x := by
  unfold better
  rw [if_pos ⟨h1, List.isPrefixOf_iff_prefix.2 (List.prefix_iff_eq_take.2 h2.symm)⟩]
theorem better_no1 {data b x : Bs} (h1 : ¬ b.length < x.length) : better data b x = b := by
  unfold better
  rw [if_neg (fun h => h1 h.1)]
theorem better_no2 {data b x : Bs} (h2 : ¬ data.take x.length = x) : better data b x = b := by
  unfold better
  rw [if_neg (fun h => h2 (List.prefix_iff_eq_take.1 (List.isPrefixOf_iff_prefix.1 h.2)).symm)]
theorem better_len (data : Bs) (ws : List Bs) (b : Bs) (hb : b.length ≤ data.length) : (ws.foldl (better data) b).length ≤ data.length := by
  rcases better_of data ws b with h | ⟨_, _, h⟩
  · rw [h]; exact hb
  · exact (List.isPrefixOf_iff_prefix.1 h).length_le
set_option maxRecDepth 100000 in
set_option maxHeartbeats 2000000 in
theorem l2Longest_any (K : Kn) (A : Option Addr) (cap : Nat) (d : Bs) (w : World) (hk : K.ok) (hs : Sl w A K.ps.length cap 2 (psV K.ps)) (hd : d ≠ []) (hl : d.length ≤ 100000) :
    Calls Try.prog 128 #[knV K A cap, .string ⟨d.toArray⟩] w fun e w' => e = .returned (.string ⟨(K.longest d).toArray⟩) ∧ Below w.heap.size w w' := by
  have hd1 : 1 ≤ d.length := by cases d <;> simp at hd ⊢
  clear hd
  have hbd := hk.bd
  have hgr := K.great_bd hk
  have hp := hk.lm
  obtain ⟨hp1, hp2, hp3, hp4⟩ := hp
  have hpp := pow2_bd K.l hp1 hp2
  obtain ⟨hpp1, hpp2⟩ := hpp
  have HC := Go.Lib.hid (K.cands_length)
  have HCL : Go.RowKit.Hid (K.cl = pow2 K.l) := rfl
  go_enter Try.func128, Try.ntmps128
  go_wp2_with fail
  refine (l1End_any _ _ _ _ hp1 hp2).mono ?_
  rintro e w1 ⟨rfl, hb1⟩
  have hz1 := hb1.size
  simp only [World.size_alloc] at hz1
  have X0_1 := box_keep (box_new _ _ _) hb1 (by simp)
  have L0_1 : w.heap.size < w1.heap.size := by omega
  have g1 : Below w.heap.size w w1 := ((Below.refl _ _).alloc (Nat.le_refl _) _).trans (hb1.mono (by simp))
  clear hb1
  go_wp2
  go_loopw [5, 6] (fun b x wr => ∃ i : Nat, i ≤ K.cands.length ∧ b = .string ⟨((K.cands.take i).foldl (better d) (d.take 1)).toArray⟩ ∧ x = .int .i64 (pow2 K.l + 2 + i) ∧ Below w.heap.size w wr ∧ w.heap.size < wr.heap.size ∧ ∀ i, wr.cell? ⟨w.heap.size, i, none⟩ = (knC K A cap)[i]?) (fun _ x _ => K.cands.length + 70000 - (intOf x).toNat)
  case atStart => exact ⟨0, by omega, by rw [ByteArray.extract_mk]; simp, by go_num, g1, L0_1, X0_1⟩
  case round =>
    obtain ⟨i, hi, rfl, rfl, hb, hz, hX⟩ := hrel
    have hi2 : i ≤ 5000 := by have := HC.out; omega
    go_wp2_with fail
    refine (l2Greatest_any _ _ _ _ hk).mono ?_
    rintro e w2 ⟨rfl, hb2⟩
    have hy2 := hb2.size
    have hX2 := box_keep hX hb2 hz
    have g2 := hb.trans (hb2.mono (by omega))
    clear hb2 hX hb
    by_cases hlt : i < K.cands.length
    · have hle : pow2 K.l + 2 + (i : Int) ≤ K.great := by have := HC.out; have := HCL.out; omega
      have hfol := K.cands_fol i hlt
      rw [HCL.out] at hfol
      have hal := K.any_len hk hfol
      have HB := Go.Lib.hid (better_take K d i hlt (d.take 1))
      rw [HCL.out] at HB
      have hbl := better_len d (K.cands.take i) (d.take 1) (by simp; omega)
      have c := fun w hs => l2Any_any K A cap (pow2 K.l + 2 + i) w hk hs hfol
      generalize K.any (pow2 K.l + 2 + i) = x at *
      generalize (K.cands.take i).foldl (better d) (d.take 1) = b at *
      have C := Go.Lib.hid c
      clear c
      go_wp2_with fail
      refine (C.out _ (hs.below g2)).mono ?_
      rintro e w3 ⟨rfl, hb3⟩
      have hy3 := hb3.size
      have hX3 := box_keep hX2 hb3 (by omega)
      have g3 := g2.trans (hb3.mono (by omega))
      clear hb3 hX2 g2
      obtain ⟨hal1, hal2⟩ := hal
      by_cases h1 : b.length < x.length
      · by_cases h2 : x.length ≤ d.length
        · by_cases h3 : d.take x.length = x
          · have HE := Go.Lib.hid (better_yes h1 h3)
            have hd3 : decide (d.take x.length = x) = true := by simpa using h3
            clear h3
            have h1' : (b.length : Int) < x.length := by omega
            have h2' : (x.length : Int) ≤ d.length := by omega
            go_wp2
            go_roundw
            case rel => exact ⟨i + 1, by omega, by rw [HB.out, HE.out], by go_num, g3, by omega, hX3⟩
            case measure => simp [intOf]; omega
          · have HE := Go.Lib.hid (better_no2 (b := b) h3)
            have hd3 : decide (d.take x.length = x) = false := by simpa using h3
            clear h3
            have h1' : (b.length : Int) < x.length := by omega
            have h2' : (x.length : Int) ≤ d.length := by omega
            go_wp2
            go_roundw
            case rel => exact ⟨i + 1, by omega, by rw [HB.out, HE.out], by go_num, g3, by omega, hX3⟩
            case measure => simp [intOf]; omega
        · have HE : Go.RowKit.Hid (better d b x = b) := better_no2 (fun h => by have := congrArg List.length h; simp at this; omega)
          go_wp2
          go_roundw
          case rel => exact ⟨i + 1, by omega, by rw [HB.out, HE.out], by go_num, g3, by omega, hX3⟩
          case measure => simp [intOf]; omega
      · have HE : Go.RowKit.Hid (better d b x = b) := better_no1 h1
        go_wp2
        go_roundw
        case rel => exact ⟨i + 1, by omega, by rw [HB.out, HE.out], by go_num, g3, by omega, hX3⟩
        case measure => simp [intOf]; omega
    · have hgt : ¬ pow2 K.l + 2 + (i : Int) ≤ K.great := by have := HC.out; have := HCL.out; omega
      have HT : Go.RowKit.Hid (K.cands.take i = K.cands) := List.take_of_length_le (by omega)
      go_wp2
      go_ret
      exact ⟨ret_S (by rw [HT.out]; rfl), g2⟩
end Go.Proofs.Ytgcjfddkgbigoaa
