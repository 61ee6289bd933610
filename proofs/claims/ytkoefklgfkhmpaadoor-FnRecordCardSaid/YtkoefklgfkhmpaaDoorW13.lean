/- Walks: numbers read from their texts. -/
import Derived.Test.YtkoefklgfkhmpaaDoorW9
import Derived.Test.YtkoefklgfkhmpaaDoorW4
namespace Go.Proofs.YtkoefklgfkhmpaaDoor
open Go.RowKit
set_option linter.unusedVariables false
set_option maxRecDepth 100000
attribute [local go_sem high] run_index_S binOp_eql_S binOp_neq_S append_S toList_S size_S run_slice_S run_slice_from_S run_slice_to_S wrap64_byteAt wrap64_byteAt_mul bits_or_bytes convU conv1_some convU2 conv2_some
def numRes (o : Option Int) : Ending := .returned (.tuple #[.int .i64 (o.getD 0), .bool o.isSome])
theorem decFrom_take1 (r : Bs) (k n : Nat) (h : k < r.length) (hn : Lib.decFrom 0 (r.take k) = some n) (h1 : 48 ≤ byteAt r k) (h2 : byteAt r k ≤ 57) : Lib.decFrom 0 (r.take (k + 1)) = some (n * 10 + (byteAt r k - 48).toNat) := by
  rw [List.take_succ_eq_append_getElem h, decFrom_snoc, hn]
  rw [byteAt_nat r k h] at h1 h2 ⊢
  have : Lib.digitVal r[k] = some (r[k].toNat - 48) := by unfold Lib.digitVal; rw [if_pos (by omega)]
  rw [this]
  simp
  omega
theorem decFrom_bad : ∀ (r : Bs) (k acc : Nat), k < r.length → (byteAt r k < 48 ∨ 57 < byteAt r k) → Lib.decFrom acc r = none
  | [], k, acc, h, _ => by simp at h
  | c :: r, 0, acc, _, hb => by
    have : Lib.digitVal c = none := by
      unfold Lib.digitVal
      have : byteAt (c :: r) ((0 : Nat) : Int) = (c.toNat : Int) := by simp [byteAt]
      rw [this] at hb
      rw [if_neg (by omega)]
    unfold Lib.decFrom
    rw [this]
  | c :: r, k + 1, acc, h, hb => by
    have e : byteAt (c :: r) ((k + 1 : Nat) : Int) = byteAt r (k : Int) := by simp [byteAt]
    rw [e] at hb
    unfold Lib.decFrom
    cases Lib.digitVal c with
    | none => rfl
    | some d => exact decFrom_bad r k _ (by simpa using h) hb
theorem ten_pow : ∀ k, k ≤ 17 → 10 ^ k ≤ 100000000000000000 := by
  intro k hk
  have : (10 : Nat) ^ k ≤ 10 ^ 17 := Nat.pow_le_pow_right (by omega) hk
  omega
set_option maxHeartbeats 2000000 in
theorem l9Num_true (r : Bs) (w : World) (hl : r.length ≤ 4000000) :
    Calls Tryd.prog 39 #[.string ⟨(45 :: r : Bs).toArray⟩] w fun e w' => e = numRes (numR true r) ∧ w = w' := by
  have hb : byteAt (45 :: r) 0 = 45 := rfl
  have hb2 : (byteAt (45 :: r) 0 == 45) = true := rfl
  have hx : (⟨(45 :: r : Bs).toArray⟩ : ByteArray).extract 1 (r.length + 1) = ⟨r.toArray⟩ := by
    rw [ByteArray.extract_mk]; simp
  by_cases h0 : r.length = 0
  · have HR : Go.RowKit.Hid (numRes (numR true r) = .returned (.tuple #[.int .i64 0, .bool false])) := by
      show _ = _; unfold numR; rw [if_pos (.inl h0)]; rfl
    have h0' : ((r.length : Int) == 0) = true := by simp; exact List.eq_nil_of_length_eq_zero h0
    go_enter Tryd.func39, Tryd.ntmps39
    go_wp2
    exact bodyPost_ret (v := .tuple #[.int .i64 0, .bool false]) (by simp [results, Tryd.results39, go_sem]) rfl ⟨HR.out.symm, rfl⟩
  by_cases h17 : 17 < r.length
  · have HR : Go.RowKit.Hid (numRes (numR true r) = .returned (.tuple #[.int .i64 0, .bool false])) := by
      show _ = _; unfold numR; rw [if_pos (.inr (.inl h17))]; rfl
    have h0' : ((r.length : Int) == 0) = false := by rw [beq_eq_false_iff_ne]; omega
    have h17' : (17 : Int) < r.length := by omega
    go_enter Tryd.func39, Tryd.ntmps39
    go_wp2
    exact bodyPost_ret (v := .tuple #[.int .i64 0, .bool false]) (by simp [results, Tryd.results39, go_sem]) rfl ⟨HR.out.symm, rfl⟩
  have h0' : ((r.length : Int) == 0) = false := by rw [beq_eq_false_iff_ne]; omega
  have h17' : (r.length : Int) ≤ 17 := by omega
  have hpos : (0 : Int) < r.length := by omega
  by_cases hz : byteAt r 0 = 48 ∧ (1 < r.length ∨ true = true)
  · have HR : Go.RowKit.Hid (numRes (numR true r) = .returned (.tuple #[.int .i64 0, .bool false])) := by
      show _ = _; unfold numR; rw [if_pos (.inr (.inr hz))]; rfl
    obtain ⟨hz1, hz2⟩ := hz
    have hz1' : (byteAt r 0 == 48) = true := by rw [hz1]; rfl
    clear hz1
    go_enter Tryd.func39, Tryd.ntmps39
    by_cases h1 : 1 < r.length
    · have h1' : (1 : Int) < r.length := by omega
      go_wp2
      exact bodyPost_ret (v := .tuple #[.int .i64 0, .bool false]) (by simp [results, Tryd.results39, go_sem]) rfl ⟨HR.out.symm, rfl⟩
    · go_wp2
      exact bodyPost_ret (v := .tuple #[.int .i64 0, .bool false]) (by simp [results, Tryd.results39, go_sem]) rfl ⟨HR.out.symm, rfl⟩
  have HG : Go.RowKit.Hid (numR true r = (Lib.decFrom 0 r).map fun n => if true = true then -(n : Int) else n) := by
    show _ = _; unfold numR; rw [if_neg]
    rintro (h | h | h)
    · exact h0 h
    · exact h17 h
    · exact hz h
  have h48' : (byteAt r 0 == 48) = false := by
    rw [beq_eq_false_iff_ne]; exact fun e => hz ⟨e, .inr rfl⟩
  clear hz
  go_enter Tryd.func39, Tryd.ntmps39
  go_wp2
  go_loop [5, 6] (fun a b => ∃ k n : Nat, k ≤ r.length ∧ b = .int .i64 k ∧ a = .int .i64 n ∧ n < 10 ^ k ∧ Go.RowKit.Hid (Lib.decFrom 0 (r.take k) = some n)) (fun _ b => r.length - (intOf b).toNat)
  case atStart => exact ⟨0, 0, by omega, rfl, rfl, by decide, by show _ = _; simp [Lib.decFrom]⟩
  case round =>
    obtain ⟨k, n, hk, rfl, rfl, hn, hd⟩ := hrel
    have hten := ten_pow k (by omega)
    by_cases hlt : k < r.length
    · have hb0 := byteAt_nonneg r k
      have hb1 := byteAt_le r k
      have ha : (k : Int) < r.length := by omega
      by_cases hdig : 48 ≤ byteAt r k ∧ byteAt r k ≤ 57
      · obtain ⟨hd1, hd2⟩ := hdig
        have HD := Go.Lib.hid (decFrom_take1 r k n hlt hd.out hd1 hd2)
        have hpk : (10 : Nat) ^ (k + 1) = 10 ^ k * 10 := Nat.pow_succ 10 k
        go_wp2
        go_round
        case rel => exact ⟨k + 1, n * 10 + (byteAt r k - 48).toNat, by omega, by go_num, by go_num, by omega, HD⟩
        case measure => simp [intOf]; omega
      · have HR : Go.RowKit.Hid (numRes (numR true r) = .returned (.tuple #[.int .i64 0, .bool false])) := by
          show _ = _
          rw [HG.out, decFrom_bad r k 0 hlt (by omega)]; rfl
        by_cases h48 : 48 ≤ byteAt r k
        · have h57 : 57 < byteAt r k := by omega
          go_wp2
          exact bodyPost_ret (v := .tuple #[.int .i64 0, .bool false]) (by simp [results, Tryd.results39, go_sem]) rfl ⟨HR.out.symm, rfl⟩
        · go_wp2
          exact bodyPost_ret (v := .tuple #[.int .i64 0, .bool false]) (by simp [results, Tryd.results39, go_sem]) rfl ⟨HR.out.symm, rfl⟩
    · have HR : Go.RowKit.Hid (numRes (numR true r) = .returned (.tuple #[.int .i64 (-(n : Int)), .bool true])) := by
        show _ = _
        have e : r.take k = r := List.take_of_length_le (by omega)
        have := hd.out
        rw [e] at this
        rw [HG.out, this]; rfl
      go_wp2
      exact bodyPost_ret (v := .tuple #[.int .i64 (-(n : Int)), .bool true]) (by simp [results, Tryd.results39, go_sem]) rfl ⟨HR.out.symm, rfl⟩
set_option maxHeartbeats 2000000 in
theorem l9Num_false (r : Bs) (w : World) (hl : r.length ≤ 4000000) (hne : ¬ (0 < r.length ∧ byteAt r 0 = 45)) :
    Calls Tryd.prog 39 #[.string ⟨(r : Bs).toArray⟩] w fun e w' => e = numRes (numR false r) ∧ w = w' := by
  have hb2 : 0 < r.length → (byteAt r 0 == 45) = false := fun h => by rw [beq_eq_false_iff_ne]; exact fun e => hne ⟨h, e⟩
  have hb1 : ¬ 0 < r.length → r = [] := fun h => List.eq_nil_of_length_eq_zero (by omega)
  clear hne
  by_cases h0 : r.length = 0
  · have HR : Go.RowKit.Hid (numRes (numR false r) = .returned (.tuple #[.int .i64 0, .bool false])) := by
      show _ = _; unfold numR; rw [if_pos (.inl h0)]; rfl
    have h0' := hb1 (by omega)
    subst h0'
    clear h0 hb1 hb2
    go_enter Tryd.func39, Tryd.ntmps39
    go_wp2
    exact bodyPost_ret (v := .tuple #[.int .i64 0, .bool false]) (by simp [results, Tryd.results39, go_sem]) rfl ⟨HR.out.symm, rfl⟩
  by_cases h17 : 17 < r.length
  · have HR : Go.RowKit.Hid (numRes (numR false r) = .returned (.tuple #[.int .i64 0, .bool false])) := by
      show _ = _; unfold numR; rw [if_pos (.inr (.inl h17))]; rfl
    have h0' : ((r.length : Int) == 0) = false := by rw [beq_eq_false_iff_ne]; omega
    have h17' : (17 : Int) < r.length := by omega
    have hb3 := hb2 (by omega)
    clear hb2
    go_enter Tryd.func39, Tryd.ntmps39
    go_wp2
    exact bodyPost_ret (v := .tuple #[.int .i64 0, .bool false]) (by simp [results, Tryd.results39, go_sem]) rfl ⟨HR.out.symm, rfl⟩
  have h0' : ((r.length : Int) == 0) = false := by rw [beq_eq_false_iff_ne]; omega
  have h17' : (r.length : Int) ≤ 17 := by omega
  have hpos : (0 : Int) < r.length := by omega
  have hb3 := hb2 (by omega)
  clear hb2 hb1
  by_cases hz : byteAt r 0 = 48 ∧ (1 < r.length ∨ false = true)
  · have HR : Go.RowKit.Hid (numRes (numR false r) = .returned (.tuple #[.int .i64 0, .bool false])) := by
      show _ = _; unfold numR; rw [if_pos (.inr (.inr hz))]; rfl
    obtain ⟨hz1, hz2⟩ := hz
    have hz1' : (byteAt r 0 == 48) = true := by rw [hz1]; rfl
    clear hz1
    have h1' : (1 : Int) < r.length := by
      rcases hz2 with h | h
      · omega
      · cases h
    go_enter Tryd.func39, Tryd.ntmps39
    go_wp2
    exact bodyPost_ret (v := .tuple #[.int .i64 0, .bool false]) (by simp [results, Tryd.results39, go_sem]) rfl ⟨HR.out.symm, rfl⟩
  have HG : Go.RowKit.Hid (numR false r = (Lib.decFrom 0 r).map fun n => if false = true then -(n : Int) else n) := by
    show _ = _; unfold numR; rw [if_neg]
    rintro (h | h | h)
    · exact h0 h
    · exact h17 h
    · exact hz h
  by_cases h48 : byteAt r 0 = 48
  · have h48' : (byteAt r 0 == 48) = true := by rw [h48]; rfl
    have h1' : (r.length : Int) ≤ 1 := by
      have := fun h => hz ⟨h48, .inl h⟩
      omega
    clear h48 hz
    go_enter Tryd.func39, Tryd.ntmps39
    go_wp2
    go_loop [5, 6] (fun a b => ∃ k n : Nat, k ≤ r.length ∧ b = .int .i64 k ∧ a = .int .i64 n ∧ n < 10 ^ k ∧ Go.RowKit.Hid (Lib.decFrom 0 (r.take k) = some n)) (fun _ b => r.length - (intOf b).toNat)
    case atStart => exact ⟨0, 0, by omega, rfl, rfl, by decide, by show _ = _; simp [Lib.decFrom]⟩
    case round =>
      obtain ⟨k, n, hk, rfl, rfl, hn, hd⟩ := hrel
      have hten := ten_pow k (by omega)
      by_cases hlt : k < r.length
      · have hb0 := byteAt_nonneg r k
        have hb1 := byteAt_le r k
        have ha : (k : Int) < r.length := by omega
        by_cases hdig : 48 ≤ byteAt r k ∧ byteAt r k ≤ 57
        · obtain ⟨hd1, hd2⟩ := hdig
          have HD := Go.Lib.hid (decFrom_take1 r k n hlt hd.out hd1 hd2)
          have hpk : (10 : Nat) ^ (k + 1) = 10 ^ k * 10 := Nat.pow_succ 10 k
          go_wp2
          go_round
          case rel => exact ⟨k + 1, n * 10 + (byteAt r k - 48).toNat, by omega, by go_num, by go_num, by omega, HD⟩
          case measure => simp [intOf]; omega
        · have HR : Go.RowKit.Hid (numRes (numR false r) = .returned (.tuple #[.int .i64 0, .bool false])) := by
            show _ = _
            rw [HG.out, decFrom_bad r k 0 hlt (by omega)]; rfl
          by_cases h48 : 48 ≤ byteAt r k
          · have h57 : 57 < byteAt r k := by omega
            go_wp2
            exact bodyPost_ret (v := .tuple #[.int .i64 0, .bool false]) (by simp [results, Tryd.results39, go_sem]) rfl ⟨HR.out.symm, rfl⟩
          · go_wp2
            exact bodyPost_ret (v := .tuple #[.int .i64 0, .bool false]) (by simp [results, Tryd.results39, go_sem]) rfl ⟨HR.out.symm, rfl⟩
      · have HR : Go.RowKit.Hid (numRes (numR false r) = .returned (.tuple #[.int .i64 ((n : Int)), .bool true])) := by
          show _ = _
          have e : r.take k = r := List.take_of_length_le (by omega)
          have := hd.out
          rw [e] at this
          rw [HG.out, this]; rfl
        go_wp2
        exact bodyPost_ret (v := .tuple #[.int .i64 ((n : Int)), .bool true]) (by simp [results, Tryd.results39, go_sem]) rfl ⟨HR.out.symm, rfl⟩
  · have h48' : (byteAt r 0 == 48) = false := by rw [beq_eq_false_iff_ne]; exact h48
    clear h48 hz
    go_enter Tryd.func39, Tryd.ntmps39
    go_wp2
    go_loop [5, 6] (fun a b => ∃ k n : Nat, k ≤ r.length ∧ b = .int .i64 k ∧ a = .int .i64 n ∧ n < 10 ^ k ∧ Go.RowKit.Hid (Lib.decFrom 0 (r.take k) = some n)) (fun _ b => r.length - (intOf b).toNat)
    case atStart => exact ⟨0, 0, by omega, rfl, rfl, by decide, by show _ = _; simp [Lib.decFrom]⟩
    case round =>
      obtain ⟨k, n, hk, rfl, rfl, hn, hd⟩ := hrel
      have hten := ten_pow k (by omega)
      by_cases hlt : k < r.length
      · have hb0 := byteAt_nonneg r k
        have hb1 := byteAt_le r k
        have ha : (k : Int) < r.length := by omega
        by_cases hdig : 48 ≤ byteAt r k ∧ byteAt r k ≤ 57
        · obtain ⟨hd1, hd2⟩ := hdig
          have HD := Go.Lib.hid (decFrom_take1 r k n hlt hd.out hd1 hd2)
          have hpk : (10 : Nat) ^ (k + 1) = 10 ^ k * 10 := Nat.pow_succ 10 k
          go_wp2
          go_round
          case rel => exact ⟨k + 1, n * 10 + (byteAt r k - 48).toNat, by omega, by go_num, by go_num, by omega, HD⟩
          case measure => simp [intOf]; omega
        · have HR : Go.RowKit.Hid (numRes (numR false r) = .returned (.tuple #[.int .i64 0, .bool false])) := by
            show _ = _
            rw [HG.out, decFrom_bad r k 0 hlt (by omega)]; rfl
          by_cases h48 : 48 ≤ byteAt r k
          · have h57 : 57 < byteAt r k := by omega
            go_wp2
            exact bodyPost_ret (v := .tuple #[.int .i64 0, .bool false]) (by simp [results, Tryd.results39, go_sem]) rfl ⟨HR.out.symm, rfl⟩
          · go_wp2
            exact bodyPost_ret (v := .tuple #[.int .i64 0, .bool false]) (by simp [results, Tryd.results39, go_sem]) rfl ⟨HR.out.symm, rfl⟩
      · have HR : Go.RowKit.Hid (numRes (numR false r) = .returned (.tuple #[.int .i64 ((n : Int)), .bool true])) := by
          show _ = _
          have e : r.take k = r := List.take_of_length_le (by omega)
          have := hd.out
          rw [e] at this
          rw [HG.out, this]; rfl
        go_wp2
        exact bodyPost_ret (v := .tuple #[.int .i64 ((n : Int)), .bool true]) (by simp [results, Tryd.results39, go_sem]) rfl ⟨HR.out.symm, rfl⟩
theorem l9Num_any (l : Bs) (w : World) (hl : l.length ≤ 4000000) :
    Calls Tryd.prog 39 #[.string ⟨l.toArray⟩] w fun e w' => e = numRes (numL l) ∧ w = w' := by
  unfold numL
  by_cases hneg : 0 < l.length ∧ byteAt l 0 = 45
  · rw [if_pos hneg]
    cases l with
    | nil => simp at hneg
    | cons c r =>
      have hc : c = 45 := by
        have := hneg.2
        unfold byteAt at this
        simp at this
        exact UInt8.toNat_inj.1 (by show c.toNat = 45; omega)
      subst hc
      exact l9Num_true r w (by simp at hl; omega)
  · rw [if_neg hneg]
    exact l9Num_false l w hl hneg
end Go.Proofs.YtkoefklgfkhmpaaDoor
