/- Walks: bits and bytes of the reference. -/
import Derived.Test.YtgcjfddkgbigoaaSl
import Derived.Test.YtgcjfddkgbigoaaZ
import Derived.Test.YtgcjfddkgbigoaaW2
namespace Go.Proofs.Ytgcjfddkgbigoaa
open Go.RowKit
set_option linter.unusedVariables false
attribute [local go_sem high] run_index_S binOp_eql_S binOp_neq_S append_S toList_S size_S run_slice_S run_slice_from_S run_slice_to_S wrap64_byteAt wrap64_byteAt_mul bits_or_bytes convU conv1_some convU2 conv2_some
theorem l1End_any (o l m : Int) (w : World) (h0 : 0 ≤ l) (h1 : l ≤ 16) :
    Calls Try.prog 122 #[.agg #[.int .i64 o, .int .i64 l, .int .i64 m]] w fun e w' => e = .returned (.int .i64 (pow2 l + 1)) ∧ Below w.heap.size w w' := by
  have hp := pow2_bd l h0 h1
  obtain ⟨hp0, hp1⟩ := hp
  go_enter Try.func122, Try.ntmps122
  go_wp2_with (go_at_call 109; refine (l1Two_any _ _ h0 h1).mono ?_; rintro e w' ⟨rfl, rfl⟩)
  go_ret
  exact ⟨rfl, (by repeat (first | (with_reducible exact Below.refl _ _) | (with_reducible assumption) | (with_reducible refine Below.drew ?_) | (with_reducible refine Below.alloc ?_ (by first | omega | (simp <;> omega)) _) | (with_reducible refine Below.setCell ?_ (by first | omega | (simp <;> omega)) _) | (with_reducible refine belowN ?_ _)))⟩
theorem l1Last_any (o l m : Int) (w : World) (h0 : 0 ≤ m) (h1 : m ≤ 16) :
    Calls Try.prog 121 #[.agg #[.int .i64 o, .int .i64 l, .int .i64 m]] w fun e w' => e = .returned (.int .i64 (pow2 m - 1)) ∧ Below w.heap.size w w' := by
  have hp := pow2_bd m h0 h1
  obtain ⟨hp0, hp1⟩ := hp
  go_enter Try.func121, Try.ntmps121
  go_wp2_with (go_at_call 109; refine (l1Two_any _ _ h0 h1).mono ?_; rintro e w' ⟨rfl, rfl⟩)
  go_ret
  exact ⟨rfl, (by repeat (first | (with_reducible exact Below.refl _ _) | (with_reducible assumption) | (with_reducible refine Below.drew ?_) | (with_reducible refine Below.alloc ?_ (by first | omega | (simp <;> omega)) _) | (with_reducible refine Below.setCell ?_ (by first | omega | (simp <;> omega)) _) | (with_reducible refine belowN ?_ _)))⟩
theorem l1Needed_any (n : Nat) (w : World) (hn : n ≤ 1000000) :
    Calls Try.prog 143 #[.int .i64 n] w fun e w' => e = .returned (.int .i64 (needed n)) ∧ w = w' := by
  have h0 := needed_bd 19 n (by omega)
  obtain ⟨h00, h01⟩ := h0
  go_enter Try.func143, Try.ntmps143
  go_wp2
  go_loop [0, 3] (fun a b => ∃ u k : Nat, u ≤ n ∧ a = .int .i64 u ∧ b = .int .i64 k ∧ k + needed u = needed n + 1) (fun a _ => (intOf a).toNat)
  case atStart => exact ⟨n, 1, Nat.le_refl _, rfl, rfl, by omega⟩
  case round =>
    obtain ⟨u, k, hu, rfl, rfl, hs⟩ := hrel
    have hk : k ≤ 100 := by omega
    have HS := Go.Lib.hid hs
    clear hs
    by_cases h1 : 1 < u
    · have HN := Go.Lib.hid (needed_step u h1)
      go_wp2
      go_round
      case rel => exact ⟨u / 2, k + 1, by omega, by go_num, by go_num, by have := HS.out; have := HN.out; omega⟩
      case measure => simp [intOf]; omega
    · have HN := Go.Lib.hid (needed_one u (by omega))
      go_wp2
      go_ret
      exact ⟨ret_int (by have := HS.out; have := HN.out; omega), rfl⟩
theorem shr_nat (c i : Nat) (hc : c ≤ 9000000000000000) : IntKind.i64.wrap ((c : Int) >>> i) = ((c / 2 ^ i : Nat) : Int) := by
  have h1 : (c : Int) >>> i = ((c / 2 ^ i : Nat) : Int) := by
    rw [Int.shiftRight_eq_div_pow]; simp
  have h2 := Nat.div_le_self c (2 ^ i)
  rw [h1]
  generalize c / 2 ^ i = q at h2
  rw [IntWalk.i64_in _ ⟨by omega, by omega⟩]
theorem ofInt_i64 (a : Nat) (ha : a < 9223372036854775808) : (BitVec.ofInt 64 (a : Int)).toNat = a := by
  rw [BitVec.ofInt_natCast, BitVec.toNat_ofNat]; exact Nat.mod_eq_of_lt (by omega)
theorem i64_and_one (a : Nat) (ha : a < 9223372036854775808) : bits .and .i64 (a : Int) 1 = ((a % 2 : Nat) : Int) := by
  show IntKind.i64.wrap ((BitVec.ofInt 64 (a : Int) &&& BitVec.ofInt 64 ((1 : Nat) : Int)).toNat : Int) = _
  rw [BitVec.toNat_and, ofInt_i64 a ha, ofInt_i64 1 (by omega), IntKind.wrap_i64, Nat.and_one_is_mod]
  omega
set_option maxHeartbeats 1000000 in
theorem l1Code_any (o : Int) (c k : Nat) (w : World) (hc : c ≤ 65535) (hk : k ≤ 16) :
    Calls Try.prog 134 #[.int .i64 o, .int .i64 c, .int .i64 k] w fun e w' => e = .returned (.string ⟨(codeBits o c k).toArray⟩) ∧ Below w.heap.size w w' := by
  go_enter Try.func134, Try.ntmps134
  go_wp2
  go_loopw [7, 8] (fun a b wr => ∃ i : Nat, i ≤ k ∧ a = .string ⟨(codeBits o c i).toArray⟩ ∧ b = .int .i64 i ∧ Below w.heap.size w wr) (fun _ b _ => k - (intOf b).toNat)
  case atStart => exact ⟨0, by omega, by simp [codeBits, lowBits], rfl, Below.refl _ _⟩
  case round =>
    obtain ⟨i, hi, rfl, rfl, hb⟩ := hrel
    have hz := hb.size
    by_cases hlt : i < k
    · obtain ⟨q, hq, hq1, hqb⟩ : ∃ q : Nat, bits .and .i64 ((c : Int) / 2 ^ i) 1 = (q : Int) ∧ q ≤ 1 ∧ bitC c i = UInt8.ofNat (48 + q) := by
        refine ⟨c / 2 ^ i % 2, ?_, by omega, rfl⟩
        rw [show (c : Int) / 2 ^ i = ((c / 2 ^ i : Nat) : Int) by simp]
        exact i64_and_one _ (by have := Nat.div_le_self c (2 ^ i); omega)
      have HQ := Go.Lib.hid hqb
      clear hqb
      have hl : (codeBits o c i).length ≤ 16 := by rw [codeBits_length]; omega
      by_cases ho : o = 0
      · have HC := Go.Lib.hid (codeBits_low o c i ho)
        subst ho
        go_wp2
        go_roundw
        case rel =>
          refine ⟨i + 1, by omega, ?_, by go_num, (by repeat (first | (with_reducible exact Below.refl _ _) | (with_reducible assumption) | (with_reducible refine Below.drew ?_) | (with_reducible refine Below.alloc ?_ (by first | omega | (simp <;> omega)) _) | (with_reducible refine Below.setCell ?_ (by first | omega | (simp <;> omega)) _) | (with_reducible refine belowN ?_ _)))⟩
          rw [HC.out, HQ.out]
          simp
        case measure => simp [intOf]; omega
      · have HC := Go.Lib.hid (codeBits_high o c i ho)
        have hod : (o == 0) = false := by simpa using ho
        clear ho
        go_wp2
        go_roundw
        case rel =>
          refine ⟨i + 1, by omega, ?_, by go_num, (by repeat (first | (with_reducible exact Below.refl _ _) | (with_reducible assumption) | (with_reducible refine Below.drew ?_) | (with_reducible refine Below.alloc ?_ (by first | omega | (simp <;> omega)) _) | (with_reducible refine Below.setCell ?_ (by first | omega | (simp <;> omega)) _) | (with_reducible refine belowN ?_ _)))⟩
          rw [HC.out, HQ.out]
          simp
        case measure => simp [intOf]; omega
    · go_wp2
      go_ret
      have : i = k := by omega
      subst this
      exact ⟨rfl, hb⟩
/-- The bits in the order in which they are read. -/
def readBits (o : Int) (l : Bs) : Bs := if o = 0 then l.reverse else l
theorem readBits_length (o : Int) (l : Bs) : (readBits o l).length = l.length := by unfold readBits; split <;> simp
theorem numBits_read (o : Int) (l : Bs) : numBits o l = numHigh (readBits o l) := by unfold numBits readBits; split <;> rfl
theorem readBits_bits (o : Int) (l : Bs) (h : bitsB l = true) : bitsB (readBits o l) = true := by
  unfold readBits
  split
  · rw [bitsB_reverse]; exact h
  · exact h
theorem readBits_low (l : Bs) (i : Nat) (h : i < l.length) : byteAt l ((l.length : Int) - 1 - i) = byteAt (readBits 0 l) i := by
  rw [show ((l.length : Int) - 1 - i) = ((l.length - 1 - i : Nat) : Int) by omega, byteAt_nat l _ (by omega)]
  unfold readBits
  rw [if_pos rfl, byteAt_nat _ i (by simpa using h), List.getElem_reverse]
theorem numHigh_step (L : Bs) (i : Nat) (h : i < L.length) (hb : bitsB L = true) : ∃ q : Nat, byteAt L i = 48 + (q : Int) ∧ q ≤ 1 ∧ numHigh (L.take (i + 1)) = 2 * numHigh (L.take i) + q := by
  have h1 := List.all_eq_true.1 hb _ (List.getElem_mem h)
  have h2 : L[i] = 48 ∨ L[i] = 49 := by simpa using h1
  refine ⟨L[i].toNat - 48, ?_, ?_, ?_⟩
  · rw [byteAt_nat L i h]; rcases h2 with e | e <;> rw [e] <;> decide
  · rcases h2 with e | e <;> rw [e] <;> decide
  · rw [List.take_succ_eq_append_getElem h, numHigh_snoc]
theorem bitsB_take (l : Bs) (n : Nat) (h : bitsB l = true) : bitsB (l.take n) = true := by
  unfold bitsB at *
  rw [List.all_eq_true] at *
  exact fun x hx => h x (List.mem_of_mem_take hx)
theorem numHigh_take_bd (L : Bs) (i : Nat) (hL : L.length ≤ 16) (hb : bitsB L = true) : numHigh (L.take i) ≤ 65535 := by
  have h1 := numHigh_bd (L.take i) (bitsB_take L i hb)
  have h2 : 2 ^ (L.take i).length ≤ 2 ^ 16 := Nat.pow_le_pow_right (by omega) (by rw [List.length_take]; omega)
  omega
set_option maxHeartbeats 1000000 in
theorem l1Number_any (o : Int) (l : Bs) (w : World) (hl : l.length ≤ 16) (hb : bitsB l = true) :
    Calls Try.prog 132 #[.int .i64 o, .string ⟨l.toArray⟩] w fun e w' => e = .returned (.int .i64 (numBits o l)) ∧ w = w' := by
  have HB := Go.Lib.hid (readBits_bits o l hb)
  clear hb
  have HL := Go.Lib.hid (readBits_length o l)
  go_enter Try.func132, Try.ntmps132
  go_wp2
  go_loop [5, 6] (fun a b => ∃ i : Nat, i ≤ l.length ∧ a = .int .i64 (numHigh ((readBits o l).take i)) ∧ b = .int .i64 i) (fun _ b => l.length - (intOf b).toNat)
  case atStart => exact ⟨0, by omega, by simp [numHigh], rfl⟩
  case round =>
    obtain ⟨i, hi, rfl, rfl⟩ := hrel
    by_cases hlt : i < l.length
    · obtain ⟨q, hq, hq1, hs⟩ := numHigh_step (readBits o l) i (by rw [HL.out]; exact hlt) HB.out
      have hbd := numHigh_take_bd (readBits o l) i (by rw [HL.out]; exact hl) HB.out
      have HS := Go.Lib.hid hs
      clear hs
      have ha : (i : Int) < l.length := by omega
      by_cases ho : o = 0
      · subst ho
        have e1 := readBits_low l i hlt
        rw [hq] at e1
        clear hq
        go_wp2
        go_round
        case rel => exact ⟨i + 1, by omega, by rw [HS.out]; go_num, by go_num⟩
        case measure => simp [intOf]; omega
      · have hod : (o == 0) = false := by simpa using ho
        have e1 : byteAt l i = 48 + q := by rw [← hq]; unfold readBits; rw [if_neg ho]
        clear hq ho
        go_wp2
        go_round
        case rel => exact ⟨i + 1, by omega, by rw [HS.out]; go_num, by go_num⟩
        case measure => simp [intOf]; omega
    · go_wp2
      go_ret
      refine ⟨ret_int ?_, rfl⟩
      rw [numBits_read, List.take_of_length_le (by rw [HL.out]; omega)]
def rep (l : Bs) (n : Nat) : Bs := (List.replicate n l).flatten
theorem rep_length (l : Bs) (n : Nat) : (rep l n).length = n * l.length := by unfold rep; simp
theorem rep_double (l : Bs) (n : Nat) : rep (l ++ l) n = rep l (2 * n) := by
  unfold rep
  induction n with
  | zero => rfl
  | succ n ih => rw [show 2 * (n + 1) = 2 * n + 1 + 1 by omega, List.replicate_succ, List.flatten_cons, ih, List.replicate_succ, List.replicate_succ, List.flatten_cons, List.flatten_cons, List.append_assoc]
theorem rep_odd (l : Bs) (n : Nat) : l ++ rep (l ++ l) n = rep l (2 * n + 1) := by
  rw [rep_double]; unfold rep; rw [List.replicate_succ, List.flatten_cons]
theorem rep_one (c : UInt8) (n : Nat) : rep [c] n = List.replicate n c := by
  unfold rep
  induction n with
  | zero => rfl
  | succ n ih => rw [List.replicate_succ, List.flatten_cons, ih, List.replicate_succ]; rfl
set_option maxHeartbeats 1000000 in
theorem l9Many_any (l : Bs) (n : Int) (w : World) (hl : l.length * n.toNat ≤ 1000000) (hl1 : l.length ≤ 1000) (hn : n ≤ 1000000) :
    Calls Try.prog 59 #[.string ⟨l.toArray⟩, .int .i64 n] w fun e w' => e = .returned (.string ⟨(rep l n.toNat).toArray⟩) ∧ w = w' := by
  have hk : (l.length : Nat) * n.toNat ≤ 1000000 := hl
  clear hl
  go_enter Try.func59, Try.ntmps59
  go_wp2
  go_loop [0, 1, 5] (fun a b c => ∃ (s o : Bs) (k : Int), a = .string ⟨s.toArray⟩ ∧ b = .int .i64 k ∧ c = .string ⟨o.toArray⟩ ∧ o ++ rep s k.toNat = rep l n.toNat ∧ s.length ≤ 2000000 ∧ k ≤ 1000000 ∧ (k < 0 → n < 0)) (fun _ b _ => (intOf b).toNat)
  case atStart => exact ⟨l, [], n, rfl, rfl, rfl, rfl, by omega, hn, fun h => h⟩
  case round =>
    obtain ⟨s, o, k, rfl, rfl, rfl, he, hs, hk1, hk2⟩ := hrel
    have hlen : o.length + k.toNat * s.length ≤ 1000000 := by
      have := congrArg List.length he
      rw [List.length_append, rep_length, rep_length] at this
      rw [this, Nat.mul_comm]; exact hk
    by_cases h0 : 0 < k
    · obtain ⟨j, hj⟩ := Int.eq_ofNat_of_zero_le (by omega : 0 ≤ k)
      subst hj
      have hsl : s.length ≤ 1000000 := by
        have h1 : 1 * s.length ≤ (j : Int).toNat * s.length := Nat.mul_le_mul_right _ (by omega)
        omega
      have hol : o.length ≤ 1000000 := by omega
      by_cases hodd : j % 2 = 1
      · have HE : Go.RowKit.Hid ((o ++ s) ++ rep (s ++ s) (j / 2) = rep l n.toNat) := by
          rw [List.append_assoc, rep_odd, ← he]
          rw [show 2 * (j / 2) + 1 = (j : Int).toNat by omega]; rfl
        clear he
        have h2 : (((j : Int) % 2) == 1) = true := by rw [beq_iff_eq]; omega
        go_wp2
        go_round
        case rel => exact ⟨s ++ s, o ++ s, ((j / 2 : Nat) : Int), by simp, by go_num, by simp, by rw [Int.toNat_natCast]; exact HE.out, by simp; omega, by omega, by omega⟩
        case measure => simp [intOf]; omega
      · have HE : Go.RowKit.Hid (o ++ rep (s ++ s) (j / 2) = rep l n.toNat) := by
          rw [rep_double, ← he]
          rw [show 2 * (j / 2) = (j : Int).toNat by omega]; rfl
        clear he
        have h2 : (((j : Int) % 2) == 1) = false := by rw [beq_eq_false_iff_ne]; omega
        go_wp2
        go_round
        case rel => exact ⟨s ++ s, o, ((j / 2 : Nat) : Int), by simp, by go_num, rfl, by rw [Int.toNat_natCast]; exact HE.out, by simp; omega, by omega, by omega⟩
        case measure => simp [intOf]; omega
    · have HE := Go.Lib.hid he
      clear he
      go_wp2
      go_ret
      refine ⟨ret_S ?_, rfl⟩
      have := HE.out
      rw [show k.toNat = 0 by omega] at this
      simpa [rep] using this
theorem l1Pad_any (l : Bs) (w : World) (hl : l.length ≤ 1000000) :
    Calls Try.prog 131 #[.string ⟨l.toArray⟩] w fun e w' => e = .returned (.string ⟨(padB l).toArray⟩) ∧ w = w' := by
  have hm0 : 0 ≤ -((l.length : Int) % 8) % 8 := by omega
  have hm1 : -((l.length : Int) % 8) % 8 ≤ 7 := by omega
  have hp : l ++ rep [48] (-((l.length : Int) % 8) % 8).toNat = padB l := by
    unfold padB
    rw [rep_one, show (-((l.length : Int) % 8) % 8).toNat = (8 - l.length % 8) % 8 by omega]
  have hr : (rep [48] (-((l.length : Int) % 8) % 8).toNat).length ≤ 7 := by rw [rep_length]; simp; omega
  have c := fun w => l9Many_any [48] (-((l.length : Int) % 8) % 8) w (by simp; omega) (by simp) (by omega)
  generalize rep [48] (-((l.length : Int) % 8) % 8).toNat = R at *
  have HP := Go.Lib.hid hp
  have C := Go.Lib.hid c
  clear hp c
  go_enter Try.func131, Try.ntmps131
  go_wp2_with fail
  refine (C.out _).mono ?_
  rintro e w' ⟨rfl, rfl⟩
  go_wp2
  go_ret
  exact ⟨ret_S HP.out, rfl⟩
def fillTo (n : Nat) (f : Nat → UInt8) (i : Nat) : List Value := (List.range n).map fun j => if j < i then u8v (f j) else .int .u8 0
theorem fillTo_length (n : Nat) (f : Nat → UInt8) (i : Nat) : (fillTo n f i).length = n := by simp [fillTo]
theorem fillTo_zero (n : Nat) (f : Nat → UInt8) : fillTo n f 0 = List.replicate n (.int .u8 0) := by
  unfold fillTo; apply List.ext_getElem?; intro j; by_cases h : j < n <;> simp [h]
theorem fillTo_full (n : Nat) (f : Nat → UInt8) : fillTo n f n = ((List.range n).map f).map u8v := by
  unfold fillTo; rw [List.map_map]; apply List.map_congr_left; intro j hj; rw [List.mem_range] at hj; rw [if_pos hj]; rfl
theorem fillTo_succ (n : Nat) (f : Nat → UInt8) (i : Nat) : (fillTo n f i).set i (u8v (f i)) = fillTo n f (i + 1) := by
  apply List.ext_getElem?
  intro j
  rw [List.getElem?_set, fillTo_length]
  unfold fillTo
  by_cases hj : i = j
  · subst hj
    by_cases hn : i < n <;> simp [hn]
  · rw [if_neg hj]
    by_cases hn : j < n
    · simp only [List.getElem?_map, List.getElem?_range hn, Option.map_some]
      by_cases h1 : j < i
      · rw [if_pos h1, if_pos (by omega)]
      · rw [if_neg h1, if_neg (by omega)]
    · simp [hn]
theorem bitsB_drop (l : Bs) (n : Nat) (h : bitsB l = true) : bitsB (l.drop n) = true := by
  unfold bitsB at *
  rw [List.all_eq_true] at *
  exact fun x hx => h x (List.mem_of_mem_drop hx)
theorem padB_bits (l : Bs) (h : bitsB l = true) : bitsB (padB l) = true := by
  unfold padB bitsB at *
  rw [List.all_append, h]; simp
def packAt (o : Int) (P : Bs) (j : Nat) : UInt8 := UInt8.ofNat (numBits o ((P.drop (8 * j)).take 8))
theorem packAt_int (o : Int) (P : Bs) (j : Nat) (h : bitsB P = true) (hj : 8 * j + 8 ≤ P.length) : numBits o ((P.drop (8 * j)).take 8) ≤ 255 ∧ ((packAt o P j).toNat : Int) = numBits o ((P.drop (8 * j)).take 8) := by
  have h1 := numBits_bd o ((P.drop (8 * j)).take 8) (bitsB_take _ _ (bitsB_drop _ _ h))
  have h2 : ((P.drop (8 * j)).take 8).length = 8 := by simp; omega
  rw [h2] at h1
  refine ⟨by omega, ?_⟩
  unfold packAt
  rw [UInt8.toNat_ofNat']; omega
set_option maxHeartbeats 1000000 in
theorem l1Pack_any (o : Int) (l : Bs) (w : World) (hl : l.length ≤ 100000) (hb : bitsB l = true) :
    Calls Try.prog 124 #[.int .i64 o, .string ⟨l.toArray⟩] w fun e w' => e = .returned (.string ⟨(packB o l).toArray⟩) ∧ Below w.heap.size w w' := by
  obtain ⟨i0, hi, hz0, hz1, hz2⟩ := info_parts info_u8
  have c := fun w => l1Pad_any l w (by omega)
  obtain ⟨n, hn⟩ : ∃ n : Nat, (padB l).length = 8 * n := ⟨(l.length + 7) / 8, by rw [padB_length]; omega⟩
  have hn1 : n ≤ 20000 := by have := padB_length l; omega
  have HP : Go.RowKit.Hid (packB o l = (List.range n).map (packAt o (padB l))) := by
    show packB o l = _
    unfold packB; rw [hn, show 8 * n / 8 = n by omega]; rfl
  have hpb := padB_bits l hb
  generalize padB l = P at *
  have HN := Go.Lib.hid hn
  have hl1 : P.length ≤ 8 * n := by omega
  have hl2 : 8 * n ≤ P.length := by omega
  have hlq : (P.length : Int) / 8 = n := by omega
  have HB := Go.Lib.hid hpb
  have C := Go.Lib.hid c
  clear hn hpb c hb
  go_enter Try.func124, Try.ntmps124
  go_wp2_with fail
  refine (C.out _).mono ?_
  rintro e w' ⟨rfl, rfl⟩
  go_wp2_with (at_make; go_must (refine wpList_make_full _ rfl _ _ 22 rfl w.heap.size 5 i0 (.int .u8 0) 1 Try.underlying22 hi hz0 hz1 _ _ _ _ n rfl rfl (by omega) (by omega) (by rw [hz2]; omega) (by unfold maxLen; omega) (Nat.le_refl _) ?_); intro w1 hown hg1)
  have g1 : Below w.heap.size w w1 := (Below.refl _ _).grown hg1 (Nat.le_refl _) (by simp)
  clear hg1
  have hlt1 : w.heap.size < w1.heap.size := (hown.lt _ rfl).2
  go_loopw [7] (fun k wr => ∃ i : Nat, i ≤ n ∧ k = .int .i64 i ∧ wr.ownsRow w.heap.size 5 1 (.slice (some ⟨w.heap.size, 0, none⟩) n n) n (fillTo n (packAt o P) i) ∧ Below w.heap.size w wr) (fun k _ => n - (intOf k).toNat)
  case atStart =>
    refine ⟨0, by omega, rfl, ?_, g1⟩
    rw [fillTo_zero, ← toList_madeCells_one]
    rw [Nat.mul_one] at hown
    exact hown
  case round =>
    obtain ⟨i, hi', rfl, hown, hb⟩ := hrel
    have hz := hb.size
    by_cases hlt : i < n
    · obtain ⟨S, hS, hS1, hS2, hS3⟩ : ∃ S : Bs, (⟨P.toArray⟩ : ByteArray).extract (8 * i) (8 * i + 8) = ⟨S.toArray⟩ ∧ S.length ≤ 16 ∧ bitsB S = true ∧ (numBits o S ≤ 255 ∧ (numBits o S : Int) = (packAt o P i).toNat) := by
        have h8 := packAt_int o P i HB.out (by omega)
        refine ⟨(P.drop (8 * i)).take 8, ?_, by simp; omega, bitsB_take _ _ (bitsB_drop _ _ HB.out), h8.1, h8.2.symm⟩
        rw [ByteArray.extract_mk]; simp
      obtain ⟨hS3, hS4⟩ := hS3
      have HV := Go.Lib.hid hS4
      have hcl := (hown.cellAt i (by omega)).trans (List.getElem?_eq_getElem (by rw [fillTo_length]; exact hlt))
      have hfr := hown.frozenAt i
      have hst := hown.stored i (u8v (packAt o P i))
      rw [fillTo_succ] at hst
      have HST := Go.Lib.hid hst
      have c1 := fun w => l1Number_any o S w hS1 hS2
      have C1 := Go.Lib.hid c1
      clear hst hS4 c1
      have hin : (i : Int) < n := by omega
      go_wp2_with fail
      refine (C1.out _).mono ?_
      rintro e w' ⟨rfl, rfl⟩
      go_wp2
      go_roundw
      case rel => exact ⟨i + 1, by omega, by go_num, by rw [HV.out]; exact HST.out.1, hb.setCell (Nat.le_refl _) _⟩
      case measure => simp [intOf]; omega
    · have hcv := conv_own (l := (List.range n).map (packAt o P)) (by
        have e : i = n := by omega
        rw [e, fillTo_full] at hown
        rw [List.length_map, List.length_range]
        exact hown)
      go_wp2
      go_ret
      exact ⟨ret_S HP.out.symm, hb⟩
end Go.Proofs.Ytgcjfddkgbigoaa
