/- Walks: bits put into bytes, by the program. -/
import Derived.Test.YtfonokhafdflcaaGreatQ8
import Derived.Test.YtfonokhafdflcaaGreatGJ3
import Derived.Test.YtfonokhafdflcaaGreatGW
import Derived.Deep.Cut
namespace Go.Proofs.YtfonokhafdflcaaGreat
open Go.RowKit
set_option linter.unusedVariables false
set_option linter.unusedSimpArgs false
set_option maxRecDepth 100000
attribute [local go_sem high] run_index_S binOp_eql_S binOp_neq_S append_S toList_S size_S run_slice_S run_slice_from_S run_slice_to_S wrap64_byteAt wrap64_byteAt_mul bits_or_bytes convU conv1_some convU2 conv2_some
theorem bitsValid_yes (l : Bs) (w : World) (hl : l.length ≤ 32000) (hb : bitsB l = true) :
    Calls Tryz.prog 126 #[sv l] w fun e w' => e = .returned (.bool true) ∧ w = w' := by
  have HB : Go.RowKit.Hid (∀ k : Nat, k < l.length → byteAt l (k : Int) = 48 ∨ byteAt l (k : Int) = 49) := fun k h => by
    have h1 := bitN_of l hb k
    rw [byteAt_nat l k h]
    rw [List.getElem?_eq_getElem h] at h1
    simp only [Option.getD_some] at h1
    rcases h1 with ⟨h1, _⟩ | ⟨h1, _⟩
    · left; rw [h1]; rfl
    · right; rw [h1]; rfl
  have hl2 : (l.length : Int) ≤ 32000 := by omega
  clear hb
  go_enter Tryz.func126, Tryz.ntmps126
  go_wp2
  go_loop [9] (fun c => ∃ k : Nat, k ≤ l.length ∧ c = .int .i64 (k : Int)) (fun c => l.length - (intOf c).toNat)
  case atStart => exact ⟨0, by omega, rfl⟩
  case round =>
    obtain ⟨k, hk, rfl⟩ := hrel
    by_cases hlt : k < l.length
    · have hki : (k : Int) < l.length := by omega
      rcases HB.out k hlt with hb | hb
      all_goals
        go_wp2
        go_round
        case rel => exact ⟨k + 1, by omega, by go_num⟩
        case measure => simp [intOf]; omega
    · have hki : ¬ (k : Int) < l.length := by omega
      go_wp2
      go_ret
      exact ⟨rfl, rfl⟩
set_option maxHeartbeats 2000000 in
theorem packBytes_any (o : Int) (l : Bs) (w : World) (ho : o = 0 ∨ o = 1) (hl : l.length ≤ 32000) (hb : bitsB l = true) :
    Calls Tryz.prog 127 #[.int .i64 o, sv l] w fun e w' => e = .returned (sv (packB o l)) ∧ Below w.heap.size w w' := by
  obtain ⟨i, hi, hz0, hz1, hz2⟩ := info_parts info_u8
  have HBI : Go.RowKit.Hid (∀ k : Nat, k < l.length → (byteAt l (k : Int) = 48 ∧ bitN l k = 0) ∨ (byteAt l (k : Int) = 49 ∧ bitN l k = 1)) := fun k h => by
    have h1 := bitN_of l hb k
    rw [byteAt_nat l k h]
    rw [List.getElem?_eq_getElem h] at h1
    simp only [Option.getD_some] at h1
    rcases h1 with ⟨h1, h2⟩ | ⟨h1, h2⟩
    · left; rw [h1]; exact ⟨rfl, h2⟩
    · right; rw [h1]; exact ⟨rfl, h2⟩
  have HSM : Go.RowKit.Hid (∀ f m, f % 8 = 0 → f < l.length → m = min 8 (l.length - f) → numBits o (((padB l).drop f).take 8) = sumTo o (l.drop f) 8 m) := fun f m h0 h1 h2 => byte_sum o ho l f m h0 h1 h2
  have HBD : Go.RowKit.Hid (∀ f, numBits o (((padB l).drop f).take 8) ≤ 255) := fun f => byte_bd o l hb f
  have HS2 : Go.RowKit.Hid (∀ f m, m ≤ 8 → sumTo o (l.drop f) 8 m ≤ m * 128) := fun f m h => sum255 o _ (by
    unfold bitsB at *; rw [List.all_eq_true] at *; exact fun x hx => hb x (List.mem_of_mem_drop hx)) m h
  have cP : Go.RowKit.Hid (∀ (i : Nat) w, i < 8 → Calls Tryz.prog 125 #[.int .i64 o, .int .i64 (i : Int), .int .i64 8] w fun e w' => e = .returned (.int .i64 ((2 ^ plI2 o i 8 : Nat) : Int)) ∧ w = w') := fun i w h => place_any o i 8 w ho h (by omega)
  have o0 : w.ownsRow w.heap.size 5 1 (.slice none ([] : Bs).length 0) ([] : Bs).length (([] : Bs).map u8v) := ⟨by simp, .inl ⟨rfl, rfl⟩⟩
  clear hb
  go_enter Tryz.func127, Tryz.ntmps127
  go_wp2
  go_loopw [5, 6] (fun a v wr => ∃ (k : Nat) (A : Option Addr) (cap : Nat) (P : Bs), 8 * k < l.length + 8 ∧ P.length = k ∧ a = .slice A P.length cap ∧ v = .int .i64 ((8 * k : Nat) : Int) ∧ Go.RowKit.Hid (P = pkTo o l k) ∧ wr.ownsRow w.heap.size 5 1 (.slice A P.length cap) P.length (P.map u8v) ∧ Below w.heap.size w wr) (fun _ v _ => l.length + 8 - (intOf v).toNat)
  case atStart => exact ⟨0, none, 0, [], by omega, rfl, rfl, rfl, rfl, o0, Below.refl _ _⟩
  case round =>
    obtain ⟨k, A, cap, P, hk, hPk, rfl, rfl, HP, hown, hb⟩ := hrel
    have hz := hb.size
    obtain ⟨f, hf⟩ : ∃ f, 8 * k = f := ⟨_, rfl⟩
    rw [hf]
    have HF := Go.Lib.hid hf
    have HPK := Go.Lib.hid hPk
    have hPl : P.length ≤ 5000 := by omega
    by_cases hlt : f < l.length
    · have hfi : (f : Int) < l.length := by omega
      have hfl : (l.length : Int) ≤ 32000 := by omega
      obtain ⟨m, hm⟩ : ∃ m, m = min 8 (l.length - f) := ⟨_, rfl⟩
      have hmi : min (8 : Int) ((l.length : Int) - (f : Int)) = (m : Int) := by omega
      have hm8 : m ≤ 8 := by omega
      have hml : f + m ≤ l.length := by omega
      have hSM := HSM.out f m (by omega) hlt hm
      have HSU := Go.Lib.hid hSM
      have hBD := HBD.out f
      rw [hSM] at hBD
      have HBD2 := Go.Lib.hid hBD
      have H2 : Go.RowKit.Hid (∀ j, j ≤ m → sumTo o (l.drop f) 8 j ≤ 1024) := fun j h => by have := HS2.out f j (by omega); omega
      clear hm hf hPk hSM hBD
      go_wp2
      go_loop [7, 20] (fun a c => ∃ j : Nat, j ≤ m ∧ a = .int .i64 ((sumTo o (l.drop f) 8 j : Nat) : Int) ∧ c = .int .i64 (j : Int)) (fun _ c => m - (intOf c).toNat)
      case atStart => exact ⟨0, by omega, rfl, rfl⟩
      case round =>
        obtain ⟨j, hj, rfl, rfl⟩ := hrel
        have hbd := H2.out j hj
        by_cases hjl : j < m
        · have hji : (j : Int) < m := by omega
          have hpl := plI2_lt o j 8 (by omega)
          have hp16 : 2 ^ plI2 o j 8 ≤ 2 ^ 16 := Nat.pow_le_pow_right (by omega) (by omega)
          have hsu : Go.RowKit.Hid (sumTo o (l.drop f) 8 (j + 1) = sumTo o (l.drop f) 8 j + bitN l (f + j) * 2 ^ plI2 o j 8) := by
            show _ = _
            rw [← bitN_drop]; rfl
          have cPk := fun w => cP.out j w (by omega)
          have hfj : (f : Int) + (j : Int) < l.length := by omega
          have hb2 := HBI.out (f + j) (by omega)
          have e : ((f + j : Nat) : Int) = (f : Int) + (j : Int) := by omega
          rw [e] at hb2
          generalize sumTo o (l.drop f) 8 j = s at *
          generalize 2 ^ plI2 o j 8 = p at *
          clear e hmi
          rcases hb2 with ⟨h1, h2⟩ | ⟨h1, h2⟩
          · have H3 := Go.Lib.hid h2
            clear h2
            go_wp2
            go_round
            case rel => exact ⟨j + 1, by omega, by rw [hsu.out, H3.out]; simp, by go_num⟩
            case measure => simp [intOf]; omega
          · have H3 := Go.Lib.hid h2
            clear h2
            go_wp2_with (go_at_call 125; refine (cPk _).mono ?_; rintro e w' ⟨rfl, rfl⟩)
            go_round
            case rel => exact ⟨j + 1, by omega, by rw [hsu.out, H3.out]; go_num, by go_num⟩
            case measure => simp [intOf]; omega
        · have hji : ¬ (j : Int) < m := by omega
          have hje : j = m := by omega
          subst hje
          have hS : Go.RowKit.Hid (pkTo o l (k + 1) = P ++ [UInt8.ofNat (sumTo o (l.drop f) 8 j)]) := by
            show _ = _
            rw [pkTo_succ, HF.out, HSU.out, HP.out]
          have hSb := HBD2.out
          clear HSU HBD2 H2 hbd
          generalize sumTo o (l.drop f) 8 j = s at *
          have hwq : IntKind.u8.wrap (s : Int) = (s : Int) := IntWalk.u8_in _ ⟨by omega, by omega⟩
          have hm1 : P.length + 1 ≤ maxLen := by unfold maxLen; omega
          have hm2 : (P.length + 1) * 1 ≤ 140737488355328 := by omega
          go_wp2_with (at_builtin; go_must (refine wpList_ap _ rfl _ _ 22 rfl (w.heap.size) 5 i _ 1 1 Tryz.underlying22 hi hz0 hz1 hz2 rfl (by omega) _ _ _ rfl (hown.alloc _) _ 1 1 [.int .u8 (s : Int)] rfl (Sl.newAt wr #[.int .u8 (s : Int)] _ 1 1 (by first | rfl | simp) (by simp) (by omega)) (by simp [Value.oneCell']) hm1 hm2 ?_ ?_))
          try (case refine_1 => first | omega | (simp <;> omega; done))
          intro A5 c5 w5 o5 hg5 _
          have hVY : (P ++ [UInt8.ofNat s]).length = P.length + 1 := by simp
          have hsn : ((UInt8.ofNat s).toNat : Int) = (s : Int) := by rw [UInt8.toNat_ofNat']; omega
          have o5' : w5.ownsRow w.heap.size 5 1 (.slice A5 (P ++ [UInt8.ofNat s]).length c5) (P ++ [UInt8.ofNat s]).length ((P ++ [UInt8.ofNat s]).map u8v) := by
            rw [hVY, List.map_append]
            have : [UInt8.ofNat s].map u8v = [.int .u8 (s : Int)] := by rw [List.map_cons, List.map_nil]; unfold u8v; rw [hsn]
            rw [this]; exact o5
          rw [← hVY]
          have HV2 : Go.RowKit.Hid ((P ++ [UInt8.ofNat s]).length = k + 1) := by show _ = _; rw [hVY, HPK.out]
          have hb5 : Below w.heap.size w w5 := (hb.alloc hz _).grown hg5 (by simp; omega) (fun q hq => (hown.lt q hq).1)
          generalize P ++ [UInt8.ofNat s] = P2 at *
          clear hwq hm1 hm2 o5 hg5 hVY hsn hown
          go_wp2
          go_roundw
          case rel => exact ⟨k + 1, A5, c5, P2, by have := HF.out; omega, HV2.out, rfl, by have := HF.out; go_num, hS.out.symm, o5', hb5⟩
          case measure => have := HF.out; simp [intOf]; omega
    · have hfi : ¬ (f : Int) < l.length := by omega
      have hE : P = packB o l := by rw [HP.out]; exact pkTo_full o l k (by omega) (by omega)
      have HE := Go.Lib.hid hE
      clear hE hf hPk
      have hcv := conv_own hown
      go_wp2
      go_ret
      exact ⟨by rw [← HE.out]; rfl, hb⟩
theorem orderValid_yes (o : Int) (w : World) (ho : o = 0 ∨ o = 1) : Calls Tryz.prog 87 #[.int .i64 o] w fun e w' => e = .returned (.bool true) ∧ w = w' := by
  rcases ho with rfl | rfl
  all_goals
    go_enter Tryz.func87, Tryz.ntmps87
    go_wp2
    go_ret
    exact ⟨rfl, rfl⟩
theorem packBits_any (o : Int) (l : Bs) (w : World) (ho : o = 0 ∨ o = 1) (hl : l.length ≤ 32000) (hb : bitsB l = true) :
    Calls Tryz.prog 114 #[.int .i64 o, sv l] w fun e w' => e = .returned (.tuple #[sv (packB o l), .bool true]) ∧ Below w.heap.size w w' := by
  have c1 := fun w => orderValid_yes o w ho
  have c2 := fun w => bitsValid_yes l w hl hb
  have c3 := fun w => packBytes_any o l w ho hl hb
  generalize packB o l = P at *
  clear hb
  go_enter Tryz.func114, Tryz.ntmps114
  go_wp2_with fail
  refine (c1 _).mono ?_
  rintro e w' ⟨rfl, rfl⟩
  go_wp2_with fail
  refine (c2 _).mono ?_
  rintro e w' ⟨rfl, rfl⟩
  go_wp2_with fail
  refine (c3 _).mono ?_
  rintro e w3 ⟨rfl, hb3⟩
  go_wp2
  go_ret2
  exact ⟨rfl, hb3⟩
end Go.Proofs.YtfonokhafdflcaaGreat
