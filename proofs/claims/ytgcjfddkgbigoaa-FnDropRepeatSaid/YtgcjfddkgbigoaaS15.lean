/- Walks: containers made by the reference. -/
import Derived.Test.YtgcjfddkgbigoaaS14
namespace Go.Proofs.Ytgcjfddkgbigoaa
open Go.RowKit
set_option linter.unusedVariables false
set_option linter.unusedSimpArgs false
set_option maxRecDepth 100000
attribute [local go_sem high] run_index_S binOp_eql_S binOp_neq_S append_S toList_S size_S run_slice_S run_slice_from_S run_slice_to_S wrap64_byteAt wrap64_byteAt_mul bits_or_bytes convU conv1_some convU2 conv2_some
theorem sv_ext_to (p : Bs) (n : Nat) : (ByteArray.mk p.toArray).extract 0 n = ⟨(p.take n).toArray⟩ := by
  apply ByteArray.ext
  simp [ByteArray.data_extract]
def strNn : Value → Nat
  | .string b => b.data.size
  | _ => 0
/-- The blocks of data, of so many bytes each. -/
def mkGo (o l m : Int) (dict : Bs) (size : Nat) : Nat → Nat → Bs → Bs
  | 0, _, _ => []
  | n + 1, f, d => if d = [] then [] else (blkW o l m dict (f : Int) (d.take size)).text ++ mkGo o l m dict size n (f + 1) (d.drop size)
theorem mkGo_nil (o l m : Int) (dict : Bs) (size n f : Nat) : mkGo o l m dict size n f [] = [] := by
  cases n with
  | zero => rfl
  | succ n => unfold mkGo; rw [if_pos rfl]
theorem mkGo_go (o l m : Int) (dict : Bs) (size n f : Nat) (d : Bs) (h : d ≠ []) : mkGo o l m dict size (n + 1) f d = (blkW o l m dict (f : Int) (d.take size)).text ++ mkGo o l m dict size n (f + 1) (d.drop size) := by
  rw [mkGo, if_neg h]
theorem mkGo_len (o l m : Int) (dict : Bs) (size : Nat) (hs : 1 ≤ size) : ∀ (n f : Nat) (d : Bs), (mkGo o l m dict size n f d).length ≤ 11 * d.length
  | 0, f, d => by simp [mkGo]
  | n + 1, f, d => by
    by_cases h : d = []
    · rw [h, mkGo_nil]; simp
    · rw [mkGo_go _ _ _ _ _ _ _ _ h, List.length_append]
      have h1 := blkW_len o l m dict (f : Int) (d.take size)
      have h2 := mkGo_len o l m dict size hs n (f + 1) (d.drop size)
      have h3 := List.length_pos_iff.2 h
      simp at h1 h2
      omega
def mkB (o l m : Int) (dict : Bs) (size : Nat) (f : Nat) (d : Bs) : Bs := mkGo o l m dict size d.length f d
set_option maxHeartbeats 2000000 in
theorem l5Make_any (o l m : Int) (dict : Bs) (size f : Nat) (d : Bs) (w : World) (hf : fits o l m dict) (hs1 : 1 ≤ size) (hs2 : size ≤ 64) (hd : d.length ≤ 2000) (hf0 : f ≤ 1000) :
    Calls Try.prog 98 #[.agg #[.int .i64 o, .int .i64 l, .int .i64 m], .string ⟨dict.toArray⟩, .int .i64 (f : Int), sv d, .int .i64 (size : Int)] w fun e w' => e = .returned (sv (mkB o l m dict size f d)) ∧ Below w.heap.size w w' := by
  have cB : Go.RowKit.Hid (∀ (n : Nat) (x : Bs) w, x.length ≤ 2000 → Calls Try.prog 106 #[.agg #[.int .i64 o, .int .i64 l, .int .i64 m], .string ⟨dict.toArray⟩, .int .i64 (n : Int), .string ⟨x.toArray⟩] w fun e w' => e = .returned (bkV (blkW o l m dict n x)) ∧ Below w.heap.size w w') := fun n x w h => l5Block_any o l m dict n x w hf (by omega)
  have cT : Go.RowKit.Hid (∀ (n : Nat) (x : Bs) w, n ≤ 4000 → x.length ≤ 2000 → Calls Try.prog 70 #[bkV (blkW o l m dict n x)] w fun e w' => e = .returned (.string ⟨(blkW o l m dict n x).text.toArray⟩) ∧ Below w.heap.size w w') := fun n x w h1 h2 => l5Text_any _ w (blkW_sm o l m dict n x (by omega) (by omega) (by omega))
  have hG : Go.RowKit.Hid (mkB o l m dict size f d = mkGo o l m dict size d.length f d) := rfl
  generalize mkB o l m dict size f d = G at *
  clear hf
  go_enter Try.func98, Try.ntmps98
  go_wp2
  have hI := Bk.new w #[.int .i64 o, .int .i64 l, .int .i64 m] 69
  have g0 : Below w.heap.size w (w.alloc (.cells #[.int .i64 o, .int .i64 l, .int .i64 m] 69)) := (by repeat (first | (with_reducible exact Below.refl _ _) | (with_reducible assumption) | (with_reducible refine Below.drew ?_) | (with_reducible refine Below.alloc ?_ (by first | omega | (simp <;> omega)) _) | (with_reducible refine Below.setCell ?_ (by first | omega | (simp <;> omega)) _) | (with_reducible refine belowN ?_ _)))
  go_loopw [2, 3, 11] (fun a b c wr => ∃ (D X : Bs) (q k : Nat), a = .int .i64 (q : Int) ∧ b = sv D ∧ c = sv X ∧ q + D.length ≤ 3000 ∧ D.length ≤ k ∧ X.length + 11 * D.length ≤ 22000 ∧ D.length ≤ 2000 ∧ Go.RowKit.Hid (G = X ++ mkGo o l m dict size k q D) ∧ Bk wr w.heap.size 69 #[.int .i64 o, .int .i64 l, .int .i64 m] ∧ Below w.heap.size w wr) (fun _ b _ _ => strNn b)
  case atStart => exact ⟨d, [], f, d.length, rfl, rfl, rfl, by omega, Nat.le_refl _, by simp; omega, hd, by show _ = _; rw [hG.out]; rfl, hI, g0⟩
  case round =>
    obtain ⟨D, X, q, k, rfl, rfl, rfl, hq, hk, hX, hD, HG, hK, g⟩ := hrel
    clear hI g0 hG
    have hz := hK.lt
    by_cases hne : D = []
    · subst hne
      have hE : Go.RowKit.Hid (G = X) := by show _ = _; rw [HG.out, mkGo_nil, List.append_nil]
      go_wp2
      go_ret
      exact ⟨by rw [hE.out]; rfl, g⟩
    · have hl1 := List.length_pos_iff.2 hne
      have hte : (decide (D = [])) = false := by simpa using hne
      have hte2 : (D != []) = true := by simpa using hne
      obtain ⟨k', rfl⟩ : ∃ k', k = k' + 1 := ⟨k - 1, by omega⟩
      have HG2 := Go.Lib.hid (HG.out.trans (by rw [mkGo_go _ _ _ _ _ _ _ _ hne]))
      by_cases hsz : D.length < size
      · have etk : D.take size = D := List.take_of_length_le (by omega)
        have edr : D.drop size = [] := List.drop_eq_nil_of_le (by omega)
        rw [etk, edr, mkGo_nil, List.append_nil] at HG2
        have cB1 := fun w => cB.out q D w (by omega)
        have cT1 := fun w => cT.out q D w (by omega) (by omega)
        have hbl := blkW_len o l m dict (q : Int) D
        have hq1 : ¬ 9223372036854775807 < X.length + (blkW o l m dict (q : Int) D).text.length := by omega
        clear etk edr hne HG
        have hY := hK.cell
        go_wp2_with fail
        refine wp_region_held_drew (S := (fun w' => w'.cell? ⟨w.heap.size, 0, none⟩ = some (.int .i64 o) ∧ w'.cell? ⟨w.heap.size, 1, none⟩ = some (.int .i64 l) ∧ w'.cell? ⟨w.heap.size, 2, none⟩ = some (.int .i64 m))) (by kernel_rfl) ?_ (fun hSS => ?_)
        focus ((refine ⟨?_, ?_, ?_⟩; all_goals first | (simp [hY9]; done) | (simp [hY8]; done) | (simp [hY]; done)))
        refine wpAnyH_take (i := 0) (v := ?_) rfl (by kernel_rfl) (by kernel_rfl) (by kernel_rfl) (fun _ _ _ h => h) (Or.inl ⟨by rfl, ?_⟩) (by assumption) ?_
        rotate_left
        focus (intro w hSw; (try dsimp only at hSw); go_simp; try with_reducible rfl)
        try simp only [Act.put, List.setIfInBounds_toArray, List.set_cons_zero, List.set_cons_succ]
        refine wpAnyH_take (i := 1) (v := ?_) rfl (by kernel_rfl) (by kernel_rfl) (by kernel_rfl) (fun _ _ _ h => h) (Or.inl ⟨by rfl, ?_⟩) (by assumption) ?_
        rotate_left
        focus (intro w hSw; (try dsimp only at hSw); go_simp; try with_reducible rfl)
        try simp only [Act.put, List.setIfInBounds_toArray, List.set_cons_zero, List.set_cons_succ]
        refine wpAnyH_take (i := 2) (v := ?_) rfl (by kernel_rfl) (by kernel_rfl) (by kernel_rfl) (fun _ _ _ h => h) (Or.inl ⟨by rfl, ?_⟩) (by assumption) ?_
        rotate_left
        focus (intro w hSw; (try dsimp only at hSw); go_simp; try with_reducible rfl)
        try simp only [Act.put, List.setIfInBounds_toArray, List.set_cons_zero, List.set_cons_succ]
        refine wpAnyH_take (i := 3) (v := ?_) rfl (by kernel_rfl) (by kernel_rfl) (by kernel_rfl) (fun _ _ _ h => h) (Or.inl ⟨by rfl, ?_⟩) (by assumption) ?_
        rotate_left
        focus (intro w hSw; (try dsimp only at hSw); go_simp; try with_reducible rfl)
        try simp only [Act.put, List.setIfInBounds_toArray, List.set_cons_zero, List.set_cons_succ]
        refine wpAnyH_take (i := 4) (v := ?_) rfl (by kernel_rfl) (by kernel_rfl) (by kernel_rfl) (fun _ _ _ h => h) (Or.inl ⟨by rfl, ?_⟩) (by assumption) ?_
        rotate_left
        focus (intro w hSw; (try dsimp only at hSw); go_simp; try with_reducible rfl)
        try simp only [Act.put, List.setIfInBounds_toArray, List.set_cons_zero, List.set_cons_succ]
        refine wpAnyH_take (i := 5) (v := ?_) rfl (by kernel_rfl) (by kernel_rfl) (by kernel_rfl) (fun _ _ _ h => h) (Or.inl ⟨by rfl, ?_⟩) (by assumption) ?_
        rotate_left
        focus (intro w hSw; (try dsimp only at hSw); go_simp; try with_reducible rfl)
        try simp only [Act.put, List.setIfInBounds_toArray, List.set_cons_zero, List.set_cons_succ]
        refine wpAnyH_take (i := 6) (v := ?_) rfl (by kernel_rfl) (by kernel_rfl) (by kernel_rfl) (fun _ _ _ h => h) (Or.inl ⟨by rfl, ?_⟩) (by assumption) ?_
        rotate_left
        focus (intro w hSw; (try dsimp only at hSw); go_simp; try with_reducible rfl)
        try simp only [Act.put, List.setIfInBounds_toArray, List.set_cons_zero, List.set_cons_succ]
        refine wpAnyH_ready (rs := [7]) (by kernel_rfl) (by simp) ?_
        refine AllReadyH.cons (o := _) rfl (fun KK hKK => ?_) AllReadyH.nil
        go_simp
        (go_at_call 106; refine (cB1 _).mono ?_; rintro e w8 ⟨rfl, hb8⟩; have hb8 : Below wr.heap.size wr w8 := below_undrew hb8; have z8 := hb8.size; have hK8 := hK.below hb8 (by omega); have g8 := g.trans (hb8.mono (by omega)); have hY8 := hK8.cell)
        refine hKK.out _ _ ?_ (fun hSS => ?_)
        focus ((refine ⟨?_, ?_, ?_⟩; all_goals first | (simp [hY9]; done) | (simp [hY8]; done) | (simp [hY]; done)))
        try simp only [Act.put, List.setIfInBounds_toArray, List.set_cons_zero, List.set_cons_succ]
        refine wpAnyH_ready (rs := [8]) (by kernel_rfl) (by simp) ?_
        refine AllReadyH.cons (o := _) rfl (fun KK hKK => ?_) AllReadyH.nil
        go_simp
        (go_at_call 70; refine (cT1 _).mono ?_; rintro e w9 ⟨rfl, hb9⟩; have z9 := hb9.size; have hK9 := hK8.below hb9 (by omega); have g9 := g8.trans (hb9.mono (by omega)); have hY9 := hK9.cell)
        refine hKK.out _ _ ?_ (fun hSS => ?_)
        focus ((refine ⟨?_, ?_, ?_⟩; all_goals first | (simp [hY9]; done) | (simp [hY8]; done) | (simp [hY]; done)))
        try simp only [Act.put, List.setIfInBounds_toArray, List.set_cons_zero, List.set_cons_succ]
        refine wpAnyH_take (i := 9) (v := ?_) rfl (by kernel_rfl) (by kernel_rfl) (by kernel_rfl) (fun _ _ _ h => h) (Or.inl ⟨by rfl, ?_⟩) (by assumption) ?_
        rotate_left
        focus (intro w hSw; (try dsimp only at hSw); go_simp; try with_reducible rfl)
        try simp only [Act.put, List.setIfInBounds_toArray, List.set_cons_zero, List.set_cons_succ]
        refine wpAnyH_take (i := 10) (v := ?_) rfl (by kernel_rfl) (by kernel_rfl) (by kernel_rfl) (fun _ _ _ h => h) (Or.inl ⟨by rfl, ?_⟩) (by assumption) ?_
        rotate_left
        focus (intro w hSw; (try dsimp only at hSw); go_simp; try with_reducible rfl)
        try simp only [Act.put, List.setIfInBounds_toArray, List.set_cons_zero, List.set_cons_succ]
        refine wpAnyH_done (by kernel_rfl) ?_ _
        simp only [List.getElem_toArray, List.getElem_cons_succ, List.getElem_cons_zero, Act.put, List.setIfInBounds_toArray, List.set_cons_zero, List.set_cons_succ]
        go_wp2
        go_roundw
        case rel => exact ⟨[], X ++ (blkW o l m dict (q : Int) D).text, q + 1, k', by go_num, by first | rfl | (simp; done), by first | rfl | (simp [sv]; done), by simp; omega, by simp, by simp; omega, by simp, by show _ = _; rw [HG2.out, mkGo_nil, List.append_nil], hK9, g9⟩
        case measure => simp [strNn]; omega
      · have htl : (D.take size).length = size := by simp; omega
        have hdl : (D.drop size).length = D.length - size := by simp
        have cB1 := fun w => cB.out q (D.take size) w (by omega)
        have cT1 := fun w => cT.out q (D.take size) w (by omega) (by omega)
        have hbl := blkW_len o l m dict (q : Int) (D.take size)
        have hq1 : ¬ 9223372036854775807 < X.length + (blkW o l m dict (q : Int) (D.take size)).text.length := by omega
        have hsz2 : size ≤ D.length := by omega
        clear hne HG
        have hY := hK.cell
        go_wp2_with fail
        refine wp_region_held_drew (S := (fun w' => w'.cell? ⟨w.heap.size, 0, none⟩ = some (.int .i64 o) ∧ w'.cell? ⟨w.heap.size, 1, none⟩ = some (.int .i64 l) ∧ w'.cell? ⟨w.heap.size, 2, none⟩ = some (.int .i64 m))) (by kernel_rfl) ?_ (fun hSS => ?_)
        focus ((refine ⟨?_, ?_, ?_⟩; all_goals first | (simp [hY9]; done) | (simp [hY8]; done) | (simp [hY]; done)))
        refine wpAnyH_take (i := 0) (v := ?_) rfl (by kernel_rfl) (by kernel_rfl) (by kernel_rfl) (fun _ _ _ h => h) (Or.inl ⟨by rfl, ?_⟩) (by assumption) ?_
        rotate_left
        focus (intro w hSw; (try dsimp only at hSw); go_simp; try with_reducible rfl)
        try simp only [Act.put, List.setIfInBounds_toArray, List.set_cons_zero, List.set_cons_succ]
        refine wpAnyH_take (i := 1) (v := ?_) rfl (by kernel_rfl) (by kernel_rfl) (by kernel_rfl) (fun _ _ _ h => h) (Or.inl ⟨by rfl, ?_⟩) (by assumption) ?_
        rotate_left
        focus (intro w hSw; (try dsimp only at hSw); go_simp; try with_reducible rfl)
        try simp only [Act.put, List.setIfInBounds_toArray, List.set_cons_zero, List.set_cons_succ]
        refine wpAnyH_take (i := 2) (v := ?_) rfl (by kernel_rfl) (by kernel_rfl) (by kernel_rfl) (fun _ _ _ h => h) (Or.inl ⟨by rfl, ?_⟩) (by assumption) ?_
        rotate_left
        focus (intro w hSw; (try dsimp only at hSw); go_simp; try with_reducible rfl)
        try simp only [Act.put, List.setIfInBounds_toArray, List.set_cons_zero, List.set_cons_succ]
        refine wpAnyH_take (i := 3) (v := ?_) rfl (by kernel_rfl) (by kernel_rfl) (by kernel_rfl) (fun _ _ _ h => h) (Or.inl ⟨by rfl, ?_⟩) (by assumption) ?_
        rotate_left
        focus (intro w hSw; (try dsimp only at hSw); go_simp; try with_reducible rfl)
        try simp only [Act.put, List.setIfInBounds_toArray, List.set_cons_zero, List.set_cons_succ]
        refine wpAnyH_take (i := 4) (v := ?_) rfl (by kernel_rfl) (by kernel_rfl) (by kernel_rfl) (fun _ _ _ h => h) (Or.inl ⟨by rfl, ?_⟩) (by assumption) ?_
        rotate_left
        focus (intro w hSw; (try dsimp only at hSw); go_simp; try with_reducible rfl)
        try simp only [Act.put, List.setIfInBounds_toArray, List.set_cons_zero, List.set_cons_succ]
        refine wpAnyH_take (i := 5) (v := ?_) rfl (by kernel_rfl) (by kernel_rfl) (by kernel_rfl) (fun _ _ _ h => h) (Or.inl ⟨by rfl, ?_⟩) (by assumption) ?_
        rotate_left
        focus (intro w hSw; (try dsimp only at hSw); go_simp; try with_reducible rfl)
        try simp only [Act.put, List.setIfInBounds_toArray, List.set_cons_zero, List.set_cons_succ]
        refine wpAnyH_take (i := 6) (v := ?_) rfl (by kernel_rfl) (by kernel_rfl) (by kernel_rfl) (fun _ _ _ h => h) (Or.inl ⟨by rfl, ?_⟩) (by assumption) ?_
        rotate_left
        focus (intro w hSw; (try dsimp only at hSw); go_simp; try with_reducible rfl)
        try simp only [Act.put, List.setIfInBounds_toArray, List.set_cons_zero, List.set_cons_succ]
        refine wpAnyH_ready (rs := [7]) (by kernel_rfl) (by simp) ?_
        refine AllReadyH.cons (o := _) rfl (fun KK hKK => ?_) AllReadyH.nil
        go_simp
        (go_at_call 106; refine (cB1 _).mono ?_; rintro e w8 ⟨rfl, hb8⟩; have hb8 : Below wr.heap.size wr w8 := below_undrew hb8; have z8 := hb8.size; have hK8 := hK.below hb8 (by omega); have g8 := g.trans (hb8.mono (by omega)); have hY8 := hK8.cell)
        refine hKK.out _ _ ?_ (fun hSS => ?_)
        focus ((refine ⟨?_, ?_, ?_⟩; all_goals first | (simp [hY9]; done) | (simp [hY8]; done) | (simp [hY]; done)))
        try simp only [Act.put, List.setIfInBounds_toArray, List.set_cons_zero, List.set_cons_succ]
        refine wpAnyH_ready (rs := [8]) (by kernel_rfl) (by simp) ?_
        refine AllReadyH.cons (o := _) rfl (fun KK hKK => ?_) AllReadyH.nil
        go_simp
        (go_at_call 70; refine (cT1 _).mono ?_; rintro e w9 ⟨rfl, hb9⟩; have z9 := hb9.size; have hK9 := hK8.below hb9 (by omega); have g9 := g8.trans (hb9.mono (by omega)); have hY9 := hK9.cell)
        refine hKK.out _ _ ?_ (fun hSS => ?_)
        focus ((refine ⟨?_, ?_, ?_⟩; all_goals first | (simp [hY9]; done) | (simp [hY8]; done) | (simp [hY]; done)))
        try simp only [Act.put, List.setIfInBounds_toArray, List.set_cons_zero, List.set_cons_succ]
        refine wpAnyH_take (i := 9) (v := ?_) rfl (by kernel_rfl) (by kernel_rfl) (by kernel_rfl) (fun _ _ _ h => h) (Or.inl ⟨by rfl, ?_⟩) (by assumption) ?_
        rotate_left
        focus (intro w hSw; (try dsimp only at hSw); go_simp; try with_reducible rfl)
        try simp only [Act.put, List.setIfInBounds_toArray, List.set_cons_zero, List.set_cons_succ]
        refine wpAnyH_take (i := 10) (v := ?_) rfl (by kernel_rfl) (by kernel_rfl) (by kernel_rfl) (fun _ _ _ h => h) (Or.inl ⟨by rfl, ?_⟩) (by assumption) ?_
        rotate_left
        focus (intro w hSw; (try dsimp only at hSw); go_simp; try with_reducible rfl)
        try simp only [Act.put, List.setIfInBounds_toArray, List.set_cons_zero, List.set_cons_succ]
        refine wpAnyH_done (by kernel_rfl) ?_ _
        simp only [List.getElem_toArray, List.getElem_cons_succ, List.getElem_cons_zero, Act.put, List.setIfInBounds_toArray, List.set_cons_zero, List.set_cons_succ]
        go_wp2
        go_roundw
        case rel => exact ⟨D.drop size, X ++ (blkW o l m dict (q : Int) (D.take size)).text, q + 1, k', by go_num, by first | rfl | (simp; done), by first | rfl | (simp [sv]; done), by simp; omega, by simp; omega, by simp; omega, by simp; omega, by show _ = _; rw [HG2.out, List.append_assoc], hK9, g9⟩
        case measure => simp [strNn]; omega
def mkC (o l m : Int) (dict d : Bs) (size : Int) : Option Bs := if fits o l m dict ∧ 1 ≤ size ∧ size ≤ 64 ∧ (d.length : Int) ≤ size * 40 ∧ d.length ≤ 2000 then some (mkB o l m dict size.toNat 0 d) else none
theorem mkC_len {o l m : Int} {dict d : Bs} {size : Int} {x : Bs} (h : mkC o l m dict d size = some x) : x.length ≤ 22000 := by
  unfold mkC at h
  split at h
  · rename_i hc
    injection h with h
    subst h
    have := mkGo_len o l m dict size.toNat (by omega) d.length 0 d
    unfold mkB; omega
  · cases h
set_option maxHeartbeats 2000000 in
theorem makeContainer_any (o l m : Int) (dict d : Bs) (size : Int) (w : World) (hl : dict.length ≤ 9223372036854775807) (hd : d.length ≤ 9223372036854775807) (hs0 : -1000000 ≤ size) (hs1 : size ≤ 1000000) :
    Calls Try.prog 83 #[.agg #[.int .i64 o, .int .i64 l, .int .i64 m], .string ⟨dict.toArray⟩, sv d, .int .i64 size] w fun e w' => e = cmRes (mkC o l m dict d size) ∧ Below w.heap.size w w' := by
  have cR : Go.RowKit.Hid (∀ w, Calls Try.prog 97 #[.agg #[.int .i64 o, .int .i64 l, .int .i64 m], .string ⟨dict.toArray⟩] w fun e w' => e = .returned (.bool (decide (fits o l m dict))) ∧ Below w.heap.size w w') := fun w => l5Ready_any o l m dict w hl
  have g0 : Below w.heap.size w (w.alloc (.cells #[.int .i64 o, .int .i64 l, .int .i64 m] 69)) := (by repeat (first | (with_reducible exact Below.refl _ _) | (with_reducible assumption) | (with_reducible refine Below.drew ?_) | (with_reducible refine Below.alloc ?_ (by first | omega | (simp <;> omega)) _) | (with_reducible refine Below.setCell ?_ (by first | omega | (simp <;> omega)) _) | (with_reducible refine belowN ?_ _)))
  have hNO : Go.RowKit.Hid (¬ (fits o l m dict ∧ 1 ≤ size ∧ size ≤ 64 ∧ (d.length : Int) ≤ size * 40 ∧ d.length ≤ 2000) → cmRes (mkC o l m dict d size) = .returned (.tuple #[sv [], .bool false])) := fun h => by unfold mkC; rw [if_neg h]; rfl
  have hYES : Go.RowKit.Hid ((fits o l m dict ∧ 1 ≤ size ∧ size ≤ 64 ∧ (d.length : Int) ≤ size * 40 ∧ d.length ≤ 2000) → cmRes (mkC o l m dict d size) = .returned (.tuple #[sv (mkB o l m dict size.toNat 0 d), .bool true])) := fun h => by unfold mkC; rw [if_pos h]; rfl
  generalize cmRes (mkC o l m dict d size) = G at *
  by_cases h1 : fits o l m dict
  case neg =>
    have hN := Go.Lib.hid (hNO.out (fun h => h1 h.1))
    have hdf : decide (fits o l m dict) = false := decide_eq_false h1
    clear h1 hNO hYES
    go_enter Try.func83, Try.ntmps83
    go_wp2_with fail
    refine (cR.out _).mono ?_
    rintro e w2 ⟨rfl, hb2⟩
    have g2 := g0.trans (hb2.mono (by simp))
    go_wp2
    go_ret2
    exact ⟨hN.out.symm, g2⟩
  have hdf : decide (fits o l m dict) = true := decide_eq_true h1
  by_cases h2 : 1 ≤ size ∧ size ≤ 64
  case neg =>
    have hN := Go.Lib.hid (hNO.out (fun h => h2 ⟨h.2.1, h.2.2.1⟩))
    have hdi : decide (1 ≤ size ∧ size ≤ 64) = false := decide_eq_false h2
    clear h1 hNO hYES
    go_enter Try.func83, Try.ntmps83
    go_wp2_with fail
    refine (cR.out _).mono ?_
    rintro e w2 ⟨rfl, hb2⟩
    have g2 := g0.trans (hb2.mono (by simp))
    go_wp2_with (go_at_call 51; refine (l1In_any _ _ _ _).mono ?_; rintro e w' ⟨rfl, rfl⟩)
    go_ret2
    exact ⟨hN.out.symm, g2⟩
  have hdi : decide (1 ≤ size ∧ size ≤ 64) = true := decide_eq_true h2
  obtain ⟨h2a, h2b⟩ := h2
  obtain ⟨n, rfl⟩ := Int.eq_ofNat_of_zero_le (by omega : 0 ≤ size)
  by_cases h3 : (d.length : Int) ≤ (n : Int) * 40
  case neg =>
    have hN := Go.Lib.hid (hNO.out (fun h => h3 h.2.2.2.1))
    have h3' : (n : Int) * 40 < d.length := by omega
    clear h1 hNO hYES
    go_enter Try.func83, Try.ntmps83
    go_wp2_with fail
    refine (cR.out _).mono ?_
    rintro e w2 ⟨rfl, hb2⟩
    have g2 := g0.trans (hb2.mono (by simp))
    go_wp2_with (go_at_call 51; refine (l1In_any _ _ _ _).mono ?_; rintro e w' ⟨rfl, rfl⟩)
    go_ret2
    exact ⟨hN.out.symm, g2⟩
  have h3' : ¬ (n : Int) * 40 < d.length := by omega
  by_cases h4 : d.length ≤ 2000
  case neg =>
    have hN := Go.Lib.hid (hNO.out (fun h => h4 h.2.2.2.2))
    have h4' : (2000 : Int) < d.length := by omega
    clear h1 hNO hYES
    go_enter Try.func83, Try.ntmps83
    go_wp2_with fail
    refine (cR.out _).mono ?_
    rintro e w2 ⟨rfl, hb2⟩
    have g2 := g0.trans (hb2.mono (by simp))
    go_wp2_with (go_at_call 51; refine (l1In_any _ _ _ _).mono ?_; rintro e w' ⟨rfl, rfl⟩)
    go_ret2
    exact ⟨hN.out.symm, g2⟩
  have h4' : ¬ (2000 : Int) < d.length := by omega
  have hY := Go.Lib.hid (hYES.out ⟨h1, h2a, h2b, h3, h4⟩)
  have cM : Go.RowKit.Hid (∀ w, Calls Try.prog 98 #[.agg #[.int .i64 o, .int .i64 l, .int .i64 m], .string ⟨dict.toArray⟩, .int .i64 0, sv d, .int .i64 (n : Int)] w fun e w' => e = .returned (sv (mkB o l m dict n 0 d)) ∧ Below w.heap.size w w') := fun w => l5Make_any o l m dict n 0 d w h1 (by omega) (by omega) h4 (by omega)
  rw [Int.toNat_natCast] at hY
  clear h1 hNO hYES
  generalize mkB o l m dict n 0 d = R at *
  go_enter Try.func83, Try.ntmps83
  go_wp2_with fail
  have hI := Bk.new w #[.int .i64 o, .int .i64 l, .int .i64 m] 69
  refine (cR.out _).mono ?_
  rintro e w2 ⟨rfl, hb2⟩
  have g2 := g0.trans (hb2.mono (by simp))
  have hX := (hI.below hb2 (by simp)).cell
  go_wp2_with (first | (go_at_call 51; refine (l1In_any _ _ _ _).mono ?_; rintro e w' ⟨rfl, rfl⟩) | (go_at_call 98; refine (cM.out _).mono ?_; rintro e w4 ⟨rfl, hb4⟩; have z4 := hb4.size))
  go_ret2
  exact ⟨hY.out.symm, g2.trans (hb4.mono (by have := hb2.size; simp at this; omega))⟩
end Go.Proofs.Ytgcjfddkgbigoaa
