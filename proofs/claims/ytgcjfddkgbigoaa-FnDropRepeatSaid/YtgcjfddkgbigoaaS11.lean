/- Walks: data compressed from what is known; what is known at the start, and learned. -/
import Derived.Test.YtgcjfddkgbigoaaS10
import Derived.Test.YtgcjfddkgbigoaaS7
namespace Go.Proofs.Ytgcjfddkgbigoaa
open Go.RowKit
set_option linter.unusedVariables false
set_option linter.unusedSimpArgs false
set_option maxRecDepth 100000
attribute [local go_sem high] run_index_S binOp_eql_S binOp_neq_S append_S toList_S size_S run_slice_S run_slice_from_S run_slice_to_S wrap64_byteAt wrap64_byteAt_mul bits_or_bytes convU conv1_some convU2 conv2_some
set_option maxHeartbeats 1000000 in
theorem l2Compress_any (K : Kn) (A : Option Addr) (cap : Nat) (d : Bs) (w : World) (hk : K.ok) (hs : Sl w A K.ps.length cap 2 (psV K.ps)) (hl : d.length ≤ 2000) (hf : d.all (litB K.l) = true) :
    Calls Try.prog 119 #[knV K A cap, .string ⟨d.toArray⟩] w fun e w' => e = .returned (.string ⟨(K.comp d).toArray⟩) ∧ Below w.heap.size w w' := by
  have hg := goes_greedy hk hf hl
  have hgl := greedy_length K d
  have cG : Go.RowKit.Hid (∀ wr, Below w.heap.size w wr → Calls Try.prog 126 #[knV K A cap, .string ⟨d.toArray⟩] wr fun e w' => ∃ (C : Option Addr) (cc : Nat), e = .returned (.slice C (K.greedy d).length cc) ∧ Sl w' C (K.greedy d).length cc 1 ((K.greedy d).map iv) ∧ Below wr.heap.size wr w') := fun wr h => by
    refine (l2Greedy_any K A cap d wr hk (hs.below h) (by omega) hf).mono ?_
    rintro e w' ⟨v, rfl, ho, hb⟩
    obtain ⟨C, cc, rfl, hS⟩ := Sl.of_own ho
    exact ⟨C, cc, rfl, hS, hb⟩
  have cP : Go.RowKit.Hid (∀ wr C cc, Below w.heap.size w wr → Sl wr C (K.greedy d).length cc 1 ((K.greedy d).map iv) → Calls Try.prog 125 #[knV K A cap, .slice C (K.greedy d).length cc] wr fun e w' => e = .returned (.string ⟨(K.bits (K.greedy d)).toArray⟩) ∧ Below wr.heap.size wr w') := fun wr C cc h hc => l2Pack_any K A cap C cc (K.greedy d) wr hk (hs.below h) hc (by omega) hg
  have hbl := bits_length hk hg
  have cL : Go.RowKit.Hid (∀ wr, Calls Try.prog 124 #[.int .i64 K.o, .string ⟨(K.bits (K.greedy d)).toArray⟩] wr fun e w' => e = .returned (.string ⟨(K.comp d).toArray⟩) ∧ Below wr.heap.size wr w') := fun wr => l1Pack_any K.o _ wr (by omega) (bits_bitsB _ _)
  clear hs hf hg hbl
  generalize K.comp d = R at *
  generalize K.bits (K.greedy d) = bt at *
  generalize (K.greedy d).map iv = gv at *
  generalize (K.greedy d).length = gl at *
  go_enter Try.func119, Try.ntmps119
  go_wp2_with fail
  have hK := Bk.new w (knC K A cap) 127
  have g : Below w.heap.size w (w.alloc (.cells (knC K A cap) 127)) := (by repeat (first | (with_reducible exact Below.refl _ _) | (with_reducible assumption) | (with_reducible refine Below.drew ?_) | (with_reducible refine Below.alloc ?_ (by first | omega | (simp <;> omega)) _) | (with_reducible refine Below.setCell ?_ (by first | omega | (simp <;> omega)) _) | (with_reducible refine belowN ?_ _)))
  have hX := hK.cell
  generalize w.alloc (.cells (knC K A cap) 127) = wr at *
  have hz := g.size
  have hlt := hK.lt
  refine wp_region_held_drew (S := (fun w' => w'.cell? ⟨w.heap.size, 0, none⟩ = some (.int .i64 K.o) ∧ w'.cell? ⟨w.heap.size, 1, none⟩ = some (.int .i64 K.l) ∧ w'.cell? ⟨w.heap.size, 2, none⟩ = some (.int .i64 K.m) ∧ w'.cell? ⟨w.heap.size, 3, none⟩ = some (.slice A K.ps.length cap) ∧ w'.cell? ⟨w.heap.size, 4, none⟩ = some (.int .i64 K.base) ∧ w'.cell? ⟨w.heap.size, 5, none⟩ = some (.int .i64 K.last))) (by kernel_rfl) ?_ (fun hSS => ?_)
  focus ((refine ⟨?_, ?_, ?_, ?_, ?_, ?_⟩; all_goals first | (simp [hX9]; done) | (simp [hX8]; done) | (simp [hX7]; done) | (simp [hX]; done)))
  refine wpAnyH_take (i := 0) (v := ?_) rfl (by kernel_rfl) (by kernel_rfl) (by kernel_rfl) (fun _ _ _ h => h) (Or.inl ⟨by rfl, ?_⟩) (by assumption) ?_
  rotate_left
  focus (intro w hSw; (try dsimp only at hSw); go_simp; try with_reducible rfl)
  try simp only [Act.put, List.setIfInBounds_toArray, List.set_cons_zero, List.set_cons_succ]
  refine wpAnyH_take (i := 1) (v := ?_) rfl (by kernel_rfl) (by kernel_rfl) (by kernel_rfl) (fun _ _ _ h => h) (Or.inl ⟨by rfl, ?_⟩) (by assumption) ?_
  rotate_left
  focus (intro w hSw; (try dsimp only at hSw); go_simp; try with_reducible rfl)
  try simp only [Act.put, List.setIfInBounds_toArray, List.set_cons_zero, List.set_cons_succ]
  refine wpAnyH_take (i := 2) (v := ?_) rfl (by kernel_rfl) (by kernel_rfl) (by kernel_rfl) (fun _ _ _ h => h) (Or.inl ⟨by rfl, ?_⟩) (by assumption) ?_
  rotate_left
  focus (intro w hSw; (try dsimp only at hSw); go_simp; try with_reducible rfl)
  try simp only [Act.put, List.setIfInBounds_toArray, List.set_cons_zero, List.set_cons_succ]
  refine wpAnyH_take (i := 3) (v := ?_) rfl (by kernel_rfl) (by kernel_rfl) (by kernel_rfl) (fun _ _ _ h => h) (Or.inl ⟨by rfl, ?_⟩) (by assumption) ?_
  rotate_left
  focus (intro w hSw; (try dsimp only at hSw); go_simp; try with_reducible rfl)
  try simp only [Act.put, List.setIfInBounds_toArray, List.set_cons_zero, List.set_cons_succ]
  refine wpAnyH_take (i := 4) (v := ?_) rfl (by kernel_rfl) (by kernel_rfl) (by kernel_rfl) (fun _ _ _ h => h) (Or.inl ⟨by rfl, ?_⟩) (by assumption) ?_
  rotate_left
  focus (intro w hSw; (try dsimp only at hSw); go_simp; try with_reducible rfl)
  try simp only [Act.put, List.setIfInBounds_toArray, List.set_cons_zero, List.set_cons_succ]
  refine wpAnyH_take (i := 5) (v := ?_) rfl (by kernel_rfl) (by kernel_rfl) (by kernel_rfl) (fun _ _ _ h => h) (Or.inl ⟨by rfl, ?_⟩) (by assumption) ?_
  rotate_left
  focus (intro w hSw; (try dsimp only at hSw); go_simp; try with_reducible rfl)
  try simp only [Act.put, List.setIfInBounds_toArray, List.set_cons_zero, List.set_cons_succ]
  refine wpAnyH_ready (rs := [6]) (by kernel_rfl) (by simp) ?_
  refine AllReadyH.cons (o := _) rfl (fun KK hKK => ?_) AllReadyH.nil
  go_simp
  (go_at_call 126; refine (cG.out _ (by repeat (first | (with_reducible exact Below.refl _ _) | (with_reducible assumption) | (with_reducible refine Below.drew ?_) | (with_reducible refine Below.alloc ?_ (by first | omega | (simp <;> omega)) _) | (with_reducible refine Below.setCell ?_ (by first | omega | (simp <;> omega)) _) | (with_reducible refine belowN ?_ _) | (with_reducible refine Below.trans ?_ (Below.mono (by with_reducible assumption) (by first | omega | (simp <;> omega))))))).mono ?_; rintro e w7 ⟨C, cc, rfl, hS7, hb7⟩; have hb7 : Below wr.heap.size wr w7 := below_undrew hb7; have z7 := hb7.size; have hK7 := hK.below hb7 (by omega); have g7 := g.trans (hb7.mono (by omega)); have hX7 := hK7.cell)
  refine hKK.out _ _ ?_ (fun hSS => ?_)
  focus ((refine ⟨?_, ?_, ?_, ?_, ?_, ?_⟩; all_goals first | (simp [hX9]; done) | (simp [hX8]; done) | (simp [hX7]; done) | (simp [hX]; done)))
  try simp only [Act.put, List.setIfInBounds_toArray, List.set_cons_zero, List.set_cons_succ]
  refine wpAnyH_ready (rs := [7]) (by kernel_rfl) (by simp) ?_
  refine AllReadyH.cons (o := _) rfl (fun KK hKK => ?_) AllReadyH.nil
  go_simp
  (go_at_call 125; refine (cP.out _ _ _ g7 hS7).mono ?_; rintro e w8 ⟨rfl, hb8⟩; have z8 := hb8.size; have hK8 := hK7.below hb8 (by omega); have g8 := g7.trans (hb8.mono (by omega)); have hX8 := hK8.cell)
  refine hKK.out _ _ ?_ (fun hSS => ?_)
  focus ((refine ⟨?_, ?_, ?_, ?_, ?_, ?_⟩; all_goals first | (simp [hX9]; done) | (simp [hX8]; done) | (simp [hX7]; done) | (simp [hX]; done)))
  try simp only [Act.put, List.setIfInBounds_toArray, List.set_cons_zero, List.set_cons_succ]
  refine wpAnyH_ready (rs := [8]) (by kernel_rfl) (by simp) ?_
  refine AllReadyH.cons (o := _) rfl (fun KK hKK => ?_) AllReadyH.nil
  go_simp
  (go_at_call 124; refine (cL.out _).mono ?_; rintro e w9 ⟨rfl, hb9⟩; have z9 := hb9.size; have hK9 := hK8.below hb9 (by omega); have g9 := g8.trans (hb9.mono (by omega)); have hX9 := hK9.cell)
  refine hKK.out _ _ ?_ (fun hSS => ?_)
  focus ((refine ⟨?_, ?_, ?_, ?_, ?_, ?_⟩; all_goals first | (simp [hX9]; done) | (simp [hX8]; done) | (simp [hX7]; done) | (simp [hX]; done)))
  try simp only [Act.put, List.setIfInBounds_toArray, List.set_cons_zero, List.set_cons_succ]
  refine wpAnyH_take (i := 9) (v := ?_) rfl (by kernel_rfl) (by kernel_rfl) (by kernel_rfl) (fun _ _ _ h => h) (Or.inl ⟨by rfl, ?_⟩) (by assumption) ?_
  rotate_left
  focus (intro w hSw; (try dsimp only at hSw); go_simp; try with_reducible rfl)
  try simp only [Act.put, List.setIfInBounds_toArray, List.set_cons_zero, List.set_cons_succ]
  refine wpAnyH_done (by kernel_rfl) ?_ _
  simp only [List.getElem_toArray, List.getElem_cons_succ, List.getElem_cons_zero, Act.put, List.setIfInBounds_toArray, List.set_cons_zero, List.set_cons_succ]
  go_wp2
  go_ret
  exact ⟨rfl, g9⟩
end Go.Proofs.Ytgcjfddkgbigoaa
