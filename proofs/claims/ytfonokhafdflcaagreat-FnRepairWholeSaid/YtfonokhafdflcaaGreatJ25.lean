/- Walks: blocks made of data, by the program. -/
import Derived.Test.YtfonokhafdflcaaGreatJ24
import Derived.Test.YtfonokhafdflcaaGreatQ9
import Derived.Deep.Cut
namespace Go.Proofs.YtfonokhafdflcaaGreat
open Go.RowKit
set_option linter.unusedVariables false
set_option linter.unusedSimpArgs false
set_option maxRecDepth 100000
attribute [local go_sem high] run_index_S binOp_eql_S binOp_neq_S append_S toList_S size_S run_slice_S run_slice_from_S run_slice_to_S wrap64_byteAt wrap64_byteAt_mul bits_or_bytes convU conv1_some convU2 conv2_some
set_option maxHeartbeats 1000000 in
theorem makeBlock_any (K : Kn) (A : Option Addr) (cap : Nat) (d : Bs) (w : World) (hk : K.ok) (hs : Sl w A K.ps.length cap 2 (psV K.ps)) (hdl : d.length ≤ 1000000) :
    Calls Tryz.prog 52 #[knV K A cap, sv d] w fun e w' => e = .returned (bkV (blkK K 0 d)) ∧ Below w.heap.size w w' := by
  have cC : Go.RowKit.Hid (∀ wr, Below w.heap.size w wr → Calls Tryz.prog 73 #[knV K A cap, sv d] wr fun e w' => e = cmRes (compO K d) ∧ Below wr.heap.size wr w') := fun wr h => iCompress_any K A cap d wr hk (hs.below h) (by omega)
  unfold blkK
  clear hs hk
  generalize compO K d = O at *
  go_enter Tryz.func52, Tryz.ntmps52
  go_wp2_with fail
  have hK0 : Bk ((w.alloc (.cells (knC K A cap) 67)).alloc (.cells bkZC 38)) w.heap.size 67 (knC K A cap) := (by (repeat (first | (with_reducible assumption) | (with_reducible exact Bk.new _ _ _) | (with_reducible refine Bk.newAt _ _ _ (by simp; done)) | (with_reducible refine Bk.drew ?_) | (with_reducible refine Bk.drewN ?_ _) | (with_reducible refine Bk.alloc ?_ _))); done)
  have hI : Bk ((w.alloc (.cells (knC K A cap) 67)).alloc (.cells bkZC 38)) (w.heap.size + 1) 38 bkZC := (by (repeat (first | (with_reducible assumption) | (with_reducible exact Bk.new _ _ _) | (with_reducible refine Bk.newAt _ _ _ (by simp; done)) | (with_reducible refine Bk.drew ?_) | (with_reducible refine Bk.drewN ?_ _) | (with_reducible refine Bk.alloc ?_ _))); done)
  have g0 : Below w.heap.size w ((w.alloc (.cells (knC K A cap) 67)).alloc (.cells bkZC 38)) := (by repeat (first | (with_reducible exact Below.refl _ _) | (with_reducible assumption) | (with_reducible refine Below.drew ?_) | (with_reducible refine Below.alloc ?_ (by first | omega | (simp <;> omega)) _) | (with_reducible refine Below.setCell ?_ (by first | omega | (simp <;> omega)) _) | (with_reducible refine belowN ?_ _)))
  refine (cC.out _ g0).mono ?_
  generalize (w.alloc (.cells (knC K A cap) 67)).alloc (.cells bkZC 38) = w0 at *
  rintro e w2 ⟨rfl, hb2⟩
  have z0 := hI.lt
  have hI2 := hI.below hb2 (by omega)
  have g2 := g0.trans (hb2.mono (by omega))
  have hX := hI2.cell
  have hF := hI2.free
  clear cC hb2 hI hK0 g0
  cases O with
  | none =>
    unfold cmRes
    go_wp2
    have Q := ((((hI2.set 0 (.int .i64 0)).set 1 (.bool true)).set 2 (.int .i64 (d.length : Int))).set 3 (.string ⟨d.toArray⟩)).cell
    exact bodyPost_ret (v := bkV ⟨0, true, d.length, d⟩) (by simp [results, Tryz.results52, go_sem, Q]) rfl ⟨rfl, (by repeat (first | (with_reducible exact Below.refl _ _) | (with_reducible assumption) | (with_reducible refine Below.drew ?_) | (with_reducible refine Below.alloc ?_ (by first | omega | (simp <;> omega)) _) | (with_reducible refine Below.setCell ?_ (by first | omega | (simp <;> omega)) _) | (with_reducible refine belowN ?_ _)))⟩
  | some s =>
    unfold cmRes
    by_cases hc : s.length < d.length
    · have hc' : (s.length : Int) < d.length := by omega
      simp only [if_pos hc]
      go_wp2
      have Q := ((((hI2.set 0 (.int .i64 0)).set 1 (.bool false)).set 2 (.int .i64 (d.length : Int))).set 3 (.string ⟨s.toArray⟩)).cell
      exact bodyPost_ret (v := bkV ⟨0, false, d.length, s⟩) (by simp [results, Tryz.results52, go_sem, Q]) rfl ⟨rfl, (by repeat (first | (with_reducible exact Below.refl _ _) | (with_reducible assumption) | (with_reducible refine Below.drew ?_) | (with_reducible refine Below.alloc ?_ (by first | omega | (simp <;> omega)) _) | (with_reducible refine Below.setCell ?_ (by first | omega | (simp <;> omega)) _) | (with_reducible refine belowN ?_ _)))⟩
    · have hc' : ¬ (s.length : Int) < d.length := by omega
      simp only [if_neg hc]
      go_wp2
      have Q := ((((hI2.set 0 (.int .i64 0)).set 1 (.bool true)).set 2 (.int .i64 (d.length : Int))).set 3 (.string ⟨d.toArray⟩)).cell
      exact bodyPost_ret (v := bkV ⟨0, true, d.length, d⟩) (by simp [results, Tryz.results52, go_sem, Q]) rfl ⟨rfl, (by repeat (first | (with_reducible exact Below.refl _ _) | (with_reducible assumption) | (with_reducible refine Below.drew ?_) | (with_reducible refine Below.alloc ?_ (by first | omega | (simp <;> omega)) _) | (with_reducible refine Below.setCell ?_ (by first | omega | (simp <;> omega)) _) | (with_reducible refine belowN ?_ _)))⟩
/-- Blocks in a row of their own. -/
def BkR (bs : List Blk) (w : World) (e : Ending) (w' : World) : Prop := ∃ A cap, e = .returned (.slice A bs.length cap) ∧ w'.ownsRow w.heap.size 38 4 (.slice A bs.length cap) bs.length (bksV bs) ∧ Below w.heap.size w w'
set_option maxHeartbeats 2000000 in
theorem makeBlocks_any (K : Kn) (A : Option Addr) (cap : Nat) (d : Bs) (size : Nat) (w : World) (hk : K.ok) (hs : Sl w A K.ps.length cap 2 (psV K.ps)) (hs1 : 1 ≤ size) (hs2 : size ≤ 64) (hdl : d.length ≤ 2000) :
    Calls Tryz.prog 29 #[knV K A cap, sv d, .int .i64 (size : Int)] w (BkR (mks K size d.length d) w) := by
  obtain ⟨i, hi, hz0, hz1, hz2⟩ := info_parts info_block
  have cM : Go.RowKit.Hid (∀ (x : Bs) wr, Below w.heap.size w wr → x.length ≤ 2000 → Calls Tryz.prog 52 #[knV K A cap, sv x] wr fun e w' => e = .returned (bkV (blkK K 0 x)) ∧ Below wr.heap.size wr w') := fun x wr h hx => makeBlock_any K A cap x wr hk (hs.below h) (by omega)
  have HG0 : Go.RowKit.Hid (mks K size d.length d = [] ++ mks K size d.length (d.drop 0)) := rfl
  generalize mks K size d.length d = ALL at *
  unfold BkR
  clear hs hk
  have o0 : w.ownsRow (w.heap.size + 1) 38 4 (.slice none ([] : List Blk).length 0) ([] : List Blk).length (bksV []) := ⟨by simp [bksV], .inl ⟨rfl, rfl⟩⟩
  go_enter Tryz.func29, Tryz.ntmps29
  have hK0 : Bk (w.alloc (.cells (knC K A cap) 67)) w.heap.size 67 (knC K A cap) := (by (repeat (first | (with_reducible assumption) | (with_reducible exact Bk.new _ _ _) | (with_reducible refine Bk.newAt _ _ _ (by simp; done)) | (with_reducible refine Bk.drew ?_) | (with_reducible refine Bk.drewN ?_ _) | (with_reducible refine Bk.alloc ?_ _))); done)
  have g0 : Below w.heap.size w (w.alloc (.cells (knC K A cap) 67)) := (by repeat (first | (with_reducible exact Below.refl _ _) | (with_reducible assumption) | (with_reducible refine Below.drew ?_) | (with_reducible refine Below.alloc ?_ (by first | omega | (simp <;> omega)) _) | (with_reducible refine Below.setCell ?_ (by first | omega | (simp <;> omega)) _) | (with_reducible refine belowN ?_ _)))
  have o1 : (w.alloc (.cells (knC K A cap) 67)).ownsRow (w.heap.size + 1) 38 4 (.slice none ([] : List Blk).length 0) ([] : List Blk).length (bksV []) := o0.alloc _
  go_upto_region 1 with (fail)
  generalize w.alloc (.cells (knC K A cap) 67) = w0 at *
  clear o0
  go_wp2
  go_loopw [7, 8] (fun a v wr => ∃ (f j : Nat) (P : List Blk) (Ao : Option Addr) (co : Nat), a = .slice Ao P.length co ∧ v = .int .i64 (f : Int) ∧ f ≤ d.length + 64 ∧ P.length ≤ f ∧ Go.RowKit.Hid (ALL = P ++ mks K size j (d.drop f)) ∧ d.length ≤ f + j ∧ wr.ownsRow (w.heap.size + 1) 38 4 (.slice Ao P.length co) P.length (bksV P) ∧ Bk wr w.heap.size 67 (knC K A cap) ∧ Below w.heap.size w wr) (fun _ v _ => d.length + 64 - (intOf v).toNat)
  case atStart => exact ⟨0, d.length, [], none, 0, rfl, rfl, by omega, by simp, HG0, by omega, o1, hK0, g0⟩
  case round =>
    obtain ⟨f, j, P, Ao, co, rfl, rfl, hf, hPf, HG, hj, o, hK, g⟩ := hrel
    clear hK0 g0 o1 HG0
    have hz := g.size
    have hkl := hK.lt
    by_cases hlt : f < d.length
    · have hfi : (f : Int) < d.length := by omega
      obtain ⟨j', rfl⟩ : ∃ j', j = j' + 1 := ⟨j - 1, by omega⟩
      have hne : d.drop f ≠ [] := by intro h; have := congrArg List.length h; simp at this; omega
      obtain ⟨e, he⟩ : ∃ e : Nat, e = min (f + size) d.length := ⟨_, rfl⟩
      have hmi : min ((f : Int) + (size : Int)) (d.length : Int) = (e : Int) := by omega
      have hef : f ≤ e := by omega
      have hel : e ≤ d.length := by omega
      have htk : (d.drop f).take (e - f) = (d.drop f).take size := by
        by_cases h : f + size ≤ d.length
        · rw [show e - f = size by omega]
        · rw [List.take_of_length_le (by simp; omega), List.take_of_length_le (by simp; omega)]
      have HG2 : Go.RowKit.Hid (ALL = (P ++ [blkK K 0 ((d.drop f).take (e - f))]) ++ mks K size j' (d.drop (f + size))) := by
        show _ = _
        rw [HG.out, mks_go _ _ _ hne, List.drop_drop, htk]; simp
      have cMx := fun wr h => cM.out ((d.drop f).take (e - f)) wr h (by simp; omega)
      obtain ⟨b, hb⟩ : ∃ b, blkK K 0 ((d.drop f).take (e - f)) = b := ⟨_, rfl⟩
      rw [hb] at HG2 cMx
      have hw1 : IntKind.i64.wrap ((f : Int) + (size : Int)) = (f : Int) + (size : Int) := IntWalk.i64_in _ (by omega)
      have hm1 : P.length + 1 ≤ maxLen := by unfold maxLen; omega
      have hm2 : (P.length + 1) * 40 ≤ 140737488355328 := by omega
      clear hb htk HG he hne
      obtain ⟨n2, r, n4, D⟩ := b
      have hX6 := hK.cell
      go_wp2_with fail
      refine wp_region_held_drew (S := (fun w' => w'.cell? ⟨w.heap.size, 0, none⟩ = some (.int .i64 K.o) ∧ w'.cell? ⟨w.heap.size, 1, none⟩ = some (.int .i64 K.l) ∧ w'.cell? ⟨w.heap.size, 2, none⟩ = some (.int .i64 K.m) ∧ w'.cell? ⟨w.heap.size, 3, none⟩ = some (.slice A K.ps.length cap) ∧ w'.cell? ⟨w.heap.size, 4, none⟩ = some (.int .i64 K.base) ∧ w'.cell? ⟨w.heap.size, 5, none⟩ = some (.int .i64 K.last))) (by kernel_rfl) ?_ (fun hSS => ?_)
      focus ((refine ⟨?_, ?_, ?_, ?_, ?_, ?_⟩; all_goals first | (simp [hX10]; done) | (simp [hX8]; done) | (simp [hX6]; done) | exact (hK8.alloc _).cell 0 | exact (hK8.alloc _).cell 1 | exact (hK8.alloc _).cell 2 | exact (hK8.alloc _).cell 3 | exact (hK8.alloc _).cell 4 | exact (hK8.alloc _).cell 5))
      refine wpAnyH_take (i := 0) (v := ?_) rfl (by kernel_rfl) (by kernel_rfl) (by kernel_rfl) (fun _ _ _ h => h) (Or.inl ⟨by rfl, ?_⟩) (by assumption) ?_
      rotate_left
      focus (intro w hSw; (try dsimp only at hSw); go_simp; try with_reducible rfl)
      try simp only [Act.put, List.setIfInBounds_toArray, List.set_cons_zero, List.set_cons_succ]
      refine wpAnyH_take (i := 1) (v := ?_) rfl (by kernel_rfl) (by kernel_rfl) (by kernel_rfl) (fun _ _ _ h => h) (Or.inl ⟨by rfl, ?_⟩) (by assumption) ?_
      rotate_left
      focus (intro w hSw; (try dsimp only at hSw); go_simp; try with_reducible rfl)
      try simp only [Act.put, List.setIfInBounds_toArray, List.set_cons_zero, List.set_cons_succ]
      refine wpAnyH_take (i := 2) (v := ?_) rfl (by kernel_rfl) (by kernel_rfl) (by kernel_rfl) (fun _ _ _ h => h) (Or.inl ⟨by rfl, ?_⟩) (by assumption) ?_
      rotate_left
      focus (intro w hSw; (try dsimp only at hSw); go_simp; try with_reducible rfl)
      try simp only [Act.put, List.setIfInBounds_toArray, List.set_cons_zero, List.set_cons_succ]
      refine wpAnyH_take (i := 3) (v := ?_) rfl (by kernel_rfl) (by kernel_rfl) (by kernel_rfl) (fun _ _ _ h => h) (Or.inl ⟨by rfl, ?_⟩) (by assumption) ?_
      rotate_left
      focus (intro w hSw; (try dsimp only at hSw); go_simp; try with_reducible rfl)
      try simp only [Act.put, List.setIfInBounds_toArray, List.set_cons_zero, List.set_cons_succ]
      refine wpAnyH_take (i := 4) (v := ?_) rfl (by kernel_rfl) (by kernel_rfl) (by kernel_rfl) (fun _ _ _ h => h) (Or.inl ⟨by rfl, ?_⟩) (by assumption) ?_
      rotate_left
      focus (intro w hSw; (try dsimp only at hSw); go_simp; try with_reducible rfl)
      try simp only [Act.put, List.setIfInBounds_toArray, List.set_cons_zero, List.set_cons_succ]
      refine wpAnyH_take (i := 5) (v := ?_) rfl (by kernel_rfl) (by kernel_rfl) (by kernel_rfl) (fun _ _ _ h => h) (Or.inl ⟨by rfl, ?_⟩) (by assumption) ?_
      rotate_left
      focus (intro w hSw; (try dsimp only at hSw); go_simp; try with_reducible rfl)
      try simp only [Act.put, List.setIfInBounds_toArray, List.set_cons_zero, List.set_cons_succ]
      refine wpAnyH_take (i := 6) (v := ?_) rfl (by kernel_rfl) (by kernel_rfl) (by kernel_rfl) (fun _ _ _ h => h) (Or.inl ⟨by rfl, ?_⟩) (by assumption) ?_
      rotate_left
      focus (intro w hSw; (try dsimp only at hSw); go_simp; try with_reducible rfl)
      try simp only [Act.put, List.setIfInBounds_toArray, List.set_cons_zero, List.set_cons_succ]
      refine wpAnyH_take (i := 7) (v := ?_) rfl (by kernel_rfl) (by kernel_rfl) (by kernel_rfl) (fun _ _ _ h => h) (Or.inl ⟨by rfl, ?_⟩) (by assumption) ?_
      rotate_left
      focus (intro w hSw; (try dsimp only at hSw); go_simp; try with_reducible rfl)
      try simp only [Act.put, List.setIfInBounds_toArray, List.set_cons_zero, List.set_cons_succ]
      refine wpAnyH_take (i := 8) (v := ?_) rfl (by kernel_rfl) (by kernel_rfl) (by kernel_rfl) (fun _ _ _ h => h) (Or.inl ⟨by rfl, ?_⟩) (by assumption) ?_
      rotate_left
      focus (intro w hSw; (try dsimp only at hSw); go_simp; try with_reducible rfl)
      try simp only [Act.put, List.setIfInBounds_toArray, List.set_cons_zero, List.set_cons_succ]
      refine wpAnyH_take (i := 9) (v := ?_) rfl (by kernel_rfl) (by kernel_rfl) (by kernel_rfl) (fun _ _ _ h => h) (Or.inl ⟨by rfl, ?_⟩) (by assumption) ?_
      rotate_left
      focus (intro w hSw; (try dsimp only at hSw); go_simp; try with_reducible rfl)
      try simp only [Act.put, List.setIfInBounds_toArray, List.set_cons_zero, List.set_cons_succ]
      refine wpAnyH_take (i := 10) (v := ?_) rfl (by kernel_rfl) (by kernel_rfl) (by kernel_rfl) (fun _ _ _ h => h) (Or.inl ⟨by rfl, ?_⟩) (by assumption) ?_
      rotate_left
      focus (intro w hSw; (try dsimp only at hSw); go_simp; try with_reducible rfl)
      try simp only [Act.put, List.setIfInBounds_toArray, List.set_cons_zero, List.set_cons_succ]
      refine wpAnyH_ready (rs := [11]) (by kernel_rfl) (by simp) ?_
      refine AllReadyH.cons (o := _) rfl (fun KK hKK => ?_) AllReadyH.nil
      go_simp
      (go_at_call 52; refine (cMx _ (by repeat (first | (with_reducible exact Below.refl _ _) | (with_reducible assumption) | (with_reducible refine Below.drew ?_) | (with_reducible refine Below.alloc ?_ (by first | omega | (simp <;> omega)) _) | (with_reducible refine Below.setCell ?_ (by first | omega | (simp <;> omega)) _) | (with_reducible refine belowN ?_ _) | (with_reducible refine Below.trans ?_ (Below.mono (by with_reducible assumption) (by first | omega | (simp <;> omega))))))).mono ?_; rintro e8 w8 ⟨rfl, b8⟩; have b8 : Below wr.heap.size wr w8 := below_undrew b8; have z8 := b8.size; have hK8 := hK.below b8 hkl; have o8 := owns_keep o b8; have g8 := g.trans (b8.mono (by omega)); have hX8 := hK8.cell)
      refine hKK.out _ _ ?_ (fun hSS => ?_)
      focus ((refine ⟨?_, ?_, ?_, ?_, ?_, ?_⟩; all_goals first | (simp [hX10]; done) | (simp [hX8]; done) | (simp [hX6]; done) | exact (hK8.alloc _).cell 0 | exact (hK8.alloc _).cell 1 | exact (hK8.alloc _).cell 2 | exact (hK8.alloc _).cell 3 | exact (hK8.alloc _).cell 4 | exact (hK8.alloc _).cell 5))
      try simp only [Act.put, List.setIfInBounds_toArray, List.set_cons_zero, List.set_cons_succ]
      refine wpAnyH_ready (rs := [12]) (by kernel_rfl) (by simp) ?_
      refine AllReadyH.cons (o := _) rfl (fun KK hKK => ?_) AllReadyH.nil
      go_simp
      refine hKK.out _ _ ?_ (fun hSS => ?_)
      focus ((refine ⟨?_, ?_, ?_, ?_, ?_, ?_⟩; all_goals first | (simp [hX10]; done) | (simp [hX8]; done) | (simp [hX6]; done) | exact (hK8.alloc _).cell 0 | exact (hK8.alloc _).cell 1 | exact (hK8.alloc _).cell 2 | exact (hK8.alloc _).cell 3 | exact (hK8.alloc _).cell 4 | exact (hK8.alloc _).cell 5))
      try simp only [Act.put, List.setIfInBounds_toArray, List.set_cons_zero, List.set_cons_succ]
      refine wpAnyH_ready (rs := [13]) (by kernel_rfl) (by simp) ?_
      refine AllReadyH.cons (o := _) rfl (fun KK hKK => ?_) AllReadyH.nil
      ((refine step_ap _ rfl _ _ 31 rfl (w.heap.size + 1) 38 i _ 4 40 Tryz.underlying31 hi hz0 hz1 hz2 rfl (by omega) (.slice Ao P.length co) P.length (bksV P) rfl (o8.alloc _) (some ⟨_, 0, none⟩) 1 1 [.int .i64 n2, .bool r, .int .i64 n4, .string ⟨D.toArray⟩] rfl (Sl.new w8 #[.int .i64 n2, .bool r, .int .i64 n4, .string ⟨D.toArray⟩] _ 1 4 (by simp) (by omega)) (by simp [Value.oneCell']) hm1 hm2 (by first | omega | (simp <;> omega)) ?_); intro A10 c10 w10 o10 hg10 hat10; have hK10 := Bk.grown (hK8.alloc _) hg10 (fun k hk => by have := (o8.lt k hk).1; omega); have g10 := (g8.alloc (by omega) _).grown hg10 (by simp; omega) (fun k hk => by have := (o8.lt k hk).1; omega); have hX10 := hK10.cell)
      refine hKK.out _ _ ?_ (fun hSS => ?_)
      focus ((refine ⟨?_, ?_, ?_, ?_, ?_, ?_⟩; all_goals first | (simp [hX10]; done) | (simp [hX8]; done) | (simp [hX6]; done) | exact (hK8.alloc _).cell 0 | exact (hK8.alloc _).cell 1 | exact (hK8.alloc _).cell 2 | exact (hK8.alloc _).cell 3 | exact (hK8.alloc _).cell 4 | exact (hK8.alloc _).cell 5))
      try simp only [Act.put, List.setIfInBounds_toArray, List.set_cons_zero, List.set_cons_succ]
      refine wpAnyH_take (i := 14) (v := ?_) rfl (by kernel_rfl) (by kernel_rfl) (by kernel_rfl) (fun _ _ _ h => h) (Or.inl ⟨by rfl, ?_⟩) (by assumption) ?_
      rotate_left
      focus (intro w hSw; (try dsimp only at hSw); go_simp; try with_reducible rfl)
      try simp only [Act.put, List.setIfInBounds_toArray, List.set_cons_zero, List.set_cons_succ]
      refine wpAnyH_done (by kernel_rfl) ?_ _
      simp only [List.getElem_toArray, List.getElem_cons_succ, List.getElem_cons_zero, Act.put, List.setIfInBounds_toArray, List.set_cons_zero, List.set_cons_succ]
      have hPl : (P ++ [(⟨n2, r, n4, D⟩ : Blk)]).length = P.length + 1 := by simp
      have o11 : w10.ownsRow (w.heap.size + 1) 38 4 (.slice A10 (P ++ [(⟨n2, r, n4, D⟩ : Blk)]).length c10) (P ++ [(⟨n2, r, n4, D⟩ : Blk)]).length (bksV (P ++ [(⟨n2, r, n4, D⟩ : Blk)])) := by rw [hPl, bksV_snoc]; exact o10
      rw [← hPl]
      have hPf2 : (P ++ [(⟨n2, r, n4, D⟩ : Blk)]).length ≤ f + size := by omega
      generalize P ++ [(⟨n2, r, n4, D⟩ : Blk)] = P2 at *
      clear hKK hw1 hmi hPl o10 hg10 hat10 cMx
      go_wp2
      go_roundw
      case rel => exact ⟨f + size, j', P2, A10, c10, rfl, by go_num, by omega, hPf2, HG2, by omega, o11, hK10, g10⟩
      case measure => simp [intOf]; omega
    · have hfi : ¬ (f : Int) < d.length := by omega
      have hE : ALL = P := by rw [HG.out, List.drop_eq_nil_of_le (by omega), mks_nil, List.append_nil]
      have HE := Go.Lib.hid hE
      clear hE HG
      go_wp2
      go_ret
      exact ⟨Ao, co, by rw [HE.out]; rfl, by rw [HE.out]; exact own_mono o (by omega), g⟩
end Go.Proofs.YtfonokhafdflcaaGreat
