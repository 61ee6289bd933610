/- Walks: operations parsed by the program: the fields that are none; ParseOp; its law. -/
import Derived.Test.YtkoefklgfkhmpaaDoorW16
namespace Go.Proofs.YtkoefklgfkhmpaaDoor
open Go.RowKit
set_option linter.unusedVariables false
set_option maxRecDepth 100000
attribute [local go_sem high] run_index_S binOp_eql_S binOp_neq_S append_S toList_S size_S run_slice_S run_slice_from_S run_slice_to_S wrap64_byteAt wrap64_byteAt_mul bits_or_bytes convU conv1_some convU2 conv2_some
theorem fields_none4 (a b c d : Bs) (g cap : Nat) (w : World) (hsp : SlS w (some ⟨g, 0, none⟩) cap ([a, b, c, d])) (hg : g < w.heap.size) (h1 : ¬ a = wPut) (h2 : ¬ a = wAppend) :
    Calls Tryd.prog 31 #[.slice (some ⟨g, 0, none⟩) 4 cap] w (FieldRes ([a, b, c, d]) w) := by
  have HI : Go.RowKit.Hid (implCand ([a, b, c, d]) = none) := impl_none _ _ (fun _ h => h.elim h1 h2) (fun h => by simp at h) (fun h => by simp at h) (fun h => by simp at h)
  obtain ⟨_, _, hA0, _, hc0⟩ := SlS.at hsp (k := 0) (by simp)
  injection hA0 with hA0
  injection hA0 with e1 e2 _
  subst e1; subst e2
  rw [Nat.zero_add] at hc0
  have d1 : decide (a = wPut) = false := by simpa using h1
  have d2 : decide (a = wAppend) = false := by simpa using h2
  clear h1 h2
  go_enter Tryd.func31, Tryd.ntmps31
  go_wp2
  exact bodyPost_ret (v := .tuple #[opZ.val, .bool false]) (by simp [results, Tryd.results31, go_sem, opZ]) rfl ⟨opZ, false, rfl, HI.out, (by repeat (first | (with_reducible exact Below.refl _ _) | (with_reducible assumption) | (with_reducible refine Below.drew ?_) | (with_reducible refine Below.alloc ?_ (by first | omega | (simp <;> omega)) _) | (with_reducible refine Below.setCell ?_ (by first | omega | (simp <;> omega)) _) | (with_reducible refine belowN ?_ _)))⟩
theorem fields_none6 (a b c d e i : Bs) (g cap : Nat) (w : World) (hsp : SlS w (some ⟨g, 0, none⟩) cap ([a, b, c, d, e, i])) (hg : g < w.heap.size) (h1 : ¬ a = wReplace) :
    Calls Tryd.prog 31 #[.slice (some ⟨g, 0, none⟩) 6 cap] w (FieldRes ([a, b, c, d, e, i]) w) := by
  have HI : Go.RowKit.Hid (implCand ([a, b, c, d, e, i]) = none) := impl_none _ _ (fun h => by simp at h) (fun _ => h1) (fun h => by simp at h) (fun h => by simp at h)
  obtain ⟨_, _, hA0, _, hc0⟩ := SlS.at hsp (k := 0) (by simp)
  injection hA0 with hA0
  injection hA0 with e1 e2 _
  subst e1; subst e2
  rw [Nat.zero_add] at hc0
  have d1 : decide (a = wReplace) = false := by simpa using h1
  clear h1
  go_enter Tryd.func31, Tryd.ntmps31
  go_wp2
  exact bodyPost_ret (v := .tuple #[opZ.val, .bool false]) (by simp [results, Tryd.results31, go_sem, opZ]) rfl ⟨opZ, false, rfl, HI.out, (by repeat (first | (with_reducible exact Below.refl _ _) | (with_reducible assumption) | (with_reducible refine Below.drew ?_) | (with_reducible refine Below.alloc ?_ (by first | omega | (simp <;> omega)) _) | (with_reducible refine Below.setCell ?_ (by first | omega | (simp <;> omega)) _) | (with_reducible refine belowN ?_ _)))⟩
theorem fields_none3 (a b c : Bs) (g cap : Nat) (w : World) (hsp : SlS w (some ⟨g, 0, none⟩) cap ([a, b, c])) (hg : g < w.heap.size) (h1 : ¬ a = wMerge) :
    Calls Tryd.prog 31 #[.slice (some ⟨g, 0, none⟩) 3 cap] w (FieldRes ([a, b, c]) w) := by
  have HI : Go.RowKit.Hid (implCand ([a, b, c]) = none) := impl_none _ _ (fun h => by simp at h) (fun h => by simp at h) (fun _ => h1) (fun h => by simp at h)
  obtain ⟨_, _, hA0, _, hc0⟩ := SlS.at hsp (k := 0) (by simp)
  injection hA0 with hA0
  injection hA0 with e1 e2 _
  subst e1; subst e2
  rw [Nat.zero_add] at hc0
  have d1 : decide (a = wMerge) = false := by simpa using h1
  clear h1
  go_enter Tryd.func31, Tryd.ntmps31
  go_wp2
  exact bodyPost_ret (v := .tuple #[opZ.val, .bool false]) (by simp [results, Tryd.results31, go_sem, opZ]) rfl ⟨opZ, false, rfl, HI.out, (by repeat (first | (with_reducible exact Below.refl _ _) | (with_reducible assumption) | (with_reducible refine Below.drew ?_) | (with_reducible refine Below.alloc ?_ (by first | omega | (simp <;> omega)) _) | (with_reducible refine Below.setCell ?_ (by first | omega | (simp <;> omega)) _) | (with_reducible refine belowN ?_ _)))⟩
theorem fields_none2 (a b : Bs) (g cap : Nat) (w : World) (hsp : SlS w (some ⟨g, 0, none⟩) cap ([a, b])) (hg : g < w.heap.size) (h1 : ¬ a = wDelete) :
    Calls Tryd.prog 31 #[.slice (some ⟨g, 0, none⟩) 2 cap] w (FieldRes ([a, b]) w) := by
  have HI : Go.RowKit.Hid (implCand ([a, b]) = none) := impl_none _ _ (fun h => by simp at h) (fun h => by simp at h) (fun h => by simp at h) (fun _ => h1)
  obtain ⟨_, _, hA0, _, hc0⟩ := SlS.at hsp (k := 0) (by simp)
  injection hA0 with hA0
  injection hA0 with e1 e2 _
  subst e1; subst e2
  rw [Nat.zero_add] at hc0
  have d1 : decide (a = wDelete) = false := by simpa using h1
  clear h1
  go_enter Tryd.func31, Tryd.ntmps31
  go_wp2
  exact bodyPost_ret (v := .tuple #[opZ.val, .bool false]) (by simp [results, Tryd.results31, go_sem, opZ]) rfl ⟨opZ, false, rfl, HI.out, (by repeat (first | (with_reducible exact Below.refl _ _) | (with_reducible assumption) | (with_reducible refine Below.drew ?_) | (with_reducible refine Below.alloc ?_ (by first | omega | (simp <;> omega)) _) | (with_reducible refine Below.setCell ?_ (by first | omega | (simp <;> omega)) _) | (with_reducible refine belowN ?_ _)))⟩
theorem fields_noneX (a : Bs) (r : List Bs) (g cap : Nat) (w : World) (hsp : SlS w (some ⟨g, 0, none⟩) cap (a :: r)) (hg : g < w.heap.size) (h1 : r.length ≠ 3) (h2 : r.length ≠ 5) (h3 : r.length ≠ 2) (h4 : r.length ≠ 1) :
    Calls Tryd.prog 31 #[.slice (some ⟨g, 0, none⟩) (a :: r).length cap] w (FieldRes (a :: r) w) := by
  have HI : Go.RowKit.Hid (implCand (a :: r) = none) := impl_none _ _ (fun h => absurd h h1) (fun h => absurd h h2) (fun h => absurd h h3) (fun h => absurd h h4)
  obtain ⟨_, _, hA0, _, hc0⟩ := SlS.at hsp (k := 0) (by simp)
  injection hA0 with hA0
  injection hA0 with e1 e2 _
  subst e1; subst e2
  rw [Nat.zero_add] at hc0
  have d1 : ((r.length : Int) + 1 == 4) = false := by rw [beq_eq_false_iff_ne]; omega
  have d2 : ((r.length : Int) + 1 == 6) = false := by rw [beq_eq_false_iff_ne]; omega
  have d3 : ((r.length : Int) + 1 == 3) = false := by rw [beq_eq_false_iff_ne]; omega
  have d4 : ((r.length : Int) + 1 == 2) = false := by rw [beq_eq_false_iff_ne]; omega
  clear h1 h2 h3 h4
  go_enter Tryd.func31, Tryd.ntmps31
  go_wp2
  exact bodyPost_ret (v := .tuple #[opZ.val, .bool false]) (by simp [results, Tryd.results31, go_sem, opZ]) rfl ⟨opZ, false, rfl, HI.out, (by repeat (first | (with_reducible exact Below.refl _ _) | (with_reducible assumption) | (with_reducible refine Below.drew ?_) | (with_reducible refine Below.alloc ?_ (by first | omega | (simp <;> omega)) _) | (with_reducible refine Below.setCell ?_ (by first | omega | (simp <;> omega)) _) | (with_reducible refine belowN ?_ _)))⟩
theorem fields_any (ps : List Bs) (hne : ps ≠ []) (g cap : Nat) (w : World) (B : Nat) (hB : B ≤ w.heap.size) (hT : HasTab B w) (hE : ErrVars w) (hsp : SlS w (some ⟨g, 0, none⟩) cap ps) (hg : g < w.heap.size) (hl : ∀ p ∈ ps, p.length ≤ 2000000) :
    Calls Tryd.prog 31 #[.slice (some ⟨g, 0, none⟩) ps.length cap] w (FieldRes ps w) := by
  match ps, hne with
  | [a, b, c, d], _ =>
    by_cases h1 : a = wPut
    · subst h1; exact fields_put b c d g cap w B hB hT hE hsp hg hl
    by_cases h2 : a = wAppend
    · subst h2; exact fields_append b c d g cap w B hB hT hE hsp hg hl
    exact fields_none4 a b c d g cap w hsp hg h1 h2
  | [a, b, c, d, e, i], _ =>
    by_cases h1 : a = wReplace
    · subst h1; exact fields_replace b c d e i g cap w B hB hT hE hsp hg hl
    exact fields_none6 a b c d e i g cap w hsp hg h1
  | [a, b, c], _ =>
    by_cases h1 : a = wMerge
    · subst h1; exact fields_merge b c g cap w B hB hT hE hsp hg hl
    exact fields_none3 a b c g cap w hsp hg h1
  | [a, b], _ =>
    by_cases h1 : a = wDelete
    · subst h1; exact fields_delete b g cap w B hB hT hE hsp hg hl
    exact fields_none2 a b g cap w hsp hg h1
  | [a], _ => exact fields_noneX a [] g cap w hsp hg (by simp) (by simp) (by simp) (by simp)
  | [a, b, c, d, e], _ => exact fields_noneX a [b, c, d, e] g cap w hsp hg (by simp) (by simp) (by simp) (by simp)
  | a :: b :: c :: d :: e :: f :: i :: r, _ => exact fields_noneX a (b :: c :: d :: e :: f :: i :: r) g cap w hsp hg (by simp) (by simp) (by simp) (by simp)
theorem implCand_nm {ps : List Bs} {x : OpR} (h : implCand ps = some x) (N : Nat) (hN : ∀ p ∈ ps, p.length ≤ N) : x.nm.length ≤ N ∧ x.d.length ≤ 4000 := by
  have hd : ∀ (e d : Bs), hexD e = some d → d.length ≤ 4000 := by
    intro e d h
    unfold hexD at h
    split at h
    · simp at h; subst h; simp
    · split at h
      · cases h
      · exact (unhex_len e d h).1
  unfold implCand at h
  split at h
  · rename_i a b c e
    split at h
    · cases hn : numOf c with
      | none => rw [hn] at h; simp at h
      | some s =>
        cases hh : hexD e with
        | none => rw [hn, hh] at h; simp at h
        | some d =>
          rw [hn, hh] at h
          simp at h
          subst h
          exact ⟨hN b (by simp), hd _ _ hh⟩
    · cases h
  · rename_i a b c e g i
    split at h
    · cases hn : numOf c with
      | none => rw [hn] at h; simp at h
      | some f =>
        cases hn2 : numOf e with
        | none => rw [hn, hn2] at h; simp at h
        | some t =>
          cases hn3 : numOf g with
          | none => rw [hn, hn2, hn3] at h; simp at h
          | some s =>
            cases hh : hexD i with
            | none => rw [hn, hn2, hn3, hh] at h; simp at h
            | some d =>
              rw [hn, hn2, hn3, hh] at h
              simp at h
              subst h
              exact ⟨hN b (by simp), hd _ _ hh⟩
    · cases h
  · rename_i a b c
    split at h
    · cases hn : numOf c with
      | none => rw [hn] at h; simp at h
      | some s =>
        rw [hn] at h
        simp at h
        subst h
        exact ⟨hN b (by simp), by simp⟩
    · cases h
  · rename_i a b
    split at h
    · simp at h
      subst h
      exact ⟨hN b (by simp), by simp⟩
    · cases h
  · cases h
set_option maxHeartbeats 2000000 in
theorem parseOp_any (t : Bs) (m : Int) (w : World) (B : Nat) (hB : B ≤ w.heap.size) (hT : HasTab B w) (hE : ErrVars w) (hm : w.cell? ⟨1, 0, none⟩ = some (.int .i64 m)) (hs : t.length ≤ 1500000) :
    Calls Tryd.prog 14 #[.string ⟨t.toArray⟩] w fun e w' => e = opRes (parseOpR t) ∧ Below w.heap.size w w' := by
  have HT := Go.Lib.hid hT
  clear hT
  have hP : parseOpR t = match implCand (cut 32 t) with
    | some x => if x.ok then some x else none
    | none => none := rfl
  have hNm := fun x (h : implCand (cut 32 t) = some x) => implCand_nm h t.length (fun p hp => cut_mem_len 32 t p hp)
  have hne := cut_ne 32 t
  have hcl := cut_len 32 t
  have hml := cut_mem_len 32 t
  have cS := split_any 32 t m (w.alloc (.cells opZ.cells 24)) (by omega) (by rw [World.cell?_alloc_lt _ _ _ (lt_of_cell hm)]; exact hm)
  have HP := Go.Lib.hid hP
  have HN := Go.Lib.hid hNm
  have HM := Go.Lib.hid hml
  clear hP hNm hml
  generalize cut 32 t = ps at *
  have b0 : Below w.heap.size w (w.alloc (.cells opZ.cells 24)) := (by repeat (first | (with_reducible exact Below.refl _ _) | (with_reducible assumption) | (with_reducible refine Below.drew ?_) | (with_reducible refine Below.alloc ?_ (by first | omega | (simp <;> omega)) _) | (with_reducible refine Below.setCell ?_ (by first | omega | (simp <;> omega)) _) | (with_reducible refine belowN ?_ _)))
  go_enter Tryd.func14, Tryd.ntmps14
  go_wp2_with fail
  refine cS.mono ?_
  rintro e w1 ⟨rfl, rfl⟩
  have hs1 : SlS ((w.alloc (.cells opZ.cells 24)).alloc (.cells (ps.map sv).toArray 9)) (some ⟨w.heap.size + 1, 0, none⟩) ps.length ps := by
    have := Sl.new (w.alloc (.cells opZ.cells 24)) (ps.map sv).toArray 9 ps.length 1 (by simp) (by omega)
    simpa using this
  have K0 : Bk ((w.alloc (.cells opZ.cells 24)).alloc (.cells (ps.map sv).toArray 9)) w.heap.size 24 opZ.cells := (Bk.new _ _ _).alloc _
  have g1 : Below w.heap.size w ((w.alloc (.cells opZ.cells 24)).alloc (.cells (ps.map sv).toArray 9)) := (by repeat (first | (with_reducible exact Below.refl _ _) | (with_reducible assumption) | (with_reducible refine Below.drew ?_) | (with_reducible refine Below.alloc ?_ (by first | omega | (simp <;> omega)) _) | (with_reducible refine Below.setCell ?_ (by first | omega | (simp <;> omega)) _) | (with_reducible refine belowN ?_ _)))
  have hzW : ((w.alloc (.cells opZ.cells 24)).alloc (.cells (ps.map sv).toArray 9)).heap.size = w.heap.size + 2 := by simp
  generalize (w.alloc (.cells opZ.cells 24)).alloc (.cells (ps.map sv).toArray 9) = W at *
  clear cS b0
  simp only [World.size_alloc]
  go_wp2_with fail
  refine (fields_any ps hne (w.heap.size + 1) ps.length W B (by omega) (Lib.TabBelow.on HT.out (g1.mono hB)) (hE.on g1) hs1 (by omega) (fun p hp => by have := HM.out p hp; omega)).mono ?_
  rintro e w2 ⟨x, ok, rfl, hx, hb2⟩
  have hz2 := hb2.size
  have K1 := K0.below hb2 (by omega)
  have g2 := g1.trans (hb2.mono (by omega))
  have X2 := K1.cell
  have F2 := K1.free
  have hlt2 : w.heap.size + 1 ≤ w2.heap.size := by omega
  clear hb2 K0 g1
  cases ok with
  | false =>
    have HR : Go.RowKit.Hid (opRes (parseOpR t) = .returned (.tuple #[opZ.val, .bool false])) := by
      show _ = _
      rw [HP.out, hx]; rfl
    obtain ⟨k, f, tt, s, nm, d⟩ := x
    have K2 := K1.alloc (.cells (⟨k, f, tt, s, nm, d⟩ : OpR).cells 24)
    have X3 := K2.cell
    have F3 := K2.free
    simp only [OpR.cells] at X3 F3
    go_wp2
    exact bodyPost_ret (v := .tuple #[opZ.val, .bool false]) (by simp [results, Tryd.results14, go_sem, X3, opZ]) rfl ⟨HR.out.symm, (by repeat (first | (with_reducible exact Below.refl _ _) | (with_reducible assumption) | (with_reducible refine Below.drew ?_) | (with_reducible refine Below.alloc ?_ (by first | omega | (simp <;> omega)) _) | (with_reducible refine Below.setCell ?_ (by first | omega | (simp <;> omega)) _) | (with_reducible refine belowN ?_ _)))⟩
  | true =>
    simp only [if_true] at hx
    have hbd := HN.out x hx
    obtain ⟨hbd1, hbd2⟩ := hbd
    have hR : opRes (parseOpR t) = opRes (if x.ok then some x else none) := by rw [HP.out, hx]
    obtain ⟨k, f, tt, s, nm, d⟩ := x
    go_wp2_with fail
    have K7 := Bk.new w2 (⟨k, f, tt, s, nm, d⟩ : OpR).cells 24
    have K2 := K1.alloc (.cells (⟨k, f, tt, s, nm, d⟩ : OpR).cells 24)
    have g3 : Below w.heap.size w (w2.alloc (.cells (⟨k, f, tt, s, nm, d⟩ : OpR).cells 24)) := (by repeat (first | (with_reducible exact Below.refl _ _) | (with_reducible assumption) | (with_reducible refine Below.drew ?_) | (with_reducible refine Below.alloc ?_ (by first | omega | (simp <;> omega)) _) | (with_reducible refine Below.setCell ?_ (by first | omega | (simp <;> omega)) _) | (with_reducible refine belowN ?_ _)))
    refine (opValid_any k f tt s nm d _ (Nat.le_trans hbd1 (by omega)) (Nat.le_trans hbd2 (by omega))).mono ?_
    rintro e w3 ⟨rfl, hb3⟩
    have hz3 := hb3.size
    simp only [World.size_alloc] at hz3
    have K7' := K7.below hb3 K7.lt
    have K2' := K2.below hb3 K2.lt
    have g4 := g3.trans (hb3.mono (by simp; omega))
    have X7 := K7'.cell
    have F7 := K7'.free
    have X3 := K2'.cell
    have F3 := K2'.free
    clear hb3 K7 K2 g3 X2 F2
    by_cases hok : opOk k nm f tt s d
    · have HR : Go.RowKit.Hid (opRes (parseOpR t) = .returned (.tuple #[(⟨k, f, tt, s, nm, d⟩ : OpR).val, .bool true])) := by
        show _ = _
        rw [hR]
        have : (⟨k, f, tt, s, nm, d⟩ : OpR).ok := hok
        rw [if_pos this]; rfl
      rw [decide_eq_true hok]
      clear hok hR
      go_wp2
      exact bodyPost_ret (v := .tuple #[(⟨k, f, tt, s, nm, d⟩ : OpR).val, .bool true]) (by simp [results, Tryd.results14, go_sem, X3]) rfl ⟨HR.out.symm, (by repeat (first | (with_reducible exact Below.refl _ _) | (with_reducible assumption) | (with_reducible refine Below.drew ?_) | (with_reducible refine Below.alloc ?_ (by first | omega | (simp <;> omega)) _) | (with_reducible refine Below.setCell ?_ (by first | omega | (simp <;> omega)) _) | (with_reducible refine belowN ?_ _)))⟩
    · have HR : Go.RowKit.Hid (opRes (parseOpR t) = .returned (.tuple #[opZ.val, .bool false])) := by
        show _ = _
        rw [hR]
        have : ¬ (⟨k, f, tt, s, nm, d⟩ : OpR).ok := hok
        rw [if_neg this]; rfl
      rw [decide_eq_false hok]
      clear hok hR
      go_wp2
      exact bodyPost_ret (v := .tuple #[opZ.val, .bool false]) (by simp [results, Tryd.results14, go_sem, X3, opZ]) rfl ⟨HR.out.symm, (by repeat (first | (with_reducible exact Below.refl _ _) | (with_reducible assumption) | (with_reducible refine Below.drew ?_) | (with_reducible refine Below.alloc ?_ (by first | omega | (simp <;> omega)) _) | (with_reducible refine Below.setCell ?_ (by first | omega | (simp <;> omega)) _) | (with_reducible refine belowN ?_ _)))⟩
end Go.Proofs.YtkoefklgfkhmpaaDoor
