/- Walks: RepairContainer of the reference. -/
import Derived.Test.YtgcjfddkgbigoaaGreatP11
namespace Go.Proofs.YtgcjfddkgbigoaaGreat
open Go.RowKit
set_option linter.unusedVariables false
set_option linter.unusedSimpArgs false
set_option maxRecDepth 100000
attribute [local go_sem high] run_index_S binOp_eql_S binOp_neq_S append_S toList_S size_S run_slice_S run_slice_from_S run_slice_to_S wrap64_byteAt wrap64_byteAt_mul bits_or_bytes convU conv1_some convU2 conv2_some
theorem repair_no {l : Bs} {pa : List Bs} {g c : Int} (h : ¬ (l.length ≤ 8000 ∧ 1 ≤ g ∧ g ≤ 40 ∧ 0 ≤ c ∧ c ≤ 40 ∧ (pa.length : Int) = (c + g - 1) / g)) : repairB l pa g c = none := by unfold repairB; rw [if_neg h]
theorem repair_yes {l : Bs} {pa : List Bs} {g c : Int} (h : l.length ≤ 8000 ∧ 1 ≤ g ∧ g ≤ 40 ∧ 0 ≤ c ∧ c ≤ 40 ∧ (pa.length : Int) = (c + g - 1) / g) : repairB l pa g c = match catTo (repTxt (findB l) pa g c) c.toNat with
    | some x => if (blocksB x).isSome = true then some x else none
    | none => none := by unfold repairB; rw [if_pos h]; rfl
theorem repair_none {l : Bs} {pa : List Bs} {g c : Int} (h : l.length ≤ 8000 ∧ 1 ≤ g ∧ g ≤ 40 ∧ 0 ≤ c ∧ c ≤ 40 ∧ (pa.length : Int) = (c + g - 1) / g) (h2 : catTo (repTxt (findB l) pa g c) c.toNat = none) : repairB l pa g c = none := by rw [repair_yes h, h2]
theorem repair_some {l : Bs} {pa : List Bs} {g c : Int} {x : Bs} (h : l.length ≤ 8000 ∧ 1 ≤ g ∧ g ≤ 40 ∧ 0 ≤ c ∧ c ≤ 40 ∧ (pa.length : Int) = (c + g - 1) / g) (h2 : catTo (repTxt (findB l) pa g c) c.toNat = some x) : repairB l pa g c = if (blocksB x).isSome = true then some x else none := by rw [repair_yes h, h2]
/-- Group i, of the numbers below c. -/
theorem grp_at {g c : Int} {n i : Nat} (hg : 1 ≤ g) (hn : (n : Int) = (c + g - 1) / g) (hi : i < n) : (i : Int) * g < c ∧ (i : Int) * g ≤ ((i : Int) + 1) * g ∧ ((i : Int) + 1) * g ≤ c + g - 1 := by
  have h1 := Int.mul_ediv_self_le (x := c + g - 1) (k := g) (by omega)
  have h3 : ((i : Int) + 1) * g ≤ (n : Int) * g := Int.mul_le_mul_of_nonneg_right (by omega) (by omega)
  have h4 : (n : Int) * g = g * ((c + g - 1) / g) := by rw [hn, Int.mul_comm]
  have h5 : ((i : Int) + 1) * g = (i : Int) * g + g := by rw [Int.add_mul]; omega
  omega
theorem grp_end {g c : Int} {n : Nat} (hg : 1 ≤ g) (hn : (n : Int) = (c + g - 1) / g) : c ≤ (n : Int) * g := by
  have h1 := Int.lt_mul_ediv_self_add (x := c + g - 1) (k := g) (by omega)
  have h4 : (n : Int) * g = g * ((c + g - 1) / g) := by rw [hn, Int.mul_comm]
  omega
theorem group_step {fs : List Fd} {pa : List Bs} {g c : Int} {i a k : Nat} {X : Bs} (hg : 1 ≤ g) (ha : (a : Int) = (i : Int) * g) (hk : (a : Int) + (k : Int) = min c (((i : Int) + 1) * g)) (hp : i < pa.length)
    (h : catTo (repTxt fs pa g c) a = some X) : catTo (repTxt fs pa g c) (a + k) = (catTo (fun j => txtN fs pa[i] a k ((a : Int) + (j : Int))) k).map (X ++ ·) := by
  rw [catTo_add _ a X h k]
  congr 1
  refine catTo_congr k fun j hj => ?_
  have hkg : (k : Int) ≤ g := by
    have : ((i : Int) + 1) * g = (i : Int) * g + g := by rw [Int.add_mul]; omega
    omega
  have e := repTxt_grp (fs := fs) (par := pa) (g := g) (c := c) (i := (i : Int)) hg (by omega) (j := j) (by omega)
  rw [show ((i : Int) * g).toNat = a by omega] at e
  rw [e, show (min (((i : Int) + 1) * g) c - (i : Int) * g).toNat = k by omega, ← ha]
  congr 1
  simp [hp]
theorem findGo_len (l : Bs) : ∀ (n : Nat) (a : Int), (findGo l n a).length ≤ n
  | 0, a => by simp [findGo]
  | n + 1, a => by
    unfold findGo
    split
    · have := findGo_len l n (nextB l (endAt l a)); simp; omega
    · simp
theorem catTo_len {f : Nat → Option Bs} (hf : ∀ j t, f j = some t → t.length ≤ 74) : ∀ k x, catTo f k = some x → x.length ≤ 74 * k
  | 0, x, h => by injection h with h; subst h; simp
  | k + 1, x, h => by
    unfold catTo at h
    cases hc : catTo f k with
    | none => rw [hc] at h; cases h
    | some y =>
      rw [hc] at h
      simp only at h
      cases ht : f k with
      | none => rw [ht] at h; cases h
      | some t =>
        rw [ht] at h
        injection h with h
        subst h
        have h1 := catTo_len hf k y hc
        have h2 := hf k t ht
        simp; omega
theorem txtN_len {fs : List Fd} {p : Bs} {a : Int} {k : Nat} {n : Int} {t : Bs} (ho : AllOk fs) (h : txtN fs p a k n = some t) : t.length ≤ 74 := by
  cases hf : firstF fs n with
  | some b => rw [txtN_some hf] at h; injection h with h; subst h; exact (text_bd (ho _ _ hf)).2
  | none =>
    rw [txtN_lost hf] at h
    split at h
    · exact built_len h
    · cases h
set_option maxHeartbeats 4000000 in
theorem sRepair_any (l : Bs) (pa : List Bs) (g c : Int) (A : Option Addr) (cap : Nat) (w : World) (hs : Sl w A pa.length cap 1 (pa.map sv)) (hl : l.length ≤ 1500000) (hpl : pa.length ≤ 1500000) (hp : ∀ t ∈ pa, t.length ≤ 1500000)
    (hg0 : -9223372036854775808 ≤ g) (hg1 : g ≤ 9223372036854775807) (hc0 : -9223372036854775808 ≤ c) (hc1 : c ≤ 9223372036854775807) :
    Calls Tryz.prog 12 #[sv l, .slice A pa.length cap, .int .i64 g, .int .i64 c] w fun e w' => e = rbRes (repairB l pa g c) ∧ Below w.heap.size w w' := by
  have hcap := hs.1
  have HS : Go.RowKit.Hid (∀ wr, Below w.heap.size w wr → Sl wr A pa.length cap 1 (pa.map sv)) := fun wr h => hs.below h
  have HP := Go.Lib.hid hp
  clear hs hp
  have cM := fun w => l7Most_any l w hl
  have cI := l1In_any
  have HNO : Go.RowKit.Hid (¬ (l.length ≤ 8000 ∧ 1 ≤ g ∧ g ≤ 40 ∧ 0 ≤ c ∧ c ≤ 40 ∧ (pa.length : Int) = (c + g - 1) / g) → rbRes (repairB l pa g c) = rbRes none) := fun h => by rw [repair_no h]
  have HGR : Go.RowKit.Hid (∀ R, repairB l pa g c = R → rbRes (repairB l pa g c) = rbRes R) := fun R h => by rw [h]
  generalize rbRes (repairB l pa g c) = GG at *
  by_cases h1 : l.length ≤ 8000
  case neg =>
    have hN := Go.Lib.hid (HNO.out (fun h => h1 h.1))
    have hd : decide ((l.length : Int) ≤ 8000) = false := by simp; omega
    clear HNO HGR
    go_enter Tryz.func12, Tryz.ntmps12
    go_wp2_with (first | (go_at_call 34; refine (cM _).mono ?_; rintro e w' ⟨rfl, rfl⟩) | (go_at_call 35; refine (cI _ _ _ _).mono ?_; rintro e w' ⟨rfl, rfl⟩))
    go_ret2
    exact ⟨by rw [hN.out]; rfl, (by repeat (first | (with_reducible exact Below.refl _ _) | (with_reducible assumption) | (with_reducible refine Below.drew ?_) | (with_reducible refine Below.alloc ?_ (by first | omega | (simp <;> omega)) _) | (with_reducible refine Below.setCell ?_ (by first | omega | (simp <;> omega)) _) | (with_reducible refine belowN ?_ _)))⟩
  by_cases h2 : 1 ≤ g ∧ g ≤ 40
  case neg =>
    have hN := Go.Lib.hid (HNO.out (fun h => h2 ⟨h.2.1, h.2.2.1⟩))
    have hd : decide ((l.length : Int) ≤ 8000) = true := by simp; omega
    have hd2 : decide (1 ≤ g ∧ g ≤ 40) = false := by simpa using h2
    clear HNO HGR
    go_enter Tryz.func12, Tryz.ntmps12
    go_wp2_with (first | (go_at_call 34; refine (cM _).mono ?_; rintro e w' ⟨rfl, rfl⟩) | (go_at_call 35; refine (cI _ _ _ _).mono ?_; rintro e w' ⟨rfl, rfl⟩))
    go_ret2
    exact ⟨by rw [hN.out]; rfl, (by repeat (first | (with_reducible exact Below.refl _ _) | (with_reducible assumption) | (with_reducible refine Below.drew ?_) | (with_reducible refine Below.alloc ?_ (by first | omega | (simp <;> omega)) _) | (with_reducible refine Below.setCell ?_ (by first | omega | (simp <;> omega)) _) | (with_reducible refine belowN ?_ _)))⟩
  by_cases h3 : 0 ≤ c ∧ c ≤ 40
  case neg =>
    have hN := Go.Lib.hid (HNO.out (fun h => h3 ⟨h.2.2.2.1, h.2.2.2.2.1⟩))
    have hd : decide ((l.length : Int) ≤ 8000) = true := by simp; omega
    have hd2 : decide (1 ≤ g ∧ g ≤ 40) = true := by simpa using h2
    have hd3 : decide (0 ≤ c ∧ c ≤ 40) = false := by simpa using h3
    clear HNO HGR
    go_enter Tryz.func12, Tryz.ntmps12
    go_wp2_with (first | (go_at_call 34; refine (cM _).mono ?_; rintro e w' ⟨rfl, rfl⟩) | (go_at_call 35; refine (cI _ _ _ _).mono ?_; rintro e w' ⟨rfl, rfl⟩))
    go_ret2
    exact ⟨by rw [hN.out]; rfl, (by repeat (first | (with_reducible exact Below.refl _ _) | (with_reducible assumption) | (with_reducible refine Below.drew ?_) | (with_reducible refine Below.alloc ?_ (by first | omega | (simp <;> omega)) _) | (with_reducible refine Below.setCell ?_ (by first | omega | (simp <;> omega)) _) | (with_reducible refine belowN ?_ _)))⟩
  obtain ⟨h2a, h2b⟩ := h2
  obtain ⟨h3a, h3b⟩ := h3
  have hq : IntKind.i64.wrap ((c + g - 1).tdiv g) = (c + g - 1) / g := by
    exact IntWalk.i64_quo _ _ ⟨by omega, by omega, by omega⟩
  have hg00 : ¬ g = 0 := by omega
  have hd : decide ((l.length : Int) ≤ 8000) = true := by simp; omega
  have hd2 : decide (1 ≤ g ∧ g ≤ 40) = true := by simp; omega
  have hd3 : decide (0 ≤ c ∧ c ≤ 40) = true := by simp; omega
  by_cases h4 : (pa.length : Int) = (c + g - 1) / g
  case neg =>
    have hN := Go.Lib.hid (HNO.out (fun h => h4 h.2.2.2.2.2))
    have hd4 : ((pa.length : Int) != (c + g - 1) / g) = true := by simpa using h4
    clear HNO HGR
    go_enter Tryz.func12, Tryz.ntmps12
    go_wp2_with (first | (go_at_call 34; refine (cM _).mono ?_; rintro e w' ⟨rfl, rfl⟩) | (go_at_call 35; refine (cI _ _ _ _).mono ?_; rintro e w' ⟨rfl, rfl⟩))
    go_ret2
    exact ⟨by rw [hN.out]; rfl, (by repeat (first | (with_reducible exact Below.refl _ _) | (with_reducible assumption) | (with_reducible refine Below.drew ?_) | (with_reducible refine Below.alloc ?_ (by first | omega | (simp <;> omega)) _) | (with_reducible refine Below.setCell ?_ (by first | omega | (simp <;> omega)) _) | (with_reducible refine belowN ?_ _)))⟩
  have hd4 : ((pa.length : Int) != (c + g - 1) / g) = false := by simpa using h4
  have HY : Go.RowKit.Hid (l.length ≤ 8000 ∧ 1 ≤ g ∧ g ≤ 40 ∧ 0 ≤ c ∧ c ≤ 40 ∧ (pa.length : Int) = (c + g - 1) / g) := ⟨h1, h2a, h2b, h3a, h3b, h4⟩
  have cFB : Go.RowKit.Hid (∀ w, Calls Tryz.prog 36 #[sv l] w (FsRes (findB l) w)) := fun w => sFindBlocks_any l w hl
  have hfok := find_ok l
  have hfl : (findB l).length ≤ 1000000 := by
    have := findGo_len l (l.length + 1) (nextB l 0)
    unfold findB; omega
  have HRN : Go.RowKit.Hid (catTo (repTxt (findB l) pa g c) c.toNat = none → GG = rbRes none) := fun h => HGR.out none (repair_none HY.out h)
  have HRS : Go.RowKit.Hid (∀ x, catTo (repTxt (findB l) pa g c) c.toNat = some x → GG = rbRes (if (blocksB x).isSome = true then some x else none)) := fun x h => HGR.out _ (repair_some HY.out h)
  clear HNO HGR hl h1
  have h5 := Go.Lib.hid h4
  clear h4
  generalize findB l = fs at *
  go_enter Tryz.func12, Tryz.ntmps12
  go_wp2_with (first | (go_at_call 34; refine (cM _).mono ?_; rintro e w' ⟨rfl, rfl⟩) | (go_at_call 35; refine (cI _ _ _ _).mono ?_; rintro e w' ⟨rfl, rfl⟩))
  refine (cFB.out _).mono ?_
  rintro e w1 ⟨A1, c1, rfl, o1, hb1⟩
  have S1 := own_Sl o1
  have hz1 := hb1.size
  clear cFB o1 hd hd2 hd3 hd4 hq cM cI
  go_wp2
  go_loopw [10, 12] (fun v x wr => ∃ (X : Bs) (i n : Nat), v = sv X ∧ x = .int .i64 (i : Int) ∧ i ≤ pa.length ∧ Go.RowKit.Hid ((n : Int) = min c ((i : Int) * g)) ∧ n ≤ 40 ∧ X.length ≤ 74 * n ∧ Go.RowKit.Hid (catTo (repTxt fs pa g c) n = some X) ∧ Sl wr A1 fs.length c1 5 (fsV fs) ∧ Below w.heap.size w wr) (fun _ x _ => pa.length - (intOf x).toNat)
  case atStart => exact ⟨[], 0, 0, rfl, rfl, by omega, by show _ = _; simp; omega, by omega, by simp, rfl, S1, hb1⟩
  case round =>
    obtain ⟨X, i, a, rfl, rfl, hi, HA, ha40, hXl, HX, S2, hb⟩ := hrel
    have hz := hb.size
    clear S1 hb1
    by_cases hlt : i < pa.length
    · have hki : (i : Int) < pa.length := by omega
      obtain ⟨ga1, ga2, ga3⟩ := grp_at h2a h5.out hlt
      have hmul : (i : Int) * g = (a : Int) := by have := HA.out; omega
      obtain ⟨b, hb2⟩ : ∃ b : Nat, ((i : Int) + 1) * g = (b : Int) := ⟨(((i : Int) + 1) * g).toNat, by omega⟩
      obtain ⟨k, hk⟩ : ∃ k : Nat, (a : Int) + (k : Int) = min c (((i : Int) + 1) * g) := ⟨(min c (((i : Int) + 1) * g) - a).toNat, by omega⟩
      have hst := group_step (fs := fs) (pa := pa) h2a hmul.symm hk hlt HX.out
      obtain ⟨g0, off, u, rfl, hg, hu, hc⟩ := Sl.at1 (HS.out wr hb) hlt
      rw [List.getElem?_map, List.getElem?_eq_getElem hlt] at hu
      simp at hu
      subst hu
      have htl := HP.out pa[i] (List.getElem_mem hlt)
      have cR := l7Repair_any fs pa[i] a k A1 c1 wr hfok S2 hfl (by omega) (by omega) htl
      have HST := Go.Lib.hid hst
      have HA2 : Go.RowKit.Hid (((a + k : Nat) : Int) = min c (((i + 1 : Nat) : Int) * g)) := by show _ = _; push_cast; exact hk
      have hmc : ((a + k : Nat) : Int) ≤ c := by omega
      rw [hb2] at hk ga2 ga3
      have hmin : min c (b : Int) = ((a + k : Nat) : Int) := by rw [← hk]; rfl
      obtain ⟨m2, hm2⟩ : ∃ m2, a + k = m2 := ⟨_, rfl⟩
      rw [hm2] at cR hmin HA2 hmc
      have HM2 := Go.Lib.hid hm2
      generalize pa[i] = t at *
      generalize hCC : catTo (fun j => txtN fs t a k ((a : Int) + (j : Int))) k = CC at *
      have hCCl : ∀ T, CC = some T → T.length ≤ 74 * k := fun T h => catTo_len (fun j t h => txtN_len hfok h) k T (hCC.trans h)
      clear hst hCC hk hm2 HA
      have HCL := Go.Lib.hid hCCl
      clear hCCl
      by_cases hcb : c ≤ (b : Int)
      all_goals
        first | (have e : ((m2 : Nat) : Int) = c := by omega
                 rw [e] at cR
                 clear e) | (have e : ((m2 : Nat) : Int) = (b : Int) := by omega
                             rw [e] at cR
                             clear e)
        clear hmin
        cases CC with
        | none =>
          have hN : Go.RowKit.Hid (GG = rbRes none) := HRN.out (catTo_none (n := m2) (by have := HST.out; rw [HM2.out] at this; rw [this]; rfl) (by omega))
          clear HX HST HRN HRS
          go_wp2_with fail
          refine cR.mono ?_
          rintro e w2 ⟨rfl, hb3⟩
          have z2 := hb3.size
          have g2 := hb.trans (hb3.mono (by omega))
          clear cR hb3
          unfold rbRes
          go_wp2
          go_ret2
          exact ⟨by rw [hN.out]; rfl, (by repeat (first | (with_reducible exact Below.refl _ _) | (with_reducible assumption) | (with_reducible refine Below.drew ?_) | (with_reducible refine Below.alloc ?_ (by first | omega | (simp <;> omega)) _) | (with_reducible refine Below.setCell ?_ (by first | omega | (simp <;> omega)) _) | (with_reducible refine belowN ?_ _)))⟩
        | some T => 
          have HX2 : Go.RowKit.Hid (catTo (repTxt fs pa g c) m2 = some (X ++ T)) := by show _ = _; rw [← HM2.out, HST.out]; rfl
          have hTl : T.length ≤ 74 * k := HCL.out T rfl
          clear HX HST HRN
          go_wp2_with fail
          refine cR.mono ?_
          rintro e w2 ⟨rfl, hb3⟩
          have z2 := hb3.size
          have g2 := hb.trans (hb3.mono (by omega))
          have S3 := S2.below hb3
          have hq1 : ¬ 9223372036854775807 < X.length + T.length := by have := HM2.out; omega
          have hxt : (X ++ T).length ≤ 74 * m2 := by have := HM2.out; simp; omega
          have HXT := Go.Lib.hid hxt
          clear cR hb3 S2 hxt
          unfold rbRes
          go_wp2
          go_roundw
          case rel => exact ⟨X ++ T, i + 1, m2, by simp [sv], by go_num, by omega, HA2, by omega, HXT.out, HX2, S3, g2⟩
          case measure => simp [intOf]; omega
    · have hki : ¬ (i : Int) < pa.length := by omega
      have hii : i = pa.length := by omega
      subst hii
      have hge := grp_end h2a h5.out
      have hac : a = c.toNat := by have := HA.out; omega
      subst hac
      have HR2 := Go.Lib.hid (HRS.out X HX.out)
      have cB := fun w => l5Blocks_any X w (by omega)
      clear HX HRN HRS HA
      go_wp2_with fail
      refine (cB _).mono ?_
      rintro e w2 ⟨Ab, cb, rfl, ob, hb2⟩
      have z2 := hb2.size
      have g2 := hb.trans (hb2.mono (by omega))
      clear hb2 ob cB
      cases hbo : (blocksB X).isSome
      · rw [hbo] at HR2
        go_wp2
        go_ret2
        exact ⟨by rw [HR2.out]; rfl, g2⟩
      · rw [hbo] at HR2
        go_wp2
        go_ret2
        exact ⟨by rw [HR2.out]; rfl, g2⟩
end Go.Proofs.YtgcjfddkgbigoaaGreat
