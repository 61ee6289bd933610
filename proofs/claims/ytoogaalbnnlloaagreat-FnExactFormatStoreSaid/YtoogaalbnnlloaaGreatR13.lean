/- Plain and walk: the text of a store, by the reference. -/
import Derived.Test.YtoogaalbnnlloaaGreatGU4
import Derived.Test.YtoogaalbnnlloaaGreatW3
import Derived.Test.YtoogaalbnnlloaaGreatGQ
namespace Go.Proofs.YtoogaalbnnlloaaGreat
open Go.RowKit
set_option linter.unusedVariables false
set_option linter.unusedSimpArgs false
set_option maxRecDepth 100000
attribute [local go_sem high] run_index_S binOp_eql_S binOp_neq_S append_S toList_S size_S run_slice_S run_slice_from_S run_slice_to_S wrap64_byteAt wrap64_byteAt_mul bits_or_bytes convU conv1_some convU2 conv2_some
/-- The text of a file: its name, and its data in hexadecimal. -/
def Sto.ft (S : Sto) (f : Fl) : Bs := f.1 ++ 32 :: orDash (fmtHex ((cdB S.o S.l S.m S.dict f.2).getD []))
open Classical in
noncomputable def Sto.fmt (S : Sto) : Bs := if S.ok then orDash (join 59 (S.fs.map S.ft)) else []
theorem Sto.fmt_no {S : Sto} (h : ¬ S.ok) : S.fmt = [] := by unfold Sto.fmt; rw [if_neg h]
theorem Sto.fmt_yes {S : Sto} (h : S.ok) : S.fmt = orDash (join 59 (S.fs.map S.ft)) := by unfold Sto.fmt; rw [if_pos h]
theorem join_take0 {ls : List Bs} (h : 0 < ls.length) : join 59 (ls.take 1) = ls[0] := by
  cases ls with
  | nil => simp at h
  | cons a r => rfl
theorem join_takeS {ls : List Bs} {k : Nat} (h : k < ls.length) (h0 : 0 < k) : join 59 (ls.take (k + 1)) = join 59 (ls.take k) ++ 59 :: ls[k] := by
  rw [List.take_succ_eq_append_getElem h, join_snoc]
  intro e
  have := congrArg List.length e
  simp at this
  rcases this with h1 | h1
  · omega
  · subst h1; simp at h
theorem join_bd (ls : List Bs) (n : Nat) (h : ∀ l ∈ ls, l.length ≤ n) : (join 59 ls).length ≤ (n + 1) * ls.length := by
  induction ls using snoc_ind with
  | h0 => simp [join]
  | h1 ls x ih =>
    have h1 := ih (fun l hl => h l (by simp [hl]))
    have h2 := h x (by simp)
    have e3 : (n + 1) * (ls ++ [x]).length = (n + 1) * ls.length + (n + 1) := by simp [Nat.mul_add]
    by_cases e : ls = []
    · subst e; simp [join]; omega
    · rw [join_snoc _ _ _ e, e3]; simp; omega
theorem orDash_len (l : Bs) : (orDash l).length ≤ l.length + 1 := by unfold orDash; split <;> simp
theorem fmtHex_len (l : Bs) : (fmtHex l).length ≤ 2 * l.length := by
  unfold fmtHex
  split
  · rw [hexOf_length]; omega
  · simp
theorem cd_len (o l m : Int) (dict t : Bs) : ((cdB o l m dict t).getD []).length ≤ 2000 := by
  cases h : cdB o l m dict t with
  | none => simp
  | some d => simpa using cdB_len h
theorem nameV_len {n : Bs} (h : nameV n = true) : n.length ≤ 8 := by
  unfold nameV at h
  simp at h
  exact h.1.2
theorem Sto.ft_len {S : Sto} {f : Fl} (h : f.1.length ≤ 8) : (S.ft f).length ≤ 4010 := by
  unfold Sto.ft
  have h1 := cd_len S.o S.l S.m S.dict f.2
  have h2 := fmtHex_len ((cdB S.o S.l S.m S.dict f.2).getD [])
  have h3 := orDash_len (fmtHex ((cdB S.o S.l S.m S.dict f.2).getD []))
  simp only [List.length_append, List.length_cons]
  omega
theorem Sto.fts_bd {S : Sto} (h : S.ok) (k : Nat) : (join 59 ((S.fs.map S.ft).take k)).length ≤ 24066 := by
  have hb : ∀ l ∈ (S.fs.map S.ft).take k, l.length ≤ 4010 := fun l hl => by
    obtain ⟨f, hf, rfl⟩ := List.mem_map.1 (List.mem_of_mem_take hl)
    obtain ⟨i, hi, rfl⟩ := List.getElem_of_mem hf
    exact Sto.ft_len (nameV_len (h.2.2 i hi).1)
  have h1 := join_bd _ 4010 hb
  have h2 : ((S.fs.map S.ft).take k).length ≤ 6 := by simp; have := h.2.1; omega
  have h3 : (4010 + 1) * ((S.fs.map S.ft).take k).length ≤ (4010 + 1) * 6 := Nat.mul_le_mul_left _ h2
  omega
set_option maxHeartbeats 2000000 in
theorem sFormatStore_any (S : Sto) (A : Option Addr) (cap : Nat) (w : World) (hs : Sl w A S.fs.length cap 2 (flsV S.fs)) (hd : S.dict.length ≤ 1500000) (hl : S.fs.length ≤ 1500000) (hb : ∀ f ∈ S.fs, f.1.length ≤ 1500000 ∧ f.2.length ≤ 1500000) :
    Calls Tryz.prog 43 #[S.V A cap] w fun e w' => e = .returned (sv S.fmt) ∧ Below w.heap.size w w' := by
  have hcap := hs.1
  have hcap2 := hs.2.1
  have cV : Go.RowKit.Hid (∀ w, Sl w A S.fs.length cap 2 (flsV S.fs) → Calls Tryz.prog 26 #[S.V A cap] w fun e w' => e = .returned (.bool S.okB) ∧ Below w.heap.size w w') := fun w h => sStoreValid_any S A cap w h hd hl hb
  have HSL : Go.RowKit.Hid (∀ wr, Below w.heap.size w wr → Sl wr A S.fs.length cap 2 (flsV S.fs)) := fun wr h => hs.below h
  have HB := Go.Lib.hid hb
  clear hs hb
  by_cases hok : S.ok
  case neg =>
    rw [show S.okB = false from Sto.okB_no hok] at cV
    rw [Sto.fmt_no hok]
    clear hok
    obtain ⟨o, l, m, dict, fs⟩ := S
    simp only at *
    go_enter Tryz.func43, Tryz.ntmps43
    have hK0 : Bk (w.alloc (.cells #[.int .i64 o, .int .i64 l, .int .i64 m, .string ⟨dict.toArray⟩, .slice A fs.length cap] 50)) w.heap.size 50 #[.int .i64 o, .int .i64 l, .int .i64 m, .string ⟨dict.toArray⟩, .slice A fs.length cap] := (by (repeat (first | (with_reducible assumption) | (with_reducible exact Bk.new _ _ _) | (with_reducible refine Bk.newAt _ _ _ (by simp; done)) | (with_reducible refine Bk.drew ?_) | (with_reducible refine Bk.drewN ?_ _) | (with_reducible refine Bk.alloc ?_ _))); done)
    have g0 : Below w.heap.size w (w.alloc (.cells #[.int .i64 o, .int .i64 l, .int .i64 m, .string ⟨dict.toArray⟩, .slice A fs.length cap] 50)) := (by repeat (first | (with_reducible exact Below.refl _ _) | (with_reducible assumption) | (with_reducible refine Below.drew ?_) | (with_reducible refine Below.alloc ?_ (by first | omega | (simp <;> omega)) _) | (with_reducible refine Below.setCell ?_ (by first | omega | (simp <;> omega)) _) | (with_reducible refine belowN ?_ _)))
    go_upto_region 1 with (fail)
    generalize w.alloc (.cells #[.int .i64 o, .int .i64 l, .int .i64 m, .string ⟨dict.toArray⟩, .slice A fs.length cap] 50) = w0 at *
    have hX0 := hK0.cell
    have hz0 := hK0.lt
    go_wp2_with fail
    refine (cV.out _ (HSL.out _ g0)).mono ?_
    rintro e w1 ⟨rfl, hb1⟩
    have g1 := g0.trans (hb1.mono (by omega))
    clear hb1 hK0 g0 hX0 cV
    go_wp2
    go_ret
    exact ⟨rfl, g1⟩
  rw [show S.okB = true from (Sto.okB_iff S).2 hok] at cV
  have h6 := hok.2.1
  have HFT : Go.RowKit.Hid (∀ (k : Nat) (hk : k < S.fs.length), S.ft S.fs[k] = S.fs[k].1 ++ 32 :: orDash (fmtHex ((cdB S.o S.l S.m S.dict S.fs[k].2).getD []))) := fun k hk => rfl
  have HNL : Go.RowKit.Hid (∀ (k : Nat) (hk : k < S.fs.length), S.fs[k].1.length ≤ 8) := fun k hk => nameV_len (hok.2.2 k hk).1
  have HJB : Go.RowKit.Hid (∀ k, (join 59 ((S.fs.map S.ft).take k)).length ≤ 24066) := fun k => Sto.fts_bd hok k
  have HMA : Go.RowKit.Hid (∀ (k : Nat) (hk : k < S.fs.length) (h : k < (S.fs.map S.ft).length), (S.fs.map S.ft)[k] = S.ft S.fs[k]) := fun k hk h => by simp
  have hml : (S.fs.map S.ft).length = S.fs.length := by simp
  obtain ⟨R, hR⟩ : ∃ R, S.fmt = R := ⟨_, rfl⟩
  rw [hR]
  rw [Sto.fmt_yes hok] at hR
  have HR := Go.Lib.hid hR
  have cC : Go.RowKit.Hid (∀ t w, t.length ≤ 1500000 → Calls Tryz.prog 73 #[.agg #[.int .i64 S.o, .int .i64 S.l, .int .i64 S.m], sv S.dict, sv t] w fun e w' => e = datRes (cdB S.o S.l S.m S.dict t) ∧ Below w.heap.size w w') := fun t w h => sContainerData_any S.o S.l S.m S.dict t w (by omega) h
  clear hok hR
  generalize S.fs.map S.ft = ms at *
  generalize S.ft = ft at *
  obtain ⟨o, l, m, dict, fs⟩ := S
  simp only at *
  go_enter Tryz.func43, Tryz.ntmps43
  have hK0 : Bk (w.alloc (.cells #[.int .i64 o, .int .i64 l, .int .i64 m, .string ⟨dict.toArray⟩, .slice A fs.length cap] 50)) w.heap.size 50 #[.int .i64 o, .int .i64 l, .int .i64 m, .string ⟨dict.toArray⟩, .slice A fs.length cap] := (by (repeat (first | (with_reducible assumption) | (with_reducible exact Bk.new _ _ _) | (with_reducible refine Bk.newAt _ _ _ (by simp; done)) | (with_reducible refine Bk.drew ?_) | (with_reducible refine Bk.drewN ?_ _) | (with_reducible refine Bk.alloc ?_ _))); done)
  have g0 : Below w.heap.size w (w.alloc (.cells #[.int .i64 o, .int .i64 l, .int .i64 m, .string ⟨dict.toArray⟩, .slice A fs.length cap] 50)) := (by repeat (first | (with_reducible exact Below.refl _ _) | (with_reducible assumption) | (with_reducible refine Below.drew ?_) | (with_reducible refine Below.alloc ?_ (by first | omega | (simp <;> omega)) _) | (with_reducible refine Below.setCell ?_ (by first | omega | (simp <;> omega)) _) | (with_reducible refine belowN ?_ _)))
  go_upto_region 1 with (fail)
  generalize w.alloc (.cells #[.int .i64 o, .int .i64 l, .int .i64 m, .string ⟨dict.toArray⟩, .slice A fs.length cap] 50) = w0 at *
  have hX0 := hK0.cell
  have hz0 := hK0.lt
  go_wp2_with fail
  refine (cV.out _ (HSL.out _ g0)).mono ?_
  rintro e w1 ⟨rfl, hb1⟩
  have hz1 := hb1.size
  have hK1 := hK0.below hb1 hz0
  have g1 := g0.trans (hb1.mono (by omega))
  clear hb1 hK0 g0 hX0 cV
  go_wp2
  go_loopw [3, 4] (fun a i wr => ∃ (k : Nat) (X : Bs), a = sv X ∧ i = .int .i64 (k : Int) ∧ k ≤ fs.length ∧ X.length ≤ 24066 ∧ Go.RowKit.Hid (join 59 (ms.take k) = X) ∧ Bk wr w.heap.size 50 #[.int .i64 o, .int .i64 l, .int .i64 m, .string ⟨dict.toArray⟩, .slice A fs.length cap] ∧ Below w.heap.size w wr) (fun _ i _ => fs.length - (intOf i).toNat)
  case atStart => exact ⟨0, [], rfl, rfl, by omega, by simp, rfl, hK1, g1⟩
  case round =>
    obtain ⟨k, X, rfl, rfl, hk, hXl, HX, hK, hb⟩ := hrel
    clear hK1 g1
    have hz := hb.size
    have hX := hK.cell
    have hlt0 := hK.lt
    by_cases hlt : k < fs.length
    · have hki : (k : Int) < fs.length := by omega
      have hkm : k < ms.length := by omega
      obtain ⟨g, off, hA, hg, c0, c1⟩ := (HSL.out wr hb).fl hlt
      have hbk := (HB.out fs[k] (List.getElem_mem hlt)).2
      have hn8 := HNL.out k hlt
      have hme := (HMA.out k hlt hkm).trans (HFT.out k hlt)
      have HJ2 := Go.Lib.hid (HJB.out (k + 1))
      have HS : Go.RowKit.Hid (join 59 (ms.take (k + 1)) = (if k = 0 then [] else X ++ [59]) ++ ms[k]) := by
        show _ = _
        by_cases h0 : k = 0
        · subst h0; rw [if_pos rfl, join_take0 hkm]; rfl
        · rw [if_neg h0, join_takeS hkm (by omega), HX.out]; simp
      rw [hme] at HS
      have HEL : Go.RowKit.Hid (∀ W, Below w.heap.size w W → W.cell? ⟨g, off + k * 2, none⟩ = some (.string ⟨fs[k].1.toArray⟩)) := fun W h => by
        obtain ⟨g', off', e, _, c, _⟩ := (HSL.out W h).fl hlt
        rw [hA] at e; injection e with e; injection e with e1 e2; subst e1 e2; exact c
      have HX0 : Go.RowKit.Hid (join 59 (ms.take k) = X) := HX
      clear hme HX
      generalize fs[k].1 = nm at *
      generalize fs[k].2 = tx at *
      subst hA
      have cD := fun w => cC.out tx w (by omega)
      have hdl := cd_len o l m dict tx
      obtain ⟨D, hD⟩ : ∃ D, (cdB o l m dict tx).getD [] = D := ⟨_, rfl⟩
      obtain ⟨b, hbb⟩ : ∃ b, (cdB o l m dict tx).isSome = b := ⟨_, rfl⟩
      unfold datRes at cD
      rw [hD] at HS hdl
      rw [hD, hbb] at cD
      clear hD hbb
      have hhl := fmtHex_len D
      have cH := fun w => sFormatHex_any D w (by omega)
      generalize fmtHex D = hx at *
      have hol := orDash_len hx
      have cO : ∀ w, Calls Tryz.prog 94 #[.string ⟨hx.toArray⟩] w fun e w' => e = .returned (.string ⟨(orDash hx).toArray⟩) ∧ Below w.heap.size w w' := fun w => (l3Some_any hx w).mono fun e w' h => ⟨h.1, h.2 ▸ Below.refl _ _⟩
      generalize orDash hx = hy at *
      rcases Nat.eq_zero_or_pos k with rfl | hk0
      · rw [if_pos rfl] at HS
        simp only [Nat.zero_mul, Nat.add_zero] at c0 c1 HEL
        have hG := box_class hX hlt0
        have C1 := fun d os => cell_regrown c1 d os
        go_wp2_with fail
        refine wp_region_quiet_below (by kernel_rfl) (by kernel_rfl) ?_
        repeat (go_big_quiet_step ((go_at_call 73; exact Calls.regrown_of (cD _))))
        refine wpQuiet_nil ?_
        intro w3 hw2
        have hb3 : Below _ _ w3 := below_of_class hw2
        clear hw2
        have hK3 := hK.below hb3 hlt0
        have g3 := hb.trans (hb3.mono hz)
        have c3 := HEL.out w3 g3
        have C3 := fun d os => cell_regrown c3 d os
        have hX3 := hK3.cell
        have hG3 := box_class hX3 hK3.lt
        clear hb3 hK hb hX hG c0 c1 C1 cD
        have hq1 : ¬ 9223372036854775807 < X.length + nm.length := by omega
        have hq2 : ¬ 9223372036854775807 < X.length + nm.length + 1 := by omega
        have hq3 : ¬ 9223372036854775807 < X.length + nm.length + 1 + hy.length := by omega
        go_wp2_with fail
        refine wp_region_quiet_below (by kernel_rfl) (by kernel_rfl) ?_
        repeat (go_big_quiet_step ((first | (go_at_call 95; exact Calls.regrown_of (cH _)) | (go_at_call 94; exact Calls.regrown_of (cO _)))))
        refine wpQuiet_nil ?_
        intro w4 hw2
        have hb4 : Below _ _ w4 := below_of_class hw2
        clear hw2
        have hK4 := hK3.below hb4 hK3.lt
        have g4 := g3.trans (hb4.mono (by have := g3.size; omega))
        clear hb4 hK3 g3 hG3 hX3 c3 C3
        have HE : Go.RowKit.Hid (X ++ nm ++ [32] ++ hy = join 59 (ms.take (0 + 1))) := by
          have hXe : X = [] := by rw [← HX0.out]; rfl
          show _ = _
          rw [HS.out, hXe]; simp
        go_wp2
        go_roundw
        case rel => exact ⟨0 + 1, _, rfl, by go_num, by omega, by have := HJ2.out; rw [← HE.out] at this; simpa using this, by show _ = _; rw [← HE.out]; simp, hK4, g4⟩
        case measure => simp [intOf]; omega
      · clear HX0
        have hk0i : (0 : Int) < (k : Int) := by omega
        rw [if_neg (by omega)] at HS
        have hq0 : ¬ 9223372036854775807 < X.length + 1 := by omega
        have hG := box_class hX hlt0
        have C1 := fun d os => cell_regrown c1 d os
        go_wp2_with fail
        refine wp_region_quiet_below (by kernel_rfl) (by kernel_rfl) ?_
        repeat (go_big_quiet_step ((go_at_call 73; exact Calls.regrown_of (cD _))))
        refine wpQuiet_nil ?_
        intro w3 hw2
        have hb3 : Below _ _ w3 := below_of_class hw2
        clear hw2
        have hK3 := hK.below hb3 hlt0
        have g3 := hb.trans (hb3.mono hz)
        have c3 := HEL.out w3 g3
        have C3 := fun d os => cell_regrown c3 d os
        have hX3 := hK3.cell
        have hG3 := box_class hX3 hK3.lt
        clear hb3 hK hb hX hG c0 c1 C1 cD
        have hq1 : ¬ 9223372036854775807 < X.length + 1 + nm.length := by omega
        have hq2 : ¬ 9223372036854775807 < X.length + 1 + nm.length + 1 := by omega
        have hq3 : ¬ 9223372036854775807 < X.length + 1 + nm.length + 1 + hy.length := by omega
        go_wp2_with fail
        refine wp_region_quiet_below (by kernel_rfl) (by kernel_rfl) ?_
        repeat (go_big_quiet_step ((first | (go_at_call 95; exact Calls.regrown_of (cH _)) | (go_at_call 94; exact Calls.regrown_of (cO _)))))
        refine wpQuiet_nil ?_
        intro w4 hw2
        have hb4 : Below _ _ w4 := below_of_class hw2
        clear hw2
        have hK4 := hK3.below hb4 hK3.lt
        have g4 := g3.trans (hb4.mono (by have := g3.size; omega))
        clear hb4 hK3 g3 hG3 hX3 c3 C3
        have HE : Go.RowKit.Hid ((X ++ [59]) ++ nm ++ [32] ++ hy = join 59 (ms.take (k + 1))) := by show _ = _; rw [HS.out]; simp
        go_wp2
        go_roundw
        case rel => exact ⟨k + 1, _, rfl, by go_num, by omega, by have := HJ2.out; rw [← HE.out] at this; simpa using this, by show _ = _; rw [← HE.out]; simp, hK4, g4⟩
        case measure => simp [intOf]; omega
    · have hki : ¬ (k : Int) < fs.length := by omega
      have hR : orDash X = R := by rw [← HR.out, ← HX.out, List.take_of_length_le (by omega)]
      have cO := fun w => l3Some_any X w
      rw [hR] at cO
      go_wp2_with (go_at_call 94; refine (cO _).mono ?_; rintro e w' ⟨rfl, rfl⟩)
      go_ret
      exact ⟨rfl, hb⟩
end Go.Proofs.YtoogaalbnnlloaaGreat
