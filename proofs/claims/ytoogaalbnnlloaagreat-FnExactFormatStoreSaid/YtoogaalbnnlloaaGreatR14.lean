/- Walks: the text of a store, by the program. -/
import Derived.Test.YtoogaalbnnlloaaGreatR13
import Derived.Test.YtoogaalbnnlloaaGreatShelf
import Derived.Deep.Cut
namespace Go.Proofs.YtoogaalbnnlloaaGreat
open Go.RowKit
set_option linter.unusedVariables false
set_option linter.unusedSimpArgs false
set_option maxRecDepth 100000
attribute [local go_sem high] run_index_S binOp_eql_S binOp_neq_S append_S toList_S size_S run_slice_S run_slice_from_S run_slice_to_S wrap64_byteAt wrap64_byteAt_mul bits_or_bytes convU conv1_some convU2 conv2_some
theorem jn59 (ls : List Bs) : Lib.join ls [59] = join 59 ls := by
  induction ls with
  | nil => rfl
  | cons a r ih =>
    by_cases e : r = []
    · subst e; rw [Lib.join_one]; rfl
    · rw [join_cons _ _ _ e, ← ih]
      cases r with
      | nil => exact absurd rfl e
      | cons b r =>
        unfold Lib.join
        simp
theorem arr_mapR (ls : List Bs) : (ls.map fun l => (⟨l.toArray⟩ : ByteArray)).map (·.data.toList) = ls := by
  induction ls with
  | nil => rfl
  | cons a r ih => rw [List.map_cons, List.map_cons, ih]
theorem join59_any (ls : List Bs) (A : Option Addr) (cap : Nat) (w : World) (hs : Sl w A ls.length cap 1 (ls.map sv)) (hl : ls.length ≤ 100000) (hb : ∀ l ∈ ls, l.length ≤ 100000) :
    Calls Tryz.prog 98 #[.slice A ls.length cap, .string ⟨#[59]⟩] w fun e w' => e = .returned (sv (join 59 ls)) ∧ Below w.heap.size w w' := by
  by_cases hn : ls.length = 0
  · have hn2 : ls = [] := List.eq_nil_of_length_eq_zero hn
    subst hn2
    refine (Tryz.strings_Join_none A cap ⟨#[59]⟩ w).mono ?_
    rintro e w' ⟨rfl, rfl⟩
    exact ⟨rfl, Below.refl _ _⟩
  · obtain ⟨g, off, u, rfl, hg, _⟩ := hs.at1 (show 0 < ls.length by omega)
    have hjl := join_bd ls 100000 hb
    have hm : (100000 + 1) * ls.length ≤ (100000 + 1) * 100000 := Nat.mul_le_mul_left _ hl
    have hlen : (ls.map fun l => (⟨l.toArray⟩ : ByteArray)).length = ls.length := by simp
    have h := Tryz.strings_Join g off cap (ls.map fun l => (⟨l.toArray⟩ : ByteArray)) ⟨#[59]⟩ w (fun j x hx => ?_) hg (by rw [hlen]; omega) (by rw [hlen]; exact hs.1) (by rw [arr_mapR, show (⟨#[59]⟩ : ByteArray).data.toList = [59] from rfl, jn59]; omega)
    · rw [hlen, arr_mapR, show (⟨#[59]⟩ : ByteArray).data.toList = [59] from rfl, jn59] at h
      exact h
    · rw [List.getElem?_map] at hx
      by_cases hj : j < ls.length
      · obtain ⟨g', off', u, e, _, hu, hc⟩ := hs.at1 hj
        injection e with e
        injection e with e1 e2
        subst e1 e2
        rw [List.getElem?_eq_getElem hj] at hx
        simp at hx
        rw [List.getElem?_map, List.getElem?_eq_getElem hj] at hu
        simp at hu
        rw [hc, ← hx, ← hu]
      · rw [List.getElem?_eq_none (by omega)] at hx
        cases hx
/-- The first k of n texts; the others are empty still. -/
def mqC (ms : List Bs) (k : Nat) : List Value := (ms.take k).map sv ++ List.replicate (ms.length - k) (sv [])
theorem mqC_zero (ms : List Bs) : mqC ms 0 = List.replicate ms.length (sv []) := by simp [mqC]
theorem mqC_full (ms : List Bs) : mqC ms ms.length = ms.map sv := by simp [mqC]
theorem mqC_cur (ms : List Bs) (k : Nat) (h : k < ms.length) : (mqC ms k)[k]? = some (sv []) := by
  unfold mqC
  have e : ((ms.take k).map sv).length = k := by simp; omega
  rw [List.getElem?_append_right (by omega), e, Nat.sub_self, List.getElem?_replicate, if_pos (by omega)]
theorem mqC_set (ms : List Bs) (k : Nat) (h : k < ms.length) : (mqC ms k).set k (sv ms[k]) = mqC ms (k + 1) := by
  unfold mqC
  have e : ((ms.take k).map sv).length = k := by simp; omega
  rw [List.set_append_right _ _ (by omega), e, Nat.sub_self, show ms.length - k = (ms.length - (k + 1)) + 1 by omega, List.replicate_succ, List.set_cons_zero, List.take_succ_eq_append_getElem h, List.map_append, List.append_assoc]
  rfl
set_option maxHeartbeats 2000000 in
theorem formatStore_any (S : Sto) (A : Option Addr) (cap : Nat) (w : World) (hs : Sl w A S.fs.length cap 2 (flsV S.fs)) (hd : S.dict.length ≤ 1500000) (hl : S.fs.length ≤ 1500000) (hb : ∀ f ∈ S.fs, f.1.length ≤ 1500000 ∧ f.2.length ≤ 1500000) :
    Calls Tryz.prog 44 #[S.V A cap] w fun e w' => e = .returned (sv S.fmt) ∧ Below w.heap.size w w' := by
  have hcap := hs.1
  have hcap2 := hs.2.1
  have cV : Go.RowKit.Hid (∀ w, Sl w A S.fs.length cap 2 (flsV S.fs) → Calls Tryz.prog 28 #[S.V A cap] w fun e w' => e = .returned (.bool S.okB) ∧ Below w.heap.size w w') := fun w h => storeValid_any S A cap w h hd hl hb
  have HSL : Go.RowKit.Hid (∀ wr, Below w.heap.size w wr → Sl wr A S.fs.length cap 2 (flsV S.fs)) := fun wr h => hs.below h
  have HB := Go.Lib.hid hb
  clear hs hb
  by_cases hok : S.ok
  case neg =>
    rw [show S.okB = false from Sto.okB_no hok] at cV
    rw [Sto.fmt_no hok]
    clear hok
    obtain ⟨o, l, m, dict, fs⟩ := S
    simp only at *
    go_enter Tryz.func44, Tryz.ntmps44
    have hK0 : Bk (w.alloc (.cells #[.int .i64 o, .int .i64 l, .int .i64 m, .string ⟨dict.toArray⟩, .slice A fs.length cap] 50)) w.heap.size 50 #[.int .i64 o, .int .i64 l, .int .i64 m, .string ⟨dict.toArray⟩, .slice A fs.length cap] := (by (repeat (first | (with_reducible assumption) | (with_reducible exact Bk.new _ _ _) | (with_reducible refine Bk.newAt _ _ _ (by simp; done)) | (with_reducible refine Bk.drew ?_) | (with_reducible refine Bk.drewN ?_ _) | (with_reducible refine Bk.alloc ?_ _))); done)
    have g0 : Below w.heap.size w (w.alloc (.cells #[.int .i64 o, .int .i64 l, .int .i64 m, .string ⟨dict.toArray⟩, .slice A fs.length cap] 50)) := (by repeat (first | (with_reducible exact Below.refl _ _) | (with_reducible assumption) | (with_reducible refine Below.drew ?_) | (with_reducible refine Below.alloc ?_ (by first | omega | (simp <;> omega)) _) | (with_reducible refine Below.setCell ?_ (by first | omega | (simp <;> omega)) _) | (with_reducible refine belowN ?_ _)))
    go_upto_region 1 with (fail)
    generalize w.alloc (.cells #[.int .i64 o, .int .i64 l, .int .i64 m, .string ⟨dict.toArray⟩, .slice A fs.length cap] 50) = w0 at *
    have hX0 := hK0.cell
    have hz0 := hK0.lt
    go_wp2_with fail
    refine (cV.out _ (HSL.out _ g0)).mono ?_
    rintro e w1 ⟨rfl, hb1⟩
    have g1 := g0.trans (hb1.mono (by omega))
    clear hb1 hK0 g0 hX0 cV
    go_wp2
    go_ret
    exact ⟨rfl, g1⟩
  rw [show S.okB = true from (Sto.okB_iff S).2 hok] at cV
  obtain ⟨i0, hi, hz0', hz1', hz2'⟩ := info_parts info_str
  have h6 := hok.2.1
  have HFT : Go.RowKit.Hid (∀ (k : Nat) (hk : k < S.fs.length), S.ft S.fs[k] = S.fs[k].1 ++ 32 :: orDash (fmtHex ((cdB S.o S.l S.m S.dict S.fs[k].2).getD []))) := fun k hk => rfl
  have HNL : Go.RowKit.Hid (∀ (k : Nat) (hk : k < S.fs.length), S.fs[k].1.length ≤ 8) := fun k hk => nameV_len (hok.2.2 k hk).1
  have HMB : Go.RowKit.Hid (∀ t ∈ S.fs.map S.ft, t.length ≤ 100000) := fun t ht => by
    obtain ⟨f, hf, rfl⟩ := List.mem_map.1 ht
    obtain ⟨i, hi, rfl⟩ := List.getElem_of_mem hf
    have := Sto.ft_len (S := S) (nameV_len (hok.2.2 i hi).1)
    omega
  have HJB : Go.RowKit.Hid ((join 59 (S.fs.map S.ft)).length ≤ 24066) := by
    have h1 := Sto.fts_bd hok (S.fs.map S.ft).length
    rw [List.take_length] at h1
    exact h1
  have HMA : Go.RowKit.Hid (∀ (k : Nat) (hk : k < S.fs.length) (h : k < (S.fs.map S.ft).length), (S.fs.map S.ft)[k] = S.ft S.fs[k]) := fun k hk h => by simp
  have hml : (S.fs.map S.ft).length = S.fs.length := by simp
  obtain ⟨R, hR⟩ : ∃ R, S.fmt = R := ⟨_, rfl⟩
  rw [hR]
  rw [Sto.fmt_yes hok] at hR
  have HR := Go.Lib.hid hR
  have cC : Go.RowKit.Hid (∀ t w, t.length ≤ 1500000 → Calls Tryz.prog 78 #[.agg #[.int .i64 S.o, .int .i64 S.l, .int .i64 S.m], sv S.dict, sv t] w fun e w' => e = datRes (cdB S.o S.l S.m S.dict t) ∧ Below w.heap.size w w') := fun t w h => containerData_any S.o S.l S.m S.dict t w (by omega) h
  clear hok hR
  generalize S.fs.map S.ft = ms at *
  generalize S.ft = ft at *
  obtain ⟨o, l, m, dict, fs⟩ := S
  simp only at *
  go_enter Tryz.func44, Tryz.ntmps44
  have hK0 : Bk (w.alloc (.cells #[.int .i64 o, .int .i64 l, .int .i64 m, .string ⟨dict.toArray⟩, .slice A fs.length cap] 50)) w.heap.size 50 #[.int .i64 o, .int .i64 l, .int .i64 m, .string ⟨dict.toArray⟩, .slice A fs.length cap] := (by (repeat (first | (with_reducible assumption) | (with_reducible exact Bk.new _ _ _) | (with_reducible refine Bk.newAt _ _ _ (by simp; done)) | (with_reducible refine Bk.drew ?_) | (with_reducible refine Bk.drewN ?_ _) | (with_reducible refine Bk.alloc ?_ _))); done)
  have g0 : Below w.heap.size w (w.alloc (.cells #[.int .i64 o, .int .i64 l, .int .i64 m, .string ⟨dict.toArray⟩, .slice A fs.length cap] 50)) := (by repeat (first | (with_reducible exact Below.refl _ _) | (with_reducible assumption) | (with_reducible refine Below.drew ?_) | (with_reducible refine Below.alloc ?_ (by first | omega | (simp <;> omega)) _) | (with_reducible refine Below.setCell ?_ (by first | omega | (simp <;> omega)) _) | (with_reducible refine belowN ?_ _)))
  go_upto_region 1 with (fail)
  generalize w.alloc (.cells #[.int .i64 o, .int .i64 l, .int .i64 m, .string ⟨dict.toArray⟩, .slice A fs.length cap] 50) = w0 at *
  have hX0 := hK0.cell
  have hz0 := hK0.lt
  go_wp2_with fail
  refine (cV.out _ (HSL.out _ g0)).mono ?_
  rintro e w1 ⟨rfl, hb1⟩
  have hz1 := hb1.size
  have hK1 := hK0.below hb1 hz0
  have g1 := g0.trans (hb1.mono (by omega))
  clear hb1 hK0 g0 hX0 cV
  have hX1 := hK1.cell
  have hl1 := hK1.lt
  go_wp2_with (at_make; go_must (refine wpList_make_full _ rfl _ _ 79 rfl w1.heap.size 9 i0 (.string ⟨#[]⟩) 1 Tryz.underlying79 hi hz0' hz1' _ _ _ _ fs.length rfl rfl (by omega) (by omega) (by rw [hz2']; omega) (by unfold maxLen; omega) (by omega) ?_); intro w2 hown hg1; have hX2 := (hK1.grown hg1 (fun k hk => by cases hk)).cell)
  have b2 : Below w1.heap.size w1 w2 := (Below.refl _ _).grown hg1 (Nat.le_refl _) (by simp)
  have hown2 : w2.ownsRow w1.heap.size 9 1 (.slice (some ⟨w1.heap.size, 0, none⟩) fs.length fs.length) fs.length (mqC ms 0) := by
    rw [mqC_zero, hml, ← toList_madeCells_one]
    rw [Nat.mul_one] at hown
    exact hown
  have HSW : Go.RowKit.Hid (∀ wr, Below w1.heap.size w1 wr → Sl wr A fs.length cap 2 (flsV fs) ∧ Bk wr w.heap.size 50 #[.int .i64 o, .int .i64 l, .int .i64 m, .string ⟨dict.toArray⟩, .slice A fs.length cap] ∧ Below w.heap.size w wr) := fun wr h => ⟨HSL.out wr (g1.trans (h.mono (by omega))), hK1.below h hl1, g1.trans (h.mono (by omega))⟩
  clear hg1 hown hX1 hK1 g1
  have htl : w.heap.size < w1.heap.size := hl1
  clear hX2 hz1 hl1 hz0
  generalize w1.heap.size = tb at *
  go_loopw [18] (fun i wr => ∃ k : Nat, i = .int .i64 (k : Int) ∧ k ≤ fs.length ∧ wr.ownsRow tb 9 1 (.slice (some ⟨tb, 0, none⟩) fs.length fs.length) fs.length (mqC ms k) ∧ Below tb w1 wr) (fun i _ => fs.length - (intOf i).toNat)
  case atStart => exact ⟨0, rfl, by omega, hown2, b2⟩
  case round =>
    obtain ⟨k, rfl, hk, hown, hb⟩ := hrel
    clear hown2 b2
    have hz : tb ≤ wr.heap.size := Nat.le_of_lt (hown.lt _ rfl).2
    obtain ⟨hsl, hBk, hgw⟩ := HSW.out wr hb
    by_cases hlt : k < fs.length
    · have hki : (k : Int) < fs.length := by omega
      have hkm : k < ms.length := by omega
      obtain ⟨g, off, rfl, hg, c0, c1⟩ := hsl.fl hlt
      have hbk := (HB.out fs[k] (List.getElem_mem hlt)).2
      have hn8 := HNL.out k hlt
      have hme := (HMA.out k hlt hkm).trans (HFT.out k hlt)
      have HSE := Go.Lib.hid (mqC_set ms k hkm)
      have HCUR := Go.Lib.hid (mqC_cur ms k hkm)
      rw [hme] at HSE
      clear hme hsl
      generalize fs[k].1 = nm at *
      generalize fs[k].2 = tx at *
      have cD := fun w => cC.out tx w (by omega)
      have hdl := cd_len o l m dict tx
      obtain ⟨D, hD⟩ : ∃ D, (cdB o l m dict tx).getD [] = D := ⟨_, rfl⟩
      obtain ⟨b, hbb⟩ : ∃ b, (cdB o l m dict tx).isSome = b := ⟨_, rfl⟩
      unfold datRes at cD
      rw [hD] at HSE hdl
      rw [hD, hbb] at cD
      clear hD hbb
      have hhl := fmtHex_len D
      have cH := fun w => formatHex_any D w (by omega)
      generalize fmtHex D = hx at *
      have hol := orDash_len hx
      have cO : ∀ w, Calls Tryz.prog 96 #[.string ⟨hx.toArray⟩] w fun e w' => e = .returned (.string ⟨(orDash hx).toArray⟩) ∧ w = w' := fun w => orDash_any hx w
      generalize orDash hx = hy at *
      have hN := Bk.new wr #[.string ⟨nm.toArray⟩, .string ⟨tx.toArray⟩] 116
      have o2 := hown.alloc (.cells #[.string ⟨nm.toArray⟩, .string ⟨tx.toArray⟩] 116)
      have g2 := hb.alloc hz (.cells #[.string ⟨nm.toArray⟩, .string ⟨tx.toArray⟩] 116)
      have hqn : tb < wr.heap.size := (hown.lt _ rfl).2
      clear hown hb hBk hgw
      go_upto_region 7 with (fail)
      generalize wr.alloc (.cells #[.string ⟨nm.toArray⟩, .string ⟨tx.toArray⟩] 116) = W at *
      have hX := (HSW.out W g2).2.1.cell
      have hY := hN.cell
      have hlN := hN.lt
      generalize wr.heap.size = qn at *
      clear c0 c1
      go_wp2_with fail
      refine (cD _).mono ?_
      rintro e w3 ⟨rfl, hb3⟩
      have hz3 := hb3.size
      have hN3 := hN.below hb3 hlN
      have o3 := owns_keep o2 hb3
      have g3 := g2.trans (hb3.mono (by omega))
      have hY3 := hN3.cell
      clear hb3 hN o2 g2 hX hY cD
      have hq1 : ¬ 9223372036854775807 < nm.length + 1 := by omega
      have hq2 : ¬ 9223372036854775807 < nm.length + 1 + hy.length := by omega
      have hcl3 := (o3.cellAt k (by omega)).trans HCUR.out
      have HM : Go.RowKit.Hid (∀ w', Below w3.heap.size w3 w' → (w'.cell? ⟨qn, 0, none⟩ = some (.string ⟨nm.toArray⟩) ∧ w'.cell? ⟨tb, k, none⟩ = some (sv []) ∧ Below w3.heap.size w3 w')) := fun w' h => ⟨(h.cell (p := ⟨_, _, _⟩) (by first | assumption | (simp only; omega) | omega)).trans (hY3 0), (h.cell (p := ⟨_, _, _⟩) (by first | assumption | (simp only; omega) | omega)).trans (hcl3), h⟩
      go_wp2_with fail
      refine wp_region_last 10 (fun w' => w'.cell? ⟨qn, 0, none⟩ = some (.string ⟨nm.toArray⟩) ∧ w'.cell? ⟨tb, k, none⟩ = some (sv []) ∧ Below w3.heap.size w3 w') (by kernel_rfl) (by kernel_rfl) (by exact HM.out _ (by repeat (first | (with_reducible exact Below.refl _ _) | (with_reducible assumption) | (with_reducible refine Below.drew ?_) | (with_reducible refine Below.alloc ?_ (by first | omega | (simp <;> omega)) _) | (with_reducible refine Below.setCell ?_ (by first | omega | (simp <;> omega)) _) | (with_reducible refine belowN ?_ _) | (with_reducible refine Below.trans ?_ (Below.mono (by with_reducible assumption) (by first | omega | (simp <;> omega))))))) (fun hSS => ?_)
      simp only [List.take_succ_cons, List.take_zero]
      refine wpAnyH_take (i := 0) (v := ?_) rfl (by kernel_rfl) (by kernel_rfl) (by kernel_rfl) (fun _ _ _ h => h) (Or.inl ⟨by rfl, ?_⟩) (by assumption) ?_
      rotate_left
      focus (intro w hSw; (try dsimp only at hSw); go_simp; try with_reducible rfl)
      try simp only [Act.put, List.setIfInBounds_toArray, List.set_cons_zero, List.set_cons_succ]
      refine wpAnyH_take (i := 1) (v := ?_) rfl (by kernel_rfl) (by kernel_rfl) (by kernel_rfl) (fun _ _ _ h => h) (Or.inl ⟨by rfl, ?_⟩) (by assumption) ?_
      rotate_left
      focus (intro w hSw; (try dsimp only at hSw); go_simp; try with_reducible rfl)
      try simp only [Act.put, List.setIfInBounds_toArray, List.set_cons_zero, List.set_cons_succ]
      refine wpAnyH_take (i := 2) (v := ?_) rfl (by kernel_rfl) (by kernel_rfl) (by kernel_rfl) (fun _ _ _ h => h) (Or.inl ⟨by rfl, ?_⟩) (by assumption) ?_
      rotate_left
      focus (intro w hSw; (try dsimp only at hSw); go_simp; try with_reducible rfl)
      try simp only [Act.put, List.setIfInBounds_toArray, List.set_cons_zero, List.set_cons_succ]
      refine wpAnyH_take (i := 3) (v := ?_) rfl (by kernel_rfl) (by kernel_rfl) (by kernel_rfl) (fun _ _ _ h => h) (Or.inl ⟨by rfl, ?_⟩) (by assumption) ?_
      rotate_left
      focus (intro w hSw; (try dsimp only at hSw); go_simp; try with_reducible rfl)
      try simp only [Act.put, List.setIfInBounds_toArray, List.set_cons_zero, List.set_cons_succ]
      refine wpAnyH_take (i := 4) (v := ?_) rfl (by kernel_rfl) (by kernel_rfl) (by kernel_rfl) (fun _ _ _ h => h) (Or.inl ⟨by rfl, ?_⟩) (by assumption) ?_
      rotate_left
      focus (intro w hSw; (try dsimp only at hSw); go_simp; try with_reducible rfl)
      try simp only [Act.put, List.setIfInBounds_toArray, List.set_cons_zero, List.set_cons_succ]
      refine wpAnyH_take (i := 5) (v := ?_) rfl (by kernel_rfl) (by kernel_rfl) (by kernel_rfl) (fun _ _ _ h => h) (Or.inl ⟨by rfl, ?_⟩) (by assumption) ?_
      rotate_left
      focus (intro w hSw; (try dsimp only at hSw); go_simp; try with_reducible rfl)
      try simp only [Act.put, List.setIfInBounds_toArray, List.set_cons_zero, List.set_cons_succ]
      refine wpAnyH_ready (rs := [6]) (by kernel_rfl) (by simp) ?_
      refine AllReadyH.cons (o := _) rfl (fun KK hKK => ?_) AllReadyH.nil
      go_simp
      (go_at_call 97; refine (cH _).mono ?_; rintro e w7 ⟨rfl, hb7⟩; have hb7 : Below w3.heap.size w3 w7 := below_undrew hb7; have hz7 := hb7.size; have o7 := owns_keep o3 hb7; have g7 := g3.trans (hb7.mono (by omega)); have hcl := (o7.cellAt k (by omega)).trans HCUR.out; have hfr := o7.frozenAt k; have hst := (o7.stored k (sv (nm ++ 32 :: hy))).1)
      refine hKK.out _ _ ?_ (fun hSS => ?_)
      focus (exact HM.out _ (by repeat (first | (with_reducible exact Below.refl _ _) | (with_reducible assumption) | (with_reducible refine Below.drew ?_) | (with_reducible refine Below.alloc ?_ (by first | omega | (simp <;> omega)) _) | (with_reducible refine Below.setCell ?_ (by first | omega | (simp <;> omega)) _) | (with_reducible refine belowN ?_ _) | (with_reducible refine Below.trans ?_ (Below.mono (by with_reducible assumption) (by first | omega | (simp <;> omega)))))))
      try simp only [Act.put, List.setIfInBounds_toArray, List.set_cons_zero, List.set_cons_succ]
      refine wpAnyH_ready (rs := [7]) (by kernel_rfl) (by simp) ?_
      refine AllReadyH.cons (o := _) rfl (fun KK hKK => ?_) AllReadyH.nil
      go_simp
      (go_at_call 96; refine (cO _).mono ?_; rintro e w8 ⟨rfl, rfl⟩)
      refine hKK.out _ _ ?_ (fun hSS => ?_)
      focus (exact HM.out _ (by repeat (first | (with_reducible exact Below.refl _ _) | (with_reducible assumption) | (with_reducible refine Below.drew ?_) | (with_reducible refine Below.alloc ?_ (by first | omega | (simp <;> omega)) _) | (with_reducible refine Below.setCell ?_ (by first | omega | (simp <;> omega)) _) | (with_reducible refine belowN ?_ _) | (with_reducible refine Below.trans ?_ (Below.mono (by with_reducible assumption) (by first | omega | (simp <;> omega)))))))
      try simp only [Act.put, List.setIfInBounds_toArray, List.set_cons_zero, List.set_cons_succ]
      refine wpAnyH_take (i := 8) (v := ?_) rfl (by kernel_rfl) (by kernel_rfl) (by kernel_rfl) (fun _ _ _ h => h) (Or.inl ⟨by rfl, ?_⟩) (by assumption) ?_
      rotate_left
      focus (intro w hSw; (try dsimp only at hSw); go_simp; try with_reducible rfl)
      try simp only [Act.put, List.setIfInBounds_toArray, List.set_cons_zero, List.set_cons_succ]
      refine wpAnyH_take (i := 9) (v := ?_) rfl (by kernel_rfl) (by kernel_rfl) (by kernel_rfl) (fun _ _ _ h => h) (Or.inl ⟨by rfl, ?_⟩) (by assumption) ?_
      rotate_left
      focus (intro w hSw; (try dsimp only at hSw); go_simp; try with_reducible rfl)
      try simp only [Act.put, List.setIfInBounds_toArray, List.set_cons_zero, List.set_cons_succ]
      refine wpAnyH_done (by kernel_rfl) ?_ _
      refine LastQ_normal ?_
      refine wpOp_step (o := _) rfl (fun KK hKK => ?_)
      go_simp
      refine hKK _ _ (NoPanic.normal ?_)
      try simp only [Act.put, List.setIfInBounds_toArray, List.set_cons_zero, List.set_cons_succ]
      rw [HSE.out] at hst
      have b9 : Below tb w1 (w7.setCell ⟨tb, k, none⟩ (sv (nm ++ 32 :: hy))) := g7.setCell (Nat.le_refl _) _
      have HH := Go.Lib.hid (And.intro hst b9)
      clear hst b9 hKK o7 g7 o3 g3 hcl hcl3 hfr HSE HCUR
      go_wp2
      go_roundw
      case rel => exact ⟨k + 1, by go_num, by omega, HH.out.1, HH.out.2⟩
      case measure => simp [intOf]; omega
    · have hki : ¬ (k : Int) < fs.length := by omega
      have hkk : k = ms.length := by omega
      have S4 := own_Sl hown
      rw [hkk, mqC_full] at S4
      rw [← hml] at S4
      have cJ := join59_any ms (some ⟨tb, 0, none⟩) ms.length wr S4 (by omega) HMB.out
      have hJ : (join 59 ms).length ≤ 24066 := HJB.out
      have cO := fun w => orDash_any (join 59 ms) w
      rw [HR.out] at cO
      rw [hml] at cJ
      generalize join 59 ms = J at *
      clear S4 hown
      go_wp2_with fail
      refine cJ.mono ?_
      rintro e w3 ⟨rfl, hb3⟩
      have g3 := hgw.trans (hb3.mono (by have := hgw.size; omega))
      go_wp2_with (go_at_call 96; refine (cO _).mono ?_; rintro e w' ⟨rfl, rfl⟩)
      go_ret
      exact ⟨rfl, g3⟩
end Go.Proofs.YtoogaalbnnlloaaGreat
