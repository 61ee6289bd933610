/- Walks: parities parsed. -/
import Derived.Test.YtoogaalbnnlloaaGreatDoorW9
import Derived.Test.YtoogaalbnnlloaaGreatDoorGA
namespace Go.Proofs.YtoogaalbnnlloaaGreatDoor
open Go.RowKit
set_option linter.unusedVariables false
set_option maxRecDepth 100000
attribute [local go_sem high] run_index_S binOp_eql_S binOp_neq_S append_S toList_S size_S run_slice_S run_slice_from_S run_slice_to_S wrap64_byteAt wrap64_byteAt_mul bits_or_bytes convU conv1_some convU2 conv2_some
/-- A slice of strings and whether it is fine; the strings in a row of the call's own. -/
def ParRes (o : Option (List Bs)) (w : World) (e : Ending) (w' : World) : Prop :=
  ∃ A cap, e = .returned (.tuple #[.slice A (o.getD []).length cap, .bool o.isSome]) ∧ w'.ownsRow w.heap.size 9 1 (.slice A (o.getD []).length cap) (o.getD []).length ((o.getD []).map sv) ∧ Below w.heap.size w w'
theorem own_nil (w : World) (B : Nat) (e : TypeId) (size : Nat) : w.ownsRow B e size (.slice none 0 0) 0 [] := ⟨by simp, .inl ⟨rfl, rfl⟩⟩
theorem split_any (c : UInt8) (t : Bs) (m : Int) (w : World) (hs : t.length ≤ 4000000) (hm : w.cell? ⟨0, 0, none⟩ = some (.int .i64 m)) :
    Calls Tryz.prog 23 #[.string ⟨t.toArray⟩, .string ⟨#[c]⟩] w fun e w' => e = .returned (.slice (some ⟨w.heap.size, 0, none⟩) (cut c t).length (cut c t).length) ∧ w' = w.alloc (.cells ((cut c t).map sv).toArray 9) := by
  have h := Tryz.strings_Split ⟨t.toArray⟩ ⟨#[c]⟩ m w (by rw [size_S]; omega) hm (by simp [ByteArray.size])
  rw [split_cut] at h
  have e : Lib.countB ⟨t.toArray⟩ ⟨#[c]⟩ + 1 = (cut c t).length := by
    have := split_count c t.length t (Nat.le_refl _)
    simpa [Lib.countB] using this
  rw [e] at h
  exact h
set_option maxHeartbeats 2000000 in
theorem parseParity_any (t : Bs) (m : Int) (w : World) (hs : t.length ≤ 1500000) (hm : w.cell? ⟨0, 0, none⟩ = some (.int .i64 m)) :
    Calls Tryz.prog 7 #[.string ⟨t.toArray⟩] w (ParRes (parsePar t) w) := by
  obtain ⟨i, hi, hz0, hz1, hz2⟩ := info_parts info_str
  by_cases hd : t = [45]
  · subst hd
    go_enter Tryz.func7, Tryz.ntmps7
    go_wp2
    exact bodyPost_ret (v := .tuple #[.slice none 0 0, .bool true]) (by simp [results, Tryz.results7, go_sem]) rfl ⟨none, 0, by rw [parsePar_dash]; rfl, by rw [parsePar_dash]; exact own_nil _ _ _ _, Below.refl _ _⟩
  · have hdd : decide (t = [45]) = false := by simpa using hd
    have HD := Go.Lib.hid hd
    have hcl := cut_len 32 t
    have HM := Go.Lib.hid (cut_mem_len 32 t)
    have hP : Go.RowKit.Hid (∀ ls, allHex (cut 32 t) = some ls → parsePar t = if parOk ls = true then some ls else none) := fun ls h => parsePar_some hd h
    have hN : Go.RowKit.Hid (allHex (cut 32 t) = none → parsePar t = none) := fun h => parsePar_bad hd h
    clear hd
    have cS := split_any 32 t m w (by omega) hm
    generalize cut 32 t = ps at *
    go_enter Tryz.func7, Tryz.ntmps7
    go_wp2_with fail
    refine cS.mono ?_
    rintro e w1 ⟨rfl, rfl⟩
    have hs1 : SlS (w.alloc (.cells (ps.map sv).toArray 9)) (some ⟨w.heap.size, 0, none⟩) ps.length ps := by
      have := Sl.new w (ps.map sv).toArray 9 ps.length 1 (by simp) (by omega)
      simpa using this
    have g1 : Below w.heap.size w (w.alloc (.cells (ps.map sv).toArray 9)) := (by repeat (first | (with_reducible exact Below.refl _ _) | (with_reducible assumption) | (with_reducible refine Below.drew ?_) | (with_reducible refine Below.alloc ?_ (by first | omega | (simp <;> omega)) _) | (with_reducible refine Below.setCell ?_ (by first | omega | (simp <;> omega)) _) | (with_reducible refine belowN ?_ _)))
    generalize w.alloc (.cells (ps.map sv).toArray 9) = W at *
    clear cS
    go_wp2
    go_loopw [4, 14] (fun v a wr => ∃ (k : Nat) (r : List Bs), k ≤ ps.length ∧ a = .int .i64 k ∧ Go.RowKit.Hid (allHex (ps.take k) = some r) ∧ Go.RowKit.Hid (r.length = k) ∧ wr.ownsRow W.heap.size 9 1 v r.length (r.map sv) ∧ Below W.heap.size W wr) (fun _ a _ => ps.length - (intOf a).toNat)
    case atStart => exact ⟨0, [], by omega, rfl, by show _ = _; simp [allHex], by show _ = _; rfl, own_nil _ _ _ _, Below.refl _ _⟩
    case round =>
      obtain ⟨k, r, hk, rfl, hr, hrl, hown, hbW⟩ := hrel
      have hb := g1.trans (hbW.mono g1.size)
      have hrn : r.length ≤ k := by have := hrl.out; omega
      have hzW := hbW.size
      have hz := hb.size
      have hs2 := hs1.below hbW
      by_cases hlt : k < ps.length
      · obtain ⟨g, off, hgo, hg, hc⟩ := SlS.at hs2 hlt
        injection hgo with hgo
        injection hgo with hg1 hg2 _
        subst hg1
        subst hg2
        rw [Nat.zero_add] at hc
        have hl := HM.out _ (List.getElem_mem hlt)
        have HT := Go.Lib.hid (fun x (hx : unhex ps[k] = some x) => allHex_take hlt hr.out hx)
        have HF := Go.Lib.hid (fun (hx : unhex ps[k] = none) => allHex_none hx ps (List.getElem_mem hlt))
        generalize ps[k] = p at *
        have cP := fun w => parseHex_any p w (by omega)
        cases hu : unhex p with
        | some x =>
          have hres : hexRes p = .returned (.tuple #[sv x, .bool true]) := by unfold hexRes; rw [hu]; rfl
          simp only [hres] at cP
          have HT2 := Go.Lib.hid (HT.out x hu)
          clear HT HF hres hu
          have hm1 : r.length + 1 ≤ maxLen := by unfold maxLen; omega
          have hm2 : (r.length + 1) * 16 ≤ 140737488355328 := by omega
          go_wp2_with fail
          refine (cP _).mono ?_
          rintro e w2 ⟨rfl, hb2⟩
          have hz2' := hb2.size
          have hown1 := owns_keep hown hb2
          have hbW3 := hbW.trans (hb2.mono hbW.size)
          clear hb2 hown cP
          go_wp2_with (at_builtin; go_must (refine wpList_append_own _ rfl _ _ 23 rfl (W.heap.size) 9 i _ 1 16 Tryz.underlying23 hi hz0 hz1 hz2 rfl (by omega) _ _ _ rfl (hown1.alloc _) ⟨w2.heap.size, 0, none⟩ 1 1 [sv x] rfl rfl ?_ ?_ hm1 hm2 ?_ ?_))
          try (case refine_1 => first | exact cell_one_new _ _ _ | omega | (simp <;> omega; done) | (simp [Value.oneCell']; done))
          try (case refine_2 => first | exact cell_one_new _ _ _ | omega | (simp <;> omega; done) | (simp [Value.oneCell']; done))
          try (case refine_3 => first | exact cell_one_new _ _ _ | omega | (simp <;> omega; done) | (simp [Value.oneCell']; done))
          intro v3 w3 hown3 hg3 _
          have hlt3 := hown1.lt
          have hb4 := app_below hbW3 hg3 (by omega) (fun k hk => (hlt3 k hk).1)
          go_wp2
          go_roundw
          case rel =>
            exact ⟨k + 1, r ++ [x], by omega, by go_num, HT2, by show _ = _; have := hrl.out; simp; omega, by rw [List.map_append, List.length_append]; exact hown3, hb4⟩
          case measure => simp [intOf]; omega
        | none =>
          have hres : hexRes p = .returned (.tuple #[sv [], .bool false]) := by unfold hexRes; rw [hu]; rfl
          simp only [hres] at cP
          have HR : Go.RowKit.Hid (parsePar t = none) := hN.out (HF.out hu)
          clear HT HF hres hu
          go_wp2_with fail
          refine (cP _).mono ?_
          rintro e w2 ⟨rfl, hb2⟩
          have hb3 := hb.trans (hb2.mono (by omega))
          go_wp2
          exact bodyPost_ret (v := .tuple #[.slice none 0 0, .bool false]) (by simp [results, Tryz.results7, go_sem]) rfl ⟨none, 0, by rw [HR.out]; rfl, by rw [HR.out]; exact own_nil _ _ _ _, hb3⟩
      · have e : k = ps.length := by omega
        have hr2 : Go.RowKit.Hid (parsePar t = if parOk r = true then some r else none) := hP.out r (by have := hr.out; rw [e, List.take_length] at this; exact this)
        have hbd : ∀ l ∈ r, l.length ≤ 4000 := allHex_bd (ps.take k) r hr.out
        obtain ⟨A, cap, rfl, hsr⟩ := Sl.of_own hown
        go_wp2_with fail
        refine (parityValid_any r A cap _ hsr hbd (by omega)).mono ?_
        rintro e w2 ⟨rfl, rfl⟩
        cases hp : parOk r with
        | true =>
          have HR : Go.RowKit.Hid (parsePar t = some r) := by show _ = _; rw [hr2.out, if_pos hp]
          go_wp2
          exact bodyPost_ret (v := .tuple #[.slice A r.length cap, .bool true]) (by simp [results, Tryz.results7, go_sem]) rfl ⟨A, cap, by rw [HR.out]; rfl, by rw [HR.out]; exact own_mono hown g1.size, hb⟩
        | false =>
          have HR : Go.RowKit.Hid (parsePar t = none) := by show _ = _; rw [hr2.out, if_neg (by rw [hp]; decide)]
          go_wp2
          exact bodyPost_ret (v := .tuple #[.slice none 0 0, .bool false]) (by simp [results, Tryz.results7, go_sem]) rfl ⟨none, 0, by rw [HR.out]; rfl, by rw [HR.out]; exact own_nil _ _ _ _, hb⟩
def outK (t : Bs) (k : Nat) : List Bs := ((cut 32 t).take k).map (fun p => (unhex p).getD [])
theorem outK_succ (t : Bs) (k : Nat) (h : k < (cut 32 t).length) : outK t (k + 1) = outK t k ++ [(unhex (cut 32 t)[k]).getD []] := by
  unfold outK; rw [List.take_succ_eq_append_getElem h, List.map_append]; rfl
theorem outK_bd (t : Bs) (k : Nat) : ∀ l ∈ outK t k, l.length ≤ 4000 := by
  intro l hl
  unfold outK at hl
  rw [List.mem_map] at hl
  obtain ⟨p, _, rfl⟩ := hl
  exact unhexD_len p
theorem outK_len (t : Bs) (k : Nat) : (outK t k).length ≤ k := by unfold outK; simp; omega
theorem outK_full (t : Bs) (k : Nat) (h : (cut 32 t).length ≤ k ∨ k = 41) (hk : k ≤ (cut 32 t).length) (h41 : k ≤ 41) : outK t k = ((cut 32 t).take 41).map (fun p => (unhex p).getD []) := by
  unfold outK
  rcases h with h | h
  · rw [List.take_of_length_le h, List.take_of_length_le (by omega)]
  · rw [h]
set_option maxHeartbeats 2000000 in
theorem sParseParity_any (t : Bs) (w : World) (hs : t.length ≤ 1500000) :
    Calls Tryz.prog 10 #[.string ⟨t.toArray⟩] w (ParRes (parsePar t) w) := by
  obtain ⟨i, hi, hz0, hz1, hz2⟩ := info_parts info_str
  have hm1' : (1 : Nat) ≤ maxLen := by unfold maxLen; omega
  by_cases he : t = []
  · subst he
    go_enter Tryz.func10, Tryz.ntmps10
    go_wp2
    exact bodyPost_ret (v := .tuple #[.slice (some ⟨w.heap.size, 0, none⟩) 0 0, .bool false]) (by simp [results, Tryz.results10, go_sem]) rfl ⟨some ⟨w.heap.size, 0, none⟩, 0, by rw [parsePar_empty]; rfl, by rw [parsePar_empty]; exact World.ownsRow_made w _ 0 (Nat.le_refl _) (by unfold maxLen; omega) rfl, (by repeat (first | (with_reducible exact Below.refl _ _) | (with_reducible assumption) | (with_reducible refine Below.drew ?_) | (with_reducible refine Below.alloc ?_ (by first | omega | (simp <;> omega)) _) | (with_reducible refine Below.setCell ?_ (by first | omega | (simp <;> omega)) _) | (with_reducible refine belowN ?_ _)))⟩
  by_cases hd : t = [45]
  · subst hd
    have cS := fun w => l9Cut_any 32 [] w (by decide)
    have hP : Go.RowKit.Hid (parsePar [45] = some []) := parsePar_dash
    go_enter Tryz.func10, Tryz.ntmps10
    go_wp2_with fail
    refine (l3None_any _ _).mono ?_
    rintro e w1 ⟨rfl, rfl⟩
    rw [show unDash [45] = [] from rfl]
    go_wp2_with fail
    refine (cS _).mono ?_
    rintro e w2 ⟨⟨v, rfl, hown⟩, hb2⟩
    obtain ⟨A, cap, rfl, hsp⟩ := Sl.of_own hown
    have hz2' := hb2.size
    simp only [World.size_alloc] at hz2'
    have g2 : Below w.heap.size w w2 := ((Below.refl _ _).alloc (Nat.le_refl _) _).trans (hb2.mono (by simp))
    have hown0 : w2.ownsRow w.heap.size 9 1 (.slice (some ⟨w.heap.size, 0, none⟩) 0 0) 0 [] := owns_keep (World.ownsRow_made w _ 0 (Nat.le_refl _) (by unfold maxLen; omega) rfl) hb2
    have hs0 : Sl w2 (some ⟨w.heap.size, 0, none⟩) 0 0 1 [] := by
      obtain ⟨A0, cap0, hv0, hs0⟩ := Sl.of_own hown0
      injection hv0 with e1 e2 e3
      subst e1; subst e3
      exact hs0
    have hc1 : (cut 32 ([] : Bs)).length = 1 := rfl
    clear hb2 cS hown
    go_wp2
    go_loopw [4, 6] (fun v a wr => v = .slice (some ⟨w.heap.size, 0, none⟩) 0 0 ∧ a = .int .i64 0 ∧ wr = w2) (fun _ _ _ => 0)
    case atStart => exact ⟨rfl, rfl, rfl⟩
    case round =>
      obtain ⟨rfl, rfl, rfl⟩ := hrel
      go_wp2_with fail
      refine (formatParity_any [] (some ⟨w.heap.size, 0, none⟩) 0 _ (by exact hs0) (by simp) (by simp)).mono ?_
      rintro e w3 ⟨rfl, hb3⟩
      have hz3 := hb3.size
      go_wp2
      exact bodyPost_ret (v := .tuple #[.slice (some ⟨w.heap.size, 0, none⟩) 0 0, .bool true]) (by simp [results, Tryz.results10, go_sem]) rfl ⟨some ⟨w.heap.size, 0, none⟩, 0, by rw [hP.out]; rfl, by rw [hP.out]; exact owns_keep hown0 hb3, g2.trans (hb3.mono (by omega))⟩
  · have hed : decide (t = []) = false := by simpa using he
    have hdd : decide (t = [45]) = false := by simpa using hd
    have hu : unDash t = t := by unfold unDash; rw [if_neg hd]
    have hPT := par_test t he
    rw [if_neg hd] at hPT
    have HPT := Go.Lib.hid hPT
    have HOS := Go.Lib.hid (outK_succ t)
    have HOB := Go.Lib.hid (outK_bd t)
    have HOL := Go.Lib.hid (outK_len t)
    have HOF := Go.Lib.hid (outK_full t)
    have hcl := cut_len 32 t
    have hcn : 0 < (cut 32 t).length := List.length_pos_iff.2 (cut_ne 32 t)
    have HM := Go.Lib.hid (cut_mem_len 32 t)
    have cS := fun w => l9Cut_any 32 t w (by omega)
    clear hPT he hd
    have hO0 : Go.RowKit.Hid (outK t 0 = []) := by show _ = _; unfold outK; simp
    generalize hps : cut 32 t = ps at *
    clear hps
    go_enter Tryz.func10, Tryz.ntmps10
    go_wp2_with fail
    refine (l3None_any _ _).mono ?_
    rintro e w1 ⟨rfl, rfl⟩
    rw [hu]
    go_wp2_with fail
    refine (cS _).mono ?_
    rintro e w2 ⟨⟨v, rfl, hown⟩, hb2⟩
    obtain ⟨g, cap, rfl, hg1, hg2⟩ := hown.form hcn
    have hsp : SlS w2 (some ⟨g, 0, none⟩) cap ps := by
      obtain ⟨A, cap', hv, h⟩ := Sl.of_own hown
      injection hv with e1 e2 e3
      subst e1; subst e3
      exact h
    have hz2' := hb2.size
    simp only [World.size_alloc] at hz2' hg1
    have g2 : Below w.heap.size w w2 := ((Below.refl _ _).alloc (Nat.le_refl _) _).trans (hb2.mono (by simp))
    have hown0 : w2.ownsRow w.heap.size 9 1 (.slice (some ⟨w.heap.size, 0, none⟩) 0 0) 0 [] := owns_keep (World.ownsRow_made w _ 0 (Nat.le_refl _) (by unfold maxLen; omega) rfl) hb2
    clear hb2 cS hown
    go_wp2
    go_loopw [4, 6] (fun v a wr => ∃ k : Nat, k ≤ ps.length ∧ k ≤ 41 ∧ a = .int .i64 k ∧ wr.ownsRow w.heap.size 9 1 v (outK t k).length ((outK t k).map sv) ∧ (∀ q, v.ownBlock = some q → q ≠ g) ∧ wr.heap[g]? = w2.heap[g]? ∧ Below w.heap.size w wr ∧ w2.heap.size ≤ wr.heap.size) (fun _ a _ => 41 - (intOf a).toNat)
    case atStart => exact ⟨0, by omega, by omega, rfl, by rw [hO0.out]; exact hown0, by rintro q ⟨⟩; show w.heap.size ≠ g; omega, rfl, g2, Nat.le_refl _⟩
    case round =>
      obtain ⟨k, hk, hk41, rfl, hown, hne, hgk, hb, hz⟩ := hrel
      have hzw := hb.size
      have hsp2 := hsp.blk hgk hz
      have hol := HOL.out k
      by_cases hlt : k < ps.length ∧ k < 41
      · obtain ⟨hlt, hl41⟩ := hlt
        obtain ⟨g', off, hgo, hg, hc⟩ := SlS.at hsp2 hlt
        injection hgo with hgo
        injection hgo with hgo1 hgo2 _
        subst hgo1
        subst hgo2
        rw [Nat.zero_add] at hc
        have hl := HM.out _ (List.getElem_mem hlt)
        have HO := Go.Lib.hid (HOS.out k hlt)
        generalize ps[k] = p at *
        have cP := fun w => sParseHex_any p w (by omega)
        simp only [hexRes_eq] at cP
        generalize (unhex p).getD [] = x at *
        generalize (unhex p).isSome = bx at *
        generalize outK t k = O at *
        have hm1 : O.length + 1 ≤ maxLen := by unfold maxLen; omega
        have hm2 : (O.length + 1) * 16 ≤ 140737488355328 := by omega
        go_wp2_with fail
        refine (cP _).mono ?_
        rintro e w3 ⟨rfl, hb3⟩
        have hz3 := hb3.size
        have hown3 := owns_keep hown hb3
        have hgk3 : w3.heap[g]? = w2.heap[g]? := (hb3.block g (by omega)).trans hgk
        have hb4 := hb.trans (hb3.mono hzw)
        clear hb3 hown hgk cP
        go_wp2_with (at_builtin; go_must (refine wpList_ap _ rfl _ _ 23 rfl w.heap.size 9 i _ 1 16 Tryz.underlying23 hi hz0 hz1 hz2 rfl (by omega) _ _ _ rfl (hown3.alloc _) (some ⟨_, 0, none⟩) 1 1 [sv x] rfl (Sl.new w3 #[sv x] _ 1 1 (by simp) (by omega)) (by simp [Value.oneCell']) hm1 hm2 (by simp; omega) ?_))
        intro A5 cap5 w5 hown5 hg5 hat5
        have hlt3 := hown3.lt
        have hb5 := app_below hb4 hg5 (by omega) (fun k hk => (hlt3 k hk).1)
        have hz5 := app_size hg5
        have hgk5 : w5.heap[g]? = w2.heap[g]? := (hg5.block g (by simp; omega) (fun e => hne g e.symm rfl)).trans ((Below.heap_alloc w3 _ g (by omega)).trans hgk3)
        go_wp2
        go_roundw
        case rel =>
          refine ⟨k + 1, by omega, by omega, by go_num, by rw [HO.out, List.map_append, List.length_append]; exact hown5, ?_, hgk5, hb5, by omega⟩
          intro q hq
          rcases hat5 with h | h
          · rw [h] at hq; exact hne q hq
          · rw [h] at hq
            injection hq with hq
            subst hq
            simp; omega
        case measure => simp [intOf]; omega
      · have hfull := HOF.out k (by omega) hk hk41
        have hbd := HOB.out k
        have HR : Go.RowKit.Hid ((if fmtPar (outK t k) = t then some (outK t k) else none) = parsePar t) := by
          show _ = _
          rw [hfull]; exact HPT.out
        clear hfull
        generalize outK t k = O at *
        obtain ⟨A, cap', rfl, hso⟩ := Sl.of_own hown
        have hcond : ¬ ((k : Int) < ps.length ∧ (k : Int) ≤ 40) := by omega
        by_cases hkp : k < ps.length
        · have hk40 : ¬ (k : Int) ≤ 40 := by omega
          go_wp2_with fail
          refine (formatParity_any O A cap' _ hso hbd (by omega)).mono ?_
          rintro e w3 ⟨rfl, hb3⟩
          have hown3 := owns_keep hown hb3
          have hb4 := hb.trans (hb3.mono hzw)
          by_cases heq : fmtPar O = t
          · have HP : Go.RowKit.Hid (parsePar t = some O) := by show _ = _; rw [← HR.out, if_pos heq]
            have hd3 : decide (fmtPar O = t) = true := by simpa using heq
            clear heq
            go_wp2
            exact bodyPost_ret (v := .tuple #[.slice A O.length cap', .bool true]) (by simp [results, Tryz.results10, go_sem]) rfl ⟨A, cap', by rw [HP.out]; rfl, by rw [HP.out]; exact hown3, hb4⟩
          · have HP : Go.RowKit.Hid (parsePar t = none) := by show _ = _; rw [← HR.out, if_neg heq]
            have hd3 : decide (fmtPar O = t) = false := by simpa using heq
            have hz3 := hb3.size
            clear heq
            go_wp2
            exact bodyPost_ret (v := .tuple #[.slice (some ⟨w3.heap.size, 0, none⟩) 0 0, .bool false]) (by simp [results, Tryz.results10, go_sem]) rfl ⟨some ⟨w3.heap.size, 0, none⟩, 0, by rw [HP.out]; rfl, by rw [HP.out]; exact World.ownsRow_made w3 _ 0 (by omega) (by unfold maxLen; omega) rfl, (by repeat (first | (with_reducible exact Below.refl _ _) | (with_reducible assumption) | (with_reducible refine Below.drew ?_) | (with_reducible refine Below.alloc ?_ (by first | omega | (simp <;> omega)) _) | (with_reducible refine Below.setCell ?_ (by first | omega | (simp <;> omega)) _) | (with_reducible refine belowN ?_ _)))⟩
        · go_wp2_with fail
          refine (formatParity_any O A cap' _ hso hbd (by omega)).mono ?_
          rintro e w3 ⟨rfl, hb3⟩
          have hown3 := owns_keep hown hb3
          have hb4 := hb.trans (hb3.mono hzw)
          by_cases heq : fmtPar O = t
          · have HP : Go.RowKit.Hid (parsePar t = some O) := by show _ = _; rw [← HR.out, if_pos heq]
            have hd3 : decide (fmtPar O = t) = true := by simpa using heq
            clear heq
            go_wp2
            exact bodyPost_ret (v := .tuple #[.slice A O.length cap', .bool true]) (by simp [results, Tryz.results10, go_sem]) rfl ⟨A, cap', by rw [HP.out]; rfl, by rw [HP.out]; exact hown3, hb4⟩
          · have HP : Go.RowKit.Hid (parsePar t = none) := by show _ = _; rw [← HR.out, if_neg heq]
            have hd3 : decide (fmtPar O = t) = false := by simpa using heq
            have hz3 := hb3.size
            clear heq
            go_wp2
            exact bodyPost_ret (v := .tuple #[.slice (some ⟨w3.heap.size, 0, none⟩) 0 0, .bool false]) (by simp [results, Tryz.results10, go_sem]) rfl ⟨some ⟨w3.heap.size, 0, none⟩, 0, by rw [HP.out]; rfl, by rw [HP.out]; exact World.ownsRow_made w3 _ 0 (by omega) (by unfold maxLen; omega) rfl, (by repeat (first | (with_reducible exact Below.refl _ _) | (with_reducible assumption) | (with_reducible refine Below.drew ?_) | (with_reducible refine Below.alloc ?_ (by first | omega | (simp <;> omega)) _) | (with_reducible refine Below.setCell ?_ (by first | omega | (simp <;> omega)) _) | (with_reducible refine belowN ?_ _)))⟩
end Go.Proofs.YtoogaalbnnlloaaGreatDoor
