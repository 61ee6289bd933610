import Derived.Test.YtfonokhafdflcaaGreatDoorKGW
import Derived.Test.YtfonokhafdflcaaGreatDoorKW3
import Derived.Test.YtfonokhafdflcaaGreatDoorKW8
import Derived.Test.YtfonokhafdflcaaGreatDoorKGR
import Derived.Test.YtfonokhafdflcaaGreatDoorKGA
import Derived.Test.YtfonokhafdflcaaGreatDoorKGQ
namespace Go.Proofs.YtfonokhafdflcaaGreatDoor
open Go.RowKit
set_option linter.unusedVariables false
set_option maxRecDepth 100000
attribute [local go_sem high] run_index_S binOp_eql_S binOp_neq_S append_S toList_S size_S run_slice_S run_slice_from_S run_slice_to_S wrap64_byteAt wrap64_byteAt_mul bits_or_bytes convU conv1_some convU2 conv2_some
abbrev SlS (w : World) (A : Option Addr) (cap : Nat) (ls : List Bs) : Prop := Sl w A ls.length cap 1 (ls.map sv)
theorem SlS.at {w : World} {A : Option Addr} {cap : Nat} {ls : List Bs} (h : SlS w A cap ls) {k : Nat} (hk : k < ls.length) : ∃ g off, A = some ⟨g, off, none⟩ ∧ g < w.heap.size ∧ w.cell? ⟨g, off + k, none⟩ = some (sv ls[k]) := by
 obtain ⟨g, off, u, hA, hg, hu, hc⟩ := Sl.at1 h hk
 refine ⟨g, off, hA, hg, ?_⟩
 rw [List.getElem?_map, List.getElem?_eq_getElem hk] at hu
 simp at hu
 rw [hc, ← hu]
theorem SlS.of_own {w : World} {B : Nat} {A : Option Addr} {cap : Nat} {ls : List Bs} (h : w.ownsRow B 9 1 (.slice A ls.length cap) ls.length (ls.map sv)) : SlS w A cap ls := by
 obtain ⟨A', cap', hv, hs⟩ := Sl.of_own h
 injection hv with e1 e2 e3
 subst e1; subst e3
 exact hs
theorem parOk_snoc (ls : List Bs) (k : Nat) (h : k < ls.length) (hl : decide (2 ≤ ls[k].length ∧ ls[k].length ≤ 76) = false) : parOk ls = false := by
 unfold parOk
 rw [Bool.eq_false_iff]
 intro h2
 simp only [Bool.and_eq_true, List.all_eq_true] at h2
 rw [h2.2 _ (List.getElem_mem h)] at hl
 cases hl
set_option maxRecDepth 100000 in
theorem parityValid_any (ls : List Bs) (A : Option Addr) (cap : Nat) (w : World) (hs : SlS w A cap ls) (hb : ∀ l ∈ ls, l.length ≤ 4000) (hn : ls.length ≤ 2000000) :
  Calls Tryz.prog 47 #[.slice A ls.length cap] w fun e w' => e = .returned (.bool (parOk ls)) ∧ w = w' := by
 have HB := Go.Lib.hid hb
 clear hb
 go_enter Tryz.func47, Tryz.ntmps47
 by_cases h40 : ls.length ≤ 40
 ·go_wp2
  go_loop [10] (fun a => ∃ k : Nat, k ≤ ls.length ∧ a = .int .i64 k ∧ Go.RowKit.Hid ((ls.take k).all (fun l => decide (2 ≤ l.length ∧ l.length ≤ 76)) = true)) (fun a => ls.length - (intOf a).toNat)
  case atStart => exact ⟨0, by omega, rfl, by show _ = _; simp⟩
  case round =>
   obtain ⟨k, hk, rfl, ha⟩ := hrel
   by_cases hlt : k < ls.length
   ·obtain ⟨g, off, rfl, hg, hc⟩ := SlS.at hs hlt
    have hl := HB.out _ (List.getElem_mem hlt)
    have HT := Go.Lib.hid (List.take_succ_eq_append_getElem hlt)
    have HF := Go.Lib.hid (parOk_snoc ls k hlt)
    generalize ls[k] = x at *
    by_cases h2 : 2 ≤ x.length ∧ x.length ≤ 76
    ·obtain ⟨h2a, h2b⟩ := h2
     go_wp2
     go_round
     case rel =>
      refine ⟨k + 1, by omega, by go_num, ?_⟩
      show _ = _
      rw [HT.out, List.all_append, ha.out]
      simp; omega
     case measure => simp [intOf]; omega
    ·have HP : Go.RowKit.Hid (parOk ls = false) := HF.out (by simpa using h2)
     by_cases h3 : 2 ≤ x.length
     ·have h4 : ¬ (x.length : Int) ≤ 76 := by omega
      go_wp2
      go_ret
      exact ⟨ret_bool HP.out.symm, rfl⟩
     ·go_wp2
      go_ret
      exact ⟨ret_bool HP.out.symm, rfl⟩
   ·have HP : Go.RowKit.Hid (parOk ls = true) := by
     show _ = _
     have e : ls.take k = ls := List.take_of_length_le (by omega)
     have := ha.out
     rw [e] at this
     unfold parOk
     rw [this]; simp; omega
    go_wp2
    go_ret
    exact ⟨ret_bool HP.out.symm, rfl⟩
 ·have HP : Go.RowKit.Hid (parOk ls = false) := by
   show _ = _
   unfold parOk
   simp; omega
  go_wp2
  go_ret
  exact ⟨ret_bool HP.out.symm, rfl⟩
end Go.Proofs.YtfonokhafdflcaaGreatDoor
namespace Go.Proofs.YtfonokhafdflcaaGreatDoor
open Go.RowKit
set_option linter.unusedVariables false
set_option maxRecDepth 100000
attribute [local go_sem high] run_index_S binOp_eql_S binOp_neq_S append_S toList_S size_S run_slice_S run_slice_from_S run_slice_to_S wrap64_byteAt wrap64_byteAt_mul bits_or_bytes convU conv1_some convU2 conv2_some
def ParRes (o : Option (List Bs)) (w : World) (e : Ending) (w' : World) : Prop :=
 ∃ A cap, e = .returned (.tuple #[.slice A (o.getD []).length cap, .bool o.isSome]) ∧ w'.ownsRow w.heap.size 9 1 (.slice A (o.getD []).length cap) (o.getD []).length ((o.getD []).map sv) ∧ Below w.heap.size w w'
theorem own_nil (w : World) (B : Nat) (e : TypeId) (size : Nat) : w.ownsRow B e size (.slice none 0 0) 0 [] := ⟨by simp, .inl ⟨rfl, rfl⟩⟩
theorem split_any (c : UInt8) (t : Bs) (m : Int) (w : World) (hs : t.length ≤ 4000000) (hm : w.cell? ⟨0, 0, none⟩ = some (.int .i64 m)) :
  Calls Tryz.prog 45 #[.string ⟨t.toArray⟩, .string ⟨#[c]⟩] w fun e w' => e = .returned (.slice (some ⟨w.heap.size, 0, none⟩) (cut c t).length (cut c t).length) ∧ w' = w.alloc (.cells ((cut c t).map sv).toArray 9) := by
 have h := Tryz.strings_Split ⟨t.toArray⟩ ⟨#[c]⟩ m w (by rw [size_S]; omega) hm (by simp [ByteArray.size])
 rw [split_cut] at h
 have e : Lib.countB ⟨t.toArray⟩ ⟨#[c]⟩ + 1 = (cut c t).length := by
  have := split_count c t.length t (Nat.le_refl _)
  simpa [Lib.countB] using this
 rw [e] at h
 exact h
set_option maxHeartbeats 2000000 in
theorem parseParity_any (t : Bs) (m : Int) (w : World) (hs : t.length ≤ 1500000) (hm : w.cell? ⟨0, 0, none⟩ = some (.int .i64 m)) :
    Calls Tryz.prog 10 #[.string ⟨t.toArray⟩] w (ParRes (parsePar t) w) := by
  obtain ⟨i, hi, hz0, hz1, hz2⟩ := info_parts info_str
  by_cases hd : t = [45]
  · subst hd
    go_enter Tryz.func10, Tryz.ntmps10
    go_wp2
    exact bodyPost_ret (v := .tuple #[.slice none 0 0, .bool true]) (by simp [results, Tryz.results10, go_sem]) rfl ⟨none, 0, by rw [parsePar_dash]; rfl, by rw [parsePar_dash]; exact own_nil _ _ _ _, Below.refl _ _⟩
  · have hdd : decide (t = [45]) = false := by simpa using hd
    have HD := Go.Lib.hid hd
    have hcl := cut_len 32 t
    have HM := Go.Lib.hid (cut_mem_len 32 t)
    have hP : Go.RowKit.Hid (∀ ls, allHex (cut 32 t) = some ls → parsePar t = if parOk ls = true then some ls else none) := fun ls h => parsePar_some hd h
    have hN : Go.RowKit.Hid (allHex (cut 32 t) = none → parsePar t = none) := fun h => parsePar_bad hd h
    clear hd
    have cS := split_any 32 t m w (by omega) hm
    generalize cut 32 t = ps at *
    go_enter Tryz.func10, Tryz.ntmps10
    go_wp2_with fail
    refine cS.mono ?_
    rintro e w1 ⟨rfl, rfl⟩
    have hs1 : SlS (w.alloc (.cells (ps.map sv).toArray 9)) (some ⟨w.heap.size, 0, none⟩) ps.length ps := by
      have := Sl.new w (ps.map sv).toArray 9 ps.length 1 (by simp) (by omega)
      simpa using this
    have g1 : Below w.heap.size w (w.alloc (.cells (ps.map sv).toArray 9)) := (by repeat (first | (with_reducible exact Below.refl _ _) | (with_reducible assumption) | (with_reducible refine Below.drew ?_) | (with_reducible refine Below.alloc ?_ (by first | omega | (simp <;> omega)) _) | (with_reducible refine Below.setCell ?_ (by first | omega | (simp <;> omega)) _) | (with_reducible refine belowN ?_ _)))
    generalize w.alloc (.cells (ps.map sv).toArray 9) = W at *
    clear cS
    go_wp2
    go_loopw [4, 14] (fun v a wr => ∃ (k : Nat) (r : List Bs), k ≤ ps.length ∧ a = .int .i64 k ∧ Go.RowKit.Hid (allHex (ps.take k) = some r) ∧ Go.RowKit.Hid (r.length = k) ∧ wr.ownsRow W.heap.size 9 1 v r.length (r.map sv) ∧ Below W.heap.size W wr) (fun _ a _ => ps.length - (intOf a).toNat)
    case atStart => exact ⟨0, [], by omega, rfl, by show _ = _; simp [allHex], by show _ = _; rfl, own_nil _ _ _ _, Below.refl _ _⟩
    case round =>
      obtain ⟨k, r, hk, rfl, hr, hrl, hown, hbW⟩ := hrel
      have hb := g1.trans (hbW.mono g1.size)
      have hrn : r.length ≤ k := by have := hrl.out; omega
      have hzW := hbW.size
      have hz := hb.size
      have hs2 := hs1.below hbW
      by_cases hlt : k < ps.length
      · obtain ⟨g, off, hgo, hg, hc⟩ := SlS.at hs2 hlt
        injection hgo with hgo
        injection hgo with hg1 hg2 _
        subst hg1
        subst hg2
        rw [Nat.zero_add] at hc
        have hl := HM.out _ (List.getElem_mem hlt)
        have HT := Go.Lib.hid (fun x (hx : unhex ps[k] = some x) => allHex_take hlt hr.out hx)
        have HF := Go.Lib.hid (fun (hx : unhex ps[k] = none) => allHex_none hx ps (List.getElem_mem hlt))
        generalize ps[k] = p at *
        have cP := fun w => parseHex_any p w (by omega)
        cases hu : unhex p with
        | some x =>
          have hres : hexRes p = .returned (.tuple #[sv x, .bool true]) := by unfold hexRes; rw [hu]; rfl
          simp only [hres] at cP
          have HT2 := Go.Lib.hid (HT.out x hu)
          clear HT HF hres hu
          have hm1 : r.length + 1 ≤ maxLen := by unfold maxLen; omega
          have hm2 : (r.length + 1) * 16 ≤ 140737488355328 := by omega
          go_wp2_with fail
          refine (cP _).mono ?_
          rintro e w2 ⟨rfl, hb2⟩
          have hz2' := hb2.size
          have hown1 := owns_keep hown hb2
          have hbW3 := hbW.trans (hb2.mono hbW.size)
          clear hb2 hown cP
          go_wp2_with (at_builtin; go_must (refine wpList_append_own _ rfl _ _ 29 rfl (W.heap.size) 9 i _ 1 16 Tryz.underlying29 hi hz0 hz1 hz2 rfl (by omega) _ _ _ rfl (hown1.alloc _) ⟨w2.heap.size, 0, none⟩ 1 1 [sv x] rfl rfl ?_ ?_ hm1 hm2 ?_ ?_))
          try (case refine_1 => first | exact cell_one_new _ _ _ | omega | (simp <;> omega; done) | (simp [Value.oneCell']; done))
          try (case refine_2 => first | exact cell_one_new _ _ _ | omega | (simp <;> omega; done) | (simp [Value.oneCell']; done))
          try (case refine_3 => first | exact cell_one_new _ _ _ | omega | (simp <;> omega; done) | (simp [Value.oneCell']; done))
          intro v3 w3 hown3 hg3 _
          have hlt3 := hown1.lt
          have hb4 := app_below hbW3 hg3 (by omega) (fun k hk => (hlt3 k hk).1)
          go_wp2
          go_roundw
          case rel =>
            exact ⟨k + 1, r ++ [x], by omega, by go_num, HT2, by show _ = _; have := hrl.out; simp; omega, by rw [List.map_append, List.length_append]; exact hown3, hb4⟩
          case measure => simp [intOf]; omega
        | none =>
          have hres : hexRes p = .returned (.tuple #[sv [], .bool false]) := by unfold hexRes; rw [hu]; rfl
          simp only [hres] at cP
          have HR : Go.RowKit.Hid (parsePar t = none) := hN.out (HF.out hu)
          clear HT HF hres hu
          go_wp2_with fail
          refine (cP _).mono ?_
          rintro e w2 ⟨rfl, hb2⟩
          have hb3 := hb.trans (hb2.mono (by omega))
          go_wp2
          exact bodyPost_ret (v := .tuple #[.slice none 0 0, .bool false]) (by simp [results, Tryz.results10, go_sem]) rfl ⟨none, 0, by rw [HR.out]; rfl, by rw [HR.out]; exact own_nil _ _ _ _, hb3⟩
      · have e : k = ps.length := by omega
        have hr2 : Go.RowKit.Hid (parsePar t = if parOk r = true then some r else none) := hP.out r (by have := hr.out; rw [e, List.take_length] at this; exact this)
        have hbd : ∀ l ∈ r, l.length ≤ 4000 := allHex_bd (ps.take k) r hr.out
        obtain ⟨A, cap, rfl, hsr⟩ := Sl.of_own hown
        go_wp2_with fail
        refine (parityValid_any r A cap _ hsr hbd (by omega)).mono ?_
        rintro e w2 ⟨rfl, rfl⟩
        cases hp : parOk r with
        | true =>
          have HR : Go.RowKit.Hid (parsePar t = some r) := by show _ = _; rw [hr2.out, if_pos hp]
          go_wp2
          exact bodyPost_ret (v := .tuple #[.slice A r.length cap, .bool true]) (by simp [results, Tryz.results10, go_sem]) rfl ⟨A, cap, by rw [HR.out]; rfl, by rw [HR.out]; exact own_mono hown g1.size, hb⟩
        | false =>
          have HR : Go.RowKit.Hid (parsePar t = none) := by show _ = _; rw [hr2.out, if_neg (by rw [hp]; decide)]
          go_wp2
          exact bodyPost_ret (v := .tuple #[.slice none 0 0, .bool false]) (by simp [results, Tryz.results10, go_sem]) rfl ⟨none, 0, by rw [HR.out]; rfl, by rw [HR.out]; exact own_nil _ _ _ _, hb⟩
end Go.Proofs.YtfonokhafdflcaaGreatDoor
