import Derived.Test.YtoogaalbnnlloaaGreatDoorGP2
import Derived.Test.YtoogaalbnnlloaaGreatDoorGA
import Derived.Test.YtoogaalbnnlloaaGreatDoorGA
/- Walks: sums of strings, by both. -/
namespace Go.Proofs.YtoogaalbnnlloaaGreatDoor
open Go.RowKit
set_option linter.unusedVariables false
set_option linter.unusedSimpArgs false
set_option maxRecDepth 100000
attribute [local go_sem high] run_index_S binOp_eql_S binOp_neq_S append_S toList_S size_S run_slice_S run_slice_from_S run_slice_to_S wrap64_byteAt wrap64_byteAt_mul bits_or_bytes convU conv1_some convU2 conv2_some
def lenV : Value → Nat
  | .slice _ n _ => n
  | _ => 0
theorem bits_xor_u8 (x y : UInt8) : bits .xor .u8 (x.toNat : Int) (y.toNat : Int) = ((x ^^^ y).toNat : Int) := by
  have ofI : ∀ a : Nat, a < 256 → (BitVec.ofInt 8 (a : Int)).toNat = a := fun a ha => by
    rw [BitVec.ofInt_natCast, BitVec.toNat_ofNat]; exact Nat.mod_eq_of_lt (by omega)
  have h1 := x.toNat_lt
  have h2 := y.toNat_lt
  have h3 : x.toNat ^^^ y.toNat < 2 ^ 8 := Nat.xor_lt_two_pow (by omega) (by omega)
  have key : bits .xor .u8 (x.toNat : Int) (y.toNat : Int) = IntKind.u8.wrap ((BitVec.ofInt 8 (x.toNat : Int) ^^^ BitVec.ofInt 8 (y.toNat : Int)).toNat : Int) := rfl
  rw [key, BitVec.toNat_xor, ofI _ (by omega), ofI _ (by omega), UInt8.toNat_xor]
  generalize x.toNat ^^^ y.toNat = z at *
  have hw : ∀ z : Fin 256, IntKind.u8.wrap ((z.val : Nat) : Int) = ((z.val : Nat) : Int) := by decide +kernel
  exact hw ⟨z, h3⟩
theorem longestB_take (ls : List Bs) (k : Nat) (h : k < ls.length) : longestB (ls.take (k + 1)) = max (longestB (ls.take k)) ls[k].length := by rw [List.take_succ_eq_append_getElem h, longestB_snoc]
theorem longestB_take_le (ls : List Bs) (k : Nat) : longestB (ls.take k) ≤ longestB ls := by
  refine longestB_le _ _ fun t ht => longestB_ge ls t (List.mem_of_mem_take ht)
/-- The bytes of a sum so far, as cells. -/
def xC (n : Nat) (ls : List Bs) (t : Bs) (i : Nat) : List Value := (xorTo n ls t i).map u8v
theorem xC_length (n : Nat) (ls : List Bs) (t : Bs) (i : Nat) : (xC n ls t i).length = n := by simp [xC, xorTo_length]
theorem xC_zero (n : Nat) (ls : List Bs) (t t' : Bs) : xC n ls t 0 = xC n ls t' 0 := by unfold xC; rw [xorTo_zero, xorTo_zero]
theorem xC_full (n : Nat) (ls : List Bs) (t t' : Bs) : xC n ls t t.length = xC n (ls ++ [t]) t' 0 := by unfold xC; rw [xorTo_full, xorTo_zero]
theorem xC_at (n : Nat) (ls : List Bs) (t : Bs) (i : Nat) (hi : i < n) : (xC n ls t i)[i]? = some (.int .u8 ((xorAt ls i).toNat : Int)) := by
  unfold xC; rw [List.getElem?_map, xorTo_at n ls t i hi]; rfl
theorem xC_succ (n : Nat) (ls : List Bs) (t : Bs) (i : Nat) (hi : i < n) (ht : i < t.length) : (xC n ls t i).set i (u8v (xorAt ls i ^^^ t[i])) = xC n ls t (i + 1) := by
  unfold xC; rw [xorTo_succ n ls t i hi ht, List.map_set]
theorem xC_nil (n : Nat) (t : Bs) : xC n [] t 0 = List.replicate n (.int .u8 0) := by
  unfold xC; rw [xorTo_zero]
  apply List.ext_getElem?
  intro j
  by_cases h : j < n
  · simp [h, xorAt]
  · simp [h]
theorem xC_end (ls : List Bs) (t : Bs) : xC (longestB ls) ls t 0 = (xorT ls).map u8v := by unfold xC; rw [xorTo_zero]; rfl
theorem xC_more (n : Nat) (ls : List Bs) (t : Bs) (h : longestB ls ≤ n) : xC n ls t 0 ++ [.int .u8 0] = xC (n + 1) ls t 0 := by
  unfold xC; rw [xorTo_zero, xorTo_zero, xorR_more n ls h, List.map_append]; rfl
set_option maxHeartbeats 2000000 in
theorem sXorTexts_any (ls : List Bs) (A0 : Option Addr) (cap0 : Nat) (w : World) (hs : Sl w A0 ls.length cap0 1 (ls.map sv)) (hl : ls.length ≤ 100000) (ht : ∀ t ∈ ls, t.length ≤ 1500000) :
    Calls Tryz.prog 50 #[.slice A0 ls.length cap0] w fun e w' => e = .returned (sv (xorT ls)) ∧ Below w.heap.size w w' := by
  obtain ⟨i, hi, hz0, hz1, hz2⟩ := info_parts info_u8
  have hlg := longestB_le ls 1500000 ht
  have HLG : Go.RowKit.Hid (∀ k, longestB (ls.take k) ≤ 1500000) := fun k => Nat.le_trans (longestB_take_le ls k) hlg
  have HT := Go.Lib.hid ht
  have hcap := hs.1
  have HS : Go.RowKit.Hid (∀ wr, Below w.heap.size w wr → Sl wr A0 ls.length cap0 1 (ls.map sv)) := fun wr h => hs.below h
  clear hs ht
  go_enter Tryz.func50, Tryz.ntmps50
  go_wp2
  have o0 := lit_own (base := w.heap.size) (size := 1) (Bk.new w #[] 5) (Nat.le_refl _)
  go_loopw [3, 4] (fun a i wr => ∃ (A : Option Addr) (cap k : Nat), a = .slice A (longestB (ls.take k)) cap ∧ i = .int .i64 k ∧ k ≤ ls.length ∧ wr.ownsRow w.heap.size 5 1 (.slice A (longestB (ls.take k)) cap) (longestB (ls.take k)) (xC (longestB (ls.take k)) (ls.take k) [] 0) ∧ Below w.heap.size w wr) (fun _ i _ => ls.length - (intOf i).toNat)
  case atStart => exact ⟨_, 0, 0, by first | rfl | (simp [longestB]; done), rfl, by omega, by simpa [longestB, xC, xorTo] using o0, (by repeat (first | (with_reducible exact Below.refl _ _) | (with_reducible assumption) | (with_reducible refine Below.drew ?_) | (with_reducible refine Below.alloc ?_ (by first | omega | (simp <;> omega)) _) | (with_reducible refine Below.setCell ?_ (by first | omega | (simp <;> omega)) _) | (with_reducible refine belowN ?_ _)))⟩
  case round =>
    obtain ⟨A, cap, k, rfl, rfl, hk, hown, hb⟩ := hrel
    have hz := hb.size
    clear o0
    by_cases hlt : k < ls.length
    · have hki : (k : Int) < ls.length := by omega
      obtain ⟨g, off, u, rfl, hg, hu, hc⟩ := Sl.at1 (HS.out wr hb) hlt
      rw [List.getElem?_map, List.getElem?_eq_getElem hlt] at hu
      simp at hu
      subst hu
      have htl := HT.out ls[k] (List.getElem_mem hlt)
      have HE := Go.Lib.hid (longestB_take ls k hlt)
      have HTK : Go.RowKit.Hid (ls.take (k + 1) = ls.take k ++ [ls[k]]) := List.take_succ_eq_append_getElem hlt
      have hg2 := HLG.out k
      have HCT : Go.RowKit.Hid (∀ wq, Below w.heap.size w wq → wq.cell? ⟨g, off + k, none⟩ = some (sv ls[k])) := fun wq hq => by
        obtain ⟨g', off', u', e, hg', hu', hc'⟩ := Sl.at1 (HS.out wq hq) hlt
        injection e with e; injection e with e1 e2
        subst e1; subst e2
        rw [List.getElem?_map, List.getElem?_eq_getElem hlt] at hu'
        simp at hu'
        subst hu'
        exact hc'
      generalize ls[k] = t at *
      obtain ⟨S, hS⟩ : ∃ S, longestB (ls.take k) = S := ⟨_, rfl⟩
      have hSP : longestB (ls.take k) ≤ S := by omega
      rw [hS] at hown hg2 HE ⊢
      have HSP := Go.Lib.hid hSP
      clear hS hSP
      generalize ls.take k = P at *
      clear hc
      go_wp2
      go_loopw [3] (fun a wr => ∃ (A : Option Addr) (cap n : Nat), a = .slice A n cap ∧ S ≤ n ∧ (n = S ∨ n ≤ t.length) ∧ wr.ownsRow w.heap.size 5 1 (.slice A n cap) n (xC n P [] 0) ∧ Below w.heap.size w wr) (fun a _ => t.length - lenV a)
      case atStart => exact ⟨_, _, _, rfl, by omega, .inl rfl, hown, hb⟩
      case round =>
        obtain ⟨A, cap, n, rfl, hSn, hnt, hown, hb⟩ := hrel
        have hz := hb.size
        have hc := HCT.out wr hb
        by_cases hlt2 : n < t.length
        · have hki2 : (n : Int) < t.length := by omega
          have hm1 : n + 1 ≤ maxLen := by unfold maxLen; omega
          have hm2 : (n + 1) * 1 ≤ 140737488355328 := by omega
          have hM := xC_more n P [] (by have := HSP.out; omega)
          go_wp2_with (at_builtin; go_must (refine wpList_ap _ rfl _ _ 22 rfl (w.heap.size) 5 i _ 1 1 Tryz.underlying22 hi hz0 hz1 hz2 rfl (by omega) _ _ _ rfl (hown.alloc _) _ 1 1 [.int .u8 0] rfl (Sl.newAt wr #[.int .u8 0] _ 1 1 (by first | rfl | simp) (by simp) (by omega)) (by simp [Value.oneCell']) hm1 hm2 ?_ ?_))
          try (case refine_1 => first | omega | (simp <;> omega; done))
          intro A3 cap3 w3 o3 hg3 _
          have g3 := app_below hb hg3 (by omega) (fun k hk => by have := (hown.lt k hk).1; omega)
          clear hg3
          go_wp2
          go_roundw
          case rel => exact ⟨A3, cap3, n + 1, by first | rfl | (congr 1), by omega, .inr (by omega), o3, g3⟩
          case measure => simp [lenV]; omega
        · have hki2 : ¬ (n : Int) < t.length := by omega
          have HN : Go.RowKit.Hid (longestB (P ++ [t]) = n) := by
            show _ = _
            rw [← HTK.out, HE.out]; omega
          have hnn : t.length ≤ n := by omega
          have hn2 : n ≤ 1500000 := by omega
          go_wp2
          go_loopw [5] (fun i wr => ∃ j : Nat, i = .int .i64 j ∧ j ≤ t.length ∧ wr.ownsRow w.heap.size 5 1 (.slice A n cap) n (xC n P t j) ∧ Below w.heap.size w wr) (fun i _ => t.length - (intOf i).toNat)
          case atStart => exact ⟨0, rfl, by omega, by rw [xC_zero n P t []]; exact hown, hb⟩
          case round =>
            obtain ⟨j, rfl, hj, hown, hb⟩ := hrel
            have hz := hb.size
            have hc := HCT.out wr hb
            by_cases hjt : j < t.length
            · have hji : (j : Int) < t.length := by omega
              have hjn : (j : Int) < n := by omega
              have hj0 : (0 : Int) ≤ j := by omega
              obtain ⟨q, rfl, hq1, hq2⟩ := own_pos hown (by omega)
              have hg2 : g < wr.heap.size := by
                obtain ⟨g', off', e, hg', _⟩ := Sl.cellK (HS.out wr hb) hlt
                injection e with e; injection e with e1 e2
                omega
              have hcl := (hown.cellAt j (by omega)).trans (xC_at n P t j (by omega))
              have hfr := hown.frozenAt j
              have hst := hown.stored j (u8v (xorAt P j ^^^ t[j]))
              rw [xC_succ n P t j (by omega) hjt] at hst
              have hxv : u8v (xorAt P j ^^^ t[j]) = .int .u8 (((xorAt P j).toNat ^^^ t[j].toNat : Nat) : Int) := by simp [u8v, UInt8.toNat_xor]
              rw [hxv] at hst
              have HST := Go.Lib.hid hst
              have hx := bits_xor_u8 (xorAt P j) t[j]
              rw [← byteAt_nat t j hjt] at hx
              have hbb : Below w.heap.size w (wr.setCell ⟨q, j, none⟩ (.int .u8 (((xorAt P j).toNat ^^^ t[j].toNat : Nat) : Int))) := hb.setCell hq1 _
              clear hst hxv
              have HM : Go.RowKit.Hid (∀ w', Below wr.heap.size wr w' → (w'.cell? ⟨q, j, none⟩ = some (.int .u8 ((xorAt P j).toNat : Int)) ∧ w'.cell? ⟨g, off + k, none⟩ = some (sv t) ∧ Below wr.heap.size wr w')) := fun w' h => ⟨(h.cell (p := ⟨_, _, _⟩) (by first | assumption | (simp only; omega) | omega)).trans (hcl), (h.cell (p := ⟨_, _, _⟩) (by first | assumption | (simp only; omega) | omega)).trans (hc), h⟩
              go_wp2_with fail
              refine wp_region_last 14 (fun w' => w'.cell? ⟨q, j, none⟩ = some (.int .u8 ((xorAt P j).toNat : Int)) ∧ w'.cell? ⟨g, off + k, none⟩ = some (sv t) ∧ Below wr.heap.size wr w') (by kernel_rfl) (by kernel_rfl) (by exact HM.out _ (by repeat (first | (with_reducible exact Below.refl _ _) | (with_reducible assumption) | (with_reducible refine Below.drew ?_) | (with_reducible refine Below.alloc ?_ (by first | omega | (simp <;> omega)) _) | (with_reducible refine Below.setCell ?_ (by first | omega | (simp <;> omega)) _) | (with_reducible refine belowN ?_ _) | (with_reducible refine Below.trans ?_ (Below.mono (by with_reducible assumption) (by first | omega | (simp <;> omega))))))) (fun hSS => ?_)
              simp only [List.take_succ_cons, List.take_zero]
              refine wpAnyH_take (i := 0) (v := ?_) rfl (by kernel_rfl) (by kernel_rfl) (by kernel_rfl) (fun _ _ _ h => h) (Or.inl ⟨by rfl, ?_⟩) (by assumption) ?_
              rotate_left
              focus (intro w hSw; (try dsimp only at hSw); go_simp; try with_reducible rfl)
              try simp only [Act.put, List.setIfInBounds_toArray, List.set_cons_zero, List.set_cons_succ]
              refine wpAnyH_take (i := 1) (v := ?_) rfl (by kernel_rfl) (by kernel_rfl) (by kernel_rfl) (fun _ _ _ h => h) (Or.inl ⟨by rfl, ?_⟩) (by assumption) ?_
              rotate_left
              focus (intro w hSw; (try dsimp only at hSw); go_simp; try with_reducible rfl)
              try simp only [Act.put, List.setIfInBounds_toArray, List.set_cons_zero, List.set_cons_succ]
              refine wpAnyH_take (i := 2) (v := ?_) rfl (by kernel_rfl) (by kernel_rfl) (by kernel_rfl) (fun _ _ _ h => h) (Or.inl ⟨by rfl, ?_⟩) (by assumption) ?_
              rotate_left
              focus (intro w hSw; (try dsimp only at hSw); go_simp; try with_reducible rfl)
              try simp only [Act.put, List.setIfInBounds_toArray, List.set_cons_zero, List.set_cons_succ]
              refine wpAnyH_take (i := 3) (v := ?_) rfl (by kernel_rfl) (by kernel_rfl) (by kernel_rfl) (fun _ _ _ h => h) (Or.inl ⟨by rfl, ?_⟩) (by assumption) ?_
              rotate_left
              focus (intro w hSw; (try dsimp only at hSw); go_simp; try with_reducible rfl)
              try simp only [Act.put, List.setIfInBounds_toArray, List.set_cons_zero, List.set_cons_succ]
              refine wpAnyH_take (i := 4) (v := ?_) rfl (by kernel_rfl) (by kernel_rfl) (by kernel_rfl) (fun _ _ _ h => h) (Or.inl ⟨by rfl, ?_⟩) (by assumption) ?_
              rotate_left
              focus (intro w hSw; (try dsimp only at hSw); go_simp; try with_reducible rfl)
              try simp only [Act.put, List.setIfInBounds_toArray, List.set_cons_zero, List.set_cons_succ]
              refine wpAnyH_take (i := 5) (v := ?_) rfl (by kernel_rfl) (by kernel_rfl) (by kernel_rfl) (fun _ _ _ h => h) (Or.inl ⟨by rfl, ?_⟩) (by assumption) ?_
              rotate_left
              focus (intro w hSw; (try dsimp only at hSw); go_simp; try with_reducible rfl)
              try simp only [Act.put, List.setIfInBounds_toArray, List.set_cons_zero, List.set_cons_succ]
              refine wpAnyH_take (i := 6) (v := ?_) rfl (by kernel_rfl) (by kernel_rfl) (by kernel_rfl) (fun _ _ _ h => h) (Or.inl ⟨by rfl, ?_⟩) (by assumption) ?_
              rotate_left
              focus (intro w hSw; (try dsimp only at hSw); go_simp; try with_reducible rfl)
              try simp only [Act.put, List.setIfInBounds_toArray, List.set_cons_zero, List.set_cons_succ]
              refine wpAnyH_take (i := 7) (v := ?_) rfl (by kernel_rfl) (by kernel_rfl) (by kernel_rfl) (fun _ _ _ h => h) (Or.inl ⟨by rfl, ?_⟩) (by assumption) ?_
              rotate_left
              focus (intro w hSw; (try dsimp only at hSw); go_simp; try with_reducible rfl)
              try simp only [Act.put, List.setIfInBounds_toArray, List.set_cons_zero, List.set_cons_succ]
              refine wpAnyH_take (i := 8) (v := ?_) rfl (by kernel_rfl) (by kernel_rfl) (by kernel_rfl) (fun _ _ _ h => h) (Or.inl ⟨by rfl, ?_⟩) (by assumption) ?_
              rotate_left
              focus (intro w hSw; (try dsimp only at hSw); go_simp; try with_reducible rfl)
              try simp only [Act.put, List.setIfInBounds_toArray, List.set_cons_zero, List.set_cons_succ]
              refine wpAnyH_take (i := 9) (v := ?_) rfl (by kernel_rfl) (by kernel_rfl) (by kernel_rfl) (fun _ _ _ h => h) (Or.inl ⟨by rfl, ?_⟩) (by assumption) ?_
              rotate_left
              focus (intro w hSw; (try dsimp only at hSw); go_simp; try with_reducible rfl)
              try simp only [Act.put, List.setIfInBounds_toArray, List.set_cons_zero, List.set_cons_succ]
              refine wpAnyH_take (i := 10) (v := ?_) rfl (by kernel_rfl) (by kernel_rfl) (by kernel_rfl) (fun _ _ _ h => h) (Or.inl ⟨by rfl, ?_⟩) (by assumption) ?_
              rotate_left
              focus (intro w hSw; (try dsimp only at hSw); go_simp; try with_reducible rfl)
              try simp only [Act.put, List.setIfInBounds_toArray, List.set_cons_zero, List.set_cons_succ]
              refine wpAnyH_take (i := 11) (v := ?_) rfl (by kernel_rfl) (by kernel_rfl) (by kernel_rfl) (fun _ _ _ h => h) (Or.inl ⟨by rfl, ?_⟩) (by assumption) ?_
              rotate_left
              focus (intro w hSw; (try dsimp only at hSw); go_simp; try with_reducible rfl)
              try simp only [Act.put, List.setIfInBounds_toArray, List.set_cons_zero, List.set_cons_succ]
              refine wpAnyH_take (i := 12) (v := ?_) rfl (by kernel_rfl) (by kernel_rfl) (by kernel_rfl) (fun _ _ _ h => h) (Or.inl ⟨by rfl, ?_⟩) (by assumption) ?_
              rotate_left
              focus (intro w hSw; (try dsimp only at hSw); go_simp; try with_reducible rfl)
              try simp only [Act.put, List.setIfInBounds_toArray, List.set_cons_zero, List.set_cons_succ]
              refine wpAnyH_take (i := 13) (v := ?_) rfl (by kernel_rfl) (by kernel_rfl) (by kernel_rfl) (fun _ _ _ h => h) (Or.inl ⟨by rfl, ?_⟩) (by assumption) ?_
              rotate_left
              focus (intro w hSw; (try dsimp only at hSw); go_simp; try with_reducible rfl)
              try simp only [Act.put, List.setIfInBounds_toArray, List.set_cons_zero, List.set_cons_succ]
              refine wpAnyH_done (by kernel_rfl) ?_ _
              refine LastQ_normal ?_
              refine wpOp_step (o := _) rfl (fun KK hKK => ?_)
              go_simp
              refine hKK _ _ (NoPanic.normal ?_)
              try simp only [Act.put, List.setIfInBounds_toArray, List.set_cons_zero, List.set_cons_succ]
              go_wp2
              go_roundw
              case rel => exact ⟨j + 1, by go_num, by omega, World.ownsRow.drew HST.out.1, hbb.drew⟩
              case measure => simp [intOf]; omega
            · have hji : ¬ (j : Int) < t.length := by omega
              have hjl : j = t.length := by omega
              subst hjl
              rw [xC_full n P t []] at hown
              have ho2 : wr.ownsRow w.heap.size 5 1 (.slice A (longestB (ls.take (k + 1))) cap) (longestB (ls.take (k + 1))) (xC (longestB (ls.take (k + 1))) (ls.take (k + 1)) [] 0) := by rw [HTK.out, HN.out]; exact hown
              have HO2 := Go.Lib.hid ho2
              have HL2 : Go.RowKit.Hid (longestB (ls.take (k + 1)) = n) := by show _ = _; rw [HTK.out]; exact HN.out
              clear ho2
              go_wp2
              go_roundw
              case rel => exact ⟨A, cap, k + 1, by rw [HL2.out], by go_num, by omega, HO2.out, hb⟩
              case measure => simp [intOf]; omega
    · have hki : ¬ (k : Int) < ls.length := by omega
      have hkl : ls.take k = ls := List.take_of_length_le (by omega)
      rw [hkl] at hown ⊢
      clear hkl
      rw [xC_end] at hown
      have hcv := conv_own (l := xorT ls) (by rw [xorT_length]; exact hown)
      go_wp2
      go_ret
      exact ⟨rfl, hb⟩
end Go.Proofs.YtoogaalbnnlloaaGreatDoor
/- Walks: what is missing in a group, by both. -/
namespace Go.Proofs.YtoogaalbnnlloaaGreatDoor
open Go.RowKit
set_option linter.unusedVariables false
set_option linter.unusedSimpArgs false
set_option maxRecDepth 100000
attribute [local go_sem high] run_index_S binOp_eql_S binOp_neq_S append_S toList_S size_S run_slice_S run_slice_from_S run_slice_to_S wrap64_byteAt wrap64_byteAt_mul bits_or_bytes convU conv1_some convU2 conv2_some
section
variable {B : Nat}
theorem lit_rowP {e : TypeId} {size n : Nat} (w : World) (cs : Array Value) (h : cs.size = n * size) (hB : B ≤ w.heap.size) (hn : n ≤ maxLen) :
    (w.alloc (.cells cs e)).ownsRow B e size (.slice (some ⟨w.heap.size, 0, none⟩) n n) n cs.toList :=
  ⟨by simpa using h, .inr ⟨w.heap.size, n, cs, rfl, hB, heap_alloc_new w _, Nat.le_refl _, hn, h, by rw [List.take_of_length_le]; simp; omega⟩⟩
end
/-- Rows that lie in different blocks. -/
def Apart (v v' : Value) : Prop := ∀ k, v.ownBlock = some k → v'.ownBlock = some k → False
theorem Apart.symm {v v' : Value} (h : Apart v v') : Apart v' v := fun k h1 h2 => h k h2 h1
theorem apart_app {w w3 : World} {B : Nat} {e : TypeId} {s n : Nat} {v1 v2 v3 : Value} {xs : List Value} {o : Obj} (h2 : w.ownsRow B e s v2 n xs) (hne : Apart v1 v2) (hg : (w.alloc o).grownBy w3 v1.ownBlock)
    (hd : v3.ownBlock = v1.ownBlock ∨ v3.ownBlock = some (w.heap.size + 1)) : w3.ownsRow B e s v2 n xs ∧ Apart v3 v2 := by
  constructor
  · refine (h2.alloc o).kept hg ?_
    cases hv : v2.ownBlock with
    | none => exact .inl rfl
    | some k => exact .inr (fun hc => hne k hc.symm hv)
  · intro k h3 h4
    rcases hd with hd | hd
    · exact hne k (hd ▸ h3) h4
    · rw [hd] at h3
      injection h3 with h3
      have := (h2.lt k h4).2
      omega
def rbRes : Option Bs → Ending
  | some t => .returned (.tuple #[sv t, .bool true])
  | none => .returned (.tuple #[sv [], .bool false])
def lensOf (p : Bs) (ls : List Bs) : List Bs := p.take 2 :: ls.map fun t => two t.length
theorem rebuild_no {ls : List Bs} {p : Bs} (h : ¬ (2 ≤ p.length ∧ ls.length ≤ 40 ∧ (∀ t ∈ ls, t.length ≤ p.length - 2))) : rebuildT ls p = none := by unfold rebuildT; rw [if_neg h]
theorem rebuild_yes {ls : List Bs} {p : Bs} (h : 2 ≤ p.length ∧ ls.length ≤ 40 ∧ (∀ t ∈ ls, t.length ≤ p.length - 2)) : rebuildT ls p = if numAt (xorT (lensOf p ls)) 0 ≤ p.length - 2 then some ((xorT (p.drop 2 :: ls)).take (numAt (xorT (lensOf p ls)) 0).toNat) else none := by unfold rebuildT; rw [if_pos h]; rfl
theorem two_len (n : Int) : (two n).length = 2 := by simp [two]
theorem lens_long (p : Bs) (ls : List Bs) (hp : 2 ≤ p.length) : longestB (lensOf p ls) = 2 := by
  have h1 := longestB_ge (lensOf p ls) (p.take 2) (by simp [lensOf])
  have h2 := longestB_le (lensOf p ls) 2 (fun t ht => by
    simp only [lensOf, List.mem_cons, List.mem_map] at ht
    rcases ht with rfl | ⟨t', _, rfl⟩
    · simp; omega
    · simp [two_len])
  simp at h1; omega
theorem texts_long (p : Bs) (ls : List Bs) (h : ∀ t ∈ ls, t.length ≤ p.length - 2) : longestB (p.drop 2 :: ls) = p.length - 2 := by
  have h1 := longestB_ge (p.drop 2 :: ls) (p.drop 2) (by simp)
  have h2 := longestB_le (p.drop 2 :: ls) (p.length - 2) (fun t ht => by
    rcases List.mem_cons.1 ht with rfl | ht
    · simp
    · exact h t ht)
  simp at h1; omega
theorem lens_snoc (p : Bs) (ls : List Bs) (t : Bs) : lensOf p (ls ++ [t]) = lensOf p ls ++ [two t.length] := by simp [lensOf]
theorem extract_from (p : Bs) (n : Nat) : (ByteArray.mk p.toArray).extract n p.length = ⟨(p.drop n).toArray⟩ := by
  apply ByteArray.ext
  simp [ByteArray.data_extract]
  rw [List.take_of_length_le (by simp)]
theorem extract_to (p : Bs) (n : Nat) : (ByteArray.mk p.toArray).extract 0 n = ⟨(p.take n).toArray⟩ := by
  apply ByteArray.ext
  simp [ByteArray.data_extract]
end Go.Proofs.YtoogaalbnnlloaaGreatDoor
