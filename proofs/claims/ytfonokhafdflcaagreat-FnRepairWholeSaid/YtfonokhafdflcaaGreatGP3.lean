import Derived.Test.YtfonokhafdflcaaGreatGP2
import Derived.Test.YtfonokhafdflcaaGreatGA
import Derived.Test.YtfonokhafdflcaaGreatGA
/- Walks: sums of strings, by both. -/
namespace Go.Proofs.YtfonokhafdflcaaGreat
open Go.RowKit
set_option linter.unusedVariables false
set_option linter.unusedSimpArgs false
set_option maxRecDepth 100000
attribute [local go_sem high] run_index_S binOp_eql_S binOp_neq_S append_S toList_S size_S run_slice_S run_slice_from_S run_slice_to_S wrap64_byteAt wrap64_byteAt_mul bits_or_bytes convU conv1_some convU2 conv2_some
def lenV : Value → Nat
  | .slice _ n _ => n
  | _ => 0
theorem bits_xor_u8 (x y : UInt8) : bits .xor .u8 (x.toNat : Int) (y.toNat : Int) = ((x ^^^ y).toNat : Int) := by
  have ofI : ∀ a : Nat, a < 256 → (BitVec.ofInt 8 (a : Int)).toNat = a := fun a ha => by
    rw [BitVec.ofInt_natCast, BitVec.toNat_ofNat]; exact Nat.mod_eq_of_lt (by omega)
  have h1 := x.toNat_lt
  have h2 := y.toNat_lt
  have h3 : x.toNat ^^^ y.toNat < 2 ^ 8 := Nat.xor_lt_two_pow (by omega) (by omega)
  have key : bits .xor .u8 (x.toNat : Int) (y.toNat : Int) = IntKind.u8.wrap ((BitVec.ofInt 8 (x.toNat : Int) ^^^ BitVec.ofInt 8 (y.toNat : Int)).toNat : Int) := rfl
  rw [key, BitVec.toNat_xor, ofI _ (by omega), ofI _ (by omega), UInt8.toNat_xor]
  generalize x.toNat ^^^ y.toNat = z at *
  have hw : ∀ z : Fin 256, IntKind.u8.wrap ((z.val : Nat) : Int) = ((z.val : Nat) : Int) := by decide +kernel
  exact hw ⟨z, h3⟩
theorem longestB_take (ls : List Bs) (k : Nat) (h : k < ls.length) : longestB (ls.take (k + 1)) = max (longestB (ls.take k)) ls[k].length := by rw [List.take_succ_eq_append_getElem h, longestB_snoc]
theorem longestB_take_le (ls : List Bs) (k : Nat) : longestB (ls.take k) ≤ longestB ls := by
  refine longestB_le _ _ fun t ht => longestB_ge ls t (List.mem_of_mem_take ht)
/-- The bytes of a sum so far, as cells. -/
def xC (n : Nat) (ls : List Bs) (t : Bs) (i : Nat) : List Value := (xorTo n ls t i).map u8v
theorem xC_length (n : Nat) (ls : List Bs) (t : Bs) (i : Nat) : (xC n ls t i).length = n := by simp [xC, xorTo_length]
theorem xC_zero (n : Nat) (ls : List Bs) (t t' : Bs) : xC n ls t 0 = xC n ls t' 0 := by unfold xC; rw [xorTo_zero, xorTo_zero]
theorem xC_full (n : Nat) (ls : List Bs) (t t' : Bs) : xC n ls t t.length = xC n (ls ++ [t]) t' 0 := by unfold xC; rw [xorTo_full, xorTo_zero]
theorem xC_at (n : Nat) (ls : List Bs) (t : Bs) (i : Nat) (hi : i < n) : (xC n ls t i)[i]? = some (.int .u8 ((xorAt ls i).toNat : Int)) := by
  unfold xC; rw [List.getElem?_map, xorTo_at n ls t i hi]; rfl
theorem xC_succ (n : Nat) (ls : List Bs) (t : Bs) (i : Nat) (hi : i < n) (ht : i < t.length) : (xC n ls t i).set i (u8v (xorAt ls i ^^^ t[i])) = xC n ls t (i + 1) := by
  unfold xC; rw [xorTo_succ n ls t i hi ht, List.map_set]
theorem xC_nil (n : Nat) (t : Bs) : xC n [] t 0 = List.replicate n (.int .u8 0) := by
  unfold xC; rw [xorTo_zero]
  apply List.ext_getElem?
  intro j
  by_cases h : j < n
  · simp [h, xorAt]
  · simp [h]
theorem xC_end (ls : List Bs) (t : Bs) : xC (longestB ls) ls t 0 = (xorT ls).map u8v := by unfold xC; rw [xorTo_zero]; rfl
theorem xC_more (n : Nat) (ls : List Bs) (t : Bs) (h : longestB ls ≤ n) : xC n ls t 0 ++ [.int .u8 0] = xC (n + 1) ls t 0 := by
  unfold xC; rw [xorTo_zero, xorTo_zero, xorR_more n ls h, List.map_append]; rfl
set_option maxHeartbeats 2000000 in
theorem xorTexts_any (ls : List Bs) (A : Option Addr) (cap : Nat) (w : World) (hs : Sl w A ls.length cap 1 (ls.map sv)) (hl : ls.length ≤ 100000) (ht : ∀ t ∈ ls, t.length ≤ 1500000) :
    Calls Tryz.prog 66 #[.slice A ls.length cap] w fun e w' => e = .returned (sv (xorT ls)) ∧ Below w.heap.size w w' := by
  obtain ⟨i0, hi, hz0, hz1, hz2⟩ := info_parts info_u8
  have hlg := longestB_le ls 1500000 ht
  have HLG : Go.RowKit.Hid (∀ k, longestB (ls.take k) ≤ 1500000) := fun k => Nat.le_trans (longestB_take_le ls k) hlg
  have HT := Go.Lib.hid ht
  have hcap := hs.1
  have HS : Go.RowKit.Hid (∀ wr, Below w.heap.size w wr → Sl wr A ls.length cap 1 (ls.map sv)) := fun wr h => hs.below h
  clear hs ht
  go_enter Tryz.func66, Tryz.ntmps66
  go_wp2
  go_loop [3, 12] (fun s i => ∃ k : Nat, s = .int .i64 (longestB (ls.take k)) ∧ i = .int .i64 k ∧ k ≤ ls.length) (fun _ i => ls.length - (intOf i).toNat)
  case atStart => exact ⟨0, rfl, rfl, by omega⟩
  case round =>
    obtain ⟨k, rfl, rfl, hk⟩ := hrel
    by_cases hlt : k < ls.length
    · have hki : (k : Int) < ls.length := by omega
      obtain ⟨g, off, u, rfl, hg, hu, hc⟩ := Sl.at1 (HS.out w (Below.refl _ _)) hlt
      rw [List.getElem?_map, List.getElem?_eq_getElem hlt] at hu
      simp at hu
      subst hu
      have htl := HT.out ls[k] (List.getElem_mem hlt)
      have HE := Go.Lib.hid (longestB_take ls k hlt)
      have hg2 := HLG.out k
      generalize ls[k] = t at *
      generalize longestB (ls.take k) = S at *
      go_wp2
      go_round
      case rel => exact ⟨k + 1, by rw [HE.out]; congr 1; omega, by go_num, by omega⟩
      case measure => simp [intOf]; omega
    · have hki : ¬ (k : Int) < ls.length := by omega
      have hkl : ls.take k = ls := List.take_of_length_le (by omega)
      rw [hkl]
      clear hkl
      obtain ⟨n, hn⟩ : ∃ n, longestB ls = n := ⟨_, rfl⟩
      rw [hn]
      have HN := Go.Lib.hid hn
      rw [hn] at hlg
      clear hn
      go_wp2_with (at_make; go_must (refine wpList_make_full _ rfl _ _ 22 rfl w.heap.size 5 i0 (.int .u8 0) 1 Tryz.underlying22 hi hz0 hz1 _ _ _ _ n rfl rfl (by omega) (by omega) (by rw [hz2]; omega) (by unfold maxLen; omega) (Nat.le_refl _) ?_); intro w1 hown hg1)
      have g1 : Below w.heap.size w w1 := (Below.refl _ _).grown hg1 (Nat.le_refl _) (by simp)
      clear hg1
      have hlt1 : w.heap.size < w1.heap.size := (hown.lt _ rfl).2
      go_loopw [25] (fun i wr => ∃ k : Nat, i = .int .i64 k ∧ k ≤ ls.length ∧ wr.ownsRow w.heap.size 5 1 (.slice (some ⟨w.heap.size, 0, none⟩) n n) n (xC n (ls.take k) [] 0) ∧ Below w.heap.size w wr) (fun i _ => ls.length - (intOf i).toNat)
      case atStart =>
        refine ⟨0, rfl, by omega, ?_, g1⟩
        rw [List.take_zero, xC_nil, ← toList_madeCells_one]
        rw [Nat.mul_one] at hown
        exact hown
      case round =>
        obtain ⟨k, rfl, hk, hown, hb⟩ := hrel
        have hz := hb.size
        have hlt3 : w.heap.size < wr.heap.size := (hown.lt _ rfl).2
        by_cases hlt : k < ls.length
        · have hki : (k : Int) < ls.length := by omega
          obtain ⟨g, off, u, rfl, hg, hu, hc⟩ := Sl.at1 (HS.out wr hb) hlt
          rw [List.getElem?_map, List.getElem?_eq_getElem hlt] at hu
          simp at hu
          subst hu
          have htl := HT.out ls[k] (List.getElem_mem hlt)
          have htn : ls[k].length ≤ n := by rw [← HN.out]; exact longestB_ge ls _ (List.getElem_mem hlt)
          have HTK : Go.RowKit.Hid (ls.take (k + 1) = ls.take k ++ [ls[k]]) := List.take_succ_eq_append_getElem hlt
          generalize ls[k] = t at *
          generalize ls.take k = P at *
          go_wp2
          go_loopw [31] (fun i wr => ∃ j : Nat, i = .int .i64 j ∧ j ≤ t.length ∧ wr.ownsRow w.heap.size 5 1 (.slice (some ⟨w.heap.size, 0, none⟩) n n) n (xC n P t j) ∧ Below w.heap.size w wr) (fun i _ => t.length - (intOf i).toNat)
          case atStart => exact ⟨0, rfl, by omega, by rw [xC_zero n P t []]; exact hown, hb⟩
          case round =>
            obtain ⟨j, rfl, hj, hown, hb⟩ := hrel
            by_cases hjt : j < t.length
            · have hji : (j : Int) < t.length := by omega
              have hjn : (j : Int) < n := by omega
              have hj0 : (0 : Int) ≤ j := by omega
              have hlt4 : w.heap.size < wr.heap.size := (hown.lt _ rfl).2
              have hcl := (hown.cellAt j (by omega)).trans (xC_at n P t j (by omega))
              have hfr := hown.frozenAt j
              have hst := hown.stored j (u8v (xorAt P j ^^^ t[j]))
              rw [xC_succ n P t j (by omega) hjt] at hst
              have hxv : u8v (xorAt P j ^^^ t[j]) = .int .u8 (((xorAt P j).toNat ^^^ t[j].toNat : Nat) : Int) := by simp [u8v, UInt8.toNat_xor]
              rw [hxv] at hst
              have HST := Go.Lib.hid hst
              have hx := bits_xor_u8 (xorAt P j) t[j]
              rw [← byteAt_nat t j hjt] at hx
              have hbb : Below w.heap.size w (wr.setCell ⟨w.heap.size, j, none⟩ (.int .u8 (((xorAt P j).toNat ^^^ t[j].toNat : Nat) : Int))) := hb.setCell (Nat.le_refl _) _
              clear hst hxv
              have HM : Go.RowKit.Hid (∀ w', Below wr.heap.size wr w' → (w'.cell? ⟨w.heap.size, j, none⟩ = some (.int .u8 ((xorAt P j).toNat : Int)) ∧ Below wr.heap.size wr w')) := fun w' h => ⟨(h.cell (p := ⟨_, _, _⟩) (by first | assumption | (simp only; omega) | omega)).trans (hcl), h⟩
              go_wp2_with fail
              refine wp_region_last 9 (fun w' => w'.cell? ⟨w.heap.size, j, none⟩ = some (.int .u8 ((xorAt P j).toNat : Int)) ∧ Below wr.heap.size wr w') (by kernel_rfl) (by kernel_rfl) (by exact HM.out _ (by repeat (first | (with_reducible exact Below.refl _ _) | (with_reducible assumption) | (with_reducible refine Below.drew ?_) | (with_reducible refine Below.alloc ?_ (by first | omega | (simp <;> omega)) _) | (with_reducible refine Below.setCell ?_ (by first | omega | (simp <;> omega)) _) | (with_reducible refine belowN ?_ _) | (with_reducible refine Below.trans ?_ (Below.mono (by with_reducible assumption) (by first | omega | (simp <;> omega))))))) (fun hSS => ?_)
              simp only [List.take_succ_cons, List.take_zero]
              refine wpAnyH_take (i := 0) (v := ?_) rfl (by kernel_rfl) (by kernel_rfl) (by kernel_rfl) (fun _ _ _ h => h) (Or.inl ⟨by rfl, ?_⟩) (by assumption) ?_
              rotate_left
              focus (intro w hSw; (try dsimp only at hSw); go_simp; try with_reducible rfl)
              try simp only [Act.put, List.setIfInBounds_toArray, List.set_cons_zero, List.set_cons_succ]
              refine wpAnyH_take (i := 1) (v := ?_) rfl (by kernel_rfl) (by kernel_rfl) (by kernel_rfl) (fun _ _ _ h => h) (Or.inl ⟨by rfl, ?_⟩) (by assumption) ?_
              rotate_left
              focus (intro w hSw; (try dsimp only at hSw); go_simp; try with_reducible rfl)
              try simp only [Act.put, List.setIfInBounds_toArray, List.set_cons_zero, List.set_cons_succ]
              refine wpAnyH_take (i := 2) (v := ?_) rfl (by kernel_rfl) (by kernel_rfl) (by kernel_rfl) (fun _ _ _ h => h) (Or.inl ⟨by rfl, ?_⟩) (by assumption) ?_
              rotate_left
              focus (intro w hSw; (try dsimp only at hSw); go_simp; try with_reducible rfl)
              try simp only [Act.put, List.setIfInBounds_toArray, List.set_cons_zero, List.set_cons_succ]
              refine wpAnyH_take (i := 3) (v := ?_) rfl (by kernel_rfl) (by kernel_rfl) (by kernel_rfl) (fun _ _ _ h => h) (Or.inl ⟨by rfl, ?_⟩) (by assumption) ?_
              rotate_left
              focus (intro w hSw; (try dsimp only at hSw); go_simp; try with_reducible rfl)
              try simp only [Act.put, List.setIfInBounds_toArray, List.set_cons_zero, List.set_cons_succ]
              refine wpAnyH_take (i := 4) (v := ?_) rfl (by kernel_rfl) (by kernel_rfl) (by kernel_rfl) (fun _ _ _ h => h) (Or.inl ⟨by rfl, ?_⟩) (by assumption) ?_
              rotate_left
              focus (intro w hSw; (try dsimp only at hSw); go_simp; try with_reducible rfl)
              try simp only [Act.put, List.setIfInBounds_toArray, List.set_cons_zero, List.set_cons_succ]
              refine wpAnyH_take (i := 5) (v := ?_) rfl (by kernel_rfl) (by kernel_rfl) (by kernel_rfl) (fun _ _ _ h => h) (Or.inl ⟨by rfl, ?_⟩) (by assumption) ?_
              rotate_left
              focus (intro w hSw; (try dsimp only at hSw); go_simp; try with_reducible rfl)
              try simp only [Act.put, List.setIfInBounds_toArray, List.set_cons_zero, List.set_cons_succ]
              refine wpAnyH_take (i := 6) (v := ?_) rfl (by kernel_rfl) (by kernel_rfl) (by kernel_rfl) (fun _ _ _ h => h) (Or.inl ⟨by rfl, ?_⟩) (by assumption) ?_
              rotate_left
              focus (intro w hSw; (try dsimp only at hSw); go_simp; try with_reducible rfl)
              try simp only [Act.put, List.setIfInBounds_toArray, List.set_cons_zero, List.set_cons_succ]
              refine wpAnyH_take (i := 7) (v := ?_) rfl (by kernel_rfl) (by kernel_rfl) (by kernel_rfl) (fun _ _ _ h => h) (Or.inl ⟨by rfl, ?_⟩) (by assumption) ?_
              rotate_left
              focus (intro w hSw; (try dsimp only at hSw); go_simp; try with_reducible rfl)
              try simp only [Act.put, List.setIfInBounds_toArray, List.set_cons_zero, List.set_cons_succ]
              refine wpAnyH_take (i := 8) (v := ?_) rfl (by kernel_rfl) (by kernel_rfl) (by kernel_rfl) (fun _ _ _ h => h) (Or.inl ⟨by rfl, ?_⟩) (by assumption) ?_
              rotate_left
              focus (intro w hSw; (try dsimp only at hSw); go_simp; try with_reducible rfl)
              try simp only [Act.put, List.setIfInBounds_toArray, List.set_cons_zero, List.set_cons_succ]
              refine wpAnyH_done (by kernel_rfl) ?_ _
              refine LastQ_normal ?_
              refine wpOp_step (o := _) rfl (fun KK hKK => ?_)
              go_simp
              refine hKK _ _ (NoPanic.normal ?_)
              try simp only [Act.put, List.setIfInBounds_toArray, List.set_cons_zero, List.set_cons_succ]
              go_wp2
              go_roundw
              case rel => exact ⟨j + 1, by go_num, by omega, World.ownsRow.drew HST.out.1, hbb.drew⟩
              case measure => simp [intOf]; omega
            · have hji : ¬ (j : Int) < t.length := by omega
              have hjl : j = t.length := by omega
              subst hjl
              rw [xC_full n P t []] at hown
              go_wp2
              go_roundw
              case rel => exact ⟨k + 1, by go_num, by omega, by rw [HTK.out]; exact hown, hb⟩
              case measure => simp [intOf]; omega
        · have hki : ¬ (k : Int) < ls.length := by omega
          have hcv := conv_own (l := xorT ls) (by
            have e : ls.take k = ls := List.take_of_length_le (by omega)
            rw [e, ← HN.out, xC_end] at hown
            rw [xorT_length]
            rw [HN.out] at hown ⊢
            exact hown)
          go_wp2
          go_ret
          exact ⟨rfl, hb⟩
end Go.Proofs.YtfonokhafdflcaaGreat
/- Walks: what is missing in a group, by both. -/
namespace Go.Proofs.YtfonokhafdflcaaGreat
open Go.RowKit
set_option linter.unusedVariables false
set_option linter.unusedSimpArgs false
set_option maxRecDepth 100000
attribute [local go_sem high] run_index_S binOp_eql_S binOp_neq_S append_S toList_S size_S run_slice_S run_slice_from_S run_slice_to_S wrap64_byteAt wrap64_byteAt_mul bits_or_bytes convU conv1_some convU2 conv2_some
section
variable {B : Nat}
theorem lit_rowP {e : TypeId} {size n : Nat} (w : World) (cs : Array Value) (h : cs.size = n * size) (hB : B ≤ w.heap.size) (hn : n ≤ maxLen) :
    (w.alloc (.cells cs e)).ownsRow B e size (.slice (some ⟨w.heap.size, 0, none⟩) n n) n cs.toList :=
  ⟨by simpa using h, .inr ⟨w.heap.size, n, cs, rfl, hB, heap_alloc_new w _, Nat.le_refl _, hn, h, by rw [List.take_of_length_le]; simp; omega⟩⟩
end
/-- Rows that lie in different blocks. -/
def Apart (v v' : Value) : Prop := ∀ k, v.ownBlock = some k → v'.ownBlock = some k → False
theorem Apart.symm {v v' : Value} (h : Apart v v') : Apart v' v := fun k h1 h2 => h k h2 h1
theorem apart_app {w w3 : World} {B : Nat} {e : TypeId} {s n : Nat} {v1 v2 v3 : Value} {xs : List Value} {o : Obj} (h2 : w.ownsRow B e s v2 n xs) (hne : Apart v1 v2) (hg : (w.alloc o).grownBy w3 v1.ownBlock)
    (hd : v3.ownBlock = v1.ownBlock ∨ v3.ownBlock = some (w.heap.size + 1)) : w3.ownsRow B e s v2 n xs ∧ Apart v3 v2 := by
  constructor
  · refine (h2.alloc o).kept hg ?_
    cases hv : v2.ownBlock with
    | none => exact .inl rfl
    | some k => exact .inr (fun hc => hne k hc.symm hv)
  · intro k h3 h4
    rcases hd with hd | hd
    · exact hne k (hd ▸ h3) h4
    · rw [hd] at h3
      injection h3 with h3
      have := (h2.lt k h4).2
      omega
def rbRes : Option Bs → Ending
  | some t => .returned (.tuple #[sv t, .bool true])
  | none => .returned (.tuple #[sv [], .bool false])
def lensOf (p : Bs) (ls : List Bs) : List Bs := p.take 2 :: ls.map fun t => two t.length
theorem rebuild_no {ls : List Bs} {p : Bs} (h : ¬ (2 ≤ p.length ∧ ls.length ≤ 40 ∧ (∀ t ∈ ls, t.length ≤ p.length - 2))) : rebuildT ls p = none := by unfold rebuildT; rw [if_neg h]
theorem rebuild_yes {ls : List Bs} {p : Bs} (h : 2 ≤ p.length ∧ ls.length ≤ 40 ∧ (∀ t ∈ ls, t.length ≤ p.length - 2)) : rebuildT ls p = if numAt (xorT (lensOf p ls)) 0 ≤ p.length - 2 then some ((xorT (p.drop 2 :: ls)).take (numAt (xorT (lensOf p ls)) 0).toNat) else none := by unfold rebuildT; rw [if_pos h]; rfl
theorem two_len (n : Int) : (two n).length = 2 := by simp [two]
theorem lens_long (p : Bs) (ls : List Bs) (hp : 2 ≤ p.length) : longestB (lensOf p ls) = 2 := by
  have h1 := longestB_ge (lensOf p ls) (p.take 2) (by simp [lensOf])
  have h2 := longestB_le (lensOf p ls) 2 (fun t ht => by
    simp only [lensOf, List.mem_cons, List.mem_map] at ht
    rcases ht with rfl | ⟨t', _, rfl⟩
    · simp; omega
    · simp [two_len])
  simp at h1; omega
theorem texts_long (p : Bs) (ls : List Bs) (h : ∀ t ∈ ls, t.length ≤ p.length - 2) : longestB (p.drop 2 :: ls) = p.length - 2 := by
  have h1 := longestB_ge (p.drop 2 :: ls) (p.drop 2) (by simp)
  have h2 := longestB_le (p.drop 2 :: ls) (p.length - 2) (fun t ht => by
    rcases List.mem_cons.1 ht with rfl | ht
    · simp
    · exact h t ht)
  simp at h1; omega
theorem lens_snoc (p : Bs) (ls : List Bs) (t : Bs) : lensOf p (ls ++ [t]) = lensOf p ls ++ [two t.length] := by simp [lensOf]
theorem extract_from (p : Bs) (n : Nat) : (ByteArray.mk p.toArray).extract n p.length = ⟨(p.drop n).toArray⟩ := by
  apply ByteArray.ext
  simp [ByteArray.data_extract]
  rw [List.take_of_length_le (by simp)]
theorem extract_to (p : Bs) (n : Nat) : (ByteArray.mk p.toArray).extract 0 n = ⟨(p.take n).toArray⟩ := by
  apply ByteArray.ext
  simp [ByteArray.data_extract]
set_option maxHeartbeats 2000000 in
theorem rebuildText_any (ls : List Bs) (p : Bs) (A : Option Addr) (cap : Nat) (w : World) (hs : Sl w A ls.length cap 1 (ls.map sv)) (hl : ls.length ≤ 100000) (hp : p.length ≤ 1500000) (ht : ∀ t ∈ ls, t.length ≤ 1500000) :
    Calls Tryz.prog 67 #[.slice A ls.length cap, sv p] w fun e w' => e = rbRes (rebuildT ls p) ∧ Below w.heap.size w w' := by
  by_cases h1 : 2 ≤ p.length ∧ ls.length ≤ 40
  case neg =>
    have hG : Go.RowKit.Hid (rbRes (rebuildT ls p) = rbRes none) := by show _ = _; rw [rebuild_no (fun h => h1 ⟨h.1, h.2.1⟩)]
    by_cases h2 : p.length < 2
    · have h2' : (p.length : Int) < 2 := by omega
      go_enter Tryz.func67, Tryz.ntmps67
      go_wp2
      go_ret2
      exact ⟨by rw [hG.out]; rfl, (by repeat (first | (with_reducible exact Below.refl _ _) | (with_reducible assumption) | (with_reducible refine Below.drew ?_) | (with_reducible refine Below.alloc ?_ (by first | omega | (simp <;> omega)) _) | (with_reducible refine Below.setCell ?_ (by first | omega | (simp <;> omega)) _) | (with_reducible refine belowN ?_ _)))⟩
    · have h2' : ¬ (p.length : Int) < 2 := by omega
      have h3 : (40 : Int) < ls.length := by omega
      go_enter Tryz.func67, Tryz.ntmps67
      go_wp2
      go_ret2
      exact ⟨by rw [hG.out]; rfl, (by repeat (first | (with_reducible exact Below.refl _ _) | (with_reducible assumption) | (with_reducible refine Below.drew ?_) | (with_reducible refine Below.alloc ?_ (by first | omega | (simp <;> omega)) _) | (with_reducible refine Below.setCell ?_ (by first | omega | (simp <;> omega)) _) | (with_reducible refine belowN ?_ _)))⟩
  obtain ⟨hp2, hl2⟩ := h1
  obtain ⟨i, hi, hz0, hz1, hz2⟩ := info_parts info_str
  have hp2' : ¬ (p.length : Int) < 2 := by omega
  have hl2' : ¬ (40 : Int) < ls.length := by omega
  have HT := Go.Lib.hid ht
  have HS : Go.RowKit.Hid (∀ wr, Below w.heap.size w wr → Sl wr A ls.length cap 1 (ls.map sv)) := fun wr h => hs.below h
  have hcap := hs.1
  clear hs ht
  have HG : Go.RowKit.Hid (∀ R, rebuildT ls p = R → rbRes (rebuildT ls p) = rbRes R) := fun R h => by rw [h]
  generalize rbRes (rebuildT ls p) = GG at *
  go_enter Tryz.func67, Tryz.ntmps67
  go_wp2
  rw [extract_from p 2, extract_to p 2]
  have o1 := (lit_rowP (B := w.heap.size) (e := 9) (size := 1) (n := 1) w #[sv (p.take 2)] (by simp) (Nat.le_refl _) (by unfold maxLen; omega)).alloc (.cells #[sv (p.drop 2)] 9)
  have o2 := lit_rowP (B := w.heap.size) (e := 9) (size := 1) (n := 1) (w.alloc (.cells #[sv (p.take 2)] 9)) #[sv (p.drop 2)] (by simp) (by simp) (by unfold maxLen; omega)
  have ap : Apart (.slice (some ⟨w.heap.size, 0, none⟩) 1 1) (.slice (some ⟨w.heap.size + 1, 0, none⟩) 1 1) := fun k h1 h2 => by
    injection h1 with h1; injection h2 with h2
    simp at h1 h2; omega
  have hr : (p.drop 2).length = p.length - 2 := by simp
  obtain ⟨R, hR⟩ : ∃ R, p.drop 2 = R := ⟨_, rfl⟩
  rw [hR] at o1 o2 hr ⊢
  have HR := Go.Lib.hid hR
  clear hR
  have g0 : Below w.heap.size w ((w.alloc (.cells #[sv (p.take 2)] 9)).alloc (.cells #[sv R] 9)) := (by repeat (first | (with_reducible exact Below.refl _ _) | (with_reducible assumption) | (with_reducible refine Below.drew ?_) | (with_reducible refine Below.alloc ?_ (by first | omega | (simp <;> omega)) _) | (with_reducible refine Below.setCell ?_ (by first | omega | (simp <;> omega)) _) | (with_reducible refine belowN ?_ _)))
  go_loopw [7, 8, 29] (fun a b i wr => ∃ (A1 A2 : Option Addr) (c1 c2 k : Nat), a = .slice A1 (1 + k) c1 ∧ b = .slice A2 (1 + k) c2 ∧ i = .int .i64 k ∧ k ≤ ls.length ∧ Go.RowKit.Hid (∀ t ∈ ls.take k, t.length ≤ p.length - 2) ∧ Apart a b ∧ wr.ownsRow w.heap.size 9 1 a (1 + k) ((lensOf p (ls.take k)).map sv) ∧ wr.ownsRow w.heap.size 9 1 b (1 + k) ((R :: ls.take k).map sv) ∧ Below w.heap.size w wr) (fun _ _ i _ => ls.length - (intOf i).toNat)
  case atStart => exact ⟨_, _, 1, 1, 0, rfl, rfl, rfl, by omega, fun t ht => (by simp at ht), ap, by simpa [lensOf] using o1, by simpa using o2, g0⟩
  case round =>
    obtain ⟨A1, A2, c1, c2, k, rfl, rfl, rfl, hk, HB, ap, o1, o2, hb⟩ := hrel
    have hz := hb.size
    clear g0
    by_cases hlt : k < ls.length
    · have hki : (k : Int) < ls.length := by omega
      obtain ⟨g, off, u, rfl, hg, hu, hc⟩ := Sl.at1 (HS.out wr hb) hlt
      rw [List.getElem?_map, List.getElem?_eq_getElem hlt] at hu
      simp at hu
      subst hu
      have htl := HT.out ls[k] (List.getElem_mem hlt)
      have HTK : Go.RowKit.Hid (ls.take (k + 1) = ls.take k ++ [ls[k]]) := List.take_succ_eq_append_getElem hlt
      have HMEM : Go.RowKit.Hid (ls[k] ∈ ls) := List.getElem_mem hlt
      generalize ls[k] = t at *
      by_cases hf : t.length ≤ p.length - 2
      · have hf' : ¬ (R.length : Int) < t.length := by omega
        have hm1 : 1 + k + 1 ≤ maxLen := by unfold maxLen; omega
        have hm2 : (1 + k + 1) * 16 ≤ 140737488355328 := by omega
        go_wp2_with fail
        refine (two_any _ _ (by omega) (by omega)).mono ?_
        rintro e w2 ⟨rfl, hb2⟩
        have o1' := owns_keep o1 hb2
        have o2' := owns_keep o2 hb2
        have g2 := hb.trans (hb2.mono (by omega))
        have hz2' := hb2.size
        clear hb2 o1 o2 hb hc
        go_wp2_with (at_builtin; go_must (refine wpList_ap _ rfl _ _ 50 rfl (w.heap.size) 9 i _ 1 16 Tryz.underlying50 hi hz0 hz1 hz2 rfl (by omega) _ _ _ rfl (o1'.alloc _) _ 1 1 [sv (two t.length)] rfl (Sl.newAt w2 #[sv (two t.length)] _ 1 1 (by first | rfl | simp) (by simp) (by omega)) (by simp [Value.oneCell']) hm1 hm2 ?_ ?_))
        try (case refine_1 => first | omega | (simp <;> omega; done))
        intro A3 c3 w3 o3 hg3 hd3
        have g3 := app_below g2 hg3 (by omega) (fun k hk => by have := (o1'.lt k hk).1; omega)
        have q3 := apart_app o2' ap hg3 hd3
        have z3 := app_size hg3
        obtain ⟨o4, ap4⟩ := q3
        clear hg3 hd3 o1' o2' ap g2
        go_wp2_with (at_builtin; go_must (refine wpList_ap _ rfl _ _ 50 rfl (w.heap.size) 9 i _ 1 16 Tryz.underlying50 hi hz0 hz1 hz2 rfl (by omega) _ _ _ rfl (o4.alloc _) _ 1 1 [sv t] rfl (Sl.newAt w3 #[sv t] _ 1 1 (by first | rfl | simp) (by simp) (by omega)) (by simp [Value.oneCell']) hm1 hm2 ?_ ?_))
        try (case refine_1 => first | omega | (simp <;> omega; done))
        intro A5 c5 w5 o5 hg5 hd5
        have g5 := app_below g3 hg5 (by omega) (fun k hk => by have := (o4.lt k hk).1; omega)
        have q5 := apart_app o3 ap4.symm hg5 hd5
        obtain ⟨o6, ap6⟩ := q5
        clear hg5 hd5 o3 o4 ap4 g3
        have O6 := Go.Lib.hid o6
        have O5 := Go.Lib.hid o5
        clear o6 o5
        go_wp2
        go_roundw
        case rel => exact ⟨A3, A5, c3, c5, k + 1, by first | rfl | (congr 1), by first | rfl | (congr 1), by go_num, by omega, fun t' ht' => (by
            rw [HTK.out] at ht'
            rcases List.mem_append.1 ht' with h | h
            · exact HB.out t' h
            · simp at h; subst h; exact hf), ap6.symm, (by rw [HTK.out, lens_snoc, List.map_append]; exact O6.out), (by rw [HTK.out, ← List.cons_append, List.map_append, List.map_cons, List.map_take]; exact O5.out), g5⟩
        case measure => simp [intOf]; omega
      · have hf' : (R.length : Int) < t.length := by omega
        have HN := Go.Lib.hid (HG.out none (rebuild_no (fun h => hf (h.2.2 t HMEM.out))))
        go_wp2
        go_ret2
        exact ⟨by rw [HN.out]; rfl, hb⟩
    · have hki : ¬ (k : Int) < ls.length := by omega
      have hkl : ls.take k = ls := List.take_of_length_le (by omega)
      rw [hkl] at HB o1 o2
      clear hkl
      have hkk : k = ls.length := by omega
      subst hkk
      have HY := Go.Lib.hid (rebuild_yes ⟨hp2, hl2, HB.out⟩)
      have hxl : (xorT (lensOf p ls)).length = 2 := by rw [xorT_length, lens_long p ls hp2]
      have hyl : (xorT (p.drop 2 :: ls)).length = p.length - 2 := by rw [xorT_length, texts_long p ls HB.out]
      have hln : (lensOf p ls).length = 1 + ls.length := by simp [lensOf]; omega
      have htn : (R :: ls).length = 1 + ls.length := by simp; omega
      have HX : Go.RowKit.Hid (∀ w A cap, Sl w A (1 + ls.length) cap 1 ((lensOf p ls).map sv) → Calls Tryz.prog 66 #[.slice A (1 + ls.length) cap] w fun e w' => e = .returned (sv (xorT (lensOf p ls))) ∧ Below w.heap.size w w') := fun w A cap h => by
        have := xorTexts_any (lensOf p ls) A cap w (by rw [hln]; exact h) (by omega) (fun t ht => by
          have := longestB_ge _ t ht
          rw [lens_long p ls hp2] at this; omega)
        rw [hln] at this; exact this
      have HX2 : Go.RowKit.Hid (∀ w A cap, Sl w A (1 + ls.length) cap 1 ((R :: ls).map sv) → Calls Tryz.prog 66 #[.slice A (1 + ls.length) cap] w fun e w' => e = .returned (sv (xorT (p.drop 2 :: ls))) ∧ Below w.heap.size w w') := fun w A cap h => by
        rw [HR.out]
        have := xorTexts_any (R :: ls) A cap w (by rw [htn]; exact h) (by omega) (fun t ht => by
          rcases List.mem_cons.1 ht with rfl | ht
          · omega
          · exact HT.out t ht)
        rw [htn] at this; exact this
      have HNU : Go.RowKit.Hid (∀ w, Calls Tryz.prog 56 #[sv (xorT (lensOf p ls)), .int .i64 0] w fun e w' => e = .returned (.int .i64 (numAt (xorT (lensOf p ls)) 0)) ∧ Below w.heap.size w w') := fun w => numB_any (xorT (lensOf p ls)) 0 w (by omega) (by omega)
      have hnb := numAt_bd (xorT (lensOf p ls)) 0
      clear HB
      generalize hNN : numAt (xorT (lensOf p ls)) 0 = N at *
      clear hNN
      generalize xorT (lensOf p ls) = X at *
      generalize xorT (p.drop 2 :: ls) = Y at *
      have S1 := own_Sl o1
      have S2 := own_Sl o2
      clear o1 o2 ap hln htn
      go_wp2_with fail
      refine (HX.out _ _ _ S1).mono ?_
      rintro e w2 ⟨rfl, hb2⟩
      have z2 := hb2.size
      have g2 := hb.trans (hb2.mono (by omega))
      have S3 := S2.below hb2
      clear hb2 S2 S1 hb
      go_wp2_with fail
      refine (HNU.out _).mono ?_
      rintro e w3 ⟨rfl, hb3⟩
      have z3 := hb3.size
      have g3 := g2.trans (hb3.mono (by omega))
      have S4 := S3.below hb3
      clear hb3 S3 g2
      by_cases hn : N ≤ p.length - 2
      · have hn' : ¬ (R.length : Int) < N := by omega
        have HY2 := Go.Lib.hid (HG.out _ (HY.out.trans (if_pos hn)))
        go_wp2_with fail
        refine (HX2.out _ _ _ S4).mono ?_
        rintro e w4 ⟨rfl, hb4⟩
        have z4 := hb4.size
        have g4 := g3.trans (hb4.mono (by omega))
        have hyy : N ≤ Y.length := by omega
        clear hb4 S4 g3 HY HG
        go_wp2
        go_ret2
        exact ⟨by rw [HY2.out]; rfl, g4⟩
      · have hn' : (R.length : Int) < N := by omega
        have HY2 := Go.Lib.hid (HG.out _ (HY.out.trans (if_neg hn)))
        go_wp2
        go_ret2
        exact ⟨by rw [HY2.out]; rfl, g3⟩
end Go.Proofs.YtfonokhafdflcaaGreat
