import Derived.Test.YtfonokhafdflcaaGreatGP1
import Derived.Test.YtfonokhafdflcaaGreatGA
/- Walks: all blocks found, by both; the first one with a number. -/
namespace Go.Proofs.YtfonokhafdflcaaGreat
open Go.RowKit
set_option linter.unusedVariables false
set_option linter.unusedSimpArgs false
set_option maxRecDepth 100000
attribute [local go_sem high] run_index_S binOp_eql_S binOp_neq_S append_S toList_S size_S run_slice_S run_slice_from_S run_slice_to_S wrap64_byteAt wrap64_byteAt_mul bits_or_bytes convU conv1_some convU2 conv2_some
theorem info_found : (Tryz.prog.info? 40).map (fun i => (i.zero, i.size, i.bytes)) = some (some (.agg #[.int .i64 0, .int .i64 0, .bool false, .int .i64 0, .string ⟨#[]⟩]), 5, 48) := by kernel_rfl
abbrev Fd := Int × Blk
def fdV (f : Fd) : List Value := [.int .i64 f.1, .int .i64 f.2.num, .bool f.2.raw, .int .i64 f.2.size, .string ⟨f.2.body.toArray⟩]
def fsV (fs : List Fd) : List Value := fs.flatMap fdV
theorem fsV_snoc (fs : List Fd) (f : Fd) : fsV (fs ++ [f]) = fsV fs ++ fdV f := by unfold fsV; rw [List.flatMap_append]; simp
theorem fsV_length (fs : List Fd) : (fsV fs).length = fs.length * 5 := by
  induction fs with
  | nil => rfl
  | cons f fs ih => unfold fsV at *; rw [List.flatMap_cons, List.length_append, ih]; simp [fdV]; omega
theorem fsV_at (fs : List Fd) (k : Nat) (h : k < fs.length) : (fsV fs)[5 * k]? = some (.int .i64 fs[k].1) ∧ (fsV fs)[5 * k + 1]? = some (.int .i64 fs[k].2.num) ∧ (fsV fs)[5 * k + 2]? = some (.bool fs[k].2.raw) ∧ (fsV fs)[5 * k + 3]? = some (.int .i64 fs[k].2.size) ∧ (fsV fs)[5 * k + 4]? = some (.string ⟨fs[k].2.body.toArray⟩) := by
  have e : fs = fs.take k ++ (fs[k] :: fs.drop (k + 1)) := by rw [List.getElem_cons_drop, List.take_append_drop]
  have hl : (fsV (fs.take k)).length = 5 * k := by rw [fsV_length, List.length_take]; omega
  have e2 : fsV fs = fsV (fs.take k) ++ (fdV fs[k] ++ fsV (fs.drop (k + 1))) := by
    conv => lhs; rw [e]
    unfold fsV; rw [List.flatMap_append, List.flatMap_cons]
  rw [e2]
  refine ⟨?_, ?_, ?_, ?_, ?_⟩ <;> (rw [List.getElem?_append_right (by omega), hl]; simp [fdV])
def mz (x : Int) : Nat := if x < 0 then 0 else (8001 - x).toNat
theorem mz_lt {x y : Int} (h0 : 0 ≤ x) (h1 : x ≤ 8000) (h : y < 0 ∨ x < y) : mz y < mz x := by
  unfold mz
  rw [if_neg (show ¬ x < 0 by omega)]
  split <;> omega
/-- It returns found blocks in a row of its own. -/
def FsRes (fs : List Fd) (w : World) (e : Ending) (w' : World) : Prop := ∃ A cap, e = .returned (.slice A fs.length cap) ∧ w'.ownsRow w.heap.size 40 5 (.slice A fs.length cap) fs.length (fsV fs) ∧ Below w.heap.size w w'
theorem findGo_neg (l : Bs) (n : Nat) {a : Int} (h : a < 0) : findGo l n a = [] := by
  cases n with
  | zero => rfl
  | succ n => unfold findGo; rw [if_neg (by omega)]
theorem findGo_pos (l : Bs) (n : Nat) {a : Int} (h : 0 ≤ a) : findGo l (n + 1) a = (a, blkAt l a) :: findGo l n (nextB l (endAt l a)) := by
  rw [findGo, if_pos h]
def ffRes (o : Option Blk) : Ending := .returned (.tuple #[bkV (o.getD bkZ), .bool o.isSome])
theorem firstF_take (fs : List Fd) (n : Int) (k : Nat) (hk : k < fs.length) (h : firstF (fs.take k) n = none) : firstF (fs.take (k + 1)) n = if fs[k].2.num = n then some fs[k].2 else none := by
  rw [List.take_succ_eq_append_getElem hk, firstF_snoc, h]; rfl
theorem firstF_found (fs : List Fd) (n : Int) (k : Nat) (hk : k < fs.length) (h : firstF (fs.take k) n = none) (he : fs[k].2.num = n) : firstF fs n = some fs[k].2 := by
  have e : fs = fs.take (k + 1) ++ fs.drop (k + 1) := (List.take_append_drop _ _).symm
  have h1 := firstF_take fs n k hk h
  rw [if_pos he] at h1
  unfold firstF at h1 ⊢
  conv => lhs; rw [e]
  rw [List.find?_append]
  cases hf : List.find? (fun f => decide (f.2.num = n)) (fs.take (k + 1)) with
  | none => rw [hf] at h1; cases h1
  | some x => rw [hf] at h1; simpa using h1
theorem Sl.cellK {w : World} {A : Option Addr} {n cap size : Nat} {cs : List Value} (h : Sl w A n cap size cs) {k : Nat} (hk : k < n) : ∃ g off, A = some ⟨g, off, none⟩ ∧ g < w.heap.size ∧ ∀ j u, cs[k * size + j]? = some u → w.cell? ⟨g, off + k * size + j, none⟩ = some u := by
  obtain ⟨_, _, _, h4⟩ := h
  obtain ⟨g, off, rfl, hg, hc⟩ := h4 (by omega)
  exact ⟨g, off, rfl, hg, fun j u hu => by rw [Nat.add_assoc]; exact hc _ _ hu⟩
set_option maxHeartbeats 1000000 in
theorem findBlocks_any (l : Bs) (w : World) (hs : l.length ≤ 1500000) :
    Calls Tryz.prog 9 #[.string ⟨l.toArray⟩] w (FsRes (findB l) w) := by
  obtain ⟨i, hi, hz0, hz1, hz2⟩ := info_parts info_found
  have hn0 := nextB_bd l 0
  have HG0 : Go.RowKit.Hid (findB l = [] ++ findGo l (l.length + 1) (nextB l 0)) := rfl
  generalize findB l = G at *
  have cN := fun w => nextBlock_any l 0 w (by omega) (by omega) (by omega)
  generalize nextB l 0 = a0 at *
  obtain ⟨hn1, hn2, hn3⟩ := hn0
  have H3 := Go.Lib.hid hn3
  clear hn3
  go_enter Tryz.func9, Tryz.ntmps9
  go_wp2_with fail
  refine (cN _).mono ?_
  rintro e w1 ⟨rfl, hb1⟩
  clear cN
  go_wp2
  go_loopw [3, 4] (fun a b wr => ∃ (A : Option Addr) (cap m : Nat) (out : List Fd) (x : Int), a = .slice A out.length cap ∧ b = .int .i64 x ∧ -1 ≤ x ∧ x ≤ 8000 ∧ Go.RowKit.Hid (0 ≤ x → parseOk l x = true ∧ l.length < m + x ∧ 10 * (out.length : Int) ≤ x) ∧ Go.RowKit.Hid (G = out ++ findGo l m x) ∧ wr.ownsRow w.heap.size 40 5 (.slice A out.length cap) out.length (fsV out) ∧ Below w.heap.size w wr) (fun _ b _ => mz (intOf b))
  case atStart => exact ⟨none, 0, l.length + 1, [], a0, rfl, rfl, hn1, hn2, fun h => ⟨(H3.out h).2, by omega, by simpa using h⟩, HG0, ⟨by simp [fsV], .inl ⟨rfl, rfl⟩⟩, hb1⟩
  case round =>
    obtain ⟨A, cap, m, out, x, rfl, rfl, hx1, hx2, HX, HG, hown, hb⟩ := hrel
    have hws := hb.size
    clear HG0 H3 hb1 hn1 hn2
    by_cases hx : 0 ≤ x
    · obtain ⟨hp, hm, ho⟩ := HX.out hx
      clear HX
      have hpb := parse_bd hp
      obtain ⟨_, hpb1, hpb2, _⟩ := hpb
      obtain ⟨m', rfl⟩ : ∃ m', m = m' + 1 := ⟨m - 1, by omega⟩
      have HG2 : Go.RowKit.Hid (G = (out ++ [(x, blkAt l x)]) ++ findGo l m' (nextB l (endAt l x))) := by
        show _ = _
        rw [HG.out, findGo_pos l m' hx]; simp
      have hnb := nextB_bd l (endAt l x)
      obtain ⟨hy1, hy2, hy3⟩ := hnb
      have cP := fun w => iParse_yes l x w (by omega) (by omega) (by omega) hp
      have cN := fun w => nextBlock_any l (endAt l x) w (by omega) (by omega) (by omega)
      have HY : Go.RowKit.Hid (0 ≤ nextB l (endAt l x) → parseOk l (nextB l (endAt l x)) = true ∧ endAt l x ≤ nextB l (endAt l x)) := fun h => ⟨(hy3 h).2, (hy3 h).1⟩
      clear hy3 hp HG
      generalize blkAt l x = b at *
      generalize nextB l (endAt l x) = y at *
      generalize endAt l x = ex at *
      obtain ⟨n2, r, n4, D⟩ := b
      have hm1 : out.length + 1 ≤ maxLen := by unfold maxLen; omega
      have hm2 : (out.length + 1) * 48 ≤ 140737488355328 := by omega
      go_wp2_with fail
      refine (cP _).mono ?_
      rintro e w2 ⟨rfl, hb2⟩
      have o2 := (owns_keep hown hb2).alloc (.cells (bkC ⟨n2, r, n4, D⟩) 38)
      have g2 : Below w.heap.size w (w2.alloc (.cells (bkC ⟨n2, r, n4, D⟩) 38)) := by
        have h := hb.trans (hb2.mono (by omega)); have y2 := hb2.size; exact (by repeat (first | (with_reducible exact Below.refl _ _) | (with_reducible assumption) | (with_reducible refine Below.drew ?_) | (with_reducible refine Below.alloc ?_ (by first | omega | (simp <;> omega)) _) | (with_reducible refine Below.setCell ?_ (by first | omega | (simp <;> omega)) _) | (with_reducible refine belowN ?_ _)))
      have k2 := Bk.new w2 (bkC ⟨n2, r, n4, D⟩) 38
      have y2 := hb2.size
      clear cP hb2 hb hown
      go_wp2_with (at_builtin; go_must (refine wpList_ap _ rfl _ _ 29 rfl (w.heap.size) 40 i _ 5 48 Tryz.underlying29 hi hz0 hz1 hz2 rfl (by omega) _ _ _ rfl (o2.alloc _) _ 1 1 [.int .i64 x, .int .i64 n2, .bool r, .int .i64 n4, .string ⟨D.toArray⟩] rfl (Sl.newAt (w2.alloc (.cells (bkC ⟨n2, r, n4, D⟩) 38)) #[.int .i64 x, .int .i64 n2, .bool r, .int .i64 n4, .string ⟨D.toArray⟩] _ 1 5 (by first | rfl | simp) (by simp) (by omega)) (by simp [Value.oneCell']) hm1 hm2 ?_ ?_))
      try (case refine_1 => first | omega | (simp <;> omega; done))
      intro A3 cap3 w3 o3 hg3 _
      have g3 := app_below g2 hg3 (by simp; omega) (fun k hk => by have := (o2.lt k hk).1; omega)
      have o3' : w3.ownsRow w.heap.size 40 5 (.slice A3 (out ++ [(x, (⟨n2, r, n4, D⟩ : Blk))]).length cap3) (out ++ [(x, (⟨n2, r, n4, D⟩ : Blk))]).length (fsV (out ++ [(x, (⟨n2, r, n4, D⟩ : Blk))])) := by
        rw [fsV_snoc, List.length_append]; exact o3
      have hol : (out ++ [(x, (⟨n2, r, n4, D⟩ : Blk))]).length = out.length + 1 := by simp
      have HOL := Go.Lib.hid hol
      have y3 := g3.size
      clear o3 hg3 o2 g2 k2 hol
      go_wp2_with fail
      refine (cN _).mono ?_
      rintro e w4 ⟨rfl, hb4⟩
      have o4 := owns_keep o3' hb4
      have g4 := g3.trans (hb4.mono (by omega))
      clear cN hb4 o3' g3
      go_wp2
      go_roundw
      case rel => exact ⟨A3, cap3, m', _, y, (by rw [HOL.out]), rfl, hy1, hy2, fun h => ⟨(HY.out h).1, (by have := (HY.out h).2; omega), (by have := (HY.out h).2; rw [HOL.out]; omega)⟩, HG2, o4, g4⟩
      case measure =>
        refine mz_lt hx hx2 ?_
        by_cases h0 : 0 ≤ y
        · have h := (HY.out h0).2
          right; simp only [intOf]; omega
        · left; simp only [intOf]; omega
    · have HE : Go.RowKit.Hid (G = out) := by show _ = _; rw [HG.out, findGo_neg l m (by omega)]; simp
      clear HG HX
      go_wp2
      go_ret
      have h := HE.out
      subst h
      exact ⟨A, cap, rfl, hown, hb⟩
set_option maxHeartbeats 2000000 in
theorem firstFound_any (fs : List Fd) (n : Int) (A : Option Addr) (cap : Nat) (w : World) (hs : Sl w A fs.length cap 5 (fsV fs)) (hl : fs.length ≤ 1000000) :
    Calls Tryz.prog 36 #[.slice A fs.length cap, .int .i64 n] w fun e w' => e = ffRes (firstF fs n) ∧ Below w.heap.size w w' := by
  go_enter Tryz.func36, Tryz.ntmps36
  go_wp2
  have K0 : Bk (w.alloc (.cells bkZC 38)) w.heap.size 38 bkZC := Bk.new _ _ _
  have s0 := hs.alloc (.cells bkZC 38)
  have hS : Go.RowKit.Hid (∀ wr, Below w.heap.size w wr → Sl wr A fs.length cap 5 (fsV fs)) := fun wr h => hs.below h
  have hcap := hs.1
  clear hs s0
  go_loopw [10] (fun i wr => ∃ k : Nat, i = .int .i64 k ∧ k ≤ fs.length ∧ Go.RowKit.Hid (firstF (fs.take k) n = none) ∧ Bk wr w.heap.size 38 bkZC ∧ Below w.heap.size w wr) (fun i _ => fs.length - (intOf i).toNat)
  case atStart => exact ⟨0, by go_num, by omega, rfl, K0, (by repeat (first | (with_reducible exact Below.refl _ _) | (with_reducible assumption) | (with_reducible refine Below.drew ?_) | (with_reducible refine Below.alloc ?_ (by first | omega | (simp <;> omega)) _) | (with_reducible refine Below.setCell ?_ (by first | omega | (simp <;> omega)) _) | (with_reducible refine belowN ?_ _)))⟩
  case round =>
    obtain ⟨k, rfl, hk, HK, hK, hb⟩ := hrel
    have hlt0 := hK.lt
    clear K0
    by_cases hlt : k < fs.length
    · have hki : (k : Int) < fs.length := by omega
      have hsr := hS.out wr hb
      obtain ⟨g, off, rfl, hg, hc⟩ := Sl.cellK hsr hlt
      have hcs := fsV_at fs k hlt
      rw [Nat.mul_comm 5 k] at hcs
      have c0 := hc 0 _ hcs.1
      have c1 := hc 1 _ hcs.2.1
      have c2 := hc 2 _ hcs.2.2.1
      have c3 := hc 3 _ hcs.2.2.2.1
      have c4 := hc 4 _ hcs.2.2.2.2
      clear hc hcs hsr
      have HF : Go.RowKit.Hid (fs[k].2.num = n → firstF fs n = some fs[k].2) := fun he => firstF_found fs n k hlt HK.out he
      have HN : Go.RowKit.Hid (¬ fs[k].2.num = n → firstF (fs.take (k + 1)) n = none) := fun he => by rw [firstF_take fs n k hlt HK.out, if_neg he]
      clear HK
      generalize fs[k] = f at *
      obtain ⟨x, n2, r, n4, D⟩ := f
      simp only [Nat.add_zero] at HF HN c0 c1 c2 c3 c4
      by_cases he : n2 = n
      · have hd : (n2 == n) = true := by simpa using he
        have HF2 : Go.RowKit.Hid (ffRes (firstF fs n) = .returned (.tuple #[bkV ⟨n2, r, n4, D⟩, .bool true])) := by show _ = _; rw [HF.out he]; rfl
        have hF := hK.free
        have hX := hK.cell
        clear HF HN he
        go_wp2
        have Q := ((((hK.set 0 (.int .i64 n2)).set 1 (.bool r)).set 2 (.int .i64 n4)).set 3 (.string ⟨D.toArray⟩))
        have Q1 := Q.cell
        have Q2 := (Q.alloc (.cells #[.int .i64 x, .int .i64 n2, .bool r, .int .i64 n4, .string ⟨D.toArray⟩] 40)).cell
        exact bodyPost_ret (v := .tuple #[bkV ⟨n2, r, n4, D⟩, .bool true]) (by first | (simp [results, Tryz.results36, go_sem, Q1]; done) | (simp [results, Tryz.results36, go_sem, Q2]; done)) rfl ⟨HF2.out.symm, (by repeat (first | (with_reducible exact Below.refl _ _) | (with_reducible assumption) | (with_reducible refine Below.drew ?_) | (with_reducible refine Below.alloc ?_ (by first | omega | (simp <;> omega)) _) | (with_reducible refine Below.setCell ?_ (by first | omega | (simp <;> omega)) _) | (with_reducible refine belowN ?_ _)))⟩
      · have hd : (n2 == n) = false := by simpa using he
        have HN2 := Go.Lib.hid (HN.out he)
        clear HF HN he
        go_wp2
        go_roundw
        case rel => exact ⟨k + 1, by go_num, by omega, HN2.out, (by (repeat (first | (with_reducible assumption) | (with_reducible exact Bk.new _ _ _) | (with_reducible refine Bk.newAt _ _ _ (by simp; done)) | (with_reducible refine Bk.drew ?_) | (with_reducible refine Bk.drewN ?_ _) | (with_reducible refine Bk.alloc ?_ _))); done), (by repeat (first | (with_reducible exact Below.refl _ _) | (with_reducible assumption) | (with_reducible refine Below.drew ?_) | (with_reducible refine Below.alloc ?_ (by first | omega | (simp <;> omega)) _) | (with_reducible refine Below.setCell ?_ (by first | omega | (simp <;> omega)) _) | (with_reducible refine belowN ?_ _)))⟩
        case measure => simp [intOf]; omega
    · have hki : ¬ (k : Int) < fs.length := by omega
      have HF2 : Go.RowKit.Hid (ffRes (firstF fs n) = .returned (.tuple #[.agg bkZC, .bool false])) := by
        show _ = _
        have h := HK.out
        rw [List.take_of_length_le (by omega)] at h
        rw [h]; rfl
      have hF := hK.free
      have hX := hK.cell
      clear HK
      go_wp2
      have Q1 := ((((hK.set 0 (.int .i64 0)).set 1 (.bool false)).set 2 (.int .i64 0)).set 3 (.string ⟨#[]⟩)).cell
      exact bodyPost_ret (v := .tuple #[.agg bkZC, .bool false]) (by simp [results, Tryz.results36, go_sem, Q1]) rfl ⟨HF2.out.symm, (by repeat (first | (with_reducible exact Below.refl _ _) | (with_reducible assumption) | (with_reducible refine Below.drew ?_) | (with_reducible refine Below.alloc ?_ (by first | omega | (simp <;> omega)) _) | (with_reducible refine Below.setCell ?_ (by first | omega | (simp <;> omega)) _) | (with_reducible refine belowN ?_ _)))⟩
end Go.Proofs.YtfonokhafdflcaaGreat
/- Walks: the blocks of a container, by both. -/
namespace Go.Proofs.YtfonokhafdflcaaGreat
open Go.RowKit
set_option linter.unusedVariables false
set_option linter.unusedSimpArgs false
set_option maxRecDepth 100000
attribute [local go_sem high] run_index_S binOp_eql_S binOp_neq_S append_S toList_S size_S run_slice_S run_slice_from_S run_slice_to_S wrap64_byteAt wrap64_byteAt_mul bits_or_bytes convU conv1_some convU2 conv2_some
theorem info_block : (Tryz.prog.info? 38).map (fun i => (i.zero, i.size, i.bytes)) = some (some (.agg #[.int .i64 0, .bool false, .int .i64 0, .string ⟨#[]⟩]), 4, 40) := by kernel_rfl
theorem own_Sl {w : World} {B : Nat} {e : TypeId} {A : Option Addr} {n cap size : Nat} {cs : List Value} (h : w.ownsRow B e size (.slice A n cap) n cs) : Sl w A n cap size cs := by
  obtain ⟨A', cap', h1, h2⟩ := Sl.of_own h
  injection h1 with e1 e2 e3
  subst e1 e3
  exact h2
def bkL (b : Blk) : List Value := [.int .i64 b.num, .bool b.raw, .int .i64 b.size, .string ⟨b.body.toArray⟩]
def bksV (bs : List Blk) : List Value := bs.flatMap bkL
theorem bksV_snoc (bs : List Blk) (b : Blk) : bksV (bs ++ [b]) = bksV bs ++ bkL b := by unfold bksV; rw [List.flatMap_append]; simp
theorem bksV_length (bs : List Blk) : (bksV bs).length = bs.length * 4 := by
  induction bs with
  | nil => rfl
  | cons f fs ih => unfold bksV at *; rw [List.flatMap_cons, List.length_append, ih]; simp [bkL]; omega
theorem bksV_at (bs : List Blk) (k : Nat) (h : k < bs.length) : (bksV bs)[k * 4 + 0]? = some (.int .i64 bs[k].num) ∧ (bksV bs)[k * 4 + 1]? = some (.bool bs[k].raw) ∧ (bksV bs)[k * 4 + 2]? = some (.int .i64 bs[k].size) ∧ (bksV bs)[k * 4 + 3]? = some (.string ⟨bs[k].body.toArray⟩) := by
  have e : bs = bs.take k ++ (bs[k] :: bs.drop (k + 1)) := by rw [List.getElem_cons_drop, List.take_append_drop]
  have hl : (bksV (bs.take k)).length = k * 4 := by rw [bksV_length, List.length_take]; omega
  have e2 : bksV bs = bksV (bs.take k) ++ (bkL bs[k] ++ bksV (bs.drop (k + 1))) := by
    conv => lhs; rw [e]
    unfold bksV; rw [List.flatMap_append, List.flatMap_cons]
  rw [e2]
  refine ⟨?_, ?_, ?_, ?_⟩ <;> (rw [List.getElem?_append_right (by omega), hl]; simp [bkL])
/-- It returns the blocks, or none, in a row of its own. -/
def BksRes (o : Option (List Blk)) (w : World) (e : Ending) (w' : World) : Prop :=
  ∃ A cap, e = .returned (.tuple #[.slice A (o.getD []).length cap, .bool o.isSome]) ∧ w'.ownsRow w.heap.size 38 4 (.slice A (o.getD []).length cap) (o.getD []).length (bksV (o.getD [])) ∧ Below w.heap.size w w'
theorem sizesOf_snoc (bs : List Blk) (b : Blk) : sizesOf (bs ++ [b]) = sizesOf bs + b.size := by unfold sizesOf; rw [List.foldl_append]; rfl
theorem Blk.ok_size {b : Blk} (h : b.ok = true) : 1 ≤ b.size ∧ b.size ≤ 64 ∧ 0 ≤ b.num ∧ b.num < 40 := by
  obtain ⟨n, r, s, d⟩ := b
  rw [Blk.ok_iff] at h
  exact ⟨h.2.2.1, h.2.2.2.1, h.1, h.2.1⟩
theorem sizesOf_bd (bs : List Blk) (h : ∀ b ∈ bs, b.ok = true) : 0 ≤ sizesOf bs ∧ sizesOf bs ≤ 64 * bs.length := by
  induction bs using snoc_ind with
  | h0 => simp [sizesOf]
  | h1 bs b ih =>
    rw [sizesOf_snoc]
    have h1 := ih (fun c hc => h c (by simp [hc]))
    have h2 := Blk.ok_size (h b (by simp))
    simp; omega
theorem blocksGo_end {l : Bs} {n : Nat} {a : Int} {acc : List Blk} (h : (l.length : Int) ≤ a) : blocksGo l (n + 1) a acc = if sizesOf acc ≤ 2000 then some acc else none := by rw [blocksGo, if_pos h]
theorem blocksGo_go {l : Bs} {n : Nat} {a : Int} {acc : List Blk} (h : ¬ (l.length : Int) ≤ a) (hp : parseOk l a = true) (hn : (blkAt l a).num = acc.length) : blocksGo l (n + 1) a acc = blocksGo l n (endAt l a) (acc ++ [blkAt l a]) := by
  rw [blocksGo, if_neg h, if_pos ⟨hp, hn⟩]
theorem blocksGo_bad {l : Bs} {n : Nat} {a : Int} {acc : List Blk} (h : ¬ (l.length : Int) ≤ a) (hp : ¬ (parseOk l a = true ∧ (blkAt l a).num = acc.length)) : blocksGo l (n + 1) a acc = none := by
  rw [blocksGo, if_neg h, if_neg hp]
set_option maxHeartbeats 1000000 in
theorem sizeOf_any (bs : List Blk) (A : Option Addr) (cap : Nat) (w : World) (hs : Sl w A bs.length cap 4 (bksV bs)) (hok : ∀ b ∈ bs, b.ok = true) (hl : bs.length ≤ 1000000) :
    Calls Tryz.prog 35 #[.slice A bs.length cap] w fun e w' => e = .returned (.int .i64 (sizesOf bs)) ∧ Below w.heap.size w w' := by
  have HOK := Go.Lib.hid hok
  have hcap := hs.1
  go_enter Tryz.func35, Tryz.ntmps35
  go_wp2
  have hS : Go.RowKit.Hid (∀ wr, Below w.heap.size w wr → Sl wr A bs.length cap 4 (bksV bs)) := fun wr h => hs.below h
  clear hs hok
  go_loopw [3, 8] (fun s i wr => ∃ k : Nat, s = .int .i64 (sizesOf (bs.take k)) ∧ i = .int .i64 k ∧ k ≤ bs.length ∧ Below w.heap.size w wr) (fun _ i _ => bs.length - (intOf i).toNat)
  case atStart => exact ⟨0, rfl, rfl, by omega, (by repeat (first | (with_reducible exact Below.refl _ _) | (with_reducible assumption) | (with_reducible refine Below.drew ?_) | (with_reducible refine Below.alloc ?_ (by first | omega | (simp <;> omega)) _) | (with_reducible refine Below.setCell ?_ (by first | omega | (simp <;> omega)) _) | (with_reducible refine belowN ?_ _)))⟩
  case round =>
    obtain ⟨k, rfl, rfl, hk, hb⟩ := hrel
    have hbs := hb.size
    have hsb := sizesOf_bd (bs.take k) (fun b hb => HOK.out b (List.mem_of_mem_take hb))
    have htl : (bs.take k).length ≤ 1000000 := by simp; omega
    have HTL := Go.Lib.hid htl
    obtain ⟨hsb1, hsb2⟩ := hsb
    have hsb3 : sizesOf (bs.take k) ≤ 64000000 := by omega
    clear hsb2 htl
    by_cases hlt : k < bs.length
    · have hki : (k : Int) < bs.length := by omega
      have hsr := hS.out wr hb
      obtain ⟨g, off, rfl, hg, hc⟩ := Sl.cellK hsr hlt
      have hcs := bksV_at bs k hlt
      have c0 := hc 0 _ hcs.1
      have c1 := hc 1 _ hcs.2.1
      have c2 := hc 2 _ hcs.2.2.1
      have c3 := hc 3 _ hcs.2.2.2
      clear hc hcs hsr
      have hsz := Blk.ok_size (HOK.out bs[k] (List.getElem_mem hlt))
      obtain ⟨hz1, hz2, _, _⟩ := hsz
      have HS2 : Go.RowKit.Hid (sizesOf (bs.take (k + 1)) = sizesOf (bs.take k) + bs[k].size) := by show _ = _; rw [List.take_succ_eq_append_getElem hlt, sizesOf_snoc]
      generalize bs[k] = b at *
      obtain ⟨n2, r, n4, D⟩ := b
      simp only [Nat.add_zero] at c0 c1 c2 c3 hz1 hz2 HS2
      generalize sizesOf (bs.take k) = S at *
      go_wp2
      go_roundw
      case rel => exact ⟨k + 1, (by rw [HS2.out]), by go_num, by omega, (by repeat (first | (with_reducible exact Below.refl _ _) | (with_reducible assumption) | (with_reducible refine Below.drew ?_) | (with_reducible refine Below.alloc ?_ (by first | omega | (simp <;> omega)) _) | (with_reducible refine Below.setCell ?_ (by first | omega | (simp <;> omega)) _) | (with_reducible refine belowN ?_ _)))⟩
      case measure => simp [intOf]; omega
    · have hki : ¬ (k : Int) < bs.length := by omega
      have HE : Go.RowKit.Hid (sizesOf (bs.take k) = sizesOf bs) := by show _ = _; rw [List.take_of_length_le (by omega)]
      go_wp2
      go_ret
      exact ⟨ret_int HE.out, hb⟩
set_option maxHeartbeats 2000000 in
theorem containerBlocks_any (l : Bs) (w : World) (hs : l.length ≤ 1500000) :
    Calls Tryz.prog 10 #[.string ⟨l.toArray⟩] w (BksRes (blocksB l) w) := by
  obtain ⟨i, hi, hz0, hz1, hz2⟩ := info_parts info_block
  have HG0 : Go.RowKit.Hid (blocksB l = blocksGo l (l.length + 1) 0 []) := rfl
  generalize blocksB l = G at *
  have HR : Go.RowKit.Hid (BksRes G w = BksRes G w) := rfl
  go_enter Tryz.func10, Tryz.ntmps10
  go_wp2
  go_loopw [4, 5] (fun a b wr => ∃ (A : Option Addr) (cap m x : Nat) (acc : List Blk), a = .slice A acc.length cap ∧ b = .int .i64 x ∧ x ≤ l.length ∧ l.length < m + x ∧ 10 * acc.length ≤ x ∧ Go.RowKit.Hid (∀ b ∈ acc, b.ok = true) ∧ Go.RowKit.Hid (G = blocksGo l m x acc) ∧ wr.ownsRow w.heap.size 38 4 (.slice A acc.length cap) acc.length (bksV acc) ∧ Below w.heap.size w wr) (fun _ b _ => l.length - (intOf b).toNat)
  case atStart => exact ⟨none, 0, l.length + 1, 0, [], rfl, rfl, by omega, by omega, by simp, fun b hb => (by cases hb), HG0, ⟨by simp [bksV], .inl ⟨rfl, rfl⟩⟩, (by repeat (first | (with_reducible exact Below.refl _ _) | (with_reducible assumption) | (with_reducible refine Below.drew ?_) | (with_reducible refine Below.alloc ?_ (by first | omega | (simp <;> omega)) _) | (with_reducible refine Below.setCell ?_ (by first | omega | (simp <;> omega)) _) | (with_reducible refine belowN ?_ _)))⟩
  case round =>
    obtain ⟨A, cap, m, x, acc, rfl, rfl, hx, hm, ha, HOK, HG, hown, hb⟩ := hrel
    have hws := hb.size
    clear HG0
    obtain ⟨m', rfl⟩ : ∃ m', m = m' + 1 := ⟨m - 1, by omega⟩
    by_cases hlt : x < l.length
    · have hxi : (x : Int) < l.length := by omega
      have hxn : ¬ (l.length : Int) ≤ (x : Int) := by omega
      by_cases hp : parseOk l x = true
      · have hpb := parse_bd hp
        obtain ⟨_, hpb1, hpb2, hbok⟩ := hpb
        have cP := fun w => iParse_yes l x w (by omega) (by omega) (by omega) hp
        have HGY : Go.RowKit.Hid ((blkAt l x).num = acc.length → G = blocksGo l m' (endAt l x) (acc ++ [blkAt l x])) := fun h => by rw [HG.out, blocksGo_go hxn hp h]
        have HGN : Go.RowKit.Hid (¬ (blkAt l x).num = acc.length → G = none) := fun h => by rw [HG.out, blocksGo_bad hxn (fun h2 => h h2.2)]
        clear hp HG hxn
        have HBOK := Go.Lib.hid hbok
        clear hbok
        generalize blkAt l x = b at *
        generalize endAt l x = ex at *
        obtain ⟨y, rfl⟩ := Int.eq_ofNat_of_zero_le (by omega : 0 ≤ ex)
        obtain ⟨n2, r, n4, D⟩ := b
        simp only at HGY HGN
        by_cases hn : n2 = acc.length
        · have hd : (n2 != (acc.length : Int)) = false := by simpa using hn
          have HG2 := Go.Lib.hid (HGY.out hn)
          clear HGY HGN hn
          have hm1 : acc.length + 1 ≤ maxLen := by unfold maxLen; omega
          have hm2 : (acc.length + 1) * 40 ≤ 140737488355328 := by omega
          go_wp2_with fail
          refine (cP _).mono ?_
          rintro e w2 ⟨rfl, hb2⟩
          have y2 := hb2.size
          have o2 := (owns_keep hown hb2).alloc (.cells (bkC ⟨n2, r, n4, D⟩) 38)
          have g2 : Below w.heap.size w (w2.alloc (.cells (bkC ⟨n2, r, n4, D⟩) 38)) := by
            have h := hb.trans (hb2.mono (by omega)); exact (by repeat (first | (with_reducible exact Below.refl _ _) | (with_reducible assumption) | (with_reducible refine Below.drew ?_) | (with_reducible refine Below.alloc ?_ (by first | omega | (simp <;> omega)) _) | (with_reducible refine Below.setCell ?_ (by first | omega | (simp <;> omega)) _) | (with_reducible refine belowN ?_ _)))
          clear cP hb2 hb hown
          go_wp2_with (at_builtin; go_must (refine wpList_ap _ rfl _ _ 31 rfl (w.heap.size) 38 i _ 4 40 Tryz.underlying31 hi hz0 hz1 hz2 rfl (by omega) _ _ _ rfl (o2.alloc _) _ 1 1 [.int .i64 n2, .bool r, .int .i64 n4, .string ⟨D.toArray⟩] rfl (Sl.newAt (w2.alloc (.cells (bkC ⟨n2, r, n4, D⟩) 38)) #[.int .i64 n2, .bool r, .int .i64 n4, .string ⟨D.toArray⟩] _ 1 4 (by first | rfl | simp) (by simp) (by omega)) (by simp [Value.oneCell']) hm1 hm2 ?_ ?_))
          try (case refine_1 => first | omega | (simp <;> omega; done))
          intro A3 cap3 w3 o3 hg3 _
          have g3 := app_below g2 hg3 (by simp; omega) (fun k hk => by have := (o2.lt k hk).1; omega)
          have o3' : w3.ownsRow w.heap.size 38 4 (.slice A3 (acc ++ [(⟨n2, r, n4, D⟩ : Blk)]).length cap3) (acc ++ [(⟨n2, r, n4, D⟩ : Blk)]).length (bksV (acc ++ [(⟨n2, r, n4, D⟩ : Blk)])) := by
            rw [bksV_snoc, List.length_append]; exact o3
          have hol : (acc ++ [(⟨n2, r, n4, D⟩ : Blk)]).length = acc.length + 1 := by simp
          have HOL := Go.Lib.hid hol
          have HOK2 : Go.RowKit.Hid (∀ b ∈ acc ++ [(⟨n2, r, n4, D⟩ : Blk)], b.ok = true) := fun b hb => by
            rcases List.mem_append.1 hb with h | h
            · exact HOK.out b h
            · simp at h; subst h; exact HBOK.out
          clear o3 hg3 o2 g2 hol
          go_wp2
          go_roundw
          case rel => exact ⟨A3, cap3, m', y, _, (by rw [HOL.out]), rfl, by omega, by omega, by rw [HOL.out]; omega, HOK2, HG2, o3', g3⟩
          case measure => simp [intOf]; omega
        · have hd : (n2 != (acc.length : Int)) = true := by simpa using hn
          have HG2 := Go.Lib.hid (HGN.out hn)
          clear HGY HGN hn
          go_wp2_with fail
          refine (cP _).mono ?_
          rintro e w2 ⟨rfl, hb2⟩
          have y2 := hb2.size
          have g2 := hb.trans (hb2.mono (by omega))
          clear cP hb2 hb hown
          go_wp2
          go_ret2
          have h := HG2.out
          subst h
          exact ⟨none, 0, rfl, ⟨by simp [bksV], .inl ⟨rfl, rfl⟩⟩, (by repeat (first | (with_reducible exact Below.refl _ _) | (with_reducible assumption) | (with_reducible refine Below.drew ?_) | (with_reducible refine Below.alloc ?_ (by first | omega | (simp <;> omega)) _) | (with_reducible refine Below.setCell ?_ (by first | omega | (simp <;> omega)) _) | (with_reducible refine belowN ?_ _)))⟩
      · have hp' : parseOk l x = false := by simpa using hp
        have cP := fun w => iParse_no l x w (by omega) (by omega) (by omega) hp'
        have HG2 : Go.RowKit.Hid (G = none) := by show _ = _; rw [HG.out, blocksGo_bad hxn (fun h => hp h.1)]
        clear hp hp' HG hxn
        go_wp2_with fail
        refine (cP _).mono ?_
        rintro e w2 ⟨rfl, hb2⟩
        have y2 := hb2.size
        have g2 := hb.trans (hb2.mono (by omega))
        clear cP hb2 hb hown
        go_wp2
        go_ret2
        have h := HG2.out
        subst h
        exact ⟨none, 0, rfl, ⟨by simp [bksV], .inl ⟨rfl, rfl⟩⟩, (by repeat (first | (with_reducible exact Below.refl _ _) | (with_reducible assumption) | (with_reducible refine Below.drew ?_) | (with_reducible refine Below.alloc ?_ (by first | omega | (simp <;> omega)) _) | (with_reducible refine Below.setCell ?_ (by first | omega | (simp <;> omega)) _) | (with_reducible refine belowN ?_ _)))⟩
    · have hxi : ¬ (x : Int) < l.length := by omega
      have HGE : Go.RowKit.Hid (G = if sizesOf acc ≤ 2000 then some acc else none) := by show _ = _; rw [HG.out, blocksGo_end (by omega)]
      have cZ := fun w hs => sizeOf_any acc A cap w hs HOK.out (by omega)
      have CZ := Go.Lib.hid cZ
      clear HG cZ
      go_wp2_with fail
      refine (CZ.out _ (own_Sl hown)).mono ?_
      rintro e w2 ⟨rfl, hb2⟩
      have y2 := hb2.size
      have g2 := hb.trans (hb2.mono (by omega))
      have o2 := owns_keep hown hb2
      clear hb2 hb hown CZ
      by_cases hz : sizesOf acc ≤ 2000
      · have hz' : ¬ 2000 < sizesOf acc := by omega
        have HG2 : Go.RowKit.Hid (G = some acc) := by show _ = _; rw [HGE.out, if_pos hz]
        clear HGE
        go_wp2
        go_ret2
        have h := HG2.out
        subst h
        exact ⟨A, cap, rfl, o2, g2⟩
      · have hz' : 2000 < sizesOf acc := by omega
        have HG2 : Go.RowKit.Hid (G = none) := by show _ = _; rw [HGE.out, if_neg hz]
        clear HGE
        go_wp2
        go_ret2
        have h := HG2.out
        subst h
        exact ⟨none, 0, rfl, ⟨by simp [bksV], .inl ⟨rfl, rfl⟩⟩, (by repeat (first | (with_reducible exact Below.refl _ _) | (with_reducible assumption) | (with_reducible refine Below.drew ?_) | (with_reducible refine Below.alloc ?_ (by first | omega | (simp <;> omega)) _) | (with_reducible refine Below.setCell ?_ (by first | omega | (simp <;> omega)) _) | (with_reducible refine belowN ?_ _)))⟩
end Go.Proofs.YtfonokhafdflcaaGreat
