import Derived.Test.YtoogaalbnnlloaaGreatDoorGP1
import Derived.Test.YtoogaalbnnlloaaGreatDoorGA
/- Walks: all blocks found, by both; the first one with a number. -/
namespace Go.Proofs.YtoogaalbnnlloaaGreatDoor
open Go.RowKit
set_option linter.unusedVariables false
set_option linter.unusedSimpArgs false
set_option maxRecDepth 100000
attribute [local go_sem high] run_index_S binOp_eql_S binOp_neq_S append_S toList_S size_S run_slice_S run_slice_from_S run_slice_to_S wrap64_byteAt wrap64_byteAt_mul bits_or_bytes convU conv1_some convU2 conv2_some
abbrev Fd := Int × Blk
def fdV (f : Fd) : List Value := [.int .i64 f.1, .int .i64 f.2.num, .bool f.2.raw, .int .i64 f.2.size, .string ⟨f.2.body.toArray⟩]
def fsV (fs : List Fd) : List Value := fs.flatMap fdV
theorem fsV_snoc (fs : List Fd) (f : Fd) : fsV (fs ++ [f]) = fsV fs ++ fdV f := by unfold fsV; rw [List.flatMap_append]; simp
theorem fsV_length (fs : List Fd) : (fsV fs).length = fs.length * 5 := by
  induction fs with
  | nil => rfl
  | cons f fs ih => unfold fsV at *; rw [List.flatMap_cons, List.length_append, ih]; simp [fdV]; omega
theorem fsV_at (fs : List Fd) (k : Nat) (h : k < fs.length) : (fsV fs)[5 * k]? = some (.int .i64 fs[k].1) ∧ (fsV fs)[5 * k + 1]? = some (.int .i64 fs[k].2.num) ∧ (fsV fs)[5 * k + 2]? = some (.bool fs[k].2.raw) ∧ (fsV fs)[5 * k + 3]? = some (.int .i64 fs[k].2.size) ∧ (fsV fs)[5 * k + 4]? = some (.string ⟨fs[k].2.body.toArray⟩) := by
  have e : fs = fs.take k ++ (fs[k] :: fs.drop (k + 1)) := by rw [List.getElem_cons_drop, List.take_append_drop]
  have hl : (fsV (fs.take k)).length = 5 * k := by rw [fsV_length, List.length_take]; omega
  have e2 : fsV fs = fsV (fs.take k) ++ (fdV fs[k] ++ fsV (fs.drop (k + 1))) := by
    conv => lhs; rw [e]
    unfold fsV; rw [List.flatMap_append, List.flatMap_cons]
  rw [e2]
  refine ⟨?_, ?_, ?_, ?_, ?_⟩ <;> (rw [List.getElem?_append_right (by omega), hl]; simp [fdV])
def mz (x : Int) : Nat := if x < 0 then 0 else (8001 - x).toNat
theorem mz_lt {x y : Int} (h0 : 0 ≤ x) (h1 : x ≤ 8000) (h : y < 0 ∨ x < y) : mz y < mz x := by
  unfold mz
  rw [if_neg (show ¬ x < 0 by omega)]
  split <;> omega
theorem findGo_neg (l : Bs) (n : Nat) {a : Int} (h : a < 0) : findGo l n a = [] := by
  cases n with
  | zero => rfl
  | succ n => unfold findGo; rw [if_neg (by omega)]
theorem findGo_pos (l : Bs) (n : Nat) {a : Int} (h : 0 ≤ a) : findGo l (n + 1) a = (a, blkAt l a) :: findGo l n (nextB l (endAt l a)) := by
  rw [findGo, if_pos h]
def ffRes (o : Option Blk) : Ending := .returned (.tuple #[bkV (o.getD bkZ), .bool o.isSome])
theorem firstF_take (fs : List Fd) (n : Int) (k : Nat) (hk : k < fs.length) (h : firstF (fs.take k) n = none) : firstF (fs.take (k + 1)) n = if fs[k].2.num = n then some fs[k].2 else none := by
  rw [List.take_succ_eq_append_getElem hk, firstF_snoc, h]; rfl
theorem firstF_found (fs : List Fd) (n : Int) (k : Nat) (hk : k < fs.length) (h : firstF (fs.take k) n = none) (he : fs[k].2.num = n) : firstF fs n = some fs[k].2 := by
  have e : fs = fs.take (k + 1) ++ fs.drop (k + 1) := (List.take_append_drop _ _).symm
  have h1 := firstF_take fs n k hk h
  rw [if_pos he] at h1
  unfold firstF at h1 ⊢
  conv => lhs; rw [e]
  rw [List.find?_append]
  cases hf : List.find? (fun f => decide (f.2.num = n)) (fs.take (k + 1)) with
  | none => rw [hf] at h1; cases h1
  | some x => rw [hf] at h1; simpa using h1
theorem Sl.cellK {w : World} {A : Option Addr} {n cap size : Nat} {cs : List Value} (h : Sl w A n cap size cs) {k : Nat} (hk : k < n) : ∃ g off, A = some ⟨g, off, none⟩ ∧ g < w.heap.size ∧ ∀ j u, cs[k * size + j]? = some u → w.cell? ⟨g, off + k * size + j, none⟩ = some u := by
  obtain ⟨_, _, _, h4⟩ := h
  obtain ⟨g, off, rfl, hg, hc⟩ := h4 (by omega)
  exact ⟨g, off, rfl, hg, fun j u hu => by rw [Nat.add_assoc]; exact hc _ _ hu⟩
end Go.Proofs.YtoogaalbnnlloaaGreatDoor
/- Walks: the blocks of a container, by both. -/
namespace Go.Proofs.YtoogaalbnnlloaaGreatDoor
open Go.RowKit
set_option linter.unusedVariables false
set_option linter.unusedSimpArgs false
set_option maxRecDepth 100000
attribute [local go_sem high] run_index_S binOp_eql_S binOp_neq_S append_S toList_S size_S run_slice_S run_slice_from_S run_slice_to_S wrap64_byteAt wrap64_byteAt_mul bits_or_bytes convU conv1_some convU2 conv2_some
theorem info_block : (Tryz.prog.info? 77).map (fun i => (i.zero, i.size, i.bytes)) = some (some (.agg #[.int .i64 0, .bool false, .int .i64 0, .string ⟨#[]⟩]), 4, 40) := by kernel_rfl
theorem own_Sl {w : World} {B : Nat} {e : TypeId} {A : Option Addr} {n cap size : Nat} {cs : List Value} (h : w.ownsRow B e size (.slice A n cap) n cs) : Sl w A n cap size cs := by
  obtain ⟨A', cap', h1, h2⟩ := Sl.of_own h
  injection h1 with e1 e2 e3
  subst e1 e3
  exact h2
def bkL (b : Blk) : List Value := [.int .i64 b.num, .bool b.raw, .int .i64 b.size, .string ⟨b.body.toArray⟩]
def bksV (bs : List Blk) : List Value := bs.flatMap bkL
theorem bksV_snoc (bs : List Blk) (b : Blk) : bksV (bs ++ [b]) = bksV bs ++ bkL b := by unfold bksV; rw [List.flatMap_append]; simp
theorem bksV_length (bs : List Blk) : (bksV bs).length = bs.length * 4 := by
  induction bs with
  | nil => rfl
  | cons f fs ih => unfold bksV at *; rw [List.flatMap_cons, List.length_append, ih]; simp [bkL]; omega
theorem bksV_at (bs : List Blk) (k : Nat) (h : k < bs.length) : (bksV bs)[k * 4 + 0]? = some (.int .i64 bs[k].num) ∧ (bksV bs)[k * 4 + 1]? = some (.bool bs[k].raw) ∧ (bksV bs)[k * 4 + 2]? = some (.int .i64 bs[k].size) ∧ (bksV bs)[k * 4 + 3]? = some (.string ⟨bs[k].body.toArray⟩) := by
  have e : bs = bs.take k ++ (bs[k] :: bs.drop (k + 1)) := by rw [List.getElem_cons_drop, List.take_append_drop]
  have hl : (bksV (bs.take k)).length = k * 4 := by rw [bksV_length, List.length_take]; omega
  have e2 : bksV bs = bksV (bs.take k) ++ (bkL bs[k] ++ bksV (bs.drop (k + 1))) := by
    conv => lhs; rw [e]
    unfold bksV; rw [List.flatMap_append, List.flatMap_cons]
  rw [e2]
  refine ⟨?_, ?_, ?_, ?_⟩ <;> (rw [List.getElem?_append_right (by omega), hl]; simp [bkL])
/-- It returns the blocks, or none, in a row of its own. -/
def BksRes (o : Option (List Blk)) (w : World) (e : Ending) (w' : World) : Prop :=
  ∃ A cap, e = .returned (.tuple #[.slice A (o.getD []).length cap, .bool o.isSome]) ∧ w'.ownsRow w.heap.size 77 4 (.slice A (o.getD []).length cap) (o.getD []).length (bksV (o.getD [])) ∧ Below w.heap.size w w'
theorem sizesOf_snoc (bs : List Blk) (b : Blk) : sizesOf (bs ++ [b]) = sizesOf bs + b.size := by unfold sizesOf; rw [List.foldl_append]; rfl
theorem Blk.ok_size {b : Blk} (h : b.ok = true) : 1 ≤ b.size ∧ b.size ≤ 64 ∧ 0 ≤ b.num ∧ b.num < 40 := by
  obtain ⟨n, r, s, d⟩ := b
  rw [Blk.ok_iff] at h
  exact ⟨h.2.2.1, h.2.2.2.1, h.1, h.2.1⟩
theorem sizesOf_bd (bs : List Blk) (h : ∀ b ∈ bs, b.ok = true) : 0 ≤ sizesOf bs ∧ sizesOf bs ≤ 64 * bs.length := by
  induction bs using snoc_ind with
  | h0 => simp [sizesOf]
  | h1 bs b ih =>
    rw [sizesOf_snoc]
    have h1 := ih (fun c hc => h c (by simp [hc]))
    have h2 := Blk.ok_size (h b (by simp))
    simp; omega
theorem blocksGo_end {l : Bs} {n : Nat} {a : Int} {acc : List Blk} (h : (l.length : Int) ≤ a) : blocksGo l (n + 1) a acc = if sizesOf acc ≤ 2000 then some acc else none := by rw [blocksGo, if_pos h]
theorem blocksGo_go {l : Bs} {n : Nat} {a : Int} {acc : List Blk} (h : ¬ (l.length : Int) ≤ a) (hp : parseOk l a = true) (hn : (blkAt l a).num = acc.length) : blocksGo l (n + 1) a acc = blocksGo l n (endAt l a) (acc ++ [blkAt l a]) := by
  rw [blocksGo, if_neg h, if_pos ⟨hp, hn⟩]
theorem blocksGo_bad {l : Bs} {n : Nat} {a : Int} {acc : List Blk} (h : ¬ (l.length : Int) ≤ a) (hp : ¬ (parseOk l a = true ∧ (blkAt l a).num = acc.length)) : blocksGo l (n + 1) a acc = none := by
  rw [blocksGo, if_neg h, if_neg hp]
set_option maxHeartbeats 2000000 in
theorem l5Blocks_any (l : Bs) (w : World) (hs : l.length ≤ 1500000) :
    Calls Tryz.prog 32 #[.string ⟨l.toArray⟩] w (BksRes (blocksB l) w) := by
  obtain ⟨i, hi, hz0, hz1, hz2⟩ := info_parts info_block
  have HG0 : Go.RowKit.Hid (blocksB l = blocksGo l (l.length + 1) 0 []) := rfl
  generalize blocksB l = G at *
  go_enter Tryz.func32, Tryz.ntmps32
  go_wp2
  have o0 := lit_own (base := w.heap.size) (size := 4) (Bk.new w #[] 77) (Nat.le_refl _)
  go_loopw [4, 5, 6] (fun a s b wr => ∃ (A : Option Addr) (cap m x : Nat) (acc : List Blk), a = .slice A acc.length cap ∧ s = .int .i64 (sizesOf acc) ∧ b = .int .i64 x ∧ x ≤ l.length ∧ l.length < m + x ∧ 10 * acc.length ≤ x ∧ Go.RowKit.Hid (∀ b ∈ acc, b.ok = true) ∧ Go.RowKit.Hid (G = blocksGo l m x acc) ∧ wr.ownsRow w.heap.size 77 4 (.slice A acc.length cap) acc.length (bksV acc) ∧ Below w.heap.size w wr) (fun _ _ b _ => l.length - (intOf b).toNat)
  case atStart => exact ⟨_, 0, l.length + 1, 0, [], rfl, rfl, rfl, by omega, by omega, by simp, fun b hb => (by cases hb), HG0, o0, (by repeat (first | (with_reducible exact Below.refl _ _) | (with_reducible assumption) | (with_reducible refine Below.drew ?_) | (with_reducible refine Below.alloc ?_ (by first | omega | (simp <;> omega)) _) | (with_reducible refine Below.setCell ?_ (by first | omega | (simp <;> omega)) _) | (with_reducible refine belowN ?_ _)))⟩
  case round =>
    obtain ⟨A, cap, m, x, acc, rfl, rfl, rfl, hx, hm, ha, HOK, HG, hown, hb⟩ := hrel
    have hws := hb.size
    clear HG0 o0
    have hsb := sizesOf_bd acc HOK.out
    obtain ⟨hsb1, hsb2⟩ := hsb
    have hsb3 : sizesOf acc ≤ 64 * 1500000 := by omega
    clear hsb2
    obtain ⟨m', rfl⟩ : ∃ m', m = m' + 1 := ⟨m - 1, by omega⟩
    by_cases hlt : x < l.length
    · have hxi : (x : Int) < l.length := by omega
      have hxn : ¬ (l.length : Int) ≤ (x : Int) := by omega
      by_cases hp : parseOk l x = true
      · have hpb := parse_bd hp
        obtain ⟨_, hpb1, hpb2, hbok⟩ := hpb
        have cP := fun w => sParse_yes l x w (by omega) (by omega) (by omega) hp
        have HGY : Go.RowKit.Hid ((blkAt l x).num = acc.length → G = blocksGo l m' (endAt l x) (acc ++ [blkAt l x])) := fun h => by rw [HG.out, blocksGo_go hxn hp h]
        have HGN : Go.RowKit.Hid (¬ (blkAt l x).num = acc.length → G = none) := fun h => by rw [HG.out, blocksGo_bad hxn (fun h2 => h h2.2)]
        clear hp HG hxn
        have hsz := Blk.ok_size hbok
        obtain ⟨hzz1, hzz2, _, _⟩ := hsz
        have HBOK := Go.Lib.hid hbok
        clear hbok
        generalize blkAt l x = b at *
        generalize endAt l x = ex at *
        obtain ⟨y, rfl⟩ := Int.eq_ofNat_of_zero_le (by omega : 0 ≤ ex)
        obtain ⟨n2, r, n4, D⟩ := b
        simp only at HGY HGN hzz1 hzz2
        have HS2 : Go.RowKit.Hid (sizesOf (acc ++ [(⟨n2, r, n4, D⟩ : Blk)]) = sizesOf acc + n4) := sizesOf_snoc acc ⟨n2, r, n4, D⟩
        generalize sizesOf acc = S at *
        by_cases hn : n2 = acc.length
        · have hd : (n2 != (acc.length : Int)) = false := by simpa using hn
          have HG2 := Go.Lib.hid (HGY.out hn)
          clear HGY HGN hn
          have hm1 : acc.length + 1 ≤ maxLen := by unfold maxLen; omega
          have hm2 : (acc.length + 1) * 40 ≤ 140737488355328 := by omega
          go_wp2_with fail
          refine (cP _).mono ?_
          rintro e w2 ⟨rfl, hb2⟩
          have y2 := hb2.size
          have k2 := Bk.new w2 (bkC ⟨n2, r, n4, D⟩) 77
          have o1 := owns_keep hown hb2
          have hk3 : ∀ k, (Value.slice A acc.length cap).ownBlock = some k → k ≠ w2.heap.size := fun k hk => by have := (o1.lt k hk).2; omega
          have o2 := (owns_keep hown hb2).alloc (.cells (bkC ⟨n2, r, n4, D⟩) 77)
          have g2 : Below w.heap.size w (w2.alloc (.cells (bkC ⟨n2, r, n4, D⟩) 77)) := by
            have h := hb.trans (hb2.mono (by omega)); exact (by repeat (first | (with_reducible exact Below.refl _ _) | (with_reducible assumption) | (with_reducible refine Below.drew ?_) | (with_reducible refine Below.alloc ?_ (by first | omega | (simp <;> omega)) _) | (with_reducible refine Below.setCell ?_ (by first | omega | (simp <;> omega)) _) | (with_reducible refine belowN ?_ _)))
          clear cP hb2 hb hown
          go_wp2_with (at_builtin; go_must (refine wpList_ap _ rfl _ _ 54 rfl (w.heap.size) 77 i _ 4 40 Tryz.underlying54 hi hz0 hz1 hz2 rfl (by omega) _ _ _ rfl (o2.alloc _) _ 1 1 [.int .i64 n2, .bool r, .int .i64 n4, .string ⟨D.toArray⟩] rfl (Sl.newAt (w2.alloc (.cells (bkC ⟨n2, r, n4, D⟩) 77)) #[.int .i64 n2, .bool r, .int .i64 n4, .string ⟨D.toArray⟩] _ 1 4 (by first | rfl | simp) (by simp) (by omega)) (by simp [Value.oneCell']) hm1 hm2 ?_ ?_))
          try (case refine_1 => first | omega | (simp <;> omega; done))
          intro A3 cap3 w3 o3 hg3 _
          have g3 := app_below g2 hg3 (by simp; omega) (fun k hk => by have := (o2.lt k hk).1; omega)
          have k3 := (k2.alloc (.cells #[.int .i64 n2, .bool r, .int .i64 n4, .string ⟨D.toArray⟩] 77)).grown hg3 hk3
          have X3 := k3.cell
          have o3' : w3.ownsRow w.heap.size 77 4 (.slice A3 (acc ++ [(⟨n2, r, n4, D⟩ : Blk)]).length cap3) (acc ++ [(⟨n2, r, n4, D⟩ : Blk)]).length (bksV (acc ++ [(⟨n2, r, n4, D⟩ : Blk)])) := by
            rw [bksV_snoc, List.length_append]; exact o3
          have hol : (acc ++ [(⟨n2, r, n4, D⟩ : Blk)]).length = acc.length + 1 := by simp
          have HOL := Go.Lib.hid hol
          have HOK2 : Go.RowKit.Hid (∀ b ∈ acc ++ [(⟨n2, r, n4, D⟩ : Blk)], b.ok = true) := fun b hb => by
            rcases List.mem_append.1 hb with h | h
            · exact HOK.out b h
            · simp at h; subst h; exact HBOK.out
          clear o3 hg3 o2 g2 hol k2 k3 hk3 o1
          go_wp2
          go_roundw
          case rel => exact ⟨A3, cap3, m', y, _, (by rw [HOL.out]), (by rw [HS2.out]), rfl, by omega, by omega, by rw [HOL.out]; omega, HOK2, HG2, o3', g3⟩
          case measure => simp [intOf]; omega
        · have hd : (n2 != (acc.length : Int)) = true := by simpa using hn
          have HG2 := Go.Lib.hid (HGN.out hn)
          clear HGY HGN hn
          go_wp2_with fail
          refine (cP _).mono ?_
          rintro e w2 ⟨rfl, hb2⟩
          have y2 := hb2.size
          have g2 := hb.trans (hb2.mono (by omega))
          clear cP hb2 hb hown
          go_wp2
          go_ret2
          have h := HG2.out
          subst h
          exact ⟨_, 0, rfl, lit_own (size := 4) (Bk.newAt _ _ _ (by first | rfl | simp)) (by first | omega | (simp; omega)), (by repeat (first | (with_reducible exact Below.refl _ _) | (with_reducible assumption) | (with_reducible refine Below.drew ?_) | (with_reducible refine Below.alloc ?_ (by first | omega | (simp <;> omega)) _) | (with_reducible refine Below.setCell ?_ (by first | omega | (simp <;> omega)) _) | (with_reducible refine belowN ?_ _)))⟩
      · have hp' : parseOk l x = false := by simpa using hp
        have cP := fun w => sParse_no l x w (by omega) (by omega) (by omega) hp'
        have HG2 : Go.RowKit.Hid (G = none) := by show _ = _; rw [HG.out, blocksGo_bad hxn (fun h => hp h.1)]
        clear hp hp' HG hxn
        generalize sizesOf acc = S at *
        go_wp2_with fail
        refine (cP _).mono ?_
        rintro e w2 ⟨rfl, hb2⟩
        have y2 := hb2.size
        have g2 := hb.trans (hb2.mono (by omega))
        clear cP hb2 hb hown
        go_wp2
        go_ret2
        have h := HG2.out
        subst h
        exact ⟨_, 0, rfl, lit_own (size := 4) (Bk.newAt _ _ _ (by first | rfl | simp)) (by first | omega | (simp; omega)), (by repeat (first | (with_reducible exact Below.refl _ _) | (with_reducible assumption) | (with_reducible refine Below.drew ?_) | (with_reducible refine Below.alloc ?_ (by first | omega | (simp <;> omega)) _) | (with_reducible refine Below.setCell ?_ (by first | omega | (simp <;> omega)) _) | (with_reducible refine belowN ?_ _)))⟩
    · have hxi : ¬ (x : Int) < l.length := by omega
      have HGE : Go.RowKit.Hid (G = if sizesOf acc ≤ 2000 then some acc else none) := by show _ = _; rw [HG.out, blocksGo_end (by omega)]
      clear HG
      by_cases hz : sizesOf acc ≤ 2000
      · have hz' : ¬ 2000 < sizesOf acc := by omega
        have HG2 : Go.RowKit.Hid (G = some acc) := by show _ = _; rw [HGE.out, if_pos hz]
        clear HGE
        go_wp2
        go_ret2
        have h := HG2.out
        subst h
        exact ⟨A, cap, rfl, hown, hb⟩
      · have hz' : 2000 < sizesOf acc := by omega
        have HG2 : Go.RowKit.Hid (G = none) := by show _ = _; rw [HGE.out, if_neg hz]
        clear HGE
        go_wp2
        go_ret2
        have h := HG2.out
        subst h
        exact ⟨_, 0, rfl, lit_own (size := 4) (Bk.newAt _ _ _ (by first | rfl | simp)) (by first | omega | (simp; omega)), (by repeat (first | (with_reducible exact Below.refl _ _) | (with_reducible assumption) | (with_reducible refine Below.drew ?_) | (with_reducible refine Below.alloc ?_ (by first | omega | (simp <;> omega)) _) | (with_reducible refine Below.setCell ?_ (by first | omega | (simp <;> omega)) _) | (with_reducible refine belowN ?_ _)))⟩
end Go.Proofs.YtoogaalbnnlloaaGreatDoor
