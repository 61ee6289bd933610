import Derived.Test.YtfonokhafdflcaaGreatGP3
import Derived.Test.YtfonokhafdflcaaGreatGB
import Derived.Test.YtfonokhafdflcaaGreatFo
import Derived.Test.YtfonokhafdflcaaGreatShelf
import Derived.Shelf.Strings.BuilderK
import Derived.Lib.BufferKept
/- Walks: the bytes of a lost block, by the program. -/
namespace Go.Proofs.YtfonokhafdflcaaGreat
open Go.RowKit
set_option linter.unusedVariables false
set_option linter.unusedSimpArgs false
set_option maxRecDepth 100000
attribute [local go_sem high] run_index_S binOp_eql_S binOp_neq_S append_S toList_S size_S run_slice_S run_slice_from_S run_slice_to_S wrap64_byteAt wrap64_byteAt_mul bits_or_bytes convU conv1_some convU2 conv2_some
def txOf (fs : List Fd) (i : Int) : Bs := match firstF fs i with
  | some b => b.text
  | none => []
theorem txOf_some {fs : List Fd} {i : Int} {b : Blk} (h : firstF fs i = some b) : txOf fs i = b.text := by unfold txOf; rw [h]
theorem txOf_none {fs : List Fd} {i : Int} (h : firstF fs i = none) : txOf fs i = [] := by unfold txOf; rw [h]
theorem text_bd {b : Blk} (h : b.ok = true) : 10 ≤ b.text.length ∧ b.text.length ≤ 74 := by
  have := Blk.ok_len h
  have := b.text_len
  omega
theorem txOf_bd {fs : List Fd} (ho : AllOk fs) (i : Int) : (txOf fs i).length ≤ 74 := by
  unfold txOf
  split
  · rename_i b hb
    exact (text_bd (ho _ _ hb)).2
  · simp
theorem foundTo_bd {fs : List Fd} (ho : AllOk fs) (a : Int) : ∀ k, ∀ t ∈ foundTo fs a k, 10 ≤ t.length ∧ t.length ≤ 74
  | 0, t, h => by cases h
  | k + 1, t, h => by
    unfold foundTo at h
    rcases List.mem_append.1 h with h | h
    · exact foundTo_bd ho a k t h
    · split at h
      · rename_i b hb
        simp at h
        subst h
        exact text_bd (ho _ _ hb)
      · cases h
theorem rebuild_len {ls : List Bs} {p t : Bs} (h : rebuildT ls p = some t) : t.length ≤ p.length := by
  unfold rebuildT at h
  split at h
  · rename_i hc
    split at h
    · injection h with h
      subst h
      rw [List.length_take, xorT_length, texts_long p ls hc.2.2]; omega
    · cases h
  · cases h
theorem built_none {ls : List Bs} {p : Bs} {n : Int} (h : rebuildT ls p = none) : builtOf ls p n = none := by unfold builtOf; rw [h]
theorem built_some {ls : List Bs} {p t : Bs} {n : Int} (h : rebuildT ls p = some t) : builtOf ls p n = if parseOk t 0 = true ∧ (blkAt t 0).num = n ∧ endAt t 0 = t.length then some t else none := by unfold builtOf; rw [h]
/-- The result of a rebuilt block: its bytes, if there are any; else any bytes, and false. -/
def rkRes (o : Option Bs) (e : Ending) : Prop := ∃ t : Bs, e = .returned (.tuple #[sv t, .bool o.isSome]) ∧ ∀ t', o = some t' → t' = t
theorem rk_none {o : Option Bs} (h : o = none) (t : Bs) : rkRes o (.returned (.tuple #[sv t, .bool false])) := ⟨t, by rw [h]; rfl, fun t' h' => by rw [h] at h'; cases h'⟩
theorem rk_some {o : Option Bs} {t : Bs} (h : o = some t) : rkRes o (.returned (.tuple #[sv t, .bool true])) := ⟨t, by rw [h]; rfl, fun t' h' => by rw [h] at h'; injection h' with h'; exact h'.symm⟩
theorem lost_more {fs : List Fd} {a : Int} {k j : Nat} {n : Int} (hj : j < k) (h : firstF fs (a + j) = none) (hn : a + (j : Int) ≠ n) : lostTo fs a k ≠ [n] := by
  intro hc
  have := lostTo_of fs a k j hj h
  rw [hc] at this
  simp at this
  exact hn this
theorem txtN_lost {fs : List Fd} {p : Bs} {a : Int} {k : Nat} {n : Int} (h : firstF fs n = none) : txtN fs p a k n = if lostTo fs a k = [n] then builtOf (foundTo fs a k) p n else none := by unfold txtN; rw [h]
theorem ownsRow_nilA (w : World) (base : Nat) (e : TypeId) (size : Nat) : w.ownsRow base e size (.slice none 0 0) 0 [] := World.ownsRow_nil w base e size
set_option maxHeartbeats 2000000 in
theorem rebuildBlock_any (fs : List Fd) (p : Bs) (a k n c : Nat) (A : Option Addr) (cap : Nat) (w : World) (ho : AllOk fs) (hs : Sl w A c cap 1 ((List.range c).map fun i : Nat => sv (txOf fs (i : Int)))) (hc : c ≤ 100) (hk : a + k ≤ c) (hn0 : a ≤ n) (hn : n < a + k) (hf : firstF fs (n : Int) = none) (hp : p.length ≤ 1500000) :
    Calls Tryz.prog 44 #[.slice A c cap, .int .i64 (a : Int), .int .i64 ((a + k : Nat) : Int), .int .i64 (n : Int), sv p] w fun e w' => rkRes (txtN fs p a k n) e ∧ Below w.heap.size w w' := by
  obtain ⟨i, hi, hz0, hz1, hz2⟩ := info_parts info_str
  have hT := Go.Lib.hid (txtN_lost (p := p) (a := (a : Int)) (k := k) hf)
  have HO := Go.Lib.hid ho
  have HS : Go.RowKit.Hid (∀ wr, Below w.heap.size w wr → Sl wr A c cap 1 ((List.range c).map fun i : Nat => sv (txOf fs (i : Int)))) := fun wr h => hs.below h
  have hcap := hs.1
  clear hs ho
  generalize txtN fs p a k n = G at *
  obtain ⟨m, hm⟩ : ∃ m, a + k = m := ⟨_, rfl⟩
  rw [hm] at hk hn ⊢
  go_enter Tryz.func44, Tryz.ntmps44
  go_wp2
  go_loopw [12, 13] (fun v x wr => ∃ (A1 : Option Addr) (c1 j : Nat), v = .slice A1 (foundTo fs a j).length c1 ∧ x = .int .i64 ((a + j : Nat) : Int) ∧ j ≤ k ∧ Go.RowKit.Hid (lostTo fs a j = if n < a + j then [(n : Int)] else []) ∧ wr.ownsRow w.heap.size 9 1 v (foundTo fs a j).length ((foundTo fs a j).map sv) ∧ Below w.heap.size w wr) (fun _ x _ => m - (intOf x).toNat)
  case atStart => exact ⟨none, 0, 0, rfl, rfl, by omega, by show _ = _; rw [if_neg (by omega)]; rfl, ownsRow_nilA _ _ _ _, (by repeat (first | (with_reducible exact Below.refl _ _) | (with_reducible assumption) | (with_reducible refine Below.drew ?_) | (with_reducible refine Below.alloc ?_ (by first | omega | (simp <;> omega)) _) | (with_reducible refine Below.setCell ?_ (by first | omega | (simp <;> omega)) _) | (with_reducible refine belowN ?_ _)))⟩
  case round =>
    obtain ⟨A1, c1, j, rfl, rfl, hj, HL, o1, hb⟩ := hrel
    have hz := hb.size
    have hfl := foundTo_length fs a j
    by_cases hlt : j < k
    · have hki : ((a + j : Nat) : Int) < (m : Int) := by omega
      have hjc : a + j < c := by omega
      obtain ⟨g, off, u, rfl, hg, hu, hcl⟩ := Sl.at1 (HS.out wr hb) hjc
      rw [List.getElem?_map, List.getElem?_range hjc] at hu
      simp only [Option.map_some, Option.some.injEq] at hu
      subst hu
      have hcast : (((a + j : Nat) : Int)) = (a : Int) + (j : Int) := by omega
      by_cases he : a + j = n
      · have hd : (((a + j : Nat) : Int) == (n : Int)) = true := by simp; omega
        have hst := lostTo_step_none (fs := fs) (a := (a : Int)) (j := j) (by rw [← hcast, he]; exact hf)
        have HF2 := Go.Lib.hid hst.2
        have HL2 : Go.RowKit.Hid (lostTo fs a (j + 1) = if n < a + (j + 1) then [(n : Int)] else []) := by
          show _ = _
          rw [hst.1, HL.out, if_neg (by omega), if_pos (by omega), ← hcast, he]; rfl
        clear hst he
        go_wp2
        go_roundw
        case rel => exact ⟨A1, c1, j + 1, (by rw [HF2.out]), by go_num, by omega, HL2, (by rw [HF2.out]; exact o1), hb⟩
        case measure => simp [intOf]; omega
      · have hd : (((a + j : Nat) : Int) == (n : Int)) = false := by simp; omega
        rw [hcast] at hcl
        cases hff : firstF fs ((a : Int) + (j : Int)) with
        | none =>
          have hG : Go.RowKit.Hid (G = none) := by
            show _ = _
            rw [hT.out, if_neg (lost_more hlt hff (by omega))]
          rw [txOf_none hff] at hcl
          clear hff
          go_wp2
          go_ret2
          exact ⟨rk_none hG.out [], hb⟩
        | some b =>
          have hst := lostTo_step_some (fs := fs) (a := (a : Int)) (j := j) hff
          have HF2 := Go.Lib.hid hst.2
          have HL2 : Go.RowKit.Hid (lostTo fs a (j + 1) = if n < a + (j + 1) then [(n : Int)] else []) := by
            show _ = _
            rw [hst.1, HL.out]
            by_cases h : n < a + j
            · rw [if_pos h, if_pos (by omega)]
            · rw [if_neg h, if_neg (by omega)]
          have htl := text_bd (HO.out _ _ hff)
          rw [txOf_some hff] at hcl
          clear hst hff
          generalize b.text = t at *
          generalize foundTo fs (a : Int) j = F at *
          have hte : (decide (t = [])) = false := by
            cases t with
            | nil => simp at htl
            | cons x y => rfl
          have hte2 : (t == []) = false := by
            cases t with
            | nil => simp at htl
            | cons x y => rfl
          have hm1 : F.length + 1 ≤ maxLen := by unfold maxLen; omega
          have hm2 : (F.length + 1) * 16 ≤ 140737488355328 := by omega
          go_wp2_with (at_builtin; go_must (refine wpList_ap _ rfl _ _ 50 rfl (w.heap.size) 9 i _ 1 16 Tryz.underlying50 hi hz0 hz1 hz2 rfl (by omega) _ _ _ rfl (o1.alloc _) _ 1 1 [sv t] rfl (Sl.newAt wr #[sv t] _ 1 1 (by first | rfl | simp) (by simp) (by omega)) (by simp [Value.oneCell']) hm1 hm2 ?_ ?_))
          try (case refine_1 => first | omega | (simp <;> omega; done))
          intro A3 c3 w3 o3 hg3 _
          have g3 := app_below hb hg3 (by omega) (fun k hk => by have := (o1.lt k hk).1; omega)
          have O3 := Go.Lib.hid o3
          clear hg3 o3 o1
          go_wp2
          go_roundw
          case rel => exact ⟨A3, c3, j + 1, (by rw [HF2.out, List.length_append]; rfl), by go_num, by omega, HL2, (by rw [HF2.out, List.length_append, List.map_append]; exact O3.out), g3⟩
          case measure => simp [intOf]; omega
    · have hki : ¬ ((a + j : Nat) : Int) < (m : Int) := by omega
      have hkk : j = k := by omega
      subst hkk
      have HL2 : Go.RowKit.Hid (G = builtOf (foundTo fs a j) p n) := by
        show _ = _
        rw [hT.out, if_pos (by rw [HL.out, if_pos (by omega)])]
      have htl : ∀ t ∈ foundTo fs (a : Int) j, t.length ≤ 1500000 := by
        intro t ht
        have := foundTo_bd HO.out a j t ht
        omega
      have S1 := own_Sl o1
      have HR : Go.RowKit.Hid (∀ w A cap, Sl w A (foundTo fs (a : Int) j).length cap 1 ((foundTo fs (a : Int) j).map sv) → Calls Tryz.prog 67 #[.slice A (foundTo fs (a : Int) j).length cap, sv p] w fun e w' => e = rbRes (rebuildT (foundTo fs (a : Int) j) p) ∧ Below w.heap.size w w') := fun w A cap h => rebuildText_any _ p A cap w h (by omega) hp htl
      clear htl hT
      generalize foundTo fs (a : Int) j = F at *
      cases hrb : rebuildT F p with
      | none =>
        have HG := Go.Lib.hid (HL2.out.trans (built_none hrb))
        rw [hrb] at HR
        clear HL2 hrb
        go_wp2_with fail
        refine (HR.out _ _ _ S1).mono ?_
        rintro e w2 ⟨rfl, hb2⟩
        have z2 := hb2.size
        have g2 := hb.trans (hb2.mono (by omega))
        unfold rbRes
        go_wp2
        go_ret2
        exact ⟨rk_none HG.out [], g2⟩
      | some t =>
        have HG := Go.Lib.hid (HL2.out.trans (built_some hrb))
        have htl := rebuild_len hrb
        rw [hrb] at HR
        clear HL2 hrb
        go_wp2_with fail
        refine (HR.out _ _ _ S1).mono ?_
        rintro e w2 ⟨rfl, hb2⟩
        have z2 := hb2.size
        have g2 := hb.trans (hb2.mono (by omega))
        unfold rbRes
        clear hb2 HR
        by_cases hp1 : parseOk t 0 = true
        · have cP := fun w => iParse_yes t 0 w (by omega) (by omega) (by omega) hp1
          have hpb := parse_bd hp1
          have hsz := Blk.ok_size hpb.2.2.2
          have HGG : Go.RowKit.Hid (G = if (blkAt t 0).num = n ∧ endAt t 0 = t.length then some t else none) := by
            show _ = _
            rw [HG.out]
            simp only [hp1, true_and]
          clear HG hp1
          generalize blkAt t 0 = b at *
          generalize endAt t 0 = x at *
          obtain ⟨n2, r, n4, D⟩ := b
          simp only at hsz HGG
          go_wp2_with fail
          refine (cP _).mono ?_
          rintro e w3 ⟨rfl, hb3⟩
          have z3 := hb3.size
          have g3 := g2.trans (hb3.mono (by omega))
          clear cP hb3
          have hX := (Bk.new w3 (bkC ⟨n2, r, n4, D⟩) 38).cell
          have hF := (Bk.new w3 (bkC ⟨n2, r, n4, D⟩) 38).free
          go_wp2_with fail
          by_cases hxe : x = t.length
          · have hd1 : (x == (t.length : Int)) = true := by simpa using hxe
            by_cases hne : n2 = n
            · have hd2 : (n2 == (n : Int)) = true := by simpa using hne
              have HG2 := Go.Lib.hid (HGG.out.trans (if_pos ⟨hne, hxe⟩))
              clear hne hxe HGG
              go_quiet (fail)
              go_wp2
              go_ret2
              exact ⟨rk_some HG2.out, (by repeat (first | (with_reducible exact Below.refl _ _) | (with_reducible assumption) | (with_reducible refine Below.drew ?_) | (with_reducible refine Below.alloc ?_ (by first | omega | (simp <;> omega)) _) | (with_reducible refine Below.setCell ?_ (by first | omega | (simp <;> omega)) _) | (with_reducible refine belowN ?_ _)))⟩
            · have hd2 : (n2 == (n : Int)) = false := by simpa using hne
              have HG2 := Go.Lib.hid (HGG.out.trans (if_neg (fun h => hne h.1)))
              clear hne hxe HGG
              go_quiet (fail)
              go_wp2
              go_ret2
              exact ⟨rk_none HG2.out t, (by repeat (first | (with_reducible exact Below.refl _ _) | (with_reducible assumption) | (with_reducible refine Below.drew ?_) | (with_reducible refine Below.alloc ?_ (by first | omega | (simp <;> omega)) _) | (with_reducible refine Below.setCell ?_ (by first | omega | (simp <;> omega)) _) | (with_reducible refine belowN ?_ _)))⟩
          · have hd1 : (x == (t.length : Int)) = false := by simpa using hxe
            have HG2 := Go.Lib.hid (HGG.out.trans (if_neg (fun h => hxe h.2)))
            clear hxe HGG
            go_quiet (fail)
            go_wp2
            go_ret2
            exact ⟨rk_none HG2.out t, (by repeat (first | (with_reducible exact Below.refl _ _) | (with_reducible assumption) | (with_reducible refine Below.drew ?_) | (with_reducible refine Below.alloc ?_ (by first | omega | (simp <;> omega)) _) | (with_reducible refine Below.setCell ?_ (by first | omega | (simp <;> omega)) _) | (with_reducible refine belowN ?_ _)))⟩
        · have cP := fun w => iParse_no t 0 w (by omega) (by omega) (by omega) (by simpa using hp1)
          have HG2 := Go.Lib.hid (HG.out.trans (if_neg (fun h => hp1 h.1)))
          clear hp1 HG
          go_wp2_with fail
          refine (cP _).mono ?_
          rintro e w3 ⟨rfl, hb3⟩
          have z3 := hb3.size
          have g3 := g2.trans (hb3.mono (by omega))
          clear cP hb3
          have hX := (Bk.new w3 bkZC 38).cell
          have hF := (Bk.new w3 bkZC 38).free
          go_wp2_with fail
          go_quiet (fail)
          go_wp2
          go_ret2
          exact ⟨rk_none HG2.out t, (by repeat (first | (with_reducible exact Below.refl _ _) | (with_reducible assumption) | (with_reducible refine Below.drew ?_) | (with_reducible refine Below.alloc ?_ (by first | omega | (simp <;> omega)) _) | (with_reducible refine Below.setCell ?_ (by first | omega | (simp <;> omega)) _) | (with_reducible refine belowN ?_ _)))⟩
end Go.Proofs.YtfonokhafdflcaaGreat
/- Walks: the library's builder: its check and its append of a string. -/
namespace Go.Proofs.YtfonokhafdflcaaGreat
open Go.RowKit
set_option linter.unusedVariables false
set_option linter.unusedSimpArgs false
set_option maxRecDepth 100000
attribute [local go_sem high] run_index_S binOp_eql_S binOp_neq_S append_S toList_S size_S run_slice_S run_slice_from_S run_slice_to_S wrap64_byteAt wrap64_byteAt_mul bits_or_bytes convU conv1_some convU2 conv2_some
theorem bld_size : (Tryz.prog.info? 88).map (·.size) = some 2 := by kernel_rfl
theorem bld_lies : liesAt Tryz.prog Tryz.prog.depth 88 (2 / Tryz.prog.cellsOf 88) 0 88 1 = true := by kernel_rfl
theorem bld_keep {w w' : World} {T e : TypeId} {B b : Nat} {p : Value} {bs : List Value} (h : Go.Lib.BuilderAtF T e B b p bs w) (hb : Below w.heap.size w w') : Go.Lib.BuilderAtF T e B b p bs w' := by
  have hlt := h.lt
  obtain ⟨hB, v, h1, ⟨ho, ho2⟩, hne⟩ := h
  refine ⟨hB, v, (hb.block b hlt).trans h1, ⟨ho, ?_⟩, hne⟩
  rcases ho2 with ho2 | ⟨g, cap, cur, fz, rfl, hg, hh, rest⟩
  · exact .inl ho2
  · have hgl : g < w.heap.size := by
      rcases Nat.lt_or_ge g w.heap.size with h' | h'
      · exact h'
      · rw [Array.getElem?_eq_none h'] at hh; cases hh
    exact .inr ⟨g, cap, cur, fz, rfl, hg, (hb.block g hgl).trans hh, rest⟩
theorem bld_keepI {w w' : World} {T e : TypeId} {B b : Nat} {bs : List Value} (h : Go.Lib.IsBuilderF T e B b bs w) (hb : Below w.heap.size w w') : Go.Lib.IsBuilderF T e B b bs w' :=
  h.elim (fun h => .inl (bld_keep h hb)) (fun h => .inr (bld_keep h hb))
/-- A row of other things is as it was. -/
theorem others_row {w w' : World} {e e2 : TypeId} {b : Nat} {B s n : Nat} {v : Value} {xs : List Value} (h : Go.Lib.OthersKept e (some b) w w') (hr : w.ownsRow B e2 s v n xs) (hne : e2 ≠ e) (hb : v.ownBlock ≠ some b) : w'.ownsRow B e2 s v n xs := by
  obtain ⟨h1, h2⟩ := hr
  refine ⟨h1, ?_⟩
  rcases h2 with h2 | ⟨g, cap, cur, rfl, hg, hh, rest⟩
  · exact .inl h2
  · refine .inr ⟨g, cap, cur, rfl, hg, h g _ hh hb (fun c fz hc => ?_), rest⟩
    injection hc with _ hc
    exact hne hc
set_option maxHeartbeats 1000000 in
theorem bld_used (b : Nat) (w : World) (h0 : w.cell? ⟨b, 0, none⟩ = some (.pointer (some ⟨b, 0, none⟩))) :
    Calls Tryz.prog 64 #[.pointer (some ⟨b, 0, none⟩)] w fun e w' => e = .returned (.tuple #[]) ∧ w' = w := by
  obtain ⟨j, hj, _⟩ := Option.map_eq_some_iff.1 bld_size
  go_enter Tryz.func64, Tryz.ntmps64
  go_wp2
  rw [Go.Lib.run_neq_ptr_same w _ Tryz.underlying86 hj]
  go_wp2
  go_end0
  exact ⟨rfl, rfl⟩
set_option maxHeartbeats 1000000 in
theorem bld_fresh (b : Nat) (w : World) (h0 : w.cell? ⟨b, 0, none⟩ = some (.pointer none)) (hsh : w.shape? b = some (88, 2)) (hfz : w.frozen? ⟨b, 0, none⟩ = false) :
    Calls Tryz.prog 64 #[.pointer (some ⟨b, 0, none⟩)] w fun e w' => e = .returned (.tuple #[]) ∧ w' = w.setCell ⟨b, 0, none⟩ (.pointer (some ⟨b, 0, none⟩)) := by
  obtain ⟨j, hj, hjs⟩ := Option.map_eq_some_iff.1 bld_size
  go_enter Tryz.func64, Tryz.ntmps64
  go_wp2
  rw [Go.Lib.run_to_unsafe w ⟨b, 0, none⟩ Tryz.underlying86 Tryz.underlying138 hj (by rw [hjs]; decide) hsh (Nat.zero_lt_succ 1)]
  simp only [Result.andThen]
  rw [Oper.upon_value]
  go_wp2
  rw [run_callFunc_extern Tryz.func85 (by kernel_rfl) (by kernel_rfl) (by kernel_rfl) (e := Extern.AbiNoEscape.same) (by kernel_rfl)]
  rw [Go.Lib.run_noEscape]
  simp only [Result.andThen]
  rw [Oper.upon_value]
  go_wp2
  rw [Go.Lib.run_from_unsafe w ⟨b, 0, none⟩ Tryz.underlying138 Tryz.underlying86 hj hsh bld_lies]
  simp only [Result.andThen]
  rw [Oper.upon_value]
  go_wp2
  go_end0
  exact ⟨rfl, rfl⟩
theorem bld_check (B b : Nat) (bs : List Value) (w : World) (h : Go.Lib.IsBuilderF 88 5 B b bs w) :
    Calls Tryz.prog 64 #[.pointer (some ⟨b, 0, none⟩)] w fun e w' => e = .returned (.tuple #[]) ∧ (Go.Lib.BuilderAtF 88 5 B b (.pointer (some ⟨b, 0, none⟩)) bs w' ∧ Below B w w' ∧ Go.Lib.OthersKept 5 (some b) w w') := by
  rcases h with h | h
  · refine (bld_fresh b w h.cell0 h.shape h.frozen0).mono ?_
    rintro e w' ⟨rfl, rfl⟩
    exact ⟨rfl, h.used _, (Below.refl B w).setCell (p := ⟨b, 0, none⟩) h.1 _, (Go.Lib.OthersKept.refl _ _ w).setCell ⟨b, 0, none⟩ rfl _⟩
  · refine (bld_used b w h.cell0).mono ?_
    rintro e w' ⟨rfl, rfl⟩
    exact ⟨rfl, h, Below.refl B _, Go.Lib.OthersKept.refl _ _ _⟩
set_option maxHeartbeats 2000000 in
theorem bld_write (B b : Nat) (bs : List Value) (l : Bs) (w : World) (h : Go.Lib.IsBuilderF 88 5 B b bs w) (hlen : bs.length + l.length ≤ 140737488355328) (hBw : B ≤ w.heap.size) :
    Calls Tryz.prog 40 #[.pointer (some ⟨b, 0, none⟩), sv l] w fun e w' => e = .returned (.tuple #[.int .i64 (l.length : Int), .nilIface]) ∧ (Go.Lib.BuilderAtF 88 5 B b (.pointer (some ⟨b, 0, none⟩)) (bs ++ l.map u8v) w' ∧ Below B w w' ∧ Go.Lib.OthersKept 5 (some b) w w') := by
  obtain ⟨i0, hi, hz0, hz1, hz2⟩ := info_parts info_u8
  have hsz : (ByteArray.mk l.toArray).size = l.length := by simp [ByteArray.size]
  have hsc : Go.Lib.strCells ⟨l.toArray⟩ = l.map u8v := by simp [Go.Lib.strCells]
  go_enter Tryz.func40, Tryz.ntmps40
  go_wp2_with (go_at_call 64; refine (bld_check B b bs _ h).mono ?_)
  rintro e w1 ⟨rfl, h1, hb1, hk1⟩
  obtain ⟨hB, v, hbk, hown, hne⟩ := h1
  have c0 : w1.cell? ⟨b, 0, none⟩ = some (.pointer (some ⟨b, 0, none⟩)) := by rw [Go.Lib.cell_of_heap hbk]; rfl
  have c1 : w1.cell? ⟨b, 1, none⟩ = some v := by rw [Go.Lib.cell_of_heap hbk]; rfl
  go_wp2_with (at_builtin; refine Go.Lib.wpList_append_own_stringF _ rfl _ _ 22 9 rfl B 5 i0 Tryz.underlying22 Tryz.underlying9 hi hz0 hz1 hz2 _ _ _ rfl hown ⟨l.toArray⟩ rfl ?c3 ?c4 ?c5 ?_)
  case c3 => rw [hsz]; unfold maxLen; omega
  case c4 => rw [hsz]; omega
  case c5 => have := hb1.size; omega
  intro v' w2 hown' hgrow _
  have hlt : b < w1.heap.size := by
    rcases Nat.lt_or_ge b w1.heap.size with h' | h'
    · exact h'
    · simp [Array.getElem?_eq_none h'] at hbk
  have hb2 : w2.heap[b]? = some (.cells #[.pointer (some ⟨b, 0, none⟩), v] 88 (0, 0)) := by
    rw [hgrow.block b hlt (fun e => hne e.symm)]
    exact hbk
  have d0 : w2.cell? ⟨b, 0, none⟩ = some (.pointer (some ⟨b, 0, none⟩)) := by rw [Go.Lib.cell_of_heap hb2]; rfl
  have d1 : w2.cell? ⟨b, 1, none⟩ = some v := by rw [Go.Lib.cell_of_heap hb2]; rfl
  have f1 : w2.frozen? ⟨b, 1, none⟩ = false := Go.Lib.frozen_of_heap hb2 1
  obtain ⟨ao, n', cap, rfl⟩ : ∃ ao n' cap, v' = .slice ao n' cap := by
    rcases hown'.2 with ⟨hv, _⟩ | ⟨g, cap, cur, fz, hv, _⟩
    · exact ⟨_, _, _, hv⟩
    · exact ⟨_, _, _, hv⟩
  go_wp2
  go_ret2
  refine ⟨?_, ?_, ?_, (hk1.grown hgrow (Go.Lib.ownsRowF_kind hown)).setCell ⟨b, 1, none⟩ rfl _⟩
  · first | rfl | simp [hsz]
  · exact Go.Lib.BuilderAtF.put hB hb2 (bs' := bs ++ l.map u8v) (by simpa using hown') (by decide)
  · exact (hb1.grown hgrow (by have := hb1.size; omega) (fun k hk => (hown.lt k hk).1)).setCell (p := ⟨b, 1, none⟩) hB _
theorem bld_newR {w : World} {B : Nat} (hB : B ≤ w.heap.size) : Go.Lib.IsBuilderF 88 5 B w.heap.size [] (w.alloc (.cells #[.pointer none, .slice none 0 0] 88)) :=
  .inl ⟨hB, .slice none 0 0, heap_alloc_new w _, ⟨by simp, .inl ⟨rfl, rfl⟩⟩, by simp [Value.ownBlock]⟩
end Go.Proofs.YtfonokhafdflcaaGreat
