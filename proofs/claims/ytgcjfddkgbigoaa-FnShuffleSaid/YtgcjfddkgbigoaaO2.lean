/- Walks: the blocks of a container in another order, by the reference. -/
import Derived.Test.YtgcjfddkgbigoaaO1
import Derived.Test.YtgcjfddkgbigoaaGD2
import Derived.Test.YtgcjfddkgbigoaaE9
namespace Go.Proofs.Ytgcjfddkgbigoaa
open Go.RowKit
set_option linter.unusedVariables false
set_option linter.unusedSimpArgs false
set_option maxRecDepth 100000
attribute [local go_sem high] run_index_S binOp_eql_S binOp_neq_S append_S toList_S size_S run_slice_S run_slice_from_S run_slice_to_S wrap64_byteAt wrap64_byteAt_mul bits_or_bytes convU conv1_some convU2 conv2_some
def shufO (l : Bs) (o : List Int) : Option Bs := match blocksB l with
  | some bs => if OrdOk o ∧ o.length = bs.length then some (catT (pickB bs o)) else none
  | none => none
theorem shufO_none {l : Bs} {o : List Int} (h : blocksB l = none) : obR (shufO l o) = .returned (.tuple #[sv [], .bool false]) := by unfold shufO; rw [h]; rfl
theorem shufO_bad {l : Bs} {o : List Int} {bs : List Blk} (h : blocksB l = some bs) (h2 : ¬ (OrdOk o ∧ o.length = bs.length)) : obR (shufO l o) = .returned (.tuple #[sv [], .bool false]) := by unfold shufO; rw [h]; simp only [if_neg h2]; rfl
theorem shufO_some {l : Bs} {o : List Int} {bs : List Blk} (h : blocksB l = some bs) (h1 : OrdOk o) (h2 : o.length = bs.length) : obR (shufO l o) = .returned (.tuple #[sv (catT (pickB bs o)), .bool true]) := by unfold shufO; rw [h]; simp only [if_pos (And.intro h1 h2)]; rfl
theorem pick_take {bs : List Blk} {o : List Int} {k m : Nat} (hk : k < o.length) (hm : o[k] = (m : Int)) (hb : m < bs.length) : catT (pickB bs (o.take (k + 1))) = catT (pickB bs (o.take k)) ++ bs[m].text := by
  unfold pickB
  rw [List.take_succ_eq_append_getElem hk, List.map_append, catT_app, hm]
  simp [catT, List.getElem?_eq_getElem hb]
theorem pick_len {bs : List Blk} {o : List Int} (hok : ∀ b ∈ bs, b.ok = true) (hr : ∀ x ∈ o, 0 ≤ x ∧ x < (bs.length : Int)) : (catT (pickB bs o)).length ≤ 74 * o.length := by
  have h := catT_le (pickB bs o) (fun b hb => by
    unfold pickB at hb
    obtain ⟨x, hx, rfl⟩ := List.mem_map.1 hb
    have := hr x hx
    rw [List.getElem?_eq_getElem (by omega)]
    exact hok _ (List.getElem_mem _))
  have e : (pickB bs o).length = o.length := by simp [pickB]
  omega
set_option maxHeartbeats 1000000 in
theorem sShuffle_any (l : Bs) (o : List Int) (A : Option Addr) (cap : Nat) (w : World) (hl : l.length ≤ 1500000) (hs : SlI w A cap o) (ho : o.length ≤ 100000) :
    Calls Try.prog 37 #[sv l, .slice A o.length cap] w fun e w' => e = obR (shufO l o) ∧ Below w.heap.size w w' := by
  have cB := fun w => l5Blocks_any l w hl
  have HS : Go.RowKit.Hid (∀ wr, Below w.heap.size w wr → SlI wr A cap o) := fun wr h => hs.below h
  have hcap := hs.1
  unfold BksRes at cB
  clear hs
  cases hB : blocksB l with
  | none =>
    rw [shufO_none hB]
    rw [hB] at cB
    go_enter Try.func37, Try.ntmps37
    go_wp2_with fail
    refine (cB _).mono ?_
    rintro e w1 ⟨A1, c1, rfl, o1, hb1⟩
    clear o1
    go_wp2
    go_ret2
    exact ⟨rfl, hb1⟩
  | some bs =>
    have hlen := (blocks_short hB).2
    have hok := NumOk_mem (blocks_some hB).1
    rw [hB] at cB
    simp only [Option.getD_some, Option.isSome_some] at cB
    have HOK := Go.Lib.hid hok
    have cO := Go.Lib.hid (fun w hs => l7Order_any o A cap w hs ho)
    have HBAD := Go.Lib.hid (fun h => shufO_bad (o := o) hB h)
    have HSOM := Go.Lib.hid (fun h h2 => shufO_some (o := o) hB h h2)
    generalize obR (shufO l o) = GG at *
    clear hB hok
    go_enter Try.func37, Try.ntmps37
    go_wp2_with fail
    refine (cB _).mono ?_
    rintro e w1 ⟨A1, c1, rfl, o1, hb1⟩
    have z1 := hb1.size
    have B1 := own_Sl o1
    have hc1 := B1.1
    have HB1 : Go.RowKit.Hid (∀ wr, Below w1.heap.size w1 wr → Sl wr A1 bs.length c1 4 (bksV bs)) := fun wr h => B1.below h
    have S1 := HS.out _ hb1
    clear o1 B1 cB
    go_wp2_with fail
    refine (cO.out _ S1).mono ?_
    rintro e w2 ⟨rfl, hb2⟩
    have z2 := hb2.size
    have g2 := hb1.trans (hb2.mono (by omega))
    clear S1 cO
    by_cases hO : OrdOk o
    · rw [decide_eq_true hO]
      by_cases hL : o.length = bs.length
      · have hne : ((o.length : Int) != (bs.length : Int)) = false := by simp; omega
        have HG := Go.Lib.hid (HSOM.out hO hL)
        have HIN : Go.RowKit.Hid (∀ k (h : k < o.length), ∃ m : Nat, o[k] = (m : Int) ∧ m < bs.length) := fun k h => by
          have := hO.2 o[k] (List.getElem_mem h)
          exact ⟨o[k].toNat, by omega, by omega⟩
        have HPL : Go.RowKit.Hid (∀ k, (catT (pickB bs (o.take k))).length ≤ 74 * 40) := fun k => by
          have h1 := pick_len (o := o.take k) HOK.out (fun x hx => by have := hO.2 x (List.mem_of_mem_take hx); omega)
          have h2 : (o.take k).length ≤ o.length := by simp; omega
          omega
        have hol : o.length ≤ 40 := by omega
        clear hO HBAD HSOM hL
        go_wp2
        go_loopw [8, 9] (fun s i wr => ∃ k : Nat, s = sv (catT (pickB bs (o.take k))) ∧ i = .int .i64 (k : Int) ∧ k ≤ o.length ∧ Below w1.heap.size w1 wr) (fun _ i _ => o.length - (intOf i).toNat)
        case atStart => exact ⟨0, rfl, rfl, by omega, hb2⟩
        case round =>
          obtain ⟨k, rfl, rfl, hk, hb⟩ := hrel
          have hz := hb.size
          by_cases hlt : k < o.length
          · have hki : (k : Int) < o.length := by omega
            obtain ⟨m, hm, hmb⟩ := HIN.out k hlt
            obtain ⟨g, off, rfl, hg, c0⟩ := (HS.out wr (hb1.trans (hb.mono (by omega)))).at hlt
            rw [hm] at c0
            have HPT := Go.Lib.hid (pick_take hlt hm hmb)
            have hpl := HPL.out k
            have hpl2 := HPL.out (k + 1)
            rw [HPT.out, List.length_append] at hpl2
            obtain ⟨gb, ob, rfl, hgb, d0, d1, d2, d3⟩ := (HB1.out wr hb).bk hmb
            have hbok := HOK.out bs[m] (List.getElem_mem hmb)
            have cT := fun w => l5Text_any bs[m] w (Blk.ok_sm hbok)
            have hmi : (m : Int) < bs.length := by omega
            have hq : ¬ 9223372036854775807 < (catT (pickB bs (o.take k))).length + bs[m].text.length := by omega
            clear hbok hm
            generalize bs[m].text = t at *
            generalize bs[m] = b at *
            obtain ⟨n2, r, n4, D⟩ := b
            simp only at d0 d1 d2 d3
            generalize catT (pickB bs (o.take k)) = X at *
            go_wp2_with fail
            refine (cT _).mono ?_
            rintro e w3 ⟨rfl, hb3⟩
            have z3 := hb3.size
            have g3 := hb.trans (hb3.mono (by omega))
            clear hb3 cT
            go_wp2
            go_roundw
            case rel => exact ⟨k + 1, by rw [HPT.out], by go_num, by omega, g3⟩
            case measure => simp [intOf]; omega
          · have hki : ¬ (k : Int) < o.length := by omega
            have hke : o.take k = o := List.take_of_length_le (by omega)
            rw [hke]
            clear hke
            go_wp2
            go_ret2
            exact ⟨by rw [HG.out]; rfl, hb1.trans (hb.mono (by omega))⟩
      · have hne : ((o.length : Int) != (bs.length : Int)) = true := by simp; omega
        have HG := Go.Lib.hid (HBAD.out (fun h => hL h.2))
        clear HBAD HSOM hO hL
        go_wp2
        go_ret2
        exact ⟨by rw [HG.out]; rfl, g2⟩
    · rw [decide_eq_false hO]
      have HG := Go.Lib.hid (HBAD.out (fun h => hO h.1))
      clear HBAD HSOM hO
      go_wp2
      go_ret2
      exact ⟨by rw [HG.out]; rfl, g2⟩
end Go.Proofs.Ytgcjfddkgbigoaa
