/- A region that draws its order and ends in a store on a cell that it loads: the last operation, which waits for all others, is taken off; the others go by what is held (Derived.OrdersHeld). No program. -/
import Derived.Test.YtgcjfddkgbigoaaSl
import Derived.Deep.RegionHeld3
namespace Go.Proofs.Ytgcjfddkgbigoaa
open Go.RowKit
section
variable {P : Program} {Q : Exit → Act → World → Prop} {S : World → Prop} {l : List Oper} {n : Nat}
/-- Behind the others the last one; every other way out is Q's. -/
def LastQ (P : Program) (ops : Array Oper) (n : Nat) (Q : Exit → Act → World → Prop) : Exit → Act → World → Prop
  | .normal, a, w => wpOp P ops Q n (Q .normal) a w
  | e, a, w => Q e a w
theorem LastQ_normal {ops : Array Oper} {a : Act} {w : World} (h : wpOp P ops Q n (Q .normal) a w) : LastQ P ops n Q .normal a w := h
/-- The last one waits for all others, an operation waits for earlier ones alone, and no guard is the last one's. -/
def lastB (l : List Oper) (n : Nat) : Bool :=
  decide (l.length = n + 1) && ((List.range n).all fun i => Region.waitsFor .any l.toArray n i) &&
  ((List.range (n + 1)).all fun i => match l.toArray[i]? with
    | some o => o.after.all (fun e => !Region.binds .any e || decide (e.on < i)) && (match o.guard with | some (g, _) => decide (g < n) | none => true)
    | none => true)
theorem waits_spec {md : Region.Mode} {ops : Array Oper} {j i : Nat} (h : Region.waitsFor md ops j i = true) : ∃ oj, ops[j]? = some oj ∧ ∃ e ∈ oj.after, Region.binds md e = true ∧ e.on = i := Region.waitsFor_spec h
theorem upon_last {o : Oper} {a : Act} {ops : Array Oper} {K K' : Act → World → Prop} (hK : ∀ a w, K a w → K' a w) : ∀ r, o.upon P a K (LastQ P ops n Q) r → o.upon P a K' Q r := by
  have hlo : LetsOut (LastQ P ops n Q) → LetsOut Q := fun ⟨a, w, h⟩ => ⟨a, w, h⟩
  intro r h
  cases r with
  | ok x w' =>
    cases x with
    | value v => exact hK _ _ h
    | skip => exact hK _ _ h
    | defer d => exact hK _ _ h
    | enter f args => exact Calls.mono h (fun e w'' he => by
        cases e with
        | returned v => exact hK _ _ he
        | panicked c => exact he
        | outgrown => exact hlo he)
    | row rw args => exact Rows.mono h (fun _ _ he => hK _ _ he)
    | _ => exact h
  | halt x w' => cases x <;> first | exact h | exact (h : False).elim
theorem wpOp_last {i : Nat} {a : Act} {w : World} {K K' : Act → World → Prop} (hb : lastB l n = true) (hi : i < n) (hK : ∀ a w, K a w → K' a w)
    (h : wpOp P (l.take n).toArray (LastQ P l.toArray n Q) i K a w) : wpOp P l.toArray Q i K' a w := by
  simp only [lastB, Bool.and_eq_true, decide_eq_true_eq] at hb
  obtain ⟨⟨hl, _⟩, hg⟩ := hb
  have hg := List.all_eq_true.1 hg i (List.mem_range.2 (by omega))
  have he : (l.take n).toArray[i]? = l.toArray[i]? := by simp [hi]
  unfold wpOp at *
  rw [he] at h
  cases ho : l.toArray[i]? with
  | none => simp only [ho] at h; exact hK _ _ h
  | some o =>
    simp only [ho] at h hg ⊢
    have hy : Region.wanted o (yielded (l.take n).toArray a.tmps) = Region.wanted o (yielded l.toArray a.tmps) := by
      unfold Region.wanted
      rw [Bool.and_eq_true] at hg
      have hg2 := hg.2
      cases hgu : o.guard with
      | none => rfl
      | some gw =>
        obtain ⟨g, want⟩ := gw
        simp only [hgu, decide_eq_true_eq] at hg2
        have : yielded (l.take n).toArray a.tmps g = yielded l.toArray a.tmps g := by
          unfold yielded
          rw [show (l.take n).toArray[g]? = l.toArray[g]? by simp [hg2]]
        simp only [this]
    rw [hy] at h
    split
    · rename_i hw
      rw [if_pos hw] at h
      rcases h with h | ⟨h1, h2⟩
      · exact .inl (upon_last hK _ h)
      · obtain ⟨a', w', h2⟩ := h2
        exact .inr ⟨h1, a', w', h2⟩
    · rename_i hw
      rw [if_neg hw] at h
      exact hK _ _ h
theorem getD_push_lt (x : Array Bool) (i : Nat) (d : Bool) (h : i < x.size) : (x.push false).getD i d = x.getD i d := by
  simp [Array.getElem_push_lt, h, show i < x.size + 1 by omega]
theorem getD_push_false (x : Array Bool) (i : Nat) : (x.push false).getD i false = x.getD i false := by
  by_cases h : i < x.size
  · exact getD_push_lt x i false h
  · by_cases h2 : i = x.size
    · subst h2; simp
    · simp [show ¬ i < x.size + 1 by omega, h]
theorem push_set (x : Array Bool) (i : Nat) (h : i < x.size) : (x.setIfInBounds i true).push false = (x.push false).setIfInBounds i true := by
  apply Array.ext_getElem?
  intro j
  simp only [Array.getElem?_push, Array.getElem?_setIfInBounds, Array.size_setIfInBounds, Array.size_push]
  by_cases h1 : i = j
  · subst h1; simp [h, show ¬ i = x.size by omega]; omega
  · simp [h1]
theorem ready_push {listed : Array Bool} (hs : listed.size = n) (i : Nat) (hi : i < n) :
    i ∈ Region.ready .any l.toArray (listed.push false) ↔ i ∈ Region.ready .any (l.take n).toArray listed := by
  rw [mem_ready, mem_ready, getD_push_lt _ _ _ (by omega), show (l.take n).toArray[i]? = l.toArray[i]? by simp [hi]]
  simp only [getD_push_false]
theorem ready_none {listed : Array Bool} (hb : lastB l n = true) (hs : listed.size = n) (h : Region.ready .any (l.take n).toArray listed = []) : ∀ i, i < n → listed.getD i false = true := by
  have hb' := hb
  simp only [lastB, Bool.and_eq_true, decide_eq_true_eq] at hb'
  obtain ⟨⟨hl, _⟩, hg⟩ := hb'
  intro i
  induction i using Nat.strongRecOn with
  | _ i ih =>
    intro hi
    cases hc : listed.getD i false with
    | true => rfl
    | false =>
      exfalso
      have hg := List.all_eq_true.1 hg i (List.mem_range.2 (by omega))
      have ho : l.toArray[i]? = some (l[i]'(by omega)) := by simp [List.getElem?_eq_getElem (show i < l.length by omega)]
      simp only [ho, Bool.and_eq_true] at hg
      have hm : i ∈ Region.ready .any (l.take n).toArray listed := by
        rw [mem_ready]
        refine ⟨getD_in (by omega) hc, l[i]'(by omega), by simp [hi, List.getElem?_eq_getElem (show i < l.length by omega)], fun e he hbnd => ?_⟩
        have h1 := Array.all_eq_true'.1 hg.1 e he
        simp only [hbnd, Bool.not_true, Bool.false_or, decide_eq_true_eq] at h1
        exact ih e.on h1 (by omega)
      rw [h] at hm
      cases hm
theorem wpAny_last (hb : lastB l n = true) : ∀ (fuel : Nat) (listed : Array Bool) (a : Act) (w : World), listed.size = n → wpAnyH P .any (l.take n).toArray (LastQ P l.toArray n Q) S fuel listed a w →
    wpAny P .any l.toArray Q (fuel + 1) (listed.push false) a w := by
  have hb' := hb
  simp only [lastB, Bool.and_eq_true, decide_eq_true_eq] at hb'
  obtain ⟨⟨hl, hwait⟩, hedge⟩ := hb'
  have hlast : l.toArray[n]? = some (l[n]'(by omega)) := by simp [List.getElem?_eq_getElem (show n < l.length by omega)]
  -- where nothing else may come up, the last one does
  have fin : ∀ (fuel : Nat) (listed : Array Bool) (a : Act) (w : World), listed.size = n → Region.ready .any (l.take n).toArray listed = [] → wpOp P l.toArray Q n (Q .normal) a w → wpAny P .any l.toArray Q (fuel + 1) (listed.push false) a w := by
    intro fuel listed a w hs h0 h
    have hall := ready_none hb hs h0
    have hn : n ∈ Region.ready .any l.toArray (listed.push false) := by
      rw [mem_ready]
      refine ⟨by simp [← hs], l[n]'(by omega), hlast, fun e he hbnd => ?_⟩
      rw [getD_push_false]
      have hg := List.all_eq_true.1 hedge n (List.mem_range.2 (by omega))
      simp only [hlast, Bool.and_eq_true] at hg
      have h1 := Array.all_eq_true'.1 hg.1 e he
      simp only [hbnd, Bool.not_true, Bool.false_or, decide_eq_true_eq] at h1
      exact hall e.on h1
    refine ⟨fun h1 => (by rw [h1] at hn; cases hn), fun i hi => ?_⟩
    have hin : i = n := by
      obtain ⟨_, o, ho, _⟩ := mem_ready.1 hi
      have hlt : i < l.length := by simpa using (Array.getElem?_eq_some_iff.1 ho).1
      rcases Nat.lt_or_ge i n with h2 | h2
      · have := (ready_push hs i h2).1 hi
        rw [h0] at this; cases this
      · omega
    subst hin
    refine wpOp_mono (fun a' w' h' => ?_) h
    have hz : Region.ready .any l.toArray ((listed.push false).setIfInBounds i true) = [] := by
      apply List.eq_nil_iff_forall_not_mem.2
      intro j hj
      obtain ⟨hun, o, ho, _⟩ := mem_ready.1 hj
      have hlt : j < l.length := by simpa using (Array.getElem?_eq_some_iff.1 ho).1
      have hd := getD_both hun
      by_cases hji : j = i
      · subst hji; simp [hs] at hd
      · have := hall j (by omega)
        rw [getD_set_ne false (Ne.symm hji), getD_push_false, this] at hd
        cases hd
    exact wpAny_done hz h' _
  intro fuel
  induction fuel with
  | zero => intro listed a w hs h; exact fin 0 listed a w hs h.1 h.2
  | succ fuel ih =>
    intro listed a w hs h
    by_cases h0 : Region.ready .any (l.take n).toArray listed = []
    · exact fin _ listed a w hs h0 (h.1 h0)
    · obtain ⟨j, hj⟩ : ∃ j, j ∈ Region.ready .any (l.take n).toArray listed := by
        cases hr : Region.ready .any (l.take n).toArray listed with
        | nil => exact absurd hr h0
        | cons x xs => exact ⟨x, List.mem_cons_self⟩
      have hjn : j < n := by
        obtain ⟨_, o, ho, _⟩ := mem_ready.1 hj
        have := (Array.getElem?_eq_some_iff.1 ho).1
        simp at this; omega
      refine ⟨fun h1 => ?_, fun i hi => ?_⟩
      · have := (ready_push hs j hjn).2 hj
        rw [h1] at this; cases this
      · have hin : i < n := by
          obtain ⟨_, o, ho, hall⟩ := mem_ready.1 hi
          have hlt : i < l.length := by simpa using (Array.getElem?_eq_some_iff.1 ho).1
          rcases Nat.lt_or_ge i n with h2 | h2
          · exact h2
          · exfalso
            have hie : i = n := by omega
            subst hie
            have h3 := List.all_eq_true.1 hwait j (List.mem_range.2 hjn)
            obtain ⟨oj, hoj, e, he, hbnd, hon⟩ := waits_spec h3
            rw [hoj] at ho
            injection ho with ho
            subst ho
            have h4 := hall e he hbnd
            rw [getD_push_false, hon, getD_both (mem_ready.1 hj).1] at h4
            cases h4
        refine wpOp_last hb hin (fun a' w' h' => ?_) (h.2 i ((ready_push hs i hin).1 hi))
        have := ih (listed.setIfInBounds i true) a' w' (by simpa using hs) h'.2
        rw [push_set listed i (by omega)] at this
        exact this
theorem wp_region_last {id : Nat} {a : Act} {w : World} (n : Nat) (S : World → Prop) (hm : P.follows .mixedOrders = true) (hb : lastB l n = true) (hS : S w.drew)
    (h : S w.drew → wpAnyH P .any (l.take n).toArray (LastQ P l.toArray n (NoPanic Q)) S n (Array.replicate n false) a w.drew) : (Code.region id l.toArray true).wp P Q a w := by
  have hl : l.length = n + 1 := by
    simp only [lastB, Bool.and_eq_true, decide_eq_true_eq] at hb
    exact hb.1.1
  refine wp_region_noPanic (wp_region_any hm ?_)
  have h2 := wpAny_last hb n _ a w.drew (by simp) (h hS)
  have e : (Array.replicate n false).push false = Array.replicate (n + 1) false := by rw [← Array.replicate_succ]
  rw [e] at h2
  have es : l.toArray.size = n + 1 := by simp [hl]
  rw [es]
  exact h2
end
end Go.Proofs.Ytgcjfddkgbigoaa
