/- Walks: the codes of the longest words, by the program (printed by gen_j20.py). -/
import Derived.Test.YtfonokhafdflcaaGreatGJ2
import Derived.Test.YtfonokhafdflcaaGreatGS2
import Derived.Test.YtfonokhafdflcaaGreatQ5
import Derived.Deep.Cut
namespace Go.Proofs.YtfonokhafdflcaaGreat
open Go.RowKit
set_option linter.unusedVariables false
set_option linter.unusedSimpArgs false
set_option maxRecDepth 100000
attribute [local go_sem high] run_index_S binOp_eql_S binOp_neq_S append_S toList_S size_S run_slice_S run_slice_from_S run_slice_to_S wrap64_byteAt wrap64_byteAt_mul bits_or_bytes convU conv1_some convU2 conv2_some
theorem own_apart {w w' : World} {B : Nat} {e : TypeId} {s n : Nat} {v : Value} {xs : List Value} {row : Option Nat} (h : w.ownsRow B e s v n xs) (hg : w.grownBy w' row) (hne : ∀ k, v.ownBlock = some k → row ≠ some k) : w'.ownsRow B e s v n xs := by
  have hlt := h.lt
  obtain ⟨h1, h2⟩ := h
  refine ⟨h1, ?_⟩
  rcases h2 with h2 | ⟨g, cap, cur, rfl, hgb, hh, rest⟩
  · exact .inl h2
  · exact .inr ⟨g, cap, cur, rfl, hgb, (hg.block g (hlt g rfl).2 (fun hc => hne g rfl hc.symm)).trans hh, rest⟩
theorem TreeAt.grownT {w w' : World} {B b : Nat} {K : Kn} {A An Ap : Option Addr} {cap cn cp : Nat} {row : Option Nat} (h : TreeAt w B b K A An Ap cap cn cp) (hg : w.grownBy w' row) (hr : ∀ g, row = some g → ¬ tblk b A An Ap g) : TreeAt w' B b K A An Ap cap cn cp :=
  ⟨h.bB, h.box.grown hg (fun k hk e => hr k hk (.inl e)), own_apart h.prs hg (fun k hk e => hr k e (.inr (.inl (own_blk2 hk)))), own_apart h.nds hg (fun k hk e => hr k e (.inr (.inr (.inl (own_blk2 hk))))), own_apart h.nos hg (fun k hk e => hr k e (.inr (.inr (.inr (own_blk2 hk)))))⟩
theorem TreeAt.blt {w : World} {B b : Nat} {K : Kn} {A An Ap : Option Addr} {cap cn cp : Nat} (h : TreeAt w B b K A An Ap cap cn cp) : ∀ g, tblk b A An Ap g → g < w.heap.size := by
  intro g hg
  rcases hg with rfl | hg | hg | hg
  · exact h.box.lt
  · exact (h.prs.lt g (own_blk h.prs g hg)).2
  · exact (h.nds.lt g (own_blk h.nds g hg)).2
  · exact (h.nos.lt g (own_blk h.nos g hg)).2
/-- The codes lie apart from the tree. -/
def Apt (C : Option Addr) (b : Nat) (A An Ap : Option Addr) : Prop := ∀ g, C.map (·.block) = some g → ¬ tblk b A An Ap g
theorem Apt.next {C : Option Addr} {b : Nat} {A An Ap A' An' Ap' : Option Addr} {w : World} {B n cap : Nat} {e : TypeId} {xs : List Value} (h : Apt C b A An Ap) (ho : w.ownsRow B e 1 (.slice C n cap) n xs) (hS : ∀ g, tblk b A' An' Ap' g → tblk b A An Ap g ∨ w.heap.size ≤ g) : Apt C b A' An' Ap' := by
  intro g hg ht
  rcases hS g ht with h1 | h1
  · exact h g hg h1
  · have := (ho.lt g (own_blk ho g hg)).2; omega
theorem Apt.app {C C' : Option Addr} {b : Nat} {A An Ap : Option Addr} {n m c c' z : Nat} (h : Apt C b A An Ap) (hz : ∀ g, tblk b A An Ap g → g < z) (hat : Value.ownBlock (.slice C' m c') = Value.ownBlock (.slice C n c) ∨ Value.ownBlock (.slice C' m c') = some z) : Apt C' b A An Ap := by
  intro g hg ht
  have e : Value.ownBlock (.slice C' m c') = some g ∨ True := .inr trivial
  cases C' with
  | none => cases hg
  | some a =>
    have hg' : a.block = g := by simpa using hg
    have e2 : Value.ownBlock (.slice (some a) m c') = some g := by rw [← hg']; rfl
    rcases hat with h1 | h1
    · rw [e2] at h1
      exact h g (own_blk2 h1.symm) ht
    · rw [e2] at h1
      injection h1 with h1
      have := hz g ht
      omega
/-- Codes, in a row of their own. -/
def GrRes (cs : List Int) (w : World) (e : Ending) (w' : World) : Prop := ∃ A cap, e = .returned (.slice A cs.length cap) ∧ w'.ownsRow w.heap.size 3 1 (.slice A cs.length cap) cs.length (cs.map iv) ∧ Below w.heap.size w w'
set_option maxHeartbeats 4000000 in
theorem greedy_any (K : Kn) (A : Option Addr) (cap : Nat) (d : Bs) (w : World) (hk : K.ok) (hs : Sl w A K.ps.length cap 2 (psV K.ps)) (hl : d.length ≤ 100000) (hf : d.all (litB K.l) = true) :
    Calls Tryz.prog 111 #[knV K A cap, sv d] w (GrRes (K.greedy d) w) := by
  obtain ⟨i, hi, hz0, hz1, hz2⟩ := info_parts info_int
  have hck := K.cleared_ok hk
  have hst := hk.st
  have hbd := hk.bd
  have HG0 : Go.RowKit.Hid (K.greedy d = [pow2 K.l] ++ (greedyP d.length K.cleared (d.drop 0) ++ [pow2 K.l + 1])) := by show _ = _; rw [greedyP_top hk.base0]; rfl
  have cN := fun w => newTree_any K A cap w hk
  have CN := Go.Lib.hid cN
  have CF : Go.RowKit.Hid (∀ B b A2 An Ap c2 cn cp w', TreeAt w' B b K A2 An Ap c2 cn cp → Calls Tryz.prog 93 #[.pointer (some ⟨b, 0, none⟩), .int .i64 (pow2 K.l)] w' (TrRes B b K.cleared (tblk b A2 An Ap) w')) := fun B b A2 An Ap c2 cn cp w' h => follow_clear w' h hk
  have hKl : K.cleared.l = K.l := rfl
  have HPB : Go.RowKit.Hid (0 ≤ pow2 K.l ∧ pow2 K.l ≤ 65536) := ⟨by have := pow2_bd K.l (by have := hst.2.1; omega) (by have := hst.2.2.1; omega); omega, (pow2_bd K.l (by have := hst.2.1; omega) (by have := hst.2.2.1; omega)).2⟩
  obtain ⟨G, hG⟩ : ∃ G, K.greedy d = G := ⟨_, rfl⟩
  rw [hG]
  rw [hG] at HG0
  clear cN hG hk
  generalize K.cleared = K0 at *
  have HKL := Go.Lib.hid hKl
  clear hKl
  go_enter Tryz.func111, Tryz.ntmps111
  have hK0 : Bk (w.alloc (.cells (knC K A cap) 67)) w.heap.size 67 (knC K A cap) := (by (repeat (first | (with_reducible assumption) | (with_reducible exact Bk.new _ _ _) | (with_reducible refine Bk.newAt _ _ _ (by simp; done)) | (with_reducible refine Bk.drew ?_) | (with_reducible refine Bk.drewN ?_ _) | (with_reducible refine Bk.alloc ?_ _))); done)
  have g0 : Below w.heap.size w (w.alloc (.cells (knC K A cap) 67)) := (by repeat (first | (with_reducible exact Below.refl _ _) | (with_reducible assumption) | (with_reducible refine Below.drew ?_) | (with_reducible refine Below.alloc ?_ (by first | omega | (simp <;> omega)) _) | (with_reducible refine Below.setCell ?_ (by first | omega | (simp <;> omega)) _) | (with_reducible refine belowN ?_ _)))
  go_upto_region 1 with (fail)
  generalize w.alloc (.cells (knC K A cap) 67) = w0 at *
  have hX0 := hK0.cell
  have hz0' := hK0.lt
  have hG0 := box_class hX0 hz0'
  go_wp2_with fail
  refine wp_region_quiet_below (by kernel_rfl) (by kernel_rfl) ?_
  repeat (go_big_quiet_step ((first | (go_at_call 91; exact Calls.regrown_of (clearCode_any _ _ _ _ hst)) | (go_at_call 89; exact Calls.regrown_of (endCode_any _ _ _ _ hst)))))
  refine wpQuiet_nil ?_
  intro w1 hw2
  have hb1 : Below _ _ w1 := below_of_class hw2
  clear hw2
  have hz1' := hb1.size
  have hK1 := hK0.below hb1 hz0'
  have g1 := g0.trans (hb1.mono (by omega))
  have hs1 := hs.below g1
  have hX1 := hK1.cell
  clear hb1 hK0 g0 hX0 hG0 hs
  go_wp2_with fail
  refine (CN.out _ hs1).mono ?_
  rintro e w2 ⟨b, A2, An2, Ap2, cap2, cn2, cp2, rfl, hT2, hb2⟩
  have hz2' := hb2.size
  have g2 := g1.trans (hb2.mono (by omega))
  have hb1B : w.heap.size ≤ w1.heap.size := by omega
  generalize w1.heap.size = B at *
  clear hb2 hK1 g1 hX1 hs1 CN
  have hbB := hT2.bB
  go_wp2_with fail
  refine (CF.out _ _ _ _ _ _ _ _ _ hT2).mono ?_
  rintro e w3 ⟨rfl, ⟨A3, An3, Ap3, cap3, cn3, cp3, hT3, hS3⟩, g3⟩
  have hb3 := g3.below (by omega)
  have hz3' := hb3.size
  have g4 := g2.trans (hb3.mono (by omega))
  clear hb3 g2 hT2 g3 hS3 CF
  have hT4 := hT3.alloc (.cells #[.int .i64 (pow2 K.l)] 3)
  have o4 : (w3.alloc (.cells #[.int .i64 (pow2 K.l)] 3)).ownsRow B 3 1 (.slice (some ⟨w3.heap.size, 0, none⟩) 1 1) 1 [.int .i64 (pow2 K.l)] := lit_row w3 #[.int .i64 (pow2 K.l)] rfl (by omega) (by unfold maxLen; omega)
  have D4 : Apt (some ⟨w3.heap.size, 0, none⟩) b A3 An3 Ap3 := fun g hg ht => by
    have h1 := hT3.blt g ht
    simp at hg
    omega
  have HD4 := Go.Lib.hid D4
  have g5 := g4.alloc (by omega) (.cells #[.int .i64 (pow2 K.l)] 3)
  clear hT3 D4 g4
  go_upto_region 5 with (fail)
  generalize w3.alloc (.cells #[.int .i64 (pow2 K.l)] 3) = W at *
  go_wp2
  go_loopw [1, 8] (fun a c wr => ∃ (at_ n : Nat) (K' : Kn) (A' An' Ap' : Option Addr) (cap' cn' cp' : Nat) (C : Option Addr) (cc : Nat) (cs : List Int), a = sv (d.drop at_) ∧ c = .slice C cs.length cc ∧ at_ ≤ d.length ∧ d.length ≤ at_ + n ∧ cs.length ≤ 2 * at_ + 1 ∧ K'.ok ∧ Go.RowKit.Hid (K'.l = K.l) ∧ Go.RowKit.Hid (G = cs ++ (greedyP n K' (d.drop at_) ++ [pow2 K.l + 1])) ∧
    TreeAt wr B b K' A' An' Ap' cap' cn' cp' ∧ wr.ownsRow B 3 1 (.slice C cs.length cc) cs.length (cs.map iv) ∧ Go.RowKit.Hid (Apt C b A' An' Ap') ∧ Below w.heap.size w wr) (fun a _ _ => strN a)
  case atStart => exact ⟨0, d.length, K0, A3, An3, Ap3, cap3, cn3, cp3, some ⟨w3.heap.size, 0, none⟩, 1, [pow2 K.l], by simp [sv], rfl, by omega, by omega, by simp, hck, HKL.out, HG0, hT4, o4, HD4, g5⟩
  case round =>
    obtain ⟨at_, n, K', A', An', Ap', cap', cn', cp', C, cc, cs, rfl, rfl, hat, hatn, hcl, hk', HL, HG, hT, ho, HD, hg⟩ := hrel
    clear hT4 o4 HD4 g5 HG0 hck
    have hX := hT.box.cell
    have hwz := hT.box.lt
    have hbB' := hT.bB
    by_cases hlt : at_ < d.length
    · have hne : d.drop at_ ≠ [] := fun h => by have := congrArg List.length h; simp at this; omega
      have hned : decide (d.drop at_ ≠ []) = true := by simpa using hne
      have hned2 : decide (d.drop at_ = []) = false := by simpa using hne
      have hrf : (d.drop at_).all (litB K'.l) = true := by rw [HL.out]; exact all_drop _ _ _ hf
      have hrl : (d.drop at_).length = d.length - at_ := by simp
      obtain ⟨m, rfl⟩ : ∃ m, n = m + 1 := ⟨n - 1, by omega⟩
      go_wp2_with fail
      refine (isFull_any K' A' cap' _ hk').mono ?_
      rintro e w5 ⟨rfl, hb5⟩
      have hT5 := hT.keep hb5
      have o5 := owns_keep ho hb5
      have g5 := hg.trans (hb5.mono (by omega))
      have hz5 := hb5.size
      clear hX hb5 hT ho hg
      have hb5' := hT5.box.lt
      by_cases hfu : K'.full = true
      · have hfd : decide (K'.top < K'.nx ∧ K'.base < (K'.ps.length : Int)) = true := hfu
        rw [hfd]
        have HG2 := Go.Lib.hid (greedyP_full (n := m) hne hfu)
        have hk1 := K'.cleared_ok hk'
        have HL1 : Go.RowKit.Hid (K'.cleared.l = K.l) := HL.out
        have CF : Calls Tryz.prog 93 #[.pointer (some ⟨b, 0, none⟩), .int .i64 (pow2 K.l)] w5 (TrRes B b K'.cleared (tblk b A' An' Ap') w5) := by
          have h := follow_clear w5 hT5 hk'
          have e : pow2 K'.l = pow2 K.l := by rw [HL.out]
          rw [← e]
          exact h
        have HCL : Go.RowKit.Hid (K'.cl = pow2 K.l) := by show pow2 K'.l = _; rw [HL.out]
        have hrf1 : (d.drop at_).all (litB K'.cleared.l) = true := hrf
        clear hfd hfu hrf
        generalize K'.cleared = K1 at *
        go_wp2_with fail
        refine CF.mono ?_
        rintro e w6 ⟨rfl, ⟨A6, An6, Ap6, cap6, cn6, cp6, hT6, hS6⟩, k6⟩
        have hb6 := k6.below (by omega)
        have hz6 := hb6.size
        have o6 := k6.own o5 (fun g hg => .inr (HD.out g (own_blk2 hg)))
        have D6 := HD.out.next o5 hS6
        have g6 := g5.trans (hb6.mono (by omega))
        have hT6z := hT6.box.lt
        clear hb6 hT5 o5 g5 CF k6 hS6
        have hm1 : cs.length + 1 ≤ maxLen := by unfold maxLen; omega
        have hm2 : (cs.length + 1) * 8 ≤ 140737488355328 := by omega
        go_wp2_with (at_builtin; go_must (refine wpList_ap _ rfl _ _ 46 rfl (B) 3 i _ 1 8 Tryz.underlying46 hi hz0 hz1 hz2 rfl (by omega) _ _ _ rfl (o6.alloc _) _ 1 1 [Value.int .i64 (pow2 K.l)] rfl (Sl.newAt w6 #[Value.int .i64 (pow2 K.l)] _ 1 1 (by first | rfl | simp) (by simp) (by omega)) (by simp [Value.oneCell']) hm1 hm2 ?_ ?_))
        try (case refine_1 => first | omega | (simp <;> omega; done))
        intro C7 cc7 w7 o7 hg7 hat7
        have hT7 := (hT6.alloc (.cells #[.int .i64 (pow2 K.l)] 3)).grownT hg7 (fun g hg => D6 g (own_blk2 hg))
        have D7 := D6.app (fun g hg => Nat.lt_succ_of_lt (hT6.blt g hg)) hat7
        have g7 := app_below (B := w.heap.size) g6 hg7 (by omega) (fun q hq => by have := (o6.lt q hq).1; omega)
        have o7' : w7.ownsRow B 3 1 (.slice C7 (cs ++ [pow2 K.l]).length cc7) (cs ++ [pow2 K.l]).length ((cs ++ [pow2 K.l]).map iv) := by
          rw [List.length_append, List.map_append]; exact o7
        have hz7 := app_size hg7
        have hc1 : (cs ++ [pow2 K.l]).length ≤ 2 * at_ + 2 := by simp; omega
        have HG3 : Go.RowKit.Hid (G = (cs ++ [pow2 K.l]) ++ (K1.find (K1.longest (d.drop at_)) :: greedyP m (K1.after (K1.find (K1.longest (d.drop at_)))) ((d.drop at_).drop (K1.longest (d.drop at_)).length) ++ [pow2 K.l + 1])) := by
          show _ = _
          rw [HG.out, HG2.out, HCL.out]; simp
        have HLC : Go.RowKit.Hid ((cs ++ [pow2 K.l]).length = cs.length + 1) := by show _ = _; simp
        clear o6 hT6 hg7 hat7 g6 D6 o7 HG HG2 HL HD hk'
        rw [← HLC.out]
        generalize cs ++ [pow2 K.l] = cs1 at *
        have HD7 := Go.Lib.hid D7
        clear D7 hcl
        have hfol := K1.find_fol hk1 hne hrf1
        obtain ⟨hfol, _, hc0⟩ := hfol
        have hlp := (K1.longest_prefix (d.drop at_)).2
        have hlq := K1.longest_pos hne
        have hao := K1.after_ok hk1 hfol
        have cL := longest_any (d.drop at_) _ hT7 hk1 hne (by omega) hrf1
        have cF : Go.RowKit.Hid (∀ w', TreeAt w' B b K1 A6 An6 Ap6 cap6 cn6 cp6 → Calls Tryz.prog 93 #[.pointer (some ⟨b, 0, none⟩), .int .i64 (K1.find (K1.longest (d.drop at_)))] w' (TrRes B b (K1.after (K1.find (K1.longest (d.drop at_)))) (tblk b A6 An6 Ap6) w')) := fun w' h => follow_code _ w' h hk1 hfol
        have HL2 : Go.RowKit.Hid ((K1.after (K1.find (K1.longest (d.drop at_)))).l = K.l) := HL1.out
        clear hfol hne hrf1 HL1
        generalize K1.after (K1.find (K1.longest (d.drop at_))) = K2 at *
        generalize K1.find (K1.longest (d.drop at_)) = c at *
        generalize (K1.longest (d.drop at_)).length = L at *
        have HR2 := Go.Lib.hid hrl
        rw [hrl] at hlp
        clear hrl
        go_wp2_with fail
        refine cL.mono ?_
        rintro e w8 ⟨rfl, hb8⟩
        have hT8 := hT7.keep hb8
        have o8 := owns_keep o7' hb8
        have g8 := g7.trans (hb8.mono (by omega))
        have hz8 := hb8.size
        clear hb8 hT7 o7' g7 cL
        have hT8z := hT8.box.lt
        go_wp2_with fail
        refine (cF.out _ hT8).mono ?_
        rintro e w9 ⟨rfl, ⟨A9, An9, Ap9, cap9, cn9, cp9, hT9, hS9⟩, k9⟩
        have hb9 := k9.below (by omega)
        have hz9 := hb9.size
        have o9 := k9.own o8 (fun g hg => .inr (HD7.out g (own_blk2 hg)))
        have D9 := HD7.out.next o8 hS9
        have g9 := g8.trans (hb9.mono (by omega))
        clear hb9 hT8 o8 g8 cF k9 hS9 HD7
        have hm1 : cs1.length + 1 ≤ maxLen := by unfold maxLen; omega
        have hm2 : (cs1.length + 1) * 8 ≤ 140737488355328 := by omega
        have hLd : (L : Int) ≤ ((d.drop at_).length : Int) := by rw [HR2.out]; omega
        go_wp2_with (at_builtin; go_must (refine wpList_ap _ rfl _ _ 46 rfl (B) 3 i _ 1 8 Tryz.underlying46 hi hz0 hz1 hz2 rfl (by omega) _ _ _ rfl (o9.alloc _) _ 1 1 [Value.int .i64 c] rfl (Sl.newAt w9 #[Value.int .i64 c] _ 1 1 (by first | rfl | simp) (by simp) (by omega)) (by simp [Value.oneCell']) hm1 hm2 ?_ ?_))
        try (case refine_1 => first | omega | (simp <;> omega; done))
        intro C10 cc10 w10 o10 hg10 hat10
        have hT10 := (hT9.alloc (.cells #[.int .i64 c] 3)).grownT hg10 (fun g hg => D9 g (own_blk2 hg))
        have D10 := D9.app (fun g hg => Nat.lt_succ_of_lt (hT9.blt g hg)) hat10
        have g10 := app_below (B := w.heap.size) g9 hg10 (by omega) (fun q hq => by have := (o9.lt q hq).1; omega)
        have o10' : w10.ownsRow B 3 1 (.slice C10 (cs1 ++ [c]).length cc10) (cs1 ++ [c]).length ((cs1 ++ [c]).map iv) := by
          rw [List.length_append, List.map_append]; exact o10
        have HLC2 : Go.RowKit.Hid ((cs1 ++ [c]).length = cs1.length + 1) := by show _ = _; simp
        have HDR : Go.RowKit.Hid ((d.drop at_).drop L = d.drop (at_ + L)) := by show _ = _; rw [List.drop_drop]
        have HG4 : Go.RowKit.Hid (G = (cs1 ++ [c]) ++ (greedyP m K2 (d.drop (at_ + L)) ++ [pow2 K.l + 1])) := by
          show _ = _
          rw [HG3.out, ← HDR.out]; simp
        have HD10 := Go.Lib.hid D10
        have HH := Go.Lib.hid (And.intro o10' (And.intro hT10 g10))
        clear o9 hT9 hg10 hat10 g9 D9 o10 HG3 D10 o10' hT10 g10
        go_wp2
        go_roundw
        case rel => exact ⟨at_ + L, m, K2, A9, An9, Ap9, cap9, cn9, cp9, C10, cc10, cs1 ++ [c], by simp [sv], by rw [HLC2.out], by omega, by omega, by rw [HLC2.out]; omega, hao, HL2, HG4, HH.out.2.1, HH.out.1, HD10, HH.out.2.2⟩
        case measure => simp [strN]; omega
      · have hfu2 : K'.full = false := by simpa using hfu
        have hfd : decide (K'.top < K'.nx ∧ K'.base < (K'.ps.length : Int)) = false := hfu2
        rw [hfd]
        have HG2 := Go.Lib.hid (greedyP_room (n := m) hne hfu2)
        have HG3 : Go.RowKit.Hid (G = cs ++ (K'.find (K'.longest (d.drop at_)) :: greedyP m (K'.after (K'.find (K'.longest (d.drop at_)))) ((d.drop at_).drop (K'.longest (d.drop at_)).length) ++ [pow2 K.l + 1])) := by
          show _ = _
          rw [HG.out, HG2.out]
        have hk1 := hk'
        have HL1 := HL
        have hrf1 := hrf
        have hc1 : cs.length ≤ 2 * at_ + 2 := by omega
        have hz7 := hz5
        clear hfd hfu2 hfu HG HG2 hcl hk' HL hrf
        have HD5 := HD
        have o5' := o5
        clear HD o5
        generalize K' = K1 at *
        generalize cs = cs1 at *
        have hfol := K1.find_fol hk1 hne hrf1
        obtain ⟨hfol, _, hc0⟩ := hfol
        have hlp := (K1.longest_prefix (d.drop at_)).2
        have hlq := K1.longest_pos hne
        have hao := K1.after_ok hk1 hfol
        have cL := longest_any (d.drop at_) _ hT5 hk1 hne (by omega) hrf1
        have cF : Go.RowKit.Hid (∀ w', TreeAt w' B b K1 A' An' Ap' cap' cn' cp' → Calls Tryz.prog 93 #[.pointer (some ⟨b, 0, none⟩), .int .i64 (K1.find (K1.longest (d.drop at_)))] w' (TrRes B b (K1.after (K1.find (K1.longest (d.drop at_)))) (tblk b A' An' Ap') w')) := fun w' h => follow_code _ w' h hk1 hfol
        have HL2 : Go.RowKit.Hid ((K1.after (K1.find (K1.longest (d.drop at_)))).l = K.l) := HL1.out
        clear hfol hne hrf1 HL1
        generalize K1.after (K1.find (K1.longest (d.drop at_))) = K2 at *
        generalize K1.find (K1.longest (d.drop at_)) = c at *
        generalize (K1.longest (d.drop at_)).length = L at *
        have HR2 := Go.Lib.hid hrl
        rw [hrl] at hlp
        clear hrl
        go_wp2_with fail
        refine cL.mono ?_
        rintro e w8 ⟨rfl, hb8⟩
        have hT8 := hT5.keep hb8
        have o8 := owns_keep o5' hb8
        have g8 := g5.trans (hb8.mono (by omega))
        have hz8 := hb8.size
        clear hb8 hT5 o5' g5 cL
        have hT8z := hT8.box.lt
        go_wp2_with fail
        refine (cF.out _ hT8).mono ?_
        rintro e w9 ⟨rfl, ⟨A9, An9, Ap9, cap9, cn9, cp9, hT9, hS9⟩, k9⟩
        have hb9 := k9.below (by omega)
        have hz9 := hb9.size
        have o9 := k9.own o8 (fun g hg => .inr (HD5.out g (own_blk2 hg)))
        have D9 := HD5.out.next o8 hS9
        have g9 := g8.trans (hb9.mono (by omega))
        clear hb9 hT8 o8 g8 cF k9 hS9 HD5
        have hm1 : cs1.length + 1 ≤ maxLen := by unfold maxLen; omega
        have hm2 : (cs1.length + 1) * 8 ≤ 140737488355328 := by omega
        have hLd : (L : Int) ≤ ((d.drop at_).length : Int) := by rw [HR2.out]; omega
        go_wp2_with (at_builtin; go_must (refine wpList_ap _ rfl _ _ 46 rfl (B) 3 i _ 1 8 Tryz.underlying46 hi hz0 hz1 hz2 rfl (by omega) _ _ _ rfl (o9.alloc _) _ 1 1 [Value.int .i64 c] rfl (Sl.newAt w9 #[Value.int .i64 c] _ 1 1 (by first | rfl | simp) (by simp) (by omega)) (by simp [Value.oneCell']) hm1 hm2 ?_ ?_))
        try (case refine_1 => first | omega | (simp <;> omega; done))
        intro C10 cc10 w10 o10 hg10 hat10
        have hT10 := (hT9.alloc (.cells #[.int .i64 c] 3)).grownT hg10 (fun g hg => D9 g (own_blk2 hg))
        have D10 := D9.app (fun g hg => Nat.lt_succ_of_lt (hT9.blt g hg)) hat10
        have g10 := app_below (B := w.heap.size) g9 hg10 (by omega) (fun q hq => by have := (o9.lt q hq).1; omega)
        have o10' : w10.ownsRow B 3 1 (.slice C10 (cs1 ++ [c]).length cc10) (cs1 ++ [c]).length ((cs1 ++ [c]).map iv) := by
          rw [List.length_append, List.map_append]; exact o10
        have HLC2 : Go.RowKit.Hid ((cs1 ++ [c]).length = cs1.length + 1) := by show _ = _; simp
        have HDR : Go.RowKit.Hid ((d.drop at_).drop L = d.drop (at_ + L)) := by show _ = _; rw [List.drop_drop]
        have HG4 : Go.RowKit.Hid (G = (cs1 ++ [c]) ++ (greedyP m K2 (d.drop (at_ + L)) ++ [pow2 K.l + 1])) := by
          show _ = _
          rw [HG3.out, ← HDR.out]; simp
        have HD10 := Go.Lib.hid D10
        have HH := Go.Lib.hid (And.intro o10' (And.intro hT10 g10))
        clear o9 hT9 hg10 hat10 g9 D9 o10 HG3 D10 o10' hT10 g10
        go_wp2
        go_roundw
        case rel => exact ⟨at_ + L, m, K2, A9, An9, Ap9, cap9, cn9, cp9, C10, cc10, cs1 ++ [c], by simp [sv], by rw [HLC2.out], by omega, by omega, by rw [HLC2.out]; omega, hao, HL2, HG4, HH.out.2.1, HH.out.1, HD10, HH.out.2.2⟩
        case measure => simp [strN]; omega
    · have hae : at_ = d.length := by omega
      subst hae
      have hne : d.drop d.length = [] := List.drop_length
      have HE : Go.RowKit.Hid (G = cs ++ [pow2 K.l + 1]) := by
        show _ = _
        rw [HG.out, hne, greedyP_nil]; rfl
      rw [hne]
      have hm1 : cs.length + 1 ≤ maxLen := by unfold maxLen; omega
      have hm2 : (cs.length + 1) * 8 ≤ 140737488355328 := by omega
      have HLC : Go.RowKit.Hid ((cs ++ [pow2 K.l + 1]).length = cs.length + 1) := by show _ = _; simp
      clear HG hne
      go_wp2_with (at_builtin; go_must (refine wpList_ap _ rfl _ _ 46 rfl (B) 3 i _ 1 8 Tryz.underlying46 hi hz0 hz1 hz2 rfl (by omega) _ _ _ rfl (ho.alloc _) _ 1 1 [Value.int .i64 (pow2 K.l + 1)] rfl (Sl.newAt wr #[Value.int .i64 (pow2 K.l + 1)] _ 1 1 (by first | rfl | simp) (by simp) (by omega)) (by simp [Value.oneCell']) hm1 hm2 ?_ ?_))
      try (case refine_1 => first | omega | (simp <;> omega; done))
      intro C7 cc7 w7 o7 hg7 _
      have g7 := app_below (B := w.heap.size) hg hg7 (by omega) (fun q hq => by have := (ho.lt q hq).1; omega)
      have o7' : w7.ownsRow w.heap.size 3 1 (.slice C7 (cs ++ [pow2 K.l + 1]).length cc7) (cs ++ [pow2 K.l + 1]).length ((cs ++ [pow2 K.l + 1]).map iv) := by
        rw [List.length_append, List.map_append]; exact own_mono o7 hb1B
      have hE := HE.out
      subst hE
      clear o7 hg7 ho hg
      go_wp2
      go_ret
      exact ⟨C7, cc7, by rw [HLC.out]; rfl, o7', g7⟩
end Go.Proofs.YtfonokhafdflcaaGreat
