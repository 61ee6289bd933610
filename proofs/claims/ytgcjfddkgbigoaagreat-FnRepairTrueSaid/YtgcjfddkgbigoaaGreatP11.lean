/- Walks: the bytes of the blocks of a group, by the reference. -/
import Derived.Test.YtgcjfddkgbigoaaGreatP10
namespace Go.Proofs.YtgcjfddkgbigoaaGreat
open Go.RowKit
set_option linter.unusedVariables false
set_option linter.unusedSimpArgs false
set_option maxRecDepth 100000
attribute [local go_sem high] run_index_S binOp_eql_S binOp_neq_S append_S toList_S size_S run_slice_S run_slice_from_S run_slice_to_S wrap64_byteAt wrap64_byteAt_mul bits_or_bytes convU conv1_some convU2 conv2_some
theorem built_len {ls : List Bs} {p t : Bs} {n : Int} (h : builtOf ls p n = some t) : t.length ≤ 74 := by
  unfold builtOf at h
  split at h
  · split at h
    · rename_i t' _ hc
      injection h with h
      subst h
      have h1 := parse_text hc.1
      have h2 := parse_bd hc.1
      have h3 := text_bd h2.2.2.2
      rw [h1] at h3
      have h4 := cutAt_len t' 0 (endAt t' 0) (by omega) (by omega) (by omega)
      omega
    · cases h
  · cases h
theorem txtN_some {fs : List Fd} {p : Bs} {a : Int} {k : Nat} {n : Int} {b : Blk} (h : firstF fs n = some b) : txtN fs p a k n = some b.text := by unfold txtN; rw [h]
/-- The number that is lost, or -1. -/
def lostV : List Int → Int
  | [] => -1
  | n :: _ => n
theorem lost_one {fs : List Fd} {a : Int} {k : Nat} {n : Int} {j : Nat} (hj : j < k) (h : firstF fs (a + j) = none) (hl : lostTo fs a k = [n]) : a + (j : Int) = n := by
  have := lostTo_of fs a k j hj h
  rw [hl] at this
  simpa using this
theorem lost_found {fs : List Fd} {a : Int} {k : Nat} {n : Int} (hl : lostTo fs a k = [n]) {m : Int} {b : Blk} (h : firstF fs m = some b) : m ≠ n := by
  intro hc
  obtain ⟨_, _, _, h3⟩ := lostTo_mem fs a k n (by rw [hl]; simp)
  rw [← hc, h] at h3
  cases h3
theorem parse_nil : parseOk [] 0 = false := by decide
theorem ok_smB {b : Blk} (h : b.ok = true) : b.sm := Blk.ok_sm h
set_option maxHeartbeats 4000000 in
theorem l7Repair_any (fs : List Fd) (p : Bs) (a k : Nat) (A : Option Addr) (cap : Nat) (w : World) (ho : AllOk fs) (hs : Sl w A fs.length cap 5 (fsV fs)) (hfs : fs.length ≤ 1000000) (hk : k ≤ 40) (ha : a ≤ 100) (hp : p.length ≤ 1500000) :
    Calls Tryz.prog 37 #[.slice A fs.length cap, sv p, .int .i64 (a : Int), .int .i64 ((a + k : Nat) : Int)] w fun e w' => e = rbRes (catTo (fun j => txtN fs p a k ((a : Int) + (j : Int))) k) ∧ Below w.heap.size w w' := by
  obtain ⟨i, hi, hz0, hz1, hz2⟩ := info_parts info_str
  have HO := Go.Lib.hid ho
  have HS : Go.RowKit.Hid (∀ wr, Below w.heap.size w wr → Sl wr A fs.length cap 5 (fsV fs)) := fun wr h => hs.below h
  have hcap := hs.1
  have HC : Go.RowKit.Hid (∀ n wr, Below w.heap.size w wr → Calls Tryz.prog 59 #[.slice A fs.length cap, .int .i64 n] wr fun e w' => e = ffRes (firstF fs n) ∧ Below wr.heap.size wr w') := fun n wr h => l7First_any fs n A cap wr (HS.out wr h) hfs
  clear hs ho
  have HG0 : Go.RowKit.Hid (∀ R, catTo (fun j => txtN fs p a k ((a : Int) + (j : Int))) k = R → rbRes (catTo (fun j => txtN fs p a k ((a : Int) + (j : Int))) k) = rbRes R) := fun R h => by rw [h]
  generalize rbRes (catTo (fun j => txtN fs p a k ((a : Int) + (j : Int))) k) = GG at *
  obtain ⟨m, hm⟩ : ∃ m, a + k = m := ⟨_, rfl⟩
  rw [hm]
  go_enter Tryz.func37, Tryz.ntmps37
  go_wp2
  have o0 := lit_own (base := w.heap.size) (size := 1) (Bk.new w #[] 9) (Nat.le_refl _)
  go_loopw [10, 11, 12] (fun l v x wr => ∃ (A1 : Option Addr) (c1 j : Nat), l = .int .i64 (lostV (lostTo fs a j)) ∧ (lostTo fs a j).length ≤ 1 ∧ v = .slice A1 (foundTo fs a j).length c1 ∧ x = .int .i64 ((a + j : Nat) : Int) ∧ j ≤ k ∧ wr.ownsRow w.heap.size 9 1 v (foundTo fs a j).length ((foundTo fs a j).map sv) ∧ Below w.heap.size w wr) (fun _ _ x _ => m - (intOf x).toNat)
  case atStart => exact ⟨_, 0, 0, rfl, by simp [lostTo], rfl, rfl, by omega, o0, (by repeat (first | (with_reducible exact Below.refl _ _) | (with_reducible assumption) | (with_reducible refine Below.drew ?_) | (with_reducible refine Below.alloc ?_ (by first | omega | (simp <;> omega)) _) | (with_reducible refine Below.setCell ?_ (by first | omega | (simp <;> omega)) _) | (with_reducible refine belowN ?_ _)))⟩
  case round =>
    obtain ⟨A1, c1, j, rfl, hl1, rfl, rfl, hj, o1, hb⟩ := hrel
    have hz := hb.size
    clear o0
    have hfl := foundTo_length fs a j
    by_cases hlt : j < k
    · have hki : ((a + j : Nat) : Int) < (m : Int) := by omega
      have hcast : (((a + j : Nat) : Int)) = (a : Int) + (j : Int) := by omega
      have cF := HC.out ((a + j : Nat) : Int) wr hb
      cases hff : firstF fs ((a : Int) + (j : Int)) with
      | some b =>
        have hst := lostTo_step_some (fs := fs) (a := (a : Int)) (j := j) hff
        rw [hcast, hff] at cF
        have HF2 := Go.Lib.hid hst.2
        have HL2 := Go.Lib.hid hst.1
        have hbo := HO.out _ _ hff
        have htl := text_bd hbo
        have cT : Go.RowKit.Hid (∀ w, Calls Tryz.prog 60 #[bkV b] w fun e w' => e = .returned (.string ⟨b.text.toArray⟩) ∧ Below w.heap.size w w') := fun w => l5Text_any b w (ok_smB hbo)
        clear hst hff hbo
        rw [← hcast] at cF
        generalize b.text = t at *
        generalize foundTo fs (a : Int) j = F at *
        generalize hLL : lostTo fs (a : Int) j = L at *
        clear hLL
        obtain ⟨n2, r, n4, D⟩ := b
        have hm1 : F.length + 1 ≤ maxLen := by unfold maxLen; omega
        have hm2 : (F.length + 1) * 16 ≤ 140737488355328 := by omega
        go_wp2_with fail
        refine cF.mono ?_
        rintro e w2 ⟨rfl, hb2⟩
        have z2 := hb2.size
        have g2 := hb.trans (hb2.mono (by omega))
        have o2 := owns_keep o1 hb2
        clear hb2 o1 hb cF
        have hX := (Bk.new w2 (bkC ⟨n2, r, n4, D⟩) 46).cell
        have hF := (Bk.new w2 (bkC ⟨n2, r, n4, D⟩) 46).free
        unfold ffRes
        go_wp2_with fail
        refine (cT.out _).mono ?_
        rintro e w3 ⟨rfl, hb3⟩
        have z3 := hb3.size
        simp only [World.size_alloc] at z3
        have o3 := owns_keep (o2.alloc (.cells (bkC ⟨n2, r, n4, D⟩) 46)) hb3
        have g3 : Below w.heap.size w w3 := (g2.alloc (by omega) (.cells (bkC ⟨n2, r, n4, D⟩) 46)).trans (hb3.mono (by simp; omega))
        clear hb3 o2 g2 hX hF cT
        go_wp2_with (at_builtin; go_must (refine wpList_ap _ rfl _ _ 35 rfl (w.heap.size) 9 i _ 1 16 Tryz.underlying35 hi hz0 hz1 hz2 rfl (by omega) _ _ _ rfl (o3.alloc _) _ 1 1 [sv t] rfl (Sl.newAt w3 #[sv t] _ 1 1 (by first | rfl | simp) (by simp) (by omega)) (by simp [Value.oneCell']) hm1 hm2 ?_ ?_))
        try (case refine_1 => first | omega | (simp <;> omega; done))
        intro A4 c4 w4 o4 hg4 _
        have g4 := app_below g3 hg4 (by omega) (fun k hk => by have := (o3.lt k hk).1; omega)
        have O4 := Go.Lib.hid o4
        clear hg4 o4 o3
        go_wp2
        go_roundw
        case rel => exact ⟨A4, c4, j + 1, (by rw [HL2.out]), (by rw [HL2.out]; exact hl1), (by rw [HF2.out, List.length_append]; rfl), by go_num, by omega, (by rw [HF2.out, List.length_append, List.map_append]; exact O4.out), g4⟩
        case measure => simp [intOf]; omega
      | none =>
        have hst := lostTo_step_none (fs := fs) (a := (a : Int)) (j := j) hff
        rw [hcast, hff] at cF
        rw [← hcast] at cF
        have HF2 := Go.Lib.hid hst.2
        have HL2 := Go.Lib.hid hst.1
        have hmem := lostTo_mem fs (a : Int) j
        have hpre := lostTo_prefix fs (a : Int) (j + 1) (k - (j + 1))
        rw [show j + 1 + (k - (j + 1)) = k by omega] at hpre
        have HPRE := Go.Lib.hid hpre
        clear hst hff hpre
        generalize hLL : lostTo fs (a : Int) j = L at *
        clear hLL
        cases L with
        | nil =>
          clear hmem HPRE
          go_wp2_with fail
          refine cF.mono ?_
          rintro e w2 ⟨rfl, hb2⟩
          have z2 := hb2.size
          have g2 := hb.trans (hb2.mono (by omega))
          have o2 := (owns_keep o1 hb2).alloc (.cells bkZC 46)
          have O2 := Go.Lib.hid o2
          clear hb2 o1 hb cF o2
          have hX := (Bk.new w2 bkZC 46).cell
          have hF := (Bk.new w2 bkZC 46).free
          unfold ffRes lostV
          go_wp2
          go_roundw
          case rel => exact ⟨A1, c1, j + 1, (by rw [HL2.out, ← hcast]; rfl), (by rw [HL2.out]; exact Nat.le_refl _), (by rw [HF2.out]), by go_num, by omega, (by rw [HF2.out]; exact O2.out), (by repeat (first | (with_reducible exact Below.refl _ _) | (with_reducible assumption) | (with_reducible refine Below.drew ?_) | (with_reducible refine Below.alloc ?_ (by first | omega | (simp <;> omega)) _) | (with_reducible refine Below.setCell ?_ (by first | omega | (simp <;> omega)) _) | (with_reducible refine belowN ?_ _)))⟩
          case measure => simp [intOf]; omega
        | cons q L =>
          have hq0 : (0 : Int) ≤ q := by
            obtain ⟨j', _, h2, _⟩ := hmem q (by simp)
            omega
          have hN : Go.RowKit.Hid (GG = rbRes none) := by
            show _ = _
            obtain ⟨r, hr⟩ := HPRE.out
            rw [HL2.out] at hr
            cases L with
            | nil => exact HG0.out none (group_two (r := r) hr)
            | cons q2 L2 => exact HG0.out none (group_two (n := q) (m := q2) (r := L2 ++ [(a : Int) + (j : Int)] ++ r) (by rw [hr]; simp))
          clear hmem HPRE HL2 HF2 HG0
          go_wp2_with fail
          refine cF.mono ?_
          rintro e w2 ⟨rfl, hb2⟩
          have z2 := hb2.size
          have g2 := hb.trans (hb2.mono (by omega))
          clear hb2 o1 hb cF
          have hX := (Bk.new w2 bkZC 46).cell
          have hF := (Bk.new w2 bkZC 46).free
          unfold ffRes lostV
          go_wp2
          go_ret2
          exact ⟨by rw [hN.out]; rfl, (by repeat (first | (with_reducible exact Below.refl _ _) | (with_reducible assumption) | (with_reducible refine Below.drew ?_) | (with_reducible refine Below.alloc ?_ (by first | omega | (simp <;> omega)) _) | (with_reducible refine Below.setCell ?_ (by first | omega | (simp <;> omega)) _) | (with_reducible refine belowN ?_ _)))⟩
    · have hki : ¬ ((a + j : Nat) : Int) < (m : Int) := by omega
      have hkk : j = k := by omega
      subst hkk
      have hbd := foundTo_bd HO.out (a : Int) j
      have S1 := own_Sl o1
      have HR : Go.RowKit.Hid (∀ w A cap, Sl w A (foundTo fs (a : Int) j).length cap 1 ((foundTo fs (a : Int) j).map sv) → Calls Tryz.prog 61 #[.slice A (foundTo fs (a : Int) j).length cap, sv p] w fun e w' => e = rbRes (rebuildT (foundTo fs (a : Int) j) p) ∧ Below w.heap.size w w') := fun w A cap h => sRebuildText_any _ p A cap w h (by omega) hp (fun t ht => by have := hbd t ht; omega)
      have hLm := lostTo_mem fs (a : Int) j
      have HT := Go.Lib.hid (fun n (h : firstF fs n = none) => txtN_lost (p := p) (a := (a : Int)) (k := j) h)
      have HW := Go.Lib.hid (fun n b (h : firstF fs n = some b) => txtN_some (p := p) (a := (a : Int)) (k := j) h)
      have HONE : Go.RowKit.Hid (∀ n j2, j2 < j → firstF fs ((a : Int) + (j2 : Nat)) = none → lostTo fs a j = [n] → (a : Int) + (j2 : Nat) = n) := fun n j2 h1 h2 h3 => lost_one h1 h2 h3
      have HNE : Go.RowKit.Hid (∀ n m b, firstF fs m = some b → lostTo fs a j = [n] → m ≠ n) := fun n m b h1 h2 => lost_found h2 h1
      have HMM : Go.RowKit.Hid (∀ j2 : Nat, j2 < j → firstF fs ((a : Int) + (j2 : Nat)) = none → (a : Int) + (j2 : Int) ∈ lostTo fs a j) := fun j2 h1 h2 => lostTo_of fs a j j2 h1 h2
      clear hbd o1 hLm
      generalize foundTo fs (a : Int) j = F at *
      generalize lostTo fs (a : Int) j = L at *
      have HST := Go.Lib.hid (fun n => catTo_stop (f := fun j2 => txtN fs p a j ((a : Int) + (j2 : Nat))) (n := n))
      have HSP := Go.Lib.hid (fun (n : Nat) (x t : Bs) => catTo_step (f := fun j2 => txtN fs p a j ((a : Int) + (j2 : Nat))) (n := n) (x := x) (t := t))
      have HC0 : Go.RowKit.Hid (catTo (fun j2 => txtN fs p a j ((a : Int) + (j2 : Nat))) 0 = some []) := rfl
      go_wp2
      go_loopw [15, 16] (fun v x wr => ∃ (X : Bs) (q : Nat), v = sv X ∧ x = .int .i64 ((a + q : Nat) : Int) ∧ q ≤ j ∧ X.length ≤ 74 * q ∧ Go.RowKit.Hid (catTo (fun j2 => txtN fs p a j ((a : Int) + (j2 : Nat))) q = some X) ∧ Sl wr A1 F.length c1 1 (F.map sv) ∧ Below w.heap.size w wr) (fun _ x _ => m - (intOf x).toNat)
      case atStart => exact ⟨[], 0, rfl, rfl, by omega, by simp, HC0, S1, hb⟩
      case round =>
        obtain ⟨X, q, rfl, rfl, hq, hXl, HX, S2, hb⟩ := hrel
        have hz := hb.size
        clear S1 HC0
        by_cases hlt : q < j
        · have hki : ((a + q : Nat) : Int) < (m : Int) := by omega
          have hcast : (((a + q : Nat) : Int)) = (a : Int) + (q : Int) := by omega
          have cF := HC.out ((a + q : Nat) : Int) wr hb
          cases hff : firstF fs ((a : Int) + (q : Int)) with
          | some b =>
            rw [hcast, hff] at cF
            rw [← hcast] at cF
            have hne : ((a + q : Nat) : Int) ≠ lostV L := by
              cases L with
              | nil => show _ ≠ (-1 : Int); omega
              | cons n L' =>
                cases L' with
                | nil => rw [hcast]; exact HNE.out n _ b hff rfl
                | cons n2 L2 => simp at hl1
            have hd : (((a + q : Nat) : Int) == lostV L) = false := by simpa using hne
            have hbo := HO.out _ _ hff
            have htl := text_bd hbo
            have HX2 := Go.Lib.hid (HSP.out q X b.text HX.out (HW.out _ b hff))
            have cT : Go.RowKit.Hid (∀ w, Calls Tryz.prog 60 #[bkV b] w fun e w' => e = .returned (.string ⟨b.text.toArray⟩) ∧ Below w.heap.size w w') := fun w => l5Text_any b w (ok_smB hbo)
            clear hff hbo HX HSP HW hne
            generalize b.text = t at *
            generalize lostV L = V at *
            obtain ⟨n2, r, n4, D⟩ := b
            go_wp2_with fail
            refine cF.mono ?_
            rintro e w2 ⟨rfl, hb2⟩
            have z2 := hb2.size
            have g2 := hb.trans (hb2.mono (by omega))
            have S3 := (S2.below hb2).alloc (.cells (bkC ⟨n2, r, n4, D⟩) 46)
            clear hb2 hb cF S2
            have hX := (Bk.new w2 (bkC ⟨n2, r, n4, D⟩) 46).cell
            have hF := (Bk.new w2 (bkC ⟨n2, r, n4, D⟩) 46).free
            unfold ffRes
            go_wp2_with fail
            refine (cT.out _).mono ?_
            rintro e w3 ⟨rfl, hb3⟩
            have z3 := hb3.size
            simp only [World.size_alloc] at z3
            have S4 := S3.below hb3
            have g3 : Below w.heap.size w w3 := (g2.alloc (by omega) (.cells (bkC ⟨n2, r, n4, D⟩) 46)).trans (hb3.mono (by simp; omega))
            clear hb3 S3 g2 hX hF cT
            have hq1 : ¬ 9223372036854775807 < X.length + t.length := by omega
            go_wp2
            go_roundw
            case rel => exact ⟨X ++ t, q + 1, by simp [sv], by go_num, by omega, by simp; omega, HX2.out, S4, g3⟩
            case measure => simp [intOf]; omega
          | none =>
            rw [hcast, hff] at cF
            rw [← hcast] at cF
            have hL1 : L = [((a : Int) + (q : Int))] := by
              have h1 := HMM.out q hlt hff
              cases L with
              | nil => cases h1
              | cons n L' =>
                cases L' with
                | nil => simp at h1; rw [h1]
                | cons n2 L2 => simp at hl1
            have hd : (((a + q : Nat) : Int) == lostV L) = true := by rw [hL1, hcast]; simp [lostV]
            have HTN : Go.RowKit.Hid (txtN fs p a j ((a : Int) + (q : Nat)) = builtOf F p ((a + q : Nat) : Int)) := by
              show _ = _
              rw [HT.out _ hff, if_pos hL1, hcast]
            have cT : Go.RowKit.Hid (∀ w, Calls Tryz.prog 60 #[.agg bkZC] w fun e w' => e = .returned (.string ⟨bkZ.text.toArray⟩) ∧ Below w.heap.size w w') := fun w => l5Text_any bkZ w bkZ_sm
            clear hff hL1 HMM HNE HONE HT HW
            generalize bkZ.text = T0 at *
            generalize lostV L = V at *
            go_wp2_with fail
            refine cF.mono ?_
            rintro e w2 ⟨rfl, hb2⟩
            have z2 := hb2.size
            have g2 := hb.trans (hb2.mono (by omega))
            have S3 := (S2.below hb2).alloc (.cells bkZC 46)
            clear hb2 hb cF S2
            have hX := (Bk.new w2 bkZC 46).cell
            have hF := (Bk.new w2 bkZC 46).free
            unfold ffRes
            go_wp2_with fail
            refine (cT.out _).mono ?_
            rintro e w3 ⟨rfl, hb3⟩
            have z3 := hb3.size
            simp only [World.size_alloc] at z3
            have S4 := S3.below hb3
            have g3 : Below w.heap.size w w3 := (g2.alloc (by omega) (.cells bkZC 46)).trans (hb3.mono (by simp; omega))
            clear hb3 S3 g2 hX hF cT
            have cR := HR.out w3 A1 c1 S4
            clear HR
            cases hrb : rebuildT F p with
            | none =>
              have hN : Go.RowKit.Hid (GG = rbRes none) := HG0.out none (HST.out q (HTN.out.trans (built_none hrb)) j hlt)
              rw [hrb] at cR
              have cP := fun w => sParse_no [] 0 w (by simp) (by omega) (by omega) parse_nil
              clear hrb HTN HST HSP HX HG0
              go_wp2_with fail
              refine cR.mono ?_
              rintro e w4 ⟨rfl, hb4⟩
              have z4 := hb4.size
              have g4 := g3.trans (hb4.mono (by omega))
              clear cR hb4 g3 S4
              unfold rbRes
              go_wp2_with fail
              refine (cP _).mono ?_
              rintro e w5 ⟨rfl, hb5⟩
              have z5 := hb5.size
              have g5 := g4.trans (hb5.mono (by omega))
              clear cP hb5 g4
              have hX := (Bk.new w5 bkZC 46).cell
              have hF := (Bk.new w5 bkZC 46).free
              go_wp2
              go_ret2
              exact ⟨by rw [hN.out]; rfl, (by repeat (first | (with_reducible exact Below.refl _ _) | (with_reducible assumption) | (with_reducible refine Below.drew ?_) | (with_reducible refine Below.alloc ?_ (by first | omega | (simp <;> omega)) _) | (with_reducible refine Below.setCell ?_ (by first | omega | (simp <;> omega)) _) | (with_reducible refine belowN ?_ _)))⟩
            | some t =>
              have hbs := built_some (n := ((a + q : Nat) : Int)) hrb
              have htl := rebuild_len hrb
              have HBL : Go.RowKit.Hid (builtOf F p ((a + q : Nat) : Int) = some t → t.length ≤ 74) := built_len
              rw [hrb] at cR
              have HN0 : Go.RowKit.Hid (builtOf F p ((a + q : Nat) : Int) = none → GG = rbRes none) := fun h => HG0.out none (HST.out q (HTN.out.trans h) j hlt)
              have HS0 : Go.RowKit.Hid (builtOf F p ((a + q : Nat) : Int) = some t → catTo (fun j2 => txtN fs p a j ((a : Int) + (j2 : Nat))) (q + 1) = some (X ++ t)) := fun h => HSP.out q X t HX.out (HTN.out.trans h)
              clear hrb HTN HST HSP HX
              generalize builtOf F p ((a + q : Nat) : Int) = BO at *
              go_wp2_with fail
              refine cR.mono ?_
              rintro e w4 ⟨rfl, hb4⟩
              have z4 := hb4.size
              have g4 := g3.trans (hb4.mono (by omega))
              have S5 := S4.below hb4
              clear cR hb4 g3 S4
              unfold rbRes
              by_cases hp1 : parseOk t 0 = true
              · have cP := fun w => sParse_yes t 0 w (by omega) (by omega) (by omega) hp1
                have hpb := parse_bd hp1
                have hsz := Blk.ok_size hpb.2.2.2
                have HGG : Go.RowKit.Hid (BO = if (blkAt t 0).num = ((a + q : Nat) : Int) ∧ endAt t 0 = t.length then some t else none) := by
                  show _ = _
                  rw [hbs]
                  simp only [hp1, true_and]
                clear hbs hp1
                generalize blkAt t 0 = b at *
                generalize endAt t 0 = x at *
                obtain ⟨n2, r, n4, D⟩ := b
                simp only at hsz HGG
                go_wp2_with fail
                refine (cP _).mono ?_
                rintro e w5 ⟨rfl, hb5⟩
                have z5 := hb5.size
                have g5 := g4.trans (hb5.mono (by omega))
                have S5' := S5.below hb5
                clear cP hb5 g4 S5
                by_cases hne : n2 = (a : Int) + (q : Int)
                · subst hne
                  have S6 := S5'.alloc (.cells (bkC ⟨(a : Int) + (q : Int), r, n4, D⟩) 46)
                  have hX := (Bk.new w5 (bkC ⟨(a : Int) + (q : Int), r, n4, D⟩) 46).cell
                  have hF := (Bk.new w5 (bkC ⟨(a : Int) + (q : Int), r, n4, D⟩) 46).free
                  by_cases hxe : x = t.length
                  · have hd1 : (x != (t.length : Int)) = false := by simpa using hxe
                    have HB1 := HGG.out.trans (if_pos ⟨hcast.symm, hxe⟩)
                    have HS1 := Go.Lib.hid (HS0.out HB1)
                    have htl2 := HBL.out HB1
                    clear hxe HGG HB1 HS0 HN0
                    have hq1 : ¬ 9223372036854775807 < X.length + t.length := by omega
                    go_wp2
                    go_roundw
                    case rel => exact ⟨X ++ t, q + 1, by simp [sv], by go_num, by omega, by simp; omega, HS1.out, S6, (by repeat (first | (with_reducible exact Below.refl _ _) | (with_reducible assumption) | (with_reducible refine Below.drew ?_) | (with_reducible refine Below.alloc ?_ (by first | omega | (simp <;> omega)) _) | (with_reducible refine Below.setCell ?_ (by first | omega | (simp <;> omega)) _) | (with_reducible refine belowN ?_ _)))⟩
                    case measure => simp [intOf]; omega
                  · have hd1 : (x != (t.length : Int)) = true := by simpa using hxe
                    have hN := Go.Lib.hid (HN0.out (HGG.out.trans (if_neg (fun h => hxe h.2))))
                    clear hxe HGG HN0 HS0
                    go_wp2
                    go_ret2
                    exact ⟨by rw [hN.out]; rfl, (by repeat (first | (with_reducible exact Below.refl _ _) | (with_reducible assumption) | (with_reducible refine Below.drew ?_) | (with_reducible refine Below.alloc ?_ (by first | omega | (simp <;> omega)) _) | (with_reducible refine Below.setCell ?_ (by first | omega | (simp <;> omega)) _) | (with_reducible refine belowN ?_ _)))⟩
                · have hX := (Bk.new w5 (bkC ⟨n2, r, n4, D⟩) 46).cell
                  have hF := (Bk.new w5 (bkC ⟨n2, r, n4, D⟩) 46).free
                  have hN := Go.Lib.hid (HN0.out (HGG.out.trans (if_neg (fun h => hne (h.1.trans hcast)))))
                  clear HGG HN0 HS0
                  go_wp2
                  go_ret2
                  exact ⟨by rw [hN.out]; rfl, (by repeat (first | (with_reducible exact Below.refl _ _) | (with_reducible assumption) | (with_reducible refine Below.drew ?_) | (with_reducible refine Below.alloc ?_ (by first | omega | (simp <;> omega)) _) | (with_reducible refine Below.setCell ?_ (by first | omega | (simp <;> omega)) _) | (with_reducible refine belowN ?_ _)))⟩
              · have cP := fun w => sParse_no t 0 w (by omega) (by omega) (by omega) (by simpa using hp1)
                have hN := Go.Lib.hid (HN0.out (hbs.trans (if_neg (fun h => hp1 h.1))))
                clear hbs HN0 HS0 hp1
                go_wp2_with fail
                refine (cP _).mono ?_
                rintro e w5 ⟨rfl, hb5⟩
                have z5 := hb5.size
                have g5 := g4.trans (hb5.mono (by omega))
                clear cP hb5 g4
                have hX := (Bk.new w5 bkZC 46).cell
                have hF := (Bk.new w5 bkZC 46).free
                go_wp2
                go_ret2
                exact ⟨by rw [hN.out]; rfl, (by repeat (first | (with_reducible exact Below.refl _ _) | (with_reducible assumption) | (with_reducible refine Below.drew ?_) | (with_reducible refine Below.alloc ?_ (by first | omega | (simp <;> omega)) _) | (with_reducible refine Below.setCell ?_ (by first | omega | (simp <;> omega)) _) | (with_reducible refine belowN ?_ _)))⟩
        · have hki : ¬ ((a + q : Nat) : Int) < (m : Int) := by omega
          have hqj : q = j := by omega
          subst hqj
          have HE := Go.Lib.hid (HG0.out _ HX.out)
          clear HG0 HX HT HW HST HSP
          go_wp2
          go_ret2
          exact ⟨by rw [HE.out]; rfl, hb⟩
end Go.Proofs.YtgcjfddkgbigoaaGreat
