import Derived.Test.YtinncdollpajkaaGreatVS26
import Derived.Deep.Cut
set_option linter.unusedVariables false
set_option linter.unusedSimpArgs false
set_option maxHeartbeats 8000000
namespace Go.Proofs.YtinncdollpajkaaGreat
open Go.RowKit
set_option maxRecDepth 100000
attribute [local go_sem high] zA zu zy zO zK zX zx zk zn zq zi zo yQ zC yf zD
attribute [local go_sem high] qx qB
theorem Yq {fs : List Fl} (n X : Bs) {k : Nat} (h : k < fs.length) {a : Bool × List Fl} (ha : (fs.take k).foldl (yM n X) (false, []) = a) : (fs.take (k + 1)).foldl (yM n X) (false, []) = yM n X a fs[k] := by
 rw [List.take_succ_eq_append_getElem h, List.foldl_append, ha]; rfl
theorem gB (n X : Bs) : ∀ (l : List Fl) (a : Bool × List Fl), (l.foldl (yM n X) a).2.length + (if a.1 then 1 else 0) ≤ a.2.length + l.length + (if (l.foldl (yM n X) a).1 then 1 else 0)
  | [], a => by rw [List.foldl_nil, List.length_nil]; omega
  | f :: l, a => by
    have h := gB n X l (yM n X a f)
    have h2 := (fB n X a f).1
    rw [List.foldl_cons, List.length_cons]
    omega
theorem TE (S : Sto) (n X : Bs) (A : Option Addr) (cap : Nat) (w : World) (hs : Sl w A S.fs.length cap 2 (yj S.fs)) (hl : S.fs.length ≤ 50000) :
    Calls Tryz.prog 88 #[S.V A cap, sv n, sv X] w (StR { S with fs := rP S.fs n X } w) := by
  obtain ⟨i, hi, hz0, hz1, hz2⟩ := info_parts jY
  have hcap := hs.1
  have hcap2 := hs.2.1
  have HSL : Hid (∀ wr, Below w.heap.size w wr → Sl wr A S.fs.length cap 2 (yj S.fs)) := fun wr h => hs.below h
  have HD : Hid (∀ k (h : k < S.fs.length) a, (S.fs.take k).foldl (yM n X) (false, []) = a → (S.fs.take (k + 1)).foldl (yM n X) (false, []) = yM n X a S.fs[k]) := fun k h a ha => Yq n X h ha
  have HE : Hid (∀ k a, ¬ k < S.fs.length → (S.fs.take k).foldl (yM n X) (false, []) = a → qN n X a = rP S.fs n X) := fun k a h ha => by rw [← Oe, ← ha, List.take_of_length_le (by omega)]
  clear hs
  obtain ⟨o, l, m, dict, fs⟩ := S
  simp only at *
  unfold StR
  go_enter Tryz.func88, Tryz.ntmps88
  have hA : Bk (((w.alloc (.cells (Sto.C ⟨o, l, m, dict, fs⟩ A cap) 27)).alloc (.cells xw 27)).alloc (.cells #[.int .i64 o, .int .i64 l, .int .i64 m, .string ⟨dict.toArray⟩, .slice none 0 0] 27)) w.heap.size 27 (Sto.C ⟨o, l, m, dict, fs⟩ A cap) := tBk
  have hB : Bk (((w.alloc (.cells (Sto.C ⟨o, l, m, dict, fs⟩ A cap) 27)).alloc (.cells xw 27)).alloc (.cells #[.int .i64 o, .int .i64 l, .int .i64 m, .string ⟨dict.toArray⟩, .slice none 0 0] 27)) (w.heap.size + 1) 27 xw := tBk
  have hC : Bk (((w.alloc (.cells (Sto.C ⟨o, l, m, dict, fs⟩ A cap) 27)).alloc (.cells xw 27)).alloc (.cells #[.int .i64 o, .int .i64 l, .int .i64 m, .string ⟨dict.toArray⟩, .slice none 0 0] 27)) (w.heap.size + 1 + 1) 27 #[.int .i64 o, .int .i64 l, .int .i64 m, .string ⟨dict.toArray⟩, .slice none 0 0] := tBk
  have g0 : Below w.heap.size w (((w.alloc (.cells (Sto.C ⟨o, l, m, dict, fs⟩ A cap) 27)).alloc (.cells xw 27)).alloc (.cells #[.int .i64 o, .int .i64 l, .int .i64 m, .string ⟨dict.toArray⟩, .slice none 0 0] 27)) := zH
  have o0 : (((w.alloc (.cells (Sto.C ⟨o, l, m, dict, fs⟩ A cap) 27)).alloc (.cells xw 27)).alloc (.cells #[.int .i64 o, .int .i64 l, .int .i64 m, .string ⟨dict.toArray⟩, .slice none 0 0] 27)).ownsRow (w.heap.size + 3) 40 2 (.slice none ([] : List Fl).length 0) ([] : List Fl).length (yj []) := ⟨by simp [yj], .inl ⟨rfl, rfl⟩⟩
  simp only [Sto.C] at hA hB hC g0 o0
  go_upto_region 2 with (fail)
  generalize ((w.alloc (.cells #[.int .i64 o, .int .i64 l, .int .i64 m, .string ⟨dict.toArray⟩, .slice A fs.length cap] 27)).alloc (.cells xw 27)).alloc (.cells #[.int .i64 o, .int .i64 l, .int .i64 m, .string ⟨dict.toArray⟩, .slice none 0 0] 27) = w0 at *
  go_wp2
  go_loopw [8, 9] (fun d a wr => ∃ (k : Nat) (dn : Bool) (P : List Fl) (Ao : Option Addr) (co : Nat), d = .bool dn ∧ a = .int .i64 (k : Int) ∧ k ≤ fs.length ∧ P.length ≤ k + 1 ∧ Hid ((fs.take k).foldl (yM n X) (false, []) = (dn, P)) ∧ wr.ownsRow (w.heap.size + 3) 40 2 (.slice Ao P.length co) P.length (yj P) ∧ Bk wr w.heap.size 27 #[.int .i64 o, .int .i64 l, .int .i64 m, .string ⟨dict.toArray⟩, .slice A fs.length cap] ∧ Bk wr (w.heap.size + 1) 27 xw ∧ Bk wr (w.heap.size + 1 + 1) 27 #[.int .i64 o, .int .i64 l, .int .i64 m, .string ⟨dict.toArray⟩, .slice Ao P.length co] ∧ Below w.heap.size w wr) (fun _ a _ => fs.length - (intOf a).toNat)
  case atStart => exact ⟨0, false, [], none, 0, rfl, rfl, by omega, by simp, rfl, o0, hA, hB, hC, g0⟩
  case round =>
    obtain ⟨k, dn, P, Ao, co, rfl, rfl, hk, hP, HP, ow, hA1, hB1, hC1, g⟩ := hrel
    clear hA hB hC g0 o0
    have hz := g.size
    have hCl := hC1.lt
    have hXA := hA1.cell
    have hXC := hC1.cell
    by_cases hlt : k < fs.length
    · have hki : (k : Int) < fs.length := by omega
      obtain ⟨g2, off, rfl, hgw, cw0, cw1⟩ := (HSL.out w (Below.refl _ _)).fl hlt
      have c0 := (g.cell (p := ⟨g2, off + k * 2, none⟩) hgw).trans cw0
      have c1 := (g.cell (p := ⟨g2, off + k * 2 + 1, none⟩) hgw).trans cw1
      have hg : g2 < wr.heap.size := by omega
      have HDk := Go.Lib.hid (HD.out k hlt _ HP.out)
      have hle := fB n X (dn, P) fs[k]
      generalize hfk : fs[k] = f at *
      obtain ⟨fa, fb⟩ := f
      simp only at c0 c1 cw0 cw1
      clear hfk HP
      obtain ⟨Q, hQ⟩ : ∃ Q, yM n X (dn, P) (fa, fb) = Q := ⟨_, rfl⟩
      rw [hQ] at HDk hle
      have hQl : Q.2.length ≤ k + 2 := by have := gB n X (fs.take (k + 1)) (false, []); rw [HDk.out, List.length_take] at this; simp only [Bool.false_eq_true, if_false, List.length_nil] at this; split at this <;> omega
      by_cases hin : dn = false ∧ Op.bytesLess fa n = false
      · obtain ⟨rfl, hlf⟩ := hin
        by_cases he : fa = n
        · have hQe : Q = (true, P ++ [(n, X)]) := by rw [← hQ]; subst he; have hl9 : ltS fa fa = false := hlf; unfold yM; simp [hl9]
          have hd : decide (fa = n) = true := by simpa using he
          have hd2 : (fa != n) = false := by simpa using he
          have HQ := Go.Lib.hid hQe
          clear hQ hQe hle he
          have hpm1 : P.length + 1 ≤ maxLen := by unfold maxLen; omega
          have hpm2 : (P.length + 1) * 32 ≤ 140737488355328 := by omega
          go_wp2_with (at_builtin; go_must (refine yh _ rfl _ _ 25 rfl (w.heap.size + 3) 40 i _ 2 32 Tryz.underlying25 hi hz0 hz1 hz2 rfl (by omega) _ _ _ rfl (ow.alloc _) _ 1 1 [.string ⟨n.toArray⟩, .string ⟨X.toArray⟩] rfl (Sl.newAt wr #[.string ⟨n.toArray⟩, .string ⟨X.toArray⟩] _ 1 2 (by first | rfl | simp) (by simp) (by omega)) (by simp [Value.oneCell']) hpm1 hpm2 ?_ ?_))
          try (case refine_1 => first | omega | (simp <;> omega; done))
          intro Ai ci w5 o5 hg5 _
          have hr5 : ∀ k, (Value.slice Ao P.length co).ownBlock = some k → w.heap.size + 3 ≤ k := fun k hk => (ow.lt k hk).1
          have hA5 := Bk.grown (hA1.alloc _) hg5 (fun k hk => by have := hr5 k hk; omega)
          have hB5 := Bk.grown (hB1.alloc _) hg5 (fun k hk => by have := hr5 k hk; omega)
          have hC5 := Bk.grown (hC1.alloc _) hg5 (fun k hk => by have := hr5 k hk; omega)
          have g5 := (g.alloc (by omega) _).grown hg5 (by simp; omega) (fun k hk => by have := hr5 k hk; omega)
          have hX5 := hC5.cell
          have hF5 := hC5.free
          have hPl : (P ++ [(n, X)]).length = P.length + 1 := by simp
          have o6 := ownsRow_setCell_below (a := ⟨w.heap.size + 1 + 1, 4, none⟩) o5 (by show w.heap.size + 1 + 1 < w.heap.size + 3; omega) (.slice Ai (P.length + 1) ci)
          have hA6 := hA5.far (p := ⟨w.heap.size + 1 + 1, 4, none⟩) (by show w.heap.size ≠ w.heap.size + 1 + 1; omega) (.slice Ai (P.length + 1) ci)
          have hB6 := hB5.far (p := ⟨w.heap.size + 1 + 1, 4, none⟩) (by show w.heap.size + 1 ≠ w.heap.size + 1 + 1; omega) (.slice Ai (P.length + 1) ci)
          have hC6 := hC5.set 4 (.slice Ai (P.length + 1) ci)
          have g6 := g5.setCell (p := ⟨w.heap.size + 1 + 1, 4, none⟩) (by show w.heap.size ≤ w.heap.size + 1 + 1; omega) (.slice Ai (P.length + 1) ci)
          have o7 : (w5.setCell ⟨w.heap.size + 1 + 1, 4, none⟩ (.slice Ai (P.length + 1) ci)).ownsRow (w.heap.size + 3) 40 2 (.slice Ai (P ++ [(n, X)]).length ci) (P ++ [(n, X)]).length (yj (P ++ [(n, X)])) := by rw [hPl, uw]; exact o6
          have hC7 : Bk (w5.setCell ⟨w.heap.size + 1 + 1, 4, none⟩ (.slice Ai (P.length + 1) ci)) (w.heap.size + 1 + 1) 27 #[.int .i64 o, .int .i64 l, .int .i64 m, .string ⟨dict.toArray⟩, .slice Ai (P ++ [(n, X)]).length ci] := by rw [hPl]; exact hC6
          go_upto_region 9 with (fail)
          generalize w5.setCell ⟨w.heap.size + 1 + 1, 4, none⟩ (.slice Ai (P.length + 1) ci) = wr at *
          clear hA5 hB5 hC5 g5 hX5 hF5 o5 o6 hg5 hr5 hC6 hA1 hB1 hC1 ow g hXA hXC c0 c1 hg
          have hPb : (P ++ [(n, X)]).length ≤ 100002 := by omega
          clear hPl hpm1 hpm2
          generalize P ++ [(n, X)] = P at *
          obtain ⟨Ao, hAo⟩ : ∃ x, x = Ai := ⟨_, rfl⟩
          obtain ⟨co, hco⟩ : ∃ x, x = ci := ⟨_, rfl⟩
          subst hAo hco
          have ow := o7
          have hA1 := hA6
          have hB1 := hB6
          have hC1 := hC7
          have g := g6
          clear o7 hA6 hB6 hC7 g6
          have hz := g.size
          have hCl := hC1.lt
          have hXA := hA1.cell
          have hXC := hC1.cell
          have c0 := (g.cell (p := ⟨g2, off + k * 2, none⟩) hgw).trans cw0
          have c1 := (g.cell (p := ⟨g2, off + k * 2 + 1, none⟩) hgw).trans cw1
          have hg : g2 < wr.heap.size := by omega
          have hm1 : P.length + 1 ≤ maxLen := by unfold maxLen; omega
          have hm2 : (P.length + 1) * 32 ≤ 140737488355328 := by omega
          go_wp2
          go_roundw
          case rel => exact ⟨k + 1, _, P, _, _, rfl, by go_num, by omega, by (have h9 := hQl; rw [HQ.out] at h9; exact h9), by show _ = _; rw [HDk.out, HQ.out], ow, hA1, hB1, hC1, g⟩
          case measure => simp [intOf]; omega
        · have hQe : Q = (true, P ++ [(n, X)] ++ [(fa, fb)]) := by rw [← hQ]; have hl9 : ltS fa n = false := hlf; unfold yM; simp [hl9, he]
          have hd : decide (fa = n) = false := by simpa using he
          have hd2 : (fa != n) = true := by simpa using he
          have HQ := Go.Lib.hid hQe
          clear hQ hQe hle he
          have hpm1 : P.length + 1 ≤ maxLen := by unfold maxLen; omega
          have hpm2 : (P.length + 1) * 32 ≤ 140737488355328 := by omega
          go_wp2_with (at_builtin; go_must (refine yh _ rfl _ _ 25 rfl (w.heap.size + 3) 40 i _ 2 32 Tryz.underlying25 hi hz0 hz1 hz2 rfl (by omega) _ _ _ rfl (ow.alloc _) _ 1 1 [.string ⟨n.toArray⟩, .string ⟨X.toArray⟩] rfl (Sl.newAt wr #[.string ⟨n.toArray⟩, .string ⟨X.toArray⟩] _ 1 2 (by first | rfl | simp) (by simp) (by omega)) (by simp [Value.oneCell']) hpm1 hpm2 ?_ ?_))
          try (case refine_1 => first | omega | (simp <;> omega; done))
          intro Ai ci w5 o5 hg5 _
          have hr5 : ∀ k, (Value.slice Ao P.length co).ownBlock = some k → w.heap.size + 3 ≤ k := fun k hk => (ow.lt k hk).1
          have hA5 := Bk.grown (hA1.alloc _) hg5 (fun k hk => by have := hr5 k hk; omega)
          have hB5 := Bk.grown (hB1.alloc _) hg5 (fun k hk => by have := hr5 k hk; omega)
          have hC5 := Bk.grown (hC1.alloc _) hg5 (fun k hk => by have := hr5 k hk; omega)
          have g5 := (g.alloc (by omega) _).grown hg5 (by simp; omega) (fun k hk => by have := hr5 k hk; omega)
          have hX5 := hC5.cell
          have hF5 := hC5.free
          have hPl : (P ++ [(n, X)]).length = P.length + 1 := by simp
          have o6 := ownsRow_setCell_below (a := ⟨w.heap.size + 1 + 1, 4, none⟩) o5 (by show w.heap.size + 1 + 1 < w.heap.size + 3; omega) (.slice Ai (P.length + 1) ci)
          have hA6 := hA5.far (p := ⟨w.heap.size + 1 + 1, 4, none⟩) (by show w.heap.size ≠ w.heap.size + 1 + 1; omega) (.slice Ai (P.length + 1) ci)
          have hB6 := hB5.far (p := ⟨w.heap.size + 1 + 1, 4, none⟩) (by show w.heap.size + 1 ≠ w.heap.size + 1 + 1; omega) (.slice Ai (P.length + 1) ci)
          have hC6 := hC5.set 4 (.slice Ai (P.length + 1) ci)
          have g6 := g5.setCell (p := ⟨w.heap.size + 1 + 1, 4, none⟩) (by show w.heap.size ≤ w.heap.size + 1 + 1; omega) (.slice Ai (P.length + 1) ci)
          have o7 : (w5.setCell ⟨w.heap.size + 1 + 1, 4, none⟩ (.slice Ai (P.length + 1) ci)).ownsRow (w.heap.size + 3) 40 2 (.slice Ai (P ++ [(n, X)]).length ci) (P ++ [(n, X)]).length (yj (P ++ [(n, X)])) := by rw [hPl, uw]; exact o6
          have hC7 : Bk (w5.setCell ⟨w.heap.size + 1 + 1, 4, none⟩ (.slice Ai (P.length + 1) ci)) (w.heap.size + 1 + 1) 27 #[.int .i64 o, .int .i64 l, .int .i64 m, .string ⟨dict.toArray⟩, .slice Ai (P ++ [(n, X)]).length ci] := by rw [hPl]; exact hC6
          go_upto_region 9 with (fail)
          generalize w5.setCell ⟨w.heap.size + 1 + 1, 4, none⟩ (.slice Ai (P.length + 1) ci) = wr at *
          clear hA5 hB5 hC5 g5 hX5 hF5 o5 o6 hg5 hr5 hC6 hA1 hB1 hC1 ow g hXA hXC c0 c1 hg
          have hPb : (P ++ [(n, X)]).length ≤ 100002 := by omega
          clear hPl hpm1 hpm2
          generalize P ++ [(n, X)] = P at *
          obtain ⟨Ao, hAo⟩ : ∃ x, x = Ai := ⟨_, rfl⟩
          obtain ⟨co, hco⟩ : ∃ x, x = ci := ⟨_, rfl⟩
          subst hAo hco
          have ow := o7
          have hA1 := hA6
          have hB1 := hB6
          have hC1 := hC7
          have g := g6
          clear o7 hA6 hB6 hC7 g6
          have hz := g.size
          have hCl := hC1.lt
          have hXA := hA1.cell
          have hXC := hC1.cell
          have c0 := (g.cell (p := ⟨g2, off + k * 2, none⟩) hgw).trans cw0
          have c1 := (g.cell (p := ⟨g2, off + k * 2 + 1, none⟩) hgw).trans cw1
          have hg : g2 < wr.heap.size := by omega
          have hm1 : P.length + 1 ≤ maxLen := by unfold maxLen; omega
          have hm2 : (P.length + 1) * 32 ≤ 140737488355328 := by omega
          go_upto_region 10 with (fail)
          have HW : Hid (∀ w', Below wr.heap.size wr w' → (w'.cell? ⟨w.heap.size + 1 + 1, 4, none⟩ = some (.slice Ao P.length co) ∧ w'.cell? ⟨w.heap.size, 4, none⟩ = some (.slice (some ⟨g2, off, none⟩) fs.length cap) ∧ w'.cell? ⟨g2, off + k * 2, none⟩ = some (.string ⟨fa.toArray⟩) ∧ w'.cell? ⟨g2, off + k * 2 + 1, none⟩ = some (.string ⟨fb.toArray⟩))) := fun w' h => ⟨(h.cell (p := ⟨_, _, _⟩) (by first | assumption | (simp only; omega) | omega)).trans (hXC 4), (h.cell (p := ⟨_, _, _⟩) (by first | assumption | (simp only; omega) | omega)).trans (hXA 4), (h.cell (p := ⟨_, _, _⟩) (by first | assumption | (simp only; omega) | omega)).trans (c0), (h.cell (p := ⟨_, _, _⟩) (by first | assumption | (simp only; omega) | omega)).trans (c1)⟩
          clear hXA hXC
          refine yx 10 (fun w' => w'.cell? ⟨w.heap.size + 1 + 1, 4, none⟩ = some (.slice Ao P.length co) ∧ w'.cell? ⟨w.heap.size, 4, none⟩ = some (.slice (some ⟨g2, off, none⟩) fs.length cap) ∧ w'.cell? ⟨g2, off + k * 2, none⟩ = some (.string ⟨fa.toArray⟩) ∧ w'.cell? ⟨g2, off + k * 2 + 1, none⟩ = some (.string ⟨fb.toArray⟩)) (by kernel_rfl) (by kernel_rfl) (by first | (exact HW.out _ wG) | go_keep) (fun hSS => ?_)
          simp only [List.take_succ_cons, List.take_zero]
          refine tk 0 ?_
          try simp only [Act.put, u2, u3, u4]
          refine tk 1 ?_
          try simp only [Act.put, u2, u3, u4]
          refine tk 2 ?_
          try simp only [Act.put, u2, u3, u4]
          refine tk 3 ?_
          try simp only [Act.put, u2, u3, u4]
          refine tk 4 ?_
          try simp only [Act.put, u2, u3, u4]
          refine tk 5 ?_
          try simp only [Act.put, u2, u3, u4]
          refine tk 6 ?_
          try simp only [Act.put, u2, u3, u4]
          refine rd1 7 fun KK hKK => ?_
          go_simp
          refine hKK.out _ _ (by first | (exact HW.out _ wG) | go_keep) fun hSS => ?_
          try simp only [Act.put, u2, u3, u4]
          refine rd1 8 fun KK hKK => ?_
          ((refine uY _ rfl _ _ 25 rfl (w.heap.size + 3) 40 i _ 2 32 Tryz.underlying25 hi hz0 hz1 hz2 rfl (by omega) (.slice Ao P.length co) P.length (yj P) rfl (ow.alloc _) (some ⟨_, 0, none⟩) 1 1 [.string ⟨fa.toArray⟩, .string ⟨fb.toArray⟩] rfl (Sl.new wr #[.string ⟨fa.toArray⟩, .string ⟨fb.toArray⟩] _ 1 2 (by simp) (by omega)) (by simp [Value.oneCell']) hm1 hm2 (by first | omega | (simp <;> omega)) ?_); intro A5 c5 w5 o5 hg5 _; have hg5 := uG hg5; have hr5 : ∀ k, (Value.slice Ao P.length co).ownBlock = some k → w.heap.size + 3 ≤ k := fun k hk => (ow.lt k hk).1; have hA5 := Bk.grown (hA1.alloc _) hg5 (fun k hk => by have := hr5 k hk; omega); have hB5 := Bk.grown (hB1.alloc _) hg5 (fun k hk => by have := hr5 k hk; omega); have hC5 := Bk.grown (hC1.alloc _) hg5 (fun k hk => by have := hr5 k hk; omega); have g5 := (g.alloc (by omega) _).grown hg5 (by simp; omega) (fun k hk => by have := hr5 k hk; omega); have hX5 := hC5.cell; have hF5 := hC5.free; have hY5 := hA5.cell; have d0 := (g5.cell (p := ⟨g2, off + k * 2, none⟩) hgw).trans cw0; have d1 := (g5.cell (p := ⟨g2, off + k * 2 + 1, none⟩) hgw).trans cw1)
          refine hKK.out _ _ (by first | (exact HW.out _ wG) | go_keep) fun hSS => ?_
          try simp only [Act.put, u2, u3, u4]
          refine tk 9 ?_
          try simp only [Act.put, u2, u3, u4]
          refine wpAnyH_done (by kernel_rfl) ?_ _
          refine zZ ?_
          refine wpOp_step (o := _) rfl (fun KK hKK => ?_)
          go_simp
          refine hKK _ _ (NoPanic.normal ?_)
          try simp only [Act.put, u2, u3, u4]
          have hPl : (P ++ [(fa, fb)]).length = P.length + 1 := by simp
          have o6 := ownsRow_setCell_below (a := ⟨w.heap.size + 1 + 1, 4, none⟩) o5 (by show w.heap.size + 1 + 1 < w.heap.size + 3; omega) (.slice A5 (P.length + 1) c5)
          have hA6 := hA5.far (p := ⟨w.heap.size + 1 + 1, 4, none⟩) (by show w.heap.size ≠ w.heap.size + 1 + 1; omega) (.slice A5 (P.length + 1) c5)
          have hB6 := hB5.far (p := ⟨w.heap.size + 1 + 1, 4, none⟩) (by show w.heap.size + 1 ≠ w.heap.size + 1 + 1; omega) (.slice A5 (P.length + 1) c5)
          have hC6 := hC5.set 4 (.slice A5 (P.length + 1) c5)
          have g6 := g5.setCell (p := ⟨w.heap.size + 1 + 1, 4, none⟩) (by show w.heap.size ≤ w.heap.size + 1 + 1; omega) (.slice A5 (P.length + 1) c5)
          have o7 : (w5.setCell ⟨w.heap.size + 1 + 1, 4, none⟩ (.slice A5 (P.length + 1) c5)).ownsRow (w.heap.size + 3) 40 2 (.slice A5 (P ++ [(fa, fb)]).length c5) (P ++ [(fa, fb)]).length (yj (P ++ [(fa, fb)])) := by rw [hPl, uw]; exact o6
          have hC7 : Bk (w5.setCell ⟨w.heap.size + 1 + 1, 4, none⟩ (.slice A5 (P.length + 1) c5)) (w.heap.size + 1 + 1) 27 #[.int .i64 o, .int .i64 l, .int .i64 m, .string ⟨dict.toArray⟩, .slice A5 (P ++ [(fa, fb)]).length c5] := by rw [hPl]; exact hC6
          have HPL := Go.Lib.hid hPl
          clear hA5 hB5 hC5 g5 hX5 hF5 o5 o6 hg5 hA1 hB1 hC1 ow g hr5
          clear hPl hC6
          go_wp2_with fail
          go_roundw
          case rel => exact ⟨k + 1, _, P ++ [(fa, fb)], A5, c5, rfl, by go_num, by omega, by (have h9 := hQl; rw [HQ.out] at h9; exact h9), by show _ = _; rw [HDk.out, HQ.out], o7, hA6, hB6, hC7, g6⟩
          case measure => simp [intOf]; omega
      · have hnn : (!dn && !(Op.bytesLess fa n)) = false := by cases dn <;> simp_all
        have hstp : Q = (dn, if fa ≠ n then P ++ [(fa, fb)] else P) := by rw [← hQ]; unfold yM; simp only; rw [if_neg hin]
        cases dn with
        | false =>
          have hlf : Op.bytesLess fa n = true := by simpa using hin
          by_cases he : fa = n
          · have hQe : Q = (false, P) := by rw [hstp, if_neg (by simpa using he)]
            have hd : decide (fa = n) = true := by simpa using he
            have hd2 : (fa != n) = false := by simpa using he
            have HQ := Go.Lib.hid hQe
            clear hQ hQe hle he hstp hin
            go_wp2
            go_roundw
            case rel => exact ⟨k + 1, _, P, _, _, rfl, by go_num, by omega, by (have h9 := hQl; rw [HQ.out] at h9; exact h9), by show _ = _; rw [HDk.out, HQ.out], ow, hA1, hB1, hC1, g⟩
            case measure => simp [intOf]; omega
          · have hQe : Q = (false, P ++ [(fa, fb)]) := by rw [hstp, if_pos he]
            have hd : decide (fa = n) = false := by simpa using he
            have hd2 : (fa != n) = true := by simpa using he
            have HQ := Go.Lib.hid hQe
            clear hQ hQe hle he hstp hin
            have hm1 : P.length + 1 ≤ maxLen := by unfold maxLen; omega
            have hm2 : (P.length + 1) * 32 ≤ 140737488355328 := by omega
            go_upto_region 10 with (fail)
            have HW : Hid (∀ w', Below wr.heap.size wr w' → (w'.cell? ⟨w.heap.size + 1 + 1, 4, none⟩ = some (.slice Ao P.length co) ∧ w'.cell? ⟨w.heap.size, 4, none⟩ = some (.slice (some ⟨g2, off, none⟩) fs.length cap) ∧ w'.cell? ⟨g2, off + k * 2, none⟩ = some (.string ⟨fa.toArray⟩) ∧ w'.cell? ⟨g2, off + k * 2 + 1, none⟩ = some (.string ⟨fb.toArray⟩))) := fun w' h => ⟨(h.cell (p := ⟨_, _, _⟩) (by first | assumption | (simp only; omega) | omega)).trans (hXC 4), (h.cell (p := ⟨_, _, _⟩) (by first | assumption | (simp only; omega) | omega)).trans (hXA 4), (h.cell (p := ⟨_, _, _⟩) (by first | assumption | (simp only; omega) | omega)).trans (c0), (h.cell (p := ⟨_, _, _⟩) (by first | assumption | (simp only; omega) | omega)).trans (c1)⟩
            clear hXA hXC
            refine yx 10 (fun w' => w'.cell? ⟨w.heap.size + 1 + 1, 4, none⟩ = some (.slice Ao P.length co) ∧ w'.cell? ⟨w.heap.size, 4, none⟩ = some (.slice (some ⟨g2, off, none⟩) fs.length cap) ∧ w'.cell? ⟨g2, off + k * 2, none⟩ = some (.string ⟨fa.toArray⟩) ∧ w'.cell? ⟨g2, off + k * 2 + 1, none⟩ = some (.string ⟨fb.toArray⟩)) (by kernel_rfl) (by kernel_rfl) (by first | (exact HW.out _ wG) | go_keep) (fun hSS => ?_)
            simp only [List.take_succ_cons, List.take_zero]
            refine tk 0 ?_
            try simp only [Act.put, u2, u3, u4]
            refine tk 1 ?_
            try simp only [Act.put, u2, u3, u4]
            refine tk 2 ?_
            try simp only [Act.put, u2, u3, u4]
            refine tk 3 ?_
            try simp only [Act.put, u2, u3, u4]
            refine tk 4 ?_
            try simp only [Act.put, u2, u3, u4]
            refine tk 5 ?_
            try simp only [Act.put, u2, u3, u4]
            refine tk 6 ?_
            try simp only [Act.put, u2, u3, u4]
            refine rd1 7 fun KK hKK => ?_
            go_simp
            refine hKK.out _ _ (by first | (exact HW.out _ wG) | go_keep) fun hSS => ?_
            try simp only [Act.put, u2, u3, u4]
            refine rd1 8 fun KK hKK => ?_
            ((refine uY _ rfl _ _ 25 rfl (w.heap.size + 3) 40 i _ 2 32 Tryz.underlying25 hi hz0 hz1 hz2 rfl (by omega) (.slice Ao P.length co) P.length (yj P) rfl (ow.alloc _) (some ⟨_, 0, none⟩) 1 1 [.string ⟨fa.toArray⟩, .string ⟨fb.toArray⟩] rfl (Sl.new wr #[.string ⟨fa.toArray⟩, .string ⟨fb.toArray⟩] _ 1 2 (by simp) (by omega)) (by simp [Value.oneCell']) hm1 hm2 (by first | omega | (simp <;> omega)) ?_); intro A5 c5 w5 o5 hg5 _; have hg5 := uG hg5; have hr5 : ∀ k, (Value.slice Ao P.length co).ownBlock = some k → w.heap.size + 3 ≤ k := fun k hk => (ow.lt k hk).1; have hA5 := Bk.grown (hA1.alloc _) hg5 (fun k hk => by have := hr5 k hk; omega); have hB5 := Bk.grown (hB1.alloc _) hg5 (fun k hk => by have := hr5 k hk; omega); have hC5 := Bk.grown (hC1.alloc _) hg5 (fun k hk => by have := hr5 k hk; omega); have g5 := (g.alloc (by omega) _).grown hg5 (by simp; omega) (fun k hk => by have := hr5 k hk; omega); have hX5 := hC5.cell; have hF5 := hC5.free; have hY5 := hA5.cell; have d0 := (g5.cell (p := ⟨g2, off + k * 2, none⟩) hgw).trans cw0; have d1 := (g5.cell (p := ⟨g2, off + k * 2 + 1, none⟩) hgw).trans cw1)
            refine hKK.out _ _ (by first | (exact HW.out _ wG) | go_keep) fun hSS => ?_
            try simp only [Act.put, u2, u3, u4]
            refine tk 9 ?_
            try simp only [Act.put, u2, u3, u4]
            refine wpAnyH_done (by kernel_rfl) ?_ _
            refine zZ ?_
            refine wpOp_step (o := _) rfl (fun KK hKK => ?_)
            go_simp
            refine hKK _ _ (NoPanic.normal ?_)
            try simp only [Act.put, u2, u3, u4]
            have hPl : (P ++ [(fa, fb)]).length = P.length + 1 := by simp
            have o6 := ownsRow_setCell_below (a := ⟨w.heap.size + 1 + 1, 4, none⟩) o5 (by show w.heap.size + 1 + 1 < w.heap.size + 3; omega) (.slice A5 (P.length + 1) c5)
            have hA6 := hA5.far (p := ⟨w.heap.size + 1 + 1, 4, none⟩) (by show w.heap.size ≠ w.heap.size + 1 + 1; omega) (.slice A5 (P.length + 1) c5)
            have hB6 := hB5.far (p := ⟨w.heap.size + 1 + 1, 4, none⟩) (by show w.heap.size + 1 ≠ w.heap.size + 1 + 1; omega) (.slice A5 (P.length + 1) c5)
            have hC6 := hC5.set 4 (.slice A5 (P.length + 1) c5)
            have g6 := g5.setCell (p := ⟨w.heap.size + 1 + 1, 4, none⟩) (by show w.heap.size ≤ w.heap.size + 1 + 1; omega) (.slice A5 (P.length + 1) c5)
            have o7 : (w5.setCell ⟨w.heap.size + 1 + 1, 4, none⟩ (.slice A5 (P.length + 1) c5)).ownsRow (w.heap.size + 3) 40 2 (.slice A5 (P ++ [(fa, fb)]).length c5) (P ++ [(fa, fb)]).length (yj (P ++ [(fa, fb)])) := by rw [hPl, uw]; exact o6
            have hC7 : Bk (w5.setCell ⟨w.heap.size + 1 + 1, 4, none⟩ (.slice A5 (P.length + 1) c5)) (w.heap.size + 1 + 1) 27 #[.int .i64 o, .int .i64 l, .int .i64 m, .string ⟨dict.toArray⟩, .slice A5 (P ++ [(fa, fb)]).length c5] := by rw [hPl]; exact hC6
            have HPL := Go.Lib.hid hPl
            clear hA5 hB5 hC5 g5 hX5 hF5 o5 o6 hg5 hA1 hB1 hC1 ow g hr5
            clear hPl hC6
            go_wp2_with fail
            go_roundw
            case rel => exact ⟨k + 1, _, P ++ [(fa, fb)], A5, c5, rfl, by go_num, by omega, by (have h9 := hQl; rw [HQ.out] at h9; exact h9), by show _ = _; rw [HDk.out, HQ.out], o7, hA6, hB6, hC7, g6⟩
            case measure => simp [intOf]; omega
        | true =>
          by_cases he : fa = n
          · have hQe : Q = (true, P) := by rw [hstp, if_neg (by simpa using he)]
            have hd : decide (fa = n) = true := by simpa using he
            have hd2 : (fa != n) = false := by simpa using he
            have HQ := Go.Lib.hid hQe
            clear hQ hQe hle he hstp hin
            go_wp2
            go_roundw
            case rel => exact ⟨k + 1, _, P, _, _, rfl, by go_num, by omega, by (have h9 := hQl; rw [HQ.out] at h9; exact h9), by show _ = _; rw [HDk.out, HQ.out], ow, hA1, hB1, hC1, g⟩
            case measure => simp [intOf]; omega
          · have hQe : Q = (true, P ++ [(fa, fb)]) := by rw [hstp, if_pos he]
            have hd : decide (fa = n) = false := by simpa using he
            have hd2 : (fa != n) = true := by simpa using he
            have HQ := Go.Lib.hid hQe
            clear hQ hQe hle he hstp hin
            have hm1 : P.length + 1 ≤ maxLen := by unfold maxLen; omega
            have hm2 : (P.length + 1) * 32 ≤ 140737488355328 := by omega
            go_upto_region 10 with (fail)
            have HW : Hid (∀ w', Below wr.heap.size wr w' → (w'.cell? ⟨w.heap.size + 1 + 1, 4, none⟩ = some (.slice Ao P.length co) ∧ w'.cell? ⟨w.heap.size, 4, none⟩ = some (.slice (some ⟨g2, off, none⟩) fs.length cap) ∧ w'.cell? ⟨g2, off + k * 2, none⟩ = some (.string ⟨fa.toArray⟩) ∧ w'.cell? ⟨g2, off + k * 2 + 1, none⟩ = some (.string ⟨fb.toArray⟩))) := fun w' h => ⟨(h.cell (p := ⟨_, _, _⟩) (by first | assumption | (simp only; omega) | omega)).trans (hXC 4), (h.cell (p := ⟨_, _, _⟩) (by first | assumption | (simp only; omega) | omega)).trans (hXA 4), (h.cell (p := ⟨_, _, _⟩) (by first | assumption | (simp only; omega) | omega)).trans (c0), (h.cell (p := ⟨_, _, _⟩) (by first | assumption | (simp only; omega) | omega)).trans (c1)⟩
            clear hXA hXC
            refine yx 10 (fun w' => w'.cell? ⟨w.heap.size + 1 + 1, 4, none⟩ = some (.slice Ao P.length co) ∧ w'.cell? ⟨w.heap.size, 4, none⟩ = some (.slice (some ⟨g2, off, none⟩) fs.length cap) ∧ w'.cell? ⟨g2, off + k * 2, none⟩ = some (.string ⟨fa.toArray⟩) ∧ w'.cell? ⟨g2, off + k * 2 + 1, none⟩ = some (.string ⟨fb.toArray⟩)) (by kernel_rfl) (by kernel_rfl) (by first | (exact HW.out _ wG) | go_keep) (fun hSS => ?_)
            simp only [List.take_succ_cons, List.take_zero]
            refine tk 0 ?_
            try simp only [Act.put, u2, u3, u4]
            refine tk 1 ?_
            try simp only [Act.put, u2, u3, u4]
            refine tk 2 ?_
            try simp only [Act.put, u2, u3, u4]
            refine tk 3 ?_
            try simp only [Act.put, u2, u3, u4]
            refine tk 4 ?_
            try simp only [Act.put, u2, u3, u4]
            refine tk 5 ?_
            try simp only [Act.put, u2, u3, u4]
            refine tk 6 ?_
            try simp only [Act.put, u2, u3, u4]
            refine rd1 7 fun KK hKK => ?_
            go_simp
            refine hKK.out _ _ (by first | (exact HW.out _ wG) | go_keep) fun hSS => ?_
            try simp only [Act.put, u2, u3, u4]
            refine rd1 8 fun KK hKK => ?_
            ((refine uY _ rfl _ _ 25 rfl (w.heap.size + 3) 40 i _ 2 32 Tryz.underlying25 hi hz0 hz1 hz2 rfl (by omega) (.slice Ao P.length co) P.length (yj P) rfl (ow.alloc _) (some ⟨_, 0, none⟩) 1 1 [.string ⟨fa.toArray⟩, .string ⟨fb.toArray⟩] rfl (Sl.new wr #[.string ⟨fa.toArray⟩, .string ⟨fb.toArray⟩] _ 1 2 (by simp) (by omega)) (by simp [Value.oneCell']) hm1 hm2 (by first | omega | (simp <;> omega)) ?_); intro A5 c5 w5 o5 hg5 _; have hg5 := uG hg5; have hr5 : ∀ k, (Value.slice Ao P.length co).ownBlock = some k → w.heap.size + 3 ≤ k := fun k hk => (ow.lt k hk).1; have hA5 := Bk.grown (hA1.alloc _) hg5 (fun k hk => by have := hr5 k hk; omega); have hB5 := Bk.grown (hB1.alloc _) hg5 (fun k hk => by have := hr5 k hk; omega); have hC5 := Bk.grown (hC1.alloc _) hg5 (fun k hk => by have := hr5 k hk; omega); have g5 := (g.alloc (by omega) _).grown hg5 (by simp; omega) (fun k hk => by have := hr5 k hk; omega); have hX5 := hC5.cell; have hF5 := hC5.free; have hY5 := hA5.cell; have d0 := (g5.cell (p := ⟨g2, off + k * 2, none⟩) hgw).trans cw0; have d1 := (g5.cell (p := ⟨g2, off + k * 2 + 1, none⟩) hgw).trans cw1)
            refine hKK.out _ _ (by first | (exact HW.out _ wG) | go_keep) fun hSS => ?_
            try simp only [Act.put, u2, u3, u4]
            refine tk 9 ?_
            try simp only [Act.put, u2, u3, u4]
            refine wpAnyH_done (by kernel_rfl) ?_ _
            refine zZ ?_
            refine wpOp_step (o := _) rfl (fun KK hKK => ?_)
            go_simp
            refine hKK _ _ (NoPanic.normal ?_)
            try simp only [Act.put, u2, u3, u4]
            have hPl : (P ++ [(fa, fb)]).length = P.length + 1 := by simp
            have o6 := ownsRow_setCell_below (a := ⟨w.heap.size + 1 + 1, 4, none⟩) o5 (by show w.heap.size + 1 + 1 < w.heap.size + 3; omega) (.slice A5 (P.length + 1) c5)
            have hA6 := hA5.far (p := ⟨w.heap.size + 1 + 1, 4, none⟩) (by show w.heap.size ≠ w.heap.size + 1 + 1; omega) (.slice A5 (P.length + 1) c5)
            have hB6 := hB5.far (p := ⟨w.heap.size + 1 + 1, 4, none⟩) (by show w.heap.size + 1 ≠ w.heap.size + 1 + 1; omega) (.slice A5 (P.length + 1) c5)
            have hC6 := hC5.set 4 (.slice A5 (P.length + 1) c5)
            have g6 := g5.setCell (p := ⟨w.heap.size + 1 + 1, 4, none⟩) (by show w.heap.size ≤ w.heap.size + 1 + 1; omega) (.slice A5 (P.length + 1) c5)
            have o7 : (w5.setCell ⟨w.heap.size + 1 + 1, 4, none⟩ (.slice A5 (P.length + 1) c5)).ownsRow (w.heap.size + 3) 40 2 (.slice A5 (P ++ [(fa, fb)]).length c5) (P ++ [(fa, fb)]).length (yj (P ++ [(fa, fb)])) := by rw [hPl, uw]; exact o6
            have hC7 : Bk (w5.setCell ⟨w.heap.size + 1 + 1, 4, none⟩ (.slice A5 (P.length + 1) c5)) (w.heap.size + 1 + 1) 27 #[.int .i64 o, .int .i64 l, .int .i64 m, .string ⟨dict.toArray⟩, .slice A5 (P ++ [(fa, fb)]).length c5] := by rw [hPl]; exact hC6
            have HPL := Go.Lib.hid hPl
            clear hA5 hB5 hC5 g5 hX5 hF5 o5 o6 hg5 hA1 hB1 hC1 ow g hr5
            clear hPl hC6
            go_wp2_with fail
            go_roundw
            case rel => exact ⟨k + 1, _, P ++ [(fa, fb)], A5, c5, rfl, by go_num, by omega, by (have h9 := hQl; rw [HQ.out] at h9; exact h9), by show _ = _; rw [HDk.out, HQ.out], o7, hA6, hB6, hC7, g6⟩
            case measure => simp [intOf]; omega
    · have hki : ¬ (k : Int) < fs.length := by omega
      have hE := HE.out k _ hlt HP.out
      cases dn with
      | false =>
        have hEE : P ++ [(n, X)] = rP fs n X := hE
        have HEE := Go.Lib.hid hEE
        clear hE hEE HE HP HD
        have hpm1 : P.length + 1 ≤ maxLen := by unfold maxLen; omega
        have hpm2 : (P.length + 1) * 32 ≤ 140737488355328 := by omega
        go_wp2_with (at_builtin; go_must (refine yh _ rfl _ _ 25 rfl (w.heap.size + 3) 40 i _ 2 32 Tryz.underlying25 hi hz0 hz1 hz2 rfl (by omega) _ _ _ rfl (ow.alloc _) _ 1 1 [.string ⟨n.toArray⟩, .string ⟨X.toArray⟩] rfl (Sl.newAt wr #[.string ⟨n.toArray⟩, .string ⟨X.toArray⟩] _ 1 2 (by first | rfl | simp) (by simp) (by omega)) (by simp [Value.oneCell']) hpm1 hpm2 ?_ ?_))
        try (case refine_1 => first | omega | (simp <;> omega; done))
        intro Ai ci w5 o5 hg5 _
        have hr5 : ∀ k, (Value.slice Ao P.length co).ownBlock = some k → w.heap.size + 3 ≤ k := fun k hk => (ow.lt k hk).1
        have hA5 := Bk.grown (hA1.alloc _) hg5 (fun k hk => by have := hr5 k hk; omega)
        have hB5 := Bk.grown (hB1.alloc _) hg5 (fun k hk => by have := hr5 k hk; omega)
        have hC5 := Bk.grown (hC1.alloc _) hg5 (fun k hk => by have := hr5 k hk; omega)
        have g5 := (g.alloc (by omega) _).grown hg5 (by simp; omega) (fun k hk => by have := hr5 k hk; omega)
        have hX5 := hC5.cell
        have hF5 := hC5.free
        have hPl : (P ++ [(n, X)]).length = P.length + 1 := by simp
        have o6 := ownsRow_setCell_below (a := ⟨w.heap.size + 1 + 1, 4, none⟩) o5 (by show w.heap.size + 1 + 1 < w.heap.size + 3; omega) (.slice Ai (P.length + 1) ci)
        have hA6 := hA5.far (p := ⟨w.heap.size + 1 + 1, 4, none⟩) (by show w.heap.size ≠ w.heap.size + 1 + 1; omega) (.slice Ai (P.length + 1) ci)
        have hB6 := hB5.far (p := ⟨w.heap.size + 1 + 1, 4, none⟩) (by show w.heap.size + 1 ≠ w.heap.size + 1 + 1; omega) (.slice Ai (P.length + 1) ci)
        have hC6 := hC5.set 4 (.slice Ai (P.length + 1) ci)
        have g6 := g5.setCell (p := ⟨w.heap.size + 1 + 1, 4, none⟩) (by show w.heap.size ≤ w.heap.size + 1 + 1; omega) (.slice Ai (P.length + 1) ci)
        have o7 : (w5.setCell ⟨w.heap.size + 1 + 1, 4, none⟩ (.slice Ai (P.length + 1) ci)).ownsRow (w.heap.size + 3) 40 2 (.slice Ai (P ++ [(n, X)]).length ci) (P ++ [(n, X)]).length (yj (P ++ [(n, X)])) := by rw [hPl, uw]; exact o6
        have hC7 : Bk (w5.setCell ⟨w.heap.size + 1 + 1, 4, none⟩ (.slice Ai (P.length + 1) ci)) (w.heap.size + 1 + 1) 27 #[.int .i64 o, .int .i64 l, .int .i64 m, .string ⟨dict.toArray⟩, .slice Ai (P ++ [(n, X)]).length ci] := by rw [hPl]; exact hC6
        go_upto_region 13 with (fail)
        generalize w5.setCell ⟨w.heap.size + 1 + 1, 4, none⟩ (.slice Ai (P.length + 1) ci) = wr at *
        clear hA5 hB5 hC5 g5 hX5 hF5 o5 o6 hg5 hr5 hC6 hA1 hB1 hC1 ow g hXA hXC
        have hPb : (P ++ [(n, X)]).length ≤ 100002 := by omega
        clear hPl hpm1 hpm2
        generalize P ++ [(n, X)] = P at *
        obtain ⟨Ao, hAo⟩ : ∃ x, x = Ai := ⟨_, rfl⟩
        obtain ⟨co, hco⟩ : ∃ x, x = ci := ⟨_, rfl⟩
        subst hAo hco
        have ow := o7
        have hA1 := hA6
        have hB1 := hB6
        have hC1 := hC7
        have g := g6
        clear o7 hA6 hB6 hC7 g6
        have hz := g.size
        have hCl := hC1.lt
        have hXA := hA1.cell
        have hXC := hC1.cell
        have hXB := hB1.cell
        have hFB := hB1.free
        go_wp2
        have Q := (wK hB1 ⟨o, l, m, dict, P⟩ Ao co).cell
        have o2 := zF (B' := w.heap.size) (uX ow (b := w.heap.size + 1) (by omega) ⟨o, l, m, dict, P⟩ Ao co) (by omega)
        have gg := xJ g (b := w.heap.size + 1) (by omega) ⟨o, l, m, dict, P⟩ Ao co
        exact bodyPost_ret (v := Sto.V ⟨o, l, m, dict, P⟩ Ao co) (by simp [results, Tryz.results88, go_sem, Q]) rfl ⟨Ao, co, by rw [← HEE.out], by rw [← HEE.out]; exact o2, gg⟩
      | true =>
        have hEE : P = rP fs n X := hE
        have HEE := Go.Lib.hid hEE
        clear hE hEE HE HP HD
        have hXB := hB1.cell
        have hFB := hB1.free
        go_wp2
        have Q := (wK hB1 ⟨o, l, m, dict, P⟩ Ao co).cell
        have o2 := zF (B' := w.heap.size) (uX ow (b := w.heap.size + 1) (by omega) ⟨o, l, m, dict, P⟩ Ao co) (by omega)
        have gg := xJ g (b := w.heap.size + 1) (by omega) ⟨o, l, m, dict, P⟩ Ao co
        exact bodyPost_ret (v := Sto.V ⟨o, l, m, dict, P⟩ Ao co) (by simp [results, Tryz.results88, go_sem, Q]) rfl ⟨Ao, co, by rw [← HEE.out], by rw [← HEE.out]; exact o2, gg⟩
end Go.Proofs.YtinncdollpajkaaGreat
