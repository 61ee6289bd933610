import Derived.Test.YtinncdollpajkaaGreatVR2
import Derived.Test.YtinncdollpajkaaGreatVW3
import Derived.Test.YtinncdollpajkaaGreatVGQ
import Derived.Test.YtinncdollpajkaaGreatVShelf
import Derived.Deep.Cut
set_option linter.unusedVariables false
set_option linter.unusedSimpArgs false
set_option maxHeartbeats 8000000
namespace Go.Proofs.YtinncdollpajkaaGreat
open Go.RowKit
set_option maxRecDepth 100000
attribute [local go_sem high] zA zu zy zO zK zX zx zk zn zq zi zo yQ zC yf zD
def Sto.ft (S : Sto) (f : Fl) : Bs := f.1 ++ 32 :: yC (xM ((cdB S.o S.l S.m S.dict f.2).getD []))
open Classical in
noncomputable def Sto.fmt (S : Sto) : Bs := if S.ok then yC (join 59 (S.fs.map S.ft)) else []
theorem Sto.Vy {S : Sto} (h : ¬ S.ok) : S.fmt = [] := by unfold Sto.fmt; rw [if_neg h]
theorem Sto.YS {S : Sto} (h : S.ok) : S.fmt = yC (join 59 (S.fs.map S.ft)) := by unfold Sto.fmt; rw [if_pos h]
theorem aY {ls : List Bs} (h : 0 < ls.length) : join 59 (ls.take 1) = ls[0] := by
 cases ls with
 | nil => simp at h
 | cons a r => rfl
theorem aU {ls : List Bs} {k : Nat} (h : k < ls.length) (h0 : 0 < k) : join 59 (ls.take (k + 1)) = join 59 (ls.take k) ++ 59 :: ls[k] := by
 rw [List.take_succ_eq_append_getElem h, ig]
 intro e
 have := congrArg List.length e
 simp at this
 rcases this with h1 | h1
 ·omega
 ·subst h1; simp at h
theorem Ur (ls : List Bs) (n : Nat) (h : ∀ l ∈ ls, l.length ≤ n) : (join 59 ls).length ≤ (n + 1) * ls.length := by
  induction ls using yS with
  | h0 => simp [join]
  | h1 ls x ih =>
    have h1 := ih (fun l hl => h l (by simp [hl]))
    have h2 := h x (by simp)
    have e3 : (n + 1) * (ls ++ [x]).length = (n + 1) * ls.length + (n + 1) := by simp [Nat.mul_add]
    by_cases e : ls = []
    · subst e; simp [join]; omega
    · rw [ig _ _ _ e, e3]; simp; omega
theorem qh (l : Bs) : (yC l).length ≤ l.length + 1 := by unfold yC; split <;> simp
theorem qo (l : Bs) : (xM l).length ≤ 2 * l.length := by
 unfold xM
 split
 ·rw [hexOf_length]; omega
 ·simp
theorem YT (o l m : Int) (dict t : Bs) : ((cdB o l m dict t).getD []).length ≤ 2000 := by
 cases h : cdB o l m dict t with
 | none => simp
 | some d => simpa using PU h
theorem rJ {n : Bs} (h : xZ n = true) : n.length ≤ 8 := by
 unfold xZ at h
 simp at h
 exact h.1.2
theorem Sto.RP {S : Sto} {f : Fl} (h : f.1.length ≤ 8) : (S.ft f).length ≤ 4010 := by
 unfold Sto.ft
 have h1 := YT S.o S.l S.m S.dict f.2
 have h2 := qo ((cdB S.o S.l S.m S.dict f.2).getD [])
 have h3 := qh (xM ((cdB S.o S.l S.m S.dict f.2).getD []))
 simp only [List.length_append, List.length_cons]
 omega
theorem Sto.WY {S : Sto} (h : S.ok) (k : Nat) : (join 59 ((S.fs.map S.ft).take k)).length ≤ 24066 := by
 have hb : ∀ l ∈ (S.fs.map S.ft).take k, l.length ≤ 4010 := fun l hl => by
  obtain ⟨f, hf, rfl⟩ := List.mem_map.1 (List.mem_of_mem_take hl)
  obtain ⟨i, hi, rfl⟩ := List.getElem_of_mem hf
  exact Sto.RP (rJ (h.2.2 i hi).1)
 have h1 := Ur _ 4010 hb
 have h2 : ((S.fs.map S.ft).take k).length ≤ 6 := by simp; have := h.2.1; omega
 have h3 : (4010 + 1) * ((S.fs.map S.ft).take k).length ≤ (4010 + 1) * 6 := Nat.mul_le_mul_left _ h2
 omega
theorem iV (S : Sto) (A : Option Addr) (cap : Nat) (w : World) (hs : Sl w A S.fs.length cap 2 (yj S.fs)) (hd : S.dict.length ≤ 1500000) (hl : S.fs.length ≤ 1500000) (hb : ∀ f ∈ S.fs, f.1.length ≤ 1500000 ∧ f.2.length ≤ 1500000) :
  Calls Tryz.prog 17 #[S.V A cap] w fun e w' => e = .returned (sv S.fmt) ∧ Below w.heap.size w w' := by
 have hcap := hs.1
 have hcap2 := hs.2.1
 have cV : Hid (∀ w, Sl w A S.fs.length cap 2 (yj S.fs) → Calls Tryz.prog 46 #[S.V A cap] w fun e w' => e = .returned (.bool S.okB) ∧ Below w.heap.size w w') := fun w h => oM S A cap w h hd hl hb
 have HSL : Hid (∀ wr, Below w.heap.size w wr → Sl wr A S.fs.length cap 2 (yj S.fs)) := fun wr h => hs.below h
 have HB := Go.Lib.hid hb
 clear hs hb
 by_cases hok : S.ok
 case neg =>
  rw [show S.okB = false from Sto.iI hok] at cV
  rw [Sto.Vy hok]
  clear hok
  obtain ⟨o, l, m, dict, fs⟩ := S
  simp only at *
  go_enter Tryz.func17, Tryz.ntmps17
  have hK0 : Bk (w.alloc (.cells #[.int .i64 o, .int .i64 l, .int .i64 m, .string ⟨dict.toArray⟩, .slice A fs.length cap] 27)) w.heap.size 27 #[.int .i64 o, .int .i64 l, .int .i64 m, .string ⟨dict.toArray⟩, .slice A fs.length cap] := tBk
  have g0 : Below w.heap.size w (w.alloc (.cells #[.int .i64 o, .int .i64 l, .int .i64 m, .string ⟨dict.toArray⟩, .slice A fs.length cap] 27)) := zH
  go_upto_region 1 with (fail)
  generalize w.alloc (.cells #[.int .i64 o, .int .i64 l, .int .i64 m, .string ⟨dict.toArray⟩, .slice A fs.length cap] 27) = w0 at *
  have hX0 := hK0.cell
  have hz0 := hK0.lt
  go_wp2_with fail
  refine (cV.out _ (HSL.out _ g0)).mono ?_
  rintro e w1 ⟨rfl, hb1⟩
  have g1 := g0.trans (hb1.mono (by omega))
  clear hb1 hK0 g0 hX0 cV
  go_wp2
  go_ret
  exact ⟨rfl, g1⟩
 rw [show S.okB = true from (Sto.ug S).2 hok] at cV
 have h6 := hok.2.1
 have HFT : Hid (∀ (k : Nat) (hk : k < S.fs.length), S.ft S.fs[k] = S.fs[k].1 ++ 32 :: yC (xM ((cdB S.o S.l S.m S.dict S.fs[k].2).getD []))) := fun k hk => rfl
 have HNL : Hid (∀ (k : Nat) (hk : k < S.fs.length), S.fs[k].1.length ≤ 8) := fun k hk => rJ (hok.2.2 k hk).1
 have HJB : Hid (∀ k, (join 59 ((S.fs.map S.ft).take k)).length ≤ 24066) := fun k => Sto.WY hok k
 have HMA : Hid (∀ (k : Nat) (hk : k < S.fs.length) (h : k < (S.fs.map S.ft).length), (S.fs.map S.ft)[k] = S.ft S.fs[k]) := fun k hk h => by simp
 have hml : (S.fs.map S.ft).length = S.fs.length := by simp
 obtain ⟨R, hR⟩ : ∃ R, S.fmt = R := ⟨_, rfl⟩
 rw [hR]
 rw [Sto.YS hok] at hR
 have HR := Go.Lib.hid hR
 have cC : Hid (∀ t w, t.length ≤ 1500000 → Calls Tryz.prog 47 #[.agg #[.int .i64 S.o, .int .i64 S.l, .int .i64 S.m], sv S.dict, sv t] w fun e w' => e = yZ (cdB S.o S.l S.m S.dict t) ∧ Below w.heap.size w w') := fun t w h => um S.o S.l S.m S.dict t w (by omega) h
 clear hok hR
 generalize S.fs.map S.ft = ms at *
 generalize S.ft = ft at *
 obtain ⟨o, l, m, dict, fs⟩ := S
 simp only at *
 go_enter Tryz.func17, Tryz.ntmps17
 have hK0 : Bk (w.alloc (.cells #[.int .i64 o, .int .i64 l, .int .i64 m, .string ⟨dict.toArray⟩, .slice A fs.length cap] 27)) w.heap.size 27 #[.int .i64 o, .int .i64 l, .int .i64 m, .string ⟨dict.toArray⟩, .slice A fs.length cap] := tBk
 have g0 : Below w.heap.size w (w.alloc (.cells #[.int .i64 o, .int .i64 l, .int .i64 m, .string ⟨dict.toArray⟩, .slice A fs.length cap] 27)) := zH
 go_upto_region 1 with (fail)
 generalize w.alloc (.cells #[.int .i64 o, .int .i64 l, .int .i64 m, .string ⟨dict.toArray⟩, .slice A fs.length cap] 27) = w0 at *
 have hX0 := hK0.cell
 have hz0 := hK0.lt
 go_wp2_with fail
 refine (cV.out _ (HSL.out _ g0)).mono ?_
 rintro e w1 ⟨rfl, hb1⟩
 have hz1 := hb1.size
 have hK1 := hK0.below hb1 hz0
 have g1 := g0.trans (hb1.mono (by omega))
 clear hb1 hK0 g0 hX0 cV
 go_wp2
 go_loopw [3, 4] (fun a i wr => ∃ (k : Nat) (X : Bs), a = sv X ∧ i = .int .i64 (k : Int) ∧ k ≤ fs.length ∧ X.length ≤ 24066 ∧ Hid (join 59 (ms.take k) = X) ∧ Bk wr w.heap.size 27 #[.int .i64 o, .int .i64 l, .int .i64 m, .string ⟨dict.toArray⟩, .slice A fs.length cap] ∧ Below w.heap.size w wr) (fun _ i _ => fs.length - (intOf i).toNat)
 case atStart => exact ⟨0, [], rfl, rfl, by omega, by simp, rfl, hK1, g1⟩
 case round =>
  obtain ⟨k, X, rfl, rfl, hk, hXl, HX, hK, hb⟩ := hrel
  clear hK1 g1
  have hz := hb.size
  have hX := hK.cell
  have hlt0 := hK.lt
  by_cases hlt : k < fs.length
  ·have hki : (k : Int) < fs.length := by omega
   have hkm : k < ms.length := by omega
   obtain ⟨g, off, hA, hg, c0, c1⟩ := (HSL.out wr hb).fl hlt
   have hbk := (HB.out fs[k] (List.getElem_mem hlt)).2
   have hn8 := HNL.out k hlt
   have hme := (HMA.out k hlt hkm).trans (HFT.out k hlt)
   have HJ2 := Go.Lib.hid (HJB.out (k + 1))
   have HS : Hid (join 59 (ms.take (k + 1)) = (if k = 0 then [] else X ++ [59]) ++ ms[k]) := by
    show _ = _
    by_cases h0 : k = 0
    ·subst h0; rw [if_pos rfl, aY hkm]; rfl
    ·rw [if_neg h0, aU hkm (by omega), HX.out]; simp
   rw [hme] at HS
   have HEL : Hid (∀ W, Below w.heap.size w W → W.cell? ⟨g, off + k * 2, none⟩ = some (.string ⟨fs[k].1.toArray⟩)) := fun W h => by
    obtain ⟨g', off', e, _, c, _⟩ := (HSL.out W h).fl hlt
    rw [hA] at e; injection e with e; injection e with e1 e2; subst e1 e2; exact c
   have HX0 : Hid (join 59 (ms.take k) = X) := HX
   clear hme HX
   generalize fs[k].1 = nm at *
   generalize fs[k].2 = tx at *
   subst hA
   have cD := fun w => cC.out tx w (by omega)
   have hdl := YT o l m dict tx
   obtain ⟨D, hD⟩ : ∃ D, (cdB o l m dict tx).getD [] = D := ⟨_, rfl⟩
   obtain ⟨b, hbb⟩ : ∃ b, (cdB o l m dict tx).isSome = b := ⟨_, rfl⟩
   unfold yZ at cD
   rw [hD] at HS hdl
   rw [hD, hbb] at cD
   clear hD hbb
   have hhl := qo D
   have cH := fun w => nJ D w (by omega)
   generalize xM D = hx at *
   have hol := qh hx
   have cO : ∀ w, Calls Tryz.prog 48 #[.string ⟨hx.toArray⟩] w fun e w' => e = .returned (.string ⟨(yC hx).toArray⟩) ∧ Below w.heap.size w w' := fun w => (lZ hx w).mono fun e w' h => ⟨h.1, h.2 ▸ Below.refl _ _⟩
   generalize yC hx = hy at *
   rcases Nat.eq_zero_or_pos k with rfl | hk0
   ·rw [if_pos rfl] at HS
    simp only [Nat.zero_mul, Nat.add_zero] at c0 c1 HEL
    have hG := zG hX hlt0
    have C1 := fun d os => cell_regrown c1 d os
    go_wp2_with fail
    refine wp_region_quiet_below (by kernel_rfl) (by kernel_rfl) ?_
    repeat (go_big_quiet_step ((go_at_call 47; exact Calls.regrown_of (cD _))))
    refine wpQuiet_nil ?_
    intro w3 hw2
    have hb3 : Below _ _ w3 := zh hw2
    clear hw2
    have hK3 := hK.below hb3 hlt0
    have g3 := hb.trans (hb3.mono hz)
    have c3 := HEL.out w3 g3
    have C3 := fun d os => cell_regrown c3 d os
    have hX3 := hK3.cell
    have hG3 := zG hX3 hK3.lt
    clear hb3 hK hb hX hG c0 c1 C1 cD
    have hq1 : ¬ 9223372036854775807 < X.length + nm.length := by omega
    have hq2 : ¬ 9223372036854775807 < X.length + nm.length + 1 := by omega
    have hq3 : ¬ 9223372036854775807 < X.length + nm.length + 1 + hy.length := by omega
    go_wp2_with fail
    refine wp_region_quiet_below (by kernel_rfl) (by kernel_rfl) ?_
    repeat (go_big_quiet_step ((first | (go_at_call 49; exact Calls.regrown_of (cH _)) | (go_at_call 48; exact Calls.regrown_of (cO _)))))
    refine wpQuiet_nil ?_
    intro w4 hw2
    have hb4 : Below _ _ w4 := zh hw2
    clear hw2
    have hK4 := hK3.below hb4 hK3.lt
    have g4 := g3.trans (hb4.mono (by have := g3.size; omega))
    clear hb4 hK3 g3 hG3 hX3 c3 C3
    have HE : Hid (X ++ nm ++ [32] ++ hy = join 59 (ms.take (0 + 1))) := by
     have hXe : X = [] := by rw [← HX0.out]; rfl
     show _ = _
     rw [HS.out, hXe]; simp
    go_wp2
    go_roundw
    case rel => exact ⟨0 + 1, _, rfl, by go_num, by omega, by have := HJ2.out; rw [← HE.out] at this; simpa using this, by show _ = _; rw [← HE.out]; simp, hK4, g4⟩
    case measure => simp [intOf]; omega
   ·clear HX0
    have hk0i : (0 : Int) < (k : Int) := by omega
    rw [if_neg (by omega)] at HS
    have hq0 : ¬ 9223372036854775807 < X.length + 1 := by omega
    have hG := zG hX hlt0
    have C1 := fun d os => cell_regrown c1 d os
    go_wp2_with fail
    refine wp_region_quiet_below (by kernel_rfl) (by kernel_rfl) ?_
    repeat (go_big_quiet_step ((go_at_call 47; exact Calls.regrown_of (cD _))))
    refine wpQuiet_nil ?_
    intro w3 hw2
    have hb3 : Below _ _ w3 := zh hw2
    clear hw2
    have hK3 := hK.below hb3 hlt0
    have g3 := hb.trans (hb3.mono hz)
    have c3 := HEL.out w3 g3
    have C3 := fun d os => cell_regrown c3 d os
    have hX3 := hK3.cell
    have hG3 := zG hX3 hK3.lt
    clear hb3 hK hb hX hG c0 c1 C1 cD
    have hq1 : ¬ 9223372036854775807 < X.length + 1 + nm.length := by omega
    have hq2 : ¬ 9223372036854775807 < X.length + 1 + nm.length + 1 := by omega
    have hq3 : ¬ 9223372036854775807 < X.length + 1 + nm.length + 1 + hy.length := by omega
    go_wp2_with fail
    refine wp_region_quiet_below (by kernel_rfl) (by kernel_rfl) ?_
    repeat (go_big_quiet_step ((first | (go_at_call 49; exact Calls.regrown_of (cH _)) | (go_at_call 48; exact Calls.regrown_of (cO _)))))
    refine wpQuiet_nil ?_
    intro w4 hw2
    have hb4 : Below _ _ w4 := zh hw2
    clear hw2
    have hK4 := hK3.below hb4 hK3.lt
    have g4 := g3.trans (hb4.mono (by have := g3.size; omega))
    clear hb4 hK3 g3 hG3 hX3 c3 C3
    have HE : Hid ((X ++ [59]) ++ nm ++ [32] ++ hy = join 59 (ms.take (k + 1))) := by show _ = _; rw [HS.out]; simp
    go_wp2
    go_roundw
    case rel => exact ⟨k + 1, _, rfl, by go_num, by omega, by have := HJ2.out; rw [← HE.out] at this; simpa using this, by show _ = _; rw [← HE.out]; simp, hK4, g4⟩
    case measure => simp [intOf]; omega
  ·have hki : ¬ (k : Int) < fs.length := by omega
   have hR : yC X = R := by rw [← HR.out, ← HX.out, List.take_of_length_le (by omega)]
   have cO := fun w => lZ X w
   rw [hR] at cO
   go_wp2_with (go_at_call 48; refine (cO _).mono ?_; rintro e w' ⟨rfl, rfl⟩)
   go_ret
   exact ⟨rfl, hb⟩
theorem O9 (ls : List Bs) : Lib.join ls [59] = join 59 ls := by
  induction ls with
  | nil => rfl
  | cons a r ih =>
    by_cases e : r = []
    · subst e; rw [Lib.join_one]; rfl
    · rw [join_cons _ _ _ e, ← ih]
      cases r with
      | nil => exact absurd rfl e
      | cons b r =>
        unfold Lib.join
        simp
theorem Xi (ls : List Bs) : (ls.map fun l => (⟨l.toArray⟩ : ByteArray)).map (·.data.toList) = ls := by
 induction ls with
 | nil => rfl
 | cons a r ih => rw [List.map_cons, List.map_cons, ih]
theorem Vx (ls : List Bs) (A : Option Addr) (cap : Nat) (w : World) (hs : Sl w A ls.length cap 1 (ls.map sv)) (hl : ls.length ≤ 100000) (hb : ∀ l ∈ ls, l.length ≤ 100000) :
  Calls Tryz.prog 45 #[.slice A ls.length cap, .string ⟨#[59]⟩] w fun e w' => e = .returned (sv (join 59 ls)) ∧ Below w.heap.size w w' := by
 by_cases hn : ls.length = 0
 ·have hn2 : ls = [] := List.eq_nil_of_length_eq_zero hn
  subst hn2
  refine (Tryz.strings_Join_none A cap ⟨#[59]⟩ w).mono ?_
  rintro e w' ⟨rfl, rfl⟩
  exact ⟨rfl, Below.refl _ _⟩
 ·obtain ⟨g, off, u, rfl, hg, _⟩ := hs.at1 (show 0 < ls.length by omega)
  have hjl := Ur ls 100000 hb
  have hm : (100000 + 1) * ls.length ≤ (100000 + 1) * 100000 := Nat.mul_le_mul_left _ hl
  have hlen : (ls.map fun l => (⟨l.toArray⟩ : ByteArray)).length = ls.length := by simp
  have h := Tryz.strings_Join g off cap (ls.map fun l => (⟨l.toArray⟩ : ByteArray)) ⟨#[59]⟩ w (fun j x hx => ?_) hg (by rw [hlen]; omega) (by rw [hlen]; exact hs.1) (by rw [Xi, show (⟨#[59]⟩ : ByteArray).data.toList = [59] from rfl, O9]; omega)
  ·rw [hlen, Xi, show (⟨#[59]⟩ : ByteArray).data.toList = [59] from rfl, O9] at h
   exact h
  ·rw [List.getElem?_map] at hx
   by_cases hj : j < ls.length
   ·obtain ⟨g', off', u, e, _, hu, hc⟩ := hs.at1 hj
    injection e with e
    injection e with e1 e2
    subst e1 e2
    rw [List.getElem?_eq_getElem hj] at hx
    simp at hx
    rw [List.getElem?_map, List.getElem?_eq_getElem hj] at hu
    simp at hu
    rw [hc, ← hx, ← hu]
   ·rw [List.getElem?_eq_none (by omega)] at hx
    cases hx
def mqC (ms : List Bs) (k : Nat) : List Value := (ms.take k).map sv ++ List.replicate (ms.length - k) (sv [])
theorem Ro (ms : List Bs) : mqC ms 0 = List.replicate ms.length (sv []) := by simp [mqC]
theorem RU (ms : List Bs) : mqC ms ms.length = ms.map sv := by simp [mqC]
theorem PQ (ms : List Bs) (k : Nat) (h : k < ms.length) : (mqC ms k)[k]? = some (sv []) := by
 unfold mqC
 have e : ((ms.take k).map sv).length = k := by simp; omega
 rw [List.getElem?_append_right (by omega), e, Nat.sub_self, List.getElem?_replicate, if_pos (by omega)]
theorem Og (ms : List Bs) (k : Nat) (h : k < ms.length) : (mqC ms k).set k (sv ms[k]) = mqC ms (k + 1) := by
 unfold mqC
 have e : ((ms.take k).map sv).length = k := by simp; omega
 rw [List.set_append_right _ _ (by omega), e, Nat.sub_self, show ms.length - k = (ms.length - (k + 1)) + 1 by omega, List.replicate_succ, List.set_cons_zero, List.take_succ_eq_append_getElem h, List.map_append, List.append_assoc]
 rfl
theorem fG (S : Sto) (A : Option Addr) (cap : Nat) (w : World) (hs : Sl w A S.fs.length cap 2 (yj S.fs)) (hd : S.dict.length ≤ 1500000) (hl : S.fs.length ≤ 1500000) (hb : ∀ f ∈ S.fs, f.1.length ≤ 1500000 ∧ f.2.length ≤ 1500000) :
  Calls Tryz.prog 16 #[S.V A cap] w fun e w' => e = .returned (sv S.fmt) ∧ Below w.heap.size w w' := by
 have hcap := hs.1
 have hcap2 := hs.2.1
 have cV : Hid (∀ w, Sl w A S.fs.length cap 2 (yj S.fs) → Calls Tryz.prog 18 #[S.V A cap] w fun e w' => e = .returned (.bool S.okB) ∧ Below w.heap.size w w') := fun w h => uD S A cap w h hd hl hb
 have HSL : Hid (∀ wr, Below w.heap.size w wr → Sl wr A S.fs.length cap 2 (yj S.fs)) := fun wr h => hs.below h
 have HB := Go.Lib.hid hb
 clear hs hb
 by_cases hok : S.ok
 case neg =>
  rw [show S.okB = false from Sto.iI hok] at cV
  rw [Sto.Vy hok]
  clear hok
  obtain ⟨o, l, m, dict, fs⟩ := S
  simp only at *
  go_enter Tryz.func16, Tryz.ntmps16
  have hK0 : Bk (w.alloc (.cells #[.int .i64 o, .int .i64 l, .int .i64 m, .string ⟨dict.toArray⟩, .slice A fs.length cap] 27)) w.heap.size 27 #[.int .i64 o, .int .i64 l, .int .i64 m, .string ⟨dict.toArray⟩, .slice A fs.length cap] := tBk
  have g0 : Below w.heap.size w (w.alloc (.cells #[.int .i64 o, .int .i64 l, .int .i64 m, .string ⟨dict.toArray⟩, .slice A fs.length cap] 27)) := zH
  go_upto_region 1 with (fail)
  generalize w.alloc (.cells #[.int .i64 o, .int .i64 l, .int .i64 m, .string ⟨dict.toArray⟩, .slice A fs.length cap] 27) = w0 at *
  have hX0 := hK0.cell
  have hz0 := hK0.lt
  go_wp2_with fail
  refine (cV.out _ (HSL.out _ g0)).mono ?_
  rintro e w1 ⟨rfl, hb1⟩
  have g1 := g0.trans (hb1.mono (by omega))
  clear hb1 hK0 g0 hX0 cV
  go_wp2
  go_ret
  exact ⟨rfl, g1⟩
 rw [show S.okB = true from (Sto.ug S).2 hok] at cV
 obtain ⟨i0, hi, hz0', hz1', hz2'⟩ := info_parts YZ
 have h6 := hok.2.1
 have HFT : Hid (∀ (k : Nat) (hk : k < S.fs.length), S.ft S.fs[k] = S.fs[k].1 ++ 32 :: yC (xM ((cdB S.o S.l S.m S.dict S.fs[k].2).getD []))) := fun k hk => rfl
 have HNL : Hid (∀ (k : Nat) (hk : k < S.fs.length), S.fs[k].1.length ≤ 8) := fun k hk => rJ (hok.2.2 k hk).1
 have HMB : Hid (∀ t ∈ S.fs.map S.ft, t.length ≤ 100000) := fun t ht => by
  obtain ⟨f, hf, rfl⟩ := List.mem_map.1 ht
  obtain ⟨i, hi, rfl⟩ := List.getElem_of_mem hf
  have := Sto.RP (S := S) (rJ (hok.2.2 i hi).1)
  omega
 have HJB : Hid ((join 59 (S.fs.map S.ft)).length ≤ 24066) := by
  have h1 := Sto.WY hok (S.fs.map S.ft).length
  rw [List.take_length] at h1
  exact h1
 have HMA : Hid (∀ (k : Nat) (hk : k < S.fs.length) (h : k < (S.fs.map S.ft).length), (S.fs.map S.ft)[k] = S.ft S.fs[k]) := fun k hk h => by simp
 have hml : (S.fs.map S.ft).length = S.fs.length := by simp
 obtain ⟨R, hR⟩ : ∃ R, S.fmt = R := ⟨_, rfl⟩
 rw [hR]
 rw [Sto.YS hok] at hR
 have HR := Go.Lib.hid hR
 have cC : Hid (∀ t w, t.length ≤ 1500000 → Calls Tryz.prog 42 #[.agg #[.int .i64 S.o, .int .i64 S.l, .int .i64 S.m], sv S.dict, sv t] w fun e w' => e = yZ (cdB S.o S.l S.m S.dict t) ∧ Below w.heap.size w w') := fun t w h => uC S.o S.l S.m S.dict t w (by omega) h
 clear hok hR
 generalize S.fs.map S.ft = ms at *
 generalize S.ft = ft at *
 obtain ⟨o, l, m, dict, fs⟩ := S
 simp only at *
 go_enter Tryz.func16, Tryz.ntmps16
 have hK0 : Bk (w.alloc (.cells #[.int .i64 o, .int .i64 l, .int .i64 m, .string ⟨dict.toArray⟩, .slice A fs.length cap] 27)) w.heap.size 27 #[.int .i64 o, .int .i64 l, .int .i64 m, .string ⟨dict.toArray⟩, .slice A fs.length cap] := tBk
 have g0 : Below w.heap.size w (w.alloc (.cells #[.int .i64 o, .int .i64 l, .int .i64 m, .string ⟨dict.toArray⟩, .slice A fs.length cap] 27)) := zH
 go_upto_region 1 with (fail)
 generalize w.alloc (.cells #[.int .i64 o, .int .i64 l, .int .i64 m, .string ⟨dict.toArray⟩, .slice A fs.length cap] 27) = w0 at *
 have hX0 := hK0.cell
 have hz0 := hK0.lt
 go_wp2_with fail
 refine (cV.out _ (HSL.out _ g0)).mono ?_
 rintro e w1 ⟨rfl, hb1⟩
 have hz1 := hb1.size
 have hK1 := hK0.below hb1 hz0
 have g1 := g0.trans (hb1.mono (by omega))
 clear hb1 hK0 g0 hX0 cV
 have hX1 := hK1.cell
 have hl1 := hK1.lt
 go_wp2_with (at_make; go_must (refine wpList_make_full _ rfl _ _ 73 rfl w1.heap.size 9 i0 (.string ⟨#[]⟩) 1 Tryz.underlying73 hi hz0' hz1' _ _ _ _ fs.length rfl rfl (by omega) (by omega) (by rw [hz2']; omega) (by unfold maxLen; omega) (by omega) ?_); intro w2 hown hg1; have hX2 := (hK1.grown hg1 (fun k hk => by cases hk)).cell)
 have b2 : Below w1.heap.size w1 w2 := (Below.refl _ _).grown hg1 (Nat.le_refl _) (by simp)
 have hown2 : w2.ownsRow w1.heap.size 9 1 (.slice (some ⟨w1.heap.size, 0, none⟩) fs.length fs.length) fs.length (mqC ms 0) := by
  rw [Ro, hml, ← toList_madeCells_one]
  rw [Nat.mul_one] at hown
  exact hown
 have HSW : Hid (∀ wr, Below w1.heap.size w1 wr → Sl wr A fs.length cap 2 (yj fs) ∧ Bk wr w.heap.size 27 #[.int .i64 o, .int .i64 l, .int .i64 m, .string ⟨dict.toArray⟩, .slice A fs.length cap] ∧ Below w.heap.size w wr) := fun wr h => ⟨HSL.out wr (g1.trans (h.mono (by omega))), hK1.below h hl1, g1.trans (h.mono (by omega))⟩
 clear hg1 hown hX1 hK1 g1
 have htl : w.heap.size < w1.heap.size := hl1
 clear hX2 hz1 hl1 hz0
 generalize w1.heap.size = tb at *
 go_loopw [18] (fun i wr => ∃ k : Nat, i = .int .i64 (k : Int) ∧ k ≤ fs.length ∧ wr.ownsRow tb 9 1 (.slice (some ⟨tb, 0, none⟩) fs.length fs.length) fs.length (mqC ms k) ∧ Below tb w1 wr) (fun i _ => fs.length - (intOf i).toNat)
 case atStart => exact ⟨0, rfl, by omega, hown2, b2⟩
 case round =>
  obtain ⟨k, rfl, hk, hown, hb⟩ := hrel
  clear hown2 b2
  have hz : tb ≤ wr.heap.size := Nat.le_of_lt (hown.lt _ rfl).2
  obtain ⟨hsl, hBk, hgw⟩ := HSW.out wr hb
  by_cases hlt : k < fs.length
  ·have hki : (k : Int) < fs.length := by omega
   have hkm : k < ms.length := by omega
   obtain ⟨g, off, rfl, hg, c0, c1⟩ := hsl.fl hlt
   have hbk := (HB.out fs[k] (List.getElem_mem hlt)).2
   have hn8 := HNL.out k hlt
   have hme := (HMA.out k hlt hkm).trans (HFT.out k hlt)
   have HSE := Go.Lib.hid (Og ms k hkm)
   have HCUR := Go.Lib.hid (PQ ms k hkm)
   rw [hme] at HSE
   clear hme hsl
   generalize fs[k].1 = nm at *
   generalize fs[k].2 = tx at *
   have cD := fun w => cC.out tx w (by omega)
   have hdl := YT o l m dict tx
   obtain ⟨D, hD⟩ : ∃ D, (cdB o l m dict tx).getD [] = D := ⟨_, rfl⟩
   obtain ⟨b, hbb⟩ : ∃ b, (cdB o l m dict tx).isSome = b := ⟨_, rfl⟩
   unfold yZ at cD
   rw [hD] at HSE hdl
   rw [hD, hbb] at cD
   clear hD hbb
   have hhl := qo D
   have cH := fun w => lJ D w (by omega)
   generalize xM D = hx at *
   have hol := qh hx
   have cO : ∀ w, Calls Tryz.prog 44 #[.string ⟨hx.toArray⟩] w fun e w' => e = .returned (.string ⟨(yC hx).toArray⟩) ∧ w = w' := fun w => dR hx w
   generalize yC hx = hy at *
   have hN := Bk.new wr #[.string ⟨nm.toArray⟩, .string ⟨tx.toArray⟩] 40
   have o2 := hown.alloc (.cells #[.string ⟨nm.toArray⟩, .string ⟨tx.toArray⟩] 40)
   have g2 := hb.alloc hz (.cells #[.string ⟨nm.toArray⟩, .string ⟨tx.toArray⟩] 40)
   have hqn : tb < wr.heap.size := (hown.lt _ rfl).2
   clear hown hb hBk hgw
   go_upto_region 7 with (fail)
   generalize wr.alloc (.cells #[.string ⟨nm.toArray⟩, .string ⟨tx.toArray⟩] 40) = W at *
   have hX := (HSW.out W g2).2.1.cell
   have hY := hN.cell
   have hlN := hN.lt
   generalize wr.heap.size = qn at *
   clear c0 c1
   go_wp2_with fail
   refine (cD _).mono ?_
   rintro e w3 ⟨rfl, hb3⟩
   have hz3 := hb3.size
   have hN3 := hN.below hb3 hlN
   have o3 := zf o2 hb3
   have g3 := g2.trans (hb3.mono (by omega))
   have hY3 := hN3.cell
   clear hb3 hN o2 g2 hX hY cD
   have hq1 : ¬ 9223372036854775807 < nm.length + 1 := by omega
   have hq2 : ¬ 9223372036854775807 < nm.length + 1 + hy.length := by omega
   have hcl3 := (o3.cellAt k (by omega)).trans HCUR.out
   have HM : Hid (∀ w', Below w3.heap.size w3 w' → (w'.cell? ⟨qn, 0, none⟩ = some (.string ⟨nm.toArray⟩) ∧ w'.cell? ⟨tb, k, none⟩ = some (sv []) ∧ Below w3.heap.size w3 w')) := fun w' h => ⟨(h.cell (p := ⟨_, _, _⟩) (by first | assumption | (simp only; omega) | omega)).trans (hY3 0), (h.cell (p := ⟨_, _, _⟩) (by first | assumption | (simp only; omega) | omega)).trans (hcl3), h⟩
   go_wp2_with fail
   refine xR 10 (fun w' => w'.cell? ⟨qn, 0, none⟩ = some (.string ⟨nm.toArray⟩) ∧ w'.cell? ⟨tb, k, none⟩ = some (sv []) ∧ Below w3.heap.size w3 w') (by kernel_rfl) (by kernel_rfl) (by exact HM.out _ yU) (fun hSS => ?_)
   simp only [List.take_succ_cons, List.take_zero]
   refine tk 0 ?_
   try simp only [Act.put, u2, u3, u4]
   refine tk 1 ?_
   try simp only [Act.put, u2, u3, u4]
   refine tk 2 ?_
   try simp only [Act.put, u2, u3, u4]
   refine tk 3 ?_
   try simp only [Act.put, u2, u3, u4]
   refine tk 4 ?_
   try simp only [Act.put, u2, u3, u4]
   refine tk 5 ?_
   try simp only [Act.put, u2, u3, u4]
   refine rd1 6 fun KK hKK => ?_
   go_simp
   (go_at_call 20; refine (cH _).mono ?_; rintro e w7 ⟨rfl, hb7⟩; have hb7 : Below w3.heap.size w3 w7 := zL hb7; have hz7 := hb7.size; have o7 := zf o3 hb7; have g7 := g3.trans (hb7.mono (by omega)); have hcl := (o7.cellAt k (by omega)).trans HCUR.out; have hfr := o7.frozenAt k; have hst := (o7.stored k (sv (nm ++ 32 :: hy))).1)
   refine hKK.out _ _ (by exact HM.out _ yU) fun hSS => ?_
   try simp only [Act.put, u2, u3, u4]
   refine rd1 7 fun KK hKK => ?_
   go_simp
   (go_at_call 44; refine (cO _).mono ?_; rintro e w8 ⟨rfl, rfl⟩)
   refine hKK.out _ _ (by exact HM.out _ yU) fun hSS => ?_
   try simp only [Act.put, u2, u3, u4]
   refine tk 8 ?_
   try simp only [Act.put, u2, u3, u4]
   refine tk 9 ?_
   try simp only [Act.put, u2, u3, u4]
   refine wpAnyH_done (by kernel_rfl) ?_ _
   refine zZ ?_
   refine wpOp_step (o := _) rfl (fun KK hKK => ?_)
   go_simp
   refine hKK _ _ (NoPanic.normal ?_)
   try simp only [Act.put, u2, u3, u4]
   rw [HSE.out] at hst
   have b9 : Below tb w1 (w7.setCell ⟨tb, k, none⟩ (sv (nm ++ 32 :: hy))) := g7.setCell (Nat.le_refl _) _
   have HH := Go.Lib.hid (And.intro hst b9)
   clear hst b9 hKK o7 g7 o3 g3 hcl hcl3 hfr HSE HCUR
   go_wp2
   go_roundw
   case rel => exact ⟨k + 1, by go_num, by omega, HH.out.1, HH.out.2⟩
   case measure => simp [intOf]; omega
  ·have hki : ¬ (k : Int) < fs.length := by omega
   have hkk : k = ms.length := by omega
   have S4 := YA hown
   rw [hkk, RU] at S4
   rw [← hml] at S4
   have cJ := Vx ms (some ⟨tb, 0, none⟩) ms.length wr S4 (by omega) HMB.out
   have hJ : (join 59 ms).length ≤ 24066 := HJB.out
   have cO := fun w => dR (join 59 ms) w
   rw [HR.out] at cO
   rw [hml] at cJ
   generalize join 59 ms = J at *
   clear S4 hown
   go_wp2_with fail
   refine cJ.mono ?_
   rintro e w3 ⟨rfl, hb3⟩
   have g3 := hgw.trans (hb3.mono (by have := hgw.size; omega))
   go_wp2_with (go_at_call 44; refine (cO _).mono ?_; rintro e w' ⟨rfl, rfl⟩)
   go_ret
   exact ⟨rfl, g3⟩
end Go.Proofs.YtinncdollpajkaaGreat
