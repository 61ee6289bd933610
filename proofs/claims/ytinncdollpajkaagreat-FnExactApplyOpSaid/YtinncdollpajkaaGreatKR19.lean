import Derived.Test.YtinncdollpajkaaGreatKJ35
import Derived.Test.YtinncdollpajkaaGreatKGT
import Derived.Deep.Cut
set_option linter.unusedVariables false
set_option linter.unusedSimpArgs false
set_option maxHeartbeats 8000000
namespace Go.Proofs.YtinncdollpajkaaGreat
open Go.RowKit
set_option maxRecDepth 100000
attribute [local go_sem high] zy zx zu zS zK yc zA zk zl zq zi zo yO zF yl zD
theorem RV (S : Sto) (x : OpR) : ((aoO S x).getD wB).fs.length ≤ 6 := by
  cases h : aoO S x with
  | none => simp [wB]
  | some U =>
    unfold aoO at h
    split at h
    · rename_i hc
      exact (Ti ((Sto.jl S).1 hc.1) hc.2 h).ok.2.1
    · cases h
theorem jW (S : Sto) (k f t s : Int) (nm d : Bs) (A : Option Addr) (cap : Nat) (w : World) (hs : Sl w A S.fs.length cap 2 (zQ S.fs)) (hd : S.dict.length ≤ 9223372036854775807) (hx : ∀ f ∈ S.fs, f.1.length ≤ 9223372036854775807 ∧ f.2.length ≤ 9223372036854775807) (hnm : nm.length ≤ 9223372036854775807) (hdd : d.length ≤ 9223372036854775807) :
  Calls Tryz.prog 5 #[S.V A cap, .agg #[.int .i64 k, .string ⟨nm.toArray⟩, .int .i64 f, .int .i64 t, .int .i64 s, .string ⟨d.toArray⟩]] w fun e w' => e = .returned (.bool true) ∧ Below w.heap.size w w' := by
 have HS : Hid (∀ wr, Below w.heap.size w wr → Sl wr A S.fs.length cap 2 (zQ S.fs)) := fun wr h => hs.below h
 have cZ := fun w h => Yw S 1048576 A cap w h (by omega) hd hx
 have cZ2 : Hid (∀ (n : Nat) w, n ≤ 1048576 → Calls Tryz.prog 23 #[.agg #[.int .i64 k, .string ⟨nm.toArray⟩, .int .i64 f, .int .i64 t, .int .i64 s, .string ⟨d.toArray⟩], .int .i64 (n : Int)] w fun e w' => (∃ r : Int, e = .returned (.int .i64 r) ∧ (0 ≤ r → nm.length ≤ 1048576 ∧ d.length ≤ 1048576)) ∧ Below w.heap.size w w') := fun n w h => Uz k f t s nm d n w h hnm hdd
 have cT : Hid (S.small 1048576 → ∀ w, Sl w A S.fs.length cap 2 (zQ S.fs) → Calls Tryz.prog 25 #[S.V A cap] w fun e w' => ∃ (A' : Option Addr) (cap' : Nat), e = .returned (S.V A' cap') ∧ w'.ownsRow w.heap.size 40 2 (.slice A' S.fs.length cap') S.fs.length (zQ S.fs) ∧ Below w.heap.size w w') := fun h w hs => YL S A cap w hs (by have := h.2.1; omega)
 have cO := fun w => SG k f t s nm d w
 have cP : Hid (S.small 1048576 → nm.length ≤ 1048576 → d.length ≤ 1048576 → ∀ A cap w, Sl w A S.fs.length cap 2 (zQ S.fs) → Calls Tryz.prog 24 #[S.V A cap, .agg #[.int .i64 k, .string ⟨nm.toArray⟩, .int .i64 f, .int .i64 t, .int .i64 s, .string ⟨d.toArray⟩]] w (StO ((aoO S ⟨k, f, t, s, nm, d⟩).getD wB) (aoO S ⟨k, f, t, s, nm, d⟩).isSome w)) := fun h h1 h2 A cap w hs => WN S ⟨k, f, t, s, nm, d⟩ A cap w hs ⟨by have := h.1; omega, by have := h.2.1; omega, fun f hf => by have := h.2.2 f hf; omega⟩ ⟨by simp only; omega, by simp only; omega⟩
 have cG : Hid (S.small 1048576 → nm.length ≤ 1048576 → d.length ≤ 1048576 → ∀ A cap w, Sl w A S.fs.length cap 2 (zQ S.fs) → Calls Tryz.prog 27 #[S.V A cap, .agg #[.int .i64 k, .string ⟨nm.toArray⟩, .int .i64 f, .int .i64 t, .int .i64 s, .string ⟨d.toArray⟩]] w (StP ((aoO S ⟨k, f, t, s, nm, d⟩).getD wB) (aoO S ⟨k, f, t, s, nm, d⟩).isSome w)) := fun h h1 h2 A cap w hs => ZQ S ⟨k, f, t, s, nm, d⟩ A cap w hs ⟨by have := h.1; omega, by have := h.2.1; omega, fun f hf => by have := h.2.2 f hf; omega⟩ ⟨by simp only; omega, by simp only; omega⟩
 have cE : Hid (S.small 1048576 → ∀ w A B ca cb, Sl w A S.fs.length ca 2 (zQ S.fs) → Sl w B S.fs.length cb 2 (zQ S.fs) → Calls Tryz.prog 28 #[S.V A ca, S.V B cb] w fun e w' => e = .returned (.bool true) ∧ Below w.heap.size w w') := fun h w A B ca cb h1 h2 => kZ S A B ca cb w h1 h2 (by have := h.2.1; omega)
 have hTl := RV S ⟨k, f, t, s, nm, d⟩
 have cET : Hid (∀ w A B ca cb, Sl w A ((aoO S ⟨k, f, t, s, nm, d⟩).getD wB).fs.length ca 2 (zQ ((aoO S ⟨k, f, t, s, nm, d⟩).getD wB).fs) → Sl w B ((aoO S ⟨k, f, t, s, nm, d⟩).getD wB).fs.length cb 2 (zQ ((aoO S ⟨k, f, t, s, nm, d⟩).getD wB).fs) → Calls Tryz.prog 28 #[((aoO S ⟨k, f, t, s, nm, d⟩).getD wB).V A ca, ((aoO S ⟨k, f, t, s, nm, d⟩).getD wB).V B cb] w fun e w' => e = .returned (.bool true) ∧ Below w.heap.size w w') := fun w A B ca cb h1 h2 => kZ _ A B ca cb w h1 h2 (by omega)
 have hSl : S.small 1048576 → S.fs.length ≤ 1048576 := fun h => h.2.1
 have HSL : Hid (S.small 1048576 → S.fs.length ≤ 1048576) := hSl
 clear hs hd hx hnm hdd hSl
 generalize (aoO S ⟨k, f, t, s, nm, d⟩).getD wB = T at *
 generalize (aoO S ⟨k, f, t, s, nm, d⟩).isSome = tb at *
 generalize S.small 1048576 = PP at *
 obtain ⟨o, l, m, dict, fs⟩ := S
 obtain ⟨To, Tl, Tm, Td, P⟩ := T
 simp only at *
 unfold StO at cP
 unfold StP at cG
 simp only at cP cG
 go_enter Tryz.func5, Tryz.ntmps5
 have hSB : Bk ((w.alloc (.cells #[.int .i64 o, .int .i64 l, .int .i64 m, .string ⟨dict.toArray⟩, .slice A fs.length cap] 46)).alloc (.cells #[.int .i64 k, .string ⟨nm.toArray⟩, .int .i64 f, .int .i64 t, .int .i64 s, .string ⟨d.toArray⟩] 48)) w.heap.size 46 #[.int .i64 o, .int .i64 l, .int .i64 m, .string ⟨dict.toArray⟩, .slice A fs.length cap] := tBk
 have hOB : Bk ((w.alloc (.cells #[.int .i64 o, .int .i64 l, .int .i64 m, .string ⟨dict.toArray⟩, .slice A fs.length cap] 46)).alloc (.cells #[.int .i64 k, .string ⟨nm.toArray⟩, .int .i64 f, .int .i64 t, .int .i64 s, .string ⟨d.toArray⟩] 48)) (w.heap.size + 1) 48 #[.int .i64 k, .string ⟨nm.toArray⟩, .int .i64 f, .int .i64 t, .int .i64 s, .string ⟨d.toArray⟩] := tBk
 have g0 : Below w.heap.size w ((w.alloc (.cells #[.int .i64 o, .int .i64 l, .int .i64 m, .string ⟨dict.toArray⟩, .slice A fs.length cap] 46)).alloc (.cells #[.int .i64 k, .string ⟨nm.toArray⟩, .int .i64 f, .int .i64 t, .int .i64 s, .string ⟨d.toArray⟩] 48)) := zG
 go_upto_region 2 with (fail)
 generalize (w.alloc (.cells #[.int .i64 o, .int .i64 l, .int .i64 m, .string ⟨dict.toArray⟩, .slice A fs.length cap] 46)).alloc (.cells #[.int .i64 k, .string ⟨nm.toArray⟩, .int .i64 f, .int .i64 t, .int .i64 s, .string ⟨d.toArray⟩] 48) = w0 at *
 have ls := hSB.lt
 have lo := hOB.lt
 have z0 := g0.size
 have HD : Hid (∀ wr, Below w0.heap.size w0 wr → Bk wr w.heap.size 46 #[.int .i64 o, .int .i64 l, .int .i64 m, .string ⟨dict.toArray⟩, .slice A fs.length cap] ∧ Bk wr (w.heap.size + 1) 48 #[.int .i64 k, .string ⟨nm.toArray⟩, .int .i64 f, .int .i64 t, .int .i64 s, .string ⟨d.toArray⟩] ∧ Sl wr A fs.length cap 2 (zQ fs) ∧ Below w.heap.size w wr) := fun wr h => ⟨hSB.below h ls, hOB.below h lo, HS.out wr (g0.trans (h.mono (by omega))), g0.trans (h.mono (by omega))⟩
 have hX0 := hSB.cell
 go_wp2_with fail
 refine (cZ _ (HS.out _ g0)).mono ?_
 rintro e w1 ⟨⟨x, rfl, hx1, hx2, hx3⟩, b1⟩
 have z1 := b1.size
 clear cZ hX0 hSB hOB g0 HS
 by_cases hneg : x < 0
 ·have gw := (HD.out _ b1).2.2.2
  clear hx3
  go_wp2
  go_ret
  exact ⟨rfl, gw⟩
 have hPP := hx3 (by omega)
 obtain ⟨q, rfl⟩ := Int.eq_ofNat_of_zero_le (by omega : 0 ≤ x)
 have hq : q ≤ 1048576 := by omega
 clear hx1 hx2 hx3
 have hOB1 := (HD.out _ b1).2.1
 have hX1 := hOB1.cell
 go_wp2_with fail
 refine (cZ2.out q _ hq).mono ?_
 rintro e w2 ⟨⟨r, rfl, hr⟩, c2⟩
 have z2 := c2.size
 have b2 := b1.trans (c2.mono (by omega))
 clear c2 b1 cZ2 hX1 hOB1
 by_cases hneg2 : r < 0
 ·have gw := (HD.out _ b2).2.2.2
  clear hr
  go_wp2
  go_ret
  exact ⟨rfl, gw⟩
 obtain ⟨hr1, hr2⟩ := hr (by omega)
 have cT2 := Go.Lib.hid (cT.out hPP)
 have cP2 := Go.Lib.hid (cP.out hPP hr1 hr2)
 have cG2 := Go.Lib.hid (cG.out hPP hr1 hr2)
 have cE2 := Go.Lib.hid (cE.out hPP)
 have hfl := HSL.out hPP
 clear cT cP cG cE hr hPP hr1 hr2 HSL hq
 have HO := Go.Lib.hid cO
 clear cO
 go_upto_region 8 with (fail)
 have b3 : Below w2.heap.size w2 w2 := Below.refl _ _
 have HE : Hid (∀ wr, Below w2.heap.size w2 wr → Sl wr A fs.length cap 2 (zQ fs)) := fun wr h => (HD.out _ (b2.trans (h.mono (by omega)))).2.2.1
 have hXS := (HD.out _ b2).1.cell
 have hXO := (HD.out _ b2).2.1.cell
 clear b3
 go_cut [6, 7] (fun p b wx => ∃ (gp : Nat) (A3 : Option Addr) (c3 : Nat), p = .pointer (some ⟨gp, 0, none⟩) ∧ b = .bool tb ∧ w2.heap.size ≤ gp ∧ Bk wx gp 27 #[.int .i64 To, .int .i64 Tl, .int .i64 Tm, .string ⟨Td.toArray⟩, .slice A3 P.length c3] ∧ Sl wx A3 P.length c3 2 (zQ P) ∧ Below w2.heap.size w2 wx)
 case first =>
  have bw2 := Below.refl w2.heap.size w2
  have HL : Hid (∀ w', Below w2.heap.size w2 w' → (w'.cell? ⟨w.heap.size, 0, none⟩ = some (.int .i64 o) ∧ w'.cell? ⟨w.heap.size, 1, none⟩ = some (.int .i64 l) ∧ w'.cell? ⟨w.heap.size, 2, none⟩ = some (.int .i64 m) ∧ w'.cell? ⟨w.heap.size, 3, none⟩ = some (.string ⟨dict.toArray⟩) ∧ w'.cell? ⟨w.heap.size, 4, none⟩ = some (.slice A fs.length cap) ∧ w'.cell? ⟨w.heap.size + 1, 0, none⟩ = some (.int .i64 k) ∧ w'.cell? ⟨w.heap.size + 1, 1, none⟩ = some (.string ⟨nm.toArray⟩) ∧ w'.cell? ⟨w.heap.size + 1, 2, none⟩ = some (.int .i64 f) ∧ w'.cell? ⟨w.heap.size + 1, 3, none⟩ = some (.int .i64 t) ∧ w'.cell? ⟨w.heap.size + 1, 4, none⟩ = some (.int .i64 s) ∧ w'.cell? ⟨w.heap.size + 1, 5, none⟩ = some (.string ⟨d.toArray⟩) ∧ Below w2.heap.size w2 w')) := fun w' h => ⟨(h.cell (p := ⟨_, _, _⟩) (by first | assumption | (simp only; omega) | omega)).trans (hXS 0), (h.cell (p := ⟨_, _, _⟩) (by first | assumption | (simp only; omega) | omega)).trans (hXS 1), (h.cell (p := ⟨_, _, _⟩) (by first | assumption | (simp only; omega) | omega)).trans (hXS 2), (h.cell (p := ⟨_, _, _⟩) (by first | assumption | (simp only; omega) | omega)).trans (hXS 3), (h.cell (p := ⟨_, _, _⟩) (by first | assumption | (simp only; omega) | omega)).trans (hXS 4), (h.cell (p := ⟨_, _, _⟩) (by first | assumption | (simp only; omega) | omega)).trans (hXO 0), (h.cell (p := ⟨_, _, _⟩) (by first | assumption | (simp only; omega) | omega)).trans (hXO 1), (h.cell (p := ⟨_, _, _⟩) (by first | assumption | (simp only; omega) | omega)).trans (hXO 2), (h.cell (p := ⟨_, _, _⟩) (by first | assumption | (simp only; omega) | omega)).trans (hXO 3), (h.cell (p := ⟨_, _, _⟩) (by first | assumption | (simp only; omega) | omega)).trans (hXO 4), (h.cell (p := ⟨_, _, _⟩) (by first | assumption | (simp only; omega) | omega)).trans (hXO 5), h⟩
  refine wp_region_held_drew (S := (fun w' => w'.cell? ⟨w.heap.size, 0, none⟩ = some (.int .i64 o) ∧ w'.cell? ⟨w.heap.size, 1, none⟩ = some (.int .i64 l) ∧ w'.cell? ⟨w.heap.size, 2, none⟩ = some (.int .i64 m) ∧ w'.cell? ⟨w.heap.size, 3, none⟩ = some (.string ⟨dict.toArray⟩) ∧ w'.cell? ⟨w.heap.size, 4, none⟩ = some (.slice A fs.length cap) ∧ w'.cell? ⟨w.heap.size + 1, 0, none⟩ = some (.int .i64 k) ∧ w'.cell? ⟨w.heap.size + 1, 1, none⟩ = some (.string ⟨nm.toArray⟩) ∧ w'.cell? ⟨w.heap.size + 1, 2, none⟩ = some (.int .i64 f) ∧ w'.cell? ⟨w.heap.size + 1, 3, none⟩ = some (.int .i64 t) ∧ w'.cell? ⟨w.heap.size + 1, 4, none⟩ = some (.int .i64 s) ∧ w'.cell? ⟨w.heap.size + 1, 5, none⟩ = some (.string ⟨d.toArray⟩) ∧ Below w2.heap.size w2 w')) (by kernel_rfl) ?_ (fun hSS => ?_)
  focus (exact HL.out _ zX)
  refine tk 0 ?_
  try simp only [Act.put, u2, u3, u4]
  refine tk 2 ?_
  try simp only [Act.put, u2, u3, u4]
  refine wpAnyH_ready (rs := [1, 8]) (by kernel_rfl) (by simp) ?_
  refine (AllReadyH.cons (o := _) rfl (fun KK hKK => ?_) (AllReadyH.cons (o := _) rfl (fun KK hKK => ?_) AllReadyH.nil))
  ·
   go_simp
   (go_at_call 25; refine (cT2.out w2.drew (HE.out w2 bw2)).mono ?_; rintro e w21 ⟨Yw21, yw21, rfl, ow21, cw21⟩; have cw21 : Below w2.heap.size w2 w21 := zB cw21; have zw21 := cw21.size; have bw21 := (bw2).trans (cw21.mono (by omega)); have tw21 := Sl.own ow21)
   refine hKK.out _ _ (HL.out _ zX) fun hSS => ?_
   try simp only [Act.put, u2, u3, u4]
   refine wpAnyH_ready (rs := [3, 8]) (by kernel_rfl) (by simp) ?_
   refine (AllReadyH.cons (o := _) rfl (fun KK hKK => ?_) (AllReadyH.cons (o := _) rfl (fun KK hKK => ?_) AllReadyH.nil))
   ·
    go_simp
    (go_at_call 26; refine (HO.out _).mono ?_; rintro e w22 ⟨rfl, cw22⟩; have zw22 := cw22.size; have bw22 := (bw21).trans (cw22.mono (by omega)); have tw22 := Sl.below tw21 cw22)
    refine hKK.out _ _ (HL.out _ zX) fun hSS => ?_
    try simp only [Act.put, u2, u3, u4]
    refine wpAnyH_ready (rs := [4, 8]) (by kernel_rfl) (by simp) ?_
    refine (AllReadyH.cons (o := _) rfl (fun KK hKK => ?_) (AllReadyH.cons (o := _) rfl (fun KK hKK => ?_) AllReadyH.nil))
    ·
     go_simp
     (go_at_call 24; refine (cP2.out _ _ _ tw22).mono ?_; rintro e w23 ⟨Aw23, kw23, rfl, rw23, cw23⟩; have zw23 := cw23.size; have bw23 := (bw22).trans (cw23.mono (by omega)); (try simp only at rw23); have sw23 := Sl.own rw23)
     refine hKK.out _ _ (HL.out _ zX) fun hSS => ?_
     try simp only [Act.put, u2, u3, u4]
     refine tk 5 ?_
     try simp only [Act.put, u2, u3, u4]
     refine tk 6 ?_
     try simp only [Act.put, u2, u3, u4]
     refine tk 7 ?_
     try simp only [Act.put, u2, u3, u4]
     refine rd1 8 fun KK hKK => ?_
     go_simp
     refine hKK.out _ _ (HL.out _ zX) fun hSS => ?_
     try simp only [Act.put, u2, u3, u4]
     refine rd1 9 fun KK hKK => ?_
     go_simp
     refine hKK.out _ _ (HL.out _ zX) fun hSS => ?_
     try simp only [Act.put, u2, u3, u4]
     refine tk 10 ?_
     try simp only [Act.put, u2, u3, u4]
     refine wpAnyH_done (by kernel_rfl) ?_ _
     simp only [List.getElem_toArray, List.getElem_cons_succ, List.getElem_cons_zero, Act.put, List.setIfInBounds_toArray, List.set_cons_zero, List.set_cons_succ]
     go_wp2_with fail
     go_meet
     exact ⟨_, Aw23, kw23, rfl, rfl, by omega, Bk.new _ _ _, sw23.alloc _, (bw23).alloc (by omega) _⟩
    ·
     go_simp
     refine hKK.out _ _ (HL.out _ zX) fun hSS => ?_
     try simp only [Act.put, u2, u3, u4]
     refine rd1 4 fun KK hKK => ?_
     go_simp
     (go_at_call 24; refine (cP2.out _ _ _ (tw22.alloc _)).mono ?_; rintro e w23a ⟨Aw23a, kw23a, rfl, rw23a, cw23a⟩; have zw23a := cw23a.size; simp only [World.size_alloc, World.size_drew] at zw23a; have qw23a := Bk.below (Bk.new w22 yV 27) cw23a (by simp); have bw23a := ((bw22).alloc (by omega) (.cells yV 27)).trans (cw23a.mono (by first | omega | (simp; done) | (simp; omega))); have lw23a := qw23a.lt; have Xw23a := qw23a.cell; have Fw23a := qw23a.free; (try simp only at rw23a); have sw23a := Sl.own rw23a; have mw23a : ∀ g off, Aw23a = some ⟨g, off, none⟩ → g ≠ w22.heap.size := fun g off hg => (by subst hg; have h1 := (rw23a.lt g rfl).1; (try simp only [World.size_alloc, World.size_drew] at h1); omega))
     refine hKK.out _ _ (HL.out _ zX) fun hSS => ?_
     try simp only [Act.put, u2, u3, u4]
     refine tk 5 ?_
     try simp only [Act.put, u2, u3, u4]
     refine tk 6 ?_
     try simp only [Act.put, u2, u3, u4]
     refine tk 7 ?_
     try simp only [Act.put, u2, u3, u4]
     refine rd1 9 fun KK hKK => ?_
     go_simp
     refine hKK.out _ _ (HL.out _ zX) fun hSS => ?_
     try simp only [Act.put, u2, u3, u4]
     refine tk 10 ?_
     try simp only [Act.put, u2, u3, u4]
     refine wpAnyH_done (by kernel_rfl) ?_ _
     simp only [List.getElem_toArray, List.getElem_cons_succ, List.getElem_cons_zero, Act.put, List.setIfInBounds_toArray, List.set_cons_zero, List.set_cons_succ]
     go_wp2_with fail
     go_meet
     exact ⟨_, Aw23a, kw23a, rfl, rfl, by omega, wX qw23a ⟨To, Tl, Tm, Td, P⟩ _ _, aP sw23a mw23a ⟨To, Tl, Tm, Td, P⟩ _ _, yD bw23a (by omega) ⟨To, Tl, Tm, Td, P⟩ _ _⟩
   ·
    go_simp
    refine hKK.out _ _ (HL.out _ zX) fun hSS => ?_
    try simp only [Act.put, u2, u3, u4]
    refine rd1 3 fun KK hKK => ?_
    go_simp
    (go_at_call 26; refine (HO.out _).mono ?_; rintro e w22a ⟨rfl, cw22a⟩; have zw22a := cw22a.size; simp only [World.size_alloc, World.size_drew] at zw22a; have qw22a := Bk.below (Bk.new w21 yV 27) cw22a (by simp); have bw22a := ((bw21).alloc (by omega) (.cells yV 27)).trans (cw22a.mono (by first | omega | (simp; done) | (simp; omega))); have lw22a := qw22a.lt; have Xw22a := qw22a.cell; have Fw22a := qw22a.free; have tw22a := Sl.below (tw21.alloc _) cw22a)
    refine hKK.out _ _ (HL.out _ zX) fun hSS => ?_
    try simp only [Act.put, u2, u3, u4]
    refine rd1 4 fun KK hKK => ?_
    go_simp
    (go_at_call 24; refine (cP2.out _ _ _ tw22a).mono ?_; rintro e w23a ⟨Aw23a, kw23a, rfl, rw23a, cw23a⟩; have zw23a := cw23a.size; have bw23a := (bw22a).trans (cw23a.mono (by omega)); have qw23a := qw22a.below cw23a lw22a; have lw23a := qw23a.lt; have Xw23a := qw23a.cell; have Fw23a := qw23a.free; (try simp only at rw23a); have sw23a := Sl.own rw23a; have mw23a : ∀ g off, Aw23a = some ⟨g, off, none⟩ → g ≠ w21.heap.size := fun g off hg => (by subst hg; have h1 := (rw23a.lt g rfl).1; (try simp only [World.size_alloc, World.size_drew] at h1); omega))
    refine hKK.out _ _ (HL.out _ zX) fun hSS => ?_
    try simp only [Act.put, u2, u3, u4]
    refine tk 5 ?_
    try simp only [Act.put, u2, u3, u4]
    refine tk 6 ?_
    try simp only [Act.put, u2, u3, u4]
    refine tk 7 ?_
    try simp only [Act.put, u2, u3, u4]
    refine rd1 9 fun KK hKK => ?_
    go_simp
    refine hKK.out _ _ (HL.out _ zX) fun hSS => ?_
    try simp only [Act.put, u2, u3, u4]
    refine tk 10 ?_
    try simp only [Act.put, u2, u3, u4]
    refine wpAnyH_done (by kernel_rfl) ?_ _
    simp only [List.getElem_toArray, List.getElem_cons_succ, List.getElem_cons_zero, Act.put, List.setIfInBounds_toArray, List.set_cons_zero, List.set_cons_succ]
    go_wp2_with fail
    go_meet
    exact ⟨_, Aw23a, kw23a, rfl, rfl, by omega, wX qw23a ⟨To, Tl, Tm, Td, P⟩ _ _, aP sw23a mw23a ⟨To, Tl, Tm, Td, P⟩ _ _, yD bw23a (by omega) ⟨To, Tl, Tm, Td, P⟩ _ _⟩
  ·
   go_simp
   refine hKK.out _ _ (HL.out _ zX) fun hSS => ?_
   try simp only [Act.put, u2, u3, u4]
   refine rd1 1 fun KK hKK => ?_
   go_simp
   (go_at_call 25; refine (cT2.out (w2.alloc (.cells yV 27)).drew ((HE.out w2 bw2).alloc _)).mono ?_; rintro e w21a ⟨Yw21a, yw21a, rfl, ow21a, cw21a⟩; have cw21a : Below (w2.alloc (.cells yV 27)).heap.size (w2.alloc (.cells yV 27)) w21a := zB cw21a; have zw21a := cw21a.size; simp only [World.size_alloc, World.size_drew] at zw21a; have qw21a := Bk.below (Bk.new w2 yV 27) cw21a (by simp); have bw21a := ((bw2).alloc (by omega) (.cells yV 27)).trans (cw21a.mono (by first | omega | (simp; done) | (simp; omega))); have lw21a := qw21a.lt; have Xw21a := qw21a.cell; have Fw21a := qw21a.free; have tw21a := Sl.own ow21a)
   refine hKK.out _ _ (HL.out _ zX) fun hSS => ?_
   try simp only [Act.put, u2, u3, u4]
   refine rd1 3 fun KK hKK => ?_
   go_simp
   (go_at_call 26; refine (HO.out _).mono ?_; rintro e w22a ⟨rfl, cw22a⟩; have zw22a := cw22a.size; have bw22a := (bw21a).trans (cw22a.mono (by omega)); have qw22a := qw21a.below cw22a lw21a; have lw22a := qw22a.lt; have Xw22a := qw22a.cell; have Fw22a := qw22a.free; have tw22a := Sl.below tw21a cw22a)
   refine hKK.out _ _ (HL.out _ zX) fun hSS => ?_
   try simp only [Act.put, u2, u3, u4]
   refine rd1 4 fun KK hKK => ?_
   go_simp
   (go_at_call 24; refine (cP2.out _ _ _ tw22a).mono ?_; rintro e w23a ⟨Aw23a, kw23a, rfl, rw23a, cw23a⟩; have zw23a := cw23a.size; have bw23a := (bw22a).trans (cw23a.mono (by omega)); have qw23a := qw22a.below cw23a lw22a; have lw23a := qw23a.lt; have Xw23a := qw23a.cell; have Fw23a := qw23a.free; (try simp only at rw23a); have sw23a := Sl.own rw23a; have mw23a : ∀ g off, Aw23a = some ⟨g, off, none⟩ → g ≠ w2.heap.size := fun g off hg => (by subst hg; have h1 := (rw23a.lt g rfl).1; (try simp only [World.size_alloc, World.size_drew] at h1); omega))
   refine hKK.out _ _ (HL.out _ zX) fun hSS => ?_
   try simp only [Act.put, u2, u3, u4]
   refine tk 5 ?_
   try simp only [Act.put, u2, u3, u4]
   refine tk 6 ?_
   try simp only [Act.put, u2, u3, u4]
   refine tk 7 ?_
   try simp only [Act.put, u2, u3, u4]
   refine rd1 9 fun KK hKK => ?_
   go_simp
   refine hKK.out _ _ (HL.out _ zX) fun hSS => ?_
   try simp only [Act.put, u2, u3, u4]
   refine tk 10 ?_
   try simp only [Act.put, u2, u3, u4]
   refine wpAnyH_done (by kernel_rfl) ?_ _
   simp only [List.getElem_toArray, List.getElem_cons_succ, List.getElem_cons_zero, Act.put, List.setIfInBounds_toArray, List.set_cons_zero, List.set_cons_succ]
   go_wp2_with fail
   go_meet
   exact ⟨_, Aw23a, kw23a, rfl, rfl, by omega, wX qw23a ⟨To, Tl, Tm, Td, P⟩ _ _, aP sw23a mw23a ⟨To, Tl, Tm, Td, P⟩ _ _, yD bw23a (by omega) ⟨To, Tl, Tm, Td, P⟩ _ _⟩
 case rest =>
 obtain ⟨gp, A3, c3, rfl, rfl, hgp, hP3, sP3, b3⟩ := hcut
 have lp := hP3.lt
 have z3 := b3.size
 have G3 := b2.trans (b3.mono (by omega))
 generalize wc = w3 at *
 have HP : Hid (∀ wr, Below w3.heap.size w3 wr → Bk wr gp 27 #[.int .i64 To, .int .i64 Tl, .int .i64 Tm, .string ⟨Td.toArray⟩, .slice A3 P.length c3] ∧ Sl wr A3 P.length c3 2 (zQ P) ∧ Below w0.heap.size w0 wr) := fun wr h => ⟨hP3.below h lp, sP3.below h, G3.trans (h.mono (by omega))⟩
 have hS3 := (HD.out _ G3).1
 have hX3 := hS3.cell
 have sA3 := (HD.out _ G3).2.2.1
 clear hXS hXO HE hP3 sP3 b3 b2 cP2
 go_wp2_with fail
 refine (cT2.out _ sA3).mono ?_
 rintro e w4 ⟨A4, c4, rfl, o4, b4⟩
 have z4 := b4.size
 have hB5 := Bk.new w4 #[.int .i64 o, .int .i64 l, .int .i64 m, .string ⟨dict.toArray⟩, .slice A4 fs.length c4] 27
 have o5 := World.ownsRow.alloc o4 (.cells #[.int .i64 o, .int .i64 l, .int .i64 m, .string ⟨dict.toArray⟩, .slice A4 fs.length c4] 27)
 have b5 := b4.alloc (by omega) (.cells #[.int .i64 o, .int .i64 l, .int .i64 m, .string ⟨dict.toArray⟩, .slice A4 fs.length c4] 27)
 clear b4 o4 hX3 hS3 sA3
 go_upto_region 10 with (fail)
 generalize w4.alloc (.cells #[.int .i64 o, .int .i64 l, .int .i64 m, .string ⟨dict.toArray⟩, .slice A4 fs.length c4] 27) = w5 at *
 have l5 := hB5.lt
 have z5 := b5.size
 generalize w4.heap.size = q5 at *
 have G5 := (HP.out _ b5).2.2
 have s5 := Sl.own o5
 have HX : Hid (∀ wr, Below w5.heap.size w5 wr → Bk wr q5 27 #[.int .i64 o, .int .i64 l, .int .i64 m, .string ⟨dict.toArray⟩, .slice A4 fs.length c4] ∧ wr.ownsRow w3.heap.size 40 2 (.slice A4 fs.length c4) fs.length (zQ fs) ∧ Below w3.heap.size w3 wr) := fun wr h => ⟨hB5.below h l5, zf o5 h, b5.trans (h.mono (by omega))⟩
 have HE : Hid (∀ wr, Below w5.heap.size w5 wr → Sl wr A4 fs.length c4 2 (zQ fs)) := fun wr h => s5.below h
 have hXX := hB5.cell
 have hXO := (HD.out _ G5).2.1.cell
 clear hB5 o5 s5
 go_cut [9, 10] (fun p b wx => ∃ (gp : Nat) (A3 : Option Addr) (c3 : Nat), p = .pointer (some ⟨gp, 0, none⟩) ∧ b = .bool tb ∧ w5.heap.size ≤ gp ∧ Bk wx gp 27 #[.int .i64 To, .int .i64 Tl, .int .i64 Tm, .string ⟨Td.toArray⟩, .slice A3 P.length c3] ∧ OwC wx w5.heap.size 40 2 A3 P.length (zQ P) ∧ (P.length ≤ c3 ∧ c3 ≤ 9223372036854775807) ∧ (∀ g off, A3 = some ⟨g, off, none⟩ → g ≠ gp) ∧ Below w5.heap.size w5 wx)
 case first =>
  have bw5 := Below.refl w5.heap.size w5
  have HL : Hid (∀ w', Below w5.heap.size w5 w' → (w'.cell? ⟨q5, 0, none⟩ = some (.int .i64 o) ∧ w'.cell? ⟨q5, 1, none⟩ = some (.int .i64 l) ∧ w'.cell? ⟨q5, 2, none⟩ = some (.int .i64 m) ∧ w'.cell? ⟨q5, 3, none⟩ = some (.string ⟨dict.toArray⟩) ∧ w'.cell? ⟨q5, 4, none⟩ = some (.slice A4 fs.length c4) ∧ w'.cell? ⟨w.heap.size + 1, 0, none⟩ = some (.int .i64 k) ∧ w'.cell? ⟨w.heap.size + 1, 1, none⟩ = some (.string ⟨nm.toArray⟩) ∧ w'.cell? ⟨w.heap.size + 1, 2, none⟩ = some (.int .i64 f) ∧ w'.cell? ⟨w.heap.size + 1, 3, none⟩ = some (.int .i64 t) ∧ w'.cell? ⟨w.heap.size + 1, 4, none⟩ = some (.int .i64 s) ∧ w'.cell? ⟨w.heap.size + 1, 5, none⟩ = some (.string ⟨d.toArray⟩) ∧ Below w5.heap.size w5 w')) := fun w' h => ⟨(h.cell (p := ⟨_, _, _⟩) (by first | assumption | (simp only; omega) | omega)).trans (hXX 0), (h.cell (p := ⟨_, _, _⟩) (by first | assumption | (simp only; omega) | omega)).trans (hXX 1), (h.cell (p := ⟨_, _, _⟩) (by first | assumption | (simp only; omega) | omega)).trans (hXX 2), (h.cell (p := ⟨_, _, _⟩) (by first | assumption | (simp only; omega) | omega)).trans (hXX 3), (h.cell (p := ⟨_, _, _⟩) (by first | assumption | (simp only; omega) | omega)).trans (hXX 4), (h.cell (p := ⟨_, _, _⟩) (by first | assumption | (simp only; omega) | omega)).trans (hXO 0), (h.cell (p := ⟨_, _, _⟩) (by first | assumption | (simp only; omega) | omega)).trans (hXO 1), (h.cell (p := ⟨_, _, _⟩) (by first | assumption | (simp only; omega) | omega)).trans (hXO 2), (h.cell (p := ⟨_, _, _⟩) (by first | assumption | (simp only; omega) | omega)).trans (hXO 3), (h.cell (p := ⟨_, _, _⟩) (by first | assumption | (simp only; omega) | omega)).trans (hXO 4), (h.cell (p := ⟨_, _, _⟩) (by first | assumption | (simp only; omega) | omega)).trans (hXO 5), h⟩
  refine wp_region_held_drew (S := (fun w' => w'.cell? ⟨q5, 0, none⟩ = some (.int .i64 o) ∧ w'.cell? ⟨q5, 1, none⟩ = some (.int .i64 l) ∧ w'.cell? ⟨q5, 2, none⟩ = some (.int .i64 m) ∧ w'.cell? ⟨q5, 3, none⟩ = some (.string ⟨dict.toArray⟩) ∧ w'.cell? ⟨q5, 4, none⟩ = some (.slice A4 fs.length c4) ∧ w'.cell? ⟨w.heap.size + 1, 0, none⟩ = some (.int .i64 k) ∧ w'.cell? ⟨w.heap.size + 1, 1, none⟩ = some (.string ⟨nm.toArray⟩) ∧ w'.cell? ⟨w.heap.size + 1, 2, none⟩ = some (.int .i64 f) ∧ w'.cell? ⟨w.heap.size + 1, 3, none⟩ = some (.int .i64 t) ∧ w'.cell? ⟨w.heap.size + 1, 4, none⟩ = some (.int .i64 s) ∧ w'.cell? ⟨w.heap.size + 1, 5, none⟩ = some (.string ⟨d.toArray⟩) ∧ Below w5.heap.size w5 w')) (by kernel_rfl) ?_ (fun hSS => ?_)
  focus (exact HL.out _ zX)
  refine tk 0 ?_
  try simp only [Act.put, u2, u3, u4]
  refine tk 1 ?_
  try simp only [Act.put, u2, u3, u4]
  refine wpAnyH_ready (rs := [2, 7]) (by kernel_rfl) (by simp) ?_
  refine (AllReadyH.cons (o := _) rfl (fun KK hKK => ?_) (AllReadyH.cons (o := _) rfl (fun KK hKK => ?_) AllReadyH.nil))
  ·
   go_simp
   (go_at_call 26; refine (HO.out _).mono ?_; rintro e w51 ⟨rfl, cw51⟩; have cw51 : Below w5.heap.size w5 w51 := zB cw51; have zw51 := cw51.size; have bw51 := (bw5).trans (cw51.mono (by omega)))
   refine hKK.out _ _ (HL.out _ zX) fun hSS => ?_
   try simp only [Act.put, u2, u3, u4]
   refine wpAnyH_ready (rs := [3, 7]) (by kernel_rfl) (by simp) ?_
   refine (AllReadyH.cons (o := _) rfl (fun KK hKK => ?_) (AllReadyH.cons (o := _) rfl (fun KK hKK => ?_) AllReadyH.nil))
   ·
    go_simp
    (go_at_call 27; refine (cG2.out _ _ _ (HE.out w51 bw51)).mono ?_; rintro e w52 ⟨Aw52, kw52, rfl, rw52, hw52, cw52⟩; have zw52 := cw52.size; have bw52 := (bw51).trans (cw52.mono (by omega)); (try simp only at rw52 hw52); have sw52 := OwC.sl rw52 hw52.1 hw52.2)
    refine hKK.out _ _ (HL.out _ zX) fun hSS => ?_
    try simp only [Act.put, u2, u3, u4]
    refine tk 4 ?_
    try simp only [Act.put, u2, u3, u4]
    refine tk 5 ?_
    try simp only [Act.put, u2, u3, u4]
    refine tk 6 ?_
    try simp only [Act.put, u2, u3, u4]
    refine rd1 7 fun KK hKK => ?_
    go_simp
    refine hKK.out _ _ (HL.out _ zX) fun hSS => ?_
    try simp only [Act.put, u2, u3, u4]
    refine rd1 8 fun KK hKK => ?_
    go_simp
    refine hKK.out _ _ (HL.out _ zX) fun hSS => ?_
    try simp only [Act.put, u2, u3, u4]
    refine tk 9 ?_
    try simp only [Act.put, u2, u3, u4]
    refine wpAnyH_done (by kernel_rfl) ?_ _
    simp only [List.getElem_toArray, List.getElem_cons_succ, List.getElem_cons_zero, Act.put, List.setIfInBounds_toArray, List.set_cons_zero, List.set_cons_succ]
    go_wp2_with fail
    go_meet
    exact ⟨_, Aw52, kw52, rfl, rfl, by omega, Bk.new _ _ _, (OwC.mono rw52 (by first | omega | (simp; done) | (simp; omega))).alloc _, hw52, (fun g off hg => by have := OwC.lt3 rw52 hg; omega), (bw52).alloc (by omega) _⟩
   ·
    go_simp
    refine hKK.out _ _ (HL.out _ zX) fun hSS => ?_
    try simp only [Act.put, u2, u3, u4]
    refine rd1 3 fun KK hKK => ?_
    go_simp
    (go_at_call 27; refine (cG2.out _ _ _ ((HE.out w51 bw51).alloc _)).mono ?_; rintro e w52a ⟨Aw52a, kw52a, rfl, rw52a, hw52a, cw52a⟩; have zw52a := cw52a.size; simp only [World.size_alloc, World.size_drew] at zw52a; have qw52a := Bk.below (Bk.new w51 yV 27) cw52a (by simp); have bw52a := ((bw51).alloc (by omega) (.cells yV 27)).trans (cw52a.mono (by first | omega | (simp; done) | (simp; omega))); have lw52a := qw52a.lt; have Xw52a := qw52a.cell; have Fw52a := qw52a.free; (try simp only at rw52a hw52a); have sw52a := OwC.sl rw52a hw52a.1 hw52a.2; have mw52a : ∀ g off, Aw52a = some ⟨g, off, none⟩ → g ≠ w51.heap.size := fun g off hg => (by subst hg; have h1 := OwC.lt2 rw52a rfl; (try simp only [World.size_alloc, World.size_drew] at h1); omega))
    refine hKK.out _ _ (HL.out _ zX) fun hSS => ?_
    try simp only [Act.put, u2, u3, u4]
    refine tk 4 ?_
    try simp only [Act.put, u2, u3, u4]
    refine tk 5 ?_
    try simp only [Act.put, u2, u3, u4]
    refine tk 6 ?_
    try simp only [Act.put, u2, u3, u4]
    refine rd1 8 fun KK hKK => ?_
    go_simp
    refine hKK.out _ _ (HL.out _ zX) fun hSS => ?_
    try simp only [Act.put, u2, u3, u4]
    refine tk 9 ?_
    try simp only [Act.put, u2, u3, u4]
    refine wpAnyH_done (by kernel_rfl) ?_ _
    simp only [List.getElem_toArray, List.getElem_cons_succ, List.getElem_cons_zero, Act.put, List.setIfInBounds_toArray, List.set_cons_zero, List.set_cons_succ]
    go_wp2_with fail
    go_meet
    exact ⟨_, Aw52a, kw52a, rfl, rfl, by omega, wX qw52a ⟨To, Tl, Tm, Td, P⟩ _ _, OwC.stF (OwC.mono rw52a (by first | omega | (simp; done) | (simp; omega))) (fun g hg => mw52a g 0 hg) ⟨To, Tl, Tm, Td, P⟩ _ _, hw52a, mw52a, yD bw52a (by omega) ⟨To, Tl, Tm, Td, P⟩ _ _⟩
  ·
   go_simp
   refine hKK.out _ _ (HL.out _ zX) fun hSS => ?_
   try simp only [Act.put, u2, u3, u4]
   refine rd1 2 fun KK hKK => ?_
   go_simp
   (go_at_call 26; refine (HO.out _).mono ?_; rintro e w51a ⟨rfl, cw51a⟩; have cw51a : Below (w5.alloc (.cells yV 27)).heap.size (w5.alloc (.cells yV 27)) w51a := zB cw51a; have zw51a := cw51a.size; simp only [World.size_alloc, World.size_drew] at zw51a; have qw51a := Bk.below (Bk.new w5 yV 27) cw51a (by simp); have bw51a := ((bw5).alloc (by omega) (.cells yV 27)).trans (cw51a.mono (by first | omega | (simp; done) | (simp; omega))); have lw51a := qw51a.lt; have Xw51a := qw51a.cell; have Fw51a := qw51a.free)
   refine hKK.out _ _ (HL.out _ zX) fun hSS => ?_
   try simp only [Act.put, u2, u3, u4]
   refine rd1 3 fun KK hKK => ?_
   go_simp
   (go_at_call 27; refine (cG2.out _ _ _ (HE.out w51a bw51a)).mono ?_; rintro e w52a ⟨Aw52a, kw52a, rfl, rw52a, hw52a, cw52a⟩; have zw52a := cw52a.size; have bw52a := (bw51a).trans (cw52a.mono (by omega)); have qw52a := qw51a.below cw52a lw51a; have lw52a := qw52a.lt; have Xw52a := qw52a.cell; have Fw52a := qw52a.free; (try simp only at rw52a hw52a); have sw52a := OwC.sl rw52a hw52a.1 hw52a.2; have mw52a : ∀ g off, Aw52a = some ⟨g, off, none⟩ → g ≠ w5.heap.size := fun g off hg => (by subst hg; have h1 := OwC.lt2 rw52a rfl; (try simp only [World.size_alloc, World.size_drew] at h1); omega))
   refine hKK.out _ _ (HL.out _ zX) fun hSS => ?_
   try simp only [Act.put, u2, u3, u4]
   refine tk 4 ?_
   try simp only [Act.put, u2, u3, u4]
   refine tk 5 ?_
   try simp only [Act.put, u2, u3, u4]
   refine tk 6 ?_
   try simp only [Act.put, u2, u3, u4]
   refine rd1 8 fun KK hKK => ?_
   go_simp
   refine hKK.out _ _ (HL.out _ zX) fun hSS => ?_
   try simp only [Act.put, u2, u3, u4]
   refine tk 9 ?_
   try simp only [Act.put, u2, u3, u4]
   refine wpAnyH_done (by kernel_rfl) ?_ _
   simp only [List.getElem_toArray, List.getElem_cons_succ, List.getElem_cons_zero, Act.put, List.setIfInBounds_toArray, List.set_cons_zero, List.set_cons_succ]
   go_wp2_with fail
   go_meet
   exact ⟨_, Aw52a, kw52a, rfl, rfl, by omega, wX qw52a ⟨To, Tl, Tm, Td, P⟩ _ _, OwC.stF (OwC.mono rw52a (by first | omega | (simp; done) | (simp; omega))) (fun g hg => mw52a g 0 hg) ⟨To, Tl, Tm, Td, P⟩ _ _, hw52a, mw52a, yD bw52a (by omega) ⟨To, Tl, Tm, Td, P⟩ _ _⟩
 case rest =>
 obtain ⟨g6, A6, c6, rfl, rfl, hg6, hG6, o6, ⟨hc6a, hc6b⟩, hm6, b6⟩ := hcut
 have l6 := hG6.lt
 have z6 := b6.size
 generalize wc = w6 at *
 clear hXX hXO HE
 have s6 := OwC.sl o6 hc6a hc6b
 obtain ⟨hB6, oX6, x6⟩ := HX.out _ b6
 have HPw := HP.out _ x6
 have hXG := hG6.cell
 have hXP := HPw.1.cell
 have htb : (tb != tb) = false := by simp
 go_wp2_with fail
 refine (cET.out _ _ _ _ _ s6 HPw.2.1).mono ?_
 rintro e w7 ⟨rfl, c7⟩
 have z7 := c7.size
 have hG7 := hG6.below c7 l6
 have o7 := o6.below c7
 have b7 := b6.trans (c7.mono (by omega))
 clear hXG hXP HPw hG6 o6 s6 c7 hB6 oX6 x6 b6
 obtain ⟨hB7, oX7, x7⟩ := HX.out _ b7
 have G7 := (HP.out _ x7).2.2
 have hXX := hB7.cell
 have hXS := (HD.out _ G7).1.cell
 have lX := hB7.lt
 have ls7 := (HD.out _ G7).1.lt
 have sX7 := Sl.own oX7
 have sA7 := (HD.out _ G7).2.2.1
 go_upto_region 13 with (fail)
 have HL : Hid (∀ w', Below w7.heap.size w7 w' → (w'.cell? ⟨q5, 0, none⟩ = some (.int .i64 o) ∧ w'.cell? ⟨q5, 1, none⟩ = some (.int .i64 l) ∧ w'.cell? ⟨q5, 2, none⟩ = some (.int .i64 m) ∧ w'.cell? ⟨q5, 3, none⟩ = some (.string ⟨dict.toArray⟩) ∧ w'.cell? ⟨q5, 4, none⟩ = some (.slice A4 fs.length c4) ∧ w'.cell? ⟨w.heap.size, 0, none⟩ = some (.int .i64 o) ∧ w'.cell? ⟨w.heap.size, 1, none⟩ = some (.int .i64 l) ∧ w'.cell? ⟨w.heap.size, 2, none⟩ = some (.int .i64 m) ∧ w'.cell? ⟨w.heap.size, 3, none⟩ = some (.string ⟨dict.toArray⟩) ∧ w'.cell? ⟨w.heap.size, 4, none⟩ = some (.slice A fs.length cap) ∧ Below w7.heap.size w7 w')) := fun w' h => ⟨(h.cell (p := ⟨_, _, _⟩) (by first | assumption | (simp only; omega) | omega)).trans (hXX 0), (h.cell (p := ⟨_, _, _⟩) (by first | assumption | (simp only; omega) | omega)).trans (hXX 1), (h.cell (p := ⟨_, _, _⟩) (by first | assumption | (simp only; omega) | omega)).trans (hXX 2), (h.cell (p := ⟨_, _, _⟩) (by first | assumption | (simp only; omega) | omega)).trans (hXX 3), (h.cell (p := ⟨_, _, _⟩) (by first | assumption | (simp only; omega) | omega)).trans (hXX 4), (h.cell (p := ⟨_, _, _⟩) (by first | assumption | (simp only; omega) | omega)).trans (hXS 0), (h.cell (p := ⟨_, _, _⟩) (by first | assumption | (simp only; omega) | omega)).trans (hXS 1), (h.cell (p := ⟨_, _, _⟩) (by first | assumption | (simp only; omega) | omega)).trans (hXS 2), (h.cell (p := ⟨_, _, _⟩) (by first | assumption | (simp only; omega) | omega)).trans (hXS 3), (h.cell (p := ⟨_, _, _⟩) (by first | assumption | (simp only; omega) | omega)).trans (hXS 4), h⟩
 refine wp_region_held_drew (S := (fun w' => w'.cell? ⟨q5, 0, none⟩ = some (.int .i64 o) ∧ w'.cell? ⟨q5, 1, none⟩ = some (.int .i64 l) ∧ w'.cell? ⟨q5, 2, none⟩ = some (.int .i64 m) ∧ w'.cell? ⟨q5, 3, none⟩ = some (.string ⟨dict.toArray⟩) ∧ w'.cell? ⟨q5, 4, none⟩ = some (.slice A4 fs.length c4) ∧ w'.cell? ⟨w.heap.size, 0, none⟩ = some (.int .i64 o) ∧ w'.cell? ⟨w.heap.size, 1, none⟩ = some (.int .i64 l) ∧ w'.cell? ⟨w.heap.size, 2, none⟩ = some (.int .i64 m) ∧ w'.cell? ⟨w.heap.size, 3, none⟩ = some (.string ⟨dict.toArray⟩) ∧ w'.cell? ⟨w.heap.size, 4, none⟩ = some (.slice A fs.length cap) ∧ Below w7.heap.size w7 w')) (by kernel_rfl) ?_ (fun hSS => ?_)
 focus (exact HL.out _ zX)
 refine tk 0 ?_
 try simp only [Act.put, u2, u3, u4]
 refine tk 1 ?_
 try simp only [Act.put, u2, u3, u4]
 refine rd1 2 fun KK hKK => ?_
 go_simp
 (go_at_call 25; refine (cT2.out w7.drew sA7).mono ?_; rintro e w8 ⟨A8, c8, rfl, o8, b8⟩; have b8 : Below w7.heap.size w7 w8 := zB b8; have z8 := b8.size; have s8 := Sl.own o8; have t8 := sX7.below b8)
 refine hKK.out _ _ (HL.out _ zX) fun hSS => ?_
 try simp only [Act.put, u2, u3, u4]
 refine rd1 3 fun KK hKK => ?_
 go_simp
 (go_at_call 28; refine (cE2.out w8 _ _ _ _ t8 s8).mono ?_; rintro e w9 ⟨rfl, b9⟩; have b9 := b8.trans (b9.mono z8))
 refine hKK.out _ _ (HL.out _ zX) fun hSS => ?_
 try simp only [Act.put, u2, u3, u4]
 refine tk 4 ?_
 try simp only [Act.put, u2, u3, u4]
 refine wpAnyH_done (by kernel_rfl) ?_ _
 have z9 := b9.size
 have hG9 := hG7.below b9 (by omega)
 have o9 := o7.below b9
 have y9 := b7.trans (b9.mono (by omega))
 clear hXX hXS HL hKK b8 s8 t8 o8 sX7 sA7 hB7 oX7 x7 G7 hG7 o7 b7 b9 z8
 obtain ⟨hB9, oX9, x9⟩ := HX.out _ y9
 have oC9 := OwC.uN oX9
 have hnX := dM oX9
 have hXX := hB9.cell
 have cMX := fun wr ho => mF o l m dict fs 1 A4 c4 w3.heap.size wr ho hnX.2.1 hnX.2.2 (by omega) (by omega)
 have hltX := oX9.lt
 have hltG : ∀ g, A6 = some ⟨g, 0, none⟩ → w5.heap.size ≤ g := fun g hg => (o9.lt hg).1
 have hX5 : ∀ k, (Value.slice A4 fs.length c4).ownBlock = some k → w3.heap.size ≤ k ∧ k < w5.heap.size := fun k hk => by
  have h1 := (hltX k hk).1
  refine ⟨h1, ?_⟩
  have := (HX.out w5 (Below.refl _ _)).2.1.lt k hk
  exact this.2
 clear hnX hltX oX9
 obtain ⟨n1, hn1⟩ : ∃ n1 : Nat, 1 + 2 * fs.length = n1 := ⟨_, rfl⟩
 rw [hn1] at cMX
 have hn10 : ¬ (n1 : Int) < 0 := by omega
 clear hn1
 go_wp2_with fail
 refine (cMX _ oC9).mono ?_
 rintro e w10 ⟨rfl, _, gr10⟩
 have z10 := gr10.size
 have hG10 := hG9.grown gr10 (fun k hk => by have := (hX5 k hk).2; omega)
 have o10 := UG o9 gr10 (fun g hg h => by have h1 := (hX5 g h).2; have h2 := hltG g hg; omega)
 have x10 := x9.trans (grown_below gr10 (fun k hk => (hX5 k hk).1) (by omega))
 have l10 := hG10.lt
 clear hXX oC9 cMX gr10 hG9 o9 y9 hB9 x9 HX hX5
 have HPw := HP.out _ x10
 have s10 := OwC.sl o10 hc6a hc6b
 have hXG := hG10.cell
 have hXP := HPw.1.cell
 go_wp2_with fail
 refine (cET.out _ _ _ _ _ s10 HPw.2.1).mono ?_
 rintro e w11 ⟨rfl, c11⟩
 have z11 := c11.size
 have hG11 := hG10.below c11 l10
 have o11 := o10.below c11
 have x11 := x10.trans (c11.mono (by omega))
 have hXG11 := hG11.cell
 clear hXG hXP HPw s10 hG10 o10 c11 x10
 have cMG := fun wr ho => mF To Tl Tm Td P 1 A6 c6 w5.heap.size wr ho hc6a hc6b (by omega) (by omega)
 have cHG := fun wr h => bY To Tl Tm Td P.length 1 A6 c6 wr h (by omega) (by omega)
 have hltG2 : ∀ k, (Value.slice A6 P.length c6).ownBlock = some k → w5.heap.size ≤ k := fun k hk => by
  rcases o11.2 with ⟨h1, _⟩ | ⟨g, cur, h1, h2, _⟩
  ·rw [h1] at hk; cases hk
  ·rw [h1] at hk; injection hk with hk; subst hk; exact h2
 have hGB : ∀ k, (Value.slice A6 P.length c6).ownBlock = some k → k ≠ g6 := fun k hk => by
  rcases o11.2 with ⟨h1, _⟩ | ⟨g, cur, h1, h2, _⟩
  ·rw [h1] at hk; cases hk
  ·have h3 := hm6 g 0 h1
   rw [h1] at hk; injection hk with hk; subst hk; exact h3
 obtain ⟨n2, hn2⟩ : ∃ n2 : Nat, 1 + 2 * P.length = n2 := ⟨_, rfl⟩
 rw [hn2] at cMG cHG
 have hn20 : ¬ (n2 : Int) < 0 := by omega
 clear hn2
 have CHG := Go.Lib.hid cHG
 clear cHG
 go_wp2_with fail
 refine (cMG _ o11).mono ?_
 rintro e w12 ⟨rfl, o12, gr12⟩
 have z12 := gr12.size
 have hG12 := hG11.grown gr12 hGB
 have x12 := x11.trans (grown_below gr12 (fun k hk => by have := hltG2 k hk; omega) (by omega))
 have s12 := OwC.sl o12 hc6a hc6b
 have hXG12 := hG12.cell
 clear hXG11 cMG gr12 hG11 o11 x11 hGB hltG2 o12
 go_wp2_with fail
 refine (CHG.out _ s12).mono ?_
 rintro e w13 ⟨rfl, c13⟩
 have z13 := c13.size
 have l12 := hG12.lt
 have hG13 := hG12.below c13 l12
 have s13 := s12.below c13
 have x13 := x12.trans (c13.mono (by omega))
 have l13 := hG13.lt
 clear hXG12 hG12 s12 x12 c13
 have HG : Hid (∀ wr, Below w13.heap.size w13 wr → Bk wr g6 27 #[.int .i64 To, .int .i64 Tl, .int .i64 Tm, .string ⟨Td.toArray⟩, .slice A6 P.length c6] ∧ Sl wr A6 P.length c6 2 (zQ (mkF 1 P.length)) ∧ Below w3.heap.size w3 wr) := fun wr h => ⟨hG13.below h l13, s13.below h, x13.trans (h.mono (by omega))⟩
 have HE : Hid (∀ wr, Below w13.heap.size w13 wr → Sl wr A fs.length cap 2 (zQ fs)) := fun wr h => (HD.out _ (HP.out _ (HG.out _ h).2.2).2.2).2.2.1
 have G13 := (HP.out _ x13).2.2
 have hXS := (HD.out _ G13).1.cell
 have hXO := (HD.out _ G13).2.1.cell
 have ls13 := (HD.out _ G13).2.1.lt
 clear hG13 s13 G13
 go_upto_region 27 with (fail)
 go_cut [14, 15] (fun p b wx => ∃ (gp : Nat) (A3 : Option Addr) (c3 : Nat), p = .pointer (some ⟨gp, 0, none⟩) ∧ b = .bool tb ∧ w13.heap.size ≤ gp ∧ Bk wx gp 27 #[.int .i64 To, .int .i64 Tl, .int .i64 Tm, .string ⟨Td.toArray⟩, .slice A3 P.length c3] ∧ Sl wx A3 P.length c3 2 (zQ P) ∧ Below w13.heap.size w13 wx)
 case first =>
  have bw13 := Below.refl w13.heap.size w13
  have HL : Hid (∀ w', Below w13.heap.size w13 w' → (w'.cell? ⟨w.heap.size, 0, none⟩ = some (.int .i64 o) ∧ w'.cell? ⟨w.heap.size, 1, none⟩ = some (.int .i64 l) ∧ w'.cell? ⟨w.heap.size, 2, none⟩ = some (.int .i64 m) ∧ w'.cell? ⟨w.heap.size, 3, none⟩ = some (.string ⟨dict.toArray⟩) ∧ w'.cell? ⟨w.heap.size, 4, none⟩ = some (.slice A fs.length cap) ∧ w'.cell? ⟨w.heap.size + 1, 0, none⟩ = some (.int .i64 k) ∧ w'.cell? ⟨w.heap.size + 1, 1, none⟩ = some (.string ⟨nm.toArray⟩) ∧ w'.cell? ⟨w.heap.size + 1, 2, none⟩ = some (.int .i64 f) ∧ w'.cell? ⟨w.heap.size + 1, 3, none⟩ = some (.int .i64 t) ∧ w'.cell? ⟨w.heap.size + 1, 4, none⟩ = some (.int .i64 s) ∧ w'.cell? ⟨w.heap.size + 1, 5, none⟩ = some (.string ⟨d.toArray⟩) ∧ Below w13.heap.size w13 w')) := fun w' h => ⟨(h.cell (p := ⟨_, _, _⟩) (by first | assumption | (simp only; omega) | omega)).trans (hXS 0), (h.cell (p := ⟨_, _, _⟩) (by first | assumption | (simp only; omega) | omega)).trans (hXS 1), (h.cell (p := ⟨_, _, _⟩) (by first | assumption | (simp only; omega) | omega)).trans (hXS 2), (h.cell (p := ⟨_, _, _⟩) (by first | assumption | (simp only; omega) | omega)).trans (hXS 3), (h.cell (p := ⟨_, _, _⟩) (by first | assumption | (simp only; omega) | omega)).trans (hXS 4), (h.cell (p := ⟨_, _, _⟩) (by first | assumption | (simp only; omega) | omega)).trans (hXO 0), (h.cell (p := ⟨_, _, _⟩) (by first | assumption | (simp only; omega) | omega)).trans (hXO 1), (h.cell (p := ⟨_, _, _⟩) (by first | assumption | (simp only; omega) | omega)).trans (hXO 2), (h.cell (p := ⟨_, _, _⟩) (by first | assumption | (simp only; omega) | omega)).trans (hXO 3), (h.cell (p := ⟨_, _, _⟩) (by first | assumption | (simp only; omega) | omega)).trans (hXO 4), (h.cell (p := ⟨_, _, _⟩) (by first | assumption | (simp only; omega) | omega)).trans (hXO 5), h⟩
  refine wp_region_held_drew (S := (fun w' => w'.cell? ⟨w.heap.size, 0, none⟩ = some (.int .i64 o) ∧ w'.cell? ⟨w.heap.size, 1, none⟩ = some (.int .i64 l) ∧ w'.cell? ⟨w.heap.size, 2, none⟩ = some (.int .i64 m) ∧ w'.cell? ⟨w.heap.size, 3, none⟩ = some (.string ⟨dict.toArray⟩) ∧ w'.cell? ⟨w.heap.size, 4, none⟩ = some (.slice A fs.length cap) ∧ w'.cell? ⟨w.heap.size + 1, 0, none⟩ = some (.int .i64 k) ∧ w'.cell? ⟨w.heap.size + 1, 1, none⟩ = some (.string ⟨nm.toArray⟩) ∧ w'.cell? ⟨w.heap.size + 1, 2, none⟩ = some (.int .i64 f) ∧ w'.cell? ⟨w.heap.size + 1, 3, none⟩ = some (.int .i64 t) ∧ w'.cell? ⟨w.heap.size + 1, 4, none⟩ = some (.int .i64 s) ∧ w'.cell? ⟨w.heap.size + 1, 5, none⟩ = some (.string ⟨d.toArray⟩) ∧ Below w13.heap.size w13 w')) (by kernel_rfl) ?_ (fun hSS => ?_)
  focus (exact HL.out _ zX)
  refine tk 0 ?_
  try simp only [Act.put, u2, u3, u4]
  refine tk 2 ?_
  try simp only [Act.put, u2, u3, u4]
  refine wpAnyH_ready (rs := [1, 8]) (by kernel_rfl) (by simp) ?_
  refine (AllReadyH.cons (o := _) rfl (fun KK hKK => ?_) (AllReadyH.cons (o := _) rfl (fun KK hKK => ?_) AllReadyH.nil))
  ·
   go_simp
   (go_at_call 25; refine (cT2.out w13.drew (HE.out w13 bw13)).mono ?_; rintro e w131 ⟨Yw131, yw131, rfl, ow131, cw131⟩; have cw131 : Below w13.heap.size w13 w131 := zB cw131; have zw131 := cw131.size; have bw131 := (bw13).trans (cw131.mono (by omega)); have tw131 := Sl.own ow131)
   refine hKK.out _ _ (HL.out _ zX) fun hSS => ?_
   try simp only [Act.put, u2, u3, u4]
   refine wpAnyH_ready (rs := [3, 8]) (by kernel_rfl) (by simp) ?_
   refine (AllReadyH.cons (o := _) rfl (fun KK hKK => ?_) (AllReadyH.cons (o := _) rfl (fun KK hKK => ?_) AllReadyH.nil))
   ·
    go_simp
    (go_at_call 26; refine (HO.out _).mono ?_; rintro e w132 ⟨rfl, cw132⟩; have zw132 := cw132.size; have bw132 := (bw131).trans (cw132.mono (by omega)); have tw132 := Sl.below tw131 cw132)
    refine hKK.out _ _ (HL.out _ zX) fun hSS => ?_
    try simp only [Act.put, u2, u3, u4]
    refine wpAnyH_ready (rs := [4, 8]) (by kernel_rfl) (by simp) ?_
    refine (AllReadyH.cons (o := _) rfl (fun KK hKK => ?_) (AllReadyH.cons (o := _) rfl (fun KK hKK => ?_) AllReadyH.nil))
    ·
     go_simp
     (go_at_call 27; refine (cG2.out _ _ _ tw132).mono ?_; rintro e w133 ⟨Aw133, kw133, rfl, rw133, hw133, cw133⟩; have zw133 := cw133.size; have bw133 := (bw132).trans (cw133.mono (by omega)); (try simp only at rw133 hw133); have sw133 := OwC.sl rw133 hw133.1 hw133.2)
     refine hKK.out _ _ (HL.out _ zX) fun hSS => ?_
     try simp only [Act.put, u2, u3, u4]
     refine tk 5 ?_
     try simp only [Act.put, u2, u3, u4]
     refine tk 6 ?_
     try simp only [Act.put, u2, u3, u4]
     refine tk 7 ?_
     try simp only [Act.put, u2, u3, u4]
     refine rd1 8 fun KK hKK => ?_
     go_simp
     refine hKK.out _ _ (HL.out _ zX) fun hSS => ?_
     try simp only [Act.put, u2, u3, u4]
     refine rd1 9 fun KK hKK => ?_
     go_simp
     refine hKK.out _ _ (HL.out _ zX) fun hSS => ?_
     try simp only [Act.put, u2, u3, u4]
     refine tk 10 ?_
     try simp only [Act.put, u2, u3, u4]
     refine wpAnyH_done (by kernel_rfl) ?_ _
     simp only [List.getElem_toArray, List.getElem_cons_succ, List.getElem_cons_zero, Act.put, List.setIfInBounds_toArray, List.set_cons_zero, List.set_cons_succ]
     go_wp2_with fail
     go_meet
     exact ⟨_, Aw133, kw133, rfl, rfl, by omega, Bk.new _ _ _, sw133.alloc _, (bw133).alloc (by omega) _⟩
    ·
     go_simp
     refine hKK.out _ _ (HL.out _ zX) fun hSS => ?_
     try simp only [Act.put, u2, u3, u4]
     refine rd1 4 fun KK hKK => ?_
     go_simp
     (go_at_call 27; refine (cG2.out _ _ _ (tw132.alloc _)).mono ?_; rintro e w133a ⟨Aw133a, kw133a, rfl, rw133a, hw133a, cw133a⟩; have zw133a := cw133a.size; simp only [World.size_alloc, World.size_drew] at zw133a; have qw133a := Bk.below (Bk.new w132 yV 27) cw133a (by simp); have bw133a := ((bw132).alloc (by omega) (.cells yV 27)).trans (cw133a.mono (by first | omega | (simp; done) | (simp; omega))); have lw133a := qw133a.lt; have Xw133a := qw133a.cell; have Fw133a := qw133a.free; (try simp only at rw133a hw133a); have sw133a := OwC.sl rw133a hw133a.1 hw133a.2; have mw133a : ∀ g off, Aw133a = some ⟨g, off, none⟩ → g ≠ w132.heap.size := fun g off hg => (by subst hg; have h1 := OwC.lt2 rw133a rfl; (try simp only [World.size_alloc, World.size_drew] at h1); omega))
     refine hKK.out _ _ (HL.out _ zX) fun hSS => ?_
     try simp only [Act.put, u2, u3, u4]
     refine tk 5 ?_
     try simp only [Act.put, u2, u3, u4]
     refine tk 6 ?_
     try simp only [Act.put, u2, u3, u4]
     refine tk 7 ?_
     try simp only [Act.put, u2, u3, u4]
     refine rd1 9 fun KK hKK => ?_
     go_simp
     refine hKK.out _ _ (HL.out _ zX) fun hSS => ?_
     try simp only [Act.put, u2, u3, u4]
     refine tk 10 ?_
     try simp only [Act.put, u2, u3, u4]
     refine wpAnyH_done (by kernel_rfl) ?_ _
     simp only [List.getElem_toArray, List.getElem_cons_succ, List.getElem_cons_zero, Act.put, List.setIfInBounds_toArray, List.set_cons_zero, List.set_cons_succ]
     go_wp2_with fail
     go_meet
     exact ⟨_, Aw133a, kw133a, rfl, rfl, by omega, wX qw133a ⟨To, Tl, Tm, Td, P⟩ _ _, aP sw133a mw133a ⟨To, Tl, Tm, Td, P⟩ _ _, yD bw133a (by omega) ⟨To, Tl, Tm, Td, P⟩ _ _⟩
   ·
    go_simp
    refine hKK.out _ _ (HL.out _ zX) fun hSS => ?_
    try simp only [Act.put, u2, u3, u4]
    refine rd1 3 fun KK hKK => ?_
    go_simp
    (go_at_call 26; refine (HO.out _).mono ?_; rintro e w132a ⟨rfl, cw132a⟩; have zw132a := cw132a.size; simp only [World.size_alloc, World.size_drew] at zw132a; have qw132a := Bk.below (Bk.new w131 yV 27) cw132a (by simp); have bw132a := ((bw131).alloc (by omega) (.cells yV 27)).trans (cw132a.mono (by first | omega | (simp; done) | (simp; omega))); have lw132a := qw132a.lt; have Xw132a := qw132a.cell; have Fw132a := qw132a.free; have tw132a := Sl.below (tw131.alloc _) cw132a)
    refine hKK.out _ _ (HL.out _ zX) fun hSS => ?_
    try simp only [Act.put, u2, u3, u4]
    refine rd1 4 fun KK hKK => ?_
    go_simp
    (go_at_call 27; refine (cG2.out _ _ _ tw132a).mono ?_; rintro e w133a ⟨Aw133a, kw133a, rfl, rw133a, hw133a, cw133a⟩; have zw133a := cw133a.size; have bw133a := (bw132a).trans (cw133a.mono (by omega)); have qw133a := qw132a.below cw133a lw132a; have lw133a := qw133a.lt; have Xw133a := qw133a.cell; have Fw133a := qw133a.free; (try simp only at rw133a hw133a); have sw133a := OwC.sl rw133a hw133a.1 hw133a.2; have mw133a : ∀ g off, Aw133a = some ⟨g, off, none⟩ → g ≠ w131.heap.size := fun g off hg => (by subst hg; have h1 := OwC.lt2 rw133a rfl; (try simp only [World.size_alloc, World.size_drew] at h1); omega))
    refine hKK.out _ _ (HL.out _ zX) fun hSS => ?_
    try simp only [Act.put, u2, u3, u4]
    refine tk 5 ?_
    try simp only [Act.put, u2, u3, u4]
    refine tk 6 ?_
    try simp only [Act.put, u2, u3, u4]
    refine tk 7 ?_
    try simp only [Act.put, u2, u3, u4]
    refine rd1 9 fun KK hKK => ?_
    go_simp
    refine hKK.out _ _ (HL.out _ zX) fun hSS => ?_
    try simp only [Act.put, u2, u3, u4]
    refine tk 10 ?_
    try simp only [Act.put, u2, u3, u4]
    refine wpAnyH_done (by kernel_rfl) ?_ _
    simp only [List.getElem_toArray, List.getElem_cons_succ, List.getElem_cons_zero, Act.put, List.setIfInBounds_toArray, List.set_cons_zero, List.set_cons_succ]
    go_wp2_with fail
    go_meet
    exact ⟨_, Aw133a, kw133a, rfl, rfl, by omega, wX qw133a ⟨To, Tl, Tm, Td, P⟩ _ _, aP sw133a mw133a ⟨To, Tl, Tm, Td, P⟩ _ _, yD bw133a (by omega) ⟨To, Tl, Tm, Td, P⟩ _ _⟩
  ·
   go_simp
   refine hKK.out _ _ (HL.out _ zX) fun hSS => ?_
   try simp only [Act.put, u2, u3, u4]
   refine rd1 1 fun KK hKK => ?_
   go_simp
   (go_at_call 25; refine (cT2.out (w13.alloc (.cells yV 27)).drew ((HE.out w13 bw13).alloc _)).mono ?_; rintro e w131a ⟨Yw131a, yw131a, rfl, ow131a, cw131a⟩; have cw131a : Below (w13.alloc (.cells yV 27)).heap.size (w13.alloc (.cells yV 27)) w131a := zB cw131a; have zw131a := cw131a.size; simp only [World.size_alloc, World.size_drew] at zw131a; have qw131a := Bk.below (Bk.new w13 yV 27) cw131a (by simp); have bw131a := ((bw13).alloc (by omega) (.cells yV 27)).trans (cw131a.mono (by first | omega | (simp; done) | (simp; omega))); have lw131a := qw131a.lt; have Xw131a := qw131a.cell; have Fw131a := qw131a.free; have tw131a := Sl.own ow131a)
   refine hKK.out _ _ (HL.out _ zX) fun hSS => ?_
   try simp only [Act.put, u2, u3, u4]
   refine rd1 3 fun KK hKK => ?_
   go_simp
   (go_at_call 26; refine (HO.out _).mono ?_; rintro e w132a ⟨rfl, cw132a⟩; have zw132a := cw132a.size; have bw132a := (bw131a).trans (cw132a.mono (by omega)); have qw132a := qw131a.below cw132a lw131a; have lw132a := qw132a.lt; have Xw132a := qw132a.cell; have Fw132a := qw132a.free; have tw132a := Sl.below tw131a cw132a)
   refine hKK.out _ _ (HL.out _ zX) fun hSS => ?_
   try simp only [Act.put, u2, u3, u4]
   refine rd1 4 fun KK hKK => ?_
   go_simp
   (go_at_call 27; refine (cG2.out _ _ _ tw132a).mono ?_; rintro e w133a ⟨Aw133a, kw133a, rfl, rw133a, hw133a, cw133a⟩; have zw133a := cw133a.size; have bw133a := (bw132a).trans (cw133a.mono (by omega)); have qw133a := qw132a.below cw133a lw132a; have lw133a := qw133a.lt; have Xw133a := qw133a.cell; have Fw133a := qw133a.free; (try simp only at rw133a hw133a); have sw133a := OwC.sl rw133a hw133a.1 hw133a.2; have mw133a : ∀ g off, Aw133a = some ⟨g, off, none⟩ → g ≠ w13.heap.size := fun g off hg => (by subst hg; have h1 := OwC.lt2 rw133a rfl; (try simp only [World.size_alloc, World.size_drew] at h1); omega))
   refine hKK.out _ _ (HL.out _ zX) fun hSS => ?_
   try simp only [Act.put, u2, u3, u4]
   refine tk 5 ?_
   try simp only [Act.put, u2, u3, u4]
   refine tk 6 ?_
   try simp only [Act.put, u2, u3, u4]
   refine tk 7 ?_
   try simp only [Act.put, u2, u3, u4]
   refine rd1 9 fun KK hKK => ?_
   go_simp
   refine hKK.out _ _ (HL.out _ zX) fun hSS => ?_
   try simp only [Act.put, u2, u3, u4]
   refine tk 10 ?_
   try simp only [Act.put, u2, u3, u4]
   refine wpAnyH_done (by kernel_rfl) ?_ _
   simp only [List.getElem_toArray, List.getElem_cons_succ, List.getElem_cons_zero, Act.put, List.setIfInBounds_toArray, List.set_cons_zero, List.set_cons_succ]
   go_wp2_with fail
   go_meet
   exact ⟨_, Aw133a, kw133a, rfl, rfl, by omega, wX qw133a ⟨To, Tl, Tm, Td, P⟩ _ _, aP sw133a mw133a ⟨To, Tl, Tm, Td, P⟩ _ _, yD bw133a (by omega) ⟨To, Tl, Tm, Td, P⟩ _ _⟩
 case rest =>
 obtain ⟨g14, A14, c14, rfl, rfl, hg14, hH14, sH14, b14⟩ := hcut
 have z14 := b14.size
 generalize wc = w14 at *
 clear hXS hXO HE
 obtain ⟨hG14, sG14, x14⟩ := HG.out _ b14
 have HPw := HP.out _ x14
 have hXH := hH14.cell
 have hXP := HPw.1.cell
 go_wp2_with fail
 refine (cET.out _ _ _ _ _ sH14 HPw.2.1).mono ?_
 rintro e w15 ⟨rfl, c15⟩
 have z15 := c15.size
 have b15 := b14.trans (c15.mono (by omega))
 clear hXH hXP HPw hG14 sG14 x14 c15 hH14 sH14 b14
 obtain ⟨hG15, sG15, x15⟩ := HG.out _ b15
 have hXG := hG15.cell
 go_wp2_with fail
 refine (CHG.out _ sG15).mono ?_
 rintro e w16 ⟨rfl, c16⟩
 have z16 := c16.size
 have b16 := b15.trans (c16.mono (by omega))
 have gw := (HD.out _ (HP.out _ (HG.out _ b16).2.2).2.2).2.2.2
 go_wp2
 go_ret
 exact ⟨rfl, gw⟩
end Go.Proofs.YtinncdollpajkaaGreat
