import Derived.Test.YtinncdollpajkaaGreatVS28
import Derived.Test.YtinncdollpajkaaGreatVR2
import Derived.Test.YtinncdollpajkaaGreatVGW
import Derived.Deep.Cut
import Derived.Test.YtinncdollpajkaaGreatVW14
import Derived.Test.YtinncdollpajkaaGreatVQ15
set_option linter.unusedVariables false
set_option linter.unusedSimpArgs false
set_option maxHeartbeats 8000000
namespace Go.Proofs.YtinncdollpajkaaGreat
open Go.RowKit
set_option maxRecDepth 100000
attribute [local go_sem high] zA zu zy zO zK zX zx zk zn zq zi zo yQ zC yf zD
theorem jK {S T : Sto} {x : OpR} (h : apO S x = some T) : apT S x = (T, true) := by
  unfold apO at h
  unfold apT
  by_cases h4 : x.k = 4
  · rw [if_pos h4] at h ⊢
    split at h
    · rename_i hi
      injection h with h
      rw [h, hi]
    · cases h
  · rw [if_neg h4] at h ⊢
    have hc : ((if x.k = 0 then mkC S.o S.l S.m S.dict x.d x.s else (wo S.fs x.nm).bind fun i => chO S x (S.fs[i]?.getD ([], [])).2)) = chS S x := rfl
    rw [hc] at h
    cases hR : chS S x with
    | none => rw [hR] at h; cases h
    | some X =>
      rw [hR, Option.bind_some] at h
      split at h
      · rename_i hl
        injection h with h
        simp only [Option.getD_some, Option.isSome_some, Bool.true_and]
        rw [h, decide_eq_true hl]
      · cases h
theorem XP {S : Sto} {x : OpR} (h : apO S x = none) : (apT S x).2 = false := by
  unfold apO at h
  unfold apT
  by_cases h4 : x.k = 4
  · rw [if_pos h4] at h ⊢
    split at h
    · cases h
    · rename_i hi; simpa using hi
  · rw [if_neg h4] at h ⊢
    have hc : ((if x.k = 0 then mkC S.o S.l S.m S.dict x.d x.s else (wo S.fs x.nm).bind fun i => chO S x (S.fs[i]?.getD ([], [])).2)) = chS S x := rfl
    rw [hc] at h
    cases hR : chS S x with
    | none => simp
    | some X =>
      rw [hR, Option.bind_some] at h
      split at h
      · cases h
      · rename_i hl
        simp only [Option.getD_some, Option.isSome_some, Bool.true_and]
        simpa using hl
theorem TM {o l m : Int} {dict t x : Bs} (h : cdB o l m dict t = some x) : t.length ≤ 2960 := by
 unfold cdB at h
 split at h
 ·cases hb : zT t with
  | none => rw [hb] at h; cases h
  | some bs => exact (wE hb).1
 ·cases h
theorem Sto.ok.bd {S : Sto} (h : S.ok) : StB S := by
 refine ⟨by have := h.1.2.1; omega, by have := h.2.1; omega, fun f hf => ?_⟩
 obtain ⟨i, hi, rfl⟩ := List.mem_iff_getElem.1 hf
 obtain ⟨h1, h2, _⟩ := h.2.2 i hi
 have := rq h1
 obtain ⟨d, hd⟩ := Option.isSome_iff_exists.1 h2
 have := TM hd
 exact ⟨by omega, by omega⟩
theorem OpR.ok.bd {x : OpR} (h : x.ok) : OpB x := by
 obtain ⟨h1, h2, h3⟩ := h
 have := rq h1
 unfold OpB
 rcases h3 with ⟨h4 | h4, _, _, _, _⟩ | ⟨h4, _, _, _, _⟩ | ⟨h4, _, _, _, _⟩ | ⟨h4, _, _, _, _⟩ <;> (refine ⟨?_, ?_, ?_, ?_, ?_, ?_, ?_, ?_, ?_, ?_⟩ <;> omega)
noncomputable def aoO (S : Sto) (x : OpR) : Option Sto := if S.okB = true ∧ qM x.k x.nm x.f x.t x.s x.d then apO S x else none
theorem OL {S : Sto} {x : OpR} (hS : S.ok) (hx : x.ok) : aoO S x = apO S x := by
 unfold aoO
 rw [if_pos ⟨(Sto.ug S).2 hS, hx⟩]
def vX : Sto := ⟨0, 0, 0, [], []⟩
theorem jc {w : World} {b : Nat} {t : TypeId} {x0 x1 x2 x3 x4 : Value} (h : Bk w b t #[x0, x1, x2, x3, x4]) :
  Bk (((((w.setCell ⟨b, 0, none⟩ (.int .i64 0)).setCell ⟨b, 1, none⟩ (.int .i64 0)).setCell ⟨b, 2, none⟩ (.int .i64 0)).setCell ⟨b, 3, none⟩ (.string ⟨#[]⟩)).setCell ⟨b, 4, none⟩ (.slice none 0 0)) b t xw := wK h ⟨0, 0, 0, [], []⟩ none 0
theorem Ue (S : Sto) (x : OpR) (A : Option Addr) (cap : Nat) (w : World) (hs : Sl w A S.fs.length cap 2 (yj S.fs)) (hS : S.dict.length ≤ 1500000 ∧ S.fs.length ≤ 1500000 ∧ ∀ f ∈ S.fs, f.1.length ≤ 1500000 ∧ f.2.length ≤ 1500000) (hx : x.nm.length ≤ 1500000 ∧ x.d.length ≤ 1500000) :
    Calls Tryz.prog 24 #[S.V A cap, x.val] w (StO ((aoO S x).getD vX) (aoO S x).isSome w) := by
  have hl := hS.2.1
  have hcap := hs.1
  have hcap2 := hs.2.1
  have cV : Hid (∀ wr, Below w.heap.size w wr → Calls Tryz.prog 46 #[S.V A cap] wr fun e w' => e = .returned (.bool S.okB) ∧ Below wr.heap.size wr w') := fun wr h => oM S A cap wr (hs.below h) hS.1 (by omega) hS.2.2
  have cO : Hid (∀ wr, Calls Tryz.prog 53 #[x.val] wr fun e w' => e = .returned (.bool (decide (qM x.k x.nm x.f x.t x.s x.d))) ∧ Below wr.heap.size wr w') := fun wr => pJ x.k x.f x.t x.s x.nm x.d wr (by omega) (by omega)
  have cP : Hid (S.okB = true → decide (qM x.k x.nm x.f x.t x.s x.d) = true → ∀ wr, Below w.heap.size w wr → Calls Tryz.prog 54 #[S.V A cap, x.val] wr (StO (apT S x).1 (apT S x).2 wr)) := fun h1 hok wr h => fD S x A cap wr (hs.below h) (Sto.ok.bd ((Sto.ug S).1 h1)) (OpR.ok.bd (of_decide_eq_true hok))
  clear hs hS hx
  obtain ⟨bv, hbv⟩ : ∃ b, S.okB = b := ⟨_, rfl⟩
  obtain ⟨ov, hov⟩ : ∃ b, decide (qM x.k x.nm x.f x.t x.s x.d) = b := ⟨_, rfl⟩
  obtain ⟨T, hT⟩ : ∃ T, apT S x = T := ⟨_, rfl⟩
  rw [hbv] at cV
  rw [hov] at cO
  rw [hT, hov, hbv] at cP
  obtain ⟨R, hR⟩ : ∃ R, aoO S x = R := ⟨_, rfl⟩
  have HN : Hid ((bv = false ∨ ov = false ∨ T.2 = false) → R = none) := by
    intro h
    rw [← hR]
    unfold aoO
    split
    · rename_i hh
      cases ha : apO S x with
      | none => rfl
      | some U =>
        have := jK ha
        rw [hT] at this
        rw [hbv] at hh
        rcases h with h | h | h
        · rw [h] at hh; simp at hh
        · rw [h] at hov; exact absurd hh.2 (by simpa using hov)
        · rw [this] at h; cases h
    · rfl
  have HY : Hid (bv = true → ov = true → T.2 = true → R = some T.1) := by
    intro h1 h2 h3
    rw [← hR]
    unfold aoO
    rw [if_pos ⟨hbv.trans h1, by rw [h2] at hov; simpa using hov⟩]
    cases ha : apO S x with
    | none => have := XP ha; rw [hT] at this; rw [this] at h3; cases h3
    | some U => have := jK ha; rw [hT] at this; rw [this]
  rw [hR]
  clear hbv hov hT hR
  obtain ⟨T, tb⟩ := T
  obtain ⟨o, l, m, dict, fs⟩ := S
  obtain ⟨k, f, t, s, nm, d⟩ := x
  simp only at *
  unfold StO
  go_enter Tryz.func24, Tryz.ntmps24
  have hA : Bk (((w.alloc (.cells (Sto.C ⟨o, l, m, dict, fs⟩ A cap) 27)).alloc (.cells (OpR.cells ⟨k, f, t, s, nm, d⟩) 54)).alloc (.cells xw 27)) w.heap.size 27 (Sto.C ⟨o, l, m, dict, fs⟩ A cap) := tBk
  have hO : Bk (((w.alloc (.cells (Sto.C ⟨o, l, m, dict, fs⟩ A cap) 27)).alloc (.cells (OpR.cells ⟨k, f, t, s, nm, d⟩) 54)).alloc (.cells xw 27)) (w.heap.size + 1) 54 (OpR.cells ⟨k, f, t, s, nm, d⟩) := tBk
  have hB : Bk (((w.alloc (.cells (Sto.C ⟨o, l, m, dict, fs⟩ A cap) 27)).alloc (.cells (OpR.cells ⟨k, f, t, s, nm, d⟩) 54)).alloc (.cells xw 27)) (w.heap.size + 1 + 1) 27 xw := tBk
  have g0 : Below w.heap.size w (((w.alloc (.cells (Sto.C ⟨o, l, m, dict, fs⟩ A cap) 27)).alloc (.cells (OpR.cells ⟨k, f, t, s, nm, d⟩) 54)).alloc (.cells xw 27)) := zH
  simp only [Sto.C, OpR.cells] at hA hO hB g0
  go_upto_region 1 with (fail)
  generalize ((w.alloc (.cells #[.int .i64 o, .int .i64 l, .int .i64 m, .string ⟨dict.toArray⟩, .slice A fs.length cap] 27)).alloc (.cells #[.int .i64 k, .string ⟨nm.toArray⟩, .int .i64 f, .int .i64 t, .int .i64 s, .string ⟨d.toArray⟩] 54)).alloc (.cells xw 27) = w0 at *
  have z0 := g0.size
  have la := hA.lt
  have lo := hO.lt
  have lb := hB.lt
  have hXA := hA.cell
  have hXO := hO.cell
  go_wp2_with fail
  refine (cV.out _ g0).mono ?_
  rintro e w1 ⟨rfl, b1⟩
  have z1 := b1.size
  have hA1 := hA.below b1 la
  have hO1 := hO.below b1 lo
  have hB1 := hB.below b1 lb
  have g1 := g0.trans (b1.mono (by omega))
  have hXA1 := hA1.cell
  have hXO1 := hO1.cell
  have hXB1 := hB1.cell
  have hFB1 := hB1.free
  clear hA hO hB hXA hXO b1 g0 cV
  cases bv with
  | false =>
    have hR := HN.out (.inl rfl)
    subst hR
    clear HN HY cO cP
    go_wp2
    have Q := (jc hB1).cell
    have gg := xJ g1 (b := w.heap.size + 1 + 1) (by omega) vX none 0
    exact bodyPost_ret (v := .tuple #[Sto.V vX none 0, .bool false]) (by simp [results, Tryz.results24, go_sem, Q, Sto.V, vX]) rfl ⟨none, 0, rfl, ⟨rfl, .inl ⟨rfl, rfl⟩⟩, gg⟩
  | true =>
  go_wp2_with fail
  refine (cO.out _).mono ?_
  rintro e w2 ⟨rfl, b2⟩
  have z2 := b2.size
  have hA2 := hA1.below b2 (by omega)
  have hO2 := hO1.below b2 (by omega)
  have hB2 := hB1.below b2 (by omega)
  have g2 := g1.trans (b2.mono (by omega))
  have hXA2 := hA2.cell
  have hXO2 := hO2.cell
  have hXB2 := hB2.cell
  have hFB2 := hB2.free
  clear hA1 hO1 hB1 hXA1 hXO1 hXB1 hFB1 b2 g1 cO
  cases ov with
  | false =>
    have hR := HN.out (.inr (.inl rfl))
    subst hR
    clear HN HY cP
    go_wp2
    have Q := (jc hB2).cell
    have gg := xJ g2 (b := w.heap.size + 1 + 1) (by omega) vX none 0
    exact bodyPost_ret (v := .tuple #[Sto.V vX none 0, .bool false]) (by simp [results, Tryz.results24, go_sem, Q, Sto.V, vX]) rfl ⟨none, 0, rfl, ⟨rfl, .inl ⟨rfl, rfl⟩⟩, gg⟩
  | true =>
  go_wp2_with fail
  refine (cP.out (by first | exact rfl | exact trivial) (by first | exact rfl | exact trivial) _ g2).mono ?_
  rintro e w3 ⟨A3, c3, rfl, o3, b3⟩
  have z3 := b3.size
  have o3 := zF (B' := w.heap.size + 3) o3 (by omega)
  have hB3 := hB2.below b3 (by omega)
  have g3 := g2.trans (b3.mono (by omega))
  clear hA2 hO2 hB2 hXA2 hXO2 hXB2 hFB2 b3 g2 cP
  obtain ⟨To, Tl, Tm, Td, P⟩ := T
  simp only at o3
  have hB4 := hB3.alloc (.cells #[.int .i64 To, .int .i64 Tl, .int .i64 Tm, .string ⟨Td.toArray⟩, .slice A3 P.length c3] 27)
  have o4 := World.ownsRow.alloc o3 (.cells #[.int .i64 To, .int .i64 Tl, .int .i64 Tm, .string ⟨Td.toArray⟩, .slice A3 P.length c3] 27)
  have g4 := g3.alloc (by omega) (.cells #[.int .i64 To, .int .i64 Tl, .int .i64 Tm, .string ⟨Td.toArray⟩, .slice A3 P.length c3] 27)
  have hD4 : Bk (w3.alloc (.cells #[.int .i64 To, .int .i64 Tl, .int .i64 Tm, .string ⟨Td.toArray⟩, .slice A3 P.length c3] 27)) w3.heap.size 27 #[.int .i64 To, .int .i64 Tl, .int .i64 Tm, .string ⟨Td.toArray⟩, .slice A3 P.length c3] := Bk.new w3 #[.int .i64 To, .int .i64 Tl, .int .i64 Tm, .string ⟨Td.toArray⟩, .slice A3 P.length c3] 27
  have hXB := hB4.cell
  have hFB := hB4.free
  have hXD := hD4.cell
  go_upto_region 4 with (fail)
  clear hB3 o3 g3
  generalize (w3.alloc (.cells #[.int .i64 To, .int .i64 Tl, .int .i64 Tm, .string ⟨Td.toArray⟩, .slice A3 P.length c3] 27)) = w4 at *
  generalize w3.heap.size = q at *
  cases tb with
  | false =>
    have hR := HN.out (.inr (.inr rfl))
    subst hR
    clear HN HY
    go_wp2
    have Q := (jc hB4).cell
    have gg := xJ g4 (b := w.heap.size + 1 + 1) (by omega) vX none 0
    exact bodyPost_ret (v := .tuple #[Sto.V vX none 0, .bool false]) (by simp [results, Tryz.results24, go_sem, Q, Sto.V, vX]) rfl ⟨none, 0, rfl, ⟨rfl, .inl ⟨rfl, rfl⟩⟩, gg⟩
  | true =>
    have hR := HY.out (by first | exact rfl | exact trivial) (by first | exact rfl | exact trivial) (by first | exact rfl | exact trivial)
    subst hR
    clear HN HY
    go_wp2
    have Q := (wK hB4 ⟨To, Tl, Tm, Td, P⟩ A3 c3).cell
    have o9 := zF (B' := w.heap.size) (uX o4 (b := w.heap.size + 1 + 1) (by omega) ⟨To, Tl, Tm, Td, P⟩ A3 c3) (by omega)
    have gg := xJ g4 (b := w.heap.size + 1 + 1) (by omega) ⟨To, Tl, Tm, Td, P⟩ A3 c3
    exact bodyPost_ret (v := .tuple #[Sto.V ⟨To, Tl, Tm, Td, P⟩ A3 c3, .bool true]) (by simp [results, Tryz.results24, go_sem, Q]) rfl ⟨A3, c3, rfl, o9, gg⟩
theorem YI (S : Sto) (x : OpR) (A : Option Addr) (cap : Nat) (w : World) (hs : Sl w A S.fs.length cap 2 (yj S.fs)) (hS : StB S) (hx : OpB x) :
  Calls Tryz.prog 24 #[S.V A cap, x.val] w (StO ((aoO S x).getD vX) (aoO S x).isSome w) :=
 Ue S x A cap w hs ⟨hS.1, by have := hS.2.1; omega, hS.2.2⟩ (by obtain ⟨_, _, _, _, _, _, h, h2, _, _⟩ := hx; exact ⟨h2, h⟩)
def StI (T : Sto) (n : Int) (b : Bool) (w : World) (e : Ending) (w' : World) : Prop := ∃ A cap, e = .returned (.tuple #[T.V A cap, .int .i64 n, .bool b]) ∧ w'.ownsRow w.heap.size 40 2 (.slice A T.fs.length cap) T.fs.length (yj T.fs) ∧ Below w.heap.size w w'
def P5 (r : Option (Sto × Int)) : World → Ending → World → Prop := StI ((r.map (·.1)).getD vX) ((r.map (·.2)).getD 0) r.isSome
theorem nz (o l m : Int) (dict log : Bs) (w : World) (hd : dict.length ≤ 1500000) (hlg : log.length ≤ 1500000) :
    Calls Tryz.prog 99 #[.agg #[.int .i64 o, .int .i64 l, .int .i64 m], sv dict, sv log] w (P5 (mX o l m dict log) w) := by
  obtain ⟨R, hR⟩ : ∃ R, mX o l m dict log = R := ⟨_, rfl⟩
  rw [hR]
  have HR := Go.Lib.hid hR
  clear hR
  unfold P5 StI
  go_enter Tryz.func99, Tryz.ntmps99
  have hA : Bk ((w.alloc (.cells #[.int .i64 o, .int .i64 l, .int .i64 m] 24)).alloc (.cells xw 27)) w.heap.size 24 #[.int .i64 o, .int .i64 l, .int .i64 m] := tBk
  have hB : Bk ((w.alloc (.cells #[.int .i64 o, .int .i64 l, .int .i64 m] 24)).alloc (.cells xw 27)) (w.heap.size + 1) 27 xw := tBk
  have g0 : Below w.heap.size w ((w.alloc (.cells #[.int .i64 o, .int .i64 l, .int .i64 m] 24)).alloc (.cells xw 27)) := zH
  go_upto_region 1 with (fail)
  generalize (w.alloc (.cells #[.int .i64 o, .int .i64 l, .int .i64 m] 24)).alloc (.cells xw 27) = w0 at *
  have z0 := g0.size
  have la := hA.lt
  have lb := hB.lt
  have hXA := hA.cell
  go_wp2_with fail
  refine (fQ o l m dict _ (by omega)).mono ?_
  rintro e w1 ⟨rfl, b1⟩
  have z1 := b1.size
  have hB1 := hB.below b1 lb
  have g1 := g0.trans (b1.mono (by omega))
  clear hA hB hXA b1 g0
  unfold jh
  by_cases hf : fits o l m dict
  case neg =>
    rw [if_neg hf]
    have hN : R = none := by rw [← HR.out]; unfold mX; rw [if_neg (fun h => hf h.1)]
    subst hN
    clear HR hf
    have hB2 := hB1.alloc (.cells xw 27)
    have g2 := g1.alloc (by omega) (.cells xw 27)
    have hXB := hB2.cell
    have hFB := hB2.free
    unfold Go.Proofs.YtinncdollpajkaaGreat.stZ
    go_wp2
    have Q := (jc hB2).cell
    have gg := xJ g2 (b := w.heap.size + 1) (by omega) vX none 0
    exact bodyPost_ret (v := .tuple #[Sto.V vX none 0, .int .i64 0, .bool false]) (by simp [results, Tryz.results99, go_sem, Q, Sto.V, vX]) rfl ⟨none, 0, rfl, ⟨rfl, .inl ⟨rfl, rfl⟩⟩, gg⟩
  case pos =>
    rw [if_pos hf]
    unfold stV
    have hB2 := hB1.alloc (.cells #[.int .i64 o, .int .i64 l, .int .i64 m, .string ⟨dict.toArray⟩, .slice none 0 0] 27)
    have g2 := g1.alloc (by omega) (.cells #[.int .i64 o, .int .i64 l, .int .i64 m, .string ⟨dict.toArray⟩, .slice none 0 0] 27)
    have hD2 : Bk (w1.alloc (.cells #[.int .i64 o, .int .i64 l, .int .i64 m, .string ⟨dict.toArray⟩, .slice none 0 0] 27)) w1.heap.size 27 #[.int .i64 o, .int .i64 l, .int .i64 m, .string ⟨dict.toArray⟩, .slice none 0 0] := Bk.new w1 #[.int .i64 o, .int .i64 l, .int .i64 m, .string ⟨dict.toArray⟩, .slice none 0 0] 27
    by_cases hlen : log.length ≤ 30000
    case neg =>
      have hli : (30000 : Int) < log.length := by omega
      have hN : R = none := by rw [← HR.out]; unfold mX; rw [if_neg (fun h => hlen h.2)]
      subst hN
      clear HR hf
      have hXB := hB2.cell
      have hFB := hB2.free
      go_wp2
      have Q := (jc hB2).cell
      have gg := xJ g2 (b := w.heap.size + 1) (by omega) vX none 0
      exact bodyPost_ret (v := .tuple #[Sto.V vX none 0, .int .i64 0, .bool false]) (by simp [results, Tryz.results99, go_sem, Q, Sto.V, vX]) rfl ⟨none, 0, rfl, ⟨rfl, .inl ⟨rfl, rfl⟩⟩, gg⟩
    case pos =>
      have hli : ¬ (30000 : Int) < log.length := by omega
      obtain ⟨T, hT⟩ : ∃ T, uO (log.length + 1) (YJ o l m dict) log 0 = T := ⟨_, rfl⟩
      have hN : R = some T := by rw [← HR.out]; unfold mX; rw [if_pos ⟨hf, hlen⟩, hT]
      subst hN
      have HT := Go.Lib.hid hT
      have HF := Go.Lib.hid hf
      clear HR hT hf
      go_upto_region 4 with (fail)
      generalize w1.alloc (.cells #[.int .i64 o, .int .i64 l, .int .i64 m, .string ⟨dict.toArray⟩, .slice none 0 0] 27) = w2 at *
      have z2 := hD2.lt
      generalize w1.heap.size = q at *
      obtain ⟨T, tn⟩ := T
      go_wp2
      go_loopw [11] (fun a wr => ∃ (n k : Nat) (S : Sto) (A : Option Addr) (cap : Nat), a = .int .i64 (k : Int) ∧ k ≤ log.length ∧ log.length < k + n ∧ Hid (uO n S log (k : Int) = (T, tn)) ∧ Hid (S.ok) ∧ wr.ownsRow (q + 1) 40 2 (.slice A S.fs.length cap) S.fs.length (yj S.fs) ∧ Bk wr (w.heap.size + 1) 27 xw ∧ Bk wr q 27 (S.C A cap) ∧ Below w.heap.size w wr) (fun i _ => log.length - (intOf i).toNat)
      case atStart => exact ⟨log.length + 1, 0, YJ o l m dict, none, 0, rfl, by omega, by omega, HT, UT HF.out, ⟨rfl, .inl ⟨rfl, rfl⟩⟩, hB2, hD2, g2⟩
      case round =>
        obtain ⟨n, k, S, A, cap, rfl, hk, hn, HG, HS, ow, hBr, hDr, g⟩ := hrel
        clear hB2 hD2 g2 hB1 g1
        have hz := g.size
        have lq := hDr.lt
        have lbr := hBr.lt
        have hsl := Sl.own ow
        have hbd := HS.out.bd
        have hsl3 : S.fs.length ≤ 6 := HS.out.2.1
        have hcap := hsl.1
        have hcap2 := hsl.2.1
        have HAP : Hid (∀ (x : OpR) (hx : x.ok) (B : Nat) (w' : World), Below B wr w' → wr.heap.size ≤ B → Calls Tryz.prog 54 #[S.V A cap, x.val] w' (StO (apT S x).1 (apT S x).2 w')) := fun x hx B w' h hB => fD S x A cap w' (hsl.below (h.mono hB)) hbd hx.bd
        have HRD : Hid (∀ x e, yL log (k : Int) = some (x, e) → ∃ j : Nat, e = (j : Int) ∧ x.ok ∧ k < j ∧ j ≤ log.length) := fun x e h => by
          obtain ⟨n', hn', hx, he, hle, _⟩ := sZ h
          have := (dI x).1
          exact ⟨n' + (vz x).length, by omega, hx, by omega, hle⟩
        obtain ⟨o', l', m', dict', fs⟩ := S
        simp only at *
        have hXD := hDr.cell
        go_wp2_with fail
        refine (fM log (k : Int) wr (by omega) (by omega) (by omega)).mono ?_
        rintro e w3 ⟨rfl, b3⟩
        have z3 := b3.size
        have hB3 := hBr.below b3 lbr
        have hD3 := hDr.below b3 lq
        have o3 := zf ow b3
        have g3 := g.trans (b3.mono (by omega))
        have hXB3 := hB3.cell
        have hFB3 := hB3.free
        have hXD3 := hD3.cell
        cases hr : yL log (k : Int) with
        | none =>
          have hG := HG.out
          rw [ZR hr] at hG
          injection hG with hG1 hG2
          subst hG1 hG2
          rw [show gy none = .returned (.tuple #[.agg #[.int .i64 0, .string ⟨#[]⟩, .int .i64 0, .int .i64 0, .int .i64 0, .string ⟨#[]⟩], .int .i64 0, .bool false]) from rfl]
          have hB4 := hB3.alloc (.cells #[.int .i64 0, .string ⟨#[]⟩, .int .i64 0, .int .i64 0, .int .i64 0, .string ⟨#[]⟩] 54)
          have hD4 := hD3.alloc (.cells #[.int .i64 0, .string ⟨#[]⟩, .int .i64 0, .int .i64 0, .int .i64 0, .string ⟨#[]⟩] 54)
          have o4 := World.ownsRow.alloc o3 (.cells #[.int .i64 0, .string ⟨#[]⟩, .int .i64 0, .int .i64 0, .int .i64 0, .string ⟨#[]⟩] 54)
          have g4 := g3.alloc (by omega) (.cells #[.int .i64 0, .string ⟨#[]⟩, .int .i64 0, .int .i64 0, .int .i64 0, .string ⟨#[]⟩] 54)
          have hXB4 := hB4.cell
          have hFB4 := hB4.free
          have hXD4 := hD4.cell
          clear hB3 hD3 o3 g3 hXB3 hFB3 hXD3 hXD hBr hDr g ow HAP HRD hr
          go_upto_region 6 with (fail)
          generalize w3.alloc (.cells #[.int .i64 0, .string ⟨#[]⟩, .int .i64 0, .int .i64 0, .int .i64 0, .string ⟨#[]⟩] 54) = w4 at *
          go_wp2
          have Q := (wK hB4 ⟨o', l', m', dict', fs⟩ A cap).cell
          have o9 := zF (B' := w.heap.size) (uX o4 (b := w.heap.size + 1) (by omega) ⟨o', l', m', dict', fs⟩ A cap) (by omega)
          have gg := xJ g4 (b := w.heap.size + 1) (by omega) ⟨o', l', m', dict', fs⟩ A cap
          exact bodyPost_ret (v := .tuple #[Sto.V ⟨o', l', m', dict', fs⟩ A cap, .int .i64 (k : Int), .bool true]) (by simp [results, Tryz.results99, go_sem, Q]) rfl ⟨A, cap, rfl, o9, gg⟩
        | some p =>
          obtain ⟨x, e⟩ := p
          obtain ⟨j, rfl, hx, hkj, hjl⟩ := HRD.out x e hr
          rw [VB]
          have cX := Go.Lib.hid (HAP.out x hx wr.heap.size)
          have HA1 : Hid ((apT ⟨o', l', m', dict', fs⟩ x).2 = true → (apT ⟨o', l', m', dict', fs⟩ x).1.ok ∧ ∀ n', uO (n' + 1) ⟨o', l', m', dict', fs⟩ log (k : Int) = uO n' (apT ⟨o', l', m', dict', fs⟩ x).1 log (j : Int)) := fun h => by
            cases ha : apO ⟨o', l', m', dict', fs⟩ x with
            | none => rw [XP ha] at h; cases h
            | some U => rw [jK ha]; exact ⟨(XL HS.out hx ha).ok, fun n' => Wq hr ha⟩
          have HA2 : Hid ((apT ⟨o', l', m', dict', fs⟩ x).2 = false → uO n ⟨o', l', m', dict', fs⟩ log (k : Int) = (⟨o', l', m', dict', fs⟩, (k : Int))) := fun h => by
            cases ha : apO ⟨o', l', m', dict', fs⟩ x with
            | none => exact ZT hr ha
            | some U => rw [jK ha] at h; cases h
          generalize apT ⟨o', l', m', dict', fs⟩ x = W at *
          clear hx hr HAP HRD
          obtain ⟨⟨Uo, Ul, Um, Ud, P⟩, tb⟩ := W
          simp only at cX HA1 HA2
          obtain ⟨xk, xf, xt, xs, xn, xd⟩ := x
          have hB4 := hB3.alloc (.cells #[.int .i64 xk, .string ⟨xn.toArray⟩, .int .i64 xf, .int .i64 xt, .int .i64 xs, .string ⟨xd.toArray⟩] 54)
          have hD4 := hD3.alloc (.cells #[.int .i64 xk, .string ⟨xn.toArray⟩, .int .i64 xf, .int .i64 xt, .int .i64 xs, .string ⟨xd.toArray⟩] 54)
          have o4 := World.ownsRow.alloc o3 (.cells #[.int .i64 xk, .string ⟨xn.toArray⟩, .int .i64 xf, .int .i64 xt, .int .i64 xs, .string ⟨xd.toArray⟩] 54)
          have g4 := g3.alloc (by omega) (.cells #[.int .i64 xk, .string ⟨xn.toArray⟩, .int .i64 xf, .int .i64 xt, .int .i64 xs, .string ⟨xd.toArray⟩] 54)
          have b4 := b3.alloc z3 (.cells #[.int .i64 xk, .string ⟨xn.toArray⟩, .int .i64 xf, .int .i64 xt, .int .i64 xs, .string ⟨xd.toArray⟩] 54)
          have hO4 : Bk (w3.alloc (.cells #[.int .i64 xk, .string ⟨xn.toArray⟩, .int .i64 xf, .int .i64 xt, .int .i64 xs, .string ⟨xd.toArray⟩] 54)) w3.heap.size 54 #[.int .i64 xk, .string ⟨xn.toArray⟩, .int .i64 xf, .int .i64 xt, .int .i64 xs, .string ⟨xd.toArray⟩] := Bk.new w3 #[.int .i64 xk, .string ⟨xn.toArray⟩, .int .i64 xf, .int .i64 xt, .int .i64 xs, .string ⟨xd.toArray⟩] 54
          have z4 := hO4.lt
          have hXO4 := hO4.cell
          have hXD4 := hD4.cell
          clear hB3 hD3 o3 g3 hXB3 hFB3 hXD3 hXD hBr hDr g ow b3
          go_upto_region 8 with (fail)
          generalize w3.alloc (.cells #[.int .i64 xk, .string ⟨xn.toArray⟩, .int .i64 xf, .int .i64 xt, .int .i64 xs, .string ⟨xd.toArray⟩] 54) = w4 at *
          generalize w3.heap.size = q4 at *
          go_wp2_with fail
          refine (cX.out w4 b4 (Nat.le_refl _)).mono ?_
          rintro e w5 ⟨A5, c5, rfl, o5, b5⟩
          have z5 := b5.size
          have hB5 := hB4.below b5 (by omega)
          have hD5 := hD4.below b5 (by omega)
          have o5 := zF (B' := q + 1) o5 (by omega)
          have o5' := zf o4 b5
          have g5 := g4.trans (b5.mono (by omega))
          clear hB4 hD4 o4 g4 b4 hO4 hXO4 hXD4 cX b5
          simp only at o5
          have hB6 := hB5.alloc (.cells #[.int .i64 Uo, .int .i64 Ul, .int .i64 Um, .string ⟨Ud.toArray⟩, .slice A5 P.length c5] 27)
          have hD6 := hD5.alloc (.cells #[.int .i64 Uo, .int .i64 Ul, .int .i64 Um, .string ⟨Ud.toArray⟩, .slice A5 P.length c5] 27)
          have o6 := World.ownsRow.alloc o5 (.cells #[.int .i64 Uo, .int .i64 Ul, .int .i64 Um, .string ⟨Ud.toArray⟩, .slice A5 P.length c5] 27)
          have o6' := World.ownsRow.alloc o5' (.cells #[.int .i64 Uo, .int .i64 Ul, .int .i64 Um, .string ⟨Ud.toArray⟩, .slice A5 P.length c5] 27)
          have g6 := g5.alloc (by omega) (.cells #[.int .i64 Uo, .int .i64 Ul, .int .i64 Um, .string ⟨Ud.toArray⟩, .slice A5 P.length c5] 27)
          have hE6 : Bk (w5.alloc (.cells #[.int .i64 Uo, .int .i64 Ul, .int .i64 Um, .string ⟨Ud.toArray⟩, .slice A5 P.length c5] 27)) w5.heap.size 27 #[.int .i64 Uo, .int .i64 Ul, .int .i64 Um, .string ⟨Ud.toArray⟩, .slice A5 P.length c5] := Bk.new w5 #[.int .i64 Uo, .int .i64 Ul, .int .i64 Um, .string ⟨Ud.toArray⟩, .slice A5 P.length c5] 27
          have hXE6 := hE6.cell
          have hXD6 := hD6.cell
          have hFD6 := hD6.free
          have hXB6 := hB6.cell
          have hFB6 := hB6.free
          clear hB5 hD5 g5 o5 o5'
          go_upto_region 9 with (fail)
          generalize w5.alloc (.cells #[.int .i64 Uo, .int .i64 Ul, .int .i64 Um, .string ⟨Ud.toArray⟩, .slice A5 P.length c5] 27) = w6 at *
          generalize w5.heap.size = q6 at *
          cases tb with
          | false =>
            have hG := HG.out
            rw [HA2.out rfl] at hG
            injection hG with hG1 hG2
            subst hG1 hG2
            clear HA1 HA2 hXE6 hE6
            go_wp2
            have Q := (wK hB6 ⟨o', l', m', dict', fs⟩ A cap).cell
            have o9 := zF (B' := w.heap.size) (uX o6' (b := w.heap.size + 1) (by omega) ⟨o', l', m', dict', fs⟩ A cap) (by omega)
            have gg := xJ g6 (b := w.heap.size + 1) (by omega) ⟨o', l', m', dict', fs⟩ A cap
            exact bodyPost_ret (v := .tuple #[Sto.V ⟨o', l', m', dict', fs⟩ A cap, .int .i64 (k : Int), .bool true]) (by simp [results, Tryz.results99, go_sem, Q]) rfl ⟨A, cap, rfl, o9, gg⟩
          | true =>
            obtain ⟨hUok, hUg⟩ := HA1.out rfl
            obtain ⟨n', rfl⟩ : ∃ n', n = n' + 1 := ⟨n - 1, by omega⟩
            have HG2 : Hid (uO n' ⟨Uo, Ul, Um, Ud, P⟩ log (j : Int) = (T, tn)) := (hUg n').symm.trans HG.out
            have HU := Go.Lib.hid hUok
            clear HA1 HA2 hUok hUg HG
            go_wp2
            go_roundw
            case rel => exact ⟨n', j, ⟨Uo, Ul, Um, Ud, P⟩, A5, c5, rfl, hjl, by omega, HG2, HU, uX o6 (b := q) (by omega) ⟨Uo, Ul, Um, Ud, P⟩ A5 c5, Vb hB6 (b := q) (by omega) ⟨Uo, Ul, Um, Ud, P⟩ A5 c5, wK hD6 ⟨Uo, Ul, Um, Ud, P⟩ A5 c5, xJ g6 (b := q) (by omega) ⟨Uo, Ul, Um, Ud, P⟩ A5 c5⟩
            case measure => simp [intOf]; omega
end Go.Proofs.YtinncdollpajkaaGreat
