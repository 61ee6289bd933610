import Derived.Test.YtinncdollpajkaaGreatVS27
import Derived.Test.YtinncdollpajkaaGreatVGW
import Derived.Test.YtinncdollpajkaaGreatVR7
import Derived.Test.YtinncdollpajkaaGreatVW14
import Derived.Deep.Cut
set_option linter.unusedVariables false
set_option linter.unusedSimpArgs false
set_option maxHeartbeats 8000000
namespace Go.Proofs.YtinncdollpajkaaGreat
open Go.RowKit
set_option maxRecDepth 100000
attribute [local go_sem high] zA zu zy zO zK zX zx zk zn zq zi zo yQ zC yf zD
def StO (T : Sto) (b : Bool) (w : World) (e : Ending) (w' : World) : Prop := ∃ A cap, e = .returned (.tuple #[T.V A cap, .bool b]) ∧ w'.ownsRow w.heap.size 40 2 (.slice A T.fs.length cap) T.fs.length (yj T.fs) ∧ Below w.heap.size w w'
theorem Vb {w : World} {b b' : Nat} {t : TypeId} {cs : Array Value} (h : Bk w b' t cs) (hne : b' ≠ b) (S : Sto) (A : Option Addr) (cap : Nat) : Bk (stW w b S A cap) b' t cs :=
 ((((h.far (p := ⟨b, 0, none⟩) hne _).far (p := ⟨b, 1, none⟩) hne _).far (p := ⟨b, 2, none⟩) hne _).far (p := ⟨b, 3, none⟩) hne _).far (p := ⟨b, 4, none⟩) hne _
theorem QE (o : Option Nat) : decide (0 ≤ ixV o) = o.isSome := by cases o <;> simp [ixV]
def chS (S : Sto) (x : OpR) : Option Bs := if x.k = 0 then mkC S.o S.l S.m S.dict x.d x.s else (wo S.fs x.nm).bind fun i => chO S x (S.fs[i]?.getD ([], [])).2
def OpB (x : OpR) : Prop := -1000000 ≤ x.s ∧ x.s ≤ 1000000 ∧ -9223372036854775808 ≤ x.f ∧ x.f ≤ 9223372036854775807 ∧ -9223372036854775808 ≤ x.t ∧ x.t ≤ 9223372036854775807 ∧ x.d.length ≤ 1500000 ∧ x.nm.length ≤ 1500000 ∧ -9223372036854775808 ≤ x.k ∧ x.k ≤ 9223372036854775807
def StB (S : Sto) : Prop := S.dict.length ≤ 1500000 ∧ S.fs.length ≤ 50000 ∧ ∀ f ∈ S.fs, f.1.length ≤ 1500000 ∧ f.2.length ≤ 1500000
theorem Yt (S : Sto) (x : OpR) (A : Option Addr) (cap : Nat) (w : World) (hs : Sl w A S.fs.length cap 2 (yj S.fs)) (hS : StB S) (hx : OpB x) :
    Calls Tryz.prog 87 #[S.V A cap, x.val] w fun e w' => e = xx (chS S x) ∧ Below w.heap.size w w' := by
  obtain ⟨b1, b2, b3, b4, b5, b6, b7, b8, b9, b10⟩ := hx
  obtain ⟨hd, hl, hb⟩ := hS
  have hcap := hs.1
  have hcap2 := hs.2.1
  have HSL : Hid (∀ wr, Below w.heap.size w wr → Sl wr A S.fs.length cap 2 (yj S.fs)) := fun wr h => hs.below h
  have cI : Hid (∀ wr, Below w.heap.size w wr → Calls Tryz.prog 69 #[S.V A cap, sv x.nm] wr fun e w' => e = .returned (.int .i64 (ixV (wo S.fs x.nm))) ∧ Below wr.heap.size wr w') := fun wr h => gu S x.nm A cap wr (hs.below h) (by omega)
  have HB := Go.Lib.hid hb
  clear hs hb
  obtain ⟨R, hR⟩ : ∃ R, chS S x = R := ⟨_, rfl⟩
  rw [hR]
  have HR := Go.Lib.hid hR
  clear hR
  obtain ⟨o, l, m, dict, fs⟩ := S
  obtain ⟨k, f, t, s, nm, d⟩ := x
  simp only at *
  go_enter Tryz.func87, Tryz.ntmps87
  have hA : Bk ((w.alloc (.cells (Sto.C ⟨o, l, m, dict, fs⟩ A cap) 27)).alloc (.cells (OpR.cells ⟨k, f, t, s, nm, d⟩) 54)) w.heap.size 27 (Sto.C ⟨o, l, m, dict, fs⟩ A cap) := tBk
  have hO : Bk ((w.alloc (.cells (Sto.C ⟨o, l, m, dict, fs⟩ A cap) 27)).alloc (.cells (OpR.cells ⟨k, f, t, s, nm, d⟩) 54)) (w.heap.size + 1) 54 (OpR.cells ⟨k, f, t, s, nm, d⟩) := tBk
  have g0 : Below w.heap.size w ((w.alloc (.cells (Sto.C ⟨o, l, m, dict, fs⟩ A cap) 27)).alloc (.cells (OpR.cells ⟨k, f, t, s, nm, d⟩) 54)) := zH
  simp only [Sto.C, OpR.cells] at hA hO g0
  go_upto_region 1 with (fail)
  generalize (w.alloc (.cells #[.int .i64 o, .int .i64 l, .int .i64 m, .string ⟨dict.toArray⟩, .slice A fs.length cap] 27)).alloc (.cells #[.int .i64 k, .string ⟨nm.toArray⟩, .int .i64 f, .int .i64 t, .int .i64 s, .string ⟨d.toArray⟩] 54) = w0 at *
  have hXA := hA.cell
  have hXO := hO.cell
  have hlo := hO.lt
  by_cases h0 : k = 0
  · have hE : mkC o l m dict d s = R := by rw [← HR.out]; unfold chS; rw [if_pos h0]
    have cM := fun w => jw o l m dict d s w (by omega) (by omega) (by omega) (by omega)
    rw [hE] at cM
    clear hE HR cI
    subst h0
    go_wp2_with fail
    refine (cM _).mono ?_
    rintro e w1 ⟨rfl, c1⟩
    have g1 := g0.trans (c1.mono (by omega))
    unfold xx
    go_wp2
    exact bodyPost_ret (v := .tuple #[sv (R.getD []), .bool R.isSome]) (by simp [results, Tryz.results87, go_sem]) rfl ⟨rfl, g1⟩
  have hk0 : (k == 0) = false := by simpa using h0
  go_wp2_with fail
  refine (cI.out _ g0).mono ?_
  rintro e w1 ⟨rfl, c1⟩
  have z1 := c1.size
  have hA1 := hA.below c1 (by omega)
  have hO1 := hO.below c1 hlo
  have g1 := g0.trans (c1.mono (by omega))
  have hXA1 := hA1.cell
  have hXO1 := hO1.cell
  have hlo1 := hO1.lt
  clear hA hO hXA hXO g0 c1 cI
  cases hi : wo fs nm with
  | none =>
    have hE : R = none := by rw [← HR.out]; unfold chS; rw [if_neg h0]; simp only; rw [hi]; rfl
    subst hE
    unfold ixV
    clear HR
    go_wp2
    exact bodyPost_ret (v := .tuple #[sv [], .bool false]) (by simp [results, Tryz.results87, go_sem]) rfl ⟨rfl, g1⟩
  | some j =>
    have hj := ou hi
    have hE : chO ⟨o, l, m, dict, fs⟩ ⟨k, f, t, s, nm, d⟩ fs[j].2 = R := by rw [← HR.out]; unfold chS; rw [if_neg h0]; simp only; rw [hi, Option.bind_some, List.getElem?_eq_getElem hj]; rfl
    obtain ⟨g2, off, rfl, hg, c0, c1⟩ := (HSL.out _ g1).fl hj
    have hfb := (HB.out fs[j] (List.getElem_mem hj)).2
    generalize fs[j] = fl at *
    obtain ⟨fa, T⟩ := fl
    simp only at hE c0 c1 hfb
    unfold chO at hE
    simp only at hE
    rw [if_neg h0] at hE
    have hji : (j : Int) < fs.length := by omega
    have hnn : ¬ (j : Int) < 0 := by omega
    unfold ixV
    simp only
    clear HR hi HSL HB
    by_cases h1 : k = 1
    · rw [if_pos h1] at hE
      have cE := fun w => fU o l m dict T d s w (by omega) (by omega) (by omega) (by omega) (by omega)
      rw [hE] at cE
      clear hE
      subst h1
      go_wp2_with fail
      refine (cE _).mono ?_
      rintro e w2 ⟨rfl, d2⟩
      have g2' := g1.trans (d2.mono (by omega))
      unfold xx
      go_wp2
      exact bodyPost_ret (v := .tuple #[sv (R.getD []), .bool R.isSome]) (by simp [results, Tryz.results87, go_sem]) rfl ⟨rfl, g2'⟩
    rw [if_neg h1] at hE
    have hk1 : (k == 1) = false := by simpa using h1
    by_cases h2 : k = 2
    · rw [if_pos h2] at hE
      have cE := fun w => kV o l m dict T f t d s w (by omega) (by omega) (by omega) (by omega) (by omega) (by omega) (by omega) (by omega) (by omega)
      rw [hE] at cE
      clear hE
      subst h2
      go_wp2_with fail
      refine (cE _).mono ?_
      rintro e w2 ⟨rfl, d2⟩
      have g2' := g1.trans (d2.mono (by omega))
      unfold xx
      go_wp2
      exact bodyPost_ret (v := .tuple #[sv (R.getD []), .bool R.isSome]) (by simp [results, Tryz.results87, go_sem]) rfl ⟨rfl, g2'⟩
    rw [if_neg h2] at hE
    have hk2 : (k == 2) = false := by simpa using h2
    have cE := fun w => iG o l m dict T s w (by omega) (by omega)
    rw [hE] at cE
    clear hE
    go_wp2_with fail
    refine (cE _).mono ?_
    rintro e w2 ⟨rfl, d2⟩
    have g2' := g1.trans (d2.mono (by omega))
    unfold xx
    go_wp2
    exact bodyPost_ret (v := .tuple #[sv (R.getD []), .bool R.isSome]) (by simp [results, Tryz.results87, go_sem]) rfl ⟨rfl, g2'⟩
def apT (S : Sto) (x : OpR) : Sto × Bool := if x.k = 4 then ({ S with fs := uS S.fs x.nm }, (wo S.fs x.nm).isSome) else ({ S with fs := rP S.fs x.nm ((chS S x).getD []) }, (chS S x).isSome && decide ((rP S.fs x.nm ((chS S x).getD [])).length ≤ 6))
theorem fD (S : Sto) (x : OpR) (A : Option Addr) (cap : Nat) (w : World) (hs : Sl w A S.fs.length cap 2 (yj S.fs)) (hS : StB S) (hx : OpB x) :
    Calls Tryz.prog 54 #[S.V A cap, x.val] w (StO (apT S x).1 (apT S x).2 w) := by
  have hl := hS.2.1
  have hcap := hs.1
  have hcap2 := hs.2.1
  have cW : Hid (∀ wr, Below w.heap.size w wr → Calls Tryz.prog 86 #[S.V A cap, sv x.nm] wr (StR { S with fs := uS S.fs x.nm } wr)) := fun wr h => Ze S x.nm A cap wr (hs.below h) (by omega)
  have cI : Hid (∀ wr, Below w.heap.size w wr → Calls Tryz.prog 69 #[S.V A cap, sv x.nm] wr fun e w' => e = .returned (.int .i64 (ixV (wo S.fs x.nm))) ∧ Below wr.heap.size wr w') := fun wr h => gu S x.nm A cap wr (hs.below h) (by omega)
  have cC : Hid (∀ wr, Below w.heap.size w wr → Calls Tryz.prog 87 #[S.V A cap, x.val] wr fun e w' => e = xx (chS S x) ∧ Below wr.heap.size wr w') := fun wr h => Yt S x A cap wr (hs.below h) hS hx
  have cS : Hid (∀ X wr, Below w.heap.size w wr → Calls Tryz.prog 88 #[S.V A cap, sv x.nm, sv X] wr (StR { S with fs := rP S.fs x.nm X } wr)) := fun X wr h => TE S x.nm X A cap wr (hs.below h) hl
  have HJ : Hid (-1 ≤ ixV (wo S.fs x.nm) ∧ ixV (wo S.fs x.nm) ≤ 50000) := by
    show _ ∧ _
    cases hi : wo S.fs x.nm with
    | none => simp [ixV]
    | some j => have := ou hi; simp only [ixV]; omega
  clear hs hS hx
  obtain ⟨T, hT⟩ : ∃ T, apT S x = T := ⟨_, rfl⟩
  rw [hT]
  have HT := Go.Lib.hid hT
  clear hT
  obtain ⟨R, hR⟩ : ∃ R, chS S x = R := ⟨_, rfl⟩
  rw [hR] at cC
  have HR := Go.Lib.hid hR
  clear hR
  obtain ⟨o, l, m, dict, fs⟩ := S
  obtain ⟨k, f, t, s, nm, d⟩ := x
  simp only at *
  unfold StO
  go_enter Tryz.func54, Tryz.ntmps54
  have hA : Bk (((w.alloc (.cells (Sto.C ⟨o, l, m, dict, fs⟩ A cap) 27)).alloc (.cells (OpR.cells ⟨k, f, t, s, nm, d⟩) 54)).alloc (.cells xw 27)) w.heap.size 27 (Sto.C ⟨o, l, m, dict, fs⟩ A cap) := tBk
  have hO : Bk (((w.alloc (.cells (Sto.C ⟨o, l, m, dict, fs⟩ A cap) 27)).alloc (.cells (OpR.cells ⟨k, f, t, s, nm, d⟩) 54)).alloc (.cells xw 27)) (w.heap.size + 1) 54 (OpR.cells ⟨k, f, t, s, nm, d⟩) := tBk
  have hB : Bk (((w.alloc (.cells (Sto.C ⟨o, l, m, dict, fs⟩ A cap) 27)).alloc (.cells (OpR.cells ⟨k, f, t, s, nm, d⟩) 54)).alloc (.cells xw 27)) (w.heap.size + 1 + 1) 27 xw := tBk
  have g0 : Below w.heap.size w (((w.alloc (.cells (Sto.C ⟨o, l, m, dict, fs⟩ A cap) 27)).alloc (.cells (OpR.cells ⟨k, f, t, s, nm, d⟩) 54)).alloc (.cells xw 27)) := zH
  simp only [Sto.C, OpR.cells] at hA hO hB g0
  go_upto_region 1 with (fail)
  generalize ((w.alloc (.cells #[.int .i64 o, .int .i64 l, .int .i64 m, .string ⟨dict.toArray⟩, .slice A fs.length cap] 27)).alloc (.cells #[.int .i64 k, .string ⟨nm.toArray⟩, .int .i64 f, .int .i64 t, .int .i64 s, .string ⟨d.toArray⟩] 54)).alloc (.cells xw 27) = w0 at *
  have z0 := g0.size
  have la := hA.lt
  have lo := hO.lt
  have lb := hB.lt
  by_cases h4 : k = 4
  · obtain ⟨J, hJ⟩ : ∃ J, ixV (wo fs nm) = J := ⟨_, rfl⟩
    have hT : T = (⟨o, l, m, dict, uS fs nm⟩, decide (0 ≤ J)) := by rw [← HT.out, ← hJ, QE]; unfold apT; rw [if_pos h4]
    subst hT
    have hj0 := HJ.out.1
    have hj1 := HJ.out.2
    rw [hJ] at cI hj0 hj1
    clear HT HR cC cS HJ hJ
    subst h4
    have hXA := hA.cell
    have hXO := hO.cell
    go_upto_region 2 with (fail)
    have hS0 : (fun w' => w'.cell? ⟨w.heap.size, 0, none⟩ = some (.int .i64 o) ∧ w'.cell? ⟨w.heap.size, 1, none⟩ = some (.int .i64 l) ∧ w'.cell? ⟨w.heap.size, 2, none⟩ = some (.int .i64 m) ∧ w'.cell? ⟨w.heap.size, 3, none⟩ = some (.string ⟨dict.toArray⟩) ∧ w'.cell? ⟨w.heap.size, 4, none⟩ = some (.slice A fs.length cap) ∧ w'.cell? ⟨w.heap.size + 1, 1, none⟩ = some (.string ⟨nm.toArray⟩)) w0 := ⟨hA.cell 0, hA.cell 1, hA.cell 2, hA.cell 3, hA.cell 4, hO.cell 1⟩
    clear hXA hXO
    refine wp_region_held_drew (S := (fun w' => w'.cell? ⟨w.heap.size, 0, none⟩ = some (.int .i64 o) ∧ w'.cell? ⟨w.heap.size, 1, none⟩ = some (.int .i64 l) ∧ w'.cell? ⟨w.heap.size, 2, none⟩ = some (.int .i64 m) ∧ w'.cell? ⟨w.heap.size, 3, none⟩ = some (.string ⟨dict.toArray⟩) ∧ w'.cell? ⟨w.heap.size, 4, none⟩ = some (.slice A fs.length cap) ∧ w'.cell? ⟨w.heap.size + 1, 1, none⟩ = some (.string ⟨nm.toArray⟩))) (by kernel_rfl) ?_ (fun hSS => ?_)
    focus ((first | exact hS10 | exact hS9 | exact hS8 | exact hS0))
    refine tk 0 ?_
    try simp only [Act.put, u2, u3, u4]
    refine tk 1 ?_
    try simp only [Act.put, u2, u3, u4]
    refine tk 2 ?_
    try simp only [Act.put, u2, u3, u4]
    refine tk 4 ?_
    try simp only [Act.put, u2, u3, u4]
    refine tk 5 ?_
    try simp only [Act.put, u2, u3, u4]
    refine tk 6 ?_
    try simp only [Act.put, u2, u3, u4]
    refine rd1 3 fun KK hKK => ?_
    go_simp
    (go_at_call 86; refine (cW.out _ yU).mono ?_; rintro e8 w8 ⟨A8, c8, rfl, o8, b8⟩; have o8 := zF (B' := w0.heap.size) o8 (by first | omega | (simp; done) | (simp; omega)); have b8 : Below w0.heap.size w0 w8 := zL b8; have z8 := b8.size; have hA8 := hA.below b8 la; have hO8 := hO.below b8 lo; have hB8 := hB.below b8 lb; have g8 := g0.trans (b8.mono (by omega)); have hS8 : (fun w' => w'.cell? ⟨w.heap.size, 0, none⟩ = some (.int .i64 o) ∧ w'.cell? ⟨w.heap.size, 1, none⟩ = some (.int .i64 l) ∧ w'.cell? ⟨w.heap.size, 2, none⟩ = some (.int .i64 m) ∧ w'.cell? ⟨w.heap.size, 3, none⟩ = some (.string ⟨dict.toArray⟩) ∧ w'.cell? ⟨w.heap.size, 4, none⟩ = some (.slice A fs.length cap) ∧ w'.cell? ⟨w.heap.size + 1, 1, none⟩ = some (.string ⟨nm.toArray⟩)) w8 := ⟨hA8.cell 0, hA8.cell 1, hA8.cell 2, hA8.cell 3, hA8.cell 4, hO8.cell 1⟩; have hXB8 := hB8.cell; have hFB8 := hB8.free)
    refine hKK.out _ _ (by (first | exact hS10 | exact hS9 | exact hS8 | exact hS0)) fun hSS => ?_
    try simp only [Act.put, u2, u3, u4]
    refine rd1 7 fun KK hKK => ?_
    go_simp
    (go_at_call 69; refine (cI.out _ yU).mono ?_; rintro e9 w9 ⟨rfl, b9⟩; have b9 : Below w8.heap.size w8 w9 := (by first | exact b9 | exact zL b9); have z9 := b9.size; have hA9 := hA8.below b9 (by omega); have hO9 := hO8.below b9 (by omega); have hB9 := hB8.below b9 (by omega); have g9 := g8.trans (b9.mono (by omega)); have o9 := zf o8 b9; have hS9 : (fun w' => w'.cell? ⟨w.heap.size, 0, none⟩ = some (.int .i64 o) ∧ w'.cell? ⟨w.heap.size, 1, none⟩ = some (.int .i64 l) ∧ w'.cell? ⟨w.heap.size, 2, none⟩ = some (.int .i64 m) ∧ w'.cell? ⟨w.heap.size, 3, none⟩ = some (.string ⟨dict.toArray⟩) ∧ w'.cell? ⟨w.heap.size, 4, none⟩ = some (.slice A fs.length cap) ∧ w'.cell? ⟨w.heap.size + 1, 1, none⟩ = some (.string ⟨nm.toArray⟩)) w9 := ⟨hA9.cell 0, hA9.cell 1, hA9.cell 2, hA9.cell 3, hA9.cell 4, hO9.cell 1⟩; have hXB9 := hB9.cell; have hFB9 := hB9.free; have hA10 := Vb hA9 (b := w.heap.size + 1 + 1) (by omega) ⟨o, l, m, dict, uS fs nm⟩ A8 c8; have hO10 := Vb hO9 (b := w.heap.size + 1 + 1) (by omega) ⟨o, l, m, dict, uS fs nm⟩ A8 c8; have hS10 : (fun w' => w'.cell? ⟨w.heap.size, 0, none⟩ = some (.int .i64 o) ∧ w'.cell? ⟨w.heap.size, 1, none⟩ = some (.int .i64 l) ∧ w'.cell? ⟨w.heap.size, 2, none⟩ = some (.int .i64 m) ∧ w'.cell? ⟨w.heap.size, 3, none⟩ = some (.string ⟨dict.toArray⟩) ∧ w'.cell? ⟨w.heap.size, 4, none⟩ = some (.slice A fs.length cap) ∧ w'.cell? ⟨w.heap.size + 1, 1, none⟩ = some (.string ⟨nm.toArray⟩)) (stW w9 (w.heap.size + 1 + 1) ⟨o, l, m, dict, uS fs nm⟩ A8 c8) := ⟨hA10.cell 0, hA10.cell 1, hA10.cell 2, hA10.cell 3, hA10.cell 4, hO10.cell 1⟩)
    refine hKK.out _ _ (by (first | exact hS10 | exact hS9 | exact hS8 | exact hS0)) fun hSS => ?_
    try simp only [Act.put, u2, u3, u4]
    refine tk 8 ?_
    try simp only [Act.put, u2, u3, u4]
    refine rd1 9 fun KK hKK => ?_
    go_simp
    refine hKK.out _ _ (by (first | exact hS10 | exact hS9 | exact hS8 | exact hS0)) fun hSS => ?_
    try simp only [Act.put, u2, u3, u4]
    refine tk 10 ?_
    try simp only [Act.put, u2, u3, u4]
    refine wpAnyH_done (by kernel_rfl) ?_ _
    go_wp2
    have Q := (wK hB9 ⟨o, l, m, dict, uS fs nm⟩ A8 c8).cell
    have o2 := zF (B' := w.heap.size) (uX o9 (b := w.heap.size + 1 + 1) (by omega) ⟨o, l, m, dict, uS fs nm⟩ A8 c8) (by omega)
    have gg := xJ g9 (b := w.heap.size + 1 + 1) (by omega) ⟨o, l, m, dict, uS fs nm⟩ A8 c8
    exact bodyPost_ret (v := .tuple #[Sto.V ⟨o, l, m, dict, uS fs nm⟩ A8 c8, .bool (decide (0 ≤ J))]) (by simp [results, Tryz.results54, go_sem, Q]) rfl ⟨A8, c8, rfl, o2, gg⟩
  · have hk4 : (k == 4) = false := by simpa using h4
    obtain ⟨P, hP⟩ : ∃ P, rP fs nm (R.getD []) = P := ⟨_, rfl⟩
    have hT : T = (⟨o, l, m, dict, P⟩, R.isSome && decide (P.length ≤ 6)) := by rw [← HT.out, ← hP, ← HR.out]; unfold apT; rw [if_neg h4]
    subst hT
    have cS := cS.out (R.getD [])
    rw [hP] at cS
    have CS := Go.Lib.hid cS
    clear cS HT HR cW cI HJ hP
    have hXA := hA.cell
    have hXO := hO.cell
    go_wp2_with fail
    refine (cC.out _ g0).mono ?_
    rintro e w1 ⟨rfl, b1⟩
    have z1 := b1.size
    have hA1 := hA.below b1 la
    have hO1 := hO.below b1 lo
    have hB1 := hB.below b1 lb
    have g1 := g0.trans (b1.mono (by omega))
    have hXA1 := hA1.cell
    have hXO1 := hO1.cell
    clear hA hO hB hXA hXO b1 g0 cC
    unfold xx
    go_wp2_with fail
    refine (CS.out _ g1).mono ?_
    rintro e w2 ⟨A2, c2, rfl, o2, b2⟩
    have z2 := b2.size
    have o2 := zF (B' := w.heap.size + 3) o2 (by omega)
    have hB2 := hB1.below b2 (by omega)
    have g2 := g1.trans (b2.mono (by omega))
    simp only at o2
    clear hA1 hO1 hXA1 hXO1 b2 g1 CS
    have hB3 := hB2.alloc (.cells #[.int .i64 o, .int .i64 l, .int .i64 m, .string ⟨dict.toArray⟩, .slice A2 P.length c2] 27)
    have o3 := World.ownsRow.alloc o2 (.cells #[.int .i64 o, .int .i64 l, .int .i64 m, .string ⟨dict.toArray⟩, .slice A2 P.length c2] 27)
    have g3 := g2.alloc (by omega) (.cells #[.int .i64 o, .int .i64 l, .int .i64 m, .string ⟨dict.toArray⟩, .slice A2 P.length c2] 27)
    have hD3 : Bk (w2.alloc (.cells #[.int .i64 o, .int .i64 l, .int .i64 m, .string ⟨dict.toArray⟩, .slice A2 P.length c2] 27)) w2.heap.size 27 #[.int .i64 o, .int .i64 l, .int .i64 m, .string ⟨dict.toArray⟩, .slice A2 P.length c2] := Bk.new w2 #[.int .i64 o, .int .i64 l, .int .i64 m, .string ⟨dict.toArray⟩, .slice A2 P.length c2] 27
    have hXB := hB3.cell
    have hFB := hB3.free
    have hXD := hD3.cell
    go_upto_region 5 with (fail)
    have lb3 : w.heap.size + 1 + 1 < w2.heap.size := by omega
    clear hB2 hB1 o2 g2
    generalize (w2.alloc (.cells #[.int .i64 o, .int .i64 l, .int .i64 m, .string ⟨dict.toArray⟩, .slice A2 P.length c2] 27)) = w3 at *
    generalize w2.heap.size = q at *
    cases R with
    | none =>
      simp only [Option.isSome_none, Option.getD_none, Bool.false_and]
      go_region
      go_wp2
      have Q := (wK hB3 ⟨o, l, m, dict, P⟩ A2 c2).cell
      have o9 := vC (zF (B' := w.heap.size) (uX o3 (b := w.heap.size + 1 + 1) (by omega) ⟨o, l, m, dict, P⟩ A2 c2) (by omega))
      have gg := (xJ g3 (b := w.heap.size + 1 + 1) (by omega) ⟨o, l, m, dict, P⟩ A2 c2).drew
      exact bodyPost_ret (v := .tuple #[Sto.V ⟨o, l, m, dict, P⟩ A2 c2, .bool false]) (by simp [results, Tryz.results54, go_sem, Q]) rfl ⟨A2, c2, rfl, o9, gg⟩
    | some X =>
      simp only [Option.isSome_some, Option.getD_some, Bool.true_and]
      go_region
      go_wp2
      have Q := (wK hB3 ⟨o, l, m, dict, P⟩ A2 c2).cell
      have o9 := vC (zF (B' := w.heap.size) (uX o3 (b := w.heap.size + 1 + 1) (by omega) ⟨o, l, m, dict, P⟩ A2 c2) (by omega))
      have gg := (xJ g3 (b := w.heap.size + 1 + 1) (by omega) ⟨o, l, m, dict, P⟩ A2 c2).drew
      exact bodyPost_ret (v := .tuple #[Sto.V ⟨o, l, m, dict, P⟩ A2 c2, .bool (decide (P.length ≤ 6))]) (by simp [results, Tryz.results54, go_sem, Q]; omega) rfl ⟨A2, c2, rfl, o9, gg⟩
end Go.Proofs.YtinncdollpajkaaGreat
