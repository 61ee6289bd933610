import Derived.Test.YtinncdollpajkaaGreatKS29
import Derived.Test.YtinncdollpajkaaGreatKJ32
import Derived.Test.YtinncdollpajkaaGreatKGT
import Derived.Deep.Cut
set_option linter.unusedVariables false
set_option linter.unusedSimpArgs false
set_option maxHeartbeats 8000000
namespace Go.Proofs.YtinncdollpajkaaGreat
open Go.RowKit
set_option maxRecDepth 100000
attribute [local go_sem high] zy zx zu zS zK yc zA zk zl zq zi zo yO zF yl zD
theorem dM {w : World} {B n s c : Nat} {e : TypeId} {A : Option Addr} {xs : List Value} (h : w.ownsRow B e s (.slice A n c) n xs) : (A = none → n = 0 ∧ c = 0) ∧ n ≤ c ∧ c ≤ 9223372036854775807 := by
 rcases h.2 with ⟨h1, h2⟩ | ⟨g, cap, cur, h1, _, _, h2, h3, _⟩
 ·injection h1 with e1 e2 e3
  exact ⟨fun _ => ⟨h2, e3⟩, by omega, by omega⟩
 ·injection h1 with e1 e2 e3
  unfold maxLen at h3
  exact ⟨fun h => (by rw [h] at e1; cases e1), by omega, by omega⟩
def StP (T : Sto) (b : Bool) (w : World) (e : Ending) (w' : World) : Prop := ∃ A cap, e = .returned (.tuple #[T.V A cap, .bool b]) ∧ OwC w' w.heap.size 40 2 A T.fs.length (zQ T.fs) ∧ (T.fs.length ≤ cap ∧ cap ≤ 9223372036854775807) ∧ Below w.heap.size w w'
theorem StP.no {w w' : World} (h : Below w.heap.size w w') : StP wB false w (.returned (.tuple #[Sto.V wB none 0, .bool false])) w' := ⟨none, 0, rfl, ⟨rfl, .inl ⟨rfl, rfl⟩⟩, ⟨by simp [wB], by omega⟩, h⟩
theorem StP.not {w w' : World} (h : Below w.heap.size w w') : StP ((none : Option Sto).getD wB) (none : Option Sto).isSome w (.returned (.tuple #[Sto.V wB none 0, .bool false])) w' := StP.no h
theorem OwC.stW {w : World} {b B n s : Nat} {e : TypeId} {A : Option Addr} {xs : List Value} (h : OwC w B e s A n xs) (hb : b < B) (S : Sto) (A' : Option Addr) (cap : Nat) : OwC (stW w b S A' cap) B e s A n xs :=
 ((((h.far (p := ⟨b, 0, none⟩) (fun g hg => by have := (h.lt hg).1; show g ≠ b; omega) _).far (p := ⟨b, 1, none⟩) (fun g hg => by have := (h.lt hg).1; show g ≠ b; omega) _).far (p := ⟨b, 2, none⟩) (fun g hg => by have := (h.lt hg).1; show g ≠ b; omega) _).far (p := ⟨b, 3, none⟩) (fun g hg => by have := (h.lt hg).1; show g ≠ b; omega) _).far (p := ⟨b, 4, none⟩) (fun g hg => by have := (h.lt hg).1; show g ≠ b; omega) _
theorem StP.yes {T : Sto} {A : Option Addr} {cap : Nat} {w w' : World} (ho : OwC w' w.heap.size 40 2 A T.fs.length (zQ T.fs)) (hc : T.fs.length ≤ cap) (hc2 : cap ≤ 9223372036854775807) (h : Below w.heap.size w w') : StP T true w (.returned (.tuple #[T.V A cap, .bool true])) w' := ⟨A, cap, rfl, ho, ⟨hc, hc2⟩, h⟩
theorem Um (S : Sto) (x : OpR) (A : Option Addr) (cap : Nat) (w : World) (hs : Sl w A S.fs.length cap 2 (zQ S.fs)) (hS : S.ok) (hx : x.ok) :
    Calls Tryz.prog 58 #[S.V A cap, x.val] w (StP ((apO S x).getD wB) (apO S x).isSome w) := by
  have hSB := Sto.ok.bd hS
  have hXB := OpR.ok.bd hx
  have hdl := hSB.1
  have hl6 := hS.2.1
  have hcap := hs.1
  have hcap2 := hs.2.1
  have hpl := gG S.fs x.nm
  have HSL : Hid (∀ wr, Below w.heap.size w wr → Sl wr A S.fs.length cap 2 (zQ S.fs)) := fun wr h => hs.below h
  have cC : Hid (∀ wr, Below w.heap.size w wr → Calls Tryz.prog 91 #[.slice A S.fs.length cap] wr fun e w' => ∃ A' c', e = .returned (.slice A' S.fs.length c') ∧ w'.ownsRow wr.heap.size 40 2 (.slice A' S.fs.length c') S.fs.length (zQ S.fs) ∧ Below wr.heap.size wr w') := fun wr h => WM A _ cap _ wr (hs.below h) (by omega) (bC _)
  have cF : Hid (∀ wr, Below w.heap.size w wr → Calls Tryz.prog 41 #[S.V A cap, sv x.nm] wr fun e w' => e = .returned (.tuple #[.int .i64 (vV S.fs x.nm : Int), .bool (xI S.fs x.nm).isSome]) ∧ Below wr.heap.size wr w') := fun wr h => Ye S x.nm A cap wr hS (hs.below h)
  have cS : Hid (∀ X wr, X.length ≤ 3000 → Calls Tryz.prog 94 #[S.V A cap, x.val, sv X] wr fun e w' => e = yf (chO S x X) ∧ Below wr.heap.size wr w') := fun X wr h => kG S x X A cap wr hdl hXB (by omega)
  have HNW : Hid ((xI S.fs x.nm).isSome = false → x.k = 0 → S.fs.length ≠ 6 → Wh S x (S.fs.take (vV S.fs x.nm) ++ (x.nm, []) :: S.fs.drop (vV S.fs x.nm)) (vV S.fs x.nm)) := fun h h1 h2 => Ro hS (by simpa using h) h1 h2
  have HNO : Hid ((xI S.fs x.nm).isSome = false → (x.k ≠ 0 ∨ S.fs.length = 6) → apO S x = none) := fun h h1 => Qr (by simpa using h) h1
  have HFD : Hid ((xI S.fs x.nm).isSome = true → Wh S x S.fs (vV S.fs x.nm)) := fun h => by
    obtain ⟨i, hi⟩ := Option.isSome_iff_exists.1 h
    have := (oM hS hi).2.2.1
    rw [this]
    exact UO hS hi
  clear hs hS hx hSB hXB
  obtain ⟨R, hR⟩ : ∃ R, apO S x = R := ⟨_, rfl⟩
  have HR := Go.Lib.hid hR
  rw [hR] at HNO ⊢
  clear hR
  obtain ⟨fb, hfb⟩ : ∃ b, (xI S.fs x.nm).isSome = b := ⟨_, rfl⟩
  rw [hfb] at cF HNW HNO HFD
  clear hfb
  generalize hp : vV S.fs x.nm = p at *
  clear hp
  have HMD : Hid (∀ gs p, Wh S x gs p → ∃ h : p < gs.length, gs.length ≤ 6 ∧ gs[p].1 = x.nm ∧ gs[p].2.length ≤ 3000 ∧ R = (if x.k = 4 then some { S with fs := gs.take p ++ gs.drop (p + 1) } else (chO S x gs[p].2).map fun Y => { S with fs := gs.set p (x.nm, Y) })) := fun gs p h => by
    have h' := h
    unfold Wh at h'
    rw [HR.out] at h'
    exact h'
  clear HR
  obtain ⟨o, l, m, dict, fs⟩ := S
  obtain ⟨k, f, t, s, nm, d⟩ := x
  simp only at *
  go_enter Tryz.func58, Tryz.ntmps58
  have hA : Bk (((w.alloc (.cells (Sto.C ⟨o, l, m, dict, fs⟩ A cap) 27)).alloc (.cells (OpR.cells ⟨k, f, t, s, nm, d⟩) 54)).alloc (.cells yV 27)) w.heap.size 27 (Sto.C ⟨o, l, m, dict, fs⟩ A cap) := tBk
  have hO : Bk (((w.alloc (.cells (Sto.C ⟨o, l, m, dict, fs⟩ A cap) 27)).alloc (.cells (OpR.cells ⟨k, f, t, s, nm, d⟩) 54)).alloc (.cells yV 27)) (w.heap.size + 1) 54 (OpR.cells ⟨k, f, t, s, nm, d⟩) := tBk
  have hB : Bk (((w.alloc (.cells (Sto.C ⟨o, l, m, dict, fs⟩ A cap) 27)).alloc (.cells (OpR.cells ⟨k, f, t, s, nm, d⟩) 54)).alloc (.cells yV 27)) (w.heap.size + 1 + 1) 27 yV := tBk
  have g0 : Below w.heap.size w (((w.alloc (.cells (Sto.C ⟨o, l, m, dict, fs⟩ A cap) 27)).alloc (.cells (OpR.cells ⟨k, f, t, s, nm, d⟩) 54)).alloc (.cells yV 27)) := zG
  simp only [Sto.C, OpR.cells] at hA hO hB g0
  go_upto_region 1 with (fail)
  generalize ((w.alloc (.cells #[.int .i64 o, .int .i64 l, .int .i64 m, .string ⟨dict.toArray⟩, .slice A fs.length cap] 27)).alloc (.cells #[.int .i64 k, .string ⟨nm.toArray⟩, .int .i64 f, .int .i64 t, .int .i64 s, .string ⟨d.toArray⟩] 54)).alloc (.cells yV 27) = w0 at *
  have z0 := g0.size
  have la := hA.lt
  have lo := hO.lt
  have lb := hB.lt
  have hXA := hA.cell
  go_wp2_with fail
  refine (cC.out _ g0).mono ?_
  rintro e w1 ⟨A1, c1, rfl, o1, b1⟩
  have z1 := b1.size
  have hA1 := hA.below b1 la
  have hO1 := hO.below b1 lo
  have g1 := g0.trans (b1.mono (by omega))
  have hXA1 := hA1.cell
  have hXO1 := hO1.cell
  have r1 : Below w0.heap.size w0 w1 := b1
  clear hXA b1 g0 cC
  go_wp2_with fail
  refine (cF.out _ g1).mono ?_
  rintro e w2 ⟨rfl, b2⟩
  have z2 := b2.size
  have g2 := g1.trans (b2.mono (by omega))
  have r2 := r1.trans (b2.mono z1)
  have o2 := zf o1 b2
  have hA2 := hA1.below b2 (by omega)
  have hO2 := hO1.below b2 (by omega)
  have hB2 := hB.below r2 lb
  have hXO2 := hO2.cell
  have hXB2 := hB2.cell
  have hFB2 := hB2.free
  clear hA1 hO1 hXA1 hXO1 g1 b2 o1 cF r1
  go_upto_if 22 with (fail)
  go_cut [6] (fun v wx => ∃ (gs : List Fl) (A6 : Option Addr) (c6 : Nat), v = .slice A6 gs.length c6 ∧ Hid (Wh ⟨o, l, m, dict, fs⟩ ⟨k, f, t, s, nm, d⟩ gs p) ∧ wx.ownsRow w0.heap.size 40 2 (.slice A6 gs.length c6) gs.length (zQ gs) ∧ Below w0.heap.size w0 wx ∧ Below w.heap.size w wx)
  case first =>
    cases fb with
    | true =>
      have HM := Go.Lib.hid (HFD.out rfl)
      clear HNW HNO HFD cS HMD
      go_wp2
      go_meet
      exact ⟨fs, A1, c1, rfl, HM.out, o2, r2, g2⟩
    | false =>
      by_cases hk : k = 0
      case neg =>
        have hE := HNO.out rfl (.inl hk)
        subst hE
        have hk0 : (k == 0) = false := by simpa using hk
        have hk1 : (k != 0) = true := by simpa using hk
        clear HNW HNO HFD cS HMD
        go_wp2
        have Q := (rZ hB2).cell
        have gg := yD g2 (b := w.heap.size + 1 + 1) (by omega) wB none 0
        exact bodyPost_ret (v := .tuple #[Sto.V wB none 0, .bool false]) (by simp [results, Tryz.results58, go_sem, Q, Sto.V, wB]) rfl (StP.no gg)
      by_cases h6 : fs.length = 6
      · have hE := HNO.out rfl (.inr h6)
        subst hE
        have h6i : ((fs.length : Int) == 6) = true := by simp; omega
        have H6 := Go.Lib.hid h6
        clear HNW HNO HFD cS HMD h6
        subst hk
        go_wp2
        have Q := (rZ hB2).cell
        have gg := yD g2 (b := w.heap.size + 1 + 1) (by omega) wB none 0
        exact bodyPost_ret (v := .tuple #[Sto.V wB none 0, .bool false]) (by simp [results, Tryz.results58, go_sem, Q, Sto.V, wB]) rfl (StP.no gg)
      have HM := Go.Lib.hid (HNW.out rfl hk h6)
      have h6i : ((fs.length : Int) == 6) = false := by simp; omega
      have hn3 := Bk.new w2 #[.string ⟨nm.toArray⟩, .string ⟨#[]⟩] 40
      have o3 := o2.alloc (.cells #[.string ⟨nm.toArray⟩, .string ⟨#[]⟩] 40)
      have r3 := r2.alloc (by omega) (.cells #[.string ⟨nm.toArray⟩, .string ⟨#[]⟩] 40)
      have g3 := g2.alloc (by omega) (.cells #[.string ⟨nm.toArray⟩, .string ⟨#[]⟩] 40)
      have hne : ∀ k, (Value.slice A1 fs.length c1).ownBlock = some k → k ≠ w2.heap.size := fun k hk => by have := (o2.lt k hk).2; omega
      have cI := YX A1 fs.length c1 p w2.heap.size w0.heap.size (zQ fs) (.string ⟨nm.toArray⟩) (.string ⟨#[]⟩) _ (zC o3 (by omega)) hn3 hne hpl (by omega) (bC fs) rfl rfl (by simp; omega)
      have hins := U5 fs p hpl nm []
      have hz3 : w0.heap.size ≤ (w2.alloc (.cells #[.string ⟨nm.toArray⟩, .string ⟨#[]⟩] 40)).heap.size := by simp; omega
      have hgl : (fs.take p ++ (nm, ([] : Bs)) :: fs.drop p).length = fs.length + 1 := by simp; omega
      have HGL := Go.Lib.hid hgl
      have HINS : Hid ((zQ fs).take (p * 2) ++ [.string ⟨nm.toArray⟩, .string ⟨#[]⟩] ++ (zQ fs).drop (p * 2) = zQ (fs.take p ++ (nm, ([] : Bs)) :: fs.drop p)) := hins
      clear HNW HNO HFD cS HMD hins hgl o2 r2 g2 h6 hXB2 hFB2
      subst hk
      go_wp2_with fail
      refine cI.mono ?_
      rintro e w4 ⟨A4, c4, rfl, o4, b4⟩
      have z4 := b4.size
      rw [HINS.out] at o4
      have r4 := r3.trans b4
      have g4 := g3.trans (b4.mono (by omega))
      clear o3 r3 g3 hn3 hne b4 cI
      go_wp2
      go_meet
      exact ⟨fs.take p ++ (nm, []) :: fs.drop p, A4, c4, by rw [HGL.out], HM.out, by rw [HGL.out]; exact o4, r4, g4⟩
  case rest =>
    obtain ⟨gs, A6, c6, rfl, HM, o6, r6, g6⟩ := hcut
    obtain ⟨hpg, hg6, hgn, hg3, hE⟩ := HMD.out gs p HM.out
    have HE := Go.Lib.hid hE
    have hR6 := r6.size
    have hA6 := hA.below r6 la
    have hO6 := hO.below r6 lo
    have hB6 := hB.below r6 lb
    have hXA6 := hA6.cell
    have hXO6 := hO6.cell
    have hXB6 := hB6.cell
    have hFA6 := hA6.free
    have hFB6 := hB6.free
    clear hE HM HMD HNW HNO HFD hA2 hO2 hB2 hXO2 hXB2 hFB2 o2 g2 r2
    have z6 := g6.size
    have hgl : gs.length ≤ 1000 := by omega
    have h1g := bC gs
    by_cases h4 : k = 4
    · have HE2 : Hid (R = some ⟨o, l, m, dict, gs.take p ++ gs.drop (p + 1)⟩) := by show _ = _; rw [HE.out, if_pos h4]
      obtain ⟨q, hq⟩ : ∃ q, gs.length = q + 1 := ⟨gs.length - 1, by omega⟩
      have hdl2 : (gs.take p ++ gs.drop (p + 1)).length = q := by rw [List.length_append, List.length_take, List.length_drop]; omega
      have hdv := TP gs p hpg
      have cD : Hid (∀ wr, wr.ownsRow w0.heap.size 40 2 (.slice A6 gs.length c6) gs.length (zQ gs) → Calls Tryz.prog 93 #[.slice A6 gs.length c6, .int .i64 (p : Int), .int .i64 ((p : Int) + 1)] wr fun e w' => ∃ A' c', e = .returned (.slice A' (gs.take p ++ gs.drop (p + 1)).length c') ∧ w'.ownsRow w0.heap.size 40 2 (.slice A' (gs.take p ++ gs.drop (p + 1)).length c') (gs.take p ++ gs.drop (p + 1)).length (zQ (gs.take p ++ gs.drop (p + 1))) ∧ Below w0.heap.size wr w') := fun wr h => by
        rw [hdl2, ← hdv]
        rw [hq] at h ⊢
        exact YI A6 q c6 p _ (zQ gs) wr h (by omega) (by omega) h1g
      have hql : (gs.take p ++ gs.drop (p + 1)).length ≤ 1000 := by omega
      generalize gs.take p ++ gs.drop (p + 1) = hs at *
      clear hdl2 hdv hq HE h1g cS
      subst h4
      go_wp2_with fail
      refine (cD.out _ o6).mono ?_
      rintro e w8 ⟨A8, c8, rfl, o8, b8⟩
      have z8 := b8.size
      have hA8 := hA6.below b8 la
      have hB8 := hB6.below b8 lb
      have g8 := g6.trans (b8.mono (by omega))
      have hR := HE2.out
      subst hR
      simp only [Option.getD_some, Option.isSome_some]
      clear hA6 hO6 hB6 hXA6 hXO6 hXB6 hFA6 hFB6 o6 r6 g6 b8 cD HE2
      have hcl := dM o8
      have hoc := OwC.uN o8
      have cCl := fun wr => Zk A8 hs.length c8 wr hcl.1 hcl.2.1 hcl.2.2
      clear hcl
      go_wp2_with fail
      refine (cCl _).mono ?_
      rintro e w9 ⟨rfl, rfl⟩
      have hFq := hA8.free
      have hXq := hA8.cell
      have hA9 := hA8.set 4 (.slice A8 hs.length hs.length)
      simp only [List.setIfInBounds_toArray, List.set_cons_zero, List.set_cons_succ] at hA9
      have hB9 := hB8.far (p := ⟨w.heap.size, 4, none⟩) (by show w.heap.size + 1 + 1 ≠ w.heap.size; omega) (.slice A8 hs.length hs.length)
      have o9 := hoc.far (p := ⟨w.heap.size, 4, none⟩) (fun g hg => by have := (hoc.lt hg).1; show g ≠ w.heap.size; omega) (.slice A8 hs.length hs.length)
      have g9 := g8.setCell (p := ⟨w.heap.size, 4, none⟩) (by show w.heap.size ≤ w.heap.size; omega) (.slice A8 hs.length hs.length)
      have z9 := g8.size
      clear hA8 hB8 g8 o8 hoc cCl
      go_upto_region 14 with (fail)
      clear hFq hXq
      generalize World.setCell _ ⟨w.heap.size, 4, none⟩ (.slice A8 hs.length hs.length) = w10 at *
      have hX9 := hA9.cell
      have hY9 := hB9.cell
      have hF9 := hB9.free
      go_wp2
      have Q := (wX hB9 ⟨o, l, m, dict, hs⟩ A8 hs.length).cell
      have o10 := OwC.mono (B' := w.heap.size) (OwC.stW o9 (b := w.heap.size + 1 + 1) (by omega) ⟨o, l, m, dict, hs⟩ A8 hs.length) (by omega)
      have gg := yD g9 (b := w.heap.size + 1 + 1) (by omega) ⟨o, l, m, dict, hs⟩ A8 hs.length
      exact bodyPost_ret (v := .tuple #[Sto.V ⟨o, l, m, dict, hs⟩ A8 hs.length, .bool true]) (by simp [results, Tryz.results58, go_sem, Q]) rfl (StP.yes (T := ⟨o, l, m, dict, hs⟩) o10 (by show hs.length ≤ hs.length; omega) (by omega) gg)
    · have HE2 : Hid (R = (chO ⟨o, l, m, dict, fs⟩ ⟨k, f, t, s, nm, d⟩ gs[p].2).map fun Y => (⟨o, l, m, dict, gs.set p (nm, Y)⟩ : Sto)) := by show _ = _; rw [HE.out, if_neg h4]
      have hk4 : (k == 4) = false := by simpa using h4
      obtain ⟨gq, hA6e, hgq1, hgq2⟩ := ZX o6 (by omega)
      subst hA6e
      have hgn0 := (nY gs p hpg).1
      have hgn1 := (nY gs p hpg).2
      have e0 := (o6.cellAt (p * 2 + 1) (by omega)).trans hgn1
      have hset := UZ gs p hpg
      rw [hgn] at hset
      have cX : Hid (∀ wr, Calls Tryz.prog 94 #[.agg #[.int .i64 o, .int .i64 l, .int .i64 m, .string ⟨dict.toArray⟩, .slice A fs.length cap], .agg #[.int .i64 k, .string ⟨nm.toArray⟩, .int .i64 f, .int .i64 t, .int .i64 s, .string ⟨d.toArray⟩], .string ⟨gs[p].2.toArray⟩] wr fun e w' => e = yf (chO ⟨o, l, m, dict, fs⟩ ⟨k, f, t, s, nm, d⟩ gs[p].2) ∧ Below wr.heap.size wr w') := fun wr => cS.out gs[p].2 wr hg3
      generalize chO ⟨o, l, m, dict, fs⟩ ⟨k, f, t, s, nm, d⟩ gs[p].2 = O at *
      generalize gs[p].2 = X at *
      have hpi : (p : Int) < gs.length := by omega
      clear HE hgn hgn0 hgn1 h1g cS
      go_upto_region 9 with (fail)
      refine wp_region_held_drew (S := (fun w' => w'.cell? ⟨w.heap.size, 0, none⟩ = some (.int .i64 o) ∧ w'.cell? ⟨w.heap.size, 1, none⟩ = some (.int .i64 l) ∧ w'.cell? ⟨w.heap.size, 2, none⟩ = some (.int .i64 m) ∧ w'.cell? ⟨w.heap.size, 3, none⟩ = some (.string ⟨dict.toArray⟩) ∧ w'.cell? ⟨w.heap.size, 4, none⟩ = some (.slice A fs.length cap) ∧ w'.cell? ⟨w.heap.size + 1, 0, none⟩ = some (.int .i64 k) ∧ w'.cell? ⟨w.heap.size + 1, 1, none⟩ = some (.string ⟨nm.toArray⟩) ∧ w'.cell? ⟨w.heap.size + 1, 2, none⟩ = some (.int .i64 f) ∧ w'.cell? ⟨w.heap.size + 1, 3, none⟩ = some (.int .i64 t) ∧ w'.cell? ⟨w.heap.size + 1, 4, none⟩ = some (.int .i64 s) ∧ w'.cell? ⟨w.heap.size + 1, 5, none⟩ = some (.string ⟨d.toArray⟩) ∧ w'.cell? ⟨gq, p * 2 + 1, none⟩ = some (.string ⟨X.toArray⟩))) (by kernel_rfl) ?_ (fun hSS => ?_)
      focus ((refine ⟨?_, ?_, ?_, ?_, ?_, ?_, ?_, ?_, ?_, ?_, ?_, ?_⟩; all_goals first | (simp [hXA8]; done) | (simp [hXO8]; done) | (simp [e8]; done) | (simp [hXA6]; done) | (simp [hXO6]; done) | (simp [e0]; done)))
      refine tk 0 ?_
      try simp only [Act.put, u2, u3, u4]
      refine tk 1 ?_
      try simp only [Act.put, u2, u3, u4]
      refine tk 2 ?_
      try simp only [Act.put, u2, u3, u4]
      refine tk 3 ?_
      try simp only [Act.put, u2, u3, u4]
      refine tk 4 ?_
      try simp only [Act.put, u2, u3, u4]
      refine tk 5 ?_
      try simp only [Act.put, u2, u3, u4]
      refine tk 6 ?_
      try simp only [Act.put, u2, u3, u4]
      refine rd1 7 fun KK hKK => ?_
      go_simp
      (go_at_call 94; refine (cX.out _).mono ?_; rintro e w8 ⟨rfl, b8⟩; have b8 : Below wc.heap.size wc w8 := zB b8; have z8 := b8.size; have hA8 := hA6.below b8 (by omega); have hO8 := hO6.below b8 (by omega); have hB8 := hB6.below b8 (by omega); have g8 := g6.trans (b8.mono (by omega)); have o8 := zf o6 b8; have hXA8 := hA8.cell; have hXO8 := hO8.cell; have e8 := (b8.cell (p := ⟨gq, p * 2 + 1, none⟩) hgq2).trans e0; unfold yf)
      refine hKK.out _ _ (by (refine ⟨?_, ?_, ?_, ?_, ?_, ?_, ?_, ?_, ?_, ?_, ?_, ?_⟩; all_goals first | (simp [hXA8]; done) | (simp [hXO8]; done) | (simp [e8]; done) | (simp [hXA6]; done) | (simp [hXO6]; done) | (simp [e0]; done))) fun hSS => ?_
      try simp only [Act.put, u2, u3, u4]
      refine tk 8 ?_
      try simp only [Act.put, u2, u3, u4]
      refine tk 9 ?_
      try simp only [Act.put, u2, u3, u4]
      refine tk 10 ?_
      try simp only [Act.put, u2, u3, u4]
      refine tk 11 ?_
      try simp only [Act.put, u2, u3, u4]
      refine tk 12 ?_
      try simp only [Act.put, u2, u3, u4]
      refine wpAnyH_done (by kernel_rfl) ?_ _
      clear hKK hA6 hO6 hB6 hXA6 hXO6 hXB6 hFA6 hFB6 o6 r6 g6 e0 b8 cX
      cases O with
      | none =>
        have hR := HE2.out
        subst hR
        clear HE2 hset
        simp only [Option.getD_none, Option.isSome_none]
        have hXB8 := hB8.cell
        have hFB8 := hB8.free
        go_wp2
        have Q := (rZ hB8).cell
        have gg := yD g8 (b := w.heap.size + 1 + 1) (by omega) wB none 0
        exact bodyPost_ret (v := .tuple #[Sto.V wB none 0, .bool false]) (by simp [results, Tryz.results58, go_sem, Q, Sto.V, wB]) rfl (StP.not gg)
      | some Y =>
        have hR : R = some (⟨o, l, m, dict, gs.set p (nm, Y)⟩ : Sto) := by rw [HE2.out]; rfl
        have hsY := hset Y
        have hlen : (gs.set p (nm, Y)).length = gs.length := by simp
        have HLEN := Go.Lib.hid hlen
        have HSY := Go.Lib.hid hsY
        clear HE2 hset hsY hlen
        generalize gs.set p (nm, Y) = hs at *
        subst hR
        simp only [Option.getD_some, Option.isSome_some]
        have F8 := o8.frozenAt (p * 2 + 1)
        have o9' := (o8.stored (p * 2 + 1) (.string ⟨Y.toArray⟩)).1
        rw [HSY.out] at o9'
        have hA9' := hA8.far (p := ⟨gq, p * 2 + 1, none⟩) (by show w.heap.size ≠ gq; omega) (.string ⟨Y.toArray⟩)
        have hB9' := hB8.far (p := ⟨gq, p * 2 + 1, none⟩) (by show w.heap.size + 1 + 1 ≠ gq; omega) (.string ⟨Y.toArray⟩)
        have g9' := g8.setCell (p := ⟨gq, p * 2 + 1, none⟩) (by show w.heap.size ≤ gq; omega) (.string ⟨Y.toArray⟩)
        go_upto_region 13 with (fail)
        clear hA8 hB8 hO8 g8 o8 hXA8 hXO8 e8 F8
        generalize w8.setCell ⟨gq, p * 2 + 1, none⟩ (.string ⟨Y.toArray⟩) = w9 at *
        have hql : hs.length ≤ 1000 := by rw [HLEN.out]; omega
        rw [← HLEN.out]
        rw [← HLEN.out] at o9'
        have hcl := dM o9'
        have hoc := OwC.uN o9'
        have cCl := fun wr => Zk (some ⟨gq, 0, none⟩) hs.length c6 wr hcl.1 hcl.2.1 hcl.2.2
        clear hcl
        go_wp2_with fail
        refine (cCl _).mono ?_
        rintro e w9 ⟨rfl, rfl⟩
        have hFq := hA9'.free
        have hXq := hA9'.cell
        have hA9 := hA9'.set 4 (.slice (some ⟨gq, 0, none⟩) hs.length hs.length)
        simp only [List.setIfInBounds_toArray, List.set_cons_zero, List.set_cons_succ] at hA9
        have hB9 := hB9'.far (p := ⟨w.heap.size, 4, none⟩) (by show w.heap.size + 1 + 1 ≠ w.heap.size; omega) (.slice (some ⟨gq, 0, none⟩) hs.length hs.length)
        have o9 := hoc.far (p := ⟨w.heap.size, 4, none⟩) (fun g hg => by have := (hoc.lt hg).1; show g ≠ w.heap.size; omega) (.slice (some ⟨gq, 0, none⟩) hs.length hs.length)
        have g9 := g9'.setCell (p := ⟨w.heap.size, 4, none⟩) (by show w.heap.size ≤ w.heap.size; omega) (.slice (some ⟨gq, 0, none⟩) hs.length hs.length)
        have z9 := g9'.size
        clear hA9' hB9' g9' o9' hoc cCl
        go_upto_region 14 with (fail)
        clear hFq hXq
        generalize World.setCell _ ⟨w.heap.size, 4, none⟩ (.slice (some ⟨gq, 0, none⟩) hs.length hs.length) = w10 at *
        have hX9 := hA9.cell
        have hY9 := hB9.cell
        have hF9 := hB9.free
        go_wp2
        have Q := (wX hB9 ⟨o, l, m, dict, hs⟩ (some ⟨gq, 0, none⟩) hs.length).cell
        have o10 := OwC.mono (B' := w.heap.size) (OwC.stW o9 (b := w.heap.size + 1 + 1) (by omega) ⟨o, l, m, dict, hs⟩ (some ⟨gq, 0, none⟩) hs.length) (by omega)
        have gg := yD g9 (b := w.heap.size + 1 + 1) (by omega) ⟨o, l, m, dict, hs⟩ (some ⟨gq, 0, none⟩) hs.length
        exact bodyPost_ret (v := .tuple #[Sto.V ⟨o, l, m, dict, hs⟩ (some ⟨gq, 0, none⟩) hs.length, .bool true]) (by simp [results, Tryz.results58, go_sem, Q]) rfl (StP.yes (T := ⟨o, l, m, dict, hs⟩) o10 (by show hs.length ≤ hs.length; omega) (by omega) gg)
end Go.Proofs.YtinncdollpajkaaGreat
