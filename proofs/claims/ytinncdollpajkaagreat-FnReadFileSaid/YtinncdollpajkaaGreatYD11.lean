import Derived.Test.YtinncdollpajkaaGreatYD10
import Derived.Test.YtinncdollpajkaaGreatYR7
import Derived.Test.YtinncdollpajkaaGreatYS22
import Derived.Deep.Cut
set_option linter.unusedVariables false
set_option linter.unusedSimpArgs false
set_option maxHeartbeats 8000000
namespace Go.Proofs.YtinncdollpajkaaGreat
open Go.RowKit
set_option maxRecDepth 100000
attribute [local go_sem high] zu zx zy zO zL zX zA zk zn zo zi zq yR zD yh zC
theorem WQ {w w' : World} {B r n size : Nat} {e : TypeId} {v : Value} {xs : List Value} (h : w.ownsRow B e size v n xs) (hb : zl w.heap.size r w w') (hr : ∀ k, v.ownBlock = some k → k ≠ r) : w'.ownsRow B e size v n xs := by
 have hlt := h.lt
 obtain ⟨h1, h2⟩ := h
 refine ⟨h1, ?_⟩
 rcases h2 with h2 | ⟨g, cap, cur, rfl, hg, hh, rest⟩
 ·exact .inl h2
 ·exact .inr ⟨g, cap, cur, rfl, hg, (hb.block g (hlt g rfl).2 (hr g rfl)).trans hh, rest⟩
theorem Oj {T : Sto} (h : T = vX ∨ T.ok) : T.fs.length ≤ 6 ∧ T.dict.length ≤ 7000 ∧ (∀ f ∈ T.fs, f.1.length ≤ 100 ∧ f.2.length ≤ 3000) ∧ (T.fs = [] ∨ xH T.o T.l T.m) ∧ 0 ≤ T.l ∧ T.l ≤ 8 := by
 rcases h with rfl | h
 ·exact ⟨by simp [vX], by simp [vX], fun f hf => by simp [vX] at hf, .inl rfl, by simp [vX], by simp [vX]⟩
 ·refine ⟨h.2.1, by have := h.1.2.1; omega, fun f hf => ?_, .inr h.1.1, by have := h.1.1.2.1; omega, h.1.1.2.2.1⟩
  obtain ⟨i, hi, rfl⟩ := List.mem_iff_getElem.1 hf
  obtain ⟨h1, h2, _⟩ := h.2.2 i hi
  have := sV h1
  have := eH h2
  omega
theorem kE (l : Bs) (w : World) (hs : l.length ≤ 1500000) :
    Calls Tryz.prog 38 #[sv l] w fun e w' => (∃ n : Int, e = .returned (.int .i64 n) ∧ -1 ≤ n ∧ n ≤ 1000000) ∧ Below w.heap.size w w' := by
  have cB := fun w => uJ l w hs
  unfold oN at cB
  cases hB : zT l with
  | none =>
    rw [hB] at cB
    simp only [Option.getD_none, Option.isSome_none, Option.elim_none] at cB
    clear hB
    go_enter Tryz.func38, Tryz.ntmps38
    go_wp2_with fail
    refine (cB _).mono ?_
    rintro e w1 ⟨A1, c1, rfl, o1, hb1⟩
    go_wp2
    go_ret
    exact ⟨⟨-1, rfl, by omega, by omega⟩, hb1⟩
  | some bs =>
    have hok := xB hB
    have hlen := (xK hB).2
    have hsz := ui bs hok
    rw [hB] at cB
    simp only [Option.getD_some, Option.isSome_some, Option.elim_some] at cB
    clear hB
    have cZ := fun A cap w hs => qY bs A cap w hs hok (by omega)
    go_enter Tryz.func38, Tryz.ntmps38
    go_wp2_with fail
    refine (cB _).mono ?_
    rintro e w1 ⟨A1, c1, rfl, o1, hb1⟩
    have z1 := hb1.size
    have S1 := Sl.own o1
    clear o1
    go_wp2_with fail
    refine (cZ _ _ _ S1).mono ?_
    rintro e w2 ⟨rfl, hb2⟩
    have g2 := hb1.trans (hb2.mono (by omega))
    go_wp2
    go_ret
    exact ⟨⟨_, rfl, by omega, by omega⟩, g2⟩
def DrF (w : World) (e : Ending) (w' : World) : Prop := (∃ T A cap, ∃ n : Bs, e = .returned (.tuple #[Sto.V T A cap, sv n]) ∧ oO T ∧ n.length ≤ 7000 ∧ w'.ownsRow w.heap.size 40 2 (.slice A T.fs.length cap) T.fs.length (yf T.fs)) ∧ Below w.heap.size w w'
theorem aJ (bs : Bs) (A : Option Addr) (cap : Nat) (w : World) (hs : Sl w A bs.length cap 1 (bs.map u8v)) :
    Calls Tryz.prog 34 #[.slice A bs.length cap] w (DrF w) := by
  unfold DrF
  go_enter Tryz.func34, Tryz.ntmps34
  have hZ0 := Bk.new w xg 27
  have gz : Below w.heap.size w (w.alloc (.cells xg 27)) := zG
  have hs0 := hs.below gz
  go_upto_region 1 with (fail)
  generalize w.alloc (.cells xg 27) = w0 at *
  have z0 := hZ0.lt
  go_wp2_with fail
  refine (ak bs A cap _ hs0).mono ?_
  rintro e w1 ⟨rfl, R1, hb1⟩
  have z1 := hb1.size
  have hZ1 := hZ0.below hb1 z0
  have g1 : zl w.heap.size w0.heap.size w w1 := yG (gz.trans (hb1.mono (by omega))) _
  clear hb1 hs hs0 hZ0 gz
  generalize hr0 : w0.heap.size = r at *
  have hrl := R1.lt
  go_wp2_with fail
  refine (Xc r _ _ R1 (by omega)).mono ?_
  rintro e w2 ⟨⟨T, A2, c2, rfl, hT, o2⟩, R2, b2⟩
  obtain ⟨t1, t2, t3, t4, t5, t6⟩ := Oj hT
  have t3' := fun f hf => (show _ ∧ _ from ⟨Nat.le_trans (t3 f hf).1 (show 100 ≤ 3000 by omega), (t3 f hf).2⟩)
  have z2 := b2.size
  have hZ2 := hZ1.zJ b2 (by omega) (by omega)
  have g2 := g1.trans (b2.mono (by omega))
  obtain ⟨To, Tl, Tm, Td, P⟩ := T
  simp only at t1 t2 t3 t3' t4 o2
  clear b2 hZ1 R1 g1 hT
  have hK3 := Bk.new w2 #[.int .i64 To, .int .i64 Tl, .int .i64 Tm, .string ⟨Td.toArray⟩, .slice A2 P.length c2] 27
  have hZ3 := hZ2.alloc (.cells #[.int .i64 To, .int .i64 Tl, .int .i64 Tm, .string ⟨Td.toArray⟩, .slice A2 P.length c2] 27)
  have R3 := R2.alloc (.cells #[.int .i64 To, .int .i64 Tl, .int .i64 Tm, .string ⟨Td.toArray⟩, .slice A2 P.length c2] 27)
  have o3 := World.ownsRow.alloc o2 (.cells #[.int .i64 To, .int .i64 Tl, .int .i64 Tm, .string ⟨Td.toArray⟩, .slice A2 P.length c2] 27)
  have g3 := g2.alloc (by omega) (.cells #[.int .i64 To, .int .i64 Tl, .int .i64 Tm, .string ⟨Td.toArray⟩, .slice A2 P.length c2] 27)
  go_upto_region 3 with (fail)
  generalize w2.alloc (.cells #[.int .i64 To, .int .i64 Tl, .int .i64 Tm, .string ⟨Td.toArray⟩, .slice A2 P.length c2] 27) = w3 at *
  have l3 := hK3.lt
  have z3 := g3.size
  have hbw : w1.heap.size ≤ w2.heap.size := z2
  generalize w2.heap.size = bb at *
  clear hZ2 R2 o2 g2
  have s3 := Sl.list w3 [sv [97], sv [98], sv [99], sv [97, 98], sv [120], sv []] 9 w3.heap.size 6 rfl rfl (by omega)
  go_wp2_with fail
  refine (VB r _ [[97], [98], [99], [97, 98], [120], []] (some ⟨w3.heap.size, 0, none⟩) 6 _ (R3.alloc _) (by omega) s3 (by simp) (by simp) (by rintro g off ⟨⟩; omega)).mono ?_
  rintro e w4 ⟨⟨n0, hn0, rfl⟩, R4, b4⟩
  have z4 := b4.size
  simp only [World.size_alloc] at z4
  have hK4 := (hK3.alloc _).zJ b4 (by first | omega | (simp; done) | (simp; omega)) (by omega)
  have hZ4 := (hZ3.alloc _).zJ b4 (by first | omega | (simp; done) | (simp; omega)) (by omega)
  have o4 := yc (World.ownsRow.alloc o3 _) b4 (by omega)
  have g4 := (g3.alloc (by omega) _).trans (b4.mono (by first | omega | (simp; done) | (simp; omega)))
  have hn0l : n0.length ≤ 7000 := by simp at hn0; rcases hn0 with rfl | rfl | rfl | rfl | rfl | rfl <;> simp
  clear b4 hK3 hZ3 R3 o3 g3 hn0 s3
  have hX4 := hK4.cell
  have l4 := hK4.lt
  have lz4 := hZ4.lt
  go_upto_region 4 with (fail)
  go_cut [22] (fun v wx => ∃ tb : Bool, v = .bool tb ∧ Hid (tb = true → 0 < P.length) ∧ Rd wx r 1900 ∧ Bk wx bb 27 #[.int .i64 To, .int .i64 Tl, .int .i64 Tm, .string ⟨Td.toArray⟩, .slice A2 P.length c2] ∧ Bk wx w.heap.size 27 xg ∧ wx.ownsRow w1.heap.size 40 2 (.slice A2 P.length c2) P.length (yf P) ∧ zl w.heap.size r w wx ∧ w4.heap.size ≤ wx.heap.size)
  case first =>
    by_cases hp0 : P.length = 0
    · have hp0i : ¬ (0 : Int) < P.length := by omega
      have hHt : Hid (false = true → 0 < P.length) := fun h => by cases h
      clear hp0
      go_wp2
      go_meet
      exact ⟨false, rfl, hHt, R4.mono (by omega), hK4, hZ4, o4, g4, Nat.le_refl _⟩
    have hp0i : (0 : Int) < P.length := by omega
    have hHt : ∀ b : Bool, Hid (b = true → 0 < P.length) := fun b _ => by omega
    go_wp2_with fail
    refine (pick_any r _ 3 _ R4 (by omega) (by omega) (by omega)).mono ?_
    rintro e w5 ⟨⟨v, rfl, hv0, hv1⟩, R5, b5⟩
    have z5 := b5.size
    have hK5 := hK4.zJ b5 l4 (by omega)
    have hZ5 := hZ4.zJ b5 lz4 (by omega)
    have o5 := yc o4 b5 (by omega)
    have g5 := g4.trans (b5.mono (by omega))
    clear b5 hK4 hZ4 R4 o4 g4 hX4
    go_wp2
    go_meet
    exact ⟨_, rfl, hHt _, R5.mono (by omega), hK5, hZ5, o5, g5, z5⟩
  obtain ⟨tb, rfl, hHt, R4b, hK4b, hZ4b, o4b, g4b, z4b⟩ := hcut
  clear hK4 hZ4 R4 o4 g4 hX4
  go_upto_if 22 with (fail)
  go_cut [6] (fun v wx => ∃ n : Bs, v = sv n ∧ n.length ≤ 7000 ∧ Rd wx r 2000 ∧ Bk wx bb 27 #[.int .i64 To, .int .i64 Tl, .int .i64 Tm, .string ⟨Td.toArray⟩, .slice A2 P.length c2] ∧ Bk wx w.heap.size 27 xg ∧ wx.ownsRow w1.heap.size 40 2 (.slice A2 P.length c2) P.length (yf P) ∧ zl w.heap.size r w wx ∧ w4.heap.size ≤ wx.heap.size)
  case first =>
    cases tb with
    | false =>
      go_wp2
      go_meet
      exact ⟨n0, rfl, hn0l, R4b.mono (by omega), hK4b, hZ4b, o4b, g4b, z4b⟩
    | true =>
    have hp0 := hHt.out rfl
    have hp0i : (0 : Int) < P.length := by omega
    have hK5 := hK4b
    have hZ5 := hZ4b
    have o5 := o4b
    have g5 := g4b
    have R5 := R4b
    have z5 := z4b
    clear hK4b hZ4b o4b g4b R4b z4b hHt
    have hX5 := hK5.cell
    obtain ⟨g, rfl, hg1, hg2⟩ := ZZ o5 (by omega)
    have hc5 : ∀ j u, (yf P)[j]? = some u → wc.cell? ⟨g, j, none⟩ = some u := fun j u hu => by
      rw [o5.cellAt j (by have := (List.getElem?_eq_some_iff.1 hu).1; rw [uw] at this; exact this)]; exact hu
    go_upto_region 5 with (fail)
    refine wp_region_held_drew (S := (fun w' => w'.cell? ⟨bb, 4, none⟩ = some (.slice (some ⟨g, 0, none⟩) P.length c2) ∧ (∀ j u, (yf P)[j]? = some u → w'.cell? ⟨g, j, none⟩ = some u))) (by kernel_rfl) ?_ (fun hSS => ?_)
    focus (exact ⟨hX5 4, hc5⟩)
    refine tk 0 ?_
    try simp only [Act.put, u2, u3, u4]
    refine tk 1 ?_
    try simp only [Act.put, u2, u3, u4]
    refine tk 2 ?_
    try simp only [Act.put, u2, u3, u4]
    refine tk 3 ?_
    try simp only [Act.put, u2, u3, u4]
    refine tk 4 ?_
    try simp only [Act.put, u2, u3, u4]
    refine tk 5 ?_
    try simp only [Act.put, u2, u3, u4]
    refine rd1 6 fun KK hKK => ?_
    go_simp
    (go_at_call 65; refine (pick_any r _ P.length _ R5.drew (by omega) (by omega) (by omega)).mono ?_; rintro e w6 ⟨⟨p, rfl, hp1, hp2⟩, R6, b6⟩; have b6 : zl wc.heap.size r wc w6 := ⟨b6.os, b6.tape, b6.output, b6.size, b6.block⟩; have z6 := b6.size; have hK6 := hK5.zJ b6 (by omega) (by omega); have hZ6 := hZ5.zJ b6 (by omega) (by omega); have o6 := yc o5 b6 (by omega); have g6 := g5.trans (b6.mono (by omega)); have hX6 := hK6.cell; have hc6 : ∀ j u, (yf P)[j]? = some u → w6.cell? ⟨g, j, none⟩ = some u := (fun j u hu => (b6.cell (p := ⟨g, j, none⟩) hg2 (by show g ≠ r; omega)).trans (hc5 j u hu)))
    refine hKK.out _ _ (by exact ⟨hX6 4, hc6⟩) fun hSS => ?_
    try simp only [Act.put, u2, u3, u4]
    obtain ⟨q, rfl⟩ := Int.eq_ofNat_of_zero_le hp1
    have hq : q < P.length := by omega
    have hqi : (q : Int) < P.length := by omega
    have hat := (YO P q hq).1
    have hnl := (t3 _ (List.getElem_mem hq)).1
    simp only [Nat.add_zero] at hat
    generalize P[q].1 = X at *
    clear hp1 hp2
    refine tk 7 ?_
    try simp only [Act.put, u2, u3, u4]
    refine tk 8 ?_
    try simp only [Act.put, u2, u3, u4]
    refine wpAnyH_take (i := 9) (v := ?_) rfl (by kernel_rfl) (by kernel_rfl) (by kernel_rfl) (fun _ _ _ h => h) (Or.inl ⟨by rfl, ?_⟩) (by assumption) ?_
    rotate_left
    focus (intro w hSw; (try dsimp only at hSw); have hcX := hSw.2 _ _ hat; clear hSw; go_simp; try with_reducible rfl)
    try simp only [Act.put, u2, u3, u4]
    refine tk 10 ?_
    try simp only [Act.put, u2, u3, u4]
    refine wpAnyH_done (by kernel_rfl) ?_ _
    simp only [List.getElem_toArray, List.getElem_cons_succ, List.getElem_cons_zero, Act.put, List.setIfInBounds_toArray, List.set_cons_zero, List.set_cons_succ]
    go_wp2
    go_meet
    exact ⟨X, rfl, by omega, R6.mono (by omega), hK6, hZ6, o6, g6, by omega⟩
  case rest =>
    obtain ⟨n, rfl, hnl, R5, hK5, hZ5, o5, g5, z5⟩ := hcut
    clear hK4b hZ4b R4b o4b g4b z4b
    have hX5 := hK5.cell
    go_wp2_with fail
    refine (bP r _ w1.heap.size ⟨To, Tl, Tm, Td, P⟩ A2 c2 _ R5 (by omega) o5 (by omega) (by omega) t1 t2 t3' t4).mono ?_
    rintro e w6 ⟨⟨U, A3, c3, rfl, hU, o6⟩, R6, b6⟩
    have hZ6 := hZ5.zJ b6 (by omega) (by omega)
    have g6 := g5.trans (b6.mono (by omega))
    have hFZ := hZ6.free
    have hYZ := hZ6.cell
    obtain ⟨Uo, Ul, Um, Ud, P2⟩ := U
    simp only at o6
    clear b6 hZ5 hK5 g5 o5 R5 hX5
    go_wp2
    have Q := (wO hZ6 ⟨Uo, Ul, Um, Ud, P2⟩ A3 c3).cell
    have gQ := uy g6 (b := w.heap.size) (Nat.le_refl _) ⟨Uo, Ul, Um, Ud, P2⟩ A3 c3
    exact bodyPost_ret (v := .tuple #[Sto.V ⟨Uo, Ul, Um, Ud, P2⟩ A3 c3, sv n]) (by simp [results, Tryz.results34, go_sem, Q]) rfl ⟨⟨⟨Uo, Ul, Um, Ud, P2⟩, A3, c3, n, rfl, hU, hnl, zF (uQ o6 (b := w.heap.size) (by omega) ⟨Uo, Ul, Um, Ud, P2⟩ A3 c3) (by omega)⟩, gQ.below (by omega)⟩
def Ox (w : World) (e : Ending) (w' : World) : Prop := (∃ T A cap, ∃ n : Bs, ∃ f t : Int, e = .returned (.tuple #[Sto.V T A cap, sv n, .int .i64 f, .int .i64 t]) ∧ oO T ∧ n.length ≤ 7000 ∧ (-9223372036854775808 ≤ f ∧ f ≤ 9223372036854775807 ∧ -9223372036854775808 ≤ t ∧ t ≤ 9223372036854775807) ∧ w'.ownsRow w.heap.size 40 2 (.slice A T.fs.length cap) T.fs.length (yf T.fs)) ∧ Below w.heap.size w w'
theorem iC (bs : Bs) (A : Option Addr) (cap : Nat) (w : World) (hs : Sl w A bs.length cap 1 (bs.map u8v)) :
    Calls Tryz.prog 9 #[.slice A bs.length cap] w (Ox w) := by
  have cD := fun w h => aJ bs A cap w h
  unfold DrF at cD
  unfold Ox
  go_enter Tryz.func9, Tryz.ntmps9
  have hZ0 := Bk.new w xg 27
  have gz : Below w.heap.size w (w.alloc (.cells xg 27)) := zG
  have hs0 := hs.below gz
  go_upto_region 1 with (fail)
  generalize w.alloc (.cells xg 27) = w0 at *
  have z0 := hZ0.lt
  go_wp2_with fail
  refine (cD _ hs0).mono ?_
  rintro e w1 ⟨⟨U, A3, c3, n, rfl, hU, hn, o1⟩, b1⟩
  have z1 := b1.size
  have hZ1 := hZ0.below b1 z0
  have g1 := gz.trans (b1.mono (by omega))
  have hs1 := hs0.below b1
  obtain ⟨hU1, hU2, hU3⟩ := hU
  have cF := fun A cap w h => gB U n A cap w h (by omega) (by omega) (fun f hf => by have := hU3 f hf; omega)
  have hFL : ∀ X, U.file n = some X → X.length ≤ 7000 := fun X hX => by
    unfold Sto.file at hX
    split at hX
    · cases hi : xP U.fs n with
      | none => rw [hi] at hX; cases hX
      | some i =>
        rw [hi, Option.bind_some, List.getElem?_eq_getElem (vw hi)] at hX
        injection hX with hX
        rw [← hX]
        exact (hU3 _ (List.getElem_mem _)).2
    · cases hX
  have HFL : Hid (((U.file n).getD []).length ≤ 7000) := by
    show _ ≤ _
    cases h : U.file n with
    | none => simp
    | some X => exact hFL X h
  have HU : Hid (oO U) := ⟨hU1, hU2, hU3⟩
  clear hFL hU3
  generalize hY : U.file n = Y at *
  clear hY
  obtain ⟨Uo, Ul, Um, Ud, P⟩ := U
  simp only at hU1 hU2 o1
  have hrow : ∀ k, (Value.slice A3 P.length c3).ownBlock = some k → k < w1.heap.size := fun k hk => (o1.lt k hk).2
  have hK2 := Bk.new w1 #[.int .i64 Uo, .int .i64 Ul, .int .i64 Um, .string ⟨Ud.toArray⟩, .slice A3 P.length c3] 27
  have hZ2 := hZ1.alloc (.cells #[.int .i64 Uo, .int .i64 Ul, .int .i64 Um, .string ⟨Ud.toArray⟩, .slice A3 P.length c3] 27)
  have hs2 := hs1.alloc (.cells #[.int .i64 Uo, .int .i64 Ul, .int .i64 Um, .string ⟨Ud.toArray⟩, .slice A3 P.length c3] 27)
  have o2 := World.ownsRow.alloc o1 (.cells #[.int .i64 Uo, .int .i64 Ul, .int .i64 Um, .string ⟨Ud.toArray⟩, .slice A3 P.length c3] 27)
  have g2 := g1.alloc (by omega) (.cells #[.int .i64 Uo, .int .i64 Ul, .int .i64 Um, .string ⟨Ud.toArray⟩, .slice A3 P.length c3] 27)
  clear b1 hZ0 hs0 gz cD hs hs1 hZ1 o1 g1
  go_upto_region 2 with (fail)
  generalize w1.alloc (.cells #[.int .i64 Uo, .int .i64 Ul, .int .i64 Um, .string ⟨Ud.toArray⟩, .slice A3 P.length c3] 27) = w2 at *
  have l2 := hK2.lt
  have z2 := g2.size
  generalize w1.heap.size = bb at *
  go_wp2_with fail
  refine (ak bs A cap _ hs2).mono ?_
  rintro e w3 ⟨rfl, R3, b3⟩
  have z3 := b3.size
  have hK3 := hK2.below b3 l2
  have hZ3 := hZ2.below b3 (by omega)
  have o3 := zf o2 b3
  have g3 := g2.trans (b3.mono (by omega))
  clear b3 hK2 hZ2 o2 g2 hs2
  generalize hr0 : w2.heap.size = r at *
  have hrl := R3.lt
  have s3 := Sl.own o3
  have hX3 := hK3.cell
  go_wp2_with fail
  refine (cF _ _ _ s3).mono ?_
  rintro e w4 ⟨rfl, b4⟩
  have z4 := b4.size
  have hK4 := hK3.below b4 (by omega)
  have hZ4 := hZ3.below b4 (by omega)
  have o4 := zf o3 b4
  have R4 := R3.keep b4
  have g4 := g3.trans (b4.mono (by omega))
  clear b4 hK3 hZ3 o3 g3 R3 s3 hX3 cF
  have hYL := HFL.out
  unfold yl
  generalize Y.getD [] = X at *
  generalize Y.isSome = yb at *
  go_wp2_with fail
  refine (kE X _ (by omega)).mono ?_
  rintro e w5 ⟨⟨c, rfl, hc1, hc2⟩, b5⟩
  have z5 := b5.size
  have hK5 := hK4.below b5 (by omega)
  have hZ5 := hZ4.below b5 (by omega)
  have o5 := zf o4 b5
  have R5 := R4.keep b5
  have g5 := g4.trans (b5.mono (by omega))
  clear b5 hK4 hZ4 o4 g4 R4
  go_wp2_with fail
  refine (Xw r _ c _ R5 (by omega) hc1 hc2).mono ?_
  rintro e w6 ⟨⟨f, t, rfl, hf1, hf2, ht1, ht2⟩, R6, b6⟩
  have z6 := b6.size
  have hK6 := hK5.zJ b6 (by omega) (by omega)
  have hZ6 := hZ5.zJ b6 (by omega) (by omega)
  have o6 : w6.ownsRow w0.heap.size 40 2 (.slice A3 P.length c3) P.length (yf P) := WQ o5 b6 (fun k hk => by have := hrow k hk; omega)
  have g6 : Below w.heap.size w w6 := (yG g5 r).trans (b6.mono (by omega)) |>.below (by omega)
  have hXK := hK6.cell
  have hFZ := hZ6.free
  have hYZ := hZ6.cell
  clear b6 hK5 hZ5 o5 g5 R5
  go_wp2
  have Q := (wO hZ6 ⟨Uo, Ul, Um, Ud, P⟩ A3 c3).cell
  have gQ := xJ g6 (b := w.heap.size) (Nat.le_refl _) ⟨Uo, Ul, Um, Ud, P⟩ A3 c3
  exact bodyPost_ret (v := .tuple #[Sto.V ⟨Uo, Ul, Um, Ud, P⟩ A3 c3, sv n, .int .i64 f, .int .i64 t]) (by simp [results, Tryz.results9, go_sem, Q]) rfl ⟨⟨⟨Uo, Ul, Um, Ud, P⟩, A3, c3, n, f, t, rfl, HU.out, hn, ⟨hf1, hf2, ht1, ht2⟩, zF (uQ o6 (b := w.heap.size) (by omega) ⟨Uo, Ul, Um, Ud, P⟩ A3 c3) (by omega)⟩, gQ⟩
theorem Xr (a b n : Int) (w : World) :
  Calls Tryz.prog 14 #[.int .i64 a, .int .i64 b, .int .i64 n] w fun e w' => e = .returned (.bool (decide (0 ≤ a ∧ a ≤ b ∧ b ≤ n))) ∧ w = w' := by
 by_cases h1 : 0 ≤ a
 ·by_cases h2 : a ≤ b
  ·by_cases h3 : b ≤ n
   ·have hd : decide (0 ≤ a ∧ a ≤ b ∧ b ≤ n) = true := by simp; omega
    rw [hd]
    clear hd
    go_enter Tryz.func14, Tryz.ntmps14
    go_wp2
    go_ret
    exact ⟨rfl, rfl⟩
   ·have hd : decide (0 ≤ a ∧ a ≤ b ∧ b ≤ n) = false := by simp; omega
    rw [hd]
    clear hd
    go_enter Tryz.func14, Tryz.ntmps14
    go_wp2
    go_ret
    exact ⟨rfl, rfl⟩
  ·have hd : decide (0 ≤ a ∧ a ≤ b ∧ b ≤ n) = false := by simp; omega
   rw [hd]
   clear hd
   go_enter Tryz.func14, Tryz.ntmps14
   go_wp2
   go_ret
   exact ⟨rfl, rfl⟩
 ·have hd : decide (0 ≤ a ∧ a ≤ b ∧ b ≤ n) = false := by simp; omega
  rw [hd]
  clear hd
  go_enter Tryz.func14, Tryz.ntmps14
  go_wp2
  go_ret
  exact ⟨rfl, rfl⟩
theorem XH (o l m : Int) (dict t : Bs) (w : World) (hdl : dict.length ≤ 9223372036854775807) (htl : t.length ≤ 1500000) :
  Calls Tryz.prog 13 #[.agg #[.int .i64 o, .int .i64 l, .int .i64 m], sv dict, sv t] w fun e w' => e = .returned (sv ((cdB o l m dict t).getD [])) ∧ Below w.heap.size w w' := by
 have cD := fun w => uD o l m dict t w hdl htl
 unfold yl at cD
 generalize cdB o l m dict t = O at *
 go_enter Tryz.func13, Tryz.ntmps13
 have hK0 : Bk (w.alloc (.cells #[.int .i64 o, .int .i64 l, .int .i64 m] 24)) w.heap.size 24 #[.int .i64 o, .int .i64 l, .int .i64 m] := tBk
 have g0 : Below w.heap.size w (w.alloc (.cells #[.int .i64 o, .int .i64 l, .int .i64 m] 24)) := zG
 go_upto_region 1 with (fail)
 generalize w.alloc (.cells #[.int .i64 o, .int .i64 l, .int .i64 m] 24) = w0 at *
 have hX0 := hK0.cell
 have hz0 := hK0.lt
 go_wp2_with fail
 refine (cD _).mono ?_
 rintro e w1 ⟨rfl, hb1⟩
 have g1 := g0.trans (hb1.mono (by omega))
 go_wp2
 go_ret
 exact ⟨rfl, g1⟩
theorem PG {S : Sto} {n : Bs} {a b : Int} (h : S.file n = none) : S.rd n a b = none := by unfold Sto.rd; rw [h]; rfl
theorem rd_some {S : Sto} {n X : Bs} {a b : Int} (h : S.file n = some X) : ∃ d, cdB S.o S.l S.m S.dict X = some d ∧ S.rd n a b = YQ d a b := by
  have hX : (cdB S.o S.l S.m S.dict X).isSome = true := by
    unfold Sto.file at h
    split at h
    · rename_i hok
      cases hi : xP S.fs n with
      | none => rw [hi] at h; cases h
      | some i =>
        rw [hi, Option.bind_some, List.getElem?_eq_getElem (vw hi)] at h
        injection h with h
        rw [← h]
        exact (hok.2.2 i (vw hi)).2.1
    · cases h
  obtain ⟨d, hd⟩ := Option.isSome_iff_exists.1 hX
  refine ⟨d, hd, ?_⟩
  unfold Sto.rd
  rw [h, Option.bind_some]
  unfold rrB
  rw [hd, Option.bind_some]
theorem ji {S : Sto} {n X : Bs} (h : S.file n = some X) : X.length ≤ 3000 := by
  unfold Sto.file at h
  split at h
  · rename_i hok
    cases hi : xP S.fs n with
    | none => rw [hi] at h; cases h
    | some i =>
      rw [hi, Option.bind_some, List.getElem?_eq_getElem (vw hi)] at h
      injection h with h
      rw [← h]
      have := eH (hok.2.2 i (vw hi)).2.1
      show (S.fs[i]'(vw hi)).2.length ≤ 3000
      omega
  · cases h
theorem Yp (bs : Bs) (A : Option Addr) (cap : Nat) (w : World) (hs : Sl w A bs.length cap 1 (bs.map u8v)) :
    Calls Tryz.prog 3 #[.slice A bs.length cap] w fun e w' => e = .returned (.bool true) ∧ Below w.heap.size w w' := by
  have cD := fun w h => iC bs A cap w h
  unfold Ox at cD
  go_enter Tryz.func3, Tryz.ntmps3
  by_cases hl0 : 1048576 < bs.length
  · have hli : (1048576 : Int) < bs.length := by omega
    go_wp2
    go_ret
    exact ⟨rfl, Below.refl _ _⟩
  have hli0 : ¬ (1048576 : Int) < bs.length := by omega
  go_wp2_with fail
  refine (cD _ hs).mono ?_
  rintro e w1 ⟨⟨T, A1, c1, n, f, t, rfl, ⟨hT1, hT2, hT3⟩, hn, ⟨hf1, hf2, ht1, ht2⟩, o1⟩, b1⟩
  have z1 := b1.size
  have cP := fun A cap w h => YL T n f t A cap w h (by omega) (by omega) (fun f hf => by have := hT3 f hf; omega)
  have cQ := fun A cap w h => Zc T n f t A cap w h (by omega) (by omega) (fun f hf => by have := hT3 f hf; omega)
  have cF := fun A cap w h => bM T n A cap w h (by omega) (by omega) (fun f hf => by have := hT3 f hf; omega)
  have HNO : Hid (T.file n = none → T.rd n f t = none) := fun h => PG h
  have HYE : Hid (∀ X, T.file n = some X → X.length ≤ 3000 ∧ ∃ d, cdB T.o T.l T.m T.dict X = some d ∧ T.rd n f t = YQ d f t) := fun X h => ⟨ji h, rd_some h⟩
  clear hs cD hl0 hT3
  generalize T.file n = Y at *
  obtain ⟨R, hR⟩ : ∃ R, T.rd n f t = R := ⟨_, rfl⟩
  rw [hR] at HNO HYE
  rw [hR] at cP cQ
  clear hR
  obtain ⟨To, Tl, Tm, Td, P⟩ := T
  simp only at hT1 hT2 o1 HYE cP cQ cF
  have hK2 := Bk.new w1 #[.int .i64 To, .int .i64 Tl, .int .i64 Tm, .string ⟨Td.toArray⟩, .slice A1 P.length c1] 27
  have o2 := World.ownsRow.alloc o1 (.cells #[.int .i64 To, .int .i64 Tl, .int .i64 Tm, .string ⟨Td.toArray⟩, .slice A1 P.length c1] 27)
  have g2 := b1.alloc (by omega) (.cells #[.int .i64 To, .int .i64 Tl, .int .i64 Tm, .string ⟨Td.toArray⟩, .slice A1 P.length c1] 27)
  clear b1 o1
  go_upto_region 4 with (fail)
  generalize w1.alloc (.cells #[.int .i64 To, .int .i64 Tl, .int .i64 Tm, .string ⟨Td.toArray⟩, .slice A1 P.length c1] 27) = w2 at *
  have l2 := hK2.lt
  have z2 := g2.size
  generalize w1.heap.size = bb at *
  have s2 := Sl.own o2
  have hX2 := hK2.cell
  have HD : Hid (∀ wr, Below w2.heap.size w2 wr → Bk wr bb 27 #[.int .i64 To, .int .i64 Tl, .int .i64 Tm, .string ⟨Td.toArray⟩, .slice A1 P.length c1] ∧ Sl wr A1 P.length c1 2 (yf P) ∧ Below w.heap.size w wr) := fun wr h => ⟨hK2.below h l2, s2.below h, g2.trans (h.mono (by omega))⟩
  clear hK2 o2 g2
  go_wp2_with fail
  refine (cP _ _ _ s2).mono ?_
  rintro e w3 ⟨rfl, b3⟩
  have z3 := b3.size
  obtain ⟨hK3, s3, _⟩ := HD.out _ b3
  have hX3 := hK3.cell
  clear hX2 s2 cP
  unfold yl
  go_wp2_with fail
  refine (cQ _ _ _ s3).mono ?_
  rintro e w4 ⟨rfl, b4⟩
  have b4 := b3.trans (b4.mono z3)
  have z4 := b4.size
  obtain ⟨hK4, s4, _⟩ := HD.out _ b4
  have hX4 := hK4.cell
  clear hX3 s3 cQ b3 hK3
  unfold yl
  have htb : (R.isSome != R.isSome) = false := by simp
  have htd : (R.getD [] != R.getD []) = false := by simp
  obtain ⟨Rb, hRb⟩ : ∃ b, R.isSome = b := ⟨_, rfl⟩
  obtain ⟨Rd', hRd⟩ : ∃ b, R.getD [] = b := ⟨_, rfl⟩
  have HRB := Go.Lib.hid hRb
  have HRD := Go.Lib.hid hRd
  rw [hRb] at htb ⊢
  rw [hRd] at htd ⊢
  clear hRb hRd
  go_wp2_with fail
  refine (cF _ _ _ s4).mono ?_
  rintro e w5 ⟨rfl, b5⟩
  have b5 := b4.trans (b5.mono z4)
  have z5 := b5.size
  obtain ⟨hK5, s5, g5⟩ := HD.out _ b5
  have hX5 := hK5.cell
  clear hX4 s4 cF b4 hK4
  unfold yl
  cases Y with
  | none =>
    have hR := HNO.out rfl
    subst hR
    have hb : false = Rb := HRB.out
    subst hb
    simp only [Option.getD_none, Option.isSome_none]
    go_wp2
    go_ret
    exact ⟨rfl, g5⟩
  | some X =>
    obtain ⟨hXl, d, hd, hrd⟩ := HYE.out X rfl
    have cS := fun w => XH To Tl Tm Td X w (by omega) (by omega)
    rw [hd] at cS
    simp only [Option.getD_some, Option.isSome_some] at cS ⊢
    clear HNO HYE hd
    go_wp2_with fail
    refine (cS _).mono ?_
    rintro e w6 ⟨rfl, b6⟩
    have b6 := b5.trans (b6.mono z5)
    have g6 := (HD.out _ b6).2.2
    go_wp2_with fail
    refine (Xr f t d.length _).mono ?_
    rintro e w' ⟨rfl, rfl⟩
    by_cases hr : 0 ≤ f ∧ f ≤ t ∧ t ≤ d.length
    · rw [decide_eq_true hr]
      unfold YQ at hrd
      rw [if_pos hr] at hrd
      have hb : Rb = true := by rw [← HRB.out, hrd]; rfl
      have hv : Rd' = (d.drop f.toNat).take (t.toNat - f.toNat) := by rw [← HRD.out, hrd]; rfl
      obtain ⟨hr1, hr2, hr3⟩ := hr
      obtain ⟨fn, rfl⟩ := Int.eq_ofNat_of_zero_le hr1
      obtain ⟨tn, rfl⟩ := Int.eq_ofNat_of_zero_le (by omega : 0 ≤ t)
      simp only [Int.toNat_natCast] at hv
      have hq1 : fn ≤ tn := by omega
      have hq2 : tn ≤ d.length := by omega
      have HV := Go.Lib.hid hv
      subst hb
      clear hrd hv
      go_wp2
      go_ret
      exact ⟨by rw [decide_eq_true HV.out]; rfl, g6⟩
    · rw [decide_eq_false hr]
      unfold YQ at hrd
      rw [if_neg hr] at hrd
      have hb : Rb = false := by rw [← HRB.out, hrd]; rfl
      subst hb
      clear hrd hr
      go_wp2
      go_ret
      exact ⟨rfl, g6⟩
end Go.Proofs.YtinncdollpajkaaGreat
