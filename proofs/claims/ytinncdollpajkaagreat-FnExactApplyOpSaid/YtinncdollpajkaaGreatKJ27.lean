import Derived.Test.YtinncdollpajkaaGreatKJ26
import Derived.Test.YtinncdollpajkaaGreatKGU3
import Derived.Deep.Cut
set_option linter.unusedVariables false
set_option linter.unusedSimpArgs false
set_option maxHeartbeats 8000000
namespace Go.Proofs.YtinncdollpajkaaGreat
open Go.RowKit
set_option maxRecDepth 100000
attribute [local go_sem high] zy zx zu zS zK yc zA zk zl zq zi zo yO zF yl zD
theorem jH (bs : List Blk) : ∀ u ∈ zO bs, u.oneCell' = true := by
 intro u hu
 unfold zO at hu
 obtain ⟨b, _, hb⟩ := List.mem_flatMap.1 hu
 simp only [bkL, List.mem_cons, List.not_mem_nil, or_false] at hb
 rcases hb with rfl | rfl | rfl | rfl <;> rfl
def YJ (K : Kn) (bs : List Blk) (w : World) (e : Ending) (w' : World) : Prop := ∃ A1 c1 A2 c2, e = .returned (.tuple #[knV K A1 c1, .slice A2 bs.length c2, .bool true]) ∧ w'.ownsRow w.heap.size 189 2 (.slice A1 K.ps.length c1) K.ps.length (psV K.ps) ∧ w'.ownsRow w.heap.size 138 4 (.slice A2 bs.length c2) bs.length (zO bs) ∧ Below w.heap.size w w'
theorem qi (o l m : Int) (dict t : Bs) (bs : List Blk) (w : World) (hf : fits o l m dict) (hB : zM t = some bs) (htl : t.length ≤ 1500000) :
  Calls Tryz.prog 154 #[.agg #[.int .i64 o, .int .i64 l, .int .i64 m], sv dict, sv t] w (YJ (zt o l m dict) bs w) := by
 have cS := fun w => uF o l m dict w hf
 have cB := fun w => vS t w htl
 unfold pF at cB
 rw [hB] at cB
 simp only [Option.elim_some, Option.isSome_some, Option.getD_some] at cB
 unfold pM at cS
 unfold YJ
 clear hf hB
 generalize zt o l m dict = K at *
 go_enter Tryz.func154, Tryz.ntmps154
 have hJ : Bk ((w.alloc (.cells #[.int .i64 o, .int .i64 l, .int .i64 m] 24)).alloc (.cells knZ 102)) w.heap.size 24 #[.int .i64 o, .int .i64 l, .int .i64 m] := tBk
 have hI : Bk ((w.alloc (.cells #[.int .i64 o, .int .i64 l, .int .i64 m] 24)).alloc (.cells knZ 102)) (w.heap.size + 1) 102 knZ := tBk
 have g0 : Below w.heap.size w ((w.alloc (.cells #[.int .i64 o, .int .i64 l, .int .i64 m] 24)).alloc (.cells knZ 102)) := zG
 go_wp2_with fail
 generalize (w.alloc (.cells #[.int .i64 o, .int .i64 l, .int .i64 m] 24)).alloc (.cells knZ 102) = w0 at *
 refine (cS _).mono ?_
 rintro e w1 ⟨A1, c1, rfl, o1, b1⟩
 have z0 := hI.lt
 have z1 := b1.size
 have g1 := g0.trans (b1.mono (by omega))
 have hI1 := hI.below b1 (by omega)
 have hI2 := hI1.alloc (.cells (knC K A1 c1) 102)
 have hB2 := Bk.new w1 (knC K A1 c1) 102
 have o2 := o1.alloc (.cells (knC K A1 c1) 102)
 have g2 := g1.alloc (by omega) (.cells (knC K A1 c1) 102)
 clear b1 hI hJ g0 o1 g1 hI1 cS
 go_upto_region 4 with (fail)
 unfold knC at hB2 o2 g2 hI2
 generalize w1.alloc (.cells #[.int .i64 K.o, .int .i64 K.l, .int .i64 K.m, .slice A1 K.ps.length c1, .int .i64 K.base, .int .i64 K.last] 102) = W at *
 have hl2 := hB2.lt
 have zg2 := g2.size
 go_wp2_with fail
 refine (cB _).mono ?_
 rintro e w3 ⟨A3, c3, rfl, o3, b3⟩
 have z3 := b3.size
 have g3 := g2.trans (b3.mono (by omega))
 have hI3 := hI2.below b3 (by omega)
 have hB3 := hB2.below b3 hl2
 have o4 := zf o2 b3
 have hX3 := hB3.cell
 have hF := hI3.free
 have hY := hI3.cell
 clear b3 hI2 hB2 o2 g2 cB
 go_wp2
 have hQ := (xZ hI3 K A1 c1).cell
 have g5 := yh g3 (b := w.heap.size + 1) (by omega) K A1 c1
 have o5 := zC (B' := w.heap.size) (yt o4 (b := w.heap.size + 1) (by omega) K A1 c1) (by omega)
 have o6 := zC (B' := w.heap.size) (yt o3 (b := w.heap.size + 1) (by omega) K A1 c1) (by omega)
 exact bodyPost_ret (v := .tuple #[knV K A1 c1, .slice A3 bs.length c3, .bool true]) (by simp [results, Tryz.results154, go_sem, hQ]) rfl ⟨A1, c1, A3, c3, rfl, o5, o6, g5⟩
theorem qP (o l m : Int) (dict t : Bs) (w : World) (h : ¬ (fits o l m dict ∧ (zM t).isSome = true)) (hdl : dict.length ≤ 9223372036854775807) (htl : t.length ≤ 1500000) :
  Calls Tryz.prog 154 #[.agg #[.int .i64 o, .int .i64 l, .int .i64 m], sv dict, sv t] w fun e w' => e = .returned (.tuple #[iR, .slice none 0 0, .bool false]) ∧ Below w.heap.size w w' := by
 by_cases hf : fits o l m dict
 ·have hB : zM t = none := by
   cases hb : zM t with
   | none => rfl
   | some bs => exact absurd ⟨hf, by rw [hb]; rfl⟩ h
  have cS := fun w => uF o l m dict w hf
  have cB := fun w => vS t w htl
  unfold pF at cB
  rw [hB] at cB
  simp only [Option.elim_none, Option.isSome_none, Option.getD_none] at cB
  unfold pM at cS
  clear hf hB h
  generalize zt o l m dict = K at *
  go_enter Tryz.func154, Tryz.ntmps154
  have hJ : Bk ((w.alloc (.cells #[.int .i64 o, .int .i64 l, .int .i64 m] 24)).alloc (.cells knZ 102)) w.heap.size 24 #[.int .i64 o, .int .i64 l, .int .i64 m] := tBk
  have hI : Bk ((w.alloc (.cells #[.int .i64 o, .int .i64 l, .int .i64 m] 24)).alloc (.cells knZ 102)) (w.heap.size + 1) 102 knZ := tBk
  have g0 : Below w.heap.size w ((w.alloc (.cells #[.int .i64 o, .int .i64 l, .int .i64 m] 24)).alloc (.cells knZ 102)) := zG
  go_wp2_with fail
  generalize (w.alloc (.cells #[.int .i64 o, .int .i64 l, .int .i64 m] 24)).alloc (.cells knZ 102) = w0 at *
  refine (cS _).mono ?_
  rintro e w1 ⟨A1, c1, rfl, o1, b1⟩
  have z0 := hI.lt
  have z1 := b1.size
  have g1 := g0.trans (b1.mono (by omega))
  have hI1 := hI.below b1 (by omega)
  have hI2 := hI1.alloc (.cells (knC K A1 c1) 102)
  have g2 := g1.alloc (by omega) (.cells (knC K A1 c1) 102)
  clear b1 hI hJ g0 o1 g1 hI1 cS
  go_upto_region 4 with (fail)
  unfold knC at g2 hI2
  generalize w1.alloc (.cells #[.int .i64 K.o, .int .i64 K.l, .int .i64 K.m, .slice A1 K.ps.length c1, .int .i64 K.base, .int .i64 K.last] 102) = W at *
  have hl2 := hI2.lt
  have zg2 := g2.size
  go_wp2_with fail
  refine (cB _).mono ?_
  rintro e w3 ⟨A3, c3, rfl, o3, b3⟩
  have z3 := b3.size
  have g3 := g2.trans (b3.mono (by omega))
  have hI3 := hI2.below b3 (by omega)
  have hF := hI3.free
  have hY := hI3.cell
  clear b3 hI2 o3 g2 cB
  go_wp2
  have hQ := (xZ hI3 ⟨0, 0, 0, [], 0, 0⟩ none 0).cell
  have g5 := yh g3 (b := w.heap.size + 1) (by omega) ⟨0, 0, 0, [], 0, 0⟩ none 0
  simp only [List.length_nil] at hQ g5
  exact bodyPost_ret (v := .tuple #[iR, .slice none 0 0, .bool false]) (by simp [results, Tryz.results154, go_sem, hQ]) rfl ⟨rfl, g5⟩
 ·have cS := fun w => qm o l m dict w hf hdl
  clear hf h
  go_enter Tryz.func154, Tryz.ntmps154
  have hJ : Bk ((w.alloc (.cells #[.int .i64 o, .int .i64 l, .int .i64 m] 24)).alloc (.cells knZ 102)) w.heap.size 24 #[.int .i64 o, .int .i64 l, .int .i64 m] := tBk
  have hI : Bk ((w.alloc (.cells #[.int .i64 o, .int .i64 l, .int .i64 m] 24)).alloc (.cells knZ 102)) (w.heap.size + 1) 102 knZ := tBk
  have g0 : Below w.heap.size w ((w.alloc (.cells #[.int .i64 o, .int .i64 l, .int .i64 m] 24)).alloc (.cells knZ 102)) := zG
  go_wp2_with fail
  generalize (w.alloc (.cells #[.int .i64 o, .int .i64 l, .int .i64 m] 24)).alloc (.cells knZ 102) = w0 at *
  refine (cS _).mono ?_
  rintro e w1 ⟨rfl, b1⟩
  have z0 := hI.lt
  have z1 := b1.size
  have g1 := g0.trans (b1.mono (by omega))
  have hI1 := hI.below b1 (by omega)
  have hI2 := hI1.alloc (.cells knZ 102)
  have g2 := g1.alloc (by omega) (.cells knZ 102)
  clear b1 hI hJ g0 g1 hI1 cS
  go_upto_region 3 with (fail)
  generalize w1.alloc (.cells _ 102) = W at *
  have hF := hI2.free
  have hY := hI2.cell
  go_wp2
  have hQ := (xZ hI2 ⟨0, 0, 0, [], 0, 0⟩ none 0).cell
  have g5 := yh g2 (b := w.heap.size + 1) (by omega) ⟨0, 0, 0, [], 0, 0⟩ none 0
  simp only [List.length_nil] at hQ g5
  exact bodyPost_ret (v := .tuple #[iR, .slice none 0 0, .bool false]) (by simp [results, Tryz.results154, go_sem, hQ]) rfl ⟨rfl, g5⟩
def NwR (O : Option (List Blk)) (w : World) (e : Ending) (w' : World) : Prop := ∃ A cap, e = .returned (.tuple #[.slice A (O.getD []).length cap, .bool O.isSome]) ∧ w'.ownsRow w.heap.size 138 4 (.slice A (O.getD []).length cap) (O.getD []).length (zO (O.getD [])) ∧ Below w.heap.size w w'
theorem lh (K : Kn) (A : Option Addr) (cap : Nat) (d : Bs) (size : Int) (w : World) (hk : K.ok) (hs : Sl w A K.ps.length cap 2 (psV K.ps)) (hd : d.length ≤ 9223372036854775807) (hs0 : -1000000 ≤ size) (hs1 : size ≤ 1000000) :
  Calls Tryz.prog 155 #[knV K A cap, sv d, .int .i64 size] w (NwR (nwO K d size) w) := by
 have HN : Hid (¬ (1 ≤ size ∧ size ≤ 64 ∧ d.length ≤ 2000 ∧ (d.length : Int) ≤ size * 40) → nwO K d size = none) := fun h => by unfold nwO; rw [if_neg h]
 have HY : Hid (∀ n : Nat, size = n → 1 ≤ n → n ≤ 64 → d.length ≤ 2000 → d.length ≤ n * 40 → nwO K d size = some (mks K n d.length d)) := fun n h0 ha hb hc he => by unfold nwO; rw [if_pos ⟨by omega, by omega, hc, by omega⟩, h0, Int.toNat_natCast]
 unfold NwR
 generalize nwO K d size = R at *
 have hdi : ∀ b, decide (1 ≤ size ∧ size ≤ 64) = b → decide (1 ≤ size ∧ size ≤ 64) = b := fun _ h => h
 by_cases h2 : 1 ≤ size ∧ size ≤ 64
 case neg =>
  have hE := HN.out (fun h => h2 ⟨h.1, h.2.1⟩)
  subst hE
  have hd2 := decide_eq_false h2
  clear HN HY h2 hdi
  go_enter Tryz.func155, Tryz.ntmps155
  have hK0 : Bk (w.alloc (.cells (knC K A cap) 102)) w.heap.size 102 (knC K A cap) := tBk
  have g0 : Below w.heap.size w (w.alloc (.cells (knC K A cap) 102)) := zG
  go_upto_region 1 with (fail)
  generalize w.alloc (.cells (knC K A cap) 102) = w0 at *
  go_wp2_with fail
  refine (yY _ _).mono ?_
  rintro e w' ⟨rfl, rfl⟩
  rw [hd2]
  go_wp2
  exact bodyPost_ret (v := .tuple #[.slice none 0 0, .bool false]) (by simp [results, Tryz.results155, go_sem]) rfl ⟨none, 0, rfl, ⟨by simp [zO], .inl ⟨rfl, rfl⟩⟩, g0⟩
 have hd2 := decide_eq_true h2
 obtain ⟨h2a, h2b⟩ := h2
 obtain ⟨n, rfl⟩ := Int.eq_ofNat_of_zero_le (by omega : 0 ≤ size)
 by_cases h3 : d.length ≤ 2000 ∧ d.length ≤ n * 40
 case neg =>
  have hE := HN.out (fun h => h3 ⟨h.2.2.1, by omega⟩)
  subst hE
  have h5 : ¬ (2000 : Int) < d.length → (40 : Int) * (n : Int) < d.length := fun _ => by omega
  clear HN HY hdi
  go_enter Tryz.func155, Tryz.ntmps155
  have hK0 : Bk (w.alloc (.cells (knC K A cap) 102)) w.heap.size 102 (knC K A cap) := tBk
  have g0 : Below w.heap.size w (w.alloc (.cells (knC K A cap) 102)) := zG
  go_upto_region 1 with (fail)
  generalize w.alloc (.cells (knC K A cap) 102) = w0 at *
  by_cases h6 : (2000 : Int) < d.length
  ·clear h5
   go_wp2_with fail
   refine (yY _ _).mono ?_
   rintro e w' ⟨rfl, rfl⟩
   rw [hd2]
   go_wp2
   exact bodyPost_ret (v := .tuple #[.slice none 0 0, .bool false]) (by simp [results, Tryz.results155, go_sem]) rfl ⟨none, 0, rfl, ⟨by simp [zO], .inl ⟨rfl, rfl⟩⟩, g0⟩
  ·have h7 := h5 h6
   clear h5
   go_wp2_with fail
   refine (yY _ _).mono ?_
   rintro e w' ⟨rfl, rfl⟩
   rw [hd2]
   go_wp2
   exact bodyPost_ret (v := .tuple #[.slice none 0 0, .bool false]) (by simp [results, Tryz.results155, go_sem]) rfl ⟨none, 0, rfl, ⟨by simp [zO], .inl ⟨rfl, rfl⟩⟩, g0⟩
 obtain ⟨h3a, h3b⟩ := h3
 have hE := HY.out n rfl (by omega) (by omega) h3a h3b
 subst hE
 have h6 : ¬ (2000 : Int) < d.length := by omega
 have h7 : ¬ (40 : Int) * (n : Int) < d.length := by omega
 have cM : Hid (∀ wr, Below w.heap.size w wr → Calls Tryz.prog 153 #[knV K A cap, sv d, .int .i64 (n : Int)] wr (BkR (mks K n d.length d) wr)) := fun wr h => pY K A cap d n wr hk (hs.below h) (by omega) (by omega) h3a
 unfold BkR at cM
 simp only [Option.getD_some, Option.isSome_some]
 clear HN HY hdi hk hs h3a h3b
 generalize mks K n d.length d = bs at *
 go_enter Tryz.func155, Tryz.ntmps155
 have hK0 : Bk (w.alloc (.cells (knC K A cap) 102)) w.heap.size 102 (knC K A cap) := tBk
 have g0 : Below w.heap.size w (w.alloc (.cells (knC K A cap) 102)) := zG
 go_upto_region 1 with (fail)
 generalize w.alloc (.cells (knC K A cap) 102) = w0 at *
 have hX0 := hK0.cell
 have z0 := g0.size
 go_wp2_with fail
 refine (yY _ _).mono ?_
 rintro e w' ⟨rfl, rfl⟩
 rw [hd2]
 go_wp2_with fail
 refine (cM.out _ g0).mono ?_
 rintro e w3 ⟨A3, c3, rfl, o3, b3⟩
 have g3 := g0.trans (b3.mono (by omega))
 go_wp2
 exact bodyPost_ret (v := .tuple #[.slice A3 bs.length c3, .bool true]) (by simp [results, Tryz.results155, go_sem]) rfl ⟨A3, c3, rfl, zC o3 (by omega), g3⟩
theorem iU (o l m : Int) (dict t d : Bs) (size : Int) (w : World) (hl : dict.length ≤ 9223372036854775807) (htl : t.length ≤ 1500000) (hd : d.length ≤ 9223372036854775807) (hs0 : -1000000 ≤ size) (hs1 : size ≤ 1000000) :
    Calls Tryz.prog 121 #[.agg #[.int .i64 o, .int .i64 l, .int .i64 m], sv dict, sv t, sv d, .int .i64 size] w fun e w' => e = yf (apD o l m dict t d size) ∧ Below w.heap.size w w' := by
  obtain ⟨i, hi, hz0, hz1, hz2⟩ := info_parts xK
  by_cases hfb : fits o l m dict ∧ (zM t).isSome = true
  case neg =>
    have cS := fun w => qP o l m dict t w hfb hl htl
    have hE : apD o l m dict t d size = none := by
      unfold apD
      split
      · rename_i hf
        cases hb : zM t with
        | none => rfl
        | some bs => exact absurd ⟨hf, by rw [hb]; rfl⟩ hfb
      · rfl
    rw [hE]
    unfold yf
    clear hE hfb
    go_enter Tryz.func121, Tryz.ntmps121
    have hK0 : Bk (w.alloc (.cells #[.int .i64 o, .int .i64 l, .int .i64 m] 24)) w.heap.size 24 #[.int .i64 o, .int .i64 l, .int .i64 m] := tBk
    have g0 : Below w.heap.size w (w.alloc (.cells #[.int .i64 o, .int .i64 l, .int .i64 m] 24)) := zG
    go_upto_region 1 with (fail)
    generalize w.alloc (.cells #[.int .i64 o, .int .i64 l, .int .i64 m] 24) = w0 at *
    have hX0 := hK0.cell
    have hz0' := hK0.lt
    go_wp2_with fail
    refine (cS _).mono ?_
    rintro e w1 ⟨rfl, hb1⟩
    have g1 := g0.trans (hb1.mono (by omega))
    have hz1' := g1.size
    go_wp2
    exact bodyPost_ret (v := .tuple #[sv [], .bool false]) (by simp [results, Tryz.results121, go_sem]) rfl ⟨rfl, zG⟩
  obtain ⟨hf, hbs⟩ := hfb
  obtain ⟨bs, hB⟩ := Option.isSome_iff_exists.1 hbs
  have cS := fun w => qi o l m dict t bs w hf hB htl
  unfold YJ at cS
  have hk := xm hf
  have hE : apD o l m dict t d size = (nwO (zt o l m dict) d size).bind fun cs => mcO (bs ++ cs) := by unfold apD; rw [if_pos hf, hB]; rfl
  have cN : Hid (∀ A cap wr, Sl wr A (zt o l m dict).ps.length cap 2 (psV (zt o l m dict).ps) → Calls Tryz.prog 155 #[knV (zt o l m dict) A cap, sv d, .int .i64 size] wr (NwR (nwO (zt o l m dict) d size) wr)) := fun A cap wr h => lh _ A cap d size wr hk h hd hs0 hs1
  unfold NwR at cN
  have hbok := xA hB
  have hb40 := (xh hB).2
  have HC : Hid (∀ cs, nwO (zt o l m dict) d size = some cs → cs.length ≤ 40 ∧ ∀ A cap wr, Sl wr A (bs.length + cs.length) cap 4 (zO bs ++ zO cs) → Calls Tryz.prog 152 #[.slice A (bs.length + cs.length) cap] wr fun e w' => e = yf (mcO (bs ++ cs)) ∧ Below wr.heap.size wr w') := fun cs hcs => by
    have h1 := Z8 hk hcs
    refine ⟨h1.2, fun A cap wr hs => ?_⟩
    have e1 : (bs ++ cs).length = bs.length + cs.length := by simp
    have e2 : zO (bs ++ cs) = zO bs ++ zO cs := by unfold zO; rw [List.flatMap_append]
    rw [← e1]
    rw [← e1, ← e2] at hs
    exact rV (bs ++ cs) A cap wr hs (rf hbok h1.1) (by rw [e1]; omega)
  rw [hE]
  clear hE hf hB hbs hk hbok
  generalize nwO (zt o l m dict) d size = O at *
  generalize zt o l m dict = K at *
  go_enter Tryz.func121, Tryz.ntmps121
  have hK0 : Bk (w.alloc (.cells #[.int .i64 o, .int .i64 l, .int .i64 m] 24)) w.heap.size 24 #[.int .i64 o, .int .i64 l, .int .i64 m] := tBk
  have g0 : Below w.heap.size w (w.alloc (.cells #[.int .i64 o, .int .i64 l, .int .i64 m] 24)) := zG
  go_upto_region 1 with (fail)
  generalize w.alloc (.cells #[.int .i64 o, .int .i64 l, .int .i64 m] 24) = w0 at *
  have hX0 := hK0.cell
  have hl0 := hK0.lt
  go_wp2_with fail
  refine (cS _).mono ?_
  rintro e w1 ⟨A1, c1, A2, c2, rfl, o1, p1, b1⟩
  have z1 := b1.size
  have g1 := g0.trans (b1.mono (by omega))
  have hB2 := Bk.new w1 (knC K A1 c1) 102
  have o2 := o1.alloc (.cells (knC K A1 c1) 102)
  have p2 := p1.alloc (.cells (knC K A1 c1) 102)
  have g2 := g1.alloc (by omega) (.cells (knC K A1 c1) 102)
  clear b1 hX0 hK0 g0 o1 p1 g1 cS
  go_upto_region 2 with (fail)
  unfold knC at hB2 o2 p2 g2
  generalize w1.alloc (.cells #[.int .i64 K.o, .int .i64 K.l, .int .i64 K.m, .slice A1 K.ps.length c1, .int .i64 K.base, .int .i64 K.last] 102) = W at *
  have hl2 := hB2.lt
  have zg2 := g2.size
  have s2 := Sl.own o2
  have hX2 := hB2.cell
  go_wp2_with fail
  refine (cN.out _ _ _ s2).mono ?_
  rintro e w3 ⟨A3, c3, rfl, o3, b3⟩
  have z3 := b3.size
  have g3 := g2.trans (b3.mono (by omega))
  have p3 := zf p2 b3
  have s3 := Sl.own o3
  clear b3 hX2 hB2 g2 o2 s2 p2 o3 cN
  cases O with
  | none =>
    simp only [Option.isSome_none, Option.getD_none, Option.bind_none]
    go_wp2
    exact bodyPost_ret (v := .tuple #[sv [], .bool false]) (by simp [results, Tryz.results121, go_sem]) rfl ⟨rfl, g3⟩
  | some cs =>
    obtain ⟨hc40, cE⟩ := HC.out cs rfl
    have CE := Go.Lib.hid cE
    simp only [Option.isSome_some, Option.getD_some, Option.bind_some] at s3 ⊢
    have hm1 : bs.length + cs.length ≤ maxLen := by unfold maxLen; omega
    have hm2 : (bs.length + cs.length) * 40 ≤ 140737488355328 := by omega
    have h1c : ∀ u ∈ zO cs, u.oneCell' = true := jH cs
    clear HC cE
    go_wp2_with (at_builtin; go_must (refine zL _ rfl _ _ 96 rfl w0.heap.size 138 i _ 4 40 Tryz.underlying96 hi hz0 hz1 hz2 rfl (by omega) _ _ _ rfl p3 _ cs.length c3 (zO cs) rfl s3 h1c hm1 hm2 ?_ ?_))
    · omega
    intro A6 c6 w6 o6 hg6 _
    have g6 := g3.grown hg6 (by omega) (fun k hk => by have := (p3.lt k hk).1; omega)
    have s6 := Sl.own o6
    have z6 := g6.size
    clear p3 s3 o6 hg6 g3
    go_wp2_with fail
    refine (CE.out _ _ _ s6).mono ?_
    rintro e w7 ⟨rfl, b7⟩
    have g7 := g6.trans (b7.mono (by omega))
    unfold yf
    go_wp2
    exact bodyPost_ret (v := .tuple #[sv ((mcO (bs ++ cs)).getD []), .bool (mcO (bs ++ cs)).isSome]) (by simp [results, Tryz.results121, go_sem]) rfl ⟨rfl, g7⟩
end Go.Proofs.YtinncdollpajkaaGreat
