import Derived.Test.YtinncdollpajkaaGreatVS23
import Derived.Test.YtinncdollpajkaaGreatVGW
import Derived.Deep.Cut
set_option linter.unusedVariables false
set_option linter.unusedSimpArgs false
set_option maxHeartbeats 8000000
namespace Go.Proofs.YtinncdollpajkaaGreat
open Go.RowKit
set_option maxRecDepth 100000
attribute [local go_sem high] zA zu zy zO zK zX zx zk zn zq zi zo yQ zC yf zD
def OZ (O : Option (List Blk)) (v : Value) (ok : Bool) (B : Nat) (w' : World) : Prop := (O = none ∧ ok = false) ∨ ∃ P A cap, O = some P ∧ ok = true ∧ v = .slice A P.length cap ∧ w'.ownsRow B 138 4 (.slice A P.length cap) P.length (yD P)
theorem PH.out {O : Option (List Blk)} {w w' : World} {e : Ending} (h : PH O w e w') : ∃ v ok, e = .returned (.tuple #[v, .bool ok]) ∧ Below w.heap.size w w' ∧ OZ O v ok w.heap.size w' := by
 obtain ⟨hb, h⟩ := h
 rcases h with ⟨h1, v, h2⟩ | ⟨P, h1, A, cap, h2, h3⟩
 ·exact ⟨v, false, h2, hb, .inl ⟨h1, rfl⟩⟩
 ·exact ⟨_, true, h2, hb, .inr ⟨P, A, cap, h1, rfl, rfl, h3⟩⟩
theorem TZ {w w' : World} {B n s : Nat} {e : TypeId} {v : Value} {xs : List Value} {row : Option Nat} (h : w.ownsRow B e s v n xs) (hg : w.grownBy w' row) (hne : ∀ k, v.ownBlock = some k → row ≠ some k) : w'.ownsRow B e s v n xs :=
 h.kept hg (by
  cases hv : v.ownBlock with
  | none => exact .inl rfl
  | some k => exact .inr (fun he => hne k hv he.symm))
theorem kV (o l m : Int) (dict t : Bs) (f t2 : Int) (d : Bs) (size : Int) (w : World) (hl : dict.length ≤ 9223372036854775807) (htl : t.length ≤ 1500000) (hd : d.length ≤ 9223372036854775807) (hs0 : -1000000 ≤ size) (hs1 : size ≤ 1000000)
    (hf0 : -9223372036854775808 ≤ f) (hf1 : f ≤ 9223372036854775807) (ht0 : -9223372036854775808 ≤ t2) (ht1 : t2 ≤ 9223372036854775807) :
    Calls Tryz.prog 116 #[.agg #[.int .i64 o, .int .i64 l, .int .i64 m], sv dict, sv t, .int .i64 f, .int .i64 t2, sv d, .int .i64 size] w fun e w' => e = xx (rpD o l m dict t f t2 d size) ∧ Below w.heap.size w w' := by
  obtain ⟨i, hi, hz0, hz1, hz2⟩ := info_parts uo
  have cB := fun w => sN t w htl
  unfold kJ at cB
  have cR := fun w => kN o l m dict size w hl
  have cM := fun w => ax d size w hd hs0 hs1
  have HN : Hid ((zT t = none ∨ ¬ (fits o l m dict ∧ 1 ≤ size ∧ size ≤ 64) ∨ (∀ bs, zT t = some bs → ¬ (0 ≤ f ∧ f ≤ t2 ∧ t2 ≤ zt bs)) ∨ (2000 < d.length ∨ size * 40 < (d.length : Int))) → rpD o l m dict t f t2 d size = none) := fun h => by
    unfold rpD
    by_cases hf : fits o l m dict
    · rw [if_pos hf]
      cases hB : zT t with
      | none => rfl
      | some bs =>
        rw [Option.bind_some]
        split
        · rename_i hr
          rcases h with h | h | h | h
          · rw [hB] at h; cases h
          · unfold nwO; rw [if_neg (fun h2 => h ⟨hf, h2.1, h2.2.1⟩)]; rfl
          · exact absurd hr (h bs hB)
          · unfold nwO; rw [if_neg (fun h2 => by omega)]; rfl
        · rfl
    · rw [if_neg hf]
  have HY : Hid (∀ bs, zT t = some bs → (fits o l m dict ∧ 1 ≤ size ∧ size ≤ 64) → (0 ≤ f ∧ f ≤ t2 ∧ t2 ≤ zt bs) → ¬ (2000 < d.length ∨ size * 40 < (d.length : Int)) → rpD o l m dict t f t2 d size = (vP (zI o l m dict) 0 f 0 bs).bind fun a => (vP (zI o l m dict) t2 (zt bs) 0 bs).bind fun e => mcO (a ++ mks (zI o l m dict) size.toNat d.length d ++ e)) := fun bs h1 h2 hr h3 => by
    unfold rpD nwO
    rw [if_pos h2.1, h1, Option.bind_some, if_pos hr, if_pos ⟨h2.2.1, h2.2.2, by omega, by omega⟩]; rfl
  obtain ⟨R, hR⟩ : ∃ R, rpD o l m dict t f t2 d size = R := ⟨_, rfl⟩
  rw [hR] at HN HY ⊢
  clear hR
  go_enter Tryz.func116, Tryz.ntmps116
  have hK0 : Bk (w.alloc (.cells #[.int .i64 o, .int .i64 l, .int .i64 m] 24)) w.heap.size 24 #[.int .i64 o, .int .i64 l, .int .i64 m] := tBk
  have g0 : Below w.heap.size w (w.alloc (.cells #[.int .i64 o, .int .i64 l, .int .i64 m] 24)) := zH
  go_upto_region 1 with (fail)
  generalize w.alloc (.cells #[.int .i64 o, .int .i64 l, .int .i64 m] 24) = w0 at *
  go_wp2_with fail
  refine (cB _).mono ?_
  rintro e w1 ⟨A1, c1, rfl, o1, b1⟩
  have z0 := g0.size
  have z1 := b1.size
  have hk0 := hK0.lt
  have hK1 := hK0.below b1 hk0
  have g1 := g0.trans (b1.mono (by omega))
  have hX1 := hK1.cell
  have hk1 := hK1.lt
  clear hK0 g0 b1 cB
  cases hB : zT t with
  | none =>
    have h := HN.out (.inl hB)
    subst h
    simp only [hB, Option.elim_none, Option.isSome_none]
    go_wp2
    exact bodyPost_ret (v := .tuple #[sv [], .bool false]) (by simp [results, Tryz.results116, go_sem]) rfl ⟨rfl, g1⟩
  | some bs =>
    have hbok := xQ hB
    have hb40 := (wE hB).2
    rw [hB] at o1
    simp only [hB, Option.elim_some, Option.isSome_some, Option.getD_some] at o1 ⊢
    go_wp2_with fail
    refine (cR _).mono ?_
    rintro e w2 ⟨rfl, b2⟩
    have z2 := b2.size
    have hK2 := hK1.below b2 hk1
    have g2 := g1.trans (b2.mono (by omega))
    have hX2 := hK2.cell
    have o2 := zf o1 b2
    clear hK1 g1 b2 cR hX1 o1
    by_cases hr : fits o l m dict ∧ 1 ≤ size ∧ size ≤ 64
    case neg =>
      have h := HN.out (.inr (.inl hr))
      subst h
      rw [decide_eq_false hr]
      clear hr
      go_wp2
      exact bodyPost_ret (v := .tuple #[sv [], .bool false]) (by simp [results, Tryz.results116, go_sem]) rfl ⟨rfl, g2⟩
    rw [decide_eq_true hr]
    have sb1 := Sl.own o2
    have cZ := kC bs A1 c1 w2 sb1 hbok (by omega)
    have hsz := uQ bs hbok
    have hsz2 := ZZ hB
    go_wp2_with fail
    refine cZ.mono ?_
    rintro e w21 ⟨rfl, b21⟩
    have z21 := b21.size
    have hK21 := hK2.below b21 (by omega)
    have g21 := g2.trans (b21.mono (by omega))
    have hX21 := hK21.cell
    have o21 := zf o2 b21
    clear hK2 g2 b21 hX2 o2 sb1 cZ
    go_wp2_with fail
    refine (iY _ _ _ _).mono ?_
    rintro e w' ⟨rfl, rfl⟩
    by_cases hq : 0 ≤ f ∧ f ≤ t2 ∧ t2 ≤ zt bs
    case neg =>
      have h := HN.out (.inr (.inr (.inl (fun bs' hbs' => by rw [hB] at hbs'; injection hbs' with hbs'; subst hbs'; exact hq))))
      subst h
      rw [decide_eq_false hq]
      clear hr hq
      go_wp2
      exact bodyPost_ret (v := .tuple #[sv [], .bool false]) (by simp [results, Tryz.results116, go_sem]) rfl ⟨rfl, g21⟩
    rw [decide_eq_true hq]
    have hK2 := hK21
    have g2 := g21
    have hX2 := hX21
    have o2 := o21
    clear hK21 g21 hX21 o21
    go_wp2_with fail
    refine (cM _).mono ?_
    rintro e w3 ⟨rfl, b3⟩
    have z3 := b3.size
    have hK3 := hK2.below b3 (by omega)
    have g3 := g2.trans (b3.mono (by omega))
    have hX3 := hK3.cell
    have o3 := zf o2 b3
    clear hK2 g2 b3 cM hX2 o2
    by_cases hm : 2000 < d.length ∨ size * 40 < (d.length : Int)
    case pos =>
      have h := HN.out (.inr (.inr (.inr hm)))
      subst h
      rw [decide_eq_true hm]
      clear hr hm hq
      go_wp2
      exact bodyPost_ret (v := .tuple #[sv [], .bool false]) (by simp [results, Tryz.results116, go_sem]) rfl ⟨rfl, g3⟩
    rw [decide_eq_false hm]
    have h := HY.out bs hB hr hq hm
    obtain ⟨n, rfl⟩ := Int.eq_ofNat_of_zero_le (by omega : 0 ≤ size)
    rw [Int.toNat_natCast] at h
    have hk := x9 hr.1
    have hl2 : (mks (zI o l m dict) n d.length d).length ≤ 40 := by
      unfold mks; rw [List.length_map]; exact rY n (by omega) 40 _ d (by omega)
    have hokm := Yb hk n d.length (by omega) (by omega) d
    have cS := fun w => gW o l m dict d n w hr.1 (by omega) (by omega) (by omega)
    have hU1 := fun x => jk (f := 0) (t := f) hk bs 0 x hbok
    have hU2 := fun x => jk (f := t2) (t := zt bs) hk bs 0 x hbok
    have s3 := Sl.own o3
    have cC : Hid (∀ wr, Below w3.heap.size w3 wr → Calls Tryz.prog 149 #[.agg #[.int .i64 o, .int .i64 l, .int .i64 m], sv dict, .slice A1 bs.length c1, .int .i64 0, .int .i64 f] wr fun e w' => ∃ v ok, e = .returned (.tuple #[v, .bool ok]) ∧ Below wr.heap.size wr w' ∧ OZ (vP (zI o l m dict) 0 f 0 bs) v ok wr.heap.size w') := fun wr hw => (Zt o l m dict bs A1 c1 0 f wr hr.1 (s3.below hw) hbok hb40 (by omega) (by omega) (by omega) (by omega)).mono fun e w' h => h.out
    have cC2 : Hid (∀ wr, Below w3.heap.size w3 wr → Calls Tryz.prog 149 #[.agg #[.int .i64 o, .int .i64 l, .int .i64 m], sv dict, .slice A1 bs.length c1, .int .i64 t2, .int .i64 (zt bs)] wr fun e w' => ∃ v ok, e = .returned (.tuple #[v, .bool ok]) ∧ Below wr.heap.size wr w' ∧ OZ (vP (zI o l m dict) t2 (zt bs) 0 bs) v ok wr.heap.size w') := fun wr hw => (Zt o l m dict bs A1 c1 t2 (zt bs) wr hr.1 (s3.below hw) hbok hb40 (by omega) (by omega) (by omega) (by omega)).mono fun e w' h => h.out
    have cZ2 : Hid (∀ wr, Below w3.heap.size w3 wr → Calls Tryz.prog 72 #[.slice A1 bs.length c1] wr fun e w' => e = .returned (.int .i64 (zt bs)) ∧ Below wr.heap.size wr w') := fun wr hw => kC bs A1 c1 wr (s3.below hw) hbok (by omega)
    generalize mks (zI o l m dict) n d.length d = cs at *
    generalize zI o l m dict = K at *
    clear hr hq hm hbok HN HY hk s3 o3 hsz hsz2
    generalize zt bs = z at *
    have r3 := Below.refl w3.heap.size w3
    go_wp2_with fail
    refine (cC.out _ r3).mono ?_
    rintro e w4 ⟨v4, k4, rfl, b4, hV4⟩
    have z4 := b4.size
    have hK4 := hK3.below b4 (by omega)
    have g4 := g3.trans (b4.mono (by omega))
    have hX4 := hK4.cell
    clear cC hK3 g3 hX3 r3
    go_wp2_with fail
    refine wp_region_held_drew (S := (fun w' => w'.cell? ⟨w.heap.size, 0, none⟩ = some (.int .i64 o) ∧ w'.cell? ⟨w.heap.size, 1, none⟩ = some (.int .i64 l) ∧ w'.cell? ⟨w.heap.size, 2, none⟩ = some (.int .i64 m))) (by kernel_rfl) ?_ (fun hSS => ?_)
    focus ((refine ⟨?_, ?_, ?_⟩; all_goals first | (simp [hX6]; done) | (simp [hX5]; done) | (simp [hX4]; done)))
    refine tk 0 ?_
    try simp only [Act.put, u2, u3, u4]
    refine tk 1 ?_
    try simp only [Act.put, u2, u3, u4]
    refine tk 2 ?_
    try simp only [Act.put, u2, u3, u4]
    refine tk 3 ?_
    try simp only [Act.put, u2, u3, u4]
    refine tk 4 ?_
    try simp only [Act.put, u2, u3, u4]
    refine rd1 5 fun KK hKK => ?_
    go_simp
    (go_at_call 72; refine (cZ2.out _ yU).mono ?_; rintro e5 w5 ⟨rfl, b5⟩; have b5 : Below w4.heap.size w4 w5 := zL b5; have z5 := b5.size; have hK5 := hK4.below b5 (by omega); have g5 := g4.trans (b5.mono (by omega)); have B5 := b4.trans (b5.mono (by omega)); have hX5 := hK5.cell)
    refine hKK.out _ _ (by (refine ⟨?_, ?_, ?_⟩; all_goals first | (simp [hX6]; done) | (simp [hX5]; done) | (simp [hX4]; done))) fun hSS => ?_
    try simp only [Act.put, u2, u3, u4]
    refine rd1 6 fun KK hKK => ?_
    go_simp
    (go_at_call 149; refine (cC2.out _ B5).mono ?_; rintro e6 w6 ⟨v6, k6, rfl, b6, hV6⟩; have z6 := b6.size; have hK6 := hK5.below b6 (by omega); have g6 := g5.trans (b6.mono (by omega)); have hX6 := hK6.cell)
    refine hKK.out _ _ (by (refine ⟨?_, ?_, ?_⟩; all_goals first | (simp [hX6]; done) | (simp [hX5]; done) | (simp [hX4]; done))) fun hSS => ?_
    try simp only [Act.put, u2, u3, u4]
    refine tk 7 ?_
    try simp only [Act.put, u2, u3, u4]
    refine tk 8 ?_
    try simp only [Act.put, u2, u3, u4]
    refine tk 9 ?_
    try simp only [Act.put, u2, u3, u4]
    refine tk 10 ?_
    try simp only [Act.put, u2, u3, u4]
    refine tk 11 ?_
    try simp only [Act.put, u2, u3, u4]
    refine wpAnyH_done (by kernel_rfl) ?_ _
    simp only [List.getElem_toArray, List.getElem_cons_succ, List.getElem_cons_zero, Act.put, u2, u3, u4]
    clear hKK cC2 cZ2 hK4 hK5 g4 g5 hX4 hX5 B5
    rcases hV4 with ⟨hO1, rfl⟩ | ⟨P, A4, c4, hO1, rfl, rfl, o4⟩
    · have hE : R = none := by rw [h, hO1]; rfl
      subst hE
      clear h hU1 hU2 hV6
      go_wp2
      exact bodyPost_ret (v := .tuple #[sv [], .bool false]) (by simp [results, Tryz.results116, go_sem]) rfl ⟨rfl, g6⟩
    rcases hV6 with ⟨hO2, rfl⟩ | ⟨E, A6, c6, hO2, rfl, rfl, o6⟩
    · have hE : R = none := by rw [h, hO1, hO2]; rfl
      subst hE
      clear h hU1 hU2 o4
      go_wp2
      exact bodyPost_ret (v := .tuple #[sv [], .bool false]) (by simp [results, Tryz.results116, go_sem]) rfl ⟨rfl, g6⟩
    obtain ⟨hp1, hp2⟩ := hU1 P hO1
    obtain ⟨hp3, hp4⟩ := hU2 E hO2
    have hE : R = mcO (P ++ cs ++ E) := by rw [h, hO1, hO2]; rfl
    have hokA := nD (nD hp1 hokm) hp3
    have hl3 : (P ++ cs ++ E).length = P.length + cs.length + E.length := by simp; omega
    have hbv : yD (P ++ cs ++ E) = yD P ++ yD cs ++ yD E := by unfold yD; rw [List.flatMap_append, List.flatMap_append]
    have cE : Hid (∀ A cap wr, Sl wr A (P.length + cs.length + E.length) cap 4 (yD P ++ yD cs ++ yD E) → Calls Tryz.prog 147 #[.slice A (P.length + cs.length + E.length) cap] wr fun e w' => e = xx R ∧ Below wr.heap.size wr w') := fun A cap wr hs => by
      rw [← hl3] at hs ⊢
      rw [← hbv] at hs
      rw [hE]
      exact pF (P ++ cs ++ E) A cap wr hs hokA (by rw [hl3]; omega)
    have hm1 : P.length + cs.length ≤ maxLen := by unfold maxLen; omega
    have hm2 : (P.length + cs.length) * 40 ≤ 140737488355328 := by omega
    have hm3 : P.length + cs.length + E.length ≤ maxLen := by unfold maxLen; omega
    have hm4 : (P.length + cs.length + E.length) * 40 ≤ 140737488355328 := by omega
    have h1c : ∀ u ∈ yD cs, u.oneCell' = true := dH cs
    have h1e : ∀ u ∈ yD E, u.oneCell' = true := dH E
    have o4b := zf (zf o4 b5) b6
    have hne : ∀ k, (Value.slice A6 E.length c6).ownBlock = some k → (Value.slice A4 P.length c4).ownBlock ≠ some k := fun k hk hk2 => by
      have h1 := (o4.lt k hk2).2
      have h2 := (o6.lt k hk).1
      have := b5.size
      omega
    clear hU1 hU2 hO1 hO2 hp1 hp3 h hE hokA hl3 hbv hokm b4 b5 b6 o4
    go_wp2_with fail
    refine (cS _).mono ?_
    rintro e w7 ⟨A7, c7, rfl, o7, b7⟩
    have z7 := b7.size
    have g7 := g6.trans (b7.mono (by omega))
    have o4c := zf o4b b7
    have o6c := zf o6 b7
    have s7 := Sl.own o7
    clear hK6 g6 b7 cS hX6 o4b o6 o7
    go_wp2_with (at_builtin; go_must (refine yh _ rfl _ _ 96 rfl w0.heap.size 138 i _ 4 40 Tryz.underlying96 hi hz0 hz1 hz2 rfl (by omega) _ _ _ rfl (zF o4c (by omega)) _ cs.length c7 (yD cs) rfl s7 h1c hm1 hm2 ?_ ?_))
    · omega
    intro A8 c8 w8 o8 hg8 _
    have g8 := g7.grown hg8 (by omega) (fun k hk => by have := (o4c.lt k hk).1; omega)
    have z78 := hg8.size
    have s8 := Sl.own (TZ o6c hg8 hne)
    have z8 := g8.size
    clear o4c s7 o6c hg8 g7 hne
    go_wp2_with (at_builtin; go_must (refine yh _ rfl _ _ 96 rfl w0.heap.size 138 i _ 4 40 Tryz.underlying96 hi hz0 hz1 hz2 rfl (by omega) _ _ _ rfl o8 _ E.length c6 (yD E) rfl s8 h1e hm3 hm4 ?_ ?_))
    · omega
    intro A9 c9 w9 o9 hg9 _
    have g9 := g8.grown hg9 (by omega) (fun k hk => by have := (o8.lt k hk).1; omega)
    have s9 : Sl w9 A9 (P.length + cs.length + E.length) c9 4 (yD P ++ yD cs ++ yD E) := by
      have := Sl.own o9
      first | exact this | (rw [List.append_assoc]; exact this)
    have z9 := g9.size
    clear o8 s8 o9 hg9 g8
    go_wp2_with fail
    refine (cE.out _ _ _ s9).mono ?_
    rintro e w10 ⟨rfl, b10⟩
    have g10 := g9.trans (b10.mono (by omega))
    unfold xx
    go_wp2
    exact bodyPost_ret (v := .tuple #[sv (R.getD []), .bool R.isSome]) (by simp [results, Tryz.results116, go_sem]) rfl ⟨rfl, g10⟩
end Go.Proofs.YtinncdollpajkaaGreat
