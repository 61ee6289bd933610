import Derived.Test.YtinncdollpajkaaGreatKJ28
import Derived.Deep.Cut
import Derived.Test.YtinncdollpajkaaGreatKGU4
set_option linter.unusedVariables false
set_option linter.unusedSimpArgs false
set_option maxHeartbeats 8000000
namespace Go.Proofs.YtinncdollpajkaaGreat
open Go.RowKit
set_option maxRecDepth 100000
attribute [local go_sem high] zy zx zu zS zK yc zA zk zl zq zi zo yO zF yl zD
theorem Ub {w w' : World} {B n s : Nat} {e : TypeId} {v : Value} {xs : List Value} {row : Option Nat} (h : w.ownsRow B e s v n xs) (hg : w.grownBy w' row) (hne : ∀ k, v.ownBlock = some k → row ≠ some k) : w'.ownsRow B e s v n xs :=
 h.kept hg (by
  cases hv : v.ownBlock with
  | none => exact .inl rfl
  | some k => exact .inr (fun he => hne k hv he.symm))
theorem jy (o l m : Int) (dict t : Bs) (f t2 : Int) (d : Bs) (size : Int) (w : World) (hl : dict.length ≤ 9223372036854775807) (htl : t.length ≤ 1500000) (hd : d.length ≤ 9223372036854775807) (hs0 : -1000000 ≤ size) (hs1 : size ≤ 1000000)
    (hf0 : -9223372036854775808 ≤ f) (hf1 : f ≤ 9223372036854775807) (ht0 : -9223372036854775808 ≤ t2) (ht1 : t2 ≤ 9223372036854775807) :
    Calls Tryz.prog 122 #[.agg #[.int .i64 o, .int .i64 l, .int .i64 m], sv dict, sv t, .int .i64 f, .int .i64 t2, sv d, .int .i64 size] w fun e w' => e = yf (rpD o l m dict t f t2 d size) ∧ Below w.heap.size w w' := by
  obtain ⟨i, hi, hz0, hz1, hz2⟩ := info_parts xK
  by_cases hfb : fits o l m dict ∧ (zM t).isSome = true
  case neg =>
    have cS := fun w => qP o l m dict t w hfb hl htl
    have hE : rpD o l m dict t f t2 d size = none := by
      unfold rpD
      split
      · rename_i hf
        cases hb : zM t with
        | none => rfl
        | some bs => exact absurd ⟨hf, by rw [hb]; rfl⟩ hfb
      · rfl
    rw [hE]
    unfold yf
    clear hE hfb
    go_enter Tryz.func122, Tryz.ntmps122
    have hK0 : Bk (w.alloc (.cells #[.int .i64 o, .int .i64 l, .int .i64 m] 24)) w.heap.size 24 #[.int .i64 o, .int .i64 l, .int .i64 m] := tBk
    have g0 : Below w.heap.size w (w.alloc (.cells #[.int .i64 o, .int .i64 l, .int .i64 m] 24)) := zG
    go_upto_region 1 with (fail)
    generalize w.alloc (.cells #[.int .i64 o, .int .i64 l, .int .i64 m] 24) = w0 at *
    have hX0 := hK0.cell
    have hz0' := hK0.lt
    go_wp2_with fail
    refine (cS _).mono ?_
    rintro e w1 ⟨rfl, hb1⟩
    have g1 := g0.trans (hb1.mono (by omega))
    have hz1' := g1.size
    go_wp2
    exact bodyPost_ret (v := .tuple #[sv [], .bool false]) (by simp [results, Tryz.results122, go_sem]) rfl ⟨rfl, zG⟩
  obtain ⟨hf, hbs⟩ := hfb
  obtain ⟨bs, hB⟩ := Option.isSome_iff_exists.1 hbs
  have cS := fun w => qi o l m dict t bs w hf hB htl
  unfold YJ at cS
  have hk := xm hf
  have hbok := xA hB
  have hb40 := (xh hB).2
  have hsz := wR bs hbok
  have hsz2 := Zc hB
  have hE : rpD o l m dict t f t2 d size = if 0 ≤ f ∧ f ≤ t2 ∧ t2 ≤ zn bs then (nwO (zt o l m dict) d size).bind fun cs => (wo (zt o l m dict) 0 f 0 bs).bind fun a => (wo (zt o l m dict) t2 (zn bs) 0 bs).bind fun e => mcO (a ++ cs ++ e) else none := by unfold rpD; rw [if_pos hf, hB]; rfl
  have cN : Hid (∀ A cap wr, Sl wr A (zt o l m dict).ps.length cap 2 (psV (zt o l m dict).ps) → Calls Tryz.prog 155 #[knV (zt o l m dict) A cap, sv d, .int .i64 size] wr (NwR (nwO (zt o l m dict) d size) wr)) := fun A cap wr h => lh _ A cap d size wr hk h hd hs0 hs1
  unfold NwR at cN
  have cZ : Hid (∀ A cap wr, Sl wr A bs.length cap 4 (zO bs) → Calls Tryz.prog 107 #[.slice A bs.length cap] wr fun e w' => e = .returned (.int .i64 (zn bs)) ∧ Below wr.heap.size wr w') := fun A cap wr h => lF bs A cap wr h hbok (by omega)
  have cC : Hid (∀ Ak ck A cap a b wr, Sl wr Ak (zt o l m dict).ps.length ck 2 (psV (zt o l m dict).ps) → Sl wr A bs.length cap 4 (zO bs) → 0 ≤ a → a ≤ 3000 → 0 ≤ b → b ≤ 3000 → Calls Tryz.prog 156 #[knV (zt o l m dict) Ak ck, .slice A bs.length cap, .int .i64 a, .int .i64 b] wr fun e w' => ∃ v ok, e = .returned (.tuple #[v, .bool ok]) ∧ Below wr.heap.size wr w' ∧ ZA (wo (zt o l m dict) a b 0 bs) v ok wr.heap.size w') := fun Ak ck A cap a b wr h1 h2 h3 h4 h5 h6 => aB _ Ak ck bs A cap a b wr hk h1 h2 hbok hb40 h3 h4 h5 h6
  have hU : Hid (∀ a b x, wo (zt o l m dict) a b 0 bs = some x → (∀ c ∈ x, c.ok = true) ∧ x.length ≤ bs.length) := fun a b x => nI hk bs 0 x hbok
  have HNW : Hid (∀ cs, nwO (zt o l m dict) d size = some cs → (∀ b ∈ cs, b.ok = true) ∧ cs.length ≤ 40) := fun cs h => Z8 hk h
  obtain ⟨R, hR⟩ : ∃ R, rpD o l m dict t f t2 d size = R := ⟨_, rfl⟩
  rw [hR] at hE ⊢
  have HE := Go.Lib.hid hE
  clear hE hR hf hB hbs hk hbok
  generalize nwO (zt o l m dict) d size = O at *
  generalize zt o l m dict = K at *
  go_enter Tryz.func122, Tryz.ntmps122
  have hK0 : Bk (w.alloc (.cells #[.int .i64 o, .int .i64 l, .int .i64 m] 24)) w.heap.size 24 #[.int .i64 o, .int .i64 l, .int .i64 m] := tBk
  have g0 : Below w.heap.size w (w.alloc (.cells #[.int .i64 o, .int .i64 l, .int .i64 m] 24)) := zG
  go_upto_region 1 with (fail)
  generalize w.alloc (.cells #[.int .i64 o, .int .i64 l, .int .i64 m] 24) = w0 at *
  have hX0 := hK0.cell
  have hl0 := hK0.lt
  go_wp2_with fail
  refine (cS _).mono ?_
  rintro e w1 ⟨A1, c1, A2, c2, rfl, o1, p1, b1⟩
  have z1 := b1.size
  have g1 := g0.trans (b1.mono (by omega))
  have hB2 := Bk.new w1 (knC K A1 c1) 102
  have o2 := o1.alloc (.cells (knC K A1 c1) 102)
  have p2 := p1.alloc (.cells (knC K A1 c1) 102)
  have g2 := g1.alloc (by omega) (.cells (knC K A1 c1) 102)
  clear b1 hX0 hK0 g0 o1 p1 g1 cS
  go_upto_region 2 with (fail)
  unfold knC at hB2 o2 p2 g2
  generalize w1.alloc (.cells #[.int .i64 K.o, .int .i64 K.l, .int .i64 K.m, .slice A1 K.ps.length c1, .int .i64 K.base, .int .i64 K.last] 102) = W at *
  generalize w1.heap.size = q1 at *
  have hl2 := hB2.lt
  have zg2 := g2.size
  by_cases hq : 0 ≤ f ∧ f ≤ t2 ∧ t2 ≤ zn bs
  case neg =>
    have hEn : R = none := by rw [HE.out, if_neg hq]
    subst hEn
    clear HE HNW hU cN cC
    by_cases h1 : f < 0
    · clear hq
      go_wp2
      exact bodyPost_ret (v := .tuple #[sv [], .bool false]) (by simp [results, Tryz.results122, go_sem]) rfl ⟨rfl, g2⟩
    by_cases h2 : t2 < f
    · clear hq
      go_wp2
      exact bodyPost_ret (v := .tuple #[sv [], .bool false]) (by simp [results, Tryz.results122, go_sem]) rfl ⟨rfl, g2⟩
    have h3 : zn bs < t2 := by omega
    have s2 := Sl.own p2
    go_wp2_with fail
    refine (cZ.out _ _ _ s2).mono ?_
    rintro e w3 ⟨rfl, b3⟩
    have g3 := g2.trans (b3.mono (by omega))
    clear hq
    go_wp2
    exact bodyPost_ret (v := .tuple #[sv [], .bool false]) (by simp [results, Tryz.results122, go_sem]) rfl ⟨rfl, g3⟩
  have h1 : ¬ f < 0 := by omega
  have h2 : ¬ t2 < f := by omega
  have h3 : ¬ zn bs < t2 := by omega
  have HE2 : Hid (R = O.bind fun cs => (wo K 0 f 0 bs).bind fun a => (wo K t2 (zn bs) 0 bs).bind fun e => mcO (a ++ cs ++ e)) := by show _ = _; rw [HE.out, if_pos hq]
  have hqa : 0 ≤ f ∧ f ≤ 3000 ∧ 0 ≤ t2 ∧ t2 ≤ 3000 ∧ zn bs ≤ 3000 := by omega
  obtain ⟨q1', q2', q3', q4', q5'⟩ := hqa
  have s2 := Sl.own p2
  clear HE hq
  go_wp2_with fail
  refine (cZ.out _ _ _ s2).mono ?_
  rintro e w3 ⟨rfl, b3⟩
  have z3 := b3.size
  have g3 := g2.trans (b3.mono (by omega))
  have hB3 := hB2.below b3 hl2
  have o3 := zf o2 b3
  have p3 := zf p2 b3
  have t3 := Sl.own o3
  have hX3 := hB3.cell
  have hl3 := hB3.lt
  clear b3 hB2 o2 p2 g2 s2
  go_wp2_with fail
  refine (cN.out _ _ _ t3).mono ?_
  rintro e w4 ⟨A4, c4, rfl, o4, b4⟩
  have z4 := b4.size
  have g4 := g3.trans (b4.mono (by omega))
  have hB4 := hB3.below b4 hl3
  have oo4 := zf o3 b4
  have p4 := zf p3 b4
  have hX4 := hB4.cell
  have hl4 := hB4.lt
  clear b4 hB3 hX3 g3 o3 t3 p3 cN
  cases O with
  | none =>
    have hEn : R = none := HE2.out
    subst hEn
    simp only [Option.isSome_none, Option.getD_none]
    clear HE2 HNW hU cC
    go_wp2
    exact bodyPost_ret (v := .tuple #[sv [], .bool false]) (by simp [results, Tryz.results122, go_sem]) rfl ⟨rfl, g4⟩
  | some cs =>
    obtain ⟨hcok, hc40⟩ := HNW.out cs rfl
    have HCO := Go.Lib.hid hcok
    simp only [Option.isSome_some, Option.getD_some] at o4 ⊢
    have t4 := Sl.own oo4
    have s4 := Sl.own p4
    clear hcok HNW
    go_wp2_with fail
    refine (cC.out _ _ _ _ 0 f _ t4 s4 (by omega) (by omega) q1' q2').mono ?_
    rintro e w5 ⟨v5, k5, rfl, b5, hV5⟩
    have z5 := b5.size
    have g5 := g4.trans (b5.mono (by omega))
    have hB5 := hB4.below b5 hl4
    have oo5 := zf oo4 b5
    have p5 := zf p4 b5
    have o5 := zf o4 b5
    have hX5 := hB5.cell
    have hl5 := hB5.lt
    clear hB4 hX4 g4 oo4 t4 p4 s4 b5
    rcases hV5 with ⟨hO1, rfl⟩ | ⟨P, A5, c5, hO1, rfl, rfl, r5⟩
    · have hEn : R = none := by rw [HE2.out, Option.bind_some, hO1]; rfl
      subst hEn
      clear HE2 hU cC
      go_wp2
      exact bodyPost_ret (v := .tuple #[sv [], .bool false]) (by simp [results, Tryz.results122, go_sem]) rfl ⟨rfl, g5⟩
    have t5 := Sl.own oo5
    have s5 := Sl.own p5
    go_upto_region 10 with (fail)
    refine wp_region_held_drew (S := (fun w' => w'.cell? ⟨q1, 0, none⟩ = some (.int .i64 K.o) ∧ w'.cell? ⟨q1, 1, none⟩ = some (.int .i64 K.l) ∧ w'.cell? ⟨q1, 2, none⟩ = some (.int .i64 K.m) ∧ w'.cell? ⟨q1, 3, none⟩ = some (.slice A1 K.ps.length c1) ∧ w'.cell? ⟨q1, 4, none⟩ = some (.int .i64 K.base) ∧ w'.cell? ⟨q1, 5, none⟩ = some (.int .i64 K.last))) (by kernel_rfl) ?_ (fun hSS => ?_)
    focus ((refine ⟨?_, ?_, ?_, ?_, ?_, ?_⟩; all_goals first | (simp [hX7]; done) | (simp [hX6]; done) | (simp [hX5]; done)))
    refine tk 0 ?_
    try simp only [Act.put, u2, u3, u4]
    refine tk 1 ?_
    try simp only [Act.put, u2, u3, u4]
    refine tk 2 ?_
    try simp only [Act.put, u2, u3, u4]
    refine tk 3 ?_
    try simp only [Act.put, u2, u3, u4]
    refine rd1 4 fun KK hKK => ?_
    go_simp
    (go_at_call 107; refine (cZ.out _ _ _ (s5.below zX)).mono ?_; rintro e6 w6 ⟨rfl, b6⟩; have b6 : Below w5.heap.size w5 w6 := zB b6; have z6 := b6.size; have hB6 := hB5.below b6 hl5; have g6 := g5.trans (b6.mono (by omega)); have t6 := t5.below b6; have s6 := s5.below b6; have hX6 := hB6.cell; have hl6 := hB6.lt)
    refine hKK.out _ _ (by (refine ⟨?_, ?_, ?_, ?_, ?_, ?_⟩; all_goals first | (simp [hX7]; done) | (simp [hX6]; done) | (simp [hX5]; done))) fun hSS => ?_
    try simp only [Act.put, u2, u3, u4]
    refine rd1 5 fun KK hKK => ?_
    go_simp
    (go_at_call 156; refine (cC.out _ _ _ _ t2 (zn bs) _ t6 s6 q3' q4' (by omega) q5').mono ?_; rintro e7 w7 ⟨v7, k7, rfl, b7, hV7⟩; have z7 := b7.size; have hB7 := hB6.below b7 hl6; have g7 := g6.trans (b7.mono (by omega)); have hX7 := hB7.cell)
    refine hKK.out _ _ (by (refine ⟨?_, ?_, ?_, ?_, ?_, ?_⟩; all_goals first | (simp [hX7]; done) | (simp [hX6]; done) | (simp [hX5]; done))) fun hSS => ?_
    try simp only [Act.put, u2, u3, u4]
    refine tk 6 ?_
    try simp only [Act.put, u2, u3, u4]
    refine tk 7 ?_
    try simp only [Act.put, u2, u3, u4]
    refine tk 8 ?_
    try simp only [Act.put, u2, u3, u4]
    refine tk 9 ?_
    try simp only [Act.put, u2, u3, u4]
    refine tk 10 ?_
    try simp only [Act.put, u2, u3, u4]
    refine wpAnyH_done (by kernel_rfl) ?_ _
    simp only [List.getElem_toArray, List.getElem_cons_succ, List.getElem_cons_zero, Act.put, List.setIfInBounds_toArray, List.set_cons_zero, List.set_cons_succ]
    have r7 := zf (zf r5 b6) b7
    have n7 := zf (zf o5 b6) b7
    clear hKK hB5 hB6 hB7 g5 g6 hX5 hX6 hX7 oo5 p5 t5 s5 t6 s6 cC cZ
    rcases hV7 with ⟨hO2, rfl⟩ | ⟨E, A7, c7, hO2, rfl, rfl, e7⟩
    · have hEn : R = none := by rw [HE2.out, Option.bind_some, hO1, hO2]; rfl
      subst hEn
      clear HE2 hU
      go_wp2
      exact bodyPost_ret (v := .tuple #[sv [], .bool false]) (by simp [results, Tryz.results122, go_sem]) rfl ⟨rfl, g7⟩
    obtain ⟨hp1, hp2⟩ := hU.out 0 f P hO1
    obtain ⟨hp3, hp4⟩ := hU.out t2 (zn bs) E hO2
    have hER : R = mcO (P ++ cs ++ E) := by rw [HE2.out, Option.bind_some, hO1, hO2]; rfl
    have hokA := rf (rf hp1 HCO.out) hp3
    have hl3' : (P ++ cs ++ E).length = P.length + cs.length + E.length := by simp; omega
    have hbv : zO (P ++ cs ++ E) = zO P ++ zO cs ++ zO E := by unfold zO; rw [List.flatMap_append, List.flatMap_append]
    have cE : Hid (∀ A cap wr, Sl wr A (P.length + cs.length + E.length) cap 4 (zO P ++ zO cs ++ zO E) → Calls Tryz.prog 152 #[.slice A (P.length + cs.length + E.length) cap] wr fun e w' => e = yf R ∧ Below wr.heap.size wr w') := fun A cap wr hs => by
      rw [← hl3'] at hs ⊢
      rw [← hbv] at hs
      rw [hER]
      exact rV (P ++ cs ++ E) A cap wr hs hokA (by rw [hl3']; omega)
    have hm1 : P.length + cs.length ≤ maxLen := by unfold maxLen; omega
    have hm2 : (P.length + cs.length) * 40 ≤ 140737488355328 := by omega
    have hm3 : P.length + cs.length + E.length ≤ maxLen := by unfold maxLen; omega
    have hm4 : (P.length + cs.length + E.length) * 40 ≤ 140737488355328 := by omega
    have h1c : ∀ u ∈ zO cs, u.oneCell' = true := jH cs
    have h1e : ∀ u ∈ zO E, u.oneCell' = true := jH E
    have hne : ∀ k, (Value.slice A7 E.length c7).ownBlock = some k → (Value.slice A5 P.length c5).ownBlock ≠ some k := fun k hk hk2 => by
      have h1 := (r5.lt k hk2).2
      have h2 := (e7.lt k hk).1
      have := b6.size
      omega
    have s7 := Sl.own n7
    clear hU hO1 hO2 hp1 hp3 HE2 hER hokA hl3' hbv HCO b6 b7 r5 n7 o5
    go_wp2_with (at_builtin; go_must (refine zL _ rfl _ _ 96 rfl w0.heap.size 138 i _ 4 40 Tryz.underlying96 hi hz0 hz1 hz2 rfl (by omega) _ _ _ rfl (zC r7 (by omega)) _ cs.length c4 (zO cs) rfl s7 h1c hm1 hm2 ?_ ?_))
    · omega
    intro A8 c8 w8 o8 hg8 _
    have z78 := hg8.size
    have g8 := g7.grown hg8 (by omega) (fun k hk => by have := (r7.lt k hk).1; omega)
    have s8 := Sl.own (Ub e7 hg8 hne)
    have z8 := g8.size
    clear r7 s7 e7 hg8 g7 hne
    go_wp2_with (at_builtin; go_must (refine zL _ rfl _ _ 96 rfl w0.heap.size 138 i _ 4 40 Tryz.underlying96 hi hz0 hz1 hz2 rfl (by omega) _ _ _ rfl o8 _ E.length c7 (zO E) rfl s8 h1e hm3 hm4 ?_ ?_))
    · omega
    intro A9 c9 w9 o9 hg9 _
    have g9 := g8.grown hg9 (by omega) (fun k hk => by have := (o8.lt k hk).1; omega)
    have s9 : Sl w9 A9 (P.length + cs.length + E.length) c9 4 (zO P ++ zO cs ++ zO E) := by
      have := Sl.own o9
      first | exact this | (rw [List.append_assoc]; exact this)
    have z9 := g9.size
    clear o8 s8 o9 hg9 g8
    go_wp2_with fail
    refine (cE.out _ _ _ s9).mono ?_
    rintro e w10 ⟨rfl, b10⟩
    have g10 := g9.trans (b10.mono (by omega))
    unfold yf
    go_wp2
    exact bodyPost_ret (v := .tuple #[sv (R.getD []), .bool R.isSome]) (by simp [results, Tryz.results122, go_sem]) rfl ⟨rfl, g10⟩
end Go.Proofs.YtinncdollpajkaaGreat
namespace Go.Proofs.YtinncdollpajkaaGreat
open Go.RowKit
set_option maxRecDepth 100000
attribute [local go_sem high] zy zx zu zS zK yc zA zk zl zq zi zo yO zF yl zD
attribute [local go_sem high] tV tu
def ixV (o : Option Nat) : Int := match o with
 | some i => (i : Int)
 | none => -1
theorem iM (S : Sto) (n : Bs) (A : Option Addr) (cap : Nat) (w : World) (hs : Sl w A S.fs.length cap 2 (zQ S.fs)) (hl : S.fs.length ≤ 1500000) :
  Calls Tryz.prog 69 #[S.V A cap, sv n] w fun e w' => e = .returned (.int .i64 (ixV (xI S.fs n))) ∧ Below w.heap.size w w' := by
 have hcap := hs.1
 have hcap2 := hs.2.1
 have HSL : Hid (∀ wr, Below w.heap.size w wr → Sl wr A S.fs.length cap 2 (zQ S.fs)) := fun wr h => hs.below h
 have HF : Hid (∀ (k : Nat) (hk : k < S.fs.length), (∀ (j : Nat) (h : j < S.fs.length), j < k → S.fs[j].1 ≠ n) → S.fs[k].1 = n → ixV (xI S.fs n) = (k : Int)) := fun k hk hA he => by rw [Zr hk he (fun j hj => hA j (by omega) hj)]; rfl
 have HE : Hid ((∀ (j : Nat) (h : j < S.fs.length), S.fs[j].1 ≠ n) → ixV (xI S.fs n) = -1) := fun h => by rw [jE h]; rfl
 clear hs
 generalize ixV (xI S.fs n) = R at *
 obtain ⟨o, l, m, dict, fs⟩ := S
 simp only at *
 go_enter Tryz.func69, Tryz.ntmps69
 have hK0 : Bk (w.alloc (.cells #[.int .i64 o, .int .i64 l, .int .i64 m, .string ⟨dict.toArray⟩, .slice A fs.length cap] 27)) w.heap.size 27 #[.int .i64 o, .int .i64 l, .int .i64 m, .string ⟨dict.toArray⟩, .slice A fs.length cap] := tBk
 have g0 : Below w.heap.size w (w.alloc (.cells #[.int .i64 o, .int .i64 l, .int .i64 m, .string ⟨dict.toArray⟩, .slice A fs.length cap] 27)) := zG
 go_upto_region 1 with (fail)
 generalize w.alloc (.cells #[.int .i64 o, .int .i64 l, .int .i64 m, .string ⟨dict.toArray⟩, .slice A fs.length cap] 27) = w0 at *
 have hX0 := hK0.cell
 go_wp2
 go_loopw [5] (fun i wr => wr = w0 ∧ ∃ k : Nat, i = .int .i64 (k : Int) ∧ k ≤ fs.length ∧ Hid (∀ (j : Nat) (h : j < fs.length), j < k → fs[j].1 ≠ n)) (fun i _ => fs.length - (intOf i).toNat)
 case atStart => exact ⟨rfl, 0, rfl, by omega, fun j h hj => by omega⟩
 case round =>
  obtain ⟨rfl, k, rfl, hk, HA⟩ := hrel
  by_cases hlt : k < fs.length
  ·have hki : (k : Int) < fs.length := by omega
   obtain ⟨g, off, rfl, hg, c0, c1⟩ := (HSL.out _ g0).fl hlt
   by_cases he : fs[k].1 = n
   ·have hR := HF.out k hlt HA.out he
    subst hR
    have hd : decide (fs[k].1 = n) = true := by simpa using he
    clear he HF HE
    generalize fs[k].1 = a at *
    go_wp2
    go_ret
    exact ⟨rfl, g0⟩
   ·have HA2 := Go.Lib.hid (Rx hlt HA.out he)
    have hd : decide (fs[k].1 = n) = false := by simpa using he
    clear he
    generalize fs[k].1 = a at *
    go_wp2
    go_roundw
    case rel => exact ⟨trivial, k + 1, by go_num, by omega, HA2⟩
    case measure => simp [intOf]; omega
  ·have hki : ¬ (k : Int) < fs.length := by omega
   have hR := HE.out (fun j h => HA.out j h (by omega))
   subst hR
   go_wp2
   go_ret
   exact ⟨rfl, g0⟩
end Go.Proofs.YtinncdollpajkaaGreat
