import Derived.Test.YtinncdollpajkaaGreatVS22
import Derived.Test.YtinncdollpajkaaGreatVR1
import Derived.Deep.Cut
set_option linter.unusedVariables false
set_option linter.unusedSimpArgs false
set_option maxHeartbeats 8000000
namespace Go.Proofs.YtinncdollpajkaaGreat
open Go.RowKit
set_option maxRecDepth 100000
attribute [local go_sem high] zA zu zy zO zK zX zx zk zn zq zi zo yQ zC yf zD
theorem QI (ms : List Blk) (lb c : Blk) : ((((yD (ms ++ [lb])).set (ms.length * 4 + 0) (.int .i64 c.num)).set (ms.length * 4 + 1) (.bool c.raw)).set (ms.length * 4 + 2) (.int .i64 c.size)).set (ms.length * 4 + 3) (.string ⟨c.body.toArray⟩) = yD (ms ++ [c]) := by
 rw [wZ, wZ]
 have hl := vH ms
 rw [show bkL lb = [.int .i64 lb.num, .bool lb.raw, .int .i64 lb.size, .string ⟨lb.body.toArray⟩] from rfl]
 rw [List.set_append_right _ _ (by omega), List.set_append_right _ _ (by omega), List.set_append_right _ _ (by omega), List.set_append_right _ _ (by omega), hl]
 rw [show ms.length * 4 + 0 - ms.length * 4 = 0 by omega, show ms.length * 4 + 1 - ms.length * 4 = 1 by omega, show ms.length * 4 + 2 - ms.length * 4 = 2 by omega, show ms.length * 4 + 3 - ms.length * 4 = 3 by omega]
 rfl
theorem Tq {K : Kn} {bs : List Blk} {Y : Bs} (h : yl K bs = some Y) {k : Nat} (hk : k < bs.length) : ∃ d, bs[k].dat K = some d := by
 cases hd : bs[k].dat K with
 | some d => exact ⟨d, rfl⟩
 | none => rw [kH hk hd] at h; cases h
theorem iG (o l m : Int) (dict t : Bs) (size : Int) (w : World) (hl : dict.length ≤ 9223372036854775807) (htl : t.length ≤ 1500000) :
    Calls Tryz.prog 117 #[.agg #[.int .i64 o, .int .i64 l, .int .i64 m], sv dict, sv t, .int .i64 size] w fun e w' => e = xx (mgD o l m dict t size) ∧ Below w.heap.size w w' := by
  obtain ⟨i, hi, hz0, hz1, hz2⟩ := info_parts uo
  have cB := fun w => sN t w htl
  unfold kJ at cB
  have cC := fun w => um o l m dict t w hl htl
  have cR := fun w => kN o l m dict size w hl
  have HN : Hid ((zT t = none ∨ cdB o l m dict t = none ∨ ¬ (fits o l m dict ∧ 1 ≤ size ∧ size ≤ 64)) → mgD o l m dict t size = none) := fun h => by
    cases hm : mgD o l m dict t size with
    | none => rfl
    | some X =>
      exfalso
      obtain ⟨bs, a, y, h1, h2, h3, h4, h5, _⟩ := Xq hm
      rcases h with h | h | h
      · rw [h4] at h; cases h
      · rw [uK h1 h4, h5] at h; cases h
      · exact h ⟨h1, h2, h3⟩
  obtain ⟨R, hR⟩ : ∃ R, mgD o l m dict t size = R := ⟨_, rfl⟩
  have HRD := Go.Lib.hid hR
  rw [hR] at HN ⊢
  clear hR
  go_enter Tryz.func117, Tryz.ntmps117
  have hK0 : Bk (w.alloc (.cells #[.int .i64 o, .int .i64 l, .int .i64 m] 24)) w.heap.size 24 #[.int .i64 o, .int .i64 l, .int .i64 m] := tBk
  have g0 : Below w.heap.size w (w.alloc (.cells #[.int .i64 o, .int .i64 l, .int .i64 m] 24)) := zH
  have s0 : (w.alloc (.cells #[.int .i64 o, .int .i64 l, .int .i64 m] 24)).heap.size = w.heap.size + 1 := by simp
  go_upto_region 1 with (fail)
  generalize w.alloc (.cells #[.int .i64 o, .int .i64 l, .int .i64 m] 24) = w0 at *
  go_wp2_with fail
  refine (cB _).mono ?_
  rintro e w1 ⟨A1, c1, rfl, o1, b1⟩
  have z1 := b1.size
  have hK1 := hK0.below b1 (by omega)
  have g1 := g0.trans (b1.mono (by omega))
  have hX1 := hK1.cell
  clear hK0 g0 b1 cB
  go_wp2_with fail
  refine (cC _).mono ?_
  rintro e w2 ⟨rfl, b2⟩
  have z2 := b2.size
  have hK2 := hK1.below b2 (by omega)
  have g2 := g1.trans (b2.mono (by omega))
  have hX2 := hK2.cell
  have o2 := zf o1 b2
  have hlk := hK2.lt
  clear hK1 g1 b2 hX1 o1 cC
  cases hB : zT t with
  | none =>
    have h := HN.out (.inl hB)
    subst h
    simp only [hB, Option.elim_none, Option.isSome_none]
    unfold yZ
    go_wp2
    exact bodyPost_ret (v := .tuple #[sv [], .bool false]) (by simp [results, Tryz.results117, go_sem]) rfl ⟨rfl, g2⟩
  | some bs =>
    have hbok := xQ hB
    have hb40 := (wE hB).2
    rw [hB] at o2
    simp only [hB, Option.elim_some, Option.isSome_some, Option.getD_some] at o2 ⊢
    cases hC : cdB o l m dict t with
    | none =>
      have h := HN.out (.inr (.inl hC))
      subst h
      unfold yZ
      simp only [Option.getD_none, Option.isSome_none]
      go_wp2
      exact bodyPost_ret (v := .tuple #[sv [], .bool false]) (by simp [results, Tryz.results117, go_sem]) rfl ⟨rfl, g2⟩
    | some Y =>
      unfold yZ
      simp only [Option.getD_some, Option.isSome_some]
      go_wp2_with fail
      refine (cR _).mono ?_
      rintro e w3 ⟨rfl, b3⟩
      have z3 := b3.size
      have hK3 := hK2.below b3 hlk
      have g3 := g2.trans (b3.mono (by omega))
      have o3 := zf o2 b3
      clear hK2 g2 b3 hX2 o2 cR
      by_cases hr : fits o l m dict ∧ 1 ≤ size ∧ size ≤ 64
      case neg =>
        have h := HN.out (.inr (.inr hr))
        subst h
        rw [decide_eq_false hr]
        clear hr
        go_wp2
        exact bodyPost_ret (v := .tuple #[sv [], .bool false]) (by simp [results, Tryz.results117, go_sem]) rfl ⟨rfl, g3⟩
      rw [decide_eq_true hr]
      have hY : yl (zI o l m dict) bs = some Y := by rw [uK hr.1 hB] at hC; exact hC
      have hk := x9 hr.1
      have cD : Hid (∀ b wr, b.ok = true → Calls Tryz.prog 112 #[.agg #[.int .i64 o, .int .i64 l, .int .i64 m], sv dict, bkV b] wr fun e w' => e = yZ (b.dat (zI o l m dict)) ∧ Below wr.heap.size wr w') := fun b wr h => pU o l m dict b wr hr.1 (by have := mO h; omega)
      have cM : Hid (∀ (x : Bs) wr, x.length ≤ 2000 → Calls Tryz.prog 150 #[.agg #[.int .i64 o, .int .i64 l, .int .i64 m], sv dict, .int .i64 0, sv x] wr fun e w' => e = .returned (bkV (wX (zI o l m dict) 0 x)) ∧ Below wr.heap.size wr w') := fun x wr hx => qm o l m dict 0 x wr hr.1 (by omega)
      have HR : Hid (∀ a, jP (zI o l m dict) size ([], []) bs = some a → R = mcO a.1) := fun a ha => by
        rw [← HRD.out]; unfold mgD; rw [if_pos hr, hB, Option.bind_some, ha]; rfl
      have HEA : Hid (∀ k (h : k < bs.length), ∃ d, bs[k].dat (zI o l m dict) = some d) := fun k h => Tq hY h
      have HOK := Go.Lib.hid hbok
      have HK := Go.Lib.hid hk
      have s3 := Sl.own o3
      have HSL : Hid (∀ wr, Below w3.heap.size w3 wr → Sl wr A1 bs.length c1 4 (yD bs)) := fun wr h => s3.below h
      have hcap := s3.1
      have hcap2 := s3.2.1
      obtain ⟨_, hsz1, hsz2⟩ := hr
      have HG3 : Hid (∀ wr, Below w3.heap.size w3 wr → Below w.heap.size w wr) := fun wr h => g3.trans (h.mono (by omega))
      clear hC hY hk hB hbok s3 o3 HRD HN
      generalize zI o l m dict = K at *
      have z3w := g3.size
      have o4 := vw (base := w3.heap.size) (size := 4) (Bk.new w3 #[] 138) (Nat.le_refl _)
      have hK4 := hK3.alloc (.cells #[] 138)
      have b4 : Below w3.heap.size w3 (w3.alloc (.cells #[] 138)) := zH
      have hkl := hK3.lt
      go_upto_region 6 with (fail)
      generalize w3.alloc (.cells #[] 138) = w4 at *
      clear hK3 g3
      go_wp2
      go_loopw [14, 15] (fun a c wr => ∃ (k : Nat) (ms : List Blk) (ld y : Bs) (Ao : Option Addr) (co : Nat), a = .slice Ao ms.length co ∧ c = .int .i64 (k : Int) ∧ k ≤ bs.length ∧ Hid (jP K size ([], []) (bs.take k) = some (ms, ld)) ∧ Hid (iC K size (ms, ld) k y) ∧ wr.ownsRow w3.heap.size 138 4 (.slice Ao ms.length co) ms.length (yD ms) ∧ Bk wr w.heap.size 24 #[.int .i64 o, .int .i64 l, .int .i64 m] ∧ Below w3.heap.size w3 wr) (fun _ c _ => bs.length - (intOf c).toNat)
      case atStart => exact ⟨0, [], [], [], _, 0, rfl, rfl, by omega, rfl, iC.zero K size, o4, hK4, b4⟩
      case round =>
        obtain ⟨k, ms, ld, y, Ao, co, rfl, rfl, hk, HM, HMG, ow, hK, g⟩ := hrel
        clear hK4 b4 o4
        have hz := g.size
        have hmn : ms.length ≤ k := HMG.out.len
        by_cases hlt : k < bs.length
        · have hki : (k : Int) < bs.length := by omega
          have hsA := HSL.out wr g
          obtain ⟨gb, off, rfl, hg, hc⟩ := Sl.gI hsA hlt
          have hcs := pV bs k hlt
          have c0 := hc 0 _ hcs.1
          have c1' := hc 1 _ hcs.2.1
          have c2 := hc 2 _ hcs.2.2.1
          have c3 := hc 3 _ hcs.2.2.2
          obtain ⟨d, hd⟩ := HEA.out k hlt
          have hbo := HOK.out bs[k] (List.getElem_mem hlt)
          have hdl := tC hbo hd
          have hbs := Blk.vk hbo
          have HST := Go.Lib.hid (ZI hlt HM.out hd)
          have HMS := Go.Lib.hid (HMG.out.step HK.out hsz2 hbo hd)
          have CD : Hid (∀ wr, Calls Tryz.prog 112 #[.agg #[.int .i64 o, .int .i64 l, .int .i64 m], sv dict, bkV bs[k]] wr fun e w' => e = .returned (.tuple #[sv d, .bool true]) ∧ Below wr.heap.size wr w') := fun wr => by have := cD.out bs[k] wr hbo; rw [hd] at this; exact this
          generalize bs[k] = b at *
          clear hc hcs hsA HM hbo hd
          obtain ⟨n2, r, n4, T⟩ := b
          simp only [Nat.add_zero] at c0 c1' c2 c3 hbs hdl
          obtain ⟨hb1, hb2, hb3, hb4⟩ := hbs
          rcases List.eq_nil_or_concat ms with rfl | ⟨mz, lb, hms⟩
          · -- the first block
            have HX : Hid (rU K size (([] : List Blk), ld) ⟨n2, r, n4, T⟩ d = ([⟨n2, r, n4, T⟩], d)) := by show _ = _; unfold rU; rw [if_neg (fun h => h.1 rfl)]; rfl
            have HST2 := Go.Lib.hid (HST.out.trans (congrArg some HX.out))
            have HMS2 : Hid (iC K size ([⟨n2, r, n4, T⟩], d) (k + 1) (y ++ d)) := by have := HMS.out; rw [HX.out] at this; exact this
            have hm1 : (0 : Nat) + 1 ≤ maxLen := by unfold maxLen; omega
            have hm2 : ((0 : Nat) + 1) * 40 ≤ 140737488355328 := by omega
            clear HST HMS HX HMG
            have hX := hK.cell
            go_wp2_with fail
            go_quiet (fail)
            have bq := World.oZ wr nq
            have hKq := hK.below bq hK.lt
            have owq := zf ow bq
            have gq := g.trans (bq.mono (by omega))
            have hgq := Nat.lt_of_lt_of_le hg bq.size
            have q0 := (bq.cell (p := ⟨gb, off + k * 4, none⟩) hg).trans c0
            have q1 := (bq.cell (p := ⟨gb, off + k * 4 + 1, none⟩) hg).trans c1'
            have q2 := (bq.cell (p := ⟨gb, off + k * 4 + 2, none⟩) hg).trans c2
            have q3 := (bq.cell (p := ⟨gb, off + k * 4 + 3, none⟩) hg).trans c3
            clear hK ow g hg c0 c1' c2 c3 bq hX
            generalize wr.drewN nq = wr at *
            have hK := hKq
            have ow := owq
            have g := gq
            have zg := g.size
            have hg := hgq
            have c0 := q0
            have c1' := q1
            have c2 := q2
            have c3 := q3
            have hX := hK.cell
            clear hKq owq gq hgq q0 q1 q2 q3
            go_wp2_with (at_builtin; go_must (refine yh _ rfl _ _ 96 rfl (w3.heap.size) 138 i _ 4 40 Tryz.underlying96 hi hz0 hz1 hz2 rfl (by omega) _ _ _ rfl (ow.alloc _) _ 1 1 [.int .i64 n2, .bool r, .int .i64 n4, .string ⟨T.toArray⟩] rfl (Sl.newAt wr #[.int .i64 n2, .bool r, .int .i64 n4, .string ⟨T.toArray⟩] _ 1 4 (by first | rfl | simp) (by simp) (by omega)) (by simp [Value.oneCell']) hm1 hm2 ?_ ?_))
            try (case refine_1 => first | omega | (simp <;> omega; done))
            intro A5 cap5 w5 o5 hg5 _
            have g5 := yR g hg5 (by first | omega | (simp; omega)) (fun k hk => by have := (ow.lt k hk).1; omega)
            have hK5 := Bk.grown (hK.alloc _) hg5 (fun k hk => by have := (ow.lt k hk).1; omega)
            have o5' : w5.ownsRow w3.heap.size 138 4 (.slice A5 [(⟨n2, r, n4, T⟩ : Blk)].length cap5) [(⟨n2, r, n4, T⟩ : Blk)].length (yD [(⟨n2, r, n4, T⟩ : Blk)]) := o5
            clear o5 hg5 ow hK g hX c0 c1' c2 c3
            go_wp2
            go_roundw
            case rel => exact ⟨k + 1, [(⟨n2, r, n4, T⟩ : Blk)], d, y ++ d, A5, cap5, rfl, by go_num, by omega, HST2, HMS2, o5', hK5, g5⟩
            case measure => simp [intOf]; omega
          · -- behind others
            rw [List.concat_eq_append] at hms
            subst hms
            have hne : mz ++ [lb] ≠ [] := by simp
            have hlast := HMG.out.last hne
            rw [List.getLast_concat] at hlast
            have hlbok := HMG.out.ok lb (by simp)
            obtain ⟨hlast1, hlast2⟩ := hlast
            have hldl : ld.length ≤ 64 := by have := Blk.vk hlbok; simp only at hlast2; omega
            simp only [List.length_append, List.length_singleton] at ow hmn ⊢
            obtain ⟨g2, cap2, hform⟩ : ∃ g cap, Value.slice Ao (mz.length + 1) co = .slice (some ⟨g, 0, none⟩) (mz.length + 1) cap := by
              rcases ow.2 with ⟨h1, h2⟩ | ⟨g, cap, cur, h1, _⟩
              · omega
              · exact ⟨g, cap, h1⟩
            injection hform with hA2 _ hc2
            subst hA2 hc2
            have hcell := fun j h => ow.cellAt j h
            have hbv : (yD (mz ++ [lb])) = yD mz ++ bkL lb := wZ mz lb
            have hbl := vH mz
            have e0 : wr.cell? ⟨g2, mz.length * 4, none⟩ = some (.int .i64 lb.num) := by rw [hcell _ (by omega), hbv, List.getElem?_append_right (by omega)]; simp [hbl, bkL]
            have e1 : wr.cell? ⟨g2, mz.length * 4 + 1, none⟩ = some (.bool lb.raw) := by rw [hcell _ (by omega), hbv, List.getElem?_append_right (by omega)]; simp [hbl, bkL]
            have e2 : wr.cell? ⟨g2, mz.length * 4 + 2, none⟩ = some (.int .i64 (ld.length : Int)) := by rw [hcell _ (by omega), hbv, List.getElem?_append_right (by omega), ← hlast2]; simp [hbl, bkL]
            have e3 : wr.cell? ⟨g2, mz.length * 4 + 3, none⟩ = some (.string ⟨lb.body.toArray⟩) := by rw [hcell _ (by omega), hbv, List.getElem?_append_right (by omega)]; simp [hbl, bkL]
            have C2 := fun d os => cell_regrown c2 d os
            have E2 := fun d os => cell_regrown e2 d os
            have hX := hK.cell
            have hg2 := (ow.lt g2 rfl).2
            clear hcell hbv
            by_cases hj : (ld.length : Int) + d.length ≤ size
            · have hjn : (ld.length : Int) + n4 ≤ size := by omega
              have HX : Hid (rU K size (mz ++ [lb], ld) ⟨n2, r, n4, T⟩ d = (mz ++ [wX K 0 (ld ++ d)], ld ++ d)) := by show _ = _; unfold rU; rw [if_pos ⟨hne, hj⟩, List.dropLast_concat]
              have HST2 := Go.Lib.hid (HST.out.trans (congrArg some HX.out))
              have HMS2 : Hid (iC K size (mz ++ [wX K 0 (ld ++ d)], ld ++ d) (k + 1) (y ++ d)) := by have := HMS.out; rw [HX.out] at this; exact this
              have cL : ∀ wr, Calls Tryz.prog 112 #[.agg #[.int .i64 o, .int .i64 l, .int .i64 m], sv dict, bkV lb] wr fun e w' => e = .returned (.tuple #[sv ld, .bool true]) ∧ Below wr.heap.size wr w' := fun wr => by have := cD.out lb wr hlbok; rw [hlast1] at this; exact this
              have cMx := fun wr => cM.out (ld ++ d) wr (by rw [List.length_append]; omega)
              have hset := QI mz lb (wX K 0 (ld ++ d))
              have hdl64 : d.length ≤ 64 := by omega
              generalize wX K 0 (ld ++ d) = c at *
              rw [hlast2.symm] at e2 E2
              obtain ⟨l2, lr, l4, lT⟩ := lb
              obtain ⟨m2, s, m4, U⟩ := c
              simp only at e0 e1 e2 e3 E2 hset
              have hl4 : l4 = (ld.length : Int) := hlast2
              clear HST HMS HX HMG hlast1 hlast2 hne hlbok
              go_wp2_with fail
              go_quiet (fail)
              have bq := World.oZ wr nq
              have hKq := hK.below bq hK.lt
              have owq := zf ow bq
              have gq := g.trans (bq.mono (by omega))
              have hgq := Nat.lt_of_lt_of_le hg bq.size
              have q0 := (bq.cell (p := ⟨gb, off + k * 4, none⟩) hg).trans c0
              have q1 := (bq.cell (p := ⟨gb, off + k * 4 + 1, none⟩) hg).trans c1'
              have q2 := (bq.cell (p := ⟨gb, off + k * 4 + 2, none⟩) hg).trans c2
              have q3 := (bq.cell (p := ⟨gb, off + k * 4 + 3, none⟩) hg).trans c3
              have f0 := (bq.cell (p := ⟨g2, mz.length * 4, none⟩) hg2).trans e0
              have f1 := (bq.cell (p := ⟨g2, mz.length * 4 + 1, none⟩) hg2).trans e1
              have f2 := (bq.cell (p := ⟨g2, mz.length * 4 + 2, none⟩) hg2).trans e2
              have f3 := (bq.cell (p := ⟨g2, mz.length * 4 + 3, none⟩) hg2).trans e3
              clear hK ow g hg c0 c1' c2 c3 bq hX C2 E2 e0 e1 e2 e3
              generalize wr.drewN nq = wr at *
              have hK := hKq
              have ow := owq
              have g := gq
              have zg := g.size
              have hg := hgq
              have c0 := q0
              have c1' := q1
              have c2 := q2
              have c3 := q3
              have hX := hK.cell
              clear hKq owq gq hgq q0 q1 q2 q3
              have e0 := f0
              have e1 := f1
              have e2 := f2
              have e3 := f3
              clear f0 f1 f2 f3
              clear hl4
              have E0 := fun d os => cell_regrown e0 d os
              have E1 := fun d os => cell_regrown e1 d os
              have E2 := fun d os => cell_regrown e2 d os
              have E3 := fun d os => cell_regrown e3 d os
              have hG := zG hX hK.lt
              go_wp2_with fail
              refine wp_region_quiet_below (by kernel_rfl) (by kernel_rfl) ?_
              repeat (go_big_quiet_step ((go_at_call 112; exact Calls.regrown_of (cL _))))
              refine wpQuiet_nil ?_
              intro w6 hw2
              have b6 : Below _ _ w6 := zh hw2
              clear hw2
              have z6 := b6.size
              have hK6 := hK.below b6 hK.lt
              have ow6 := zf ow b6
              have g6 := g.trans (b6.mono (by omega))
              have d0 := (b6.cell (p := ⟨gb, off + k * 4, none⟩) hg).trans c0
              have d1 := (b6.cell (p := ⟨gb, off + k * 4 + 1, none⟩) hg).trans c1'
              have d2 := (b6.cell (p := ⟨gb, off + k * 4 + 2, none⟩) hg).trans c2
              have d3 := (b6.cell (p := ⟨gb, off + k * 4 + 3, none⟩) hg).trans c3
              have hX6 := hK6.cell
              clear E0 E1 E2 E3 hG hX hK ow g c0 c1' c2 c3 cL b6 e0 e1 e2 e3
              have D0 := fun d os => cell_regrown d0 d os
              have D1 := fun d os => cell_regrown d1 d os
              have D2 := fun d os => cell_regrown d2 d os
              have D3 := fun d os => cell_regrown d3 d os
              have hG := zG hX6 hK6.lt
              go_wp2_with fail
              refine wp_region_quiet_below (by kernel_rfl) (by kernel_rfl) ?_
              repeat (go_big_quiet_step ((go_at_call 112; exact Calls.regrown_of (CD.out _))))
              refine wpQuiet_nil ?_
              intro w7 hw2
              have b7 : Below _ _ w7 := zh hw2
              clear hw2
              have z7 := b7.size
              have hK7 := hK6.below b7 hK6.lt
              have ow7 := zf ow6 b7
              have g7 := g6.trans (b7.mono (by omega))
              have hX7 := hK7.cell
              clear D0 D1 D2 D3 hG hX6 hK6 ow6 g6 b7 d0 d1 d2 d3
              have hlen : ¬ 9223372036854775807 < ld.length + d.length := by omega
              go_wp2_with fail
              refine (cMx _).mono ?_
              rintro e w8 ⟨rfl, b8⟩
              have z8 := b8.size
              have hK8 := hK7.below b8 hK7.lt
              have ow8 := zf ow7 b8
              have g8 := g7.trans (b8.mono (by omega))
              have q8 := (ow8.lt g2 rfl)
              have F := fun j => ow8.frozenAt j
              have G0 : ∃ v, w8.cell? ⟨g2, mz.length * 4, none⟩ = some v := ⟨_, (ow8.cellAt (mz.length * 4) (by omega)).trans (List.getElem?_eq_getElem (by rw [vH]; first | omega | (simp; done) | (simp; omega)))⟩
              have G1 : ∃ v, w8.cell? ⟨g2, mz.length * 4 + 1, none⟩ = some v := ⟨_, (ow8.cellAt (mz.length * 4 + 1) (by omega)).trans (List.getElem?_eq_getElem (by rw [vH]; first | omega | (simp; done) | (simp; omega)))⟩
              have G2 : ∃ v, w8.cell? ⟨g2, mz.length * 4 + 2, none⟩ = some v := ⟨_, (ow8.cellAt (mz.length * 4 + 2) (by omega)).trans (List.getElem?_eq_getElem (by rw [vH]; first | omega | (simp; done) | (simp; omega)))⟩
              have G3 : ∃ v, w8.cell? ⟨g2, mz.length * 4 + 3, none⟩ = some v := ⟨_, (ow8.cellAt (mz.length * 4 + 3) (by omega)).trans (List.getElem?_eq_getElem (by rw [vH]; first | omega | (simp; done) | (simp; omega)))⟩
              obtain ⟨v0, G0⟩ := G0
              obtain ⟨v1, G1⟩ := G1
              obtain ⟨v2, G2⟩ := G2
              obtain ⟨v3, G3⟩ := G3
              have ow9 := ((((ow8.stored (mz.length * 4 + 0) (.int .i64 m2)).1.stored (mz.length * 4 + 1) (.bool s)).1.stored (mz.length * 4 + 2) (.int .i64 m4)).1.stored (mz.length * 4 + 3) (.string ⟨U.toArray⟩)).1
              rw [hset] at ow9
              have hK9 := (((hK8.far (p := ⟨g2, mz.length * 4 + 0, none⟩) (by show w.heap.size ≠ g2; omega) (.int .i64 m2)).far (p := ⟨g2, mz.length * 4 + 1, none⟩) (by show w.heap.size ≠ g2; omega) (.bool s)).far (p := ⟨g2, mz.length * 4 + 2, none⟩) (by show w.heap.size ≠ g2; omega) (.int .i64 m4)).far (p := ⟨g2, mz.length * 4 + 3, none⟩) (by show w.heap.size ≠ g2; omega) (.string ⟨U.toArray⟩)
              have g9 : Below w3.heap.size w3 ((((w8.setCell ⟨g2, mz.length * 4 + 0, none⟩ (.int .i64 m2)).setCell ⟨g2, mz.length * 4 + 1, none⟩ (.bool s)).setCell ⟨g2, mz.length * 4 + 2, none⟩ (.int .i64 m4)).setCell ⟨g2, mz.length * 4 + 3, none⟩ (.string ⟨U.toArray⟩)) := zH
              simp only [Nat.add_zero] at ow9 hK9 g9
              clear hK7 hK8 ow7 ow8 g7 g8 b8 hX7 cMx hset
              go_upto_region 8 with (fail)
              generalize (((w8.setCell ⟨g2, mz.length * 4, none⟩ (.int .i64 m2)).setCell ⟨g2, mz.length * 4 + 1, none⟩ (.bool s)).setCell ⟨g2, mz.length * 4 + 2, none⟩ (.int .i64 m4)).setCell ⟨g2, mz.length * 4 + 3, none⟩ (.string ⟨U.toArray⟩) = w9 at *
              have hol : (mz ++ [(⟨m2, s, m4, U⟩ : Blk)]).length = mz.length + 1 := by simp
              have HOL := Go.Lib.hid hol
              have ow10 : w9.ownsRow w3.heap.size 138 4 (.slice (some ⟨g2, 0, none⟩) (mz ++ [(⟨m2, s, m4, U⟩ : Blk)]).length co) (mz ++ [(⟨m2, s, m4, U⟩ : Blk)]).length (yD (mz ++ [(⟨m2, s, m4, U⟩ : Blk)])) := by rw [hol]; exact ow9
              clear F G0 G1 G2 G3 ow9 hol
              go_wp2
              go_roundw
              case rel => exact ⟨k + 1, mz ++ [(⟨m2, s, m4, U⟩ : Blk)], ld ++ d, y ++ d, _, co, (by rw [HOL.out]), by go_num, by omega, HST2, HMS2, ow10, hK9, g9⟩
              case measure => simp [intOf]; omega
            · have hjn : ¬ (ld.length : Int) + n4 ≤ size := by omega
              have HX : Hid (rU K size (mz ++ [lb], ld) ⟨n2, r, n4, T⟩ d = (mz ++ [lb] ++ [⟨n2, r, n4, T⟩], d)) := by show _ = _; unfold rU; rw [if_neg (fun h => hj h.2)]
              have HST2 := Go.Lib.hid (HST.out.trans (congrArg some HX.out))
              have HMS2 : Hid (iC K size (mz ++ [lb] ++ [⟨n2, r, n4, T⟩], d) (k + 1) (y ++ d)) := by have := HMS.out; rw [HX.out] at this; exact this
              have hm1 : mz.length + 1 + 1 ≤ maxLen := by unfold maxLen; omega
              have hm2 : (mz.length + 1 + 1) * 40 ≤ 140737488355328 := by omega
              clear HST HMS HX HMG hlast1 hlast2 hne hlbok e0 e1 e3
              go_wp2_with fail
              go_quiet (fail)
              have bq := World.oZ wr nq
              have hKq := hK.below bq hK.lt
              have owq := zf ow bq
              have gq := g.trans (bq.mono (by omega))
              have hgq := Nat.lt_of_lt_of_le hg bq.size
              have q0 := (bq.cell (p := ⟨gb, off + k * 4, none⟩) hg).trans c0
              have q1 := (bq.cell (p := ⟨gb, off + k * 4 + 1, none⟩) hg).trans c1'
              have q2 := (bq.cell (p := ⟨gb, off + k * 4 + 2, none⟩) hg).trans c2
              have q3 := (bq.cell (p := ⟨gb, off + k * 4 + 3, none⟩) hg).trans c3
              clear hK ow g hg c0 c1' c2 c3 bq hX C2 E2 e2
              generalize wr.drewN nq = wr at *
              have hK := hKq
              have ow := owq
              have g := gq
              have zg := g.size
              have hg := hgq
              have c0 := q0
              have c1' := q1
              have c2 := q2
              have c3 := q3
              have hX := hK.cell
              clear hKq owq gq hgq q0 q1 q2 q3
              go_wp2_with (at_builtin; go_must (refine yh _ rfl _ _ 96 rfl (w3.heap.size) 138 i _ 4 40 Tryz.underlying96 hi hz0 hz1 hz2 rfl (by omega) _ _ _ rfl (ow.alloc _) _ 1 1 [.int .i64 n2, .bool r, .int .i64 n4, .string ⟨T.toArray⟩] rfl (Sl.newAt wr #[.int .i64 n2, .bool r, .int .i64 n4, .string ⟨T.toArray⟩] _ 1 4 (by first | rfl | simp) (by simp) (by omega)) (by simp [Value.oneCell']) hm1 hm2 ?_ ?_))
              try (case refine_1 => first | omega | (simp <;> omega; done))
              intro A5 cap5 w5 o5 hg5 _
              have g5 := yR g hg5 (by first | omega | (simp; omega)) (fun k hk => by have := (ow.lt k hk).1; omega)
              have hK5 := Bk.grown (hK.alloc _) hg5 (fun k hk => by have := (ow.lt k hk).1; omega)
              have hol : (mz ++ [lb] ++ [(⟨n2, r, n4, T⟩ : Blk)]).length = mz.length + 1 + 1 := by simp
              have HOL := Go.Lib.hid hol
              have o5' : w5.ownsRow w3.heap.size 138 4 (.slice A5 (mz ++ [lb] ++ [(⟨n2, r, n4, T⟩ : Blk)]).length cap5) (mz ++ [lb] ++ [(⟨n2, r, n4, T⟩ : Blk)]).length (yD (mz ++ [lb] ++ [(⟨n2, r, n4, T⟩ : Blk)])) := by rw [hol, wZ]; exact o5
              clear o5 hg5 ow hK g hX c0 c1' c2 c3 hol
              go_wp2
              go_roundw
              case rel => exact ⟨k + 1, mz ++ [lb] ++ [(⟨n2, r, n4, T⟩ : Blk)], d, y ++ d, A5, cap5, (by rw [HOL.out]), by go_num, by omega, HST2, HMS2, o5', hK5, g5⟩
              case measure => simp [intOf]; omega
        · have hki : ¬ (k : Int) < bs.length := by omega
          have HE := HR.out (ms, ld) (by rw [← HM.out, List.take_of_length_le (by omega)])
          have hsb := Sl.own ow
          have cE := pF ms Ao co wr hsb HMG.out.ok (by omega)
          have gw := HG3.out wr g
          have zw := gw.size
          rw [← HE] at cE
          have hre : Hid (R = mcO ms) := HE
          clear HE HMG HM
          go_wp2_with fail
          refine cE.mono ?_
          rintro e w7 ⟨rfl, b7⟩
          have g7 := gw.trans (b7.mono (by omega))
          unfold xx
          go_wp2
          exact bodyPost_ret (v := .tuple #[sv (R.getD []), .bool R.isSome]) (by simp [results, Tryz.results117, go_sem]) rfl ⟨rfl, g7⟩
end Go.Proofs.YtinncdollpajkaaGreat
