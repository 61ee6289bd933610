import Derived.Test.YtinncdollpajkaaGreatKJ28
import Derived.Test.YtinncdollpajkaaGreatKS25
import Derived.Deep.Cut
set_option linter.unusedVariables false
set_option linter.unusedSimpArgs false
set_option maxHeartbeats 8000000
namespace Go.Proofs.YtinncdollpajkaaGreat
open Go.RowKit
set_option maxRecDepth 100000
attribute [local go_sem high] zy zx zu zS zK yc zA zk zl zq zi zo yO zF yl zD
theorem jS (o l m : Int) (dict t : Bs) (size : Int) (w : World) (hl : dict.length ≤ 9223372036854775807) (htl : t.length ≤ 1500000) (hs0 : -1000000 ≤ size) (hs1 : size ≤ 1000000) :
    Calls Tryz.prog 123 #[.agg #[.int .i64 o, .int .i64 l, .int .i64 m], sv dict, sv t, .int .i64 size] w fun e w' => e = yf (mgD o l m dict t size) ∧ Below w.heap.size w w' := by
  obtain ⟨i, hi, hz0, hz1, hz2⟩ := info_parts xK
  by_cases hfb : fits o l m dict ∧ (zM t).isSome = true
  case neg =>
    have cS := fun w => qP o l m dict t w hfb hl htl
    have hE : mgD o l m dict t size = none := by
      unfold mgD
      split
      · rename_i hf
        cases hb : zM t with
        | none => rfl
        | some bs => exact absurd ⟨hf.1, by rw [hb]; rfl⟩ hfb
      · rfl
    rw [hE]
    unfold yf
    clear hE hfb
    go_enter Tryz.func123, Tryz.ntmps123
    have hK0 : Bk (w.alloc (.cells #[.int .i64 o, .int .i64 l, .int .i64 m] 24)) w.heap.size 24 #[.int .i64 o, .int .i64 l, .int .i64 m] := tBk
    have g0 : Below w.heap.size w (w.alloc (.cells #[.int .i64 o, .int .i64 l, .int .i64 m] 24)) := zG
    go_upto_region 1 with (fail)
    generalize w.alloc (.cells #[.int .i64 o, .int .i64 l, .int .i64 m] 24) = w0 at *
    have hX0 := hK0.cell
    have hz0' := hK0.lt
    go_wp2_with fail
    refine (cS _).mono ?_
    rintro e w1 ⟨rfl, hb1⟩
    have g1 := g0.trans (hb1.mono (by omega))
    have hz1' := g1.size
    go_wp2
    exact bodyPost_ret (v := .tuple #[sv [], .bool false]) (by simp [results, Tryz.results123, go_sem]) rfl ⟨rfl, zG⟩
  obtain ⟨hf, hbs⟩ := hfb
  obtain ⟨bs, hB⟩ := Option.isSome_iff_exists.1 hbs
  have cS := fun w => qi o l m dict t bs w hf hB htl
  unfold YJ at cS
  have hk := xm hf
  have hbok := xA hB
  have hb40 := (xh hB).2
  have HN : Hid (¬ (1 ≤ size ∧ size ≤ 64) → mgD o l m dict t size = none) := fun h => by unfold mgD; rw [if_neg (fun hh => h hh.2)]
  have HRD : Hid (1 ≤ size ∧ size ≤ 64 → mgD o l m dict t size = (sG (zt o l m dict) size ([], []) bs).bind fun a => mcO a.1) := fun h => by unfold mgD; rw [if_pos ⟨hf, h.1, h.2⟩, hB]; rfl
  obtain ⟨R, hR⟩ : ∃ R, mgD o l m dict t size = R := ⟨_, rfl⟩
  rw [hR] at HN HRD ⊢
  clear hR hf hB hbs
  have HOK := Go.Lib.hid hbok
  have HK := Go.Lib.hid hk
  have cD : Hid (∀ A cap b wr, Sl wr A (zt o l m dict).ps.length cap 2 (psV (zt o l m dict).ps) → b.ok = true → Calls Tryz.prog 108 #[knV (zt o l m dict) A cap, bkV b] wr fun e w' => e = yP (b.dat (zt o l m dict)) ∧ Below wr.heap.size wr w') := fun A cap b wr h hb => qC _ A cap b wr hk h (by have := sH hb; omega)
  have cM : Hid (∀ A cap (x : Bs) wr, Sl wr A (zt o l m dict).ps.length cap 2 (psV (zt o l m dict).ps) → x.length ≤ 2000 → Calls Tryz.prog 157 #[knV (zt o l m dict) A cap, sv x] wr fun e w' => e = .returned (bkV (xB (zt o l m dict) 0 x)) ∧ Below wr.heap.size wr w') := fun A cap x wr h hx => qw _ A cap x wr hk h (by omega)
  clear hbok hk
  generalize zt o l m dict = K at *
  go_enter Tryz.func123, Tryz.ntmps123
  have hK0 : Bk (w.alloc (.cells #[.int .i64 o, .int .i64 l, .int .i64 m] 24)) w.heap.size 24 #[.int .i64 o, .int .i64 l, .int .i64 m] := tBk
  have g0 : Below w.heap.size w (w.alloc (.cells #[.int .i64 o, .int .i64 l, .int .i64 m] 24)) := zG
  go_upto_region 1 with (fail)
  generalize w.alloc (.cells #[.int .i64 o, .int .i64 l, .int .i64 m] 24) = w0 at *
  have hX0 := hK0.cell
  have hl0 := hK0.lt
  go_wp2_with fail
  refine (cS _).mono ?_
  rintro e w1 ⟨A1, c1, A2, c2, rfl, o1, p1, b1⟩
  have z1 := b1.size
  have g1 := g0.trans (b1.mono (by omega))
  have hB2 := Bk.new w1 (knC K A1 c1) 102
  have o2 := o1.alloc (.cells (knC K A1 c1) 102)
  have p2 := p1.alloc (.cells (knC K A1 c1) 102)
  have g2 := g1.alloc (by omega) (.cells (knC K A1 c1) 102)
  clear b1 hX0 hK0 g0 o1 p1 g1 cS
  go_upto_region 2 with (fail)
  unfold knC at hB2 o2 p2 g2
  generalize w1.alloc (.cells #[.int .i64 K.o, .int .i64 K.l, .int .i64 K.m, .slice A1 K.ps.length c1, .int .i64 K.base, .int .i64 K.last] 102) = W at *
  generalize w1.heap.size = q1 at *
  have hl2 := hB2.lt
  have zg2 := g2.size
  by_cases hq : 1 ≤ size ∧ size ≤ 64
  case neg =>
    have hE := HN.out hq
    subst hE
    have hd2 := decide_eq_false hq
    clear HN HRD hq cD cM
    go_wp2_with fail
    refine (yY _ _).mono ?_
    rintro e w' ⟨rfl, rfl⟩
    rw [hd2]
    go_wp2
    exact bodyPost_ret (v := .tuple #[sv [], .bool false]) (by simp [results, Tryz.results123, go_sem]) rfl ⟨rfl, g2⟩
  have hd2 := decide_eq_true hq
  have hE := HRD.out hq
  obtain ⟨hsz1, hsz2⟩ := hq
  have HR : Hid (∀ a, sG K size ([], []) bs = some a → R = mcO a.1) := fun a ha => by rw [hE, ha]; rfl
  have HR0 : Hid (sG K size ([], []) bs = none → R = none) := fun ha => by rw [hE, ha]; rfl
  have s2 := Sl.own o2
  have t2 := Sl.own p2
  have hcap := t2.1
  have hcap2 := t2.2.1
  have HSK : Hid (∀ wr, Below W.heap.size W wr → Sl wr A1 K.ps.length c1 2 (psV K.ps)) := fun wr h => s2.below h
  have HSL : Hid (∀ wr, Below W.heap.size W wr → Sl wr A2 bs.length c2 4 (zO bs)) := fun wr h => t2.below h
  have HGW : Hid (∀ wr, Below W.heap.size W wr → Below w.heap.size w wr) := fun wr h => g2.trans (h.mono (by omega))
  have HBK : Hid (∀ wr, Below W.heap.size W wr → Bk wr q1 102 #[.int .i64 K.o, .int .i64 K.l, .int .i64 K.m, .slice A1 K.ps.length c1, .int .i64 K.base, .int .i64 K.last]) := fun wr h => hB2.below h hl2
  have o0 : W.ownsRow W.heap.size 138 4 (.slice none ([] : List Blk).length 0) ([] : List Blk).length (zO []) := ⟨by simp [zO], .inl ⟨rfl, rfl⟩⟩
  have g3 : Below W.heap.size W W := Below.refl _ _
  clear hE HN HRD s2 t2 hB2 o2 p2 g2
  go_wp2_with fail
  refine (yY _ _).mono ?_
  rintro e w' ⟨rfl, rfl⟩
  rw [hd2]
  go_wp2
  go_loopw [13, 14, 37] (fun a b c wr => ∃ (k : Nat) (ms : List Blk) (ld y : Bs) (Ao : Option Addr) (co : Nat), a = .slice Ao ms.length co ∧ b = .string ⟨ld.toArray⟩ ∧ c = .int .i64 (k : Int) ∧ k ≤ bs.length ∧ ld.length ≤ 64 ∧ Hid (sG K size ([], []) (bs.take k) = some (ms, ld)) ∧ Hid (qO K size (ms, ld) k y) ∧ wr.ownsRow W.heap.size 138 4 (.slice Ao ms.length co) ms.length (zO ms) ∧ Below W.heap.size W wr) (fun _ _ c _ => bs.length - (intOf c).toNat)
  case atStart => exact ⟨0, [], [], [], none, 0, rfl, rfl, rfl, by omega, by simp, rfl, qO.zero K size, o0, g3⟩
  case round =>
    obtain ⟨k, ms, ld, y, Ao, co, rfl, rfl, rfl, hk, hld, HM, HMG, ow, g⟩ := hrel
    clear o0 g3
    have hz := g.size
    have hmn : ms.length ≤ k := HMG.out.len
    by_cases hlt : k < bs.length
    · have hki : (k : Int) < bs.length := by omega
      have hsA := HSL.out wr g
      obtain ⟨gb, off, rfl, hg, hc⟩ := Sl.oI hsA hlt
      have hcs := tq bs k hlt
      have c0 := hc 0 _ hcs.1
      have c1' := hc 1 _ hcs.2.1
      have c2' := hc 2 _ hcs.2.2.1
      have c3 := hc 3 _ hcs.2.2.2
      have hbo := HOK.out bs[k] (List.getElem_mem hlt)
      have hbs := Blk.wG hbo
      have HSTP : Hid (∀ d, bs[k].dat K = some d → sG K size ([], []) (bs.take (k + 1)) = some (wQ K size (ms, ld) bs[k] d)) := fun d hd => jU hlt HM.out hd
      have HSTN : Hid (bs[k].dat K = none → R = none) := fun hd => HR0.out (V9 hlt hd)
      have HMSP : Hid (∀ d, bs[k].dat K = some d → qO K size (wQ K size (ms, ld) bs[k] d) (k + 1) (y ++ d)) := fun d hd => HMG.out.step HK.out hsz2 hbo hd
      have CDK : Hid (∀ wr, Below W.heap.size W wr → Calls Tryz.prog 108 #[knV K A1 c1, bkV bs[k]] wr fun e w' => e = yP (bs[k].dat K) ∧ Below wr.heap.size wr w') := fun wr h => cD.out _ _ bs[k] wr (HSK.out wr h) hbo
      have HDL : Hid (∀ D, bs[k].dat K = some D → (D.length : Int) = bs[k].size) := fun D h => vY hbo h
      generalize bs[k] = b at *
      clear hc hcs hsA HM hbo
      obtain ⟨n2, r, n4, T⟩ := b
      simp only [Nat.add_zero] at c0 c1' c2' c3 hbs
      obtain ⟨hb1, hb2, hb3, hb4⟩ := hbs
      have hN := Bk.new wr (bkC ⟨n2, r, n4, T⟩) 138
      have ow2 := ow.alloc (.cells (bkC ⟨n2, r, n4, T⟩) 138)
      have gg2 := g.alloc (by omega) (.cells (bkC ⟨n2, r, n4, T⟩) 138)
      go_upto_region 9 with (fail)
      generalize wr.alloc (.cells _ 138) = V at *
      have hNl := hN.lt
      have hXN := hN.cell
      have zz := gg2.size
      have hq1 : W.heap.size ≤ wr.heap.size := hz
      generalize wr.heap.size = q at *
      have hKb := HBK.out _ gg2
      have hXK := hKb.cell
      clear ow g c0 c1' c2' c3
      go_wp2_with fail
      refine (CDK.out _ gg2).mono ?_
      rintro e w5 ⟨rfl, b5⟩
      have z5 := b5.size
      have hN5 := hN.below b5 hNl
      have ow5 := zf ow2 b5
      have g5 := gg2.trans (b5.mono (by omega))
      have hKb5 := HBK.out _ g5
      have hX5 := hKb5.cell
      have hXN5 := hN5.cell
      clear hXN hN hXK hKb ow2 gg2 b5 CDK
      cases hD : (⟨n2, r, n4, T⟩ : Blk).dat K with
      | none =>
        have hE0 := HSTN.out hD
        subst hE0
        have gw := HGW.out _ g5
        unfold yP
        simp only [Option.getD_none, Option.isSome_none]
        clear HSTN HSTP HMSP HR HR0
        go_wp2
        exact bodyPost_ret (v := .tuple #[sv [], .bool false]) (by simp [results, Tryz.results123, go_sem]) rfl ⟨rfl, gw⟩
      | some d =>
        have hDl : (d.length : Int) = n4 := HDL.out d hD
        have HST := Go.Lib.hid (HSTP.out d hD)
        have HMS := Go.Lib.hid (HMSP.out d hD)
        unfold yP
        simp only [Option.getD_some, Option.isSome_some]
        clear HSTN HSTP HMSP HDL hD
        have hd64 : d.length ≤ 64 := by omega
        clear hDl
        rcases List.eq_nil_or_concat ms with rfl | ⟨mz, lb, hms⟩
        · -- the first block
          have HX : Hid (wQ K size (([] : List Blk), ld) ⟨n2, r, n4, T⟩ d = ([⟨n2, r, n4, T⟩], d)) := by show _ = _; unfold wQ; rw [if_neg (fun h => h.1 rfl)]; rfl
          have HST2 := Go.Lib.hid (HST.out.trans (congrArg some HX.out))
          have HMS2 : Hid (qO K size ([⟨n2, r, n4, T⟩], d) (k + 1) (y ++ d)) := by have := HMS.out; rw [HX.out] at this; exact this
          have hm1 : (0 : Nat) + 1 ≤ maxLen := by unfold maxLen; omega
          have hm2 : ((0 : Nat) + 1) * 40 ≤ 140737488355328 := by omega
          clear HST HMS HX HMG
          go_wp2_with (at_builtin; go_must (refine zL _ rfl _ _ 96 rfl (W.heap.size) 138 i _ 4 40 Tryz.underlying96 hi hz0 hz1 hz2 rfl (by omega) _ _ _ rfl (ow5.alloc _) _ 1 1 [.int .i64 n2, .bool r, .int .i64 n4, .string ⟨T.toArray⟩] rfl (Sl.newAt w5 #[.int .i64 n2, .bool r, .int .i64 n4, .string ⟨T.toArray⟩] _ 1 4 (by first | rfl | simp) (by simp) (by omega)) (by simp [Value.oneCell']) hm1 hm2 ?_ ?_))
          try (case refine_1 => first | omega | (simp <;> omega; done))
          intro A6 cap6 w6 o6 hg6 _
          have g6 := yj g5 hg6 (by first | omega | (simp; omega)) (fun k hk => by have := (ow5.lt k hk).1; omega)
          have o6' : w6.ownsRow W.heap.size 138 4 (.slice A6 [(⟨n2, r, n4, T⟩ : Blk)].length cap6) [(⟨n2, r, n4, T⟩ : Blk)].length (zO [(⟨n2, r, n4, T⟩ : Blk)]) := o6
          clear o6 hg6 ow5 g5 hX5 hXN5 hN5 hKb5
          go_wp2
          go_roundw
          case rel => exact ⟨k + 1, [(⟨n2, r, n4, T⟩ : Blk)], d, y ++ d, A6, cap6, rfl, rfl, by go_num, by omega, hd64, HST2, HMS2, o6', g6⟩
          case measure => simp [intOf]; omega
        · -- behind others
          rw [List.concat_eq_append] at hms
          subst hms
          have hne : mz ++ [lb] ≠ [] := by simp
          simp only [List.length_append, List.length_singleton] at ow5 hmn ⊢
          by_cases hj : (ld.length : Int) + d.length ≤ size
          · have HX : Hid (wQ K size (mz ++ [lb], ld) ⟨n2, r, n4, T⟩ d = (mz ++ [xB K 0 (ld ++ d)], ld ++ d)) := by show _ = _; unfold wQ; rw [if_pos ⟨hne, hj⟩, List.dropLast_concat]
            have HST2 := Go.Lib.hid (HST.out.trans (congrArg some HX.out))
            have HMS2 : Hid (qO K size (mz ++ [xB K 0 (ld ++ d)], ld ++ d) (k + 1) (y ++ d)) := by have := HMS.out; rw [HX.out] at this; exact this
            have cMx : Hid (∀ wr, Below W.heap.size W wr → Calls Tryz.prog 157 #[knV K A1 c1, sv (ld ++ d)] wr fun e w' => e = .returned (bkV (xB K 0 (ld ++ d))) ∧ Below wr.heap.size wr w') := fun wr h => cM.out _ _ (ld ++ d) wr (HSK.out wr h) (by rw [List.length_append]; omega)
            have hset := YK mz lb (xB K 0 (ld ++ d))
            have hl64 : (ld ++ d).length ≤ 64 := by rw [List.length_append]; omega
            generalize xB K 0 (ld ++ d) = c at *
            obtain ⟨m2, s, m4, U⟩ := c
            simp only at hset
            clear HST HMS HX HMG hne
            have hlen : ¬ 9223372036854775807 < ld.length + d.length := by omega
            go_wp2_with fail
            refine (cMx.out _ g5).mono ?_
            rintro e w8 ⟨rfl, b8⟩
            have z8 := b8.size
            have ow8 := zf ow5 b8
            have g8 := g5.trans (b8.mono (by omega))
            obtain ⟨g2, cap2, hform⟩ : ∃ g cap, Value.slice Ao (mz.length + 1) co = .slice (some ⟨g, 0, none⟩) (mz.length + 1) cap := by
              rcases ow8.2 with ⟨h1, h2⟩ | ⟨g, cap, cur, h1, _⟩
              · omega
              · exact ⟨g, cap, h1⟩
            injection hform with hA2 _ hc2
            subst hA2 hc2
            have q8 := (ow8.lt g2 rfl)
            have F := fun j => ow8.frozenAt j
            have G0 : ∃ v, w8.cell? ⟨g2, mz.length * 4, none⟩ = some v := ⟨_, (ow8.cellAt (mz.length * 4) (by omega)).trans (List.getElem?_eq_getElem (by rw [xG]; first | omega | (simp; done) | (simp; omega)))⟩
            have G1 : ∃ v, w8.cell? ⟨g2, mz.length * 4 + 1, none⟩ = some v := ⟨_, (ow8.cellAt (mz.length * 4 + 1) (by omega)).trans (List.getElem?_eq_getElem (by rw [xG]; first | omega | (simp; done) | (simp; omega)))⟩
            have G2 : ∃ v, w8.cell? ⟨g2, mz.length * 4 + 2, none⟩ = some v := ⟨_, (ow8.cellAt (mz.length * 4 + 2) (by omega)).trans (List.getElem?_eq_getElem (by rw [xG]; first | omega | (simp; done) | (simp; omega)))⟩
            have G3 : ∃ v, w8.cell? ⟨g2, mz.length * 4 + 3, none⟩ = some v := ⟨_, (ow8.cellAt (mz.length * 4 + 3) (by omega)).trans (List.getElem?_eq_getElem (by rw [xG]; first | omega | (simp; done) | (simp; omega)))⟩
            obtain ⟨v0, G0⟩ := G0
            obtain ⟨v1, G1⟩ := G1
            obtain ⟨v2, G2⟩ := G2
            obtain ⟨v3, G3⟩ := G3
            have ow9 := ((((ow8.stored (mz.length * 4 + 0) (.int .i64 m2)).1.stored (mz.length * 4 + 1) (.bool s)).1.stored (mz.length * 4 + 2) (.int .i64 m4)).1.stored (mz.length * 4 + 3) (.string ⟨U.toArray⟩)).1
            rw [hset] at ow9
            have g9 : Below W.heap.size W ((((w8.setCell ⟨g2, mz.length * 4 + 0, none⟩ (.int .i64 m2)).setCell ⟨g2, mz.length * 4 + 1, none⟩ (.bool s)).setCell ⟨g2, mz.length * 4 + 2, none⟩ (.int .i64 m4)).setCell ⟨g2, mz.length * 4 + 3, none⟩ (.string ⟨U.toArray⟩)) := zG
            simp only [Nat.add_zero] at ow9 g9
            clear ow5 g5 b8 cMx hset hX5 hXN5 hN5 hKb5
            go_upto_region 18 with (fail)
            generalize (((w8.setCell ⟨g2, mz.length * 4, none⟩ (.int .i64 m2)).setCell ⟨g2, mz.length * 4 + 1, none⟩ (.bool s)).setCell ⟨g2, mz.length * 4 + 2, none⟩ (.int .i64 m4)).setCell ⟨g2, mz.length * 4 + 3, none⟩ (.string ⟨U.toArray⟩) = w9 at *
            have hol : (mz ++ [(⟨m2, s, m4, U⟩ : Blk)]).length = mz.length + 1 := by simp
            have HOL := Go.Lib.hid hol
            have ow10 : w9.ownsRow W.heap.size 138 4 (.slice (some ⟨g2, 0, none⟩) (mz ++ [(⟨m2, s, m4, U⟩ : Blk)]).length co) (mz ++ [(⟨m2, s, m4, U⟩ : Blk)]).length (zO (mz ++ [(⟨m2, s, m4, U⟩ : Blk)])) := by rw [hol]; exact ow9
            clear F G0 G1 G2 G3 ow9 hol
            go_wp2
            go_roundw
            case rel => exact ⟨k + 1, mz ++ [(⟨m2, s, m4, U⟩ : Blk)], ld ++ d, y ++ d, _, co, (by rw [HOL.out]), rfl, by go_num, by omega, hl64, HST2, HMS2, ow10, g9⟩
            case measure => simp [intOf]; omega
          · have HX : Hid (wQ K size (mz ++ [lb], ld) ⟨n2, r, n4, T⟩ d = (mz ++ [lb] ++ [⟨n2, r, n4, T⟩], d)) := by show _ = _; unfold wQ; rw [if_neg (fun h => hj h.2)]
            have HST2 := Go.Lib.hid (HST.out.trans (congrArg some HX.out))
            have HMS2 : Hid (qO K size (mz ++ [lb] ++ [⟨n2, r, n4, T⟩], d) (k + 1) (y ++ d)) := by have := HMS.out; rw [HX.out] at this; exact this
            have hm1 : mz.length + 1 + 1 ≤ maxLen := by unfold maxLen; omega
            have hm2 : (mz.length + 1 + 1) * 40 ≤ 140737488355328 := by omega
            clear HST HMS HX HMG hne
            go_wp2_with (at_builtin; go_must (refine zL _ rfl _ _ 96 rfl (W.heap.size) 138 i _ 4 40 Tryz.underlying96 hi hz0 hz1 hz2 rfl (by omega) _ _ _ rfl (ow5.alloc _) _ 1 1 [.int .i64 n2, .bool r, .int .i64 n4, .string ⟨T.toArray⟩] rfl (Sl.newAt w5 #[.int .i64 n2, .bool r, .int .i64 n4, .string ⟨T.toArray⟩] _ 1 4 (by first | rfl | simp) (by simp) (by omega)) (by simp [Value.oneCell']) hm1 hm2 ?_ ?_))
            try (case refine_1 => first | omega | (simp <;> omega; done))
            intro A6 cap6 w6 o6 hg6 _
            have g6 := yj g5 hg6 (by first | omega | (simp; omega)) (fun k hk => by have := (ow5.lt k hk).1; omega)
            have hol : (mz ++ [lb] ++ [(⟨n2, r, n4, T⟩ : Blk)]).length = mz.length + 1 + 1 := by simp
            have HOL := Go.Lib.hid hol
            have o6' : w6.ownsRow W.heap.size 138 4 (.slice A6 (mz ++ [lb] ++ [(⟨n2, r, n4, T⟩ : Blk)]).length cap6) (mz ++ [lb] ++ [(⟨n2, r, n4, T⟩ : Blk)]).length (zO (mz ++ [lb] ++ [(⟨n2, r, n4, T⟩ : Blk)])) := by rw [hol, xu]; exact o6
            clear o6 hg6 ow5 g5 hX5 hXN5 hN5 hKb5 hol
            go_wp2
            go_roundw
            case rel => exact ⟨k + 1, mz ++ [lb] ++ [(⟨n2, r, n4, T⟩ : Blk)], d, y ++ d, A6, cap6, (by rw [HOL.out]), rfl, by go_num, by omega, hd64, HST2, HMS2, o6', g6⟩
            case measure => simp [intOf]; omega
    · have hki : ¬ (k : Int) < bs.length := by omega
      have HE := HR.out (ms, ld) (by rw [← HM.out, List.take_of_length_le (by omega)])
      have hsb := Sl.own ow
      have cE := rV ms Ao co wr hsb HMG.out.ok (by omega)
      have gw := HGW.out wr g
      have zw := gw.size
      rw [← HE] at cE
      have hre : Hid (R = mcO ms) := HE
      clear HE HMG HM
      go_wp2_with fail
      refine cE.mono ?_
      rintro e w7 ⟨rfl, b7⟩
      have g7 := gw.trans (b7.mono (by omega))
      unfold yf
      go_wp2
      exact bodyPost_ret (v := .tuple #[sv (R.getD []), .bool R.isSome]) (by simp [results, Tryz.results123, go_sem]) rfl ⟨rfl, g7⟩
end Go.Proofs.YtinncdollpajkaaGreat
