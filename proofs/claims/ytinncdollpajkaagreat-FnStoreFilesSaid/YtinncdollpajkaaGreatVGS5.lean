import Derived.Test.YtinncdollpajkaaGreatVGS4
import Derived.Test.YtinncdollpajkaaGreatVGA
import Derived.Test.YtinncdollpajkaaGreatVGT
import Derived.Test.YtinncdollpajkaaGreatVGD2
set_option linter.unusedVariables false
set_option linter.unusedSimpArgs false
set_option maxHeartbeats 8000000
namespace Go.Proofs.YtinncdollpajkaaGreat
open Go.RowKit
set_option maxRecDepth 100000
attribute [local go_sem high] zA zu zy zO zK zX zx zk zn zq zi zo yQ zC yf zD
theorem Zg (o : Int) (l : Bs) (k : Nat) (h : k < l.length) : zJ o (l.take (k + 1)) = zJ o (l.take k) ++ zU o l[k].toNat 8 := by
 rw [List.take_succ_eq_append_getElem h]; unfold zJ; rw [List.flatMap_append]; simp
theorem YN (o : Int) (l : Bs) (w : World) (hl : l.length ≤ 4000) :
  Calls Tryz.prog 220 #[.int .i64 o, sv l] w fun e w' => e = .returned (sv (zJ o l)) ∧ Below w.heap.size w w' := by
 obtain ⟨i, hi, hz0, hz1, hz2⟩ := info_parts wu
 go_enter Tryz.func220, Tryz.ntmps220
 go_wp2_with (at_make; go_must (refine wpList_make_own _ rfl _ _ 22 rfl w.heap.size 5 i (.int .u8 0) 1 Tryz.underlying22 hi hz0 hz1 _ _ _ (8 * l.length) rfl rfl (by omega) (by rw [hz2]; omega) (by unfold maxLen; omega) (Nat.le_refl _) ?_); intro w1 hown hg1)
 have g1 : Below w.heap.size w w1 := (Below.refl _ _).grown hg1 (Nat.le_refl _) (by simp)
 clear hg1
 go_loopw [5, 6] (fun a v wr => ∃ (k : Nat) (A : Option Addr) (cap : Nat), k ≤ l.length ∧ a = .slice A (zJ o (l.take k)).length cap ∧ v = .int .i64 (k : Int) ∧ wr.ownsRow w.heap.size 5 1 (.slice A (zJ o (l.take k)).length cap) (zJ o (l.take k)).length ((zJ o (l.take k)).map u8v) ∧ Below w.heap.size w wr) (fun _ v _ => l.length - (intOf v).toNat)
 case atStart =>
  exact ⟨0, some ⟨w.heap.size, 0, none⟩, 8 * l.length, by omega, by simp [zJ], rfl, by simpa [zJ] using hown, g1⟩
 case round =>
  obtain ⟨k, A, cap, hk, rfl, rfl, hown, hb⟩ := hrel
  have hz := hb.size
  have hul : (zJ o (l.take k)).length = 8 * k := by rw [uB, List.length_take]; omega
  by_cases hlt : k < l.length
  ·have hki : (k : Int) < l.length := by omega
   have hby : byteAt l (k : Int) = ((l[k].toNat : Nat) : Int) := zV l k hlt
   have HSN := Go.Lib.hid (Zg o l k hlt)
   have hx255 : l[k].toNat ≤ 255 := by have := l[k].toNat_lt; omega
   generalize l[k].toNat = x at *
   obtain ⟨P, hP⟩ : ∃ P, zJ o (l.take k) = P := ⟨_, rfl⟩
   rw [hP] at hown hul HSN ⊢
   clear hP
   have cC := aS o x 8 wr (by omega) (by omega)
   have hcl := xg o x 8
   have HUL := Go.Lib.hid hul
   have hpl : P.length ≤ 32000 := by omega
   clear hul
   go_wp2_with fail
   refine cC.mono ?_
   rintro e w2 ⟨rfl, hb2⟩
   have hz2' := hb2.size
   have o2 := zf hown hb2
   have g2 := hb.trans (hb2.mono hz)
   generalize zU o x 8 = T at *
   have HCL := Go.Lib.hid hcl
   have htl : T.length ≤ 8 := by omega
   clear hcl cC hb2 hown
   have ht1 : P.length + T.length ≤ maxLen := by unfold maxLen; omega
   have ht2 : P.length + T.length ≤ 140737488355328 := by omega
   go_wp2_with (at_builtin; go_must (refine ae rfl (.tmp 17) (.tmp 23) 22 9 rfl w.heap.size 5 i Tryz.underlying22 Tryz.underlying9 hi hz0 hz1 hz2 (.slice A P.length cap) P.length (P.map u8v) rfl o2 T rfl ht1 ht2 (by omega) ?_))
   intro A5 c5 w5 o5 hg5
   have g5 := g2.grown hg5 (by omega) (fun q hq => by have := (o2.lt q hq).1; omega)
   have HVY : (P ++ T).length = P.length + T.length := by simp
   have o5' : w5.ownsRow w.heap.size 5 1 (.slice A5 (P ++ T).length c5) (P ++ T).length ((P ++ T).map u8v) := by rw [HVY, List.map_append]; exact o5
   rw [← HVY]
   have HSN2 := HSN.out
   rw [← HSN2] at o5' ⊢
   clear o5 HVY HSN HSN2 o2 g2 hg5 ht1 ht2
   obtain ⟨P2, hP2⟩ : ∃ P2, zJ o (l.take (k + 1)) = P2 := ⟨_, rfl⟩
   rw [hP2] at o5' ⊢
   have HP2 := Go.Lib.hid hP2
   clear hP2
   go_wp2
   go_roundw
   case rel =>
    refine ⟨k + 1, A5, c5, by omega, by rw [HP2.out], by go_num, ?_, g5⟩
    rw [HP2.out]; exact o5'
   case measure => simp [intOf]; omega
  ·have hki : ¬ (k : Int) < l.length := by omega
   have hke : l.take k = l := List.take_of_length_le (by omega)
   rw [hke] at hown ⊢
   clear hke hul
   obtain ⟨P, hP⟩ : ∃ P, zJ o l = P := ⟨_, rfl⟩
   rw [hP] at hown ⊢
   have HP := Go.Lib.hid hP
   clear hP
   have hcv := yH hown
   go_wp2
   go_ret
   exact ⟨by rw [HP.out]; rfl, hb⟩
def iK (K : Kn) (l : Bs) : List Int × Int × Int :=
 if 4000 < l.length then ([], 4, 0) else
  ((zY 3099 K (zJ K.o l) 0).cs, (zY 3099 K (zJ K.o l) 0).fin, if (zY 3099 K (zJ K.o l) 0).fin = 1 then (l.length : Int) else (((zY 3099 K (zJ K.o l) 0).use + 7) / 8 : Nat))
def Oy (x : List Int × Int × Int) (w : World) (e : Ending) (w' : World) : Prop := ∃ A cap, e = .returned (.tuple #[.slice A x.1.length cap, .int .i64 x.2.1, .int .i64 x.2.2]) ∧ w'.ownsRow w.heap.size 3 1 (.slice A x.1.length cap) x.1.length (x.1.map iv) ∧ Below w.heap.size w w'
theorem iQ (K : Kn) (A : Option Addr) (cap : Nat) (l : Bs) (w : World) (hk : K.ok) (hs : Sl w A K.ps.length cap 2 (psV K.ps)) (hll : l.length ≤ 1000000) :
  Calls Tryz.prog 204 #[knV K A cap, sv l] w (Oy (iK K l) w) := by
 have cKV := fun w hs => rX K A cap w hk hs
 obtain ⟨R, hRe⟩ : ∃ R, iK K l = R := ⟨_, rfl⟩
 rw [hRe]
 have HR := Go.Lib.hid hRe
 clear hRe
 go_enter Tryz.func204, Tryz.ntmps204
 have hK0 : Bk ((w.alloc (.cells (knC K A cap) 102)).alloc (.cells #[] 3)) w.heap.size 102 (knC K A cap) := tBk
 have hI0 : Bk ((w.alloc (.cells (knC K A cap) 102)).alloc (.cells #[] 3)) (w.heap.size + 1) 3 #[] := tBk
 have g0 : Below w.heap.size w ((w.alloc (.cells (knC K A cap) 102)).alloc (.cells #[] 3)) := zH
 go_upto_region 4 with (fail)
 generalize (w.alloc (.cells (knC K A cap) 102)).alloc (.cells #[] 3) = w0 at *
 have o0 := vw (base := w.heap.size + 1) (size := 1) hI0 (by omega)
 have hX0 := hK0.cell
 have hz0 := hI0.lt
 have hs0 := hs.below g0
 go_wp2_with fail
 refine (cKV _ hs0).mono ?_
 rintro e w1 ⟨rfl, hb1⟩
 have hz1 := hb1.size
 have hK1 := hK0.below hb1 (by omega)
 have o1 := zf o0 hb1
 have g1 := g0.trans (hb1.mono (by omega))
 clear hb1 hK0 hX0 hs0 g0 cKV o0 hI0
 by_cases hbig : 4000 < l.length
 ·have hbi : (4000 : Int) < l.length := by omega
  have hE : R = ([], 4, 0) := by
   rw [← HR.out]; unfold iK; rw [if_pos hbig]
  clear HR
  subst hE
  go_wp2
  exact bodyPost_ret (v := .tuple #[.slice (some ⟨w.heap.size + 1, 0, none⟩) 0 0, .int .i64 4, .int .i64 0]) (by simp [results, Tryz.results204, go_sem]) rfl ⟨_, _, rfl, zF o1 (by omega), g1⟩
 ·have hbi : ¬ (4000 : Int) < l.length := by omega
  have hlb := uB K.o l
  have hbb := kY K.o l
  have cU := Go.Lib.hid (fun w => YN K.o l w (by omega))
  have HR2 : Hid (R.1 = (zY 3099 K (zJ K.o l) 0).cs ∧ R.2.1 = (zY 3099 K (zJ K.o l) 0).fin ∧ R.2.2 = if (zY 3099 K (zJ K.o l) 0).fin = 1 then (l.length : Int) else (((zY 3099 K (zJ K.o l) 0).use + 7) / 8 : Nat)) := by
   show _ ∧ _ ∧ _
   rw [← HR.out]; unfold iK; rw [if_neg hbig]; exact ⟨rfl, rfl, rfl⟩
  have HG0 : Hid (zY 3099 K (zJ K.o l) 0 = Rg.pre [] [] 0 (zY 3099 K ((zJ K.o l).drop 0) ([] : Bs).length)) := by
   show _ = _
   simp [Rg.pre]
  clear HR
  obtain ⟨rcs, rfi, rus⟩ := R
  simp only at HR2
  generalize hR0 : zY 3099 K (zJ K.o l) 0 = R0 at HR2 HG0
  clear hR0
  generalize zJ K.o l = u at *
  have hul : u.length ≤ 32000 := by omega
  have HBB := Go.Lib.hid hbb
  clear hbb hlb
  have hX1 := hK1.cell
  have s1 : KS w w1 (w.heap.size + 1) K A cap := .inl hs
  clear hs
  go_wp2_with fail
  refine (cU.out _).mono ?_
  rintro e w2 ⟨rfl, hb2⟩
  have hz2 := hb2.size
  have o2 := zf o1 hb2
  have hK2 := hK1.below hb2 (by omega)
  have s2 := s1.keep hb2
  have g2 := g1.trans (hb2.mono (by omega))
  clear hb2 hK1 hX1 o1 s1 g1 cU
  have HUU := Go.Lib.hid (show rcs = R0.cs ∧ rfi = R0.fin ∧ rus = if R0.fin = 1 then (l.length : Int) else ((R0.use + 7) / 8 : Nat) from HR2.out)
  clear HR2
  go_wp2_with fail
  go_loopw [7, 8, 9] (fun a b c wr => ∃ (K' : Kn) (A' Ad : Option Addr) (cap' cd n f : Nat) (cs : List Int) (d : Bs), a = .slice Ad cs.length cd ∧ b = .int .i64 (n : Int) ∧ c = .int .i64 (d.length : Int) ∧ K'.ok ∧ Hid (K'.o = K.o ∧ K'.l = K.l) ∧ n ≤ u.length ∧ d.length ≤ 2000 ∧ cs.length + f = 3099 ∧ Hid (R0 = Rg.pre cs d n (zY f K' (u.drop n) d.length)) ∧
   wr.ownsRow (w.heap.size + 1) 3 1 (.slice Ad cs.length cd) cs.length (cs.map iv) ∧ KS w wr (w.heap.size + 1) K' A' cap' ∧ Bk wr w.heap.size 102 (knC K' A' cap') ∧ Below w.heap.size w wr) (fun _ b _ _ => u.length + 1 - (intOf b).toNat)
  case atStart => exact ⟨K, A, _, cap, _, 0, 3099, [], [], rfl, rfl, rfl, hk, ⟨rfl, rfl⟩, by omega, by simp, by simp, HG0, o2, s2, hK2, g2⟩
  case round =>
   obtain ⟨K', A', Ad, cap', cd, n, f, cs, d, rfl, rfl, rfl, hk', HKK, hn, hdl, hcf, HG, o3, s3, hK3, g3⟩ := hrel
   clear o2 s2 hK2 g2 HG0 hk
   have hwb := jf hk'
   obtain ⟨hwb1, hwb2⟩ := hwb
   have hq := hk'.lm
   obtain ⟨hq1, hq2, hq3, hq4⟩ := hq
   have hX3 := hK3.cell
   have hl3 := hK3.lt
   have cW := Go.Lib.hid (fun w => ni K' A' cap' w hk')
   have HR1 : Hid (∀ r, yN K' (u.drop n) d.length = .error r → R0 = Rg.pre cs d n r) := fun r h => by rw [HG.out, uq h]
   have HR2 : Hid (∀ c, yN K' (u.drop n) d.length = .ok c → f = 0 → R0 = Rg.pre cs d n ⟨[c], K'.wd c, 3, K'.width⟩) := fun c h h0 => by rw [HG.out, h0, pY h]
   have HR3 : Hid (∀ c f', yN K' (u.drop n) d.length = .ok c → f = f' + 1 → R0 = Rg.pre (cs ++ [c]) (d ++ K'.wd c) (n + K'.width) (zY f' (K'.step c) (u.drop (n + K'.width)) (d ++ K'.wd c).length)) := fun c f' h h0 => by
    rw [HG.out, h0, qO h, Rg.Ut, List.drop_drop, List.length_append]
   have HRR : Hid (yN K' (u.drop n) d.length = if (u.drop n).length < K'.width then .error ⟨[], [], 1, 0⟩ else
  if (numBits K'.o ((u.drop n).take K'.width) : Int) = K'.cl + 1 then .error ⟨[(numBits K'.o ((u.drop n).take K'.width) : Int)], [], 0, K'.width⟩ else
  if (numBits K'.o ((u.drop n).take K'.width) : Int) ≠ K'.cl ∧ K'.fol (numBits K'.o ((u.drop n).take K'.width) : Int) = false then .error ⟨[], [], 2, K'.width⟩ else
  if 2000 < d.length + (K'.wd (numBits K'.o ((u.drop n).take K'.width) : Int)).length then .error ⟨[], [], 3, K'.width⟩ else .ok (numBits K'.o ((u.drop n).take K'.width) : Int)) := rfl
   clear HG
   obtain ⟨N, hN⟩ : ∃ N, K'.width = N := ⟨_, rfl⟩
   have cB : Hid (∀ w, Calls Tryz.prog 222 #[.int .i64 K'.o, sv ((u.drop n).take N)] w fun e w' => e = .returned (.int .i64 (numBits K'.o ((u.drop n).take N))) ∧ Below w.heap.size w w') := fun w => by
    have hb := HBB.out
    exact (jR K'.o _ w (by rw [List.length_take]; omega) (sW u n N hb)).mono fun e w' ⟨h1, h2⟩ => ⟨h1, by subst h2; exact Below.refl _ _⟩
   have hcb : ((numBits K'.o ((u.drop n).take N) : Nat) : Int) ≤ 65535 := by
    have := pI K'.o _ (sW u n N HBB.out)
    have h2 : 2 ^ ((u.drop n).take N).length ≤ 2 ^ 16 := Nat.pow_le_pow_right (by omega) (by rw [List.length_take]; omega)
    omega
   rw [hN] at HRR HR2 HR3 hwb1 hwb2
   simp only [hN] at cW
   clear hN
   have hwn : IntKind.i64.wrap ((n : Int) + N) = (n : Int) + N := IntWalk.i64_in _ (by omega)
   go_wp2_with fail
   refine (cW.out _).mono ?_
   rintro e w4 ⟨rfl, hb4⟩
   have hz4 := hb4.size
   have o4 := zf o3 hb4
   have s4 := s3.keep hb4
   have hK4 := hK3.below hb4 (by omega)
   have g4 := g3.trans (hb4.mono (by omega))
   clear hb4 o3 s3 hK3 g3 hX3
   by_cases hshort : u.length < n + N
   ·have hsi : ¬ (n : Int) + N ≤ u.length := by omega
    have hE : R0 = ⟨cs, d, 1, n⟩ := by
     rw [HR1.out ⟨[], [], 1, 0⟩ (by rw [HRR.out, if_pos (by simp; omega)])]
     simp [Rg.pre]
    have HE := Go.Lib.hid hE
    clear HRR HR1 HR2 HR3 cB hE hcb
    go_wp2
    refine bodyPost_ret (v := .tuple #[.slice Ad cs.length cd, .int .i64 1, .int .i64 (l.length : Int)]) (by simp [results, Tryz.results204, go_sem]) rfl ?_
    obtain ⟨e1, e2, e3⟩ := HUU.out
    rw [HE.out] at e1 e2 e3
    simp only [if_pos] at e1 e2 e3
    subst e1 e2 e3
    exact ⟨Ad, cd, rfl, zF o4 (by omega), g4⟩
   ·have hle : n + N ≤ u.length := by omega
    have hsi : (n : Int) + N ≤ u.length := by omega
    have htn : ((n : Int) + (N : Int)).toNat = n + N := by omega
    have hX4 := hK4.cell
    have hG := zG hK4.cell hK4.lt
    have hdrop : ¬ (u.drop n).length < N := by simp; omega
    obtain ⟨c, hc⟩ : ∃ c : Nat, numBits K'.o ((u.drop n).take N) = c := ⟨_, rfl⟩
    rw [hc] at HRR cB hcb
    clear hc
    have hnN : (n : Int) ≤ (n : Int) + N := by omega
    go_wp2_with fail
    refine wp_region_quiet_below (by kernel_rfl) (by kernel_rfl) ?_
    repeat (go_big_quiet_step ((first | (go_at_call 221; exact Calls.regrown_of (cW.out _)) | (go_at_call 222; exact Calls.regrown_of (cB.out _)))))
    refine wpQuiet_nil ?_
    intro w5 hw2
    have hb5 : Below _ _ w5 := zh hw2
    clear hw2
    have hz5 := hb5.size
    have o5 := zf o4 hb5
    have s5 := s4.keep hb5
    have hK5 := hK4.below hb5 (by omega)
    have g5 := g4.trans (hb5.mono (by omega))
    clear hb5 o4 s4 hK4 g4 hX4 hG cB
    have hX5 := hK5.cell
    go_wp2_with fail
    refine (cW.out _).mono ?_
    rintro e w6 ⟨rfl, hb6⟩
    have hz6 := hb6.size
    have o6 := zf o5 hb6
    have s6 := s5.keep hb6
    have hK6 := hK5.below hb6 (by omega)
    have g6 := g5.trans (hb6.mono (by omega))
    clear hb6 o5 s5 hK5 g5 hX5 cW
    have hX6 := hK6.cell
    have hG := zG hK6.cell hK6.lt
    go_wp2_with fail
    refine (xq _ _ _ _ hq1 hq2).mono ?_
    rintro e w7 ⟨rfl, hb7⟩
    have hz7 := hb7.size
    have o7 := zf o6 hb7
    have s7 := s6.keep hb7
    have hK7 := hK6.below hb7 (by omega)
    have g7 := g6.trans (hb7.mono (by omega))
    clear hb7 o6 s6 hK6 g6 hX6 hG
    have hX7 := hK7.cell
    have hq8 : ((((n + N + 7) / 8 : Nat)) : Int) = ((n : Int) + N + 7) / 8 := by omega
    have HQ8 := Go.Lib.hid hq8
    clear hq8
    obtain ⟨i, hi, hz0, hz1, hz2⟩ := info_parts rF
    have hm1 : cs.length + 1 ≤ maxLen := by unfold maxLen; omega
    have hm2 : (cs.length + 1) * 8 ≤ 140737488355328 := by omega
    by_cases hend : (c : Int) = K'.cl + 1
    ·have hec : ((c : Int) == pow2 K'.l + 1) = true := by show ((c : Int) == K'.cl + 1) = true; simpa using hend
     have hE : R0 = ⟨cs ++ [(c : Int)], d, 0, n + N⟩ := by
      rw [HR1.out ⟨[(c : Int)], [], 0, N⟩ (by rw [HRR.out, if_neg hdrop, if_pos hend])]
      simp [Rg.pre]
     have HE := Go.Lib.hid hE
     clear HRR HR1 HR2 HR3 hE hend hdrop
     clear hX7
     go_wp2_with (at_builtin; go_must (refine yh _ rfl _ _ 95 rfl (w.heap.size + 1) 3 i _ 1 8 Tryz.underlying95 hi hz0 hz1 hz2 rfl (by omega) _ _ _ rfl (o7.alloc _) _ 1 1 [.int .i64 (c : Int)] rfl (Sl.newAt w7 #[.int .i64 (c : Int)] _ 1 1 (by first | rfl | simp) (by simp) (by omega)) (by simp [Value.oneCell']) hm1 hm2 ?_ ?_))
     try (case refine_1 => first | omega | (simp <;> omega; done))
     intro C8 cc8 w8 o8 hg8 _
     have HVY : (cs ++ [(c : Int)]).length = cs.length + 1 := by simp
     have o8' : w8.ownsRow (w.heap.size + 1) 3 1 (.slice C8 (cs ++ [(c : Int)]).length cc8) (cs ++ [(c : Int)]).length ((cs ++ [(c : Int)]).map iv) := by rw [HVY, List.map_append]; exact o8
     rw [← HVY]
     generalize cs ++ [(c : Int)] = cs2 at *
     have HVH := Go.Lib.hid HVY
     have hz8 := wO hg8
     have g8 := (g7.alloc (by omega) _).grown hg8 (by simp; omega) (fun k hk => by have := (o7.lt k hk).1; omega)
     clear hg8 o8 o7 g7 HVY
     go_wp2
     refine bodyPost_ret (v := .tuple #[.slice C8 cs2.length cc8, .int .i64 0, .int .i64 (((n : Int) + N + 7) / 8)]) (by simp [results, Tryz.results204, go_sem]) rfl ?_
     obtain ⟨e1, e2, e3⟩ := HUU.out
     rw [HE.out] at e1 e2 e3
     simp only at e1 e2 e3
     rw [if_neg (by omega), HQ8.out] at e3
     subst e1 e2 e3
     exact ⟨C8, cc8, rfl, zF o8' (by omega), g8⟩
    ·have hec : ((c : Int) == pow2 K'.l + 1) = false := by show ((c : Int) == K'.cl + 1) = false; simpa using hend
     go_wp2_with fail
     have hG := zG hK7.cell hK7.lt
     refine (yu _ _ _ _ hq1 hq2).mono ?_
     rintro e w9 ⟨rfl, hb9⟩
     have hz9 := hb9.size
     have o9 := zf o7 hb9
     have s9 := s7.keep hb9
     have hK9 := hK7.below hb9 (by omega)
     have g9 := g7.trans (hb9.mono (by omega))
     clear hb9 o7 s7 hK7 g7 hX7 hG
     have hX9 := hK9.cell
     have cFO : Hid (∀ w, Calls Tryz.prog 224 #[knV K' A' cap', .int .i64 (c : Int)] w fun e w' => e = .returned (.bool (K'.fol (c : Int))) ∧ Below w.heap.size w w') := fun w => qF K' A' cap' (c : Int) w hk'
     have cAN : Hid (K'.fol (c : Int) = true → ∀ w, Sl w A' K'.ps.length cap' 2 (psV K'.ps) → Calls Tryz.prog 225 #[knV K' A' cap', .int .i64 (c : Int)] w fun e w' => e = .returned (.string ⟨(K'.any (c : Int)).toArray⟩) ∧ Below w.heap.size w w') := fun hf w hs => sU K' A' cap' (c : Int) w hk' hs hf
     go_upto_if 65 with (fail)
     go_cut [9] (fun z wx => z = .int .i64 (((d ++ K'.wd (c : Int)).length : Nat) : Int) ∧ Hid ((c : Int) ≠ K'.cl → K'.fol (c : Int) = true) ∧ (d ++ K'.wd (c : Int)).length ≤ 5000 ∧ wx.ownsRow (w.heap.size + 1) 3 1 (.slice Ad cs.length cd) cs.length (cs.map iv) ∧ KS w wx (w.heap.size + 1) K' A' cap' ∧ Bk wx w.heap.size 102 (knC K' A' cap') ∧ Below w.heap.size w wx)
     case first =>
      by_cases hcc : (c : Int) = K'.cl
      ·have hcb : ((c : Int) != pow2 K'.l) = false := by show ((c : Int) != K'.cl) = false; simpa using hcc
       have HWD := Go.Lib.hid (show K'.wd (c : Int) = [] from if_pos hcc)
       have HFO : Hid ((c : Int) ≠ K'.cl → K'.fol (c : Int) = true) := fun h => absurd hcc h
       clear hcc HRR HR1 HR2 HR3 hend hdrop cFO cAN
       go_wp2_with fail
       go_meet
       rw [HWD.out, List.append_nil]
       exact ⟨rfl, HFO, by omega, o9, s9, hK9, g9⟩
      ·have hcb : ((c : Int) != pow2 K'.l) = true := by show ((c : Int) != K'.cl) = true; simpa using hcc
       go_wp2_with fail
       refine (cFO.out _).mono ?_
       rintro e w10 ⟨rfl, hb10⟩
       have hz10 := hb10.size
       have o10 := zf o9 hb10
       have s10 := s9.keep hb10
       have hK10 := hK9.below hb10 (by omega)
       have g10 := g9.trans (hb10.mono (by omega))
       clear hb10 o9 s9 hK9 g9 hX9 cFO
       have hX10 := hK10.cell
       by_cases hf : K'.fol (c : Int) = true
       ·have cA2 := cAN.out hf
        have HWD := Go.Lib.hid (show K'.wd (c : Int) = K'.any (c : Int) from if_neg hcc)
        have HFO : Hid ((c : Int) ≠ K'.cl → K'.fol (c : Int) = true) := fun _ => hf
        have hal := K'.sQ hk' hf
        have hbd := hk'.bd
        rw [hf]
        clear hcc HRR HR1 HR2 HR3 hend hdrop cAN hf
        generalize K'.any (c : Int) = T at *
        have hT : T.length ≤ 1100 := by omega
        clear hal hbd
        have hs10 := s10.sl g10
        go_wp2_with fail
        refine (cA2 _ hs10).mono ?_
        rintro e w11 ⟨rfl, hb11⟩
        have hz11 := hb11.size
        have o11 := zf o10 hb11
        have s11 := s10.keep hb11
        have hK11 := hK10.below hb11 (by omega)
        have g11 := g10.trans (hb11.mono (by omega))
        clear hb11 o10 s10 hK10 g10 hX10 cA2 hs10
        go_wp2_with fail
        go_meet
        rw [HWD.out]
        exact ⟨by simp, HFO, by simp; omega, o11, s11, hK11, g11⟩
       ·have hff : K'.fol (c : Int) = false := by simpa using hf
        have hE : R0 = ⟨cs, d, 2, n + N⟩ := by
         rw [HR1.out ⟨[], [], 2, N⟩ (by rw [HRR.out, if_neg hdrop, if_neg hend, if_pos ⟨hcc, hff⟩])]
         simp [Rg.pre]
        have HE := Go.Lib.hid hE
        rw [hff]
        clear hcc HRR HR1 HR2 HR3 hend hdrop cAN hf hE hff
        go_wp2
        refine bodyPost_ret (v := .tuple #[.slice Ad cs.length cd, .int .i64 2, .int .i64 (((n : Int) + N + 7) / 8)]) (by simp [results, Tryz.results204, go_sem]) rfl ?_
        obtain ⟨e1, e2, e3⟩ := HUU.out
        rw [HE.out] at e1 e2 e3
        simp only at e1 e2 e3
        rw [if_neg (by omega), HQ8.out] at e3
        subst e1 e2 e3
        exact ⟨Ad, cd, rfl, zF o10 (by omega), g10⟩
     case rest =>
      obtain ⟨rfl, HFO, hd5, o9, s9, hK9, g9⟩ := hcut
      have hfol := HFO.out
      have hk2 := step_ok hk' hfol
      have hzc := g9.size
      have HK2 : Hid ((K'.step (c : Int)).o = K.o ∧ (K'.step (c : Int)).l = K.l) := by
       have h : (K'.step (c : Int)).o = K'.o ∧ (K'.step (c : Int)).l = K'.l := by
        unfold Kn.step
        split
        ·exact ⟨rfl, rfl⟩
        ·unfold Kn.after; split <;> exact ⟨rfl, rfl⟩
       show _ ∧ _
       rw [h.1, h.2]; exact HKK.out
      have cST : Hid (∀ w, Sl w A' K'.ps.length cap' 2 (psV K'.ps) → Calls Tryz.prog 226 #[knV K' A' cap', .int .i64 (c : Int)] w (qU (K'.step (c : Int)) w)) := fun w hs => rZ K' A' cap' (c : Int) w hk' hs hfol
      have HOKK : Hid (¬ 2000 < (d ++ K'.wd (c : Int)).length → yN K' (u.drop n) d.length = .ok (c : Int)) := fun h => by
       rw [HRR.out, if_neg hdrop, if_neg hend, if_neg (fun hh => by rw [hfol hh.1] at hh; cases hh.2), if_neg (by rw [List.length_append] at h; exact h)]
      by_cases hbig2 : 2000 < (d ++ K'.wd (c : Int)).length
      ·have hbi2 : (2000 : Int) < (((d ++ K'.wd (c : Int)).length : Nat) : Int) := by omega
       have hE : R0 = ⟨cs, d, 3, n + N⟩ := by
        rw [HR1.out ⟨[], [], 3, N⟩ (by rw [HRR.out, if_neg hdrop, if_neg hend, if_neg (fun hh => by rw [hfol hh.1] at hh; cases hh.2), if_pos (by rw [List.length_append] at hbig2; exact hbig2)])]
        simp [Rg.pre]
       have HE := Go.Lib.hid hE
       clear HOKK HRR HR1 HR2 HR3 hE hfol HFO cST cFO cAN hX9 HK2 hk2
       generalize d ++ K'.wd (c : Int) = d2 at *
       go_wp2
       refine bodyPost_ret (v := .tuple #[.slice Ad cs.length cd, .int .i64 3, .int .i64 (((n : Int) + N + 7) / 8)]) (by simp [results, Tryz.results204, go_sem]) rfl ?_
       obtain ⟨e1, e2, e3⟩ := HUU.out
       rw [HE.out] at e1 e2 e3
       simp only at e1 e2 e3
       rw [if_neg (by omega), HQ8.out] at e3
       subst e1 e2 e3
       exact ⟨Ad, cd, rfl, zF o9 (by omega), g9⟩
      ·have hbi2 : ¬ (2000 : Int) < (((d ++ K'.wd (c : Int)).length : Nat) : Int) := by omega
       have HOK := HOKK.out hbig2
       have hdl3 : (d ++ K'.wd (c : Int)).length ≤ 2000 := by omega
       have HE0 : Hid (f = 0 → R0 = ⟨cs ++ [(c : Int)], d ++ K'.wd (c : Int), 3, n + N⟩) := fun h => by
        rw [HR2.out _ HOK h]; simp [Rg.pre]
       have HE1 : Hid (∀ f', f = f' + 1 → R0 = Rg.pre (cs ++ [(c : Int)]) (d ++ K'.wd (c : Int)) (n + N) (zY f' (K'.step (c : Int)) (u.drop (n + N)) (d ++ K'.wd (c : Int)).length)) := fun f' h => HR3.out _ f' HOK h
       clear HOK HOKK HRR HR1 HR2 HR3 hfol HFO cFO cAN hX9 hend hdrop hec
       generalize K'.step (c : Int) = K2 at *
       generalize d ++ K'.wd (c : Int) = d2 at *
       go_wp2_with (at_builtin; go_must (refine yh _ rfl _ _ 95 rfl (w.heap.size + 1) 3 i _ 1 8 Tryz.underlying95 hi hz0 hz1 hz2 rfl (by omega) _ _ _ rfl (o9.alloc _) _ 1 1 [.int .i64 (c : Int)] rfl (Sl.newAt wc #[.int .i64 (c : Int)] _ 1 1 (by first | rfl | simp) (by simp) (by omega)) (by simp [Value.oneCell']) hm1 hm2 ?_ ?_))
       try (case refine_1 => first | omega | (simp <;> omega; done))
       intro C8 cc8 w8 o8 hg8 _
       have HVY : (cs ++ [(c : Int)]).length = cs.length + 1 := by simp
       have o8' : w8.ownsRow (w.heap.size + 1) 3 1 (.slice C8 (cs ++ [(c : Int)]).length cc8) (cs ++ [(c : Int)]).length ((cs ++ [(c : Int)]).map iv) := by rw [HVY, List.map_append]; exact o8
       rw [← HVY]
       generalize cs ++ [(c : Int)] = cs2 at *
       have HVH := Go.Lib.hid HVY
       have hz8 := wO hg8
       have g8 := (g9.alloc (by omega) _).grown hg8 (by simp; omega) (fun k hk => by have := (o9.lt k hk).1; omega)
       have s8 := s9.grown o9 (by decide) hg8
       have hK8 := (hK9.alloc _).grown hg8 (own_ne o9 hK9 (by decide))
       clear hg8 o8 o9 g9 HVY s9 hK9
       have hX8 := hK8.cell
       have hs8 := s8.sl g8
       go_wp2_with fail
       refine (cST.out _ hs8).mono ?_
       rintro e w11 ⟨A11, cap11, rfl, p11, hb11⟩
       have hz11 := hb11.size
       have hzg := g8.size
       have p11' := zF (B' := w.heap.size + 1) p11 (by omega)
       have o11 := zf o8' hb11
       have hK11 := hK8.below hb11 hK8.lt
       have g11 := g8.trans (hb11.mono (by omega))
       have hK12 := qK hK11 K2 A11 cap11
       have g12 := yz g11 (Nat.le_refl _) K2 A11 cap11
       have p12 := yI p11' (b := w.heap.size) (by omega) K2 A11 cap11
       have o12 := yI o11 (b := w.heap.size) (by omega) K2 A11 cap11
       clear hb11 s8 hK8 hX8 hs8 o8' g8 cST p11 p11' o11 g11
       have hX11 := hK11.cell
       have hF11 := hK11.free
       go_upto_region 20 with (fail)
       generalize ((((((w11.setCell ⟨w.heap.size, 0, none⟩ (.int .i64 K2.o)).setCell ⟨w.heap.size, 1, none⟩ (.int .i64 K2.l)).setCell ⟨w.heap.size, 2, none⟩ (.int .i64 K2.m)).setCell ⟨w.heap.size, 3, none⟩ (.slice A11 K2.ps.length cap11)).setCell ⟨w.heap.size, 4, none⟩ (.int .i64 K2.base)).setCell ⟨w.heap.size, 5, none⟩ (.int .i64 K2.last)) = w12 at *
       clear hX11 hF11 hK11
       by_cases hf0 : f = 0
       ·have hcn : ((cs2.length : Int) == 3100) = true := by have := HVH.out; rw [beq_iff_eq]; omega
        have hcu : (cs2.length : Int) ≤ 3100 := by have := HVH.out; omega
        have HE := Go.Lib.hid (HE0.out hf0)
        clear HE0 HE1 hf0
        go_wp2
        refine bodyPost_ret (v := .tuple #[.slice C8 cs2.length cc8, .int .i64 3, .int .i64 (((n : Int) + N + 7) / 8)]) (by simp [results, Tryz.results204, go_sem]) rfl ?_
        obtain ⟨e1, e2, e3⟩ := HUU.out
        rw [HE.out] at e1 e2 e3
        simp only at e1 e2 e3
        rw [if_neg (by omega), HQ8.out] at e3
        subst e1 e2 e3
        exact ⟨C8, cc8, rfl, zF o12 (by omega), g12⟩
       ·obtain ⟨f', hff⟩ : ∃ f', f = f' + 1 := ⟨f - 1, by omega⟩
        have hcn : ((cs2.length : Int) == 3100) = false := by have := HVH.out; rw [beq_eq_false_iff_ne]; omega
        have hcu : (cs2.length : Int) ≤ 3100 := by have := HVH.out; omega
        have HE := Go.Lib.hid (HE1.out f' hff)
        have HF := Go.Lib.hid hff
        clear HE0 HE1 hff hf0
        go_wp2_with fail
        go_roundw
        case rel => exact ⟨K2, A11, C8, cap11, cc8, n + N, f', cs2, d2, rfl, by go_num, rfl, hk2, HK2, hle, hdl3, by have := HVH.out; have := HF.out; omega, HE, o12, .inr p12, hK12, g12⟩
        case measure => simp [intOf]; omega
def Q8 (K : Kn) (cs : List Int) (w : World) (e : Ending) (w' : World) : Prop :=
 ∃ (K' : Kn) (A' : Option Addr) (cap' : Nat) (v : Value) (b : Bool), e = .returned (.tuple #[knV K' A' cap', v, sv (xP K cs), .bool b]) ∧ Below w.heap.size w w'
theorem XF (K : Kn) (A : Option Addr) (cap : Nat) (C : Option Addr) (cc : Nat) (cs : List Int) (w : World) (hk : K.ok) (hs : Sl w A K.ps.length cap 2 (psV K.ps)) (hc : Sl w C cs.length cc 1 (cs.map iv)) (hl : cs.length ≤ 100000) (hg : qY K cs 0) :
    Calls Tryz.prog 205 #[knV K A cap, .slice C cs.length cc] w (Q8 K cs w) := by
  obtain ⟨i, hi, hz0, hz1, hz2⟩ := info_parts rF
  obtain ⟨j, hj, jz0, jz1, jz2⟩ := info_parts wu
  obtain ⟨hcc1, hcc2, _, hc4⟩ := hc
  have hC0 : Hid (0 < cs.length → ∃ gc oc, C = some ⟨gc, oc, none⟩ ∧ gc < w.heap.size ∧ ∀ j, (hj : j < cs.length) → w.cell? ⟨gc, oc + j, none⟩ = some (.int .i64 cs[j])) := fun hc0 => by
    obtain ⟨gc, oc, h1, hgc, hcell⟩ := hc4 hc0
    exact ⟨gc, oc, h1, hgc, fun j hj => hcell j _ (by rw [List.getElem?_map, List.getElem?_eq_getElem hj]; rfl)⟩
  clear hc4
  go_enter Tryz.func205, Tryz.ntmps205
  go_wp2_with fail
  have hK0 : Bk ((((w.alloc (.cells (knC K A cap) 102)).alloc (.cells knZ 102)).alloc (.cells #[] 3)).alloc (.cells #[] 5)) w.heap.size 102 (knC K A cap) := tBk
  have hR0 : Bk ((((w.alloc (.cells (knC K A cap) 102)).alloc (.cells knZ 102)).alloc (.cells #[] 3)).alloc (.cells #[] 5)) (w.heap.size + 1) 102 knZ := tBk
  have hI0 : Bk ((((w.alloc (.cells (knC K A cap) 102)).alloc (.cells knZ 102)).alloc (.cells #[] 3)).alloc (.cells #[] 5)) (w.heap.size + 2) 3 #[] := tBk
  have hJ0 : Bk ((((w.alloc (.cells (knC K A cap) 102)).alloc (.cells knZ 102)).alloc (.cells #[] 3)).alloc (.cells #[] 5)) (w.heap.size + 3) 5 #[] := tBk
  have g0 : Below w.heap.size w ((((w.alloc (.cells (knC K A cap) 102)).alloc (.cells knZ 102)).alloc (.cells #[] 3)).alloc (.cells #[] 5)) := zH
  generalize (((w.alloc (.cells (knC K A cap) 102)).alloc (.cells knZ 102)).alloc (.cells #[] 3)).alloc (.cells #[] 5) = w0 at *
  have o0 := vw (base := w.heap.size + 2) (size := 1) hI0 (by omega)
  have d0 := vw (base := w.heap.size + 2) (size := 1) hJ0 (by omega)
  have s0 : KS w w0 (w.heap.size + 2) K A cap := .inl hs
  unfold Q8
  have hW0 : Hid (xP K cs = [] ++ xP K cs) := rfl
  obtain ⟨D0, hD0⟩ : ∃ D0, xP K cs = D0 := ⟨_, rfl⟩
  rw [hD0]
  have HD0 := Go.Lib.hid hD0
  clear hD0
  have hp := hk.lm
  have hL0 : K.l = K.l := rfl
  go_loopw [8, 9, 10] (fun a b c wr => ∃ (K' : Kn) (A' Ad : Option Addr) (cap' cd n : Nat) (rest : List Int) (ws : List Nat) (d : Bs) (va : Value), va = a ∧ c = .int .i64 n ∧ b = .slice Ad d.length cd ∧ n ≤ cs.length ∧ Hid (cs.drop n = rest) ∧ K'.ok ∧ Hid (K'.l = K.l) ∧ qY K' rest d.length ∧ d.length ≤ 3100 ∧ Hid (D0 = d ++ xP K' rest) ∧ Hid (ws.length = n) ∧
    wr.ownsRow (w.heap.size + 2) 3 1 va ws.length (ws.map ivn) ∧ wr.ownsRow (w.heap.size + 2) 5 1 b d.length (d.map u8v) ∧ KS w wr (w.heap.size + 2) K' A' cap' ∧ Bk wr w.heap.size 102 (knC K' A' cap') ∧ Bk wr (w.heap.size + 1) 102 knZ ∧ Below w.heap.size w wr) (fun _ _ c _ => cs.length - (intOf c).toNat)
  case atStart => exact ⟨K, A, _, cap, 0, 0, cs, [], [], _, rfl, rfl, rfl, by omega, rfl, hk, hL0, hg, by simp, by show _ = _; rw [← HD0.out]; rfl, rfl, o0, d0, s0, hK0, hR0, g0⟩
  case round =>
    obtain ⟨K', A', Ad, cap', cd, n, rest, ws, d, va, rfl, rfl, rfl, hn, HD, hk', HL, hgo, hd3, HW, HN, o1, d1, s1, hK1, hR1, g1⟩ := hrel
    clear hK0 hR0 hI0 hJ0 g0 o0 d0 s0 hW0 hg hL0 hs
    by_cases hlast : n = cs.length
    · subst hlast
      have hr : rest = [] := by have h := HD.out; rw [List.drop_length] at h; exact h.symm
      subst hr
      have hDD : D0 = d := by rw [HW.out]; simp [xP]
      have HDD := Go.Lib.hid hDD
      clear hDD
      have hX := hK1.cell
      have hF := hR1.free
      have hQ := hR1.cell
      have hcv := yH (vC d1)
      have hcv0 := yH d1
      have hcv2 := yH (vC (yI d1 (b := w.heap.size + 1) (by omega) K' A' cap'))
      have hcv3 := yH (yI d1 (b := w.heap.size + 1) (by omega) K' A' cap')
      have hcv4 := yH (yI (vC d1) (b := w.heap.size + 1) (by omega) K' A' cap')
      have hdi : (d.length : Int) ≤ 3100 := by omega
      go_wp2_with fail
      have hwz1 := hR1.lt
      have hX2 := (pz hK1 (by omega) K' A' cap' (b := w.heap.size + 1)).cell
      have hQ6 := (wU hR1 K' A' cap').cell
      have g6 := yz g1 (b := w.heap.size + 1) (by omega) K' A' cap'
      refine wp_region_held_drew (S := (fun w' => w'.cell? ⟨w.heap.size, 0, none⟩ = some (.int .i64 K'.o) ∧ w'.cell? ⟨w.heap.size, 1, none⟩ = some (.int .i64 K'.l) ∧ w'.cell? ⟨w.heap.size, 2, none⟩ = some (.int .i64 K'.m) ∧ w'.cell? ⟨w.heap.size, 3, none⟩ = some (.slice A' K'.ps.length cap') ∧ w'.cell? ⟨w.heap.size, 4, none⟩ = some (.int .i64 K'.base) ∧ w'.cell? ⟨w.heap.size, 5, none⟩ = some (.int .i64 K'.last) ∧ (convert 22 9 (.slice Ad d.length cd)).run Tryz.prog w' = .ok (.string ⟨d.toArray⟩) w')) (by kernel_rfl) ?_ (fun hSS => ?_)
      focus ((refine ⟨?_, ?_, ?_, ?_, ?_, ?_, ?_⟩; all_goals first | with_reducible exact hcv | with_reducible exact hcv2 | with_reducible exact hcv4 | (simp [hX]; done) | (simp [hX2]; done)))
      refine tk 0 ?_
      try simp only [Act.put, u2, u3, u4]
      refine tk 1 ?_
      try simp only [Act.put, u2, u3, u4]
      refine tk 2 ?_
      try simp only [Act.put, u2, u3, u4]
      refine tk 3 ?_
      try simp only [Act.put, u2, u3, u4]
      refine tk 4 ?_
      try simp only [Act.put, u2, u3, u4]
      refine tk 5 ?_
      try simp only [Act.put, u2, u3, u4]
      refine tk 6 ?_
      try simp only [Act.put, u2, u3, u4]
      refine rd1 7 fun KK hKK => ?_
      go_simp
      refine hKK.out _ _ (by (refine ⟨?_, ?_, ?_, ?_, ?_, ?_, ?_⟩; all_goals first | with_reducible exact hcv | with_reducible exact hcv2 | with_reducible exact hcv4 | (simp [hX]; done) | (simp [hX2]; done))) fun hSS => ?_
      try simp only [Act.put, u2, u3, u4]
      refine tk 8 ?_
      try simp only [Act.put, u2, u3, u4]
      refine tk 9 ?_
      try simp only [Act.put, u2, u3, u4]
      refine tk 10 ?_
      try simp only [Act.put, u2, u3, u4]
      refine wpAnyH_done (by kernel_rfl) ?_ _
      simp only [List.getElem_toArray, List.getElem_cons_succ, List.getElem_cons_zero, Act.put, u2, u3, u4]
      go_wp2
      exact bodyPost_ret (v := .tuple #[knV K' A' cap', va, sv d, .bool (decide ((d.length : Int) ≤ 2000))]) (by simp [results, Tryz.results205, go_sem, hQ6]) rfl ⟨K', A', cap', va, _, by first | rw [HD0.out, HDD.out] | rw [HDD.out], g6.drew⟩
    have hn : n < cs.length := by omega
    obtain ⟨c, r, rfl⟩ : ∃ c r, rest = c :: r := by
      cases rest with
      | nil =>
        have h := congrArg List.length HD.out
        rw [List.length_drop] at h
        simp at h
        omega
      | cons c r => exact ⟨c, r, rfl⟩
    obtain ⟨gc, oc, rfl, hgc, hcell0⟩ := hC0.out (by omega)
    have hcell := Go.Lib.hid hcell0
    clear hcell0
    have hcn : cs[n] = c := by
      have h := HD.out
      rw [List.drop_eq_getElem_cons hn] at h
      exact (List.cons.inj h).1
    have HD1 : Hid (cs.drop (n + 1) = r) := by
      have h := HD.out
      rw [List.drop_eq_getElem_cons hn] at h
      exact (List.cons.inj h).2
    have hcl := (g1.cell (p := ⟨gc, oc + n, none⟩) hgc).trans (hcell.out n hn)
    rw [hcn] at hcl
    have HCL : Hid (w.cell? ⟨gc, oc + n, none⟩ = some (.int .i64 c)) := by show _ = _; rw [hcell.out n hn, hcn]
    clear hcn HD
    rw [qY] at hgo
    have HWA : Hid (c = K'.cl + 1 → D0 = d) := fun h => by rw [HW.out, xP, if_pos h]; simp
    have HWB : Hid (c ≠ K'.cl + 1 → D0 = (d ++ K'.wd c) ++ xP (K'.step c) r) := fun h => by rw [HW.out, xP, if_neg h]; simp
    clear HW
    have hX := hK1.cell
    have hwz := hR1.lt
    have hm1 : ws.length + 1 ≤ maxLen := by have := HN.out; unfold maxLen; omega
    have hm2 : (ws.length + 1) * 8 ≤ 140737488355328 := by have := HN.out; omega
    have hq := hk'.lm
    obtain ⟨hq1, hq2, hq3, hq4⟩ := hq
    go_wp2_with fail
    refine (ni _ _ _ _ hk').mono ?_
    rintro e w2 ⟨rfl, hb2⟩
    have hz2' := hb2.size
    have o2 := zf o1 hb2
    have d2 := zf d1 hb2
    have s2 := s1.keep hb2
    have hK2 := hK1.below hb2 (by omega)
    have hR2 := hR1.below hb2 (by omega)
    have g2 := g1.trans (hb2.mono (by omega))
    have hcl2 := (hb2.cell (p := ⟨gc, oc + n, none⟩) (by simp only; omega)).trans hcl
    clear hb2 o1 d1 s1 hK1 hR1 g1 hcl hX
    go_wp2_with (at_builtin; go_must (refine wpList_append_own _ rfl _ _ 95 rfl (w.heap.size + 2) 3 i _ 1 8 Tryz.underlying95 hi hz0 hz1 hz2 rfl (by omega) _ _ _ rfl (o2.alloc _) ⟨w2.heap.size, 0, none⟩ 1 1 [.int .i64 K'.width] rfl rfl ?_ ?_ hm1 hm2 ?_ ?_))
    try (case refine_1 => first | exact cell_one_new _ _ _ | omega | (simp <;> omega; done) | (simp [Value.oneCell']; done))
    try (case refine_2 => first | exact cell_one_new _ _ _ | omega | (simp <;> omega; done) | (simp [Value.oneCell']; done))
    try (case refine_3 => first | exact cell_one_new _ _ _ | omega | (simp <;> omega; done) | (simp [Value.oneCell']; done))
    intro v3 w3 o3 hg3 _
    have hz3 := wO hg3
    have g3 := yR g2 hg3 (by omega) (fun k hk => by have := (o2.lt k hk).1; omega)
    have hlt3 : ∀ k, v3.ownBlock = some k → w.heap.size + 2 ≤ k := fun k hk => (o3.lt k hk).1
    have d3 := (d2.alloc (.cells #[.int .i64 K'.width] 3)).kept hg3 (vK d2 o2 (by decide))
    have s3 := s2.grown o2 (by decide) hg3
    have hK3 := (hK2.alloc (.cells #[.int .i64 K'.width] 3)).grown hg3 (own_ne o2 hK2 (by decide))
    have hR3 := (hR2.alloc (.cells #[.int .i64 K'.width] 3)).grown hg3 (own_ne o2 hR2 (by decide))
    have o3 : w3.ownsRow (w.heap.size + 2) 3 1 v3 (ws ++ [K'.width]).length ((ws ++ [K'.width]).map ivn) := by rw [List.length_append, List.map_append]; exact o3
    have HN3 : Hid ((ws ++ [K'.width]).length = n + 1) := by show _ = _; rw [List.length_append, HN.out]; rfl
    clear hg3 o2 d2 s2 hK2 hR2 g2 hcl2 HN hm1 hm2
    generalize ws ++ [K'.width] = ws at *
    have hcl3 := (g3.cell (p := ⟨gc, oc + n, none⟩) hgc).trans HCL.out
    have hG := zG hK3.cell (by omega)
    have hGC := wS hcl3 (by have := g3.size; omega)
    have hn' : (n : Int) < cs.length := by omega
    go_wp2_with fail
    by_cases h1 : c = K'.cl + 1
    · have HDD := Go.Lib.hid (HWA.out h1)
      rw [if_pos h1] at hgo
      subst hgo
      have hlen : Hid (cs.length = n + 1) := by
        have h := congrArg List.length HD1.out
        simp at h
        show _ = _; omega
      have hd1 : (c == pow2 K'.l + 1) = true := by show (c == K'.cl + 1) = true; simpa using h1
      have hd2 : ((n : Int) == (cs.length : Int) - 1) = true := by have := hlen.out; simp; omega
      clear h1
      refine wp_region_quiet_below (by kernel_rfl) (by kernel_rfl) ?_
      repeat (go_big_quiet_step ((go_at_call 223; exact Calls.regrown_of (xq _ _ _ _ hq1 hq2))))
      refine wpQuiet_nil ?_
      intro w4 hw2
      have hb4 : Below _ _ w4 := zh hw2
      clear hw2
      have hz4 := hb4.size
      have o4 := zf o3 hb4
      have d4 := zf d3 hb4
      have hK4 := hK3.below hb4 (by omega)
      have hR4 := hR3.below hb4 (by omega)
      have g4 := g3.trans (hb4.mono (by omega))
      clear hb4 o3 d3 s3 hK3 hR3 g3 hG hGC hcl3
      have d4' := vC d4
      have hcv := yH d4'
      have hX := hK4.cell
      have hF := hR4.free
      have hQ := hR4.cell
      have d5 := vC (yI d4 (b := w.heap.size + 1) (by omega) K' A' cap')
      have hX2 := (pz hK4 (by omega) K' A' cap' (b := w.heap.size + 1)).cell
      have hcv2 := yH d5
      have hcv3 := yH (yI d4' (b := w.heap.size + 1) (by omega) K' A' cap')
      go_wp2_with fail
      have hcl := g4.size
      refine wp_region_held_drew (S := (fun w' => w'.cell? ⟨w.heap.size, 0, none⟩ = some (.int .i64 K'.o) ∧ w'.cell? ⟨w.heap.size, 1, none⟩ = some (.int .i64 K'.l) ∧ w'.cell? ⟨w.heap.size, 2, none⟩ = some (.int .i64 K'.m) ∧ w'.cell? ⟨w.heap.size, 3, none⟩ = some (.slice A' K'.ps.length cap') ∧ w'.cell? ⟨w.heap.size, 4, none⟩ = some (.int .i64 K'.base) ∧ w'.cell? ⟨w.heap.size, 5, none⟩ = some (.int .i64 K'.last) ∧ (convert 22 9 (.slice Ad d.length cd)).run Tryz.prog w' = .ok (.string ⟨d.toArray⟩) w')) (by kernel_rfl) ?_ (fun hSS => ?_)
      focus ((refine ⟨?_, ?_, ?_, ?_, ?_, ?_, ?_⟩; all_goals first | with_reducible exact hcv | with_reducible exact hcv2 | with_reducible exact hcv3 | (simp [hX]; done) | (simp [hX2]; done)))
      refine tk 0 ?_
      try simp only [Act.put, u2, u3, u4]
      refine tk 1 ?_
      try simp only [Act.put, u2, u3, u4]
      refine tk 2 ?_
      try simp only [Act.put, u2, u3, u4]
      refine tk 3 ?_
      try simp only [Act.put, u2, u3, u4]
      refine tk 4 ?_
      try simp only [Act.put, u2, u3, u4]
      refine tk 5 ?_
      try simp only [Act.put, u2, u3, u4]
      refine tk 6 ?_
      try simp only [Act.put, u2, u3, u4]
      refine tk 7 ?_
      try simp only [Act.put, u2, u3, u4]
      refine tk 8 ?_
      try simp only [Act.put, u2, u3, u4]
      refine rd1 9 fun KK hKK => ?_
      go_simp
      refine hKK.out _ _ (by (refine ⟨?_, ?_, ?_, ?_, ?_, ?_, ?_⟩; all_goals first | with_reducible exact hcv | with_reducible exact hcv2 | with_reducible exact hcv3 | (simp [hX]; done) | (simp [hX2]; done))) fun hSS => ?_
      try simp only [Act.put, u2, u3, u4]
      refine tk 10 ?_
      try simp only [Act.put, u2, u3, u4]
      refine tk 11 ?_
      try simp only [Act.put, u2, u3, u4]
      refine tk 12 ?_
      try simp only [Act.put, u2, u3, u4]
      refine wpAnyH_done (by kernel_rfl) ?_ _
      simp only [List.getElem_toArray, List.getElem_cons_succ, List.getElem_cons_zero, Act.put, u2, u3, u4]
      go_wp2
      have hwr : IntKind.i64.wrap ((cs.length : Int) - 1) = (n : Int) := by
        have h := hlen.out
        rw [show (cs.length : Int) - 1 = (n : Int) by omega]
        exact Z8 n (by omega)
      have hQ6 := (wU hR4 K' A' cap').cell
      have g6 := yz g4 (b := w.heap.size + 1) (by omega) K' A' cap'
      exact bodyPost_ret (v := .tuple #[knV K' A' cap', v3, sv d, .bool true]) (by simp [results, Tryz.results205, go_sem, hQ6, hwr]) rfl ⟨K', A', cap', v3, true, by first | rw [HD0.out, HDD.out] | rw [HDD.out], g6.drew⟩
    · have HWB2 := Go.Lib.hid (HWB.out h1)
      rw [if_neg h1] at hgo
      have hd1 : (c == pow2 K'.l + 1) = false := by show (c == K'.cl + 1) = false; simpa using h1
      clear h1
      refine wp_region_quiet_below (by kernel_rfl) (by kernel_rfl) ?_
      repeat (go_big_quiet_step ((go_at_call 223; exact Calls.regrown_of (xq _ _ _ _ hq1 hq2))))
      refine wpQuiet_nil ?_
      intro w4 hw2
      have hb4 : Below _ _ w4 := zh hw2
      clear hw2
      have hz4 := hb4.size
      have o4 := zf o3 hb4
      have d4 := zf d3 hb4
      have s4 := s3.keep hb4
      have hK4 := hK3.below hb4 (by omega)
      have hR4 := hR3.below hb4 (by omega)
      have g4 := g3.trans (hb4.mono (by omega))
      clear hb4 o3 d3 s3 hK3 hR3 g3 hG hGC hcl3
      have hX := hK4.cell
      have hcl4 := (g4.cell (p := ⟨gc, oc + n, none⟩) hgc).trans HCL.out
      have hG := zG hK4.cell (by omega)
      have hGC := wS hcl4 (by have := g4.size; omega)
      have hrl : r.length = cs.length - (n + 1) := by
        have h := congrArg List.length HD1.out
        simp at h; omega
      go_wp2_with fail
      by_cases h2 : c = K'.cl
      · rw [if_pos h2] at hgo
        have hd2 : (c != pow2 K'.l) = false := by show (c != K'.cl) = false; simpa using h2
        have hst : K'.step c = K'.cleared := if_pos h2
        have HW1 : Hid (D0 = d ++ xP (K'.step c) r) := by show _ = _; rw [HWB2.out, show K'.wd c = [] from if_pos h2, List.append_nil]
        have HST : Hid (∀ w, Sl w A' K'.ps.length cap' 2 (psV K'.ps) → Calls Tryz.prog 226 #[knV K' A' cap', .int .i64 c] w (qU (K'.step c) w)) := fun w hs => rZ K' A' cap' c w hk' hs (fun h => absurd h2 h)
        have hok1 : (K'.step c).ok := step_ok hk' (fun h => absurd h2 h)
        have HL1 : Hid ((K'.step c).l = K.l) := by show _ = _; rw [hst]; exact HL.out
        rw [← hst] at hgo
        clear hst h2 HL HWA HWB HWB2
        generalize K'.step c = K1 at *
        refine wp_region_quiet_below (by kernel_rfl) (by kernel_rfl) ?_
        repeat (go_big_quiet_step ((go_at_call 163; exact Calls.regrown_of (yu _ _ _ _ hq1 hq2))))
        refine wpQuiet_nil ?_
        intro w5 hw2
        have hb5 : Below _ _ w5 := zh hw2
        clear hw2
        have hz5 := hb5.size
        have o5 := zf o4 hb5
        have d5 := zf d4 hb5
        have s5 := s4.keep hb5
        have hK5 := hK4.below hb5 (by omega)
        have hR5 := hR4.below hb5 (by omega)
        have g5 := g4.trans (hb5.mono (by omega))
        clear hb5 o4 d4 s4 hK4 hR4 g4 hG hGC hcl4 hX
        have hsN := s5.sl g5
        have hX := hK5.cell
        have hF := hK5.free
        have hcl5 := (g5.cell (p := ⟨gc, oc + n, none⟩) hgc).trans HCL.out
        have HM : Hid (∀ w', Below w5.heap.size w5 w' → (w'.cell? ⟨w.heap.size, 0, none⟩ = some (.int .i64 K'.o) ∧ w'.cell? ⟨w.heap.size, 1, none⟩ = some (.int .i64 K'.l) ∧ w'.cell? ⟨w.heap.size, 2, none⟩ = some (.int .i64 K'.m) ∧ w'.cell? ⟨w.heap.size, 3, none⟩ = some (.slice A' K'.ps.length cap') ∧ w'.cell? ⟨w.heap.size, 4, none⟩ = some (.int .i64 K'.base) ∧ w'.cell? ⟨w.heap.size, 5, none⟩ = some (.int .i64 K'.last) ∧ w'.cell? ⟨gc, oc + n, none⟩ = some (.int .i64 c))) := fun w' h => ⟨(h.cell (p := ⟨_, _, _⟩) (by first | assumption | (simp only; omega) | omega)).trans (hX 0), (h.cell (p := ⟨_, _, _⟩) (by first | assumption | (simp only; omega) | omega)).trans (hX 1), (h.cell (p := ⟨_, _, _⟩) (by first | assumption | (simp only; omega) | omega)).trans (hX 2), (h.cell (p := ⟨_, _, _⟩) (by first | assumption | (simp only; omega) | omega)).trans (hX 3), (h.cell (p := ⟨_, _, _⟩) (by first | assumption | (simp only; omega) | omega)).trans (hX 4), (h.cell (p := ⟨_, _, _⟩) (by first | assumption | (simp only; omega) | omega)).trans (hX 5), (h.cell (p := ⟨_, _, _⟩) (by first | assumption | (simp only; omega) | omega)).trans (hcl5)⟩
        go_wp2_with fail
        refine xR 6 (fun w' => w'.cell? ⟨w.heap.size, 0, none⟩ = some (.int .i64 K'.o) ∧ w'.cell? ⟨w.heap.size, 1, none⟩ = some (.int .i64 K'.l) ∧ w'.cell? ⟨w.heap.size, 2, none⟩ = some (.int .i64 K'.m) ∧ w'.cell? ⟨w.heap.size, 3, none⟩ = some (.slice A' K'.ps.length cap') ∧ w'.cell? ⟨w.heap.size, 4, none⟩ = some (.int .i64 K'.base) ∧ w'.cell? ⟨w.heap.size, 5, none⟩ = some (.int .i64 K'.last) ∧ w'.cell? ⟨gc, oc + n, none⟩ = some (.int .i64 c)) (by kernel_rfl) (by kernel_rfl) (by first | (exact HM.out _ wG) | go_keep) (fun hSS => ?_)
        simp only [List.take_succ_cons, List.take_zero]
        refine tk 0 ?_
        try simp only [Act.put, u2, u3, u4]
        refine tk 1 ?_
        try simp only [Act.put, u2, u3, u4]
        refine tk 2 ?_
        try simp only [Act.put, u2, u3, u4]
        refine tk 3 ?_
        try simp only [Act.put, u2, u3, u4]
        refine tk 4 ?_
        try simp only [Act.put, u2, u3, u4]
        refine rd1 5 fun KK hKK => ?_
        go_simp
        (go_at_call 226; refine (HST.out _ (hsN.below yU)).mono ?_; rintro e w7 ⟨A7, cap7, rfl, hown7, hb7⟩; have hb7 : Below w5.heap.size w5 w7 := zL hb7; have hz7 := hb7.size; have p7 := zF (B' := w.heap.size + 2) hown7 (by first | omega | (simp; omega)); have o7 := zf o5 hb7; have d7 := zf d5 hb7; have hK7 := hK5.below hb7 (by omega); have hR7 := hR5.below hb7 (by omega); have g7 := g5.trans (hb7.mono (by omega)); have hX7 := hK7.cell; have hF7 := hK7.free)
        refine hKK.out _ _ (by first | (exact HM.out _ wG) | go_keep) fun hSS => ?_
        try simp only [Act.put, u2, u3, u4]
        refine wpAnyH_done (by kernel_rfl) ?_ _
        refine zZ ?_
        refine wpOp_step (o := _) rfl (fun KK hKK => ?_)
        go_simp
        refine hKK _ _ (NoPanic.normal ?_)
        try simp only [Act.put, u2, u3, u4]
        all_goals
          clear hKK
          have hK8 := qK hK7 K1 A7 cap7
          have hR8 := pz hR7 (by omega) K1 A7 cap7 (b := w.heap.size)
          have g8 := yz g7 (Nat.le_refl _) K1 A7 cap7
          have p8 := yI p7 (b := w.heap.size) (by omega) K1 A7 cap7
          have o8 := yI o7 (b := w.heap.size) (by omega) K1 A7 cap7
          have d8 := yI d7 (b := w.heap.size) (by omega) K1 A7 cap7
          have hz8 := qA w7 w.heap.size K1 A7 cap7
          clear hX7 hF7 hK7 hR7 p7 g7 hown7 o7 d7
          generalize ((((((w7.setCell ⟨w.heap.size, 0, none⟩ (.int .i64 K1.o)).setCell ⟨w.heap.size, 1, none⟩ (.int .i64 K1.l)).setCell ⟨w.heap.size, 2, none⟩ (.int .i64 K1.m)).setCell ⟨w.heap.size, 3, none⟩ (.slice A7 K1.ps.length cap7)).setCell ⟨w.heap.size, 4, none⟩ (.int .i64 K1.base)).setCell ⟨w.heap.size, 5, none⟩ (.int .i64 K1.last)) = w8 at *
          go_wp2
          go_roundw
          case rel => exact ⟨K1, A7, Ad, cap7, cd, n + 1, r, ws, d, _, rfl, by go_num, rfl, by omega, HD1, hok1, HL1, hgo, hd3, HW1, HN3, o8, d8, .inr p8, hK8, hR8, g8⟩
          case measure => simp [intOf]; omega
      · rw [if_neg h2] at hgo
        obtain ⟨hfol, hd2000, hgo⟩ := hgo
        have hd2 : (c != pow2 K'.l) = true := by show (c != K'.cl) = true; simpa using h2
        have hst : K'.step c = K'.after c := if_neg h2
        have HW1 : Hid (D0 = (d ++ K'.any c) ++ xP (K'.step c) r) := by show _ = _; rw [HWB2.out, show K'.wd c = K'.any c from if_neg h2]
        have HST : Hid (∀ w, Sl w A' K'.ps.length cap' 2 (psV K'.ps) → Calls Tryz.prog 226 #[knV K' A' cap', .int .i64 c] w (qU (K'.step c) w)) := fun w hs => rZ K' A' cap' c w hk' hs (fun _ => hfol)
        have HFO : Hid (∀ w, Calls Tryz.prog 224 #[knV K' A' cap', .int .i64 c] w fun e w' => e = .returned (.bool (K'.fol c)) ∧ Below w.heap.size w w') := fun w => qF K' A' cap' c w hk'
        have HAN : Hid (∀ w, Sl w A' K'.ps.length cap' 2 (psV K'.ps) → Calls Tryz.prog 225 #[knV K' A' cap', .int .i64 c] w fun e w' => e = .returned (.string ⟨(K'.any c).toArray⟩) ∧ Below w.heap.size w w') := fun w hs => sU K' A' cap' c w hk' hs hfol
        have hok1 : (K'.step c).ok := step_ok hk' (fun _ => hfol)
        have HL1 : Hid ((K'.step c).l = K.l) := by show _ = _; rw [hst]; exact HL.out
        have hal := (K'.sQ hk' hfol).2
        have hpl := hk'.bd
        rw [← hst] at hgo
        clear hst h2 HL HWA HWB HWB2
        generalize K'.step c = K1 at *
        rw [hfol] at HFO
        clear hfol
        generalize K'.any c = x at *
        refine wp_region_quiet_below (by kernel_rfl) (by kernel_rfl) ?_
        repeat (go_big_quiet_step ((go_at_call 163; exact Calls.regrown_of (yu _ _ _ _ hq1 hq2))))
        refine wpQuiet_nil ?_
        intro w5 hw2
        have hb5 : Below _ _ w5 := zh hw2
        clear hw2
        have hz5 := hb5.size
        have o5 := zf o4 hb5
        have d5 := zf d4 hb5
        have s5 := s4.keep hb5
        have hK5 := hK4.below hb5 (by omega)
        have hR5 := hR4.below hb5 (by omega)
        have g5 := g4.trans (hb5.mono (by omega))
        clear hb5 o4 d4 s4 hK4 hR4 g4 hG hGC hcl4 hX
        have hX := hK5.cell
        have hcl5 := (g5.cell (p := ⟨gc, oc + n, none⟩) hgc).trans HCL.out
        have hG := zG hK5.cell (by omega)
        have hGC := wS hcl5 (by have := g5.size; omega)
        have hd2i : ¬ (2000 : Int) < d.length := by omega
        go_wp2_with fail
        refine wp_region_quiet_below (by kernel_rfl) (by kernel_rfl) ?_
        repeat (go_big_quiet_step ((go_at_call 224; exact Calls.regrown_of (HFO.out _))))
        refine wpQuiet_nil ?_
        intro w6 hw2
        have hb6 : Below _ _ w6 := zh hw2
        clear hw2
        have hz6 := hb6.size
        have o6 := zf o5 hb6
        have d6 := zf d5 hb6
        have s6 := s5.keep hb6
        have hK6 := hK5.below hb6 (by omega)
        have hR6 := hR5.below hb6 (by omega)
        have g6 := g5.trans (hb6.mono (by omega))
        clear hb6 o5 d5 s5 hK5 hR5 g5 hG hGC hcl5 hX
        have hX6 := hK6.cell
        have hcl6 := (g6.cell (p := ⟨gc, oc + n, none⟩) hgc).trans HCL.out
        have hs6 := s6.sl g6
        have hmd1 : d.length + x.length ≤ maxLen := by unfold maxLen; omega
        have hmd2 : d.length + x.length ≤ 140737488355328 := by omega
        go_wp2_with fail
        refine wp_region_held_drew (S := (fun w' => w'.cell? ⟨w.heap.size, 0, none⟩ = some (.int .i64 K'.o) ∧ w'.cell? ⟨w.heap.size, 1, none⟩ = some (.int .i64 K'.l) ∧ w'.cell? ⟨w.heap.size, 2, none⟩ = some (.int .i64 K'.m) ∧ w'.cell? ⟨w.heap.size, 3, none⟩ = some (.slice A' K'.ps.length cap') ∧ w'.cell? ⟨w.heap.size, 4, none⟩ = some (.int .i64 K'.base) ∧ w'.cell? ⟨w.heap.size, 5, none⟩ = some (.int .i64 K'.last) ∧ w'.cell? ⟨gc, oc + n, none⟩ = some (.int .i64 c))) (by kernel_rfl) ?_ (fun hSS => ?_)
        focus ((refine ⟨?_, ?_, ?_, ?_, ?_, ?_, ?_⟩; all_goals first | with_reducible exact hcl9 | with_reducible exact hcl8 | (simp [hX9]; done) | (simp [hX8]; done) | (simp only [World.cell?_drew]; exact hcl6) | (simp [hX6]; done)))
        refine tk 0 ?_
        try simp only [Act.put, u2, u3, u4]
        refine tk 1 ?_
        try simp only [Act.put, u2, u3, u4]
        refine tk 2 ?_
        try simp only [Act.put, u2, u3, u4]
        refine tk 3 ?_
        try simp only [Act.put, u2, u3, u4]
        refine tk 4 ?_
        try simp only [Act.put, u2, u3, u4]
        refine tk 5 ?_
        try simp only [Act.put, u2, u3, u4]
        refine rd1 6 fun KK hKK => ?_
        go_simp
        (go_at_call 225; refine (HAN.out _ (hs6.below yU)).mono ?_; rintro e w8 ⟨rfl, hb8⟩; have hb8 : Below w6.heap.size w6 w8 := zL hb8; have hz8 := hb8.size; have o8 := zf o6 hb8; have d8 := zf d6 hb8; have s8 := s6.keep hb8; have hK8 := hK6.below hb8 (by omega); have hR8 := hR6.below hb8 (by omega); have g8 := g6.trans (hb8.mono (by omega)); have hX8 := hK8.cell; have hcl8 := (g8.cell (p := ⟨gc, oc + n, none⟩) hgc).trans HCL.out)
        refine hKK.out _ _ (by (refine ⟨?_, ?_, ?_, ?_, ?_, ?_, ?_⟩; all_goals first | with_reducible exact hcl9 | with_reducible exact hcl8 | (simp [hX9]; done) | (simp [hX8]; done) | (simp only [World.cell?_drew]; exact hcl6) | (simp [hX6]; done))) fun hSS => ?_
        try simp only [Act.put, u2, u3, u4]
        refine rd1 7 fun KK hKK => ?_
        (refine eU rfl (.tmp 63) (.tmp 69) 22 9 rfl (w.heap.size + 2) 5 j Tryz.underlying22 Tryz.underlying9 hj jz0 jz1 jz2 (.slice Ad d.length cd) d.length (d.map u8v) rfl d8 x rfl hmd1 hmd2 (by omega) ?_; intro A9 cap9 w9 d9 hg9; have o9 := o8.kept hg9 (vK o8 d8 (by decide)); have s9 := s8.RN d8 (by decide) hg9; have hK9 := hK8.grown hg9 (own_ne d8 hK8 (by decide)); have hR9 := hR8.grown hg9 (own_ne d8 hR8 (by decide)); have g9 := g8.grown hg9 (by omega) (fun k hk => by have := (d8.lt k hk).1; omega); have hX9 := hK9.cell; have hcl9 := (g9.cell (p := ⟨gc, oc + n, none⟩) hgc).trans HCL.out)
        refine hKK.out _ _ (by (refine ⟨?_, ?_, ?_, ?_, ?_, ?_, ?_⟩; all_goals first | with_reducible exact hcl9 | with_reducible exact hcl8 | (simp [hX9]; done) | (simp [hX8]; done) | (simp only [World.cell?_drew]; exact hcl6) | (simp [hX6]; done))) fun hSS => ?_
        try simp only [Act.put, u2, u3, u4]
        refine tk 8 ?_
        try simp only [Act.put, u2, u3, u4]
        refine wpAnyH_done (by kernel_rfl) ?_ _
        simp only [List.getElem_toArray, List.getElem_cons_succ, List.getElem_cons_zero, Act.put, u2, u3, u4]
        have d10 : w9.ownsRow (w.heap.size + 2) 5 1 (.slice A9 (d ++ x).length cap9) (d ++ x).length ((d ++ x).map u8v) := by rw [List.length_append, List.map_append]; exact d9
        have hd9 : (d ++ x).length ≤ 3100 := by simp; omega
        have hgo' : qY K1 r (d ++ x).length := by rw [List.length_append]; exact hgo
        rw [show d.length + x.length = (d ++ x).length by rw [List.length_append]]
        have hz9 := g9.size
        have hz9' : w8.heap.size ≤ w9.heap.size := hg9.size
        clear hg9 d9 hgo hKK hcl8 hX8 g8 hR8 hK8 s8 d8 o8 hb8 hmd1 hmd2 hs6 hcl6 hX6 g6 hR6 hK6 s6 d6 o6 HAN HFO
        generalize d ++ x = d at *
        have hsN := s9.sl g9
        clear s9
        have HM : Hid (∀ w', Below w9.heap.size w9 w' → (w'.cell? ⟨w.heap.size, 0, none⟩ = some (.int .i64 K'.o) ∧ w'.cell? ⟨w.heap.size, 1, none⟩ = some (.int .i64 K'.l) ∧ w'.cell? ⟨w.heap.size, 2, none⟩ = some (.int .i64 K'.m) ∧ w'.cell? ⟨w.heap.size, 3, none⟩ = some (.slice A' K'.ps.length cap') ∧ w'.cell? ⟨w.heap.size, 4, none⟩ = some (.int .i64 K'.base) ∧ w'.cell? ⟨w.heap.size, 5, none⟩ = some (.int .i64 K'.last) ∧ w'.cell? ⟨gc, oc + n, none⟩ = some (.int .i64 c))) := fun w' h => ⟨(h.cell (p := ⟨_, _, _⟩) (by first | assumption | (simp only; omega) | omega)).trans (hX9 0), (h.cell (p := ⟨_, _, _⟩) (by first | assumption | (simp only; omega) | omega)).trans (hX9 1), (h.cell (p := ⟨_, _, _⟩) (by first | assumption | (simp only; omega) | omega)).trans (hX9 2), (h.cell (p := ⟨_, _, _⟩) (by first | assumption | (simp only; omega) | omega)).trans (hX9 3), (h.cell (p := ⟨_, _, _⟩) (by first | assumption | (simp only; omega) | omega)).trans (hX9 4), (h.cell (p := ⟨_, _, _⟩) (by first | assumption | (simp only; omega) | omega)).trans (hX9 5), (h.cell (p := ⟨_, _, _⟩) (by first | assumption | (simp only; omega) | omega)).trans (hcl9)⟩
        go_wp2_with fail
        refine xR 6 (fun w' => w'.cell? ⟨w.heap.size, 0, none⟩ = some (.int .i64 K'.o) ∧ w'.cell? ⟨w.heap.size, 1, none⟩ = some (.int .i64 K'.l) ∧ w'.cell? ⟨w.heap.size, 2, none⟩ = some (.int .i64 K'.m) ∧ w'.cell? ⟨w.heap.size, 3, none⟩ = some (.slice A' K'.ps.length cap') ∧ w'.cell? ⟨w.heap.size, 4, none⟩ = some (.int .i64 K'.base) ∧ w'.cell? ⟨w.heap.size, 5, none⟩ = some (.int .i64 K'.last) ∧ w'.cell? ⟨gc, oc + n, none⟩ = some (.int .i64 c)) (by kernel_rfl) (by kernel_rfl) (by first | (exact HM.out _ wG) | go_keep) (fun hSS => ?_)
        simp only [List.take_succ_cons, List.take_zero]
        refine tk 0 ?_
        try simp only [Act.put, u2, u3, u4]
        refine tk 1 ?_
        try simp only [Act.put, u2, u3, u4]
        refine tk 2 ?_
        try simp only [Act.put, u2, u3, u4]
        refine tk 3 ?_
        try simp only [Act.put, u2, u3, u4]
        refine tk 4 ?_
        try simp only [Act.put, u2, u3, u4]
        refine rd1 5 fun KK hKK => ?_
        go_simp
        (go_at_call 226; refine (HST.out _ (hsN.below yU)).mono ?_; rintro e w7 ⟨A7, cap7, rfl, hown7, hb7⟩; have hb7 : Below w9.heap.size w9 w7 := zL hb7; have hz7 := hb7.size; have p7 := zF (B' := w.heap.size + 2) hown7 (by first | omega | (simp; omega)); have o7 := zf o9 hb7; have d7 := zf d10 hb7; have hK7 := hK9.below hb7 (by omega); have hR7 := hR9.below hb7 (by omega); have g7 := g9.trans (hb7.mono (by omega)); have hX7 := hK7.cell; have hF7 := hK7.free)
        refine hKK.out _ _ (by first | (exact HM.out _ wG) | go_keep) fun hSS => ?_
        try simp only [Act.put, u2, u3, u4]
        refine wpAnyH_done (by kernel_rfl) ?_ _
        refine zZ ?_
        refine wpOp_step (o := _) rfl (fun KK hKK => ?_)
        go_simp
        refine hKK _ _ (NoPanic.normal ?_)
        try simp only [Act.put, u2, u3, u4]
        all_goals
          clear hKK
          have hK8 := qK hK7 K1 A7 cap7
          have hR8 := pz hR7 (by omega) K1 A7 cap7 (b := w.heap.size)
          have g8 := yz g7 (Nat.le_refl _) K1 A7 cap7
          have p8 := yI p7 (b := w.heap.size) (by omega) K1 A7 cap7
          have o8 := yI o7 (b := w.heap.size) (by omega) K1 A7 cap7
          have d8 := yI d7 (b := w.heap.size) (by omega) K1 A7 cap7
          have hz8 := qA w7 w.heap.size K1 A7 cap7
          clear hX7 hF7 hK7 hR7 p7 g7 hown7 o7 d7
          generalize ((((((w7.setCell ⟨w.heap.size, 0, none⟩ (.int .i64 K1.o)).setCell ⟨w.heap.size, 1, none⟩ (.int .i64 K1.l)).setCell ⟨w.heap.size, 2, none⟩ (.int .i64 K1.m)).setCell ⟨w.heap.size, 3, none⟩ (.slice A7 K1.ps.length cap7)).setCell ⟨w.heap.size, 4, none⟩ (.int .i64 K1.base)).setCell ⟨w.heap.size, 5, none⟩ (.int .i64 K1.last)) = w8 at *
          go_wp2
          go_roundw
          case rel => exact ⟨K1, A7, A9, cap7, cap9, n + 1, r, ws, d, _, rfl, by go_num, rfl, by omega, HD1, hok1, HL1, hgo', hd9, HW1, HN3, o8, d8, .inr p8, hK8, hR8, g8⟩
          case measure => simp [intOf]; omega
theorem OT (K : Kn) (l : Bs) : (uj K l).2.1 = (iK K l).2.1 ∧ (uj K l).2.2 = (iK K l).2.2 ∧ ((iK K l).2.1 = 4 → uj K l = ([], 4, 0)) ∧ ((iK K l).2.1 ≠ 4 → qY K (iK K l).1 0 ∧ (uj K l).1 = xP K (iK K l).1) ∧ (iK K l).1.length ≤ 3100 := by
 unfold uj iK
 by_cases h : 4000 < l.length
 ·rw [if_pos h, if_pos h]; simp
 ·rw [if_neg h, if_neg h]
  have hb := iP 3099 K (zJ K.o l) 0 (by omega)
  have hg := Wv 3099 K (zJ K.o l) 0 (by omega)
  refine ⟨rfl, rfl, fun h4 => ?_, fun _ => hg, hb.1⟩
  simp only at h4
  omega
theorem fO (K : Kn) (A : Option Addr) (cap : Nat) (l : Bs) (w : World) (hk : K.ok) (hs : Sl w A K.ps.length cap 2 (psV K.ps)) (hll : l.length ≤ 1000000) :
  Calls Tryz.prog 180 #[knV K A cap, sv l] w fun e w' => e = .returned (.tuple #[sv (uj K l).1, .int .i64 (uj K l).2.1, .int .i64 (uj K l).2.2]) ∧ Below w.heap.size w w' := by
 have cU := fun w hs => iQ K A cap l w hk hs hll
 obtain ⟨h1, h2, h3, h4, h5⟩ := OT K l
 unfold Oy at cU
 generalize iK K l = R at *
 obtain ⟨cs, fi, us⟩ := R
 generalize uj K l = D at *
 obtain ⟨d, fi', us'⟩ := D
 simp only at h1 h2 h3 h4 h5 cU ⊢
 subst h1 h2
 have H3 := Go.Lib.hid h3
 have H4 := Go.Lib.hid h4
 clear h3 h4
 go_enter Tryz.func180, Tryz.ntmps180
 have hK0 : Bk (w.alloc (.cells (knC K A cap) 102)) w.heap.size 102 (knC K A cap) := tBk
 have g0 : Below w.heap.size w (w.alloc (.cells (knC K A cap) 102)) := zH
 go_upto_region 1 with (fail)
 generalize w.alloc (.cells (knC K A cap) 102) = w0 at *
 have hX0 := hK0.cell
 have hz0 := hK0.lt
 have hs0 := hs.below g0
 go_wp2_with fail
 refine (cU _ hs0).mono ?_
 rintro e w1 ⟨C1, c1, rfl, o1, hb1⟩
 have hz1 := hb1.size
 have g1 := g0.trans (hb1.mono (by omega))
 have hK1 := hK0.below hb1 hz0
 have hs1 := hs0.below hb1
 clear hb1 hX0 hK0 g0 hs0 hs cU
 have hX1 := hK1.cell
 by_cases hf : fi' = 4
 ·have hE := H3.out hf
  injection hE with e1 e2
  injection e2 with e2 e3
  subst e1 e3
  have hfb : (fi' == 4) = true := by simpa using hf
  have HF := Go.Lib.hid hf
  clear hf e2 H3 H4
  go_wp2
  exact bodyPost_ret (v := .tuple #[sv [], .int .i64 fi', .int .i64 0]) (by simp [results, Tryz.results180, go_sem]) rfl ⟨rfl, g1⟩
 ·have hfb : (fi' == 4) = false := by simpa using hf
  obtain ⟨hg, hd⟩ := H4.out hf
  clear hf H3 H4
  have cW := XF K A cap C1 c1 cs w1 hk hs1 (Sl.own o1) (by omega) hg
  unfold Q8 at cW
  rw [← hd] at cW
  clear hd hg
  go_wp2_with fail
  refine cW.mono ?_
  rintro e w2 ⟨K2, A2, cap2, v2, b2, rfl, hb2⟩
  have g2 := g1.trans (hb2.mono (by omega))
  have g3 := g2.alloc g2.size (.cells (knC K2 A2 cap2) 102)
  go_wp2
  exact bodyPost_ret (v := .tuple #[sv d, .int .i64 fi', .int .i64 us']) (by simp [results, Tryz.results180, go_sem]) rfl ⟨rfl, g3⟩
theorem mW (o l m : Int) (dict t : Bs) (w : World) (hf : fits o l m dict) (hk : (zI o l m dict).ok) (hll : t.length ≤ 1000000) :
  Calls Tryz.prog 143 #[.agg #[.int .i64 o, .int .i64 l, .int .i64 m], sv dict, sv t] w fun e w' => e = .returned (.tuple #[sv (uj (zI o l m dict) t).1, .int .i64 (uj (zI o l m dict) t).2.1, .int .i64 (uj (zI o l m dict) t).2.2]) ∧ Below w.heap.size w w' := by
 have cS := fun w => lh o l m dict w hf
 have cD := fun A cap w hs => fO (zI o l m dict) A cap t w hk hs hll
 unfold jI at cS
 generalize zI o l m dict = K at *
 generalize uj K t = D at *
 obtain ⟨d, fi, us⟩ := D
 simp only at cD ⊢
 go_enter Tryz.func143, Tryz.ntmps143
 have hK0 : Bk (w.alloc (.cells #[.int .i64 o, .int .i64 l, .int .i64 m] 24)) w.heap.size 24 #[.int .i64 o, .int .i64 l, .int .i64 m] := tBk
 have g0 : Below w.heap.size w (w.alloc (.cells #[.int .i64 o, .int .i64 l, .int .i64 m] 24)) := zH
 go_upto_region 1 with (fail)
 generalize w.alloc (.cells #[.int .i64 o, .int .i64 l, .int .i64 m] 24) = w0 at *
 have hX0 := hK0.cell
 have hz0 := hK0.lt
 go_wp2_with fail
 refine (cS _).mono ?_
 rintro e w1 ⟨A1, c1, rfl, o1, hb1⟩
 have hz1 := hb1.size
 have g1 := g0.trans (hb1.mono (by omega))
 have hB2 := Bk.new w1 (knC K A1 c1) 102
 have o2 := o1.alloc (.cells (knC K A1 c1) 102)
 have g2 := g1.alloc (by omega) (.cells (knC K A1 c1) 102)
 clear hb1 hX0 hK0 g0 o1 g1
 go_upto_region 2 with (fail)
 unfold knC at hB2 o2 g2
 generalize w1.alloc (.cells #[.int .i64 K.o, .int .i64 K.l, .int .i64 K.m, .slice A1 K.ps.length c1, .int .i64 K.base, .int .i64 K.last] 102) = W at *
 have hX2 := hB2.cell
 have hl2 := hB2.lt
 go_wp2_with fail
 refine (cD _ _ _ (Sl.own o2)).mono ?_
 rintro e w3 ⟨rfl, hb3⟩
 have g3 := g2.trans (hb3.mono (by have := g2.size; omega))
 go_wp2
 exact bodyPost_ret (v := .tuple #[sv d, .int .i64 fi, .int .i64 us]) (by simp [results, Tryz.results143, go_sem]) rfl ⟨rfl, g3⟩
theorem pU (o l m : Int) (dict : Bs) (b : Blk) (w : World) (hf : fits o l m dict) (hll : b.body.length ≤ 1000000) :
    Calls Tryz.prog 112 #[.agg #[.int .i64 o, .int .i64 l, .int .i64 m], sv dict, bkV b] w fun e w' => e = yZ (b.dat (zI o l m dict)) ∧ Below w.heap.size w w' := by
  have cD := fun w => mW o l m dict b.body w hf (x9 hf) hll
  have hdl := aI (zI o l m dict) b.body
  obtain ⟨R, hR⟩ : ∃ R, b.dat (zI o l m dict) = R := ⟨_, rfl⟩
  rw [hR]
  have HR := Go.Lib.hid hR
  clear hR
  unfold Blk.dat at HR
  generalize uj (zI o l m dict) b.body = D at *
  generalize zI o l m dict = K at *
  obtain ⟨d, fi, us⟩ := D
  obtain ⟨n2, r, n4, T⟩ := b
  simp only at cD hdl HR hll
  unfold yZ
  go_enter Tryz.func112, Tryz.ntmps112
  have hK0 : Bk ((w.alloc (.cells #[.int .i64 o, .int .i64 l, .int .i64 m] 24)).alloc (.cells (bkC ⟨n2, r, n4, T⟩) 138)) w.heap.size 24 #[.int .i64 o, .int .i64 l, .int .i64 m] := tBk
  have hB0 : Bk ((w.alloc (.cells #[.int .i64 o, .int .i64 l, .int .i64 m] 24)).alloc (.cells (bkC ⟨n2, r, n4, T⟩) 138)) (w.heap.size + 1) 138 (bkC ⟨n2, r, n4, T⟩) := tBk
  have g0 : Below w.heap.size w ((w.alloc (.cells #[.int .i64 o, .int .i64 l, .int .i64 m] 24)).alloc (.cells (bkC ⟨n2, r, n4, T⟩) 138)) := zH
  go_upto_region 1 with (fail)
  generalize (w.alloc (.cells #[.int .i64 o, .int .i64 l, .int .i64 m] 24)).alloc (.cells (bkC ⟨n2, r, n4, T⟩) 138) = w0 at *
  have hX0 := hK0.cell
  have hY0 := hB0.cell
  have hz0 := hB0.lt
  cases r with
  | true =>
    have hE : R = some T := by rw [← HR.out]; simp
    subst hE
    clear HR
    go_wp2
    exact bodyPost_ret (v := .tuple #[sv T, .bool true]) (by simp [results, Tryz.results112, go_sem]) rfl ⟨rfl, g0⟩
  | false =>
    go_wp2_with fail
    refine (cD _).mono ?_
    rintro e w1 ⟨rfl, hb1⟩
    have hz1 := hb1.size
    have hB1 := hB0.below hb1 hz0
    have g1 := g0.trans (hb1.mono (by omega))
    have hY1 := hB1.cell
    clear hb1 hB0 hK0 hX0 hY0 g0 cD
    by_cases h1 : fi ≠ 0 ∨ us ≠ T.length ∨ (d.length : Int) ≠ n4
    · have hE : R = none := by rw [← HR.out, if_neg (by simp), if_pos h1]
      subst hE
      clear HR
      by_cases ha : fi = 0
      · have hab : (fi != 0) = false := by simpa using ha
        by_cases hc : us = T.length
        · have hcb : (us != (T.length : Int)) = false := by simpa using hc
          have hd : ((d.length : Int) != n4) = true := by
            rcases h1 with h1 | h1 | h1
            · exact absurd ha h1
            · exact absurd hc h1
            · simpa using h1
          clear ha hc h1
          go_wp2
          exact bodyPost_ret (v := .tuple #[sv [], .bool false]) (by simp [results, Tryz.results112, go_sem]) rfl ⟨rfl, g1⟩
        · have hcb : (us != (T.length : Int)) = true := by simpa using hc
          clear ha hc h1
          go_wp2
          exact bodyPost_ret (v := .tuple #[sv [], .bool false]) (by simp [results, Tryz.results112, go_sem]) rfl ⟨rfl, g1⟩
      · have hab : (fi != 0) = true := by simpa using ha
        clear ha h1
        go_wp2
        exact bodyPost_ret (v := .tuple #[sv [], .bool false]) (by simp [results, Tryz.results112, go_sem]) rfl ⟨rfl, g1⟩
    · have hE : R = some d := by rw [← HR.out, if_neg (by simp), if_neg h1]
      subst hE
      clear HR
      have ha : (fi != 0) = false := by simp only [not_or, Classical.not_not] at h1; simpa using h1.1
      have hc : (us != (T.length : Int)) = false := by simp only [not_or, Classical.not_not] at h1; simpa using h1.2.1
      have hd : ((d.length : Int) != n4) = false := by simp only [not_or, Classical.not_not] at h1; simpa using h1.2.2
      clear h1
      go_wp2
      exact bodyPost_ret (v := .tuple #[sv d, .bool true]) (by simp [results, Tryz.results112, go_sem]) rfl ⟨rfl, g1⟩
end Go.Proofs.YtinncdollpajkaaGreat
