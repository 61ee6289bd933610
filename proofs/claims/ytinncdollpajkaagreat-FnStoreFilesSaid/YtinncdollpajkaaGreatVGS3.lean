import Derived.Test.YtinncdollpajkaaGreatVGS2
import Derived.Test.YtinncdollpajkaaGreatVGZ
import Derived.Test.YtinncdollpajkaaGreatVGA
set_option linter.unusedVariables false
set_option linter.unusedSimpArgs false
set_option maxHeartbeats 8000000
namespace Go.Proofs.YtinncdollpajkaaGreat
open Go.RowKit
set_option maxRecDepth 100000
attribute [local go_sem high] zA zu zy zO zK zX zx zk zn zq zi zo yQ zC yf zD
theorem wS {W : World} {b o : Nat} {v : Value} (h : W.cell? ⟨b, o, none⟩ = some v) (hlt : b < W.heap.size) : ∀ d os, (Go.Sort.grow (redrawn W d) os).cell? ⟨b, o, none⟩ = some v :=
 fun d os => ((below_regrown W d os).cell (p := ⟨b, o, none⟩) hlt).trans h
theorem Z8 (n : Nat) (h : n ≤ 1000000) : IntKind.i64.wrap (n : Int) = (n : Int) := by rw [IntWalk.i64_left, IntWalk.wrap64_in _ ⟨by omega, by omega⟩]
def KS (w wr : World) (B : Nat) (K : Kn) (A : Option Addr) (cap : Nat) : Prop := Sl w A K.ps.length cap 2 (psV K.ps) ∨ wr.ownsRow B 189 2 (.slice A K.ps.length cap) K.ps.length (psV K.ps)
section
variable {w wr wr' : World} {B : Nat} {K : Kn} {A : Option Addr} {cap : Nat}
theorem KS.sl (h : KS w wr B K A cap) (hb : Below w.heap.size w wr) : Sl wr A K.ps.length cap 2 (psV K.ps) := h.elim (fun h => h.below hb) Sl.own
theorem KS.keep (h : KS w wr B K A cap) (hb : Below wr.heap.size wr wr') : KS w wr' B K A cap := h.elim .inl (fun h => .inr (zf h hb))
theorem KS.grown {e : TypeId} {s n B' : Nat} {v : Value} {xs : List Value} {o : Obj} (h : KS w wr B K A cap) (hv : wr.ownsRow B' e s v n xs) (hne : 189 ≠ e) (hg : (wr.alloc o).grownBy wr' v.ownBlock) : KS w wr' B K A cap :=
 h.elim .inl (fun h => .inr ((h.alloc o).kept hg (vK h hv hne)))
theorem KS.RN {e : TypeId} {s n B' : Nat} {v : Value} {xs : List Value} (h : KS w wr B K A cap) (hv : wr.ownsRow B' e s v n xs) (hne : 189 ≠ e) (hg : wr.grownBy wr' v.ownBlock) : KS w wr' B K A cap :=
 h.elim .inl (fun h => .inr (h.kept hg (vK h hv hne)))
end
def Oo (K : Kn) (cs : List Int) (w : World) (e : Ending) (w' : World) : Prop :=
 ∃ (K' : Kn) (A' : Option Addr) (cap' : Nat) (v : Value) (d : Bs), e = .returned (.tuple #[knV K' A' cap', v, sv d, .bool true]) ∧ w'.ownsRow w.heap.size 3 1 v cs.length ((K.walk cs).ws.map ivn) ∧ Below w.heap.size w w'
theorem VF (K : Kn) (A : Option Addr) (cap : Nat) (C : Option Addr) (cc : Nat) (cs : List Int) (w : World) (hk : K.ok) (hs : Sl w A K.ps.length cap 2 (psV K.ps)) (hc : Sl w C cs.length cc 1 (cs.map iv)) (hl : cs.length ≤ 100000) (hg : wI K cs 0) :
  Calls Tryz.prog 205 #[knV K A cap, .slice C cs.length cc] w (Oo K cs w) := by
 obtain ⟨i, hi, hz0, hz1, hz2⟩ := info_parts rF
 obtain ⟨j, hj, jz0, jz1, jz2⟩ := info_parts wu
 have hc0 : 0 < cs.length := by
  cases cs with
  | nil => exact absurd hg (by simp [wI])
  | cons c r => simp
 obtain ⟨hcc1, hcc2, _, hc4⟩ := hc
 obtain ⟨gc, oc, rfl, hgc, hcell⟩ := hc4 hc0
 have hcell : Hid (∀ j, (hj : j < cs.length) → w.cell? ⟨gc, oc + j, none⟩ = some (.int .i64 cs[j])) := fun j hj => hcell j _ (by rw [List.getElem?_map, List.getElem?_eq_getElem hj]; rfl)
 clear hc4
 go_enter Tryz.func205, Tryz.ntmps205
 go_wp2_with fail
 have hK0 : Bk ((((w.alloc (.cells (knC K A cap) 102)).alloc (.cells knZ 102)).alloc (.cells #[] 3)).alloc (.cells #[] 5)) w.heap.size 102 (knC K A cap) := tBk
 have hR0 : Bk ((((w.alloc (.cells (knC K A cap) 102)).alloc (.cells knZ 102)).alloc (.cells #[] 3)).alloc (.cells #[] 5)) (w.heap.size + 1) 102 knZ := tBk
 have hI0 : Bk ((((w.alloc (.cells (knC K A cap) 102)).alloc (.cells knZ 102)).alloc (.cells #[] 3)).alloc (.cells #[] 5)) (w.heap.size + 2) 3 #[] := tBk
 have hJ0 : Bk ((((w.alloc (.cells (knC K A cap) 102)).alloc (.cells knZ 102)).alloc (.cells #[] 3)).alloc (.cells #[] 5)) (w.heap.size + 3) 5 #[] := tBk
 have g0 : Below w.heap.size w ((((w.alloc (.cells (knC K A cap) 102)).alloc (.cells knZ 102)).alloc (.cells #[] 3)).alloc (.cells #[] 5)) := zH
 generalize (((w.alloc (.cells (knC K A cap) 102)).alloc (.cells knZ 102)).alloc (.cells #[] 3)).alloc (.cells #[] 5) = w0 at *
 have o0 := vw (base := w.heap.size + 2) (size := 1) hI0 (by omega)
 have d0 := vw (base := w.heap.size + 2) (size := 1) hJ0 (by omega)
 have s0 : KS w w0 (w.heap.size + 2) K A cap := .inl hs
 have hW0 : Hid ((K.walk cs).ws = [] ++ (K.walk cs).ws) := rfl
 generalize hWS : (K.walk cs).ws = WS at *
 have HWS := Go.Lib.hid hWS
 clear hWS
 have hp := hk.lm
 have hL0 : K.l = K.l := rfl
 go_loopw [8, 9, 10] (fun a b c wr => ∃ (K' : Kn) (A' Ad : Option Addr) (cap' cd n : Nat) (rest : List Int) (ws : List Nat) (d : Bs), c = .int .i64 n ∧ b = .slice Ad d.length cd ∧ n < cs.length ∧ Hid (cs.drop n = rest) ∧ K'.ok ∧ Hid (K'.l = K.l) ∧ wI K' rest d.length ∧ Hid (WS = ws ++ (K'.walk rest).ws) ∧ Hid (ws.length = n) ∧
  wr.ownsRow (w.heap.size + 2) 3 1 a ws.length (ws.map ivn) ∧ wr.ownsRow (w.heap.size + 2) 5 1 b d.length (d.map u8v) ∧ KS w wr (w.heap.size + 2) K' A' cap' ∧ Bk wr w.heap.size 102 (knC K' A' cap') ∧ Bk wr (w.heap.size + 1) 102 knZ ∧ Below w.heap.size w wr) (fun _ _ c _ => cs.length - (intOf c).toNat)
 case atStart => exact ⟨K, A, _, cap, 0, 0, cs, [], [], rfl, rfl, hc0, rfl, hk, hL0, hg, by show _ = _; rw [← HWS.out]; rfl, rfl, o0, d0, s0, hK0, hR0, g0⟩
 case round =>
  obtain ⟨K', A', Ad, cap', cd, n, rest, ws, d, rfl, rfl, hn, HD, hk', HL, hgo, HW, HN, o1, d1, s1, hK1, hR1, g1⟩ := hrel
  clear hK0 hR0 hI0 hJ0 g0 o0 d0 s0 hW0 hg hL0 hs
  obtain ⟨c, r, rfl⟩ : ∃ c r, rest = c :: r := by
   cases rest with
   | nil => exact absurd hgo (by simp [wI])
   | cons c r => exact ⟨c, r, rfl⟩
  have hcn : cs[n] = c := by
   have h := HD.out
   rw [List.drop_eq_getElem_cons hn] at h
   exact (List.cons.inj h).1
  have HD1 : Hid (cs.drop (n + 1) = r) := by
   have h := HD.out
   rw [List.drop_eq_getElem_cons hn] at h
   exact (List.cons.inj h).2
  have hcl := (g1.cell (p := ⟨gc, oc + n, none⟩) hgc).trans (hcell.out n hn)
  rw [hcn] at hcl
  have HCL : Hid (w.cell? ⟨gc, oc + n, none⟩ = some (.int .i64 c)) := by show _ = _; rw [hcell.out n hn, hcn]
  clear hcn HD
  rw [wI] at hgo
  have HW1 : Hid (WS = (ws ++ [K'.width]) ++ ((K'.step c).walk r).ws) := by show _ = _; rw [HW.out, nX]; simp
  clear HW
  have hX := hK1.cell
  have hwz := hR1.lt
  have hm1 : ws.length + 1 ≤ maxLen := by have := HN.out; unfold maxLen; omega
  have hm2 : (ws.length + 1) * 8 ≤ 140737488355328 := by have := HN.out; omega
  have hq := hk'.lm
  obtain ⟨hq1, hq2, hq3, hq4⟩ := hq
  go_wp2_with fail
  refine (ni _ _ _ _ hk').mono ?_
  rintro e w2 ⟨rfl, hb2⟩
  have hz2' := hb2.size
  have o2 := zf o1 hb2
  have d2 := zf d1 hb2
  have s2 := s1.keep hb2
  have hK2 := hK1.below hb2 (by omega)
  have hR2 := hR1.below hb2 (by omega)
  have g2 := g1.trans (hb2.mono (by omega))
  have hcl2 := (hb2.cell (p := ⟨gc, oc + n, none⟩) (by simp only; omega)).trans hcl
  clear hb2 o1 d1 s1 hK1 hR1 g1 hcl hX
  go_wp2_with (at_builtin; go_must (refine wpList_append_own _ rfl _ _ 95 rfl (w.heap.size + 2) 3 i _ 1 8 Tryz.underlying95 hi hz0 hz1 hz2 rfl (by omega) _ _ _ rfl (o2.alloc _) ⟨w2.heap.size, 0, none⟩ 1 1 [.int .i64 K'.width] rfl rfl ?_ ?_ hm1 hm2 ?_ ?_))
  try (case refine_1 => first | exact cell_one_new _ _ _ | omega | (simp <;> omega; done) | (simp [Value.oneCell']; done))
  try (case refine_2 => first | exact cell_one_new _ _ _ | omega | (simp <;> omega; done) | (simp [Value.oneCell']; done))
  try (case refine_3 => first | exact cell_one_new _ _ _ | omega | (simp <;> omega; done) | (simp [Value.oneCell']; done))
  intro v3 w3 o3 hg3 _
  have hz3 := wO hg3
  have g3 := yR g2 hg3 (by omega) (fun k hk => by have := (o2.lt k hk).1; omega)
  have hlt3 : ∀ k, v3.ownBlock = some k → w.heap.size + 2 ≤ k := fun k hk => (o3.lt k hk).1
  have d3 := (d2.alloc (.cells #[.int .i64 K'.width] 3)).kept hg3 (vK d2 o2 (by decide))
  have s3 := s2.grown o2 (by decide) hg3
  have hK3 := (hK2.alloc (.cells #[.int .i64 K'.width] 3)).grown hg3 (own_ne o2 hK2 (by decide))
  have hR3 := (hR2.alloc (.cells #[.int .i64 K'.width] 3)).grown hg3 (own_ne o2 hR2 (by decide))
  have o3 : w3.ownsRow (w.heap.size + 2) 3 1 v3 (ws ++ [K'.width]).length ((ws ++ [K'.width]).map ivn) := by rw [List.length_append, List.map_append]; exact o3
  have HN3 : Hid ((ws ++ [K'.width]).length = n + 1) := by show _ = _; rw [List.length_append, HN.out]; rfl
  clear hg3 o2 d2 s2 hK2 hR2 g2 hcl2 HN hm1 hm2
  generalize ws ++ [K'.width] = ws at *
  have hcl3 := (g3.cell (p := ⟨gc, oc + n, none⟩) hgc).trans HCL.out
  have hG := zG hK3.cell (by omega)
  have hGC := wS hcl3 (by have := g3.size; omega)
  have hn' : (n : Int) < cs.length := by omega
  go_wp2_with fail
  by_cases h1 : c = K'.cl + 1
  ·rw [if_pos h1] at hgo
   subst hgo
   have hlen : Hid (cs.length = n + 1) := by
    have h := congrArg List.length HD1.out
    simp at h
    show _ = _; omega
   have hd1 : (c == pow2 K'.l + 1) = true := by show (c == K'.cl + 1) = true; simpa using h1
   have hd2 : ((n : Int) == (cs.length : Int) - 1) = true := by have := hlen.out; simp; omega
   clear h1
   refine wp_region_quiet_below (by kernel_rfl) (by kernel_rfl) ?_
   repeat (go_big_quiet_step ((go_at_call 223; exact Calls.regrown_of (xq _ _ _ _ hq1 hq2))))
   refine wpQuiet_nil ?_
   intro w4 hw2
   have hb4 : Below _ _ w4 := zh hw2
   clear hw2
   have hz4 := hb4.size
   have o4 := zf o3 hb4
   have d4 := zf d3 hb4
   have hK4 := hK3.below hb4 (by omega)
   have hR4 := hR3.below hb4 (by omega)
   have g4 := g3.trans (hb4.mono (by omega))
   clear hb4 o3 d3 s3 hK3 hR3 g3 hG hGC hcl3
   have d4' := vC d4
   have hcv := yH d4'
   have hX := hK4.cell
   have hF := hR4.free
   have hQ := hR4.cell
   have d5 := vC (yI d4 (b := w.heap.size + 1) (by omega) K' A' cap')
   have hX2 := (pz hK4 (by omega) K' A' cap' (b := w.heap.size + 1)).cell
   have hcv2 := yH d5
   have hcv3 := yH (yI d4' (b := w.heap.size + 1) (by omega) K' A' cap')
   go_wp2_with fail
   have hcl := g4.size
   refine wp_region_held_drew (S := (fun w' => w'.cell? ⟨w.heap.size, 0, none⟩ = some (.int .i64 K'.o) ∧ w'.cell? ⟨w.heap.size, 1, none⟩ = some (.int .i64 K'.l) ∧ w'.cell? ⟨w.heap.size, 2, none⟩ = some (.int .i64 K'.m) ∧ w'.cell? ⟨w.heap.size, 3, none⟩ = some (.slice A' K'.ps.length cap') ∧ w'.cell? ⟨w.heap.size, 4, none⟩ = some (.int .i64 K'.base) ∧ w'.cell? ⟨w.heap.size, 5, none⟩ = some (.int .i64 K'.last) ∧ (convert 22 9 (.slice Ad d.length cd)).run Tryz.prog w' = .ok (.string ⟨d.toArray⟩) w')) (by kernel_rfl) ?_ (fun hSS => ?_)
   focus ((refine ⟨?_, ?_, ?_, ?_, ?_, ?_, ?_⟩; all_goals first | with_reducible exact hcv | with_reducible exact hcv2 | with_reducible exact hcv3 | (simp [hX]; done) | (simp [hX2]; done)))
   refine tk 0 ?_
   try simp only [Act.put, u2, u3, u4]
   refine tk 1 ?_
   try simp only [Act.put, u2, u3, u4]
   refine tk 2 ?_
   try simp only [Act.put, u2, u3, u4]
   refine tk 3 ?_
   try simp only [Act.put, u2, u3, u4]
   refine tk 4 ?_
   try simp only [Act.put, u2, u3, u4]
   refine tk 5 ?_
   try simp only [Act.put, u2, u3, u4]
   refine tk 6 ?_
   try simp only [Act.put, u2, u3, u4]
   refine tk 7 ?_
   try simp only [Act.put, u2, u3, u4]
   refine tk 8 ?_
   try simp only [Act.put, u2, u3, u4]
   refine rd1 9 fun KK hKK => ?_
   go_simp
   refine hKK.out _ _ (by (refine ⟨?_, ?_, ?_, ?_, ?_, ?_, ?_⟩; all_goals first | with_reducible exact hcv | with_reducible exact hcv2 | with_reducible exact hcv3 | (simp [hX]; done) | (simp [hX2]; done))) fun hSS => ?_
   try simp only [Act.put, u2, u3, u4]
   refine tk 10 ?_
   try simp only [Act.put, u2, u3, u4]
   refine tk 11 ?_
   try simp only [Act.put, u2, u3, u4]
   refine tk 12 ?_
   try simp only [Act.put, u2, u3, u4]
   refine wpAnyH_done (by kernel_rfl) ?_ _
   simp only [List.getElem_toArray, List.getElem_cons_succ, List.getElem_cons_zero, Act.put, u2, u3, u4]
   go_wp2
   have hwr : IntKind.i64.wrap ((cs.length : Int) - 1) = (n : Int) := by
    have h := hlen.out
    rw [show (cs.length : Int) - 1 = (n : Int) by omega]
    exact Z8 n (by omega)
   have hQ6 := (wU hR4 K' A' cap').cell
   have o6 : (((((((w4.setCell ⟨w.heap.size + 1, 0, none⟩ (.int .i64 K'.o)).setCell ⟨w.heap.size + 1, 1, none⟩ (.int .i64 K'.l)).setCell ⟨w.heap.size + 1, 2, none⟩ (.int .i64 K'.m)).setCell ⟨w.heap.size + 1, 3, none⟩ (.slice A' K'.ps.length cap')).setCell ⟨w.heap.size + 1, 4, none⟩ (.int .i64 K'.base)).setCell ⟨w.heap.size + 1, 5, none⟩ (.int .i64 K'.last))).drew.ownsRow w.heap.size 3 1 v3 cs.length ((K.walk cs).ws.map ivn) := by
    have h := zF (B' := w.heap.size) (vC (yI o4 (b := w.heap.size + 1) (by omega) K' A' cap')) (by omega)
    rw [HWS.out, HW1.out, hlen.out, ← HN3.out]
    have e : ((K'.step c).walk []).ws = [] := rfl
    rw [e, List.append_nil]
    exact h
   have g6 := yz g4 (b := w.heap.size + 1) (by omega) K' A' cap'
   exact bodyPost_ret (v := .tuple #[knV K' A' cap', v3, sv d, .bool true]) (by simp [results, Tryz.results205, go_sem, hQ6, hwr]) rfl ⟨K', A', cap', v3, d, rfl, o6, g6.drew⟩
  ·rw [if_neg h1] at hgo
   have hd1 : (c == pow2 K'.l + 1) = false := by show (c == K'.cl + 1) = false; simpa using h1
   clear h1
   refine wp_region_quiet_below (by kernel_rfl) (by kernel_rfl) ?_
   repeat (go_big_quiet_step ((go_at_call 223; exact Calls.regrown_of (xq _ _ _ _ hq1 hq2))))
   refine wpQuiet_nil ?_
   intro w4 hw2
   have hb4 : Below _ _ w4 := zh hw2
   clear hw2
   have hz4 := hb4.size
   have o4 := zf o3 hb4
   have d4 := zf d3 hb4
   have s4 := s3.keep hb4
   have hK4 := hK3.below hb4 (by omega)
   have hR4 := hR3.below hb4 (by omega)
   have g4 := g3.trans (hb4.mono (by omega))
   clear hb4 o3 d3 s3 hK3 hR3 g3 hG hGC hcl3
   have hX := hK4.cell
   have hcl4 := (g4.cell (p := ⟨gc, oc + n, none⟩) hgc).trans HCL.out
   have hG := zG hK4.cell (by omega)
   have hGC := wS hcl4 (by have := g4.size; omega)
   have hrl : r.length = cs.length - (n + 1) := by
    have h := congrArg List.length HD1.out
    simp at h; omega
   go_wp2_with fail
   by_cases h2 : c = K'.cl
   ·rw [if_pos h2] at hgo
    have hd2 : (c != pow2 K'.l) = false := by show (c != K'.cl) = false; simpa using h2
    have hr0 : r ≠ [] := fun h => by subst h; exact hgo
    have hr1 : 0 < r.length := List.length_pos_iff.2 hr0
    have hst : K'.step c = K'.cleared := if_pos h2
    have HST : Hid (∀ w, Sl w A' K'.ps.length cap' 2 (psV K'.ps) → Calls Tryz.prog 226 #[knV K' A' cap', .int .i64 c] w (qU (K'.step c) w)) := fun w hs => rZ K' A' cap' c w hk' hs (fun h => absurd h2 h)
    have hok1 : (K'.step c).ok := step_ok hk' (fun h => absurd h2 h)
    have HL1 : Hid ((K'.step c).l = K.l) := by show _ = _; rw [hst]; exact HL.out
    rw [← hst] at hgo
    clear hst h2 HL hr0
    generalize K'.step c = K1 at *
    refine wp_region_quiet_below (by kernel_rfl) (by kernel_rfl) ?_
    repeat (go_big_quiet_step ((go_at_call 163; exact Calls.regrown_of (yu _ _ _ _ hq1 hq2))))
    refine wpQuiet_nil ?_
    intro w5 hw2
    have hb5 : Below _ _ w5 := zh hw2
    clear hw2
    have hz5 := hb5.size
    have o5 := zf o4 hb5
    have d5 := zf d4 hb5
    have s5 := s4.keep hb5
    have hK5 := hK4.below hb5 (by omega)
    have hR5 := hR4.below hb5 (by omega)
    have g5 := g4.trans (hb5.mono (by omega))
    clear hb5 o4 d4 s4 hK4 hR4 g4 hG hGC hcl4 hX
    have hsN := s5.sl g5
    have hX := hK5.cell
    have hF := hK5.free
    have hcl5 := (g5.cell (p := ⟨gc, oc + n, none⟩) hgc).trans HCL.out
    have HM : Hid (∀ w', Below w5.heap.size w5 w' → (w'.cell? ⟨w.heap.size, 0, none⟩ = some (.int .i64 K'.o) ∧ w'.cell? ⟨w.heap.size, 1, none⟩ = some (.int .i64 K'.l) ∧ w'.cell? ⟨w.heap.size, 2, none⟩ = some (.int .i64 K'.m) ∧ w'.cell? ⟨w.heap.size, 3, none⟩ = some (.slice A' K'.ps.length cap') ∧ w'.cell? ⟨w.heap.size, 4, none⟩ = some (.int .i64 K'.base) ∧ w'.cell? ⟨w.heap.size, 5, none⟩ = some (.int .i64 K'.last) ∧ w'.cell? ⟨gc, oc + n, none⟩ = some (.int .i64 c))) := fun w' h => ⟨(h.cell (p := ⟨_, _, _⟩) (by first | assumption | (simp only; omega) | omega)).trans (hX 0), (h.cell (p := ⟨_, _, _⟩) (by first | assumption | (simp only; omega) | omega)).trans (hX 1), (h.cell (p := ⟨_, _, _⟩) (by first | assumption | (simp only; omega) | omega)).trans (hX 2), (h.cell (p := ⟨_, _, _⟩) (by first | assumption | (simp only; omega) | omega)).trans (hX 3), (h.cell (p := ⟨_, _, _⟩) (by first | assumption | (simp only; omega) | omega)).trans (hX 4), (h.cell (p := ⟨_, _, _⟩) (by first | assumption | (simp only; omega) | omega)).trans (hX 5), (h.cell (p := ⟨_, _, _⟩) (by first | assumption | (simp only; omega) | omega)).trans (hcl5)⟩
    go_wp2_with fail
    refine xR 6 (fun w' => w'.cell? ⟨w.heap.size, 0, none⟩ = some (.int .i64 K'.o) ∧ w'.cell? ⟨w.heap.size, 1, none⟩ = some (.int .i64 K'.l) ∧ w'.cell? ⟨w.heap.size, 2, none⟩ = some (.int .i64 K'.m) ∧ w'.cell? ⟨w.heap.size, 3, none⟩ = some (.slice A' K'.ps.length cap') ∧ w'.cell? ⟨w.heap.size, 4, none⟩ = some (.int .i64 K'.base) ∧ w'.cell? ⟨w.heap.size, 5, none⟩ = some (.int .i64 K'.last) ∧ w'.cell? ⟨gc, oc + n, none⟩ = some (.int .i64 c)) (by kernel_rfl) (by kernel_rfl) (by first | (exact HM.out _ wG) | go_keep) (fun hSS => ?_)
    simp only [List.take_succ_cons, List.take_zero]
    refine tk 0 ?_
    try simp only [Act.put, u2, u3, u4]
    refine tk 1 ?_
    try simp only [Act.put, u2, u3, u4]
    refine tk 2 ?_
    try simp only [Act.put, u2, u3, u4]
    refine tk 3 ?_
    try simp only [Act.put, u2, u3, u4]
    refine tk 4 ?_
    try simp only [Act.put, u2, u3, u4]
    refine rd1 5 fun KK hKK => ?_
    go_simp
    (go_at_call 226; refine (HST.out _ (hsN.below yU)).mono ?_; rintro e w7 ⟨A7, cap7, rfl, hown7, hb7⟩; have hb7 : Below w5.heap.size w5 w7 := zL hb7; have hz7 := hb7.size; have p7 := zF (B' := w.heap.size + 2) hown7 (by first | omega | (simp; omega)); have o7 := zf o5 hb7; have d7 := zf d5 hb7; have hK7 := hK5.below hb7 (by omega); have hR7 := hR5.below hb7 (by omega); have g7 := g5.trans (hb7.mono (by omega)); have hX7 := hK7.cell; have hF7 := hK7.free)
    refine hKK.out _ _ (by first | (exact HM.out _ wG) | go_keep) fun hSS => ?_
    try simp only [Act.put, u2, u3, u4]
    refine wpAnyH_done (by kernel_rfl) ?_ _
    refine zZ ?_
    refine wpOp_step (o := _) rfl (fun KK hKK => ?_)
    go_simp
    refine hKK _ _ (NoPanic.normal ?_)
    try simp only [Act.put, u2, u3, u4]
    all_goals
     clear hKK
     have hK8 := qK hK7 K1 A7 cap7
     have hR8 := pz hR7 (by omega) K1 A7 cap7 (b := w.heap.size)
     have g8 := yz g7 (Nat.le_refl _) K1 A7 cap7
     have p8 := yI p7 (b := w.heap.size) (by omega) K1 A7 cap7
     have o8 := yI o7 (b := w.heap.size) (by omega) K1 A7 cap7
     have d8 := yI d7 (b := w.heap.size) (by omega) K1 A7 cap7
     have hz8 := qA w7 w.heap.size K1 A7 cap7
     clear hX7 hF7 hK7 hR7 p7 g7 hown7 o7 d7
     generalize ((((((w7.setCell ⟨w.heap.size, 0, none⟩ (.int .i64 K1.o)).setCell ⟨w.heap.size, 1, none⟩ (.int .i64 K1.l)).setCell ⟨w.heap.size, 2, none⟩ (.int .i64 K1.m)).setCell ⟨w.heap.size, 3, none⟩ (.slice A7 K1.ps.length cap7)).setCell ⟨w.heap.size, 4, none⟩ (.int .i64 K1.base)).setCell ⟨w.heap.size, 5, none⟩ (.int .i64 K1.last)) = w8 at *
     go_wp2
     go_roundw
     case rel => exact ⟨K1, A7, Ad, cap7, cd, n + 1, r, ws, d, by go_num, rfl, by omega, HD1, hok1, HL1, hgo, HW1, HN3, o8, d8, .inr p8, hK8, hR8, g8⟩
     case measure => simp [intOf]; omega
   ·rw [if_neg h2] at hgo
    obtain ⟨hfol, hd2000, hgo⟩ := hgo
    have hd2 : (c != pow2 K'.l) = true := by show (c != K'.cl) = true; simpa using h2
    have hr0 : r ≠ [] := fun h => by subst h; exact hgo
    have hr1 : 0 < r.length := List.length_pos_iff.2 hr0
    have hst : K'.step c = K'.after c := if_neg h2
    have HST : Hid (∀ w, Sl w A' K'.ps.length cap' 2 (psV K'.ps) → Calls Tryz.prog 226 #[knV K' A' cap', .int .i64 c] w (qU (K'.step c) w)) := fun w hs => rZ K' A' cap' c w hk' hs (fun _ => hfol)
    have HFO : Hid (∀ w, Calls Tryz.prog 224 #[knV K' A' cap', .int .i64 c] w fun e w' => e = .returned (.bool (K'.fol c)) ∧ Below w.heap.size w w') := fun w => qF K' A' cap' c w hk'
    have HAN : Hid (∀ w, Sl w A' K'.ps.length cap' 2 (psV K'.ps) → Calls Tryz.prog 225 #[knV K' A' cap', .int .i64 c] w fun e w' => e = .returned (.string ⟨(K'.any c).toArray⟩) ∧ Below w.heap.size w w') := fun w hs => sU K' A' cap' c w hk' hs hfol
    have hok1 : (K'.step c).ok := step_ok hk' (fun _ => hfol)
    have HL1 : Hid ((K'.step c).l = K.l) := by show _ = _; rw [hst]; exact HL.out
    have hal := (K'.sQ hk' hfol).2
    have hpl := hk'.bd
    rw [← hst] at hgo
    clear hst h2 HL hr0
    generalize K'.step c = K1 at *
    rw [hfol] at HFO
    clear hfol
    generalize K'.any c = x at *
    refine wp_region_quiet_below (by kernel_rfl) (by kernel_rfl) ?_
    repeat (go_big_quiet_step ((go_at_call 163; exact Calls.regrown_of (yu _ _ _ _ hq1 hq2))))
    refine wpQuiet_nil ?_
    intro w5 hw2
    have hb5 : Below _ _ w5 := zh hw2
    clear hw2
    have hz5 := hb5.size
    have o5 := zf o4 hb5
    have d5 := zf d4 hb5
    have s5 := s4.keep hb5
    have hK5 := hK4.below hb5 (by omega)
    have hR5 := hR4.below hb5 (by omega)
    have g5 := g4.trans (hb5.mono (by omega))
    clear hb5 o4 d4 s4 hK4 hR4 g4 hG hGC hcl4 hX
    have hX := hK5.cell
    have hcl5 := (g5.cell (p := ⟨gc, oc + n, none⟩) hgc).trans HCL.out
    have hG := zG hK5.cell (by omega)
    have hGC := wS hcl5 (by have := g5.size; omega)
    have hd2i : ¬ (2000 : Int) < d.length := by omega
    go_wp2_with fail
    refine wp_region_quiet_below (by kernel_rfl) (by kernel_rfl) ?_
    repeat (go_big_quiet_step ((go_at_call 224; exact Calls.regrown_of (HFO.out _))))
    refine wpQuiet_nil ?_
    intro w6 hw2
    have hb6 : Below _ _ w6 := zh hw2
    clear hw2
    have hz6 := hb6.size
    have o6 := zf o5 hb6
    have d6 := zf d5 hb6
    have s6 := s5.keep hb6
    have hK6 := hK5.below hb6 (by omega)
    have hR6 := hR5.below hb6 (by omega)
    have g6 := g5.trans (hb6.mono (by omega))
    clear hb6 o5 d5 s5 hK5 hR5 g5 hG hGC hcl5 hX
    have hX6 := hK6.cell
    have hcl6 := (g6.cell (p := ⟨gc, oc + n, none⟩) hgc).trans HCL.out
    have hs6 := s6.sl g6
    have hmd1 : d.length + x.length ≤ maxLen := by unfold maxLen; omega
    have hmd2 : d.length + x.length ≤ 140737488355328 := by omega
    go_wp2_with fail
    refine wp_region_held_drew (S := (fun w' => w'.cell? ⟨w.heap.size, 0, none⟩ = some (.int .i64 K'.o) ∧ w'.cell? ⟨w.heap.size, 1, none⟩ = some (.int .i64 K'.l) ∧ w'.cell? ⟨w.heap.size, 2, none⟩ = some (.int .i64 K'.m) ∧ w'.cell? ⟨w.heap.size, 3, none⟩ = some (.slice A' K'.ps.length cap') ∧ w'.cell? ⟨w.heap.size, 4, none⟩ = some (.int .i64 K'.base) ∧ w'.cell? ⟨w.heap.size, 5, none⟩ = some (.int .i64 K'.last) ∧ w'.cell? ⟨gc, oc + n, none⟩ = some (.int .i64 c))) (by kernel_rfl) ?_ (fun hSS => ?_)
    focus ((refine ⟨?_, ?_, ?_, ?_, ?_, ?_, ?_⟩; all_goals first | with_reducible exact hcl9 | with_reducible exact hcl8 | (simp [hX9]; done) | (simp [hX8]; done) | (simp only [World.cell?_drew]; exact hcl6) | (simp [hX6]; done)))
    refine tk 0 ?_
    try simp only [Act.put, u2, u3, u4]
    refine tk 1 ?_
    try simp only [Act.put, u2, u3, u4]
    refine tk 2 ?_
    try simp only [Act.put, u2, u3, u4]
    refine tk 3 ?_
    try simp only [Act.put, u2, u3, u4]
    refine tk 4 ?_
    try simp only [Act.put, u2, u3, u4]
    refine tk 5 ?_
    try simp only [Act.put, u2, u3, u4]
    refine rd1 6 fun KK hKK => ?_
    go_simp
    (go_at_call 225; refine (HAN.out _ (hs6.below yU)).mono ?_; rintro e w8 ⟨rfl, hb8⟩; have hb8 : Below w6.heap.size w6 w8 := zL hb8; have hz8 := hb8.size; have o8 := zf o6 hb8; have d8 := zf d6 hb8; have s8 := s6.keep hb8; have hK8 := hK6.below hb8 (by omega); have hR8 := hR6.below hb8 (by omega); have g8 := g6.trans (hb8.mono (by omega)); have hX8 := hK8.cell; have hcl8 := (g8.cell (p := ⟨gc, oc + n, none⟩) hgc).trans HCL.out)
    refine hKK.out _ _ (by (refine ⟨?_, ?_, ?_, ?_, ?_, ?_, ?_⟩; all_goals first | with_reducible exact hcl9 | with_reducible exact hcl8 | (simp [hX9]; done) | (simp [hX8]; done) | (simp only [World.cell?_drew]; exact hcl6) | (simp [hX6]; done))) fun hSS => ?_
    try simp only [Act.put, u2, u3, u4]
    refine rd1 7 fun KK hKK => ?_
    (refine eU rfl (.tmp 63) (.tmp 69) 22 9 rfl (w.heap.size + 2) 5 j Tryz.underlying22 Tryz.underlying9 hj jz0 jz1 jz2 (.slice Ad d.length cd) d.length (d.map u8v) rfl d8 x rfl hmd1 hmd2 (by omega) ?_; intro A9 cap9 w9 d9 hg9; have o9 := o8.kept hg9 (vK o8 d8 (by decide)); have s9 := s8.RN d8 (by decide) hg9; have hK9 := hK8.grown hg9 (own_ne d8 hK8 (by decide)); have hR9 := hR8.grown hg9 (own_ne d8 hR8 (by decide)); have g9 := g8.grown hg9 (by omega) (fun k hk => by have := (d8.lt k hk).1; omega); have hX9 := hK9.cell; have hcl9 := (g9.cell (p := ⟨gc, oc + n, none⟩) hgc).trans HCL.out)
    refine hKK.out _ _ (by (refine ⟨?_, ?_, ?_, ?_, ?_, ?_, ?_⟩; all_goals first | with_reducible exact hcl9 | with_reducible exact hcl8 | (simp [hX9]; done) | (simp [hX8]; done) | (simp only [World.cell?_drew]; exact hcl6) | (simp [hX6]; done))) fun hSS => ?_
    try simp only [Act.put, u2, u3, u4]
    refine tk 8 ?_
    try simp only [Act.put, u2, u3, u4]
    refine wpAnyH_done (by kernel_rfl) ?_ _
    simp only [List.getElem_toArray, List.getElem_cons_succ, List.getElem_cons_zero, Act.put, u2, u3, u4]
    have d10 : w9.ownsRow (w.heap.size + 2) 5 1 (.slice A9 (d ++ x).length cap9) (d ++ x).length ((d ++ x).map u8v) := by rw [List.length_append, List.map_append]; exact d9
    have hgo' : wI K1 r (d ++ x).length := by rw [List.length_append]; exact hgo
    rw [show d.length + x.length = (d ++ x).length by rw [List.length_append]]
    have hz9 := g9.size
    have hz9' : w8.heap.size ≤ w9.heap.size := hg9.size
    clear hg9 d9 hgo hKK hcl8 hX8 g8 hR8 hK8 s8 d8 o8 hb8 hmd1 hmd2 hs6 hcl6 hX6 g6 hR6 hK6 s6 d6 o6 HAN HFO
    generalize d ++ x = d at *
    have hsN := s9.sl g9
    clear s9
    have HM : Hid (∀ w', Below w9.heap.size w9 w' → (w'.cell? ⟨w.heap.size, 0, none⟩ = some (.int .i64 K'.o) ∧ w'.cell? ⟨w.heap.size, 1, none⟩ = some (.int .i64 K'.l) ∧ w'.cell? ⟨w.heap.size, 2, none⟩ = some (.int .i64 K'.m) ∧ w'.cell? ⟨w.heap.size, 3, none⟩ = some (.slice A' K'.ps.length cap') ∧ w'.cell? ⟨w.heap.size, 4, none⟩ = some (.int .i64 K'.base) ∧ w'.cell? ⟨w.heap.size, 5, none⟩ = some (.int .i64 K'.last) ∧ w'.cell? ⟨gc, oc + n, none⟩ = some (.int .i64 c))) := fun w' h => ⟨(h.cell (p := ⟨_, _, _⟩) (by first | assumption | (simp only; omega) | omega)).trans (hX9 0), (h.cell (p := ⟨_, _, _⟩) (by first | assumption | (simp only; omega) | omega)).trans (hX9 1), (h.cell (p := ⟨_, _, _⟩) (by first | assumption | (simp only; omega) | omega)).trans (hX9 2), (h.cell (p := ⟨_, _, _⟩) (by first | assumption | (simp only; omega) | omega)).trans (hX9 3), (h.cell (p := ⟨_, _, _⟩) (by first | assumption | (simp only; omega) | omega)).trans (hX9 4), (h.cell (p := ⟨_, _, _⟩) (by first | assumption | (simp only; omega) | omega)).trans (hX9 5), (h.cell (p := ⟨_, _, _⟩) (by first | assumption | (simp only; omega) | omega)).trans (hcl9)⟩
    go_wp2_with fail
    refine xR 6 (fun w' => w'.cell? ⟨w.heap.size, 0, none⟩ = some (.int .i64 K'.o) ∧ w'.cell? ⟨w.heap.size, 1, none⟩ = some (.int .i64 K'.l) ∧ w'.cell? ⟨w.heap.size, 2, none⟩ = some (.int .i64 K'.m) ∧ w'.cell? ⟨w.heap.size, 3, none⟩ = some (.slice A' K'.ps.length cap') ∧ w'.cell? ⟨w.heap.size, 4, none⟩ = some (.int .i64 K'.base) ∧ w'.cell? ⟨w.heap.size, 5, none⟩ = some (.int .i64 K'.last) ∧ w'.cell? ⟨gc, oc + n, none⟩ = some (.int .i64 c)) (by kernel_rfl) (by kernel_rfl) (by first | (exact HM.out _ wG) | go_keep) (fun hSS => ?_)
    simp only [List.take_succ_cons, List.take_zero]
    refine tk 0 ?_
    try simp only [Act.put, u2, u3, u4]
    refine tk 1 ?_
    try simp only [Act.put, u2, u3, u4]
    refine tk 2 ?_
    try simp only [Act.put, u2, u3, u4]
    refine tk 3 ?_
    try simp only [Act.put, u2, u3, u4]
    refine tk 4 ?_
    try simp only [Act.put, u2, u3, u4]
    refine rd1 5 fun KK hKK => ?_
    go_simp
    (go_at_call 226; refine (HST.out _ (hsN.below yU)).mono ?_; rintro e w7 ⟨A7, cap7, rfl, hown7, hb7⟩; have hb7 : Below w9.heap.size w9 w7 := zL hb7; have hz7 := hb7.size; have p7 := zF (B' := w.heap.size + 2) hown7 (by first | omega | (simp; omega)); have o7 := zf o9 hb7; have d7 := zf d10 hb7; have hK7 := hK9.below hb7 (by omega); have hR7 := hR9.below hb7 (by omega); have g7 := g9.trans (hb7.mono (by omega)); have hX7 := hK7.cell; have hF7 := hK7.free)
    refine hKK.out _ _ (by first | (exact HM.out _ wG) | go_keep) fun hSS => ?_
    try simp only [Act.put, u2, u3, u4]
    refine wpAnyH_done (by kernel_rfl) ?_ _
    refine zZ ?_
    refine wpOp_step (o := _) rfl (fun KK hKK => ?_)
    go_simp
    refine hKK _ _ (NoPanic.normal ?_)
    try simp only [Act.put, u2, u3, u4]
    all_goals
     clear hKK
     have hK8 := qK hK7 K1 A7 cap7
     have hR8 := pz hR7 (by omega) K1 A7 cap7 (b := w.heap.size)
     have g8 := yz g7 (Nat.le_refl _) K1 A7 cap7
     have p8 := yI p7 (b := w.heap.size) (by omega) K1 A7 cap7
     have o8 := yI o7 (b := w.heap.size) (by omega) K1 A7 cap7
     have d8 := yI d7 (b := w.heap.size) (by omega) K1 A7 cap7
     have hz8 := qA w7 w.heap.size K1 A7 cap7
     clear hX7 hF7 hK7 hR7 p7 g7 hown7 o7 d7
     generalize ((((((w7.setCell ⟨w.heap.size, 0, none⟩ (.int .i64 K1.o)).setCell ⟨w.heap.size, 1, none⟩ (.int .i64 K1.l)).setCell ⟨w.heap.size, 2, none⟩ (.int .i64 K1.m)).setCell ⟨w.heap.size, 3, none⟩ (.slice A7 K1.ps.length cap7)).setCell ⟨w.heap.size, 4, none⟩ (.int .i64 K1.base)).setCell ⟨w.heap.size, 5, none⟩ (.int .i64 K1.last)) = w8 at *
     go_wp2
     go_roundw
     case rel => exact ⟨K1, A7, A9, cap7, cap9, n + 1, r, ws, d, by go_num, rfl, by omega, HD1, hok1, HL1, hgo', HW1, HN3, o8, d8, .inr p8, hK8, hR8, g8⟩
     case measure => simp [intOf]; omega
def pkB (K : Kn) (cs : List Int) (k : Nat) : Bs := ((cs.zip (K.walk cs).ws).take k).flatMap fun p => zU K.o p.1.toNat p.2
theorem PS (K : Kn) (cs : List Int) : pkB K cs cs.length = K.bits cs := by
 unfold pkB Kn.bits
 rw [List.take_of_length_le (by rw [List.length_zip]; omega)]
theorem Q7 (K : Kn) (cs : List Int) (k : Nat) (hk : k < cs.length) (hw : k < (K.walk cs).ws.length) : pkB K cs (k + 1) = pkB K cs k ++ zU K.o (cs[k]).toNat (K.walk cs).ws[k] := by
 unfold pkB
 have hl : k < (cs.zip (K.walk cs).ws).length := by rw [List.length_zip]; omega
 rw [List.take_succ_eq_append_getElem hl, List.flatMap_append]
 simp
theorem PM (K : Kn) (cs : List Int) (hk : K.ok) {n : Nat} (hg : wI K cs n) (k : Nat) : (pkB K cs k).length ≤ 10 * cs.length := by
 have h := gU hk hg
 have e : (pkB K cs k).length ≤ (K.bits cs).length := by
  unfold pkB Kn.bits
  generalize cs.zip (K.walk cs).ws = z
  conv => rhs; rw [← List.take_append_drop k z]
  rw [List.flatMap_append, List.length_append]; omega
 omega
theorem WN (K : Kn) (A : Option Addr) (cap : Nat) (C : Option Addr) (cc : Nat) (cs : List Int) (w : World) (hk : K.ok) (hs : Sl w A K.ps.length cap 2 (psV K.ps)) (hc : Sl w C cs.length cc 1 (cs.map iv)) (hl : cs.length ≤ 100000) (hg : wI K cs 0) :
  Calls Tryz.prog 249 #[knV K A cap, .slice C cs.length cc] w fun e w' => e = .returned (.string ⟨(K.bits cs).toArray⟩) ∧ Below w.heap.size w w' := by
 obtain ⟨j, hj, jz0, jz1, jz2⟩ := info_parts wu
 have hc0 : 0 < cs.length := by
  cases cs with
  | nil => exact absurd hg (by simp [wI])
  | cons c r => simp
 have hcc := hc.1
 have hcc2 := hc.2.1
 have HCS : Hid (∀ wr, Below w.heap.size w wr → Sl wr C cs.length cc 1 (cs.map iv)) := fun wr h => hc.below h
 have HF := Go.Lib.hid (dh cs K 0 hk hg)
 have HL := Go.Lib.hid (PM K cs hk hg)
 have HWL := Go.Lib.hid (Pv K cs)
 have HSU := Go.Lib.hid (Q7 K cs)
 have HEN := Go.Lib.hid (PS K cs)
 have cW : Hid (∀ wr, Below w.heap.size w wr → Calls Tryz.prog 205 #[knV K A cap, .slice C cs.length cc] wr (Oo K cs wr)) := fun wr h => VF K A cap C cc cs wr hk (hs.below h) (hc.below h) hl hg
 clear hs hc hg hk
 go_enter Tryz.func249, Tryz.ntmps249
 go_wp2_with fail
 have hK0 : Bk ((w.alloc (.cells (knC K A cap) 102)).alloc (.cells #[] 5)) w.heap.size 102 (knC K A cap) := tBk
 have hI0 : Bk ((w.alloc (.cells (knC K A cap) 102)).alloc (.cells #[] 5)) (w.heap.size + 1) 5 #[] := tBk
 have g0 : Below w.heap.size w ((w.alloc (.cells (knC K A cap) 102)).alloc (.cells #[] 5)) := zH
 refine (cW.out _ g0).mono ?_
 generalize (w.alloc (.cells (knC K A cap) 102)).alloc (.cells #[] 5) = w0 at *
 have z0 : w.heap.size + 1 < w0.heap.size := hI0.lt
 have o0 := vw (base := w.heap.size + 1) (size := 1) hI0 (Nat.le_refl _)
 rintro e w1 ⟨K1, A1, c1, v, d, rfl, o1, b1⟩
 have z1 := b1.size
 have K1' := hK0.below b1 (by omega)
 have q1 := zf o0 b1
 have g1 := g0.trans (b1.mono (by omega))
 obtain ⟨Aw, cw, rfl, _⟩ := Sl.uU o1
 obtain ⟨gw, rfl, _, _⟩ := UB o1 hc0
 clear cW b1 hK0 o0 g0 hI0
 have X1 := K1'.alloc (.cells (knC K1 A1 c1) 102)
 have q2 := q1.alloc (.cells (knC K1 A1 c1) 102)
 have o2 := o1.alloc (.cells (knC K1 A1 c1) 102)
 have g2 : Below w.heap.size w (w1.alloc (.cells (knC K1 A1 c1) 102)) := zH
 have hQ := (Bk.new w1 (knC K1 A1 c1) 102).cell
 have hF := (Bk.new w1 (knC K1 A1 c1) 102).free
 generalize (K.walk cs).ws = ws at *
 clear K1' q1 o1 g1
 go_wp2
 go_loopw [5, 10] (fun a i wr => ∃ (Ao : Option Addr) (co k : Nat), a = .slice Ao (pkB K cs k).length co ∧ i = .int .i64 (k : Int) ∧ k ≤ cs.length ∧ wr.ownsRow (w.heap.size + 1) 5 1 a (pkB K cs k).length ((pkB K cs k).map u8v) ∧ wr.ownsRow w0.heap.size 3 1 (.slice (some ⟨gw, 0, none⟩) cs.length cw) cs.length (ws.map ivn) ∧ Bk wr w.heap.size 102 (knC K A cap) ∧ Below w.heap.size w wr) (fun _ i _ => cs.length - (intOf i).toNat)
 case atStart => exact ⟨_, 0, 0, rfl, rfl, by omega, q2, o2, X1, g2⟩
 case round =>
  obtain ⟨Ao, co, k, rfl, rfl, hk, q, o, hK, g⟩ := hrel
  have hz := g.size
  clear X1 q2 o2 g2
  by_cases hlt : k < cs.length
  ·have hki : (k : Int) < cs.length := by omega
   have hlw : k < ws.length := by rw [HWL.out]; exact hlt
   have hlt1 := hK.lt
   obtain ⟨gc, oc, u, rfl, hgc, hu, hc⟩ := Sl.at1 (HCS.out w (Below.refl _ _)) hlt
   rw [List.getElem?_map, List.getElem?_eq_getElem hlt] at hu
   simp at hu
   subst hu
   have hwl := (o.cellAt k (by omega)).trans (show (ws.map ivn)[k]? = some (ivn ws[k]) by rw [List.getElem?_map, List.getElem?_eq_getElem hlw]; rfl)
   have hfa := HF.out (cs[k], ws[k]) (by
    have : k < (cs.zip ws).length := by rw [List.length_zip]; omega
    have e : (cs.zip ws)[k] = (cs[k], ws[k]) := by simp
    rw [← e]; exact List.getElem_mem this)
   simp only at hfa
   have hsu := Go.Lib.hid (HSU.out k hlt hlw)
   have hln := HL.out k
   have hln2 := HL.out (k + 1)
   obtain ⟨c, hcc⟩ := Int.eq_ofNat_of_zero_le hfa.1
   rw [hcc] at hc hfa hsu
   generalize ws[k] = wd at *
   have cC : Hid (∀ w, Calls Tryz.prog 242 #[.int .i64 K.o, .int .i64 (c : Int), .int .i64 (wd : Int)] w fun e w' => e = .returned (.string ⟨(zU K.o c wd).toArray⟩) ∧ Below w.heap.size w w') := fun w => aS K.o c wd w (by omega) (by omega)
   have hbl : (zU K.o c wd).length = wd := xg _ _ _
   rw [Int.toNat_natCast] at hsu
   clear hcc
   generalize zU K.o c wd = x at *
   generalize hP : pkB K cs k = P at *
   have HP := Go.Lib.hid hP
   clear hP
   have hmd1 : P.length + x.length ≤ maxLen := by unfold maxLen; omega
   have hmd2 : P.length + x.length ≤ 140737488355328 := by omega
   clear hbl
   have hX6 := hK.cell
   have hcl6 := (g.cell (p := ⟨gc, oc + k, none⟩) hgc).trans hc
   have hlw2 : gw < wr.heap.size := (o.lt _ rfl).2
   have hgw : w0.heap.size ≤ gw := (o.lt _ rfl).1
   clear hF hQ
   go_wp2_with fail
   refine wp_region_held_drew (S := (fun w' => w'.cell? ⟨w.heap.size, 0, none⟩ = some (.int .i64 K.o) ∧ w'.cell? ⟨gc, oc + k, none⟩ = some (.int .i64 (c : Int)) ∧ w'.cell? ⟨gw, k, none⟩ = some (.int .i64 (wd : Int)))) (by kernel_rfl) ?_ (fun hSS => ?_)
   focus ((refine ⟨?_, ?_, ?_⟩; all_goals first | with_reducible exact hcl9 | with_reducible exact hcl8 | with_reducible exact hwl9 | with_reducible exact hwl8 | (simp [hX9]; done) | (simp [hX8]; done) | (simp only [World.cell?_drew]; exact hcl6) | (simp only [World.cell?_drew]; exact hwl) | (simp [hX6]; done)))
   refine tk 0 ?_
   try simp only [Act.put, u2, u3, u4]
   refine tk 1 ?_
   try simp only [Act.put, u2, u3, u4]
   refine tk 2 ?_
   try simp only [Act.put, u2, u3, u4]
   refine tk 3 ?_
   try simp only [Act.put, u2, u3, u4]
   refine tk 4 ?_
   try simp only [Act.put, u2, u3, u4]
   refine tk 5 ?_
   try simp only [Act.put, u2, u3, u4]
   refine tk 6 ?_
   try simp only [Act.put, u2, u3, u4]
   refine tk 7 ?_
   try simp only [Act.put, u2, u3, u4]
   refine tk 8 ?_
   try simp only [Act.put, u2, u3, u4]
   refine tk 9 ?_
   try simp only [Act.put, u2, u3, u4]
   refine tk 10 ?_
   try simp only [Act.put, u2, u3, u4]
   refine tk 11 ?_
   try simp only [Act.put, u2, u3, u4]
   refine rd1 12 fun KK hKK => ?_
   go_simp
   (go_at_call 242; refine (cC.out _).mono ?_; rintro e w8 ⟨rfl, hb8⟩; have hb8 : Below wr.heap.size wr w8 := zL hb8; have hz8 := hb8.size; have o8 := zf o hb8; have q8 := zf q hb8; have hK8 := hK.below hb8 (by omega); have g8 := g.trans (hb8.mono (by omega)); have hX8 := hK8.cell; have hcl8 := (g8.cell (p := ⟨gc, oc + k, none⟩) hgc).trans hc; have hwl8 := (hb8.cell (p := ⟨gw, k, none⟩) hlw2).trans hwl)
   refine hKK.out _ _ (by (refine ⟨?_, ?_, ?_⟩; all_goals first | with_reducible exact hcl9 | with_reducible exact hcl8 | with_reducible exact hwl9 | with_reducible exact hwl8 | (simp [hX9]; done) | (simp [hX8]; done) | (simp only [World.cell?_drew]; exact hcl6) | (simp only [World.cell?_drew]; exact hwl) | (simp [hX6]; done))) fun hSS => ?_
   try simp only [Act.put, u2, u3, u4]
   refine rd1 13 fun KK hKK => ?_
   (refine eU rfl (.tmp 26) (.tmp 38) 22 9 rfl (w.heap.size + 1) 5 j Tryz.underlying22 Tryz.underlying9 hj jz0 jz1 jz2 (.slice Ao P.length co) P.length (P.map u8v) rfl q8 x rfl hmd1 hmd2 (by omega) ?_; intro A9 cap9 w9 q9 hg9; have o9 := o8.kept hg9 (vK o8 q8 (by decide)); have hK9 := hK8.grown hg9 (own_ne q8 hK8 (by decide)); have g9 := g8.grown hg9 (by omega) (fun k hk => by have := (q8.lt k hk).1; omega); have hX9 := hK9.cell; have hcl9 := (g9.cell (p := ⟨gc, oc + k, none⟩) hgc).trans hc; have hwl9 := (o9.cellAt k (by omega)).trans ((o.cellAt k (by omega)).symm.trans hwl))
   refine hKK.out _ _ (by (refine ⟨?_, ?_, ?_⟩; all_goals first | with_reducible exact hcl9 | with_reducible exact hcl8 | with_reducible exact hwl9 | with_reducible exact hwl8 | (simp [hX9]; done) | (simp [hX8]; done) | (simp only [World.cell?_drew]; exact hcl6) | (simp only [World.cell?_drew]; exact hwl) | (simp [hX6]; done))) fun hSS => ?_
   try simp only [Act.put, u2, u3, u4]
   refine tk 14 ?_
   try simp only [Act.put, u2, u3, u4]
   refine wpAnyH_done (by kernel_rfl) ?_ _
   simp only [List.getElem_toArray, List.getElem_cons_succ, List.getElem_cons_zero, Act.put, u2, u3, u4]
   have hpl : (pkB K cs (k + 1)).length = P.length + x.length := by rw [hsu.out, List.length_append]
   have q10 : w9.ownsRow (w.heap.size + 1) 5 1 (.slice A9 (pkB K cs (k + 1)).length cap9) (pkB K cs (k + 1)).length ((pkB K cs (k + 1)).map u8v) := by rw [hpl, hsu.out, List.map_append]; exact q9
   have HPL := Go.Lib.hid hpl
   clear hpl hKK q9 hg9
   go_wp2
   go_roundw
   case rel => exact ⟨A9, cap9, k + 1, by rw [HPL.out], by go_num, by omega, by rw [← HPL.out]; exact q10, o9, hK9, g9⟩
   case measure => simp [intOf]; omega
  ·have hki : ¬ (k : Int) < cs.length := by omega
   have hkk : k = cs.length := by omega
   subst hkk
   rw [HEN.out] at q
   have hcv := yH q
   rw [HEN.out]
   go_wp2
   go_ret
   exact ⟨rfl, g⟩
theorem aA (K : Kn) (A : Option Addr) (cap : Nat) (d : Bs) (w : World) (hk : K.ok) (hs : Sl w A K.ps.length cap 2 (psV K.ps)) (hl : d.length ≤ 2000) (hf : d.all (vU K.l) = true) :
  Calls Tryz.prog 227 #[knV K A cap, .string ⟨d.toArray⟩] w fun e w' => e = .returned (.string ⟨(K.comp d).toArray⟩) ∧ Below w.heap.size w w' := by
 have hg := gY hk hf hl
 have hgl := lN K d
 have cG : Hid (∀ wr, Below w.heap.size w wr → Calls Tryz.prog 250 #[knV K A cap, .string ⟨d.toArray⟩] wr fun e w' => ∃ (C : Option Addr) (cc : Nat), e = .returned (.slice C (K.yT d).length cc) ∧ Sl w' C (K.yT d).length cc 1 ((K.yT d).map iv) ∧ Below wr.heap.size wr w') := fun wr h => by
  refine (Yp K A cap d wr hk (hs.below h) (by omega) hf).mono ?_
  rintro e w' ⟨v, rfl, ho, hb⟩
  obtain ⟨C, cc, rfl, hS⟩ := Sl.uU ho
  exact ⟨C, cc, rfl, hS, hb⟩
 have cP : Hid (∀ wr C cc, Below w.heap.size w wr → Sl wr C (K.yT d).length cc 1 ((K.yT d).map iv) → Calls Tryz.prog 249 #[knV K A cap, .slice C (K.yT d).length cc] wr fun e w' => e = .returned (.string ⟨(K.bits (K.yT d)).toArray⟩) ∧ Below wr.heap.size wr w') := fun wr C cc h hc => WN K A cap C cc (K.yT d) wr hk (hs.below h) hc (by omega) hg
 have hbl := gU hk hg
 have cL : Hid (∀ wr, Calls Tryz.prog 248 #[.int .i64 K.o, .string ⟨(K.bits (K.yT d)).toArray⟩] wr fun e w' => e = .returned (.string ⟨(K.comp d).toArray⟩) ∧ Below wr.heap.size wr w') := fun wr => Ub K.o _ wr (by omega) (bJ _ _)
 clear hs hf hg hbl
 generalize K.comp d = R at *
 generalize K.bits (K.yT d) = bt at *
 generalize (K.yT d).map iv = gv at *
 generalize (K.yT d).length = gl at *
 go_enter Tryz.func227, Tryz.ntmps227
 go_wp2_with fail
 have hK := Bk.new w (knC K A cap) 102
 have g : Below w.heap.size w (w.alloc (.cells (knC K A cap) 102)) := zH
 have hX := hK.cell
 generalize w.alloc (.cells (knC K A cap) 102) = wr at *
 have hz := g.size
 have hlt := hK.lt
 refine wp_region_held_drew (S := (fun w' => w'.cell? ⟨w.heap.size, 0, none⟩ = some (.int .i64 K.o) ∧ w'.cell? ⟨w.heap.size, 1, none⟩ = some (.int .i64 K.l) ∧ w'.cell? ⟨w.heap.size, 2, none⟩ = some (.int .i64 K.m) ∧ w'.cell? ⟨w.heap.size, 3, none⟩ = some (.slice A K.ps.length cap) ∧ w'.cell? ⟨w.heap.size, 4, none⟩ = some (.int .i64 K.base) ∧ w'.cell? ⟨w.heap.size, 5, none⟩ = some (.int .i64 K.last))) (by kernel_rfl) ?_ (fun hSS => ?_)
 focus ((refine ⟨?_, ?_, ?_, ?_, ?_, ?_⟩; all_goals first | (simp [hX9]; done) | (simp [hX8]; done) | (simp [hX7]; done) | (simp [hX]; done)))
 refine tk 0 ?_
 try simp only [Act.put, u2, u3, u4]
 refine tk 1 ?_
 try simp only [Act.put, u2, u3, u4]
 refine tk 2 ?_
 try simp only [Act.put, u2, u3, u4]
 refine tk 3 ?_
 try simp only [Act.put, u2, u3, u4]
 refine tk 4 ?_
 try simp only [Act.put, u2, u3, u4]
 refine tk 5 ?_
 try simp only [Act.put, u2, u3, u4]
 refine rd1 6 fun KK hKK => ?_
 go_simp
 (go_at_call 250; refine (cG.out _ yU).mono ?_; rintro e w7 ⟨C, cc, rfl, hS7, hb7⟩; have hb7 : Below wr.heap.size wr w7 := zL hb7; have z7 := hb7.size; have hK7 := hK.below hb7 (by omega); have g7 := g.trans (hb7.mono (by omega)); have hX7 := hK7.cell)
 refine hKK.out _ _ (by (refine ⟨?_, ?_, ?_, ?_, ?_, ?_⟩; all_goals first | (simp [hX9]; done) | (simp [hX8]; done) | (simp [hX7]; done) | (simp [hX]; done))) fun hSS => ?_
 try simp only [Act.put, u2, u3, u4]
 refine rd1 7 fun KK hKK => ?_
 go_simp
 (go_at_call 249; refine (cP.out _ _ _ g7 hS7).mono ?_; rintro e w8 ⟨rfl, hb8⟩; have z8 := hb8.size; have hK8 := hK7.below hb8 (by omega); have g8 := g7.trans (hb8.mono (by omega)); have hX8 := hK8.cell)
 refine hKK.out _ _ (by (refine ⟨?_, ?_, ?_, ?_, ?_, ?_⟩; all_goals first | (simp [hX9]; done) | (simp [hX8]; done) | (simp [hX7]; done) | (simp [hX]; done))) fun hSS => ?_
 try simp only [Act.put, u2, u3, u4]
 refine rd1 8 fun KK hKK => ?_
 go_simp
 (go_at_call 248; refine (cL.out _).mono ?_; rintro e w9 ⟨rfl, hb9⟩; have z9 := hb9.size; have hK9 := hK8.below hb9 (by omega); have g9 := g8.trans (hb9.mono (by omega)); have hX9 := hK9.cell)
 refine hKK.out _ _ (by (refine ⟨?_, ?_, ?_, ?_, ?_, ?_⟩; all_goals first | (simp [hX9]; done) | (simp [hX8]; done) | (simp [hX7]; done) | (simp [hX]; done))) fun hSS => ?_
 try simp only [Act.put, u2, u3, u4]
 refine tk 9 ?_
 try simp only [Act.put, u2, u3, u4]
 refine wpAnyH_done (by kernel_rfl) ?_ _
 simp only [List.getElem_toArray, List.getElem_cons_succ, List.getElem_cons_zero, Act.put, u2, u3, u4]
 go_wp2
 go_ret
 exact ⟨rfl, g9⟩
theorem rX (K : Kn) (A : Option Addr) (cap : Nat) (w : World) (hk : K.ok) (hs : Sl w A K.ps.length cap 2 (psV K.ps)) :
  Calls Tryz.prog 218 #[knV K A cap] w fun e w' => e = .returned (.bool true) ∧ Below w.heap.size w w' := by
 have hb := hk.bd
 have hp := hk.lm
 have hlen := hk.len
 have hb0 := hk.base0
 have hb1 := hk.base1
 unfold Kn.cl Kn.top at hlen
 obtain ⟨hp1, hp2, hp3, hp4⟩ := hp
 have hps : K.ps.length ≤ 100000 := by omega
 have hpw := xe K.l hp1 hp2
 have hpm := xe K.m hp3 hp4
 have cSV : Hid (∀ w, Calls Tryz.prog 141 #[.agg #[.int .i64 K.o, .int .i64 K.l, .int .i64 K.m]] w fun e w' => e = .returned (.bool true) ∧ Below w.heap.size w w') := fun w => (uz _ _ _ w).mono fun e w' ⟨h1, h2⟩ => ⟨by rw [h1, decide_eq_true hk.st], h2⟩
 have cPC : Hid (∀ (i : Nat) (hi : i < K.ps.length) w, Calls Tryz.prog 237 #[.agg #[.int .i64 K.o, .int .i64 K.l, .int .i64 K.m], .int .i64 K.ps[i].1, .int .i64 (i : Int)] w fun e w' => e = .returned (.bool true) ∧ Below w.heap.size w w') := fun i hi w => (oq _ _ _ _ i w hp1 hp2 (by omega)).mono fun e w' ⟨h1, h2⟩ => ⟨by rw [h1, decide_eq_true (show codeOk (pow2 K.l) i K.ps[i].1 from (hk.pairs i hi).1)], h2⟩
 have hPB : Hid (∀ (i : Nat) (hi : i < K.ps.length), 0 ≤ K.ps[i].2 ∧ K.ps[i].2 < K.cl) := fun i hi => (hk.pairs i hi).2
 have hLast := hk.last
 have hcap := hs.1
 have hcap2 := hs.2.1
 have HS : Hid (∀ wr, Below w.heap.size w wr → Sl wr A K.ps.length cap 2 (psV K.ps)) := fun wr h => hs.below h
 clear hs
 go_enter Tryz.func218, Tryz.ntmps218
 go_wp2_with fail
 have hK0 : Bk ((w.alloc (.cells (knC K A cap) 102)).alloc (.cells #[.int .i64 K.o, .int .i64 K.l, .int .i64 K.m] 24)) w.heap.size 102 (knC K A cap) := tBk
 have hI0 : Bk ((w.alloc (.cells (knC K A cap) 102)).alloc (.cells #[.int .i64 K.o, .int .i64 K.l, .int .i64 K.m] 24)) (w.heap.size + 1) 24 #[.int .i64 K.o, .int .i64 K.l, .int .i64 K.m] := tBk
 have g0 : Below w.heap.size w ((w.alloc (.cells (knC K A cap) 102)).alloc (.cells #[.int .i64 K.o, .int .i64 K.l, .int .i64 K.m] 24)) := zH
 generalize (w.alloc (.cells (knC K A cap) 102)).alloc (.cells #[.int .i64 K.o, .int .i64 K.l, .int .i64 K.m] 24) = w0 at *
 have hG := zG hK0.cell hK0.lt
 have hG2 := zG hI0.cell hI0.lt
 have hz0 := hI0.lt
 have hdl : decide (pow2 K.m - 1 - (pow2 K.l + 1) < (K.ps.length : Int)) = false := by simp; omega
 refine wp_region_quiet_below (by kernel_rfl) (by kernel_rfl) ?_
 repeat (go_big_quiet_step ((first | (go_at_call 141; exact Calls.regrown_of (cSV.out _)) | (go_at_call 236; exact Calls.regrown_of (rE _ _ _ _ hp3 hp4)) | (go_at_call 223; exact Calls.regrown_of (xq _ _ _ _ hp1 hp2)) | (go_at_call 73; exact Calls.regrown_of (mQ _ _ _ _ (by omega))))))
 refine wpQuiet_nil ?_
 intro w2 hw2
 have hb2 : Below _ _ w2 := zh hw2
 clear hw2
 have hz2 := hb2.size
 have hK2 := hK0.below hb2 (by omega)
 have hI2 := hI0.below hb2 (by omega)
 have g2 := g0.trans (hb2.mono (by omega))
 clear hG hG2 hK0 hI0 g0 hb2 cSV
 go_wp2
 go_loopw [4] (fun i wr => ∃ k : Nat, i = .int .i64 (k : Int) ∧ k ≤ K.ps.length ∧ Bk wr w.heap.size 102 (knC K A cap) ∧ Bk wr (w.heap.size + 1) 24 #[.int .i64 K.o, .int .i64 K.l, .int .i64 K.m] ∧ Below w.heap.size w wr) (fun i _ => K.ps.length - (intOf i).toNat)
 case atStart => exact ⟨0, rfl, by omega, hK2, hI2, g2⟩
 case round =>
  obtain ⟨k, rfl, hk', hK3, hI3, g3⟩ := hrel
  clear hK2 hI2 g2
  have hz3 := hI3.lt
  have hX := hK3.cell
  have hY := hI3.cell
  by_cases hlt : k < K.ps.length
  ·have hki : (k : Int) < K.ps.length := by omega
   obtain ⟨g, off, rfl, hg, h1, h2⟩ := kZ (HS.out wr g3) k hlt
   have cP := cPC.out k hlt
   have hpb := hPB.out k hlt
   unfold Kn.cl at hpb
   generalize K.ps[k] = pr at *
   obtain ⟨p1, p2⟩ := pr
   simp only at h1 h2 cP hpb
   have hG := zG hK3.cell hK3.lt
   have hG2 := zG hI3.cell hI3.lt
   have hG3 := wS h1 hg
   have hG4 := wS h2 hg
   go_wp2_with fail
   refine wp_region_quiet_below (by kernel_rfl) (by kernel_rfl) ?_
   repeat (go_big_quiet_step ((first | (go_at_call 237; exact Calls.regrown_of (cP _)) | (go_at_call 163; exact Calls.regrown_of (yu _ _ _ _ hp1 hp2)) | (go_at_call 73; exact Calls.regrown_of (mQ _ _ _ _ (by omega))))))
   refine wpQuiet_nil ?_
   intro w4 hw2
   have hb4 : Below _ _ w4 := zh hw2
   clear hw2
   have hz4 := hb4.size
   have hK4 := hK3.below hb4 (by omega)
   have hI4 := hI3.below hb4 (by omega)
   have g4 := g3.trans (hb4.mono (by omega))
   clear hG hG2 hG3 hG4 hK3 hI3 g3 hb4 hX hY cP h1 h2
   go_wp2
   go_roundw
   case rel => exact ⟨k + 1, by go_num, by omega, hK4, hI4, g4⟩
   case measure => simp [intOf]; omega
  ·have hki : ¬ (k : Int) < K.ps.length := by omega
   by_cases hc : codeOk K.cl K.ps.length K.last
   ·have hd : decide (codeOk (pow2 K.l) K.ps.length K.last) = true := decide_eq_true hc
    clear hc hLast
    go_wp2_with fail
    refine (oq _ _ _ _ _ _ hp1 hp2 hps).mono ?_
    rintro e w4 ⟨rfl, hb4⟩
    have g4 := g3.trans (hb4.mono (by omega))
    go_wp2
    go_ret
    exact ⟨rfl, g4⟩
   ·have hd : decide (codeOk (pow2 K.l) K.ps.length K.last) = false := decide_eq_false hc
    have hl : K.last = -1 ∧ K.base = K.ps.length := hLast.elim id (fun h => absurd h hc)
    obtain ⟨hl1, hl2⟩ := hl
    have hd1 : (K.last == (-1 : Int)) = true := by simpa using hl1
    have hd2 : (K.base == (K.ps.length : Int)) = true := by simpa using hl2
    clear hc hLast hl1 hl2
    go_wp2_with fail
    refine (oq _ _ _ _ _ _ hp1 hp2 hps).mono ?_
    rintro e w4 ⟨rfl, hb4⟩
    have g4 := g3.trans (hb4.mono (by omega))
    have hK4 := hK3.below hb4 (by omega)
    have hX4 := hK4.cell
    go_wp2
    go_ret
    exact ⟨rfl, g4⟩
end Go.Proofs.YtinncdollpajkaaGreat
