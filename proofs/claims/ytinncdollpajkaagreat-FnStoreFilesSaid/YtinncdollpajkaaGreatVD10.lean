import Derived.Test.YtinncdollpajkaaGreatVS31
import Derived.Test.YtinncdollpajkaaGreatVLb
import Derived.Test.YtinncdollpajkaaGreatVGD2
import Derived.Test.YtinncdollpajkaaGreatVQ14
import Derived.Test.YtinncdollpajkaaGreatVGA
import Derived.Test.YtinncdollpajkaaGreatVGT
import Derived.Test.YtinncdollpajkaaGreatVJ31
import Derived.Deep.AppendSrc
import Derived.Deep.Cut
set_option linter.unusedVariables false
set_option linter.unusedSimpArgs false
set_option maxHeartbeats 8000000
namespace Go.Proofs.YtinncdollpajkaaGreat
open Go.RowKit
set_option maxRecDepth 100000
attribute [local go_sem high] zA zu zy zO zK zX zx zk zn zq zi zo yQ zC yf zD
theorem U9 (fs : List Fl) (p : Nat) (hp : p < fs.length) (Y : Bs) : (yj fs).set (p * 2 + 0) (.string ⟨Y.toArray⟩) = yj (fs.set p (Y, fs[p].2)) := by
 have e : fs = fs.take p ++ (fs[p] :: fs.drop (p + 1)) := by rw [List.getElem_cons_drop, List.take_append_drop]
 have e2 : fs.set p (Y, fs[p].2) = fs.take p ++ ((Y, fs[p].2) :: fs.drop (p + 1)) := by rw [List.set_eq_take_append_cons_drop, if_pos hp]
 rw [e2]
 conv => lhs; rw [e]
 rw [jH, jH, List.set_append_right _ _ (by rw [tX, List.length_take]; omega), tX, List.length_take, Nat.min_eq_left (by omega), show p * 2 + 0 - p * 2 = 0 by omega]
 rfl
theorem Wi {P : Program} (w : World) (base : Nat) (t ty e : TypeId) (i : TypeInfo) (z : Value) (size bytes : Nat) (ht : P.underlying t = some (.slice e)) (hi : P.info? e = some i) (hz : i.zero = some z)
    (hsize : i.size = size) (hby : i.bytes = bytes) (hzs : z.cells.size = size) (hsz : 0 < size)
    (g n cap : Nat) (xs : List Value) (hown : w.ownsRow base e size (.slice (some ⟨g, 0, none⟩) n cap) n xs) (b m c : Nat) (news : List Value) (hr : Sl w (some ⟨b, 0, none⟩) m c size news) (h1 : ∀ u ∈ news, u.oneCell' = true) (hm : 0 < m)
    (h63 : n + m ≤ maxLen) (hbytes : (n + m) * bytes ≤ 140737488355328) (hbase : base ≤ w.heap.size) :
    ∃ A' cap' w', (Builtin.append_ #[t, t] ty #[.slice (some ⟨g, 0, none⟩) n cap, .slice (some ⟨b, 0, none⟩) m c]).run P w = .ok (.slice A' (n + m) cap') w' ∧ w'.ownsRow base e size (.slice A' (n + m) cap') (n + m) (xs ++ news) ∧ w.grownBy w' (some g) ∧
      (∀ j u, xs[j]? = some u → w'.cell? ⟨g, j, none⟩ = some u) ∧ (Value.ownBlock (.slice A' (n + m) cap') = some g ∨ Value.ownBlock (.slice A' (n + m) cap') = some w.heap.size) := by
  obtain ⟨A', cap', w', hrun, hO, hG, hAt⟩ := Qb (P := P) w base t ty e i z size bytes ht hi hz hsize hby hzs hsz (.slice (some ⟨g, 0, none⟩) n cap) n xs hown (some ⟨b, 0, none⟩) m c news hr h1 h63 hbytes hbase
  refine ⟨A', cap', w', hrun, hO, hG, fun j u hj => ?_, hAt⟩
  obtain ⟨_, _, hnl, hc⟩ := hr
  obtain ⟨g', off, hA, hgl, hcells⟩ := hc hm
  injection hA with hA
  injection hA with e1 e2
  subst e1 e2
  have hcells' : ∀ j u, news[j]? = some u → w.cell? ((⟨b, 0, none⟩ : Addr).add j) = some u := fun j u hu => by rw [Addr.add_lit]; exact hcells j u hu
  have hold := hown.cells (g := g) rfl
  have hcl : ∀ j u, xs[j]? = some u → w.cell? ⟨g, j, none⟩ = some u := fun j u hu => by
    have := hold j u hu
    rwa [Addr.add_lit, Nat.zero_add] at this
  have hxl := hown.1
  rcases hown.2 with ⟨h, _⟩ | ⟨g2, cap2, cur, hv, hb2, hg2, hn2, hm2, hs2, ht2⟩
  · cases h
  injection hv with hv1 _ hv3
  injection hv1 with hv1
  injection hv1 with hv1
  subst hv1 hv3
  by_cases hroom : n + m ≤ cap
  · have h := run_append_room (P := P) w t ty e i ht hi g n cap cur hg2 ⟨b, 0, none⟩ m c news (by rw [hsize]; exact hnl) hcells' h1 hroom (by rw [hsize, hnl, hs2, ← Nat.add_mul]; exact Nat.mul_le_mul_right _ hroom)
    rw [hrun] at h
    injection h with _ h
    rw [h, cell_setRow_same w g j cur _ e (0, 0) hg2]
    have hjl : j < xs.length := (List.getElem?_eq_some_iff.1 hj).1
    have hle : n * size ≤ cur.toList.length := by simp only [Array.length_toList, hs2]; exact Nat.mul_le_mul_right _ hn2
    rw [hsize, ht2]
    simp only [List.getElem?_toArray]
    rw [List.append_assoc, List.getElem?_append_left hjl]
    exact hj
  · have hsrc : Src P i.size t (.slice (some ⟨b, 0, none⟩) m c) m news w := Src.ofSlice w ht ⟨b, 0, none⟩ m c news (by rw [hsize]; exact hnl) hcells' h1
    have hfc : (Builtin.firstCells i.size n (.slice (some ⟨g, 0, none⟩) n cap)).run P w.drew = .ok xs.toArray w.drew := run_firstCells_some w.drew i.size n ⟨g, 0, none⟩ n cap xs (by rw [hsize]; exact hxl) (fun j u hu => hold j u hu)
    have h := run_append_grow_src w t t ty e i z ht hi hz (some ⟨g, 0, none⟩) n cap xs hfc _ m news hsrc (by omega) (by unfold maxLen at h63; omega) (by rw [hby]; exact growslice_fits (by omega) hbytes)
    rw [hrun] at h
    injection h with _ h
    rw [h]
    have hgl2 := (hown.lt g rfl).2
    rw [World.cell?_alloc_lt w.drew _ ⟨g, j, none⟩ hgl2]
    exact hcl j u hj
theorem QT {w w' : World} {r M : Nat} {row : Option Nat} (h : Rd w r M) (hg : w.grownBy w' row) (hr : ∀ k, row = some k → r < k) : Rd w' r M := by
 have hlt := h.lt
 obtain ⟨A, n, cap, bs, P, h1, h2, h3, h4, h5, h6, h7⟩ := h
 refine ⟨A, n, cap, bs, P, (hg.block r hlt (fun e => by have := hr r e.symm; omega)).trans h1, h2, h3, h4, h5, h6, fun hn => ?_⟩
 obtain ⟨g, off, hA, hgl, hc⟩ := h7 hn
 exact ⟨g, off, hA, hgl, fun j hj => (World.cell?_of_block (a := ⟨g, off + j, none⟩) (hg.block g (by omega) (fun e => by have := hr g e.symm; omega))).trans (hc j hj)⟩
def KX (E : Nat → Prop) (N : Nat) (w w' : World) : Prop := ∀ k, k < N → ¬ E k → w'.heap[k]? = w.heap[k]?
section
variable {E : Nat → Prop} {N r : Nat} {w a c : World}
theorem P7 (w : World) : KX E N w w := fun _ _ _ => rfl
theorem QF (h : KX E N w a) (b : zl a.heap.size r a c) (hN : N ≤ a.heap.size) (hr : E r) : KX E N w c := fun k hk he => (b.block k (by omega) (fun e => he (e ▸ hr))).trans (h k hk he)
theorem je (h : KX E N w a) (hN : N ≤ a.heap.size) (o : Obj) : KX E N w (a.alloc o) := fun k hk he => (Below.heap_alloc a o k (by omega)).trans (h k hk he)
theorem yJ (h : KX E N w a) {p : Addr} (hp : E p.block ∨ N ≤ p.block) (u : Value) : KX E N w (a.setCell p u) := fun k hk he => (Below.heap_setCell a p u k (by rcases hp with hp | hp <;> first | exact (fun e => he (e ▸ hp)) | omega)).trans (h k hk he)
theorem Qy (h : KX E N w a) {row : Option Nat} (hg : a.grownBy c row) (hN : N ≤ a.heap.size) (hr : ∀ k, row = some k → E k) : KX E N w c := fun k hk he => (hg.block k (by omega) (fun e => he (hr k e.symm))).trans (h k hk he)
theorem UJ (h : KX E N w a) : KX E N w a.drew := h
end
theorem nV {w : World} {B b n s : Nat} {e : TypeId} {v : Value} {xs : List Value} (h : w.ownsRow B e s v n xs) (hb : ∀ k, v.ownBlock = some k → k ≠ b) (S : Sto) (A : Option Addr) (cap : Nat) : (stW w b S A cap).ownsRow B e s v n xs :=
 zB (zB (zB (zB (zB h (p := ⟨b, 0, none⟩) hb _) (p := ⟨b, 1, none⟩) hb _) (p := ⟨b, 2, none⟩) hb _) (p := ⟨b, 3, none⟩) hb _) (p := ⟨b, 4, none⟩) hb _
def l9 (S : Sto) : Prop := S.dict.length ≤ 7000 ∧ S.fs.length ≤ 7 ∧ ∀ f ∈ S.fs, f.1.length ≤ 7000 ∧ f.2.length ≤ 7000
def OX (r M B : Nat) (w : World) (e : Ending) (w' : World) : Prop := (∃ T A cap, e = .returned (Sto.V T A cap) ∧ l9 T ∧ w'.ownsRow B 40 2 (.slice A T.fs.length cap) T.fs.length (yj T.fs)) ∧ Rd w' r M ∧ zl B r w w'
def O6 (r M B : Nat) (A0 : Option Addr) (w : World) (e : Ending) (w' : World) : Prop := OX r M B w e w' ∧ KX (fun k => k = r ∨ A0 = some ⟨k, 0, none⟩) w.heap.size w w'
theorem l9.set0 {o l m : Int} {dict : Bs} {fs : List Fl} (h : l9 ⟨o, l, m, dict, fs⟩) (k : Nat) (hk : k < fs.length) (Y : Bs) (hY : Y.length ≤ 7000) : l9 ⟨o, l, m, dict, fs.set k (Y, fs[k].2)⟩ := by
 refine ⟨h.1, by simpa using h.2.1, fun f hf => ?_⟩
 rcases List.mem_or_eq_of_mem_set hf with hf | rfl
 ·exact h.2.2 f hf
 ·exact ⟨hY, (h.2.2 _ (List.getElem_mem hk)).2⟩
theorem l9.set1 {o l m : Int} {dict : Bs} {fs : List Fl} (h : l9 ⟨o, l, m, dict, fs⟩) (k : Nat) (hk : k < fs.length) (Y : Bs) (hY : Y.length ≤ 7000) : l9 ⟨o, l, m, dict, fs.set k (fs[k].1, Y)⟩ := by
 refine ⟨h.1, by simpa using h.2.1, fun f hf => ?_⟩
 rcases List.mem_or_eq_of_mem_set hf with hf | rfl
 ·exact h.2.2 f hf
 ·exact ⟨(h.2.2 _ (List.getElem_mem hk)).1, hY⟩
theorem l9.more {o l m : Int} {dict : Bs} {fs : List Fl} (h : l9 ⟨o, l, m, dict, fs⟩) (k : Nat) (hk : k < fs.length) (h6 : fs.length ≤ 6) : l9 ⟨o, l, m, dict, fs ++ [fs[k]]⟩ := by
 refine ⟨h.1, by simp; omega, fun f hf => ?_⟩
 rcases List.mem_append.1 hf with hf | hf
 ·exact h.2.2 f hf
 ·simp at hf; subst hf; exact h.2.2 _ (List.getElem_mem hk)
theorem YV (r M B : Nat) (S : Sto) (A : Option Addr) (cap : Nat) (w : World) (hR : Rd w r M) (hM : M ≤ 20000000) (ho : w.ownsRow B 40 2 (.slice A S.fs.length cap) S.fs.length (yj S.fs)) (hB : r < B) (hBw : B ≤ w.heap.size)
  (h6 : S.fs.length ≤ 6) (hd : S.dict.length ≤ 7000) (hsm : ∀ f ∈ S.fs, f.1.length ≤ 3000 ∧ f.2.length ≤ 3000) (hst : S.fs = [] ∨ xH S.o S.l S.m) :
  Calls Tryz.prog 66 #[.pointer (some ⟨r, 0, none⟩), S.V A cap] w (O6 r (M + 50) B A w) := by
 obtain ⟨i, hi, hz0, hz1, hz2⟩ := info_parts jY
 obtain ⟨o, l, m, dict, fs⟩ := S
 simp only at *
 have hr := hR.lt
 have hSM : Hid (l9 ⟨o, l, m, dict, fs⟩) := ⟨hd, by show fs.length ≤ 7; omega, fun f hf => by have := hsm f hf; omega⟩
 unfold O6 OX
 have hK0 : Bk ((w.alloc (.cells #[.int .i64 o, .int .i64 l, .int .i64 m, .string ⟨dict.toArray⟩, .slice A fs.length cap] 27)).alloc (.cells xw 27)) w.heap.size 27 #[.int .i64 o, .int .i64 l, .int .i64 m, .string ⟨dict.toArray⟩, .slice A fs.length cap] := tBk
 have hZ0 : Bk ((w.alloc (.cells #[.int .i64 o, .int .i64 l, .int .i64 m, .string ⟨dict.toArray⟩, .slice A fs.length cap] 27)).alloc (.cells xw 27)) (w.heap.size + 1) 27 xw := tBk
 have R0 := (hR.alloc (.cells #[.int .i64 o, .int .i64 l, .int .i64 m, .string ⟨dict.toArray⟩, .slice A fs.length cap] 27)).alloc (.cells xw 27)
 have o0 := (World.ownsRow.alloc ho (.cells #[.int .i64 o, .int .i64 l, .int .i64 m, .string ⟨dict.toArray⟩, .slice A fs.length cap] 27)).alloc (.cells xw 27)
 have g0 : zl B r w ((w.alloc (.cells #[.int .i64 o, .int .i64 l, .int .i64 m, .string ⟨dict.toArray⟩, .slice A fs.length cap] 27)).alloc (.cells xw 27)) := yK zH r
 have hlt := ho.lt
 have k0 : KX (fun k => k = r ∨ A = some ⟨k, 0, none⟩) w.heap.size w ((w.alloc (.cells #[.int .i64 o, .int .i64 l, .int .i64 m, .string ⟨dict.toArray⟩, .slice A fs.length cap] 27)).alloc (.cells xw 27)) := je (je (P7 w) (Nat.le_refl _) _) (by simp) _
 clear ho
 go_enter Tryz.func66, Tryz.ntmps66
 go_upto_region 1 with (fail)
 generalize hw0 : (w.alloc (.cells #[.int .i64 o, .int .i64 l, .int .i64 m, .string ⟨dict.toArray⟩, .slice A fs.length cap] 27)).alloc (.cells xw 27) = w0 at *
 clear hw0
 have z0 := g0.size
 have lk0 := hK0.lt
 have lz0 := hZ0.lt
 have hltZ : ∀ k, (Value.slice A fs.length cap).ownBlock = some k → k ≠ w.heap.size + 1 := fun k hk => by have := (hlt k hk).2; omega
 generalize hN0 : w.heap.size = hb at *
 have hN : Hid (w.heap.size = hb) := hN0
 clear hN0
 have hX0 := hK0.cell
 by_cases hfs : fs.length = 0
 ·have hE : ((fs.length : Int) == 0) = true := by rw [beq_iff_eq]; omega
  have SM := hSM.out
  clear hfs hst hSM
  have hFZ := hZ0.free
  have hYZ := hZ0.cell
  have hXZ := hK0.cell
  go_wp2
  have Q := (wK hZ0 ⟨o, l, m, dict, fs⟩ A cap).cell
  have oQ := nV o0 hltZ ⟨o, l, m, dict, fs⟩ A cap
  have RQ := dK R0 (b := hb + 1) (by omega) ⟨o, l, m, dict, fs⟩ A cap
  have gQ := uu g0 (b := hb + 1) (by omega) ⟨o, l, m, dict, fs⟩ A cap
  have kQ := yJ (yJ (yJ (yJ (yJ k0 (p := ⟨hb + 1, 0, none⟩) (.inr (by show hb ≤ hb + 1; omega)) (.int .i64 o)) (p := ⟨hb + 1, 1, none⟩) (.inr (by show hb ≤ hb + 1; omega)) (.int .i64 l)) (p := ⟨hb + 1, 2, none⟩) (.inr (by show hb ≤ hb + 1; omega)) (.int .i64 m)) (p := ⟨hb + 1, 3, none⟩) (.inr (by show hb ≤ hb + 1; omega)) (.string ⟨dict.toArray⟩)) (p := ⟨hb + 1, 4, none⟩) (.inr (by show hb ≤ hb + 1; omega)) (.slice A fs.length cap)
  exact bodyPost_ret (v := Sto.V ⟨o, l, m, dict, fs⟩ A cap) (by simp [results, Tryz.results66, go_sem, Q]) rfl ⟨⟨⟨⟨o, l, m, dict, fs⟩, A, cap, rfl, SM, oQ⟩, RQ.mono (by omega), gQ⟩, (by rw [hN.out]; exact kQ)⟩
 have hst : xH o l m := by
  rcases hst with h | h
  ·exact absurd (by rw [h]; rfl) hfs
  ·exact h
 have hlp : 0 < fs.length := by omega
 have hlpi : ((fs.length : Int) == 0) = false := by rw [beq_eq_false_iff_ne]; omega
 obtain ⟨g, rfl, hg1, hg2⟩ := UB o0 hlp
 have hgh : g < hb := (hlt g rfl).2
 clear hfs hltZ hlt
 have hneZ : ∀ k, (Value.slice (some ⟨g, 0, none⟩) fs.length cap).ownBlock = some k → k ≠ hb + 1 := fun k hk => by
  have h : g = k := by injection hk
  omega
 go_wp2_with fail
 refine (pick_any r M fs.length _ R0 (by omega) (by omega) (by omega)).mono ?_
 rintro e w1 ⟨⟨v, rfl, hv0, hv1⟩, R1, b1⟩
 have z1 := b1.size
 have hK1 := hK0.zN b1 lk0 (by omega)
 have hZ1 := hZ0.zN b1 lz0 (by omega)
 have o1 := yB o0 b1 (by omega)
 have g1 := g0.trans (b1.mono (by omega))
 have k1 := QF k0 b1 (by omega) (.inl rfl)
 clear b1 hK0 hZ0 o0 g0 R0 hX0 k0
 obtain ⟨p, rfl⟩ := Int.eq_ofNat_of_zero_le hv0
 have hp : p < fs.length := by omega
 have hpi : (p : Int) < fs.length := by omega
 clear hv0 hv1
 go_wp2_with fail
 refine (pick_any r (M + 1) 30 _ R1 (by omega) (by omega) (by omega)).mono ?_
 rintro e w2 ⟨⟨v, rfl, hv0, hv1⟩, R2, b2⟩
 have z2 := b2.size
 have hK2 := hK1.zN b2 (by omega) (by omega)
 have hZ2 := hZ1.zN b2 (by omega) (by omega)
 have o2 := yB o1 b2 (by omega)
 have g2 := g1.trans (b2.mono (by omega))
 have k2 := QF k1 b2 (by omega) (.inl rfl)
 clear b2 hK1 hZ1 o1 g1 R1 k1
 have hX2 := hK2.cell
 have lk2 := hK2.lt
 have lz2 := hZ2.lt
 have hsmp := hSM.out.2.2 _ (List.getElem_mem hp)
 have hat := UC fs p hp
 by_cases hc0 : v = 0
 ·subst hc0
  have sl := Sl.list w2.drew [sv [], sv [65], sv [122, 122], sv [97]] 9 w2.heap.size 4 rfl rfl (by omega)
  have SMY : Hid (∀ Y : Bs, Y.length ≤ 7000 → l9 ⟨o, l, m, dict, fs.set p (Y, fs[p].2)⟩) := fun Y h => hSM.out.set0 p hp Y h
  have hset := fun Y => U9 fs p hp Y
  obtain ⟨u0, hu0⟩ : ∃ u, (yj fs)[p * 2 + 0]? = some u := ⟨_, hat.1⟩
  simp only [Nat.add_zero] at hu0 hset
  have hslen : ∀ Y : Bs, (fs.set p (Y, fs[p].2)).length = fs.length := fun Y => by simp
  have HSET := Go.Lib.hid hset
  have HSL := Go.Lib.hid hslen
  clear hset hat hsmp hslen hSM
  go_upto_region 6 with (fail)
  refine yx 8 ((fun w' => w'.cell? ⟨hb, 4, none⟩ = some (.slice (some ⟨g, 0, none⟩) fs.length cap))) (by kernel_rfl) (by kernel_rfl) (by (first | (simp [hX4]; done) | exact (hK2.alloc _).cell 4 | (simp [hX2]; done))) (fun hSS => ?_)
  simp only [List.take_succ_cons, List.take_zero]
  refine tk 0 ?_
  try simp only [Act.put, u2, u3, u4]
  refine tk 1 ?_
  try simp only [Act.put, u2, u3, u4]
  refine tk 2 ?_
  try simp only [Act.put, u2, u3, u4]
  refine tk 3 ?_
  try simp only [Act.put, u2, u3, u4]
  refine rd1 4 fun KK hKK => ?_
  go_simp
  refine hKK.out _ _ (by (first | (simp [hX4]; done) | exact (hK2.alloc _).cell 4 | (simp [hX2]; done))) fun hSS => ?_
  try simp only [Act.put, u2, u3, u4]
  refine rd1 5 fun KK hKK => ?_
  go_simp
  (go_at_call 68; refine (Qh r _ [[], [65], [122, 122], [97]] (some ⟨w2.heap.size, 0, none⟩) 4 _ (Rd.drew (Rd.alloc R2 _)) (by omega) sl (by simp) (by simp) (by rintro g off ⟨⟩; omega)).mono ?_; rintro e w4 ⟨⟨x, hx, rfl⟩, R4, b4⟩; have z4 := b4.size; (try simp only [World.size_alloc, World.size_drew] at z4); have hK4 := (hK2.drew.alloc (.cells #[sv [], sv [65], sv [122, 122], sv [97]] 9)).zN b4 (by first | omega | (simp; done) | (simp; omega)) (by omega); have hX4 := hK4.cell; have hZ4 := (hZ2.drew.alloc (.cells #[sv [], sv [65], sv [122, 122], sv [97]] 9)).zN b4 (by first | omega | (simp; done) | (simp; omega)) (by omega); have o4 := yB (World.ownsRow.alloc (w := w2.drew) o2 (.cells #[sv [], sv [65], sv [122, 122], sv [97]] 9)) b4 (by omega); have g4 := (g2.drew.alloc (by show _ ≤ w2.heap.size; omega) (.cells #[sv [], sv [65], sv [122, 122], sv [97]] 9)).trans (b4.mono (by first | omega | (simp; done) | (simp; omega))); have k4 := QF (je (UJ k2) (by show hb ≤ w2.heap.size; omega) (.cells #[sv [], sv [65], sv [122, 122], sv [97]] 9)) b4 (by first | omega | (simp; done) | (simp; omega)) (.inl rfl); have c4 := (o4.cellAt (p * 2) (by omega)).trans hu0; have f4 := o4.frozenAt (p * 2); have hxl : x.length ≤ 7000 := (by simp at hx; rcases hx with rfl | rfl | rfl | rfl <;> simp))
  refine hKK.out _ _ (by (first | (simp [hX4]; done) | exact (hK2.alloc _).cell 4 | (simp [hX2]; done))) fun hSS => ?_
  try simp only [Act.put, u2, u3, u4]
  refine tk 6 ?_
  try simp only [Act.put, u2, u3, u4]
  refine tk 7 ?_
  try simp only [Act.put, u2, u3, u4]
  refine wpAnyH_done (by kernel_rfl) ?_ _
  refine zZ ?_
  refine wpOp_step (o := _) rfl (fun KK hKK => ?_)
  go_simp
  refine hKK _ _ (NoPanic.normal ?_)
  try simp only [Act.put, u2, u3, u4]
  have oS := (o4.stored (p * 2) (.string ⟨x.toArray⟩)).1
  rw [HSET.out x] at oS
  have hKS := hK4.far (p := ⟨g, p * 2, none⟩) (by show hb ≠ g; omega) (.string ⟨x.toArray⟩)
  have hZS := hZ4.far (p := ⟨g, p * 2, none⟩) (by show hb + 1 ≠ g; omega) (.string ⟨x.toArray⟩)
  have RS := Rd.far R4 (p := ⟨g, p * 2, none⟩) (by show r < g; omega) (.string ⟨x.toArray⟩)
  have gS := zl.setCell g4 (p := ⟨g, p * 2, none⟩) (.inr (by show B ≤ g; omega)) (.string ⟨x.toArray⟩)
  have kS := yJ k4 (p := ⟨g, p * 2, none⟩) (.inl (.inr rfl)) (.string ⟨x.toArray⟩)
  have SM := SMY.out x hxl
  go_upto_region 13 with (fail)
  generalize w4.setCell ⟨g, p * 2, none⟩ (.string ⟨x.toArray⟩) = w9 at *
  have hgl := HSL.out x
  clear HSET HSL SMY hKK hK4 hZ4 o4 R4 g4 hX4 c4 f4 hX2 hK2 hZ2 o2 R2 g2 hu0 sl k2 k4
  generalize fs.set p (x, fs[p].2) = gs at *
  rw [← hgl] at oS hKS hneZ
  clear hgl
  have hFZ := hZS.free
  have hYZ := hZS.cell
  have hXZ := hKS.cell
  go_wp2
  have Q := (wK hZS ⟨o, l, m, dict, gs⟩ (some ⟨g, 0, none⟩) cap).cell
  have oQ := nV oS hneZ ⟨o, l, m, dict, gs⟩ (some ⟨g, 0, none⟩) cap
  have RQ := dK RS (b := hb + 1) (by omega) ⟨o, l, m, dict, gs⟩ (some ⟨g, 0, none⟩) cap
  have gQ := uu gS (b := hb + 1) (by omega) ⟨o, l, m, dict, gs⟩ (some ⟨g, 0, none⟩) cap
  have kQ := yJ (yJ (yJ (yJ (yJ kS (p := ⟨hb + 1, 0, none⟩) (.inr (by show hb ≤ hb + 1; omega)) (.int .i64 o)) (p := ⟨hb + 1, 1, none⟩) (.inr (by show hb ≤ hb + 1; omega)) (.int .i64 l)) (p := ⟨hb + 1, 2, none⟩) (.inr (by show hb ≤ hb + 1; omega)) (.int .i64 m)) (p := ⟨hb + 1, 3, none⟩) (.inr (by show hb ≤ hb + 1; omega)) (.string ⟨dict.toArray⟩)) (p := ⟨hb + 1, 4, none⟩) (.inr (by show hb ≤ hb + 1; omega)) (.slice (some ⟨g, 0, none⟩) gs.length cap)
  exact bodyPost_ret (v := Sto.V ⟨o, l, m, dict, gs⟩ (some ⟨g, 0, none⟩) cap) (by simp [results, Tryz.results66, go_sem, Q]) rfl ⟨⟨⟨⟨o, l, m, dict, gs⟩, (some ⟨g, 0, none⟩), cap, rfl, SM, oQ⟩, RQ.mono (by omega), gQ⟩, (by rw [hN.out]; exact kQ)⟩
 have e0 : (v == 0) = false := by rw [beq_eq_false_iff_ne]; exact hc0
 by_cases hc1 : v = 1
 ·subst hc1
  have SMY : Hid (∀ Y : Bs, Y.length ≤ 7000 → l9 ⟨o, l, m, dict, fs.set p (fs[p].1, Y)⟩) := fun Y h => hSM.out.set1 p hp Y h
  have hset := fun Y => Qs fs p hp Y
  have hu1 := hat.2
  have hslen : ∀ Y : Bs, (fs.set p (fs[p].1, Y)).length = fs.length := fun Y => by simp
  have HSET := Go.Lib.hid hset
  have HSL := Go.Lib.hid hslen
  have hX3000 := (hsm _ (List.getElem_mem hp)).2
  have c2 := (o2.cellAt (p * 2 + 1) (by omega)).trans hu1
  have cB := fun w hR => SY r (M + 1 + 1) fs[p].2 w hR (by omega) (by omega)
  clear hset hat hsmp hslen hSM
  generalize hX : fs[p].2 = X at *
  have hgX := Go.Lib.hid hX
  clear hX
  go_upto_region 8 with (fail)
  refine yx 13 ((fun w' => w'.cell? ⟨hb, 4, none⟩ = some (.slice (some ⟨g, 0, none⟩) fs.length cap) ∧ w'.cell? ⟨g, p * 2 + 1, none⟩ = some (.string ⟨X.toArray⟩))) (by kernel_rfl) (by kernel_rfl) (by (refine ⟨?_, ?_⟩; all_goals first | (simp [hX4]; done) | (simp [c4]; done) | (simp [hX2]; done) | (simp [c2]; done))) (fun hSS => ?_)
  simp only [List.take_succ_cons, List.take_zero]
  refine tk 0 ?_
  try simp only [Act.put, u2, u3, u4]
  refine tk 1 ?_
  try simp only [Act.put, u2, u3, u4]
  refine tk 2 ?_
  try simp only [Act.put, u2, u3, u4]
  refine tk 3 ?_
  try simp only [Act.put, u2, u3, u4]
  refine tk 4 ?_
  try simp only [Act.put, u2, u3, u4]
  refine tk 5 ?_
  try simp only [Act.put, u2, u3, u4]
  refine tk 6 ?_
  try simp only [Act.put, u2, u3, u4]
  refine tk 7 ?_
  try simp only [Act.put, u2, u3, u4]
  refine tk 8 ?_
  try simp only [Act.put, u2, u3, u4]
  refine tk 9 ?_
  try simp only [Act.put, u2, u3, u4]
  refine rd1 10 fun KK hKK => ?_
  go_simp
  (go_at_call 101; refine (cB _ R2.drew).mono ?_; rintro e w4 ⟨⟨x, rfl, hx⟩, R4, b4⟩; have b4 : zl w2.heap.size r w2 w4 := ⟨b4.os, b4.tape, b4.output, b4.size, b4.block⟩; have z4 := b4.size; have hK4 := hK2.zN b4 lk2 (by omega); have hX4 := hK4.cell; have hZ4 := hZ2.zN b4 lz2 (by omega); have o4 := yB o2 b4 (by omega); have g4 := g2.trans (b4.mono (by omega)); have k4 := QF k2 b4 (by omega) (.inl rfl); have c4 := (o4.cellAt (p * 2 + 1) (by omega)).trans hu1; have f4 := o4.frozenAt (p * 2 + 1); have hxl : x.length ≤ 7000 := (by omega))
  refine hKK.out _ _ (by (refine ⟨?_, ?_⟩; all_goals first | (simp [hX4]; done) | (simp [c4]; done) | (simp [hX2]; done) | (simp [c2]; done))) fun hSS => ?_
  try simp only [Act.put, u2, u3, u4]
  refine tk 11 ?_
  try simp only [Act.put, u2, u3, u4]
  refine tk 12 ?_
  try simp only [Act.put, u2, u3, u4]
  refine wpAnyH_done (by kernel_rfl) ?_ _
  refine zZ ?_
  refine wpOp_step (o := _) rfl (fun KK hKK => ?_)
  go_simp
  refine hKK _ _ (NoPanic.normal ?_)
  try simp only [Act.put, u2, u3, u4]
  have oS := (o4.stored (p * 2 + 1) (.string ⟨x.toArray⟩)).1
  rw [HSET.out x] at oS
  have hKS := hK4.far (p := ⟨g, p * 2 + 1, none⟩) (by show hb ≠ g; omega) (.string ⟨x.toArray⟩)
  have hZS := hZ4.far (p := ⟨g, p * 2 + 1, none⟩) (by show hb + 1 ≠ g; omega) (.string ⟨x.toArray⟩)
  have RS := Rd.far R4 (p := ⟨g, p * 2 + 1, none⟩) (by show r < g; omega) (.string ⟨x.toArray⟩)
  have gS := zl.setCell g4 (p := ⟨g, p * 2 + 1, none⟩) (.inr (by show B ≤ g; omega)) (.string ⟨x.toArray⟩)
  have kS := yJ k4 (p := ⟨g, p * 2 + 1, none⟩) (.inl (.inr rfl)) (.string ⟨x.toArray⟩)
  have SM := SMY.out x hxl
  go_upto_region 13 with (fail)
  generalize w4.setCell ⟨g, p * 2 + 1, none⟩ (.string ⟨x.toArray⟩) = w9 at *
  have hgl := HSL.out x
  clear HSET HSL SMY hKK hK4 hZ4 o4 R4 g4 hX4 c4 f4 hX2 hK2 hZ2 o2 R2 g2 hu1 c2 k2 k4
  generalize fs.set p (fs[p].1, x) = gs at *
  rw [← hgl] at oS hKS hneZ
  clear hgl hgX
  have hFZ := hZS.free
  have hYZ := hZS.cell
  have hXZ := hKS.cell
  go_wp2
  have Q := (wK hZS ⟨o, l, m, dict, gs⟩ (some ⟨g, 0, none⟩) cap).cell
  have oQ := nV oS hneZ ⟨o, l, m, dict, gs⟩ (some ⟨g, 0, none⟩) cap
  have RQ := dK RS (b := hb + 1) (by omega) ⟨o, l, m, dict, gs⟩ (some ⟨g, 0, none⟩) cap
  have gQ := uu gS (b := hb + 1) (by omega) ⟨o, l, m, dict, gs⟩ (some ⟨g, 0, none⟩) cap
  have kQ := yJ (yJ (yJ (yJ (yJ kS (p := ⟨hb + 1, 0, none⟩) (.inr (by show hb ≤ hb + 1; omega)) (.int .i64 o)) (p := ⟨hb + 1, 1, none⟩) (.inr (by show hb ≤ hb + 1; omega)) (.int .i64 l)) (p := ⟨hb + 1, 2, none⟩) (.inr (by show hb ≤ hb + 1; omega)) (.int .i64 m)) (p := ⟨hb + 1, 3, none⟩) (.inr (by show hb ≤ hb + 1; omega)) (.string ⟨dict.toArray⟩)) (p := ⟨hb + 1, 4, none⟩) (.inr (by show hb ≤ hb + 1; omega)) (.slice (some ⟨g, 0, none⟩) gs.length cap)
  exact bodyPost_ret (v := Sto.V ⟨o, l, m, dict, gs⟩ (some ⟨g, 0, none⟩) cap) (by simp [results, Tryz.results66, go_sem, Q]) rfl ⟨⟨⟨⟨o, l, m, dict, gs⟩, (some ⟨g, 0, none⟩), cap, rfl, SM, oQ⟩, RQ.mono (by omega), gQ⟩, (by rw [hN.out]; exact kQ)⟩
 have e1 : (v == 1) = false := by rw [beq_eq_false_iff_ne]; exact hc1
 by_cases hc2 : v = 2
 ·subst hc2
  have SM := hSM.out.more p hp h6
  have hl1 : (fs ++ [fs[p]]).length = fs.length + 1 := by simp
  have hv1 : yj (fs ++ [fs[p]]) = yj fs ++ [.string ⟨fs[p].1.toArray⟩, .string ⟨fs[p].2.toArray⟩] := uw fs fs[p]
  have hu0 := hat.1
  have hu1 := hat.2
  simp only [Nat.add_zero] at hu0
  have c20 := (o2.cellAt (p * 2) (by omega)).trans hu0
  have c21 := (o2.cellAt (p * 2 + 1) (by omega)).trans hu1
  have hm1 : fs.length + 1 ≤ maxLen := by unfold maxLen; omega
  have hV : ∃ A' cap' w', (Builtin.append_ #[25, 25] 25 #[.slice (some ⟨g, 0, none⟩) fs.length cap, .slice (some ⟨w2.heap.size, 0, none⟩) 1 1]).run Tryz.prog (w2.alloc (.cells #[.string ⟨fs[p].1.toArray⟩, .string ⟨fs[p].2.toArray⟩] 40)).drew = .ok (.slice A' (fs.length + 1) cap') w' ∧ w'.ownsRow B 40 2 (.slice A' (fs.length + 1) cap') (fs.length + 1) (yj fs ++ [.string ⟨fs[p].1.toArray⟩, .string ⟨fs[p].2.toArray⟩]) ∧ (w2.alloc (.cells #[.string ⟨fs[p].1.toArray⟩, .string ⟨fs[p].2.toArray⟩] 40)).drew.grownBy w' (some g) ∧ (∀ j u, (yj fs)[j]? = some u → w'.cell? ⟨g, j, none⟩ = some u) ∧ (Value.ownBlock (.slice A' (fs.length + 1) cap') = some g ∨ Value.ownBlock (.slice A' (fs.length + 1) cap') = some (w2.heap.size + 1)) := by
   have h := Wi (P := Tryz.prog) (w2.alloc (.cells #[.string ⟨fs[p].1.toArray⟩, .string ⟨fs[p].2.toArray⟩] 40)).drew B 25 25 40 i _ 2 32 Tryz.underlying25 hi hz0 hz1 hz2 rfl (by omega) g fs.length cap (yj fs) (World.ownsRow.alloc o2 (.cells #[.string ⟨fs[p].1.toArray⟩, .string ⟨fs[p].2.toArray⟩] 40)) w2.heap.size 1 1 [.string ⟨fs[p].1.toArray⟩, .string ⟨fs[p].2.toArray⟩] (Sl.new w2 #[.string ⟨fs[p].1.toArray⟩, .string ⟨fs[p].2.toArray⟩] _ 1 2 rfl (by omega)) (by intro u hu; simp only [List.mem_cons, List.not_mem_nil, or_false] at hu; rcases hu with rfl | rfl <;> rfl) (by omega) hm1 (by omega) (by show B ≤ (w2.alloc _).heap.size; simp; omega)
   have hsz : (w2.alloc (.cells #[.string ⟨fs[p].1.toArray⟩, .string ⟨fs[p].2.toArray⟩] 40)).drew.heap.size = w2.heap.size + 1 := by simp
   rw [hsz] at h
   exact h
  obtain ⟨A4, c4, w4, hrun, o4, gr4, hk4, hat4⟩ := hV
  have hK3 := hK2.alloc (.cells #[.string ⟨fs[p].1.toArray⟩, .string ⟨fs[p].2.toArray⟩] 40)
  have hZ3 := hZ2.alloc (.cells #[.string ⟨fs[p].1.toArray⟩, .string ⟨fs[p].2.toArray⟩] 40)
  have R3 := R2.alloc (.cells #[.string ⟨fs[p].1.toArray⟩, .string ⟨fs[p].2.toArray⟩] 40)
  have g3 := g2.alloc (by omega) (.cells #[.string ⟨fs[p].1.toArray⟩, .string ⟨fs[p].2.toArray⟩] 40)
  have hK4 := hK3.drew.grown gr4 (fun k hk => by injection hk with hk; omega)
  have hZ4 := hZ3.drew.grown gr4 (fun k hk => by injection hk with hk; omega)
  have R4 : Rd w4 r (M + 1 + 1) := QT R3.drew gr4 (fun k hk => by injection hk with hk; omega)
  have g4 := g3.drew.grown gr4 (by show B ≤ (w2.alloc _).heap.size; simp; omega) (fun k hk => by injection hk with hk; omega)
  have k4 := Qy (UJ (je k2 (by omega) (.cells #[.string ⟨fs[p].1.toArray⟩, .string ⟨fs[p].2.toArray⟩] 40))) gr4 (by show hb ≤ (w2.alloc _).heap.size; simp; omega) (fun k hk => .inr (by injection hk with hk; rw [hk]))
  have d40 := hk4 _ _ hu0
  have d41 := hk4 _ _ hu1
  have hX3 := hK3.cell
  have hX4 := hK4.cell
  have hF4 := hK4.free
  have d30 := (World.cell?_alloc_lt w2 (.cells #[.string ⟨fs[p].1.toArray⟩, .string ⟨fs[p].2.toArray⟩] 40) ⟨g, p * 2, none⟩ (by show g < _; omega)).trans c20
  have d31 := (World.cell?_alloc_lt w2 (.cells #[.string ⟨fs[p].1.toArray⟩, .string ⟨fs[p].2.toArray⟩] 40) ⟨g, p * 2 + 1, none⟩ (by show g < _; omega)).trans c21
  rw [← hv1, ← hl1] at o4
  have HL1 := Go.Lib.hid hl1
  rw [← hl1] at hrun hat4
  have hz4 := gr4.size
  have hzv : (w2.alloc (.cells #[.string ⟨fs[p].1.toArray⟩, .string ⟨fs[p].2.toArray⟩] 40)).drew.heap.size = w2.heap.size + 1 := by simp
  have hz4' : w2.heap.size + 1 ≤ w4.heap.size := by rw [hzv] at hz4; exact hz4
  clear hzv
  clear hz4
  have hlt4 := o4.lt
  generalize hGS : fs ++ [fs[p]] = gs at *
  clear hGS hv1 hl1 hk4 gr4 hat hsmp hu0 hu1 hSM
  generalize fs[p].1 = X0 at *
  generalize fs[p].2 = X1 at *
  go_upto_region 10 with (fail)
  refine yx 10 ((fun w' => w'.cell? ⟨hb, 4, none⟩ = some (.slice (some ⟨g, 0, none⟩) fs.length cap) ∧ w'.cell? ⟨g, p * 2, none⟩ = some (.string ⟨X0.toArray⟩) ∧ w'.cell? ⟨g, p * 2 + 1, none⟩ = some (.string ⟨X1.toArray⟩))) (by kernel_rfl) (by kernel_rfl) (by (refine ⟨?_, ?_, ?_⟩; all_goals first | exact hX4 4 | exact d40 | exact d41 | exact hX3 4 | exact d30 | exact d31 | exact hX2 4 | exact c20 | exact c21 | (simp [hX2]; done))) (fun hSS => ?_)
  simp only [List.take_succ_cons, List.take_zero]
  refine tk 0 ?_
  try simp only [Act.put, u2, u3, u4]
  refine tk 1 ?_
  try simp only [Act.put, u2, u3, u4]
  refine tk 2 ?_
  try simp only [Act.put, u2, u3, u4]
  refine tk 3 ?_
  try simp only [Act.put, u2, u3, u4]
  refine tk 4 ?_
  try simp only [Act.put, u2, u3, u4]
  refine tk 5 ?_
  try simp only [Act.put, u2, u3, u4]
  refine tk 6 ?_
  try simp only [Act.put, u2, u3, u4]
  refine rd1 7 fun KK hKK => ?_
  go_simp
  refine hKK.out _ _ (by (refine ⟨?_, ?_, ?_⟩; all_goals first | exact hX4 4 | exact d40 | exact d41 | exact hX3 4 | exact d30 | exact d31 | exact hX2 4 | exact c20 | exact c21 | (simp [hX2]; done))) fun hSS => ?_
  try simp only [Act.put, u2, u3, u4]
  refine rd1 8 fun KK hKK => ?_
  ((refine iR rfl _ _ 25 25 rfl _ _ (by simp [Act.eval, Act.put]) (by simp [Act.eval, Act.put]) hrun ?_))
  refine hKK.out _ _ (by (refine ⟨?_, ?_, ?_⟩; all_goals first | exact hX4 4 | exact d40 | exact d41 | exact hX3 4 | exact d30 | exact d31 | exact hX2 4 | exact c20 | exact c21 | (simp [hX2]; done))) fun hSS => ?_
  try simp only [Act.put, u2, u3, u4]
  refine tk 9 ?_
  try simp only [Act.put, u2, u3, u4]
  refine wpAnyH_done (by kernel_rfl) ?_ _
  refine zZ ?_
  refine wpOp_step (o := _) rfl (fun KK hKK => ?_)
  go_simp
  refine hKK _ _ (NoPanic.normal ?_)
  try simp only [Act.put, u2, u3, u4]
  have hKS := hK4.set 4 (.slice A4 gs.length c4)
  simp only [List.setIfInBounds_toArray, List.set_cons_zero, List.set_cons_succ] at hKS
  have hZS := hZ4.far (p := ⟨hb, 4, none⟩) (by show hb + 1 ≠ hb; omega) (.slice A4 gs.length c4)
  have hneS : ∀ k, (Value.slice A4 gs.length c4).ownBlock = some k → k ≠ hb ∧ k ≠ hb + 1 := fun k hk => by
   rcases hat4 with h | h <;> (rw [hk] at h; injection h with h; omega)
  have oS := zB o4 (p := ⟨hb, 4, none⟩) (fun k hk => (hneS k hk).1) (.slice A4 gs.length c4)
  have RS := Rd.far R4 (p := ⟨hb, 4, none⟩) (by show r < hb; omega) (.slice A4 gs.length c4)
  have gS := zl.setCell g4 (p := ⟨hb, 4, none⟩) (.inr (by show B ≤ hb; omega)) (.slice A4 gs.length c4)
  have kS := yJ k4 (p := ⟨hb, 4, none⟩) (.inr (Nat.le_refl _)) (.slice A4 gs.length c4)
  go_upto_region 13 with (fail)
  generalize w4.setCell ⟨hb, 4, none⟩ (.slice A4 gs.length c4) = w9 at *
  have hneZ4 : ∀ k, (Value.slice A4 gs.length c4).ownBlock = some k → k ≠ hb + 1 := fun k hk => (hneS k hk).2
  clear hKK hK4 hZ4 o4 R4 g4 hX4 hF4 d40 d41 hK3 hZ3 R3 g3 hX3 d30 d31 hX2 hK2 hZ2 o2 R2 g2 c20 c21 hrun hlt4 hneS hat4 HL1 k2 k4
  have hFZ := hZS.free
  have hYZ := hZS.cell
  have hXZ := hKS.cell
  go_wp2
  have Q := (wK hZS ⟨o, l, m, dict, gs⟩ A4 c4).cell
  have oQ := nV oS hneZ4 ⟨o, l, m, dict, gs⟩ A4 c4
  have RQ := dK RS (b := hb + 1) (by omega) ⟨o, l, m, dict, gs⟩ A4 c4
  have gQ := uu gS (b := hb + 1) (by omega) ⟨o, l, m, dict, gs⟩ A4 c4
  have kQ := yJ (yJ (yJ (yJ (yJ kS (p := ⟨hb + 1, 0, none⟩) (.inr (by show hb ≤ hb + 1; omega)) (.int .i64 o)) (p := ⟨hb + 1, 1, none⟩) (.inr (by show hb ≤ hb + 1; omega)) (.int .i64 l)) (p := ⟨hb + 1, 2, none⟩) (.inr (by show hb ≤ hb + 1; omega)) (.int .i64 m)) (p := ⟨hb + 1, 3, none⟩) (.inr (by show hb ≤ hb + 1; omega)) (.string ⟨dict.toArray⟩)) (p := ⟨hb + 1, 4, none⟩) (.inr (by show hb ≤ hb + 1; omega)) (.slice A4 gs.length c4)
  exact bodyPost_ret (v := Sto.V ⟨o, l, m, dict, gs⟩ A4 c4) (by simp [results, Tryz.results66, go_sem, Q]) rfl ⟨⟨⟨⟨o, l, m, dict, gs⟩, A4, c4, rfl, SM, oQ⟩, RQ.mono (by omega), gQ⟩, (by rw [hN.out]; exact kQ)⟩
 have e2 : (v == 2) = false := by rw [beq_eq_false_iff_ne]; exact hc2
 by_cases hc3 : v = 3
 ·subst hc3
  have hX2' := hX2
  go_wp2_with fail
  refine (SG r _ o l m _ R2 (by omega) hst).mono ?_
  rintro e w4 ⟨⟨o', l', m', rfl⟩, R4, b4⟩
  have hK4 := hK2.zN b4 lk2 (by omega)
  have hZ4 := hZ2.zN b4 lz2 (by omega)
  have o4 := yB o2 b4 (by omega)
  have g4 := g2.trans (b4.mono (by omega))
  have z4 := b4.size
  have hX4 := hK4.cell
  have hF4 := hK4.free
  have SM : l9 ⟨o', l', m', dict, fs⟩ := hSM.out
  have hKS := ((hK4.set 0 (.int .i64 o')).set 1 (.int .i64 l')).set 2 (.int .i64 m')
  simp only [List.setIfInBounds_toArray, List.set_cons_zero, List.set_cons_succ] at hKS
  have hneB : ∀ k, (Value.slice (some ⟨g, 0, none⟩) fs.length cap).ownBlock = some k → k ≠ hb := fun k hk => by
   have h : g = k := by injection hk
   omega
  have hZS := ((hZ4.far (p := ⟨hb, 0, none⟩) (by show hb + 1 ≠ hb; omega) (.int .i64 o')).far (p := ⟨hb, 1, none⟩) (by show hb + 1 ≠ hb; omega) (.int .i64 l')).far (p := ⟨hb, 2, none⟩) (by show hb + 1 ≠ hb; omega) (.int .i64 m')
  have oS := zB (zB (zB o4 (p := ⟨hb, 0, none⟩) hneB (.int .i64 o')) (p := ⟨hb, 1, none⟩) hneB (.int .i64 l')) (p := ⟨hb, 2, none⟩) hneB (.int .i64 m')
  have RS := Rd.far (Rd.far (Rd.far R4 (p := ⟨hb, 0, none⟩) (by show r < hb; omega) (.int .i64 o')) (p := ⟨hb, 1, none⟩) (by show r < hb; omega) (.int .i64 l')) (p := ⟨hb, 2, none⟩) (by show r < hb; omega) (.int .i64 m')
  have gS := zl.setCell (zl.setCell (zl.setCell g4 (p := ⟨hb, 0, none⟩) (.inr (by show B ≤ hb; omega)) (.int .i64 o')) (p := ⟨hb, 1, none⟩) (.inr (by show B ≤ hb; omega)) (.int .i64 l')) (p := ⟨hb, 2, none⟩) (.inr (by show B ≤ hb; omega)) (.int .i64 m')
  have kS := yJ (yJ (yJ (QF k2 b4 (by omega) (.inl rfl)) (p := ⟨hb, 0, none⟩) (.inr (Nat.le_refl _)) (.int .i64 o')) (p := ⟨hb, 1, none⟩) (.inr (Nat.le_refl _)) (.int .i64 l')) (p := ⟨hb, 2, none⟩) (.inr (Nat.le_refl _)) (.int .i64 m')
  clear b4 hK2 hZ2 o2 R2 g2 hX2 hX2' hSM hsmp hat k2
  go_upto_region 13 with (fail)
  generalize ((w4.setCell ⟨hb, 0, none⟩ (.int .i64 o')).setCell ⟨hb, 1, none⟩ (.int .i64 l')).setCell ⟨hb, 2, none⟩ (.int .i64 m') = w9 at *
  clear hK4 hZ4 o4 R4 g4 hX4 hF4
  have hFZ := hZS.free
  have hYZ := hZS.cell
  have hXZ := hKS.cell
  go_wp2
  have Q := (wK hZS ⟨o', l', m', dict, fs⟩ (some ⟨g, 0, none⟩) cap).cell
  have oQ := nV oS hneZ ⟨o', l', m', dict, fs⟩ (some ⟨g, 0, none⟩) cap
  have RQ := dK RS (b := hb + 1) (by omega) ⟨o', l', m', dict, fs⟩ (some ⟨g, 0, none⟩) cap
  have gQ := uu gS (b := hb + 1) (by omega) ⟨o', l', m', dict, fs⟩ (some ⟨g, 0, none⟩) cap
  have kQ := yJ (yJ (yJ (yJ (yJ kS (p := ⟨hb + 1, 0, none⟩) (.inr (by show hb ≤ hb + 1; omega)) (.int .i64 o')) (p := ⟨hb + 1, 1, none⟩) (.inr (by show hb ≤ hb + 1; omega)) (.int .i64 l')) (p := ⟨hb + 1, 2, none⟩) (.inr (by show hb ≤ hb + 1; omega)) (.int .i64 m')) (p := ⟨hb + 1, 3, none⟩) (.inr (by show hb ≤ hb + 1; omega)) (.string ⟨dict.toArray⟩)) (p := ⟨hb + 1, 4, none⟩) (.inr (by show hb ≤ hb + 1; omega)) (.slice (some ⟨g, 0, none⟩) fs.length cap)
  exact bodyPost_ret (v := Sto.V ⟨o', l', m', dict, fs⟩ (some ⟨g, 0, none⟩) cap) (by simp [results, Tryz.results66, go_sem, Q]) rfl ⟨⟨⟨⟨o', l', m', dict, fs⟩, (some ⟨g, 0, none⟩), cap, rfl, SM, oQ⟩, RQ.mono (by omega), gQ⟩, (by rw [hN.out]; exact kQ)⟩
 have e3 : (v == 3) = false := by rw [beq_eq_false_iff_ne]; exact hc3
 have SM := hSM.out
 clear hat hsmp
 have hFZ := hZ2.free
 have hYZ := hZ2.cell
 have hXZ := hK2.cell
 go_wp2
 have Q := (wK hZ2 ⟨o, l, m, dict, fs⟩ (some ⟨g, 0, none⟩) cap).cell
 have oQ := nV o2 hneZ ⟨o, l, m, dict, fs⟩ (some ⟨g, 0, none⟩) cap
 have RQ := dK R2 (b := hb + 1) (by omega) ⟨o, l, m, dict, fs⟩ (some ⟨g, 0, none⟩) cap
 have gQ := uu g2 (b := hb + 1) (by omega) ⟨o, l, m, dict, fs⟩ (some ⟨g, 0, none⟩) cap
 have kQ := yJ (yJ (yJ (yJ (yJ k2 (p := ⟨hb + 1, 0, none⟩) (.inr (by show hb ≤ hb + 1; omega)) (.int .i64 o)) (p := ⟨hb + 1, 1, none⟩) (.inr (by show hb ≤ hb + 1; omega)) (.int .i64 l)) (p := ⟨hb + 1, 2, none⟩) (.inr (by show hb ≤ hb + 1; omega)) (.int .i64 m)) (p := ⟨hb + 1, 3, none⟩) (.inr (by show hb ≤ hb + 1; omega)) (.string ⟨dict.toArray⟩)) (p := ⟨hb + 1, 4, none⟩) (.inr (by show hb ≤ hb + 1; omega)) (.slice (some ⟨g, 0, none⟩) fs.length cap)
 exact bodyPost_ret (v := Sto.V ⟨o, l, m, dict, fs⟩ (some ⟨g, 0, none⟩) cap) (by simp [results, Tryz.results66, go_sem, Q]) rfl ⟨⟨⟨⟨o, l, m, dict, fs⟩, (some ⟨g, 0, none⟩), cap, rfl, SM, oQ⟩, RQ.mono (by omega), gQ⟩, (by rw [hN.out]; exact kQ)⟩
theorem dV (r M B : Nat) (S : Sto) (A : Option Addr) (cap : Nat) (w : World) (hR : Rd w r M) (hM : M ≤ 20000000) (ho : w.ownsRow B 40 2 (.slice A S.fs.length cap) S.fs.length (yj S.fs)) (hB : r < B) (hBw : B ≤ w.heap.size)
  (h6 : S.fs.length ≤ 6) (hd : S.dict.length ≤ 7000) (hsm : ∀ f ∈ S.fs, f.1.length ≤ 3000 ∧ f.2.length ≤ 3000) (hst : S.fs = [] ∨ xH S.o S.l S.m) :
  Calls Tryz.prog 66 #[.pointer (some ⟨r, 0, none⟩), S.V A cap] w (OX r (M + 50) B w) := (YV r M B S A cap w hR hM ho hB hBw h6 hd hsm hst).mono fun _ _ h => h.1
end Go.Proofs.YtinncdollpajkaaGreat
