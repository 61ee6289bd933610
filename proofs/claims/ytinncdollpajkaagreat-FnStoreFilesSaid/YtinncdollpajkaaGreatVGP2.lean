import Derived.Test.YtinncdollpajkaaGreatVGP1
import Derived.Test.YtinncdollpajkaaGreatVGA
set_option linter.unusedVariables false
set_option linter.unusedSimpArgs false
set_option maxHeartbeats 8000000
namespace Go.Proofs.YtinncdollpajkaaGreat
open Go.RowKit
set_option maxRecDepth 100000
attribute [local go_sem high] zA zu zy zO zK zX zx zk zn zq zi zo yQ zC yf zD
def mz (x : Int) : Nat := if x < 0 then 0 else (8001 - x).toNat
theorem Sl.gI {w : World} {A : Option Addr} {n cap size : Nat} {cs : List Value} (h : Sl w A n cap size cs) {k : Nat} (hk : k < n) : ∃ g off, A = some ⟨g, off, none⟩ ∧ g < w.heap.size ∧ ∀ j u, cs[k * size + j]? = some u → w.cell? ⟨g, off + k * size + j, none⟩ = some u := by
 obtain ⟨_, _, _, h4⟩ := h
 obtain ⟨g, off, rfl, hg, hc⟩ := h4 (by omega)
 exact ⟨g, off, rfl, hg, fun j u hu => by rw [Nat.add_assoc]; exact hc _ _ hu⟩
theorem uo : (Tryz.prog.info? 138).map (fun i => (i.zero, i.size, i.bytes)) = some (some (.agg #[.int .i64 0, .bool false, .int .i64 0, .string ⟨#[]⟩]), 4, 40) := by kernel_rfl
theorem YA {w : World} {B : Nat} {e : TypeId} {A : Option Addr} {n cap size : Nat} {cs : List Value} (h : w.ownsRow B e size (.slice A n cap) n cs) : Sl w A n cap size cs := by
 obtain ⟨A', cap', h1, h2⟩ := Sl.uU h
 injection h1 with e1 e2 e3
 subst e1 e3
 exact h2
def bkL (b : Blk) : List Value := [.int .i64 b.num, .bool b.raw, .int .i64 b.size, .string ⟨b.body.toArray⟩]
def yD (bs : List Blk) : List Value := bs.flatMap bkL
theorem wZ (bs : List Blk) (b : Blk) : yD (bs ++ [b]) = yD bs ++ bkL b := by unfold yD; rw [List.flatMap_append]; simp
theorem vH (bs : List Blk) : (yD bs).length = bs.length * 4 := by
 induction bs with
 | nil => rfl
 | cons f fs ih => unfold yD at *; rw [List.flatMap_cons, List.length_append, ih]; simp [bkL]; omega
theorem pV (bs : List Blk) (k : Nat) (h : k < bs.length) : (yD bs)[k * 4 + 0]? = some (.int .i64 bs[k].num) ∧ (yD bs)[k * 4 + 1]? = some (.bool bs[k].raw) ∧ (yD bs)[k * 4 + 2]? = some (.int .i64 bs[k].size) ∧ (yD bs)[k * 4 + 3]? = some (.string ⟨bs[k].body.toArray⟩) := by
 have e : bs = bs.take k ++ (bs[k] :: bs.drop (k + 1)) := by rw [List.getElem_cons_drop, List.take_append_drop]
 have hl : (yD (bs.take k)).length = k * 4 := by rw [vH, List.length_take]; omega
 have e2 : yD bs = yD (bs.take k) ++ (bkL bs[k] ++ yD (bs.drop (k + 1))) := by
  conv => lhs; rw [e]
  unfold yD; rw [List.flatMap_append, List.flatMap_cons]
 rw [e2]
 refine ⟨?_, ?_, ?_, ?_⟩ <;> (rw [List.getElem?_append_right (by omega), hl]; simp [bkL])
def kJ (o : Option (List Blk)) (w : World) (e : Ending) (w' : World) : Prop :=
 ∃ A cap, e = .returned (.tuple #[.slice A (o.getD []).length cap, .bool o.isSome]) ∧ w'.ownsRow w.heap.size 138 4 (.slice A (o.getD []).length cap) (o.getD []).length (yD (o.getD [])) ∧ Below w.heap.size w w'
theorem vN (bs : List Blk) (b : Blk) : zt (bs ++ [b]) = zt bs + b.size := by unfold zt; rw [List.foldl_append]; rfl
theorem Blk.vk {b : Blk} (h : b.ok = true) : 1 ≤ b.size ∧ b.size ≤ 64 ∧ 0 ≤ b.num ∧ b.num < 40 := by
 obtain ⟨n, r, s, d⟩ := b
 rw [Blk.ng] at h
 exact ⟨h.2.2.1, h.2.2.2.1, h.1, h.2.1⟩
theorem uQ (bs : List Blk) (h : ∀ b ∈ bs, b.ok = true) : 0 ≤ zt bs ∧ zt bs ≤ 64 * bs.length := by
  induction bs using yS with
  | h0 => simp [zt]
  | h1 bs b ih =>
    rw [vN]
    have h1 := ih (fun c hc => h c (by simp [hc]))
    have h2 := Blk.vk (h b (by simp))
    simp; omega
theorem jS {l : Bs} {n : Nat} {a : Int} {acc : List Blk} (h : (l.length : Int) ≤ a) : yY l (n + 1) a acc = if zt acc ≤ 2000 then some acc else none := by rw [yY, if_pos h]
theorem fA {l : Bs} {n : Nat} {a : Int} {acc : List Blk} (h : ¬ (l.length : Int) ≤ a) (hp : yF l a = true) (hn : (y9 l a).num = acc.length) : yY l (n + 1) a acc = yY l n (yP l a) (acc ++ [y9 l a]) := by
 rw [yY, if_neg h, if_pos ⟨hp, hn⟩]
theorem sO {l : Bs} {n : Nat} {a : Int} {acc : List Blk} (h : ¬ (l.length : Int) ≤ a) (hp : ¬ (yF l a = true ∧ (y9 l a).num = acc.length)) : yY l (n + 1) a acc = none := by
 rw [yY, if_neg h, if_neg hp]
theorem Vw (bs : List Blk) (A : Option Addr) (cap : Nat) (w : World) (hs : Sl w A bs.length cap 4 (yD bs)) (hok : ∀ b ∈ bs, b.ok = true) (hl : bs.length ≤ 1000000) :
  Calls Tryz.prog 107 #[.slice A bs.length cap] w fun e w' => e = .returned (.int .i64 (zt bs)) ∧ Below w.heap.size w w' := by
 have HOK := Go.Lib.hid hok
 have hcap := hs.1
 go_enter Tryz.func107, Tryz.ntmps107
 go_wp2
 have hS : Hid (∀ wr, Below w.heap.size w wr → Sl wr A bs.length cap 4 (yD bs)) := fun wr h => hs.below h
 clear hs hok
 go_loopw [3, 8] (fun s i wr => ∃ k : Nat, s = .int .i64 (zt (bs.take k)) ∧ i = .int .i64 k ∧ k ≤ bs.length ∧ Below w.heap.size w wr) (fun _ i _ => bs.length - (intOf i).toNat)
 case atStart => exact ⟨0, rfl, rfl, by omega, zH⟩
 case round =>
  obtain ⟨k, rfl, rfl, hk, hb⟩ := hrel
  have hbs := hb.size
  have hsb := uQ (bs.take k) (fun b hb => HOK.out b (List.mem_of_mem_take hb))
  have htl : (bs.take k).length ≤ 1000000 := by simp; omega
  have HTL := Go.Lib.hid htl
  obtain ⟨hsb1, hsb2⟩ := hsb
  have hsb3 : zt (bs.take k) ≤ 64000000 := by omega
  clear hsb2 htl
  by_cases hlt : k < bs.length
  ·have hki : (k : Int) < bs.length := by omega
   have hsr := hS.out wr hb
   obtain ⟨g, off, rfl, hg, hc⟩ := Sl.gI hsr hlt
   have hcs := pV bs k hlt
   have c0 := hc 0 _ hcs.1
   have c1 := hc 1 _ hcs.2.1
   have c2 := hc 2 _ hcs.2.2.1
   have c3 := hc 3 _ hcs.2.2.2
   clear hc hcs hsr
   have hsz := Blk.vk (HOK.out bs[k] (List.getElem_mem hlt))
   obtain ⟨hz1, hz2, _, _⟩ := hsz
   have HS2 : Hid (zt (bs.take (k + 1)) = zt (bs.take k) + bs[k].size) := by show _ = _; rw [List.take_succ_eq_append_getElem hlt, vN]
   generalize bs[k] = b at *
   obtain ⟨n2, r, n4, D⟩ := b
   simp only [Nat.add_zero] at c0 c1 c2 c3 hz1 hz2 HS2
   generalize zt (bs.take k) = S at *
   go_wp2
   go_roundw
   case rel => exact ⟨k + 1, (by rw [HS2.out]), by go_num, by omega, zH⟩
   case measure => simp [intOf]; omega
  ·have hki : ¬ (k : Int) < bs.length := by omega
   have HE : Hid (zt (bs.take k) = zt bs) := by show _ = _; rw [List.take_of_length_le (by omega)]
   go_wp2
   go_ret
   exact ⟨yG HE.out, hb⟩
theorem mV (l : Bs) (w : World) (hs : l.length ≤ 1500000) :
  Calls Tryz.prog 75 #[.string ⟨l.toArray⟩] w (kJ (zT l) w) := by
 obtain ⟨i, hi, hz0, hz1, hz2⟩ := info_parts uo
 have HG0 : Hid (zT l = yY l (l.length + 1) 0 []) := rfl
 generalize zT l = G at *
 have HR : Hid (kJ G w = kJ G w) := rfl
 go_enter Tryz.func75, Tryz.ntmps75
 go_wp2
 go_loopw [4, 5] (fun a b wr => ∃ (A : Option Addr) (cap m x : Nat) (acc : List Blk), a = .slice A acc.length cap ∧ b = .int .i64 x ∧ x ≤ l.length ∧ l.length < m + x ∧ 10 * acc.length ≤ x ∧ Hid (∀ b ∈ acc, b.ok = true) ∧ Hid (G = yY l m x acc) ∧ wr.ownsRow w.heap.size 138 4 (.slice A acc.length cap) acc.length (yD acc) ∧ Below w.heap.size w wr) (fun _ b _ => l.length - (intOf b).toNat)
 case atStart => exact ⟨none, 0, l.length + 1, 0, [], rfl, rfl, by omega, by omega, by simp, fun b hb => (by cases hb), HG0, ⟨by simp [yD], .inl ⟨rfl, rfl⟩⟩, zH⟩
 case round =>
  obtain ⟨A, cap, m, x, acc, rfl, rfl, hx, hm, ha, HOK, HG, hown, hb⟩ := hrel
  have hws := hb.size
  clear HG0
  obtain ⟨m', rfl⟩ : ∃ m', m = m' + 1 := ⟨m - 1, by omega⟩
  by_cases hlt : x < l.length
  ·have hxi : (x : Int) < l.length := by omega
   have hxn : ¬ (l.length : Int) ≤ (x : Int) := by omega
   by_cases hp : yF l x = true
   ·have hpb := jo hp
    obtain ⟨_, hpb1, hpb2, hbok⟩ := hpb
    have cP := fun w => VV l x w (by omega) (by omega) (by omega) hp
    have HGY : Hid ((y9 l x).num = acc.length → G = yY l m' (yP l x) (acc ++ [y9 l x])) := fun h => by rw [HG.out, fA hxn hp h]
    have HGN : Hid (¬ (y9 l x).num = acc.length → G = none) := fun h => by rw [HG.out, sO hxn (fun h2 => h h2.2)]
    clear hp HG hxn
    have HBOK := Go.Lib.hid hbok
    clear hbok
    generalize y9 l x = b at *
    generalize yP l x = ex at *
    obtain ⟨y, rfl⟩ := Int.eq_ofNat_of_zero_le (by omega : 0 ≤ ex)
    obtain ⟨n2, r, n4, D⟩ := b
    simp only at HGY HGN
    by_cases hn : n2 = acc.length
    ·have hd : (n2 != (acc.length : Int)) = false := by simpa using hn
     have HG2 := Go.Lib.hid (HGY.out hn)
     clear HGY HGN hn
     have hm1 : acc.length + 1 ≤ maxLen := by unfold maxLen; omega
     have hm2 : (acc.length + 1) * 40 ≤ 140737488355328 := by omega
     go_wp2_with fail
     refine (cP _).mono ?_
     rintro e w2 ⟨rfl, hb2⟩
     have y2 := hb2.size
     have o2 := (zf hown hb2).alloc (.cells (bkC ⟨n2, r, n4, D⟩) 138)
     have g2 : Below w.heap.size w (w2.alloc (.cells (bkC ⟨n2, r, n4, D⟩) 138)) := by
      have h := hb.trans (hb2.mono (by omega)); exact zH
     clear cP hb2 hb hown
     go_wp2_with (at_builtin; go_must (refine yh _ rfl _ _ 96 rfl (w.heap.size) 138 i _ 4 40 Tryz.underlying96 hi hz0 hz1 hz2 rfl (by omega) _ _ _ rfl (o2.alloc _) _ 1 1 [.int .i64 n2, .bool r, .int .i64 n4, .string ⟨D.toArray⟩] rfl (Sl.newAt (w2.alloc (.cells (bkC ⟨n2, r, n4, D⟩) 138)) #[.int .i64 n2, .bool r, .int .i64 n4, .string ⟨D.toArray⟩] _ 1 4 (by first | rfl | simp) (by simp) (by omega)) (by simp [Value.oneCell']) hm1 hm2 ?_ ?_))
     try (case refine_1 => first | omega | (simp <;> omega; done))
     intro A3 cap3 w3 o3 hg3 _
     have g3 := yR g2 hg3 (by simp; omega) (fun k hk => by have := (o2.lt k hk).1; omega)
     have o3' : w3.ownsRow w.heap.size 138 4 (.slice A3 (acc ++ [(⟨n2, r, n4, D⟩ : Blk)]).length cap3) (acc ++ [(⟨n2, r, n4, D⟩ : Blk)]).length (yD (acc ++ [(⟨n2, r, n4, D⟩ : Blk)])) := by
      rw [wZ, List.length_append]; exact o3
     have hol : (acc ++ [(⟨n2, r, n4, D⟩ : Blk)]).length = acc.length + 1 := by simp
     have HOL := Go.Lib.hid hol
     have HOK2 : Hid (∀ b ∈ acc ++ [(⟨n2, r, n4, D⟩ : Blk)], b.ok = true) := fun b hb => by
      rcases List.mem_append.1 hb with h | h
      ·exact HOK.out b h
      ·simp at h; subst h; exact HBOK.out
     clear o3 hg3 o2 g2 hol
     go_wp2
     go_roundw
     case rel => exact ⟨A3, cap3, m', y, _, (by rw [HOL.out]), rfl, by omega, by omega, by rw [HOL.out]; omega, HOK2, HG2, o3', g3⟩
     case measure => simp [intOf]; omega
    ·have hd : (n2 != (acc.length : Int)) = true := by simpa using hn
     have HG2 := Go.Lib.hid (HGN.out hn)
     clear HGY HGN hn
     go_wp2_with fail
     refine (cP _).mono ?_
     rintro e w2 ⟨rfl, hb2⟩
     have y2 := hb2.size
     have g2 := hb.trans (hb2.mono (by omega))
     clear cP hb2 hb hown
     go_wp2
     go_ret2
     have h := HG2.out
     subst h
     exact ⟨none, 0, rfl, ⟨by simp [yD], .inl ⟨rfl, rfl⟩⟩, zH⟩
   ·have hp' : yF l x = false := by simpa using hp
    have cP := fun w => SI l x w (by omega) (by omega) (by omega) hp'
    have HG2 : Hid (G = none) := by show _ = _; rw [HG.out, sO hxn (fun h => hp h.1)]
    clear hp hp' HG hxn
    go_wp2_with fail
    refine (cP _).mono ?_
    rintro e w2 ⟨rfl, hb2⟩
    have y2 := hb2.size
    have g2 := hb.trans (hb2.mono (by omega))
    clear cP hb2 hb hown
    go_wp2
    go_ret2
    have h := HG2.out
    subst h
    exact ⟨none, 0, rfl, ⟨by simp [yD], .inl ⟨rfl, rfl⟩⟩, zH⟩
  ·have hxi : ¬ (x : Int) < l.length := by omega
   have HGE : Hid (G = if zt acc ≤ 2000 then some acc else none) := by show _ = _; rw [HG.out, jS (by omega)]
   have cZ := fun w hs => Vw acc A cap w hs HOK.out (by omega)
   have CZ := Go.Lib.hid cZ
   clear HG cZ
   go_wp2_with fail
   refine (CZ.out _ (YA hown)).mono ?_
   rintro e w2 ⟨rfl, hb2⟩
   have y2 := hb2.size
   have g2 := hb.trans (hb2.mono (by omega))
   have o2 := zf hown hb2
   clear hb2 hb hown CZ
   by_cases hz : zt acc ≤ 2000
   ·have hz' : ¬ 2000 < zt acc := by omega
    have HG2 : Hid (G = some acc) := by show _ = _; rw [HGE.out, if_pos hz]
    clear HGE
    go_wp2
    go_ret2
    have h := HG2.out
    subst h
    exact ⟨A, cap, rfl, o2, g2⟩
   ·have hz' : 2000 < zt acc := by omega
    have HG2 : Hid (G = none) := by show _ = _; rw [HGE.out, if_neg hz]
    clear HGE
    go_wp2
    go_ret2
    have h := HG2.out
    subst h
    exact ⟨none, 0, rfl, ⟨by simp [yD], .inl ⟨rfl, rfl⟩⟩, zH⟩
theorem sN (l : Bs) (w : World) (hs : l.length ≤ 1500000) :
  Calls Tryz.prog 71 #[.string ⟨l.toArray⟩] w (kJ (zT l) w) := by
 obtain ⟨i, hi, hz0, hz1, hz2⟩ := info_parts uo
 have HG0 : Hid (zT l = yY l (l.length + 1) 0 []) := rfl
 generalize zT l = G at *
 go_enter Tryz.func71, Tryz.ntmps71
 go_wp2
 have o0 := vw (base := w.heap.size) (size := 4) (Bk.new w #[] 138) (Nat.le_refl _)
 go_loopw [4, 5, 6] (fun a s b wr => ∃ (A : Option Addr) (cap m x : Nat) (acc : List Blk), a = .slice A acc.length cap ∧ s = .int .i64 (zt acc) ∧ b = .int .i64 x ∧ x ≤ l.length ∧ l.length < m + x ∧ 10 * acc.length ≤ x ∧ Hid (∀ b ∈ acc, b.ok = true) ∧ Hid (G = yY l m x acc) ∧ wr.ownsRow w.heap.size 138 4 (.slice A acc.length cap) acc.length (yD acc) ∧ Below w.heap.size w wr) (fun _ _ b _ => l.length - (intOf b).toNat)
 case atStart => exact ⟨_, 0, l.length + 1, 0, [], rfl, rfl, rfl, by omega, by omega, by simp, fun b hb => (by cases hb), HG0, o0, zH⟩
 case round =>
  obtain ⟨A, cap, m, x, acc, rfl, rfl, rfl, hx, hm, ha, HOK, HG, hown, hb⟩ := hrel
  have hws := hb.size
  clear HG0 o0
  have hsb := uQ acc HOK.out
  obtain ⟨hsb1, hsb2⟩ := hsb
  have hsb3 : zt acc ≤ 64 * 1500000 := by omega
  clear hsb2
  obtain ⟨m', rfl⟩ : ∃ m', m = m' + 1 := ⟨m - 1, by omega⟩
  by_cases hlt : x < l.length
  ·have hxi : (x : Int) < l.length := by omega
   have hxn : ¬ (l.length : Int) ≤ (x : Int) := by omega
   by_cases hp : yF l x = true
   ·have hpb := jo hp
    obtain ⟨_, hpb1, hpb2, hbok⟩ := hpb
    have cP := fun w => V3 l x w (by omega) (by omega) (by omega) hp
    have HGY : Hid ((y9 l x).num = acc.length → G = yY l m' (yP l x) (acc ++ [y9 l x])) := fun h => by rw [HG.out, fA hxn hp h]
    have HGN : Hid (¬ (y9 l x).num = acc.length → G = none) := fun h => by rw [HG.out, sO hxn (fun h2 => h h2.2)]
    clear hp HG hxn
    have hsz := Blk.vk hbok
    obtain ⟨hzz1, hzz2, _, _⟩ := hsz
    have HBOK := Go.Lib.hid hbok
    clear hbok
    generalize y9 l x = b at *
    generalize yP l x = ex at *
    obtain ⟨y, rfl⟩ := Int.eq_ofNat_of_zero_le (by omega : 0 ≤ ex)
    obtain ⟨n2, r, n4, D⟩ := b
    simp only at HGY HGN hzz1 hzz2
    have HS2 : Hid (zt (acc ++ [(⟨n2, r, n4, D⟩ : Blk)]) = zt acc + n4) := vN acc ⟨n2, r, n4, D⟩
    generalize zt acc = S at *
    by_cases hn : n2 = acc.length
    ·have hd : (n2 != (acc.length : Int)) = false := by simpa using hn
     have HG2 := Go.Lib.hid (HGY.out hn)
     clear HGY HGN hn
     have hm1 : acc.length + 1 ≤ maxLen := by unfold maxLen; omega
     have hm2 : (acc.length + 1) * 40 ≤ 140737488355328 := by omega
     go_wp2_with fail
     refine (cP _).mono ?_
     rintro e w2 ⟨rfl, hb2⟩
     have y2 := hb2.size
     have k2 := Bk.new w2 (bkC ⟨n2, r, n4, D⟩) 138
     have o1 := zf hown hb2
     have hk3 : ∀ k, (Value.slice A acc.length cap).ownBlock = some k → k ≠ w2.heap.size := fun k hk => by have := (o1.lt k hk).2; omega
     have o2 := (zf hown hb2).alloc (.cells (bkC ⟨n2, r, n4, D⟩) 138)
     have g2 : Below w.heap.size w (w2.alloc (.cells (bkC ⟨n2, r, n4, D⟩) 138)) := by
      have h := hb.trans (hb2.mono (by omega)); exact zH
     clear cP hb2 hb hown
     go_wp2_with (at_builtin; go_must (refine yh _ rfl _ _ 96 rfl (w.heap.size) 138 i _ 4 40 Tryz.underlying96 hi hz0 hz1 hz2 rfl (by omega) _ _ _ rfl (o2.alloc _) _ 1 1 [.int .i64 n2, .bool r, .int .i64 n4, .string ⟨D.toArray⟩] rfl (Sl.newAt (w2.alloc (.cells (bkC ⟨n2, r, n4, D⟩) 138)) #[.int .i64 n2, .bool r, .int .i64 n4, .string ⟨D.toArray⟩] _ 1 4 (by first | rfl | simp) (by simp) (by omega)) (by simp [Value.oneCell']) hm1 hm2 ?_ ?_))
     try (case refine_1 => first | omega | (simp <;> omega; done))
     intro A3 cap3 w3 o3 hg3 _
     have g3 := yR g2 hg3 (by simp; omega) (fun k hk => by have := (o2.lt k hk).1; omega)
     have k3 := (k2.alloc (.cells #[.int .i64 n2, .bool r, .int .i64 n4, .string ⟨D.toArray⟩] 138)).grown hg3 hk3
     have X3 := k3.cell
     have o3' : w3.ownsRow w.heap.size 138 4 (.slice A3 (acc ++ [(⟨n2, r, n4, D⟩ : Blk)]).length cap3) (acc ++ [(⟨n2, r, n4, D⟩ : Blk)]).length (yD (acc ++ [(⟨n2, r, n4, D⟩ : Blk)])) := by
      rw [wZ, List.length_append]; exact o3
     have hol : (acc ++ [(⟨n2, r, n4, D⟩ : Blk)]).length = acc.length + 1 := by simp
     have HOL := Go.Lib.hid hol
     have HOK2 : Hid (∀ b ∈ acc ++ [(⟨n2, r, n4, D⟩ : Blk)], b.ok = true) := fun b hb => by
      rcases List.mem_append.1 hb with h | h
      ·exact HOK.out b h
      ·simp at h; subst h; exact HBOK.out
     clear o3 hg3 o2 g2 hol k2 k3 hk3 o1
     go_wp2
     go_roundw
     case rel => exact ⟨A3, cap3, m', y, _, (by rw [HOL.out]), (by rw [HS2.out]), rfl, by omega, by omega, by rw [HOL.out]; omega, HOK2, HG2, o3', g3⟩
     case measure => simp [intOf]; omega
    ·have hd : (n2 != (acc.length : Int)) = true := by simpa using hn
     have HG2 := Go.Lib.hid (HGN.out hn)
     clear HGY HGN hn
     go_wp2_with fail
     refine (cP _).mono ?_
     rintro e w2 ⟨rfl, hb2⟩
     have y2 := hb2.size
     have g2 := hb.trans (hb2.mono (by omega))
     clear cP hb2 hb hown
     go_wp2
     go_ret2
     have h := HG2.out
     subst h
     exact ⟨_, 0, rfl, vw (size := 4) (Bk.newAt _ _ _ (by first | rfl | simp)) (by first | omega | (simp; omega)), zH⟩
   ·have hp' : yF l x = false := by simpa using hp
    have cP := fun w => Sr l x w (by omega) (by omega) (by omega) hp'
    have HG2 : Hid (G = none) := by show _ = _; rw [HG.out, sO hxn (fun h => hp h.1)]
    clear hp hp' HG hxn
    generalize zt acc = S at *
    go_wp2_with fail
    refine (cP _).mono ?_
    rintro e w2 ⟨rfl, hb2⟩
    have y2 := hb2.size
    have g2 := hb.trans (hb2.mono (by omega))
    clear cP hb2 hb hown
    go_wp2
    go_ret2
    have h := HG2.out
    subst h
    exact ⟨_, 0, rfl, vw (size := 4) (Bk.newAt _ _ _ (by first | rfl | simp)) (by first | omega | (simp; omega)), zH⟩
  ·have hxi : ¬ (x : Int) < l.length := by omega
   have HGE : Hid (G = if zt acc ≤ 2000 then some acc else none) := by show _ = _; rw [HG.out, jS (by omega)]
   clear HG
   by_cases hz : zt acc ≤ 2000
   ·have hz' : ¬ 2000 < zt acc := by omega
    have HG2 : Hid (G = some acc) := by show _ = _; rw [HGE.out, if_pos hz]
    clear HGE
    go_wp2
    go_ret2
    have h := HG2.out
    subst h
    exact ⟨A, cap, rfl, hown, hb⟩
   ·have hz' : 2000 < zt acc := by omega
    have HG2 : Hid (G = none) := by show _ = _; rw [HGE.out, if_neg hz]
    clear HGE
    go_wp2
    go_ret2
    have h := HG2.out
    subst h
    exact ⟨_, 0, rfl, vw (size := 4) (Bk.newAt _ _ _ (by first | rfl | simp)) (by first | omega | (simp; omega)), zH⟩
end Go.Proofs.YtinncdollpajkaaGreat
