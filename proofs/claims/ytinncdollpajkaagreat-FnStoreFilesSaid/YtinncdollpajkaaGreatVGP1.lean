import Derived.Test.YtinncdollpajkaaGreatVGW
import Derived.Test.YtinncdollpajkaaGreatVGB
import Derived.Test.YtinncdollpajkaaGreatVGA
import Derived.Deep.DeepCutAuto
set_option linter.unusedVariables false
set_option linter.unusedSimpArgs false
set_option maxHeartbeats 8000000
namespace Go.Proofs.YtinncdollpajkaaGreat
open Go.RowKit
set_option maxRecDepth 100000
attribute [local go_sem high] zA zu zy zO zK zX zx zk zn zq zi zo yQ zC yf zD
abbrev bkC (b : Blk) : Array Value := #[.int .i64 b.num, .bool b.raw, .int .i64 b.size, .string ⟨b.body.toArray⟩]
abbrev bkV (b : Blk) : Value := .agg #[.int .i64 b.num, .bool b.raw, .int .i64 b.size, .string ⟨b.body.toArray⟩]
def bkZ : Blk := ⟨0, false, 0, []⟩
abbrev xI : Array Value := #[.int .i64 0, .bool false, .int .i64 0, .string ⟨#[]⟩]
def Blk.sm (b : Blk) : Prop := 0 ≤ b.num ∧ b.num ≤ 65535 ∧ 0 ≤ b.size ∧ b.size ≤ 65535 ∧ b.body.length ≤ 1500000
theorem Blk.ng (n s : Int) (r : Bool) (d : Bs) : (Blk.ok ⟨n, r, s, d⟩ = true) ↔ (0 ≤ n ∧ n < 40 ∧ 1 ≤ s ∧ s ≤ 64 ∧ (if r = true then (d.length : Int) = s else 1 ≤ d.length ∧ (d.length : Int) < s)) := by simp [Blk.ok]
theorem Yj (n : Int) (w : World) :
  Calls Tryz.prog 164 #[.int .i64 n] w fun e w' => e = .returned (.bool (decide (0 ≤ n ∧ n ≤ 39))) ∧ w = w' := by
 go_enter Tryz.func164, Tryz.ntmps164
 go_wp2_with (go_at_call 73; refine (vF _ _ _ _).mono ?_; rintro e w' ⟨rfl, rfl⟩)
 go_ret
 exact ⟨zS (by simp), rfl⟩
theorem WV (b : Blk) (w : World) (hb : b.sm) :
  Calls Tryz.prog 131 #[bkV b] w fun e w' => e = .returned (.bool b.ok) ∧ Below w.heap.size w w' := by
 obtain ⟨n, r, s, d⟩ := b
 obtain ⟨h1, h2, h3, h4, h5⟩ := hb
 simp only at h1 h2 h3 h4 h5
 go_enter Tryz.func131, Tryz.ntmps131
 go_wp2_with (first | (go_at_call 164; refine (Yj _ _).mono ?_; rintro e w' ⟨rfl, rfl⟩) | (go_at_call 73; refine (vF _ _ _ _).mono ?_; rintro e w' ⟨rfl, rfl⟩))
 all_goals go_ret
 all_goals refine ⟨zS ?_, (Below.refl _ _).alloc (Nat.le_refl _) _⟩
 all_goals (rw [Bool.eq_iff_iff, Blk.ng]; (try simp only [decide_eq_true_eq, beq_iff_eq]); grind)
theorem VX (b : Blk) (w : World) :
  Calls Tryz.prog 165 #[bkV b] w fun e w' => e = .returned (.string ⟨[if b.raw = true then (0 : UInt8) else 1].toArray⟩) ∧ Below w.heap.size w w' := by
 obtain ⟨n, r, s, d⟩ := b
 cases r
 ·go_enter Tryz.func165, Tryz.ntmps165
  go_wp2
  go_ret
  exact ⟨rfl, zH⟩
 ·go_enter Tryz.func165, Tryz.ntmps165
  go_wp2
  go_ret
  exact ⟨rfl, zH⟩
theorem kK (b : Blk) (w : World) (hb : b.sm) :
  Calls Tryz.prog 132 #[bkV b] w fun e w' => e = .returned (.string ⟨b.text.toArray⟩) ∧ Below w.heap.size w w' := by
 have hsb := rO b.inner
 have hie : b.inner = (if b.raw = true then (0 : UInt8) else 1) :: (two b.num ++ (two b.size ++ (two b.body.length ++ b.body))) := by simp [Blk.inner]
 have hte : b.text = 181 :: (b.inner ++ two (sumOf b.inner)) := rfl
 have cK := fun w => VX b w
 obtain ⟨n, r, s, d⟩ := b
 obtain ⟨h1, h2, h3, h4, h5⟩ := hb
 simp only at h1 h2 h3 h4 h5 hie cK
 generalize (⟨n, r, s, d⟩ : Blk).text = T at *
 generalize (⟨n, r, s, d⟩ : Blk).inner = I at *
 generalize (if r = true then (0 : UInt8) else 1) = k at *
 have HT := Go.Lib.hid hte
 have two_le : ∀ n, (two n).length ≤ 2 := fun n => by simp [two]
 have t1 := two_le n
 have t2 := two_le s
 have t3 := two_le d.length
 have t4 := two_le (sumOf I)
 have hil : I.length ≤ 1500007 := by rw [hie]; simp; omega
 have HI := Go.Lib.hid hie
 clear hie hte two_le
 go_enter Tryz.func132, Tryz.ntmps132
 go_wp2_with fail
 have hG := zG (yw w (bkC ⟨n, r, s, d⟩) 138) (by simp)
 refine wp_region_quiet_below (by kernel_rfl) (by kernel_rfl) ?_
 repeat (go_big_quiet_step ((first | (go_at_call 165; exact Calls.regrown_of (cK _)) | (go_at_call 166; exact Calls.regrown_of (mJ _ _ (by omega) (by omega))))))
 refine wpQuiet_nil ?_
 intro w2 hw2
 have hb2 : Below _ _ w2 := zh hw2
 clear hw2
 have hz2 := hb2.size
 simp only [World.size_alloc] at hz2
 have g2 : Below w.heap.size w w2 := ((Below.refl _ _).alloc (Nat.le_refl _) _).trans (hb2.mono (by simp))
 clear hG hb2
 go_wp2_with fail
 rw [← HI.out]
 clear HI
 have hq1 : ¬ 9223372036854775807 < 1 + I.length := by omega
 have hq2 : ¬ 9223372036854775807 < I.length + 1 + (two (sumOf I)).length := by omega
 have hq3 : ¬ 9223372036854775807 < 1 + I.length + (two (sumOf I)).length := by omega
 go_region_with (first | (go_at_call 167; refine (bT _ _ (by omega)).mono ?_; rintro e w' ⟨rfl, rfl⟩) | (go_at_call 166; refine (mJ _ _ (by omega) (by omega)).mono ?_; rintro e w3 ⟨rfl, hb3⟩; have hz3 := hb3.size; (try simp at hz3); try (have hb4 := zL hb3; have hxx := zQ (yw _ _ _) hb4 (by simp))))
 all_goals
  go_wp2
  go_ret
  exact ⟨uA (by rw [HT.out]), yU⟩
def x8 (l : Bs) (a : Int) : Option (Blk × Int) := if yF l a = true then some (y9 l a, yP l a) else none
def qf (o : Option (Blk × Int)) : Ending := .returned (.tuple #[bkV ((o.map (·.1)).getD bkZ), .int .i64 ((o.map (·.2)).getD 0), .bool o.isSome])
theorem ru {l : Bs} {a : Int} (h : yF l a = false) : qf (x8 l a) = .returned (.tuple #[.agg xI, .int .i64 0, .bool false]) := by
 unfold x8; rw [h]; rfl
theorem jd {l : Bs} {a : Int} (h : ¬ ui l a = true) : yF l a = false := by
 have h : ui l a = false := by simpa using h
 unfold yF; rw [h]; rfl
theorem Zy {l : Bs} {a : Int} (h : ¬ ui l a = true) :
  a < 0 ∨ ∃ n : Nat, a = n ∧ ((l.length : Int) < n ∨ (n ≤ l.length ∧ (l.length : Int) - n < 10) ∨ (n + 10 ≤ l.length ∧ (byteAt l n != 181) = true) ∨ (n + 10 ≤ l.length ∧ (byteAt l n != 181) = false ∧ 1 < byteAt l ((n : Int) + 1))) := by
 by_cases h0 : a < 0
 ·exact .inl h0
 obtain ⟨n, rfl⟩ := Int.eq_ofNat_of_zero_le (by omega : 0 ≤ a)
 refine .inr ⟨n, rfl, ?_⟩
 simp only [ui, Bool.and_eq_true, decide_eq_true_eq] at h
 by_cases h1 : (l.length : Int) < n
 ·exact .inl h1
 by_cases h2 : (l.length : Int) - n < 10
 ·exact .inr (.inl ⟨by omega, h2⟩)
 by_cases h3 : byteAt l n = 181
 ·refine .inr (.inr (.inr ⟨by omega, by simp [h3], ?_⟩))
  have : ¬ byteAt l ((n : Int) + 1) ≤ 1 := fun h4 => h ⟨⟨by omega, by omega⟩, h3, h4⟩
  omega
 ·exact .inr (.inr (.inl ⟨by omega, by simpa using h3⟩))
theorem dJ {l : Bs} {a : Int} (h : ui l a = true) : ∃ n : Nat, a = n ∧ n + 10 ≤ l.length ∧ (byteAt l n != 181) = false ∧ byteAt l ((n : Int) + 1) ≤ 1 := by
 simp only [ui, Bool.and_eq_true, decide_eq_true_eq] at h
 obtain ⟨⟨h0, h1⟩, h2, h3⟩ := h
 obtain ⟨n, rfl⟩ := Int.eq_ofNat_of_zero_le h0
 exact ⟨n, rfl, by omega, by simpa using h2, h3⟩
theorem iH (l : Bs) (n : Nat) (h : n + 2 ≤ l.length) : numAt ((l.drop n).take 2) 0 = numAt l n := by
 have h0 : n < l.length := by omega
 have h1 : n + 1 < l.length := by omega
 unfold numAt
 have e : ((n : Int) + 1) = ((n + 1 : Nat) : Int) := by omega
 rw [e, zV l n h0, zV l (n + 1) h1]
 have e0 : ((l.drop n).take 2) = [l[n], l[n + 1]] := by
  rw [List.drop_eq_getElem_cons h0, List.drop_eq_getElem_cons h1]; rfl
 rw [e0]
 rfl
theorem ny (l : Bs) (w : World) (h : 2 ≤ l.length) :
  Calls Tryz.prog 130 #[.string ⟨l.toArray⟩] w fun e w' => e = .returned (.int .i64 (numAt l 0)) ∧ Below w.heap.size w w' := by
 have h0 := zM l 0
 have h1 := yg l 0
 have h2 := zM l 1
 have h3 := yg l 1
 have hl : (2 : Int) ≤ l.length := by omega
 go_enter Tryz.func130, Tryz.ntmps130
 go_wp2
 go_quiet (fail)
 go_wp2
 go_ret
 exact ⟨yG (by unfold numAt; simp; omega), zH⟩
theorem oK (l : Bs) (a : Int) (w : World) (hs : l.length ≤ 1500000) (ha0 : -9223372036854775808 ≤ a) (ha1 : a ≤ 9223372036854775807) :
    Calls Tryz.prog 103 #[.string ⟨l.toArray⟩, .int .i64 a] w fun e w' => e = qf (x8 l a) ∧ Below w.heap.size w w' := by
  by_cases hh : ui l a = true
  · have HH := Go.Lib.hid hh
    obtain ⟨n, rfl, hn, hb181, hb1⟩ := dJ hh
    clear hh
    have hi1 : ¬ (n : Int) < 0 := by omega
    have hi2 : ¬ (l.length : Int) < n := by omega
    have hi3 : ¬ (l.length : Int) - n < 10 := by omega
    have hi4 : ¬ 1 < byteAt l ((n : Int) + 1) := by omega
    have hi5 : (n : Int) < l.length := by omega
    have hi6 : (n : Int) + 1 < l.length := by omega
    have cP6 := fun w => ny ((l.drop (n + 6)).take 2) w (by simp; omega)
    rw [iH l (n + 6) (by omega)] at cP6
    have cP2 := fun w => ny ((l.drop (n + 2)).take 2) w (by simp; omega)
    rw [iH l (n + 2) (by omega)] at cP2
    have cP4 := fun w => ny ((l.drop (n + 4)).take 2) w (by simp; omega)
    rw [iH l (n + 4) (by omega)] at cP4
    have hB : y9 l n = ⟨numAt l ((n + 2 : Nat) : Int), decide (byteAt l ((n : Int) + 1) = 0), numAt l ((n + 4 : Nat) : Int), (l.drop (n + 8)).take (numAt l ((n + 6 : Nat) : Int)).toNat⟩ := by
      unfold y9 cutAt
      have h6 := xB l ((n : Int) + 6)
      simp only [Int.natCast_add, Int.cast_ofNat_Int]
      rw [show ((n : Int) + 8).toNat = n + 8 by omega, show ((n : Int) + 8 + numAt l (↑n + 6)).toNat - (n + 8) = (numAt l (↑n + 6)).toNat by omega]
    have hE : yP l n = (n : Int) + 10 + numAt l ((n + 6 : Nat) : Int) := by
      unfold yP
      simp only [Int.natCast_add, Int.cast_ofNat_Int]
      omega
    have hn2 := xB l ((n + 2 : Nat) : Int)
    have hn4 := xB l ((n + 4 : Nat) : Int)
    have hn6 := xB l ((n + 6 : Nat) : Int)
    generalize numAt l ((n + 2 : Nat) : Int) = n2 at *
    generalize numAt l ((n + 4 : Nat) : Int) = n4 at *
    obtain ⟨m, hm⟩ := Int.eq_ofNat_of_zero_le hn6.1
    rw [hm] at hB hE cP6 hn6
    rw [Int.toNat_natCast] at hB
    clear hm
    obtain ⟨hn2a, hn2b⟩ := hn2
    obtain ⟨hn4a, hn4b⟩ := hn4
    have hn6b := hn6.2
    clear hn6
    have hm2 : m ≤ 65535 := by omega
    have hx6 : (⟨l.toArray⟩ : ByteArray).extract (n + 6) (n + 8) = ⟨((l.drop (n + 6)).take 2).toArray⟩ := by rw [ByteArray.extract_mk]; simp
    have hx2 : (⟨l.toArray⟩ : ByteArray).extract (n + 2) (n + 4) = ⟨((l.drop (n + 2)).take 2).toArray⟩ := by rw [ByteArray.extract_mk]; simp
    have hx4 : (⟨l.toArray⟩ : ByteArray).extract (n + 4) (n + 6) = ⟨((l.drop (n + 4)).take 2).toArray⟩ := by rw [ByteArray.extract_mk]; simp
    have hx8 : (⟨l.toArray⟩ : ByteArray).extract (n + 8) (n + 8 + m) = ⟨((l.drop (n + 8)).take m).toArray⟩ := by rw [ByteArray.extract_mk]; simp
    have hx0 : (⟨l.toArray⟩ : ByteArray).extract n (n + 10 + m) = ⟨((l.drop n).take (10 + m)).toArray⟩ := by rw [ByteArray.extract_mk]; simp; congr 1; omega
    by_cases hfit : n + 10 + m ≤ l.length
    · have hfi : ¬ (l.length : Int) - n - 10 < m := by omega
      have hfi2 : (n : Int) + 8 + m ≤ l.length := by omega
      have hfi3 : (n : Int) + 10 + m ≤ l.length := by omega
      have hT : cutAt l n (yP l n) = (l.drop n).take (10 + m) := by
        unfold cutAt; rw [hE]; congr 1; omega
      have htx := UW HH.out (by rw [hE]; omega)
      rw [hT] at htx
      have hP : yF l n = ((y9 l n).ok && decide ((y9 l n).text = (l.drop n).take (10 + m))) := by
        unfold yF
        rw [HH.out, decide_eq_true (by rw [hE]; omega : yP l n ≤ l.length)]
        simp only [Bool.true_and]
        congr 1
        exact (decide_eq_decide.2 htx).symm
      have HP : Hid (x8 l n = if (y9 l n).ok = true ∧ (y9 l n).text = (l.drop n).take (10 + m) then some (y9 l n, (n : Int) + 10 + m) else none) := by
        show _ = _
        unfold x8; rw [hP, hE]; simp
      clear htx hP hT hE
      have hr : decide (byteAt l ((n : Int) + 1) = 0) = (byteAt l ((n : Int) + 1) == 0) := by
        by_cases h : byteAt l ((n : Int) + 1) = 0 <;> simp [h]
      rw [hr] at hB
      clear hr
      generalize hR : (byteAt l ((n : Int) + 1) == 0) = r at *
      have hbl := zM l ((n : Int) + 1)
      generalize hD : (l.drop (n + 8)).take m = D at *
      have hDl : D.length ≤ 65535 := by rw [← hD]; simp; omega
      generalize hTT : (l.drop n).take (10 + m) = T at *
      have HB := Go.Lib.hid hB
      have hTk : List.take (n + 10 + m - n) (List.drop n l) = T := by rw [show n + 10 + m - n = 10 + m by omega]; exact hTT
      have HD := Go.Lib.hid hD
      clear hB hD hTT
      have hsm : (⟨n2, r, n4, D⟩ : Blk).sm := ⟨hn2a, hn2b, hn4a, hn4b, by show D.length ≤ _; omega⟩
      go_enter Tryz.func103, Tryz.ntmps103
      go_wp2_with fail
      have K0 := Bk.new w xI 138
      refine (cP6 _).mono ?_
      rintro e w1 ⟨rfl, hb1⟩
      have K1 := K0.below hb1 K0.lt
      have hz1 := hb1.size
      simp only [World.size_alloc] at hz1
      have g1 : Below w.heap.size w w1 := ((Below.refl _ _).alloc (Nat.le_refl _) _).trans (hb1.mono (by simp))
      clear hb1 K0 cP6
      go_wp2_with fail
      go_cut [8] (fun p wx => ∃ gp : Nat, p = .pointer (some ⟨gp, 0, none⟩) ∧ w1.heap.size ≤ gp ∧ Bk wx gp 138 (bkC ⟨n2, r, n4, D⟩) ∧ Below w1.heap.size w1 wx)
      case first =>
        have hw1 : IntKind.i64.wrap ((n : Int) + 1) = (n : Int) + 1 := IntWalk.i64_in _ (by omega)
        have hw2 : IntKind.i64.wrap ((n : Int) + 2) = (n : Int) + 2 := IntWalk.i64_in _ (by omega)
        have hw4 : IntKind.i64.wrap ((n : Int) + 4) = (n : Int) + 4 := IntWalk.i64_in _ (by omega)
        have hw6 : IntKind.i64.wrap ((n : Int) + 6) = (n : Int) + 6 := IntWalk.i64_in _ (by omega)
        have hw8 : IntKind.i64.wrap ((n : Int) + 8) = (n : Int) + 8 := IntWalk.i64_in _ (by omega)
        have hw9 : IntKind.i64.wrap ((n : Int) + 8 + m) = (n : Int) + 8 + m := IntWalk.i64_in _ (by omega)
        have hp1 : (0 : Int) ≤ (n : Int) + 1 := by omega
        have hp2 : (0 : Int) ≤ (n : Int) + 2 := by omega
        have hp4 : (0 : Int) ≤ (n : Int) + 4 := by omega
        have hp6 : (0 : Int) ≤ (n : Int) + 6 := by omega
        have hp8 : (0 : Int) ≤ (n : Int) + 8 := by omega
        have hp9 : (0 : Int) ≤ (n : Int) + 8 + m := by omega
        have hl4 : (n : Int) + 4 ≤ l.length := by omega
        have hl6 : (n : Int) + 6 ≤ l.length := by omega
        have h24 : (n : Int) + 2 ≤ (n : Int) + 4 := by omega
        have h46 : (n : Int) + 4 ≤ (n : Int) + 6 := by omega
        have h89 : (n : Int) + 8 ≤ (n : Int) + 8 + m := by omega
        have ht2 : ((n : Int) + 2).toNat = n + 2 := by omega
        have ht4 : ((n : Int) + 4).toNat = n + 4 := by omega
        have ht6 : ((n : Int) + 6).toNat = n + 6 := by omega
        have ht8 : ((n : Int) + 8).toNat = n + 8 := by omega
        have ht9 : ((n : Int) + 8 + m).toNat = n + 8 + m := by omega
        have S1 := Bk.new w1 xI 138
        refine wp_region_held_drew (S := (fun w' => Below w1.heap.size w1 w')) (by kernel_rfl) ?_ (fun hSS => ?_)
        focus (exact yU)
        refine tk 0 ?_
        try simp only [Act.put, u2, u3, u4]
        refine tk 1 ?_
        try simp only [Act.put, u2, u3, u4]
        refine tk 2 ?_
        try simp only [Act.put, u2, u3, u4]
        refine tk 3 ?_
        try simp only [Act.put, u2, u3, u4]
        refine tk 4 ?_
        try simp only [Act.put, u2, u3, u4]
        refine tk 5 ?_
        try simp only [Act.put, u2, u3, u4]
        refine tk 7 ?_
        try simp only [Act.put, u2, u3, u4]
        refine tk 8 ?_
        try simp only [Act.put, u2, u3, u4]
        refine tk 9 ?_
        try simp only [Act.put, u2, u3, u4]
        refine tk 10 ?_
        try simp only [Act.put, u2, u3, u4]
        refine tk 11 ?_
        try simp only [Act.put, u2, u3, u4]
        refine tk 12 ?_
        try simp only [Act.put, u2, u3, u4]
        refine tk 13 ?_
        try simp only [Act.put, u2, u3, u4]
        refine tk 14 ?_
        try simp only [Act.put, u2, u3, u4]
        refine tk 15 ?_
        try simp only [Act.put, u2, u3, u4]
        refine tk 16 ?_
        try simp only [Act.put, u2, u3, u4]
        refine tk 17 ?_
        try simp only [Act.put, u2, u3, u4]
        refine tk 19 ?_
        try simp only [Act.put, u2, u3, u4]
        refine tk 20 ?_
        try simp only [Act.put, u2, u3, u4]
        refine tk 21 ?_
        try simp only [Act.put, u2, u3, u4]
        refine tk 22 ?_
        try simp only [Act.put, u2, u3, u4]
        refine tk 23 ?_
        try simp only [Act.put, u2, u3, u4]
        refine tk 24 ?_
        try simp only [Act.put, u2, u3, u4]
        refine tk 25 ?_
        try simp only [Act.put, u2, u3, u4]
        refine tk 26 ?_
        try simp only [Act.put, u2, u3, u4]
        refine wpAnyH_ready (rs := [6, 28]) (by kernel_rfl) (by simp) ?_
        refine (AllReadyH.cons (o := _) rfl (fun KK hKK => ?_) (AllReadyH.cons (o := _) rfl (fun KK hKK => ?_) AllReadyH.nil))
        ·
          go_simp
          (go_at_call 130; (with_reducible refine (cP2 _).mono ?_); rintro e w2 ⟨rfl, hb2⟩; have hz2 := hb2.size; (try simp at hz2))
          refine hKK.out _ _ (by exact yU) fun hSS => ?_
          try simp only [Act.put, u2, u3, u4]
          refine wpAnyH_ready (rs := [18, 28]) (by kernel_rfl) (by simp) ?_
          refine (AllReadyH.cons (o := _) rfl (fun KK hKK => ?_) (AllReadyH.cons (o := _) rfl (fun KK hKK => ?_) AllReadyH.nil))
          ·
            go_simp
            (go_at_call 130; (with_reducible refine (cP4 _).mono ?_); rintro e w3 ⟨rfl, hb3⟩; have hz3 := hb3.size)
            refine hKK.out _ _ (by exact yU) fun hSS => ?_
            try simp only [Act.put, u2, u3, u4]
            refine tk 27 ?_
            try simp only [Act.put, u2, u3, u4]
            refine rd1 28 fun KK hKK => ?_
            go_simp
            refine hKK.out _ _ (by exact yU) fun hSS => ?_
            try simp only [Act.put, u2, u3, u4]
            refine rd1 29 fun KK hKK => ?_
            go_simp
            refine hKK.out _ _ (by exact yU) fun hSS => ?_
            try simp only [Act.put, u2, u3, u4]
            refine wpAnyH_done (by kernel_rfl) ?_ _
            go_wp2_with fail
            go_meet
            rw [HD.out]
            exact ⟨_, rfl, by first | omega | (simp; omega), Bk.new _ _ _, yU⟩
          ·
            go_simp
            refine hKK.out _ _ (by exact yU) fun hSS => ?_
            try simp only [Act.put, u2, u3, u4]
            refine rd1 18 fun KK hKK => ?_
            go_simp
            (go_at_call 130; (with_reducible refine (cP4 _).mono ?_); rintro e w3 ⟨rfl, hb3⟩; have hz3 := hb3.size; simp at hz3; have K3 := Bk.below (Bk.new w2 xI 138) hb3 (by simp); have X3 := K3.cell; have F3 := K3.free)
            refine hKK.out _ _ (by exact yU) fun hSS => ?_
            try simp only [Act.put, u2, u3, u4]
            refine tk 27 ?_
            try simp only [Act.put, u2, u3, u4]
            refine rd1 29 fun KK hKK => ?_
            go_simp
            refine hKK.out _ _ (by exact yU) fun hSS => ?_
            try simp only [Act.put, u2, u3, u4]
            refine wpAnyH_done (by kernel_rfl) ?_ _
            go_wp2_with fail
            go_meet
            rw [HD.out]
            exact ⟨_, rfl, by first | omega | (simp; omega), (((K3.set 0 _).set 1 _).set 2 _).set 3 _, yU⟩
        ·
          go_simp
          refine hKK.out _ _ (by exact yU) fun hSS => ?_
          try simp only [Act.put, u2, u3, u4]
          refine rd1 6 fun KK hKK => ?_
          go_simp
          (go_at_call 130; (with_reducible refine (cP2 _).mono ?_); rintro e w2 ⟨rfl, hb2⟩; have hz2 := hb2.size; simp at hz2; have K2 := Bk.below (Bk.drew (Bk.new w1 xI 138)) hb2 (by simp))
          refine hKK.out _ _ (by exact yU) fun hSS => ?_
          try simp only [Act.put, u2, u3, u4]
          refine rd1 18 fun KK hKK => ?_
          go_simp
          (go_at_call 130; (with_reducible refine (cP4 _).mono ?_); rintro e w3 ⟨rfl, hb3⟩; have hz3 := hb3.size; have K3 := Bk.below K2 hb3 K2.lt; have X3 := K3.cell; have F3 := K3.free)
          refine hKK.out _ _ (by exact yU) fun hSS => ?_
          try simp only [Act.put, u2, u3, u4]
          refine tk 27 ?_
          try simp only [Act.put, u2, u3, u4]
          refine rd1 29 fun KK hKK => ?_
          go_simp
          refine hKK.out _ _ (by exact yU) fun hSS => ?_
          try simp only [Act.put, u2, u3, u4]
          refine wpAnyH_done (by kernel_rfl) ?_ _
          go_wp2_with fail
          go_meet
          rw [HD.out]
          exact ⟨_, rfl, by first | omega | (simp; omega), (((K3.set 0 _).set 1 _).set 2 _).set 3 _, yU⟩
      case rest =>
        obtain ⟨gp, rfl, hgp, hbk, hb3⟩ := hcut
        have K3 := K1.below hb3 (by omega)
        have g3 := g1.trans (hb3.mono (by omega))
        have hz3 := hb3.size
        have hgl := hbk.lt
        clear K1 g1 hb3
        have X3 := K3.cell
        have F3 := K3.free
        have Y3 := hbk.cell
        have hne : ¬ gp = w.heap.size := by omega
        have hG := zG hbk.cell hgl
        have hp0 : (0 : Int) ≤ (n : Int) + 10 + m := by omega
        have hpe : (n : Int) ≤ (n : Int) + 10 + m := by omega
        have hte : ((n : Int) + 10 + m).toNat = n + 10 + m := by omega
        have cF := fun w => WV ⟨n2, r, n4, D⟩ w hsm
        have cT := fun w => kK ⟨n2, r, n4, D⟩ w hsm
        have HP2 : Hid (x8 l n = if (⟨n2, r, n4, D⟩ : Blk).ok = true ∧ (⟨n2, r, n4, D⟩ : Blk).text = T then some (⟨n2, r, n4, D⟩, (n : Int) + 10 + m) else none) := by
          show _ = _
          rw [HP.out, HB.out]
        clear HP HB hsm
        generalize (⟨n2, r, n4, D⟩ : Blk).ok = ok at *
        generalize (⟨n2, r, n4, D⟩ : Blk).text = TT at *
        have hcases : ok = false ∨ (ok = true ∧ ((decide (TT = T) = false ∧ decide (TT ≠ T) = true) ∨ (decide (TT = T) = true ∧ decide (TT ≠ T) = false))) := by
          cases ok
          · exact .inl rfl
          · refine .inr ⟨rfl, ?_⟩
            by_cases h : TT = T
            · right; simp [h]
            · left; simp [h]
        rcases hcases with rfl | ⟨rfl, ⟨hd, hd2⟩ | ⟨hd, hd2⟩⟩
        · have HR : Hid (qf (x8 l n) = .returned (.tuple #[.agg xI, .int .i64 0, .bool false])) := by show _ = _; rw [HP2.out]; simp; rfl
          clear HP2
          go_wp2_with fail
          refine wp_region_quiet_below (by kernel_rfl) (by kernel_rfl) ?_
          repeat (go_big_quiet_step ((first | (go_at_call 131; exact Calls.regrown_of (cF _)) | (go_at_call 132; exact Calls.regrown_of (cT _)))))
          refine wpQuiet_nil ?_
          intro w4 hw2
          have hb4 : Below _ _ w4 := zh hw2
          clear hw2
          have K4 := K3.below hb4 (by omega)
          have g4 := g3.trans (hb4.mono (by omega))
          have X4 := K4.cell
          have F4 := K4.free
          clear X3 F3 hG
          go_wp2
          exact bodyPost_ret (v := .tuple #[.agg xI, .int .i64 0, .bool false]) (by simp [results, Tryz.results103, go_sem, X4]) rfl ⟨HR.out.symm, zH⟩
        · have HR : Hid (qf (x8 l n) = .returned (.tuple #[.agg xI, .int .i64 0, .bool false])) := by show _ = _; rw [HP2.out, if_neg (fun h => of_decide_eq_false hd h.2)]; rfl
          clear HP2
          go_wp2_with fail
          refine wp_region_quiet_below (by kernel_rfl) (by kernel_rfl) ?_
          repeat (go_big_quiet_step ((first | (go_at_call 131; exact Calls.regrown_of (cF _)) | (go_at_call 132; exact Calls.regrown_of (cT _)))))
          refine wpQuiet_nil ?_
          intro w4 hw2
          have hb4 : Below _ _ w4 := zh hw2
          clear hw2
          have K4 := K3.below hb4 (by omega)
          have g4 := g3.trans (hb4.mono (by omega))
          have X4 := K4.cell
          have F4 := K4.free
          clear X3 F3 hG
          go_wp2
          exact bodyPost_ret (v := .tuple #[.agg xI, .int .i64 0, .bool false]) (by simp [results, Tryz.results103, go_sem, X4]) rfl ⟨HR.out.symm, zH⟩
        · have HR : Hid (qf (x8 l n) = .returned (.tuple #[bkV ⟨n2, r, n4, D⟩, .int .i64 ((n : Int) + 10 + m), .bool true])) := by show _ = _; rw [HP2.out, if_pos ⟨rfl, of_decide_eq_true hd⟩]; rfl
          clear HP2
          go_wp2_with fail
          refine wp_region_quiet_below (by kernel_rfl) (by kernel_rfl) ?_
          repeat (go_big_quiet_step ((first | (go_at_call 131; exact Calls.regrown_of (cF _)) | (go_at_call 132; exact Calls.regrown_of (cT _)))))
          refine wpQuiet_nil ?_
          intro w4 hw2
          have hb4 : Below _ _ w4 := zh hw2
          clear hw2
          have K4 := K3.below hb4 (by omega)
          have k4 := hbk.below hb4 (by omega)
          have g4 := g3.trans (hb4.mono (by omega))
          have X4 := K4.cell
          have F4 := K4.free
          have Y4 := k4.cell
          clear X3 F3 Y3 hG
          go_wp2
          exact bodyPost_ret (v := .tuple #[bkV ⟨n2, r, n4, D⟩, .int .i64 ((n : Int) + 10 + m), .bool true]) (by simp [results, Tryz.results103, go_sem, X4]) rfl ⟨HR.out.symm, zH⟩
    · have hfi : (l.length : Int) - n - 10 < m := by omega
      have HR : Hid (qf (x8 l n) = .returned (.tuple #[.agg xI, .int .i64 0, .bool false])) := by
        refine ru ?_
        unfold yF
        rw [decide_eq_false (by rw [hE]; omega : ¬ yP l n ≤ l.length)]
        simp
      clear hE hB
      go_enter Tryz.func103, Tryz.ntmps103
      go_wp2_with fail
      have K0 := Bk.new w xI 138
      refine (cP6 _).mono ?_
      rintro e w1 ⟨rfl, hb1⟩
      have K1 := K0.below hb1 K0.lt
      have hz1 := hb1.size
      simp only [World.size_alloc] at hz1
      have g1 : Below w.heap.size w w1 := ((Below.refl _ _).alloc (Nat.le_refl _) _).trans (hb1.mono (by simp))
      have X1 := K1.cell
      have F1 := K1.free
      go_wp2
      exact bodyPost_ret (v := .tuple #[.agg xI, .int .i64 0, .bool false]) (by simp [results, Tryz.results103, go_sem, X1]) rfl ⟨HR.out.symm, zH⟩
  · have HR : Hid (qf (x8 l a) = .returned (.tuple #[.agg xI, .int .i64 0, .bool false])) := ru (jd hh)
    have hw := Zy hh
    clear hh
    rcases hw with h0 | ⟨n, rfl, h1⟩
    · go_enter Tryz.func103, Tryz.ntmps103
      go_wp2
      exact bodyPost_ret (v := .tuple #[.agg xI, .int .i64 0, .bool false]) (by simp [results, Tryz.results103, go_sem]) rfl ⟨HR.out.symm, zH⟩
    · have hi1 : ¬ (n : Int) < 0 := by omega
      rcases h1 with h1 | ⟨h1, h2⟩ | ⟨h1, h2⟩ | ⟨h1, h2, h3⟩
      · go_enter Tryz.func103, Tryz.ntmps103
        go_wp2
        exact bodyPost_ret (v := .tuple #[.agg xI, .int .i64 0, .bool false]) (by simp [results, Tryz.results103, go_sem]) rfl ⟨HR.out.symm, zH⟩
      all_goals
        have hi2 : ¬ (l.length : Int) < n := by omega
        first | have hi3 : ¬ (l.length : Int) - n < 10 := by omega
              | skip
        first | have hi5 : (n : Int) < l.length := by omega
              | skip
        first | have hi6 : (n : Int) + 1 < l.length := by omega
              | skip
        go_enter Tryz.func103, Tryz.ntmps103
        go_wp2
        exact bodyPost_ret (v := .tuple #[.agg xI, .int .i64 0, .bool false]) (by simp [results, Tryz.results103, go_sem]) rfl ⟨HR.out.symm, zH⟩
theorem jD (l : Bs) (a : Nat) (w : World) (h : a + 1 < l.length) (hl : l.length ≤ 4000000) :
  Calls Tryz.prog 135 #[.string ⟨l.toArray⟩, .int .i64 (a : Int)] w fun e w' => e = .returned (.int .i64 (numAt l a)) ∧ Below w.heap.size w w' := by
 have h0 := zM l a
 have h1 := yg l a
 have h2 := zM l ((a : Int) + 1)
 have h3 := yg l ((a : Int) + 1)
 have hi : (a : Int) + 1 < l.length := by omega
 go_enter Tryz.func135, Tryz.ntmps135
 go_wp2
 go_quiet (fail)
 go_wp2
 go_ret
 exact ⟨rfl, zH⟩
theorem bH (b : Blk) (w : World) (hb : b.sm) :
  Calls Tryz.prog 136 #[bkV b] w fun e w' => e = .returned (.bool b.ok) ∧ Below w.heap.size w w' := by
 obtain ⟨n, r, s, d⟩ := b
 obtain ⟨h1, h2, h3, h4, h5⟩ := hb
 simp only at h1 h2 h3 h4 h5
 go_enter Tryz.func136, Tryz.ntmps136
 go_wp2
 all_goals go_ret
 all_goals refine ⟨zS ?_, (Below.refl _ _).alloc (Nat.le_refl _) _⟩
 all_goals (rw [Bool.eq_iff_iff, Blk.ng]; (try simp only [decide_eq_true_eq, beq_iff_eq]); grind)
theorem nC (l : Bs) (a : Int) (w : World) (hs : l.length ≤ 1500000) (ha0 : -9223372036854775808 ≤ a) (ha1 : a ≤ 9223372036854775807) :
    Calls Tryz.prog 106 #[.string ⟨l.toArray⟩, .int .i64 a] w fun e w' => e = qf (x8 l a) ∧ Below w.heap.size w w' := by
  by_cases hh : ui l a = true
  · have HH := Go.Lib.hid hh
    obtain ⟨n, rfl, hn, hb181, hb1⟩ := dJ hh
    clear hh
    have hi1 : ¬ (n : Int) < 0 := by omega
    have hi2 : ¬ (l.length : Int) - 10 < n := by omega
    have hi4 : ¬ 1 < byteAt l ((n : Int) + 1) := by omega
    have hi5 : (n : Int) < l.length := by omega
    have hi6 : (n : Int) + 1 < l.length := by omega
    have cP6 := fun w => jD l (n + 6) w (by omega) (by omega)
    have cP2 := fun w => jD l (n + 2) w (by omega) (by omega)
    have cP4 := fun w => jD l (n + 4) w (by omega) (by omega)
    have ec6 : ((n + 6 : Nat) : Int) = (n : Int) + 6 := by omega
    have ec2 : ((n + 2 : Nat) : Int) = (n : Int) + 2 := by omega
    have ec4 : ((n + 4 : Nat) : Int) = (n : Int) + 4 := by omega
    rw [ec6] at cP6
    rw [ec2] at cP2
    rw [ec4] at cP4
    clear ec6 ec2 ec4
    have hB : y9 l n = ⟨numAt l ((n : Int) + 2), decide (byteAt l ((n : Int) + 1) = 0), numAt l ((n : Int) + 4), (l.drop (n + 8)).take (numAt l ((n : Int) + 6)).toNat⟩ := by
      unfold y9 cutAt
      have h6 := xB l ((n : Int) + 6)
      rw [show ((n : Int) + 8).toNat = n + 8 by omega, show ((n : Int) + 8 + numAt l (↑n + 6)).toNat - (n + 8) = (numAt l (↑n + 6)).toNat by omega]
    have hE : yP l n = (n : Int) + 8 + numAt l ((n : Int) + 6) + 2 := rfl
    have hn2 := xB l ((n : Int) + 2)
    have hn4 := xB l ((n : Int) + 4)
    have hn6 := xB l ((n : Int) + 6)
    generalize numAt l ((n : Int) + 2) = n2 at *
    generalize numAt l ((n : Int) + 4) = n4 at *
    obtain ⟨m, hm⟩ := Int.eq_ofNat_of_zero_le hn6.1
    rw [hm] at hB hE cP6 hn6
    rw [Int.toNat_natCast] at hB
    clear hm
    obtain ⟨hn2a, hn2b⟩ := hn2
    obtain ⟨hn4a, hn4b⟩ := hn4
    have hn6b := hn6.2
    clear hn6
    have hm2 : m ≤ 65535 := by omega
    by_cases hfit : n + 10 + m ≤ l.length
    · have hfi : ¬ (l.length : Int) - 2 < (n : Int) + 8 + m := by omega
      have hfi2 : (n : Int) + 8 + m ≤ l.length := by omega
      have cPe := fun w => jD l (n + 8 + m) w (by omega) (by omega)
      have ece : ((n + 8 + m : Nat) : Int) = (n : Int) + 8 + m := by omega
      rw [ece] at cPe
      clear ece
      have hP : yF l n = ((y9 l n).ok && decide (sumOf ((l.drop (n + 1)).take (7 + m)) = numAt l ((n : Int) + 8 + m))) := by
        unfold yF
        rw [HH.out, decide_eq_true (by rw [hE]; omega : yP l n ≤ l.length), hE]
        simp only [Bool.true_and]
        have e1 : cutAt l ((n : Int) + 1) ((n : Int) + 8 + m + 2 - 2) = (l.drop (n + 1)).take (7 + m) := by
          unfold cutAt
          rw [show ((n : Int) + 1).toNat = n + 1 by omega, show ((n : Int) + 8 + m + 2 - 2).toNat - (n + 1) = 7 + m by omega]
        rw [e1, show (n : Int) + 8 + m + 2 - 2 = (n : Int) + 8 + m by omega]
      have HP : Hid (x8 l n = if (y9 l n).ok = true ∧ sumOf ((l.drop (n + 1)).take (7 + m)) = numAt l ((n : Int) + 8 + m) then some (y9 l n, (n : Int) + 8 + m + 2) else none) := by
        show _ = _
        unfold x8; rw [hP, hE]; simp
      clear hP hE
      have hr : decide (byteAt l ((n : Int) + 1) = 0) = (byteAt l ((n : Int) + 1) == 0) := by
        by_cases h : byteAt l ((n : Int) + 1) = 0 <;> simp [h]
      rw [hr] at hB
      clear hr
      generalize hR : (byteAt l ((n : Int) + 1) == 0) = r at *
      have hbl := zM l ((n : Int) + 1)
      generalize hD : (l.drop (n + 8)).take m = D at *
      have hDl : D.length ≤ 65535 := by rw [← hD]; simp; omega
      have HD := Go.Lib.hid hD
      clear hD
      have hSx : (⟨l.toArray⟩ : ByteArray).extract (n + 1) (n + 8 + m) = ⟨((l.drop (n + 1)).take (7 + m)).toArray⟩ := by rw [ByteArray.extract_mk]; simp; congr 1; omega
      generalize hTT : (l.drop (n + 1)).take (7 + m) = T at *
      have hTl : T.length ≤ 100000 := by rw [← hTT]; simp; omega
      have hTk : List.take (n + 8 + m - (n + 1)) (List.drop (n + 1) l) = T := by rw [show n + 8 + m - (n + 1) = 7 + m by omega]; exact hTT
      have HB := Go.Lib.hid hB
      clear hB hTT
      have hsm : (⟨n2, r, n4, D⟩ : Blk).sm := ⟨hn2a, hn2b, hn4a, hn4b, by show D.length ≤ _; omega⟩
      have hsb := rO T
      go_enter Tryz.func106, Tryz.ntmps106
      go_wp2_with fail
      have K0 := Bk.new w xI 138
      refine (cP6 _).mono ?_
      rintro e w1 ⟨rfl, hb1⟩
      have K1 := K0.below hb1 K0.lt
      have hz1 := hb1.size
      simp only [World.size_alloc] at hz1
      have g1 : Below w.heap.size w w1 := ((Below.refl _ _).alloc (Nat.le_refl _) _).trans (hb1.mono (by simp))
      clear hb1 K0 cP6
      go_wp2_with fail
      go_cut [9] (fun p wx => ∃ gp : Nat, p = .pointer (some ⟨gp, 0, none⟩) ∧ w1.heap.size ≤ gp ∧ Bk wx gp 138 (bkC ⟨n2, r, n4, D⟩) ∧ Below w1.heap.size w1 wx)
      case first =>
        have hw1 : IntKind.i64.wrap ((n : Int) + 1) = (n : Int) + 1 := IntWalk.i64_in _ (by omega)
        have hw2 : IntKind.i64.wrap ((n : Int) + 2) = (n : Int) + 2 := IntWalk.i64_in _ (by omega)
        have hw4 : IntKind.i64.wrap ((n : Int) + 4) = (n : Int) + 4 := IntWalk.i64_in _ (by omega)
        have hp1 : (0 : Int) ≤ (n : Int) + 1 := by omega
        have hp8 : (0 : Int) ≤ (n : Int) + 8 := by omega
        have hp9 : (0 : Int) ≤ (n : Int) + 8 + m := by omega
        have h89 : (n : Int) + 8 ≤ (n : Int) + 8 + m := by omega
        have ht8 : ((n : Int) + 8).toNat = n + 8 := by omega
        have ht9 : ((n : Int) + 8 + m).toNat = n + 8 + m := by omega
        refine wp_region_held_drew (S := (fun w' => Below w1.heap.size w1 w')) (by kernel_rfl) ?_ (fun hSS => ?_)
        focus (exact yU)
        refine tk 0 ?_
        try simp only [Act.put, u2, u3, u4]
        refine tk 1 ?_
        try simp only [Act.put, u2, u3, u4]
        refine tk 2 ?_
        try simp only [Act.put, u2, u3, u4]
        refine tk 4 ?_
        try simp only [Act.put, u2, u3, u4]
        refine tk 5 ?_
        try simp only [Act.put, u2, u3, u4]
        refine tk 6 ?_
        try simp only [Act.put, u2, u3, u4]
        refine tk 7 ?_
        try simp only [Act.put, u2, u3, u4]
        refine tk 8 ?_
        try simp only [Act.put, u2, u3, u4]
        refine tk 9 ?_
        try simp only [Act.put, u2, u3, u4]
        refine tk 10 ?_
        try simp only [Act.put, u2, u3, u4]
        refine tk 11 ?_
        try simp only [Act.put, u2, u3, u4]
        refine tk 13 ?_
        try simp only [Act.put, u2, u3, u4]
        refine tk 14 ?_
        try simp only [Act.put, u2, u3, u4]
        refine tk 15 ?_
        try simp only [Act.put, u2, u3, u4]
        refine tk 16 ?_
        try simp only [Act.put, u2, u3, u4]
        refine wpAnyH_ready (rs := [3, 18]) (by kernel_rfl) (by simp) ?_
        refine (AllReadyH.cons (o := _) rfl (fun KK hKK => ?_) (AllReadyH.cons (o := _) rfl (fun KK hKK => ?_) AllReadyH.nil))
        ·
          go_simp
          (go_at_call 135; (with_reducible refine (cP2 _).mono ?_); rintro e w2 ⟨rfl, hb2⟩; have hz2 := hb2.size; (try simp at hz2))
          refine hKK.out _ _ (by exact yU) fun hSS => ?_
          try simp only [Act.put, u2, u3, u4]
          refine wpAnyH_ready (rs := [12, 18]) (by kernel_rfl) (by simp) ?_
          refine (AllReadyH.cons (o := _) rfl (fun KK hKK => ?_) (AllReadyH.cons (o := _) rfl (fun KK hKK => ?_) AllReadyH.nil))
          ·
            go_simp
            (go_at_call 135; (with_reducible refine (cP4 _).mono ?_); rintro e w3 ⟨rfl, hb3⟩; have hz3 := hb3.size)
            refine hKK.out _ _ (by exact yU) fun hSS => ?_
            try simp only [Act.put, u2, u3, u4]
            refine tk 17 ?_
            try simp only [Act.put, u2, u3, u4]
            refine rd1 18 fun KK hKK => ?_
            go_simp
            refine hKK.out _ _ (by exact yU) fun hSS => ?_
            try simp only [Act.put, u2, u3, u4]
            refine rd1 19 fun KK hKK => ?_
            go_simp
            refine hKK.out _ _ (by exact yU) fun hSS => ?_
            try simp only [Act.put, u2, u3, u4]
            refine wpAnyH_done (by kernel_rfl) ?_ _
            go_wp2_with fail
            go_meet
            rw [HD.out]
            exact ⟨_, rfl, by first | omega | (simp; omega), Bk.new _ _ _, yU⟩
          ·
            go_simp
            refine hKK.out _ _ (by exact yU) fun hSS => ?_
            try simp only [Act.put, u2, u3, u4]
            refine rd1 12 fun KK hKK => ?_
            go_simp
            (go_at_call 135; (with_reducible refine (cP4 _).mono ?_); rintro e w3 ⟨rfl, hb3⟩; have hz3 := hb3.size; simp at hz3; have K3 := Bk.below (Bk.new w2 xI 138) hb3 (by simp); have X3 := K3.cell; have F3 := K3.free)
            refine hKK.out _ _ (by exact yU) fun hSS => ?_
            try simp only [Act.put, u2, u3, u4]
            refine tk 17 ?_
            try simp only [Act.put, u2, u3, u4]
            refine rd1 19 fun KK hKK => ?_
            go_simp
            refine hKK.out _ _ (by exact yU) fun hSS => ?_
            try simp only [Act.put, u2, u3, u4]
            refine wpAnyH_done (by kernel_rfl) ?_ _
            go_wp2_with fail
            go_meet
            rw [HD.out]
            exact ⟨_, rfl, by first | omega | (simp; omega), (((K3.set 0 _).set 1 _).set 2 _).set 3 _, yU⟩
        ·
          go_simp
          refine hKK.out _ _ (by exact yU) fun hSS => ?_
          try simp only [Act.put, u2, u3, u4]
          refine rd1 3 fun KK hKK => ?_
          go_simp
          (go_at_call 135; (with_reducible refine (cP2 _).mono ?_); rintro e w2 ⟨rfl, hb2⟩; have hz2 := hb2.size; simp at hz2; have K2 := Bk.below (Bk.drew (Bk.new w1 xI 138)) hb2 (by simp))
          refine hKK.out _ _ (by exact yU) fun hSS => ?_
          try simp only [Act.put, u2, u3, u4]
          refine rd1 12 fun KK hKK => ?_
          go_simp
          (go_at_call 135; (with_reducible refine (cP4 _).mono ?_); rintro e w3 ⟨rfl, hb3⟩; have hz3 := hb3.size; have K3 := Bk.below K2 hb3 K2.lt; have X3 := K3.cell; have F3 := K3.free)
          refine hKK.out _ _ (by exact yU) fun hSS => ?_
          try simp only [Act.put, u2, u3, u4]
          refine tk 17 ?_
          try simp only [Act.put, u2, u3, u4]
          refine rd1 19 fun KK hKK => ?_
          go_simp
          refine hKK.out _ _ (by exact yU) fun hSS => ?_
          try simp only [Act.put, u2, u3, u4]
          refine wpAnyH_done (by kernel_rfl) ?_ _
          go_wp2_with fail
          go_meet
          rw [HD.out]
          exact ⟨_, rfl, by first | omega | (simp; omega), (((K3.set 0 _).set 1 _).set 2 _).set 3 _, yU⟩
      case rest =>
        obtain ⟨gp, rfl, hgp, hbk, hb3⟩ := hcut
        have K3 := K1.below hb3 (by omega)
        have g3 := g1.trans (hb3.mono (by omega))
        have hz3 := hb3.size
        have hgl := hbk.lt
        clear K1 g1 hb3
        have X3 := K3.cell
        have F3 := K3.free
        have Y3 := hbk.cell
        have hne : ¬ gp = w.heap.size := by omega
        have hp1 : (0 : Int) ≤ (n : Int) + 1 := by omega
        have hpe : (n : Int) + 1 ≤ (n : Int) + 8 + m := by omega
        have cF := fun w => bH ⟨n2, r, n4, D⟩ w hsm
        have HP2 : Hid (x8 l n = if (⟨n2, r, n4, D⟩ : Blk).ok = true ∧ sumOf T = numAt l ((n : Int) + 8 + m) then some (⟨n2, r, n4, D⟩, (n : Int) + 8 + m + 2) else none) := by
          show _ = _
          rw [HP.out, HB.out]
        clear HP HB hsm
        generalize (⟨n2, r, n4, D⟩ : Blk).ok = ok at *
        generalize numAt l ((n : Int) + 8 + m) = N at *
        have hcases : ok = false ∨ (ok = true ∧ ((sumOf T == N) = false ∧ (sumOf T != N) = true ∨ (sumOf T == N) = true ∧ (sumOf T != N) = false)) := by
          cases ok
          · exact .inl rfl
          · refine .inr ⟨rfl, ?_⟩
            by_cases h : sumOf T = N
            · right; simp [h]
            · left; simp [h]
        rcases hcases with rfl | ⟨rfl, ⟨hd, hd2⟩ | ⟨hd, hd2⟩⟩
        · have HR : Hid (qf (x8 l n) = .returned (.tuple #[.agg xI, .int .i64 0, .bool false])) := by show _ = _; rw [HP2.out]; simp; rfl
          clear HP2
          go_wp2_with fail
          refine (cF _).mono ?_
          rintro e w4 ⟨rfl, hb4⟩
          have K4 := K3.below hb4 (by omega)
          have g4 := g3.trans (hb4.mono (by omega))
          have X4 := K4.cell
          have F4 := K4.free
          clear X3 F3
          go_wp2
          exact bodyPost_ret (v := .tuple #[.agg xI, .int .i64 0, .bool false]) (by simp [results, Tryz.results106, go_sem, X4]) rfl ⟨HR.out.symm, zH⟩
        · have HR : Hid (qf (x8 l n) = .returned (.tuple #[.agg xI, .int .i64 0, .bool false])) := by show _ = _; rw [HP2.out, if_neg (fun h => by simp [h.2] at hd)]; rfl
          clear HP2
          go_wp2_with fail
          refine (cF _).mono ?_
          rintro e w4 ⟨rfl, hb4⟩
          have K4 := K3.below hb4 (by omega)
          have hz4 := hb4.size
          have g4 := g3.trans (hb4.mono (by omega))
          clear X3 F3 hb4
          go_wp2_with fail
          refine (Z5 T _ (by omega)).mono ?_
          rintro e w5 ⟨rfl, rfl⟩
          go_wp2_with fail
          refine (cPe _).mono ?_
          rintro e w5 ⟨rfl, hb5⟩
          have K5 := K4.below hb5 (by omega)
          have g5 := g4.trans (hb5.mono (by omega))
          have X4 := K5.cell
          have F4 := K5.free
          go_wp2
          exact bodyPost_ret (v := .tuple #[.agg xI, .int .i64 0, .bool false]) (by simp [results, Tryz.results106, go_sem, X4]) rfl ⟨HR.out.symm, zH⟩
        · have HR : Hid (qf (x8 l n) = .returned (.tuple #[bkV ⟨n2, r, n4, D⟩, .int .i64 ((n : Int) + 8 + m + 2), .bool true])) := by show _ = _; rw [HP2.out, if_pos ⟨rfl, by simpa using hd⟩]; rfl
          clear HP2
          go_wp2_with fail
          refine (cF _).mono ?_
          rintro e w4 ⟨rfl, hb4⟩
          have K4 := K3.below hb4 (by omega)
          have k4 := hbk.below hb4 (by omega)
          have hz4 := hb4.size
          have g4 := g3.trans (hb4.mono (by omega))
          clear X3 F3 Y3 hb4
          go_wp2_with fail
          refine (Z5 T _ (by omega)).mono ?_
          rintro e w5 ⟨rfl, rfl⟩
          go_wp2_with fail
          refine (cPe _).mono ?_
          rintro e w5 ⟨rfl, hb5⟩
          have K5 := K4.below hb5 (by omega)
          have k5 := k4.below hb5 (by omega)
          have g5 := g4.trans (hb5.mono (by omega))
          have X4 := K5.cell
          have F4 := K5.free
          have Y4 := k5.cell
          go_wp2
          exact bodyPost_ret (v := .tuple #[bkV ⟨n2, r, n4, D⟩, .int .i64 ((n : Int) + 8 + m + 2), .bool true]) (by simp [results, Tryz.results106, go_sem, X4]) rfl ⟨HR.out.symm, zH⟩
    · have hfi : (l.length : Int) - 2 < (n : Int) + 8 + m := by omega
      have HR : Hid (qf (x8 l n) = .returned (.tuple #[.agg xI, .int .i64 0, .bool false])) := by
        refine ru ?_
        unfold yF
        rw [decide_eq_false (by rw [hE]; omega : ¬ yP l n ≤ l.length)]
        simp
      clear hE hB
      go_enter Tryz.func106, Tryz.ntmps106
      go_wp2_with fail
      have K0 := Bk.new w xI 138
      refine (cP6 _).mono ?_
      rintro e w1 ⟨rfl, hb1⟩
      have K1 := K0.below hb1 K0.lt
      have hz1 := hb1.size
      simp only [World.size_alloc] at hz1
      have g1 : Below w.heap.size w w1 := ((Below.refl _ _).alloc (Nat.le_refl _) _).trans (hb1.mono (by simp))
      have X1 := K1.cell
      have F1 := K1.free
      go_wp2
      exact bodyPost_ret (v := .tuple #[.agg xI, .int .i64 0, .bool false]) (by simp [results, Tryz.results106, go_sem, X1]) rfl ⟨HR.out.symm, zH⟩
  · have HR : Hid (qf (x8 l a) = .returned (.tuple #[.agg xI, .int .i64 0, .bool false])) := ru (jd hh)
    have hw := Zy hh
    clear hh
    rcases hw with h0 | ⟨n, rfl, h1⟩
    · go_enter Tryz.func106, Tryz.ntmps106
      go_wp2
      exact bodyPost_ret (v := .tuple #[.agg xI, .int .i64 0, .bool false]) (by simp [results, Tryz.results106, go_sem]) rfl ⟨HR.out.symm, zH⟩
    · have hi1 : ¬ (n : Int) < 0 := by omega
      rcases h1 with h1 | ⟨h1, h2⟩ | ⟨h1, h2⟩ | ⟨h1, h2, h3⟩
      all_goals
        first | have hi2 : (l.length : Int) - 10 < n := by omega
              | have hi2 : ¬ (l.length : Int) - 10 < n := by omega
        first | have hi5 : (n : Int) < l.length := by omega
              | skip
        first | have hi6 : (n : Int) + 1 < l.length := by omega
              | skip
        go_enter Tryz.func106, Tryz.ntmps106
        go_wp2
        exact bodyPost_ret (v := .tuple #[.agg xI, .int .i64 0, .bool false]) (by simp [results, Tryz.results106, go_sem]) rfl ⟨HR.out.symm, zH⟩
theorem Pm {l : Bs} {a : Int} (h : yF l a = true) : qf (x8 l a) = .returned (.tuple #[bkV (y9 l a), .int .i64 (yP l a), .bool true]) := by
 unfold x8; rw [if_pos h]; rfl
theorem V3 (l : Bs) (a : Int) (w : World) (hs : l.length ≤ 1500000) (ha0 : -9223372036854775808 ≤ a) (ha1 : a ≤ 9223372036854775807) (h : yF l a = true) :
  Calls Tryz.prog 103 #[.string ⟨l.toArray⟩, .int .i64 a] w fun e w' => e = .returned (.tuple #[bkV (y9 l a), .int .i64 (yP l a), .bool true]) ∧ Below w.heap.size w w' :=
 (oK l a w hs ha0 ha1).mono fun e w' ⟨he, hb⟩ => ⟨he.trans (Pm h), hb⟩
theorem Sr (l : Bs) (a : Int) (w : World) (hs : l.length ≤ 1500000) (ha0 : -9223372036854775808 ≤ a) (ha1 : a ≤ 9223372036854775807) (h : yF l a = false) :
  Calls Tryz.prog 103 #[.string ⟨l.toArray⟩, .int .i64 a] w fun e w' => e = .returned (.tuple #[.agg xI, .int .i64 0, .bool false]) ∧ Below w.heap.size w w' :=
 (oK l a w hs ha0 ha1).mono fun e w' ⟨he, hb⟩ => ⟨he.trans (ru h), hb⟩
theorem VV (l : Bs) (a : Int) (w : World) (hs : l.length ≤ 1500000) (ha0 : -9223372036854775808 ≤ a) (ha1 : a ≤ 9223372036854775807) (h : yF l a = true) :
  Calls Tryz.prog 106 #[.string ⟨l.toArray⟩, .int .i64 a] w fun e w' => e = .returned (.tuple #[bkV (y9 l a), .int .i64 (yP l a), .bool true]) ∧ Below w.heap.size w w' :=
 (nC l a w hs ha0 ha1).mono fun e w' ⟨he, hb⟩ => ⟨he.trans (Pm h), hb⟩
theorem SI (l : Bs) (a : Int) (w : World) (hs : l.length ≤ 1500000) (ha0 : -9223372036854775808 ≤ a) (ha1 : a ≤ 9223372036854775807) (h : yF l a = false) :
  Calls Tryz.prog 106 #[.string ⟨l.toArray⟩, .int .i64 a] w fun e w' => e = .returned (.tuple #[.agg xI, .int .i64 0, .bool false]) ∧ Below w.heap.size w w' :=
 (nC l a w hs ha0 ha1).mono fun e w' ⟨he, hb⟩ => ⟨he.trans (ru h), hb⟩
end Go.Proofs.YtinncdollpajkaaGreat
