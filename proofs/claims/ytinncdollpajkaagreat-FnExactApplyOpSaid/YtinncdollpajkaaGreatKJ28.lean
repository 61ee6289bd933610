import Derived.Test.YtinncdollpajkaaGreatKJ27
import Derived.Test.YtinncdollpajkaaGreatKGJ4
import Derived.Deep.Cut
set_option linter.unusedVariables false
set_option linter.unusedSimpArgs false
set_option maxHeartbeats 8000000
namespace Go.Proofs.YtinncdollpajkaaGreat
open Go.RowKit
set_option maxRecDepth 100000
attribute [local go_sem high] zy zx zu zS zK yc zA zk zl zq zi zo yO zF yl zD
def ZA (O : Option (List Blk)) (v : Value) (ok : Bool) (B : Nat) (w' : World) : Prop := (O = none ∧ ok = false) ∨ ∃ P A cap, O = some P ∧ ok = true ∧ v = .slice A P.length cap ∧ w'.ownsRow B 138 4 (.slice A P.length cap) P.length (zO P)
def Qx (O : Option (List Blk)) (w : World) (e : Ending) (w' : World) : Prop := ∃ v ok, e = .returned (.tuple #[v, .bool ok]) ∧ Below w.heap.size w w' ∧ ZA O v ok w.heap.size w'
theorem ZA.no {O : Option (List Blk)} {v : Value} {B : Nat} {w' : World} (h : O = none) : ZA O v false B w' := .inl ⟨h, rfl⟩
theorem ZA.yes {O : Option (List Blk)} {P : List Blk} {A : Option Addr} {cap B : Nat} {w' : World} (h : O = some P) (ho : w'.ownsRow B 138 4 (.slice A P.length cap) P.length (zO P)) : ZA O (.slice A P.length cap) true B w' := .inr ⟨P, A, cap, h, rfl, rfl, ho⟩
theorem aB (K : Kn) (Ak : Option Addr) (ck : Nat) (bs : List Blk) (A : Option Addr) (cap : Nat) (f t : Int) (w : World) (hk0 : K.ok) (hks : Sl w Ak K.ps.length ck 2 (psV K.ps)) (hs : Sl w A bs.length cap 4 (zO bs)) (hok : ∀ b ∈ bs, b.ok = true) (hl : bs.length ≤ 40) (hf0 : 0 ≤ f) (hf1 : f ≤ 3000) (ht0 : 0 ≤ t) (ht1 : t ≤ 3000) :
    Calls Tryz.prog 156 #[knV K Ak ck, .slice A bs.length cap, .int .i64 f, .int .i64 t] w (Qx (wo K f t 0 bs) w) := by
  obtain ⟨i, hi, hz0, hz1, hz2⟩ := info_parts xK
  have cD : Hid (∀ b wr, Below w.heap.size w wr → b.ok = true → Calls Tryz.prog 108 #[knV K Ak ck, bkV b] wr fun e w' => e = yP (b.dat K) ∧ Below wr.heap.size wr w') := fun b wr h hb => qC K Ak ck b wr hk0 (hks.below h) (by have := sH hb; omega)
  have cM : Hid (∀ (x : Bs) wr, Below w.heap.size w wr → x.length ≤ 2000 → Calls Tryz.prog 157 #[knV K Ak ck, sv x] wr fun e w' => e = .returned (bkV (xB K 0 x)) ∧ Below wr.heap.size wr w') := fun x wr h hx => qw K Ak ck x wr hk0 (hks.below h) (by omega)
  have hcap := hs.1
  have hcap2 := hs.2.1
  have HOK := Go.Lib.hid hok
  have HSL : Hid (∀ wr, Below w.heap.size w wr → Sl wr A bs.length cap 4 (zO bs)) := fun wr h => hs.below h
  clear hs hok hks hk0
  obtain ⟨R, hR⟩ : ∃ R, wo K f t 0 bs = R := ⟨_, rfl⟩
  rw [hR]
  have HR := Go.Lib.hid hR
  clear hR
  have o0 : w.ownsRow (w.heap.size + 1) 138 4 (.slice none ([] : List Blk).length 0) ([] : List Blk).length (zO []) := ⟨by simp [zO], .inl ⟨rfl, rfl⟩⟩
  go_enter Tryz.func156, Tryz.ntmps156
  have hK0 : Bk (w.alloc (.cells (knC K Ak ck) 102)) w.heap.size 102 (knC K Ak ck) := tBk
  have g0 : Below w.heap.size w (w.alloc (.cells (knC K Ak ck) 102)) := zG
  have o1 := o0.alloc (.cells (knC K Ak ck) 102)
  go_upto_region 1 with (fail)
  generalize w.alloc (.cells (knC K Ak ck) 102) = w0 at *
  clear o0
  go_wp2
  go_loopw [10, 11, 21] (fun a b c wr => ∃ (k : Nat) (P : List Blk) (Ao : Option Addr) (co : Nat), a = .slice Ao P.length co ∧ b = .int .i64 (zn (bs.take k)) ∧ c = .int .i64 (k : Int) ∧ k ≤ bs.length ∧ P.length ≤ k ∧ Hid (wo K f t 0 (bs.take k) = some P) ∧ wr.ownsRow (w.heap.size + 1) 138 4 (.slice Ao P.length co) P.length (zO P) ∧ Bk wr w.heap.size 102 (knC K Ak ck) ∧ Below w.heap.size w wr) (fun _ _ c _ => bs.length - (intOf c).toNat)
  case atStart => exact ⟨0, [], none, 0, rfl, rfl, rfl, by omega, by simp, rfl, o1, hK0, g0⟩
  case round =>
    obtain ⟨k, P, Ao, co, rfl, rfl, rfl, hk, hP, HP, ow, hK, g⟩ := hrel
    clear hK0 g0 o1
    have hz := g.size
    have hkl := hK.lt
    have hsb := wR (bs.take k) (fun b hb => HOK.out b (List.mem_of_mem_take hb))
    have htl : (bs.take k).length ≤ 40 := by simp; omega
    obtain ⟨hsb1, hsb2⟩ := hsb
    have hsb3 : zn (bs.take k) ≤ 2560 := by omega
    clear hsb2 htl
    by_cases hlt : k < bs.length
    · have hki : (k : Int) < bs.length := by omega
      have hsA := HSL.out wr g
      obtain ⟨gb, off, rfl, hg, hc⟩ := Sl.oI hsA hlt
      have hcs := tq bs k hlt
      have c0 := hc 0 _ hcs.1
      have c1 := hc 1 _ hcs.2.1
      have c2 := hc 2 _ hcs.2.2.1
      have c3 := hc 3 _ hcs.2.2.2
      have hbo := HOK.out bs[k] (List.getElem_mem hlt)
      have hbs := Blk.wG hbo
      have HS2 : Hid (zn (bs.take (k + 1)) = zn (bs.take k) + bs[k].size) := by show _ = _; rw [List.take_succ_eq_append_getElem hlt, wY]
      have HST : Hid (∀ y, xP K (zn (bs.take k)) f t bs[k] = some y → wo K f t 0 (bs.take (k + 1)) = some (P ++ y)) := fun y h => aJ hlt HP.out h
      have HNO : Hid (xP K (zn (bs.take k)) f t bs[k] = none → R = none) := fun h => by rw [← HR.out]; exact aC hlt h
      have CDK : Hid (∀ wr, Below w.heap.size w wr → Calls Tryz.prog 108 #[knV K Ak ck, bkV bs[k]] wr fun e w' => e = yP (bs[k].dat K) ∧ Below wr.heap.size wr w') := fun wr h => cD.out bs[k] wr h hbo
      have HDL : Hid (∀ D, bs[k].dat K = some D → (D.length : Int) = bs[k].size) := fun D h => vY hbo h
      generalize bs[k] = b at *
      generalize zn (bs.take k) = S at *
      clear hc hcs hsA HP hbo
      obtain ⟨n2, r, n4, T⟩ := b
      simp only [Nat.add_zero] at c0 c1 c2 c3 hbs HS2
      obtain ⟨hb1, hb2, hb3, hb4⟩ := hbs
      obtain ⟨L, hL⟩ : ∃ L : Int, max S f = L := ⟨_, rfl⟩
      obtain ⟨E, hE⟩ : ∃ E : Int, min (S + n4) t = E := ⟨_, rfl⟩
      have hm1 : P.length + 1 ≤ maxLen := by unfold maxLen; omega
      have hm2 : (P.length + 1) * 40 ≤ 140737488355328 := by omega
      have hLb : 0 ≤ L ∧ L ≤ 3000 := by omega
      have hEb : 0 ≤ E ∧ E ≤ 3000 := by omega
      have hN := Bk.new wr (bkC ⟨n2, r, n4, T⟩) 138
      have ow2 := ow.alloc (.cells (bkC ⟨n2, r, n4, T⟩) 138)
      have hK2 := hK.alloc (.cells (bkC ⟨n2, r, n4, T⟩) 138)
      have g2 := g.alloc (by omega) (.cells (bkC ⟨n2, r, n4, T⟩) 138)
      go_upto_region 6 with (fail)
      generalize wr.alloc (.cells _ 138) = W at *
      have hNl := hN.lt
      have hXN := hN.cell
      have zz := g2.size
      generalize wr.heap.size = q at *
      clear ow hK g c0 c1 c2 c3
      by_cases hA : E ≤ L
      · -- nothing of it
        have HC := Go.Lib.hid (HST.out [] (by unfold xP; rw [if_pos (by simp only; omega)]))
        rw [List.append_nil] at HC
        have hAd : decide (E ≤ L) = true := decide_eq_true hA
        go_wp2
        go_roundw
        case rel => exact ⟨k + 1, P, Ao, co, rfl, by rw [HS2.out], by go_num, by omega, by omega, HC, ow2, hK2, g2⟩
        case measure => simp [intOf]; omega
      by_cases hW : L = S ∧ E = S + n4
      · -- all of it
        obtain ⟨hW1, hW2⟩ := hW
        have HC := Go.Lib.hid (HST.out [⟨n2, r, n4, T⟩] (by unfold xP; rw [if_neg (by simp only; omega), if_pos (by simp only; omega)]))
        have hd1 : (L == S) = true := by simp; omega
        have hd2 : (E == S + n4) = true := by simp; omega
        have HW1 := Go.Lib.hid hW1
        have HW2 := Go.Lib.hid hW2
        clear hW1 hW2
        go_wp2_with (at_builtin; go_must (refine zL _ rfl _ _ 96 rfl (w.heap.size + 1) 138 i _ 4 40 Tryz.underlying96 hi hz0 hz1 hz2 rfl (by omega) _ _ _ rfl (ow2.alloc _) _ 1 1 [.int .i64 n2, .bool r, .int .i64 n4, .string ⟨T.toArray⟩] rfl (Sl.newAt W #[.int .i64 n2, .bool r, .int .i64 n4, .string ⟨T.toArray⟩] _ 1 4 (by first | rfl | simp) (by simp) (by omega)) (by simp [Value.oneCell']) hm1 hm2 ?_ ?_))
        try (case refine_1 => first | omega | (simp <;> omega; done))
        intro A3 cap3 w3 o3 hg3 _
        have g3 := yj g2 hg3 (by first | omega | (simp; omega)) (fun k hk => by have := (ow2.lt k hk).1; omega)
        have hK3 := Bk.grown (hK2.alloc _) hg3 (fun k hk => by have := (ow2.lt k hk).1; omega)
        have o3' : w3.ownsRow (w.heap.size + 1) 138 4 (.slice A3 (P ++ [(⟨n2, r, n4, T⟩ : Blk)]).length cap3) (P ++ [(⟨n2, r, n4, T⟩ : Blk)]).length (zO (P ++ [(⟨n2, r, n4, T⟩ : Blk)])) := by
          rw [xu, List.length_append]; exact o3
        have hol : (P ++ [(⟨n2, r, n4, T⟩ : Blk)]).length = P.length + 1 := by simp
        have HOL := Go.Lib.hid hol
        clear o3 hg3 ow2 g2 hol hK2 hXN hN
        go_wp2
        go_roundw
        case rel => exact ⟨k + 1, P ++ [(⟨n2, r, n4, T⟩ : Blk)], A3, cap3, (by rw [HOL.out]), by rw [HS2.out], by go_num, by omega, by rw [HOL.out]; omega, HC, o3', hK3, g3⟩
        case measure => simp [intOf]; omega
      · -- a part of it
        obtain ⟨lo, hlo⟩ : ∃ lo : Nat, L - S = (lo : Int) := ⟨(L - S).toNat, by omega⟩
        obtain ⟨hv, hhv⟩ : ∃ hv : Nat, E - S = (hv : Int) := ⟨(E - S).toNat, by omega⟩
        have hcut : xP K S f t ⟨n2, r, n4, T⟩ = ((⟨n2, r, n4, T⟩ : Blk).dat K).map fun d => [xB K 0 ((d.drop lo).take (hv - lo))] := by
          unfold xP
          rw [if_neg (by simp only; omega), if_neg (by simp only; omega)]
          simp only
          rw [show (max S f - S).toNat = lo by omega, show (min (S + n4) t - max S f).toNat = hv - lo by omega]
        rw [hcut] at HST HNO
        clear hcut
        have hw1 : IntKind.i64.wrap (lo : Int) = (lo : Int) := IntWalk.i64_in _ (by omega)
        have hw2 : IntKind.i64.wrap (hv : Int) = (hv : Int) := IntWalk.i64_in _ (by omega)
        have hHV : hv ≤ n4.toNat ∧ lo ≤ hv := by omega
        by_cases hLS : L = S
        · have hd1 : (L == S) = true := by simpa using hLS
          have hd2 : (E == S + n4) = false := by simp; omega
          have HLS := Go.Lib.hid hLS
          clear hLS
          have hXK := hK2.cell
          go_wp2_with fail
          refine (CDK.out _ g2).mono ?_
          rintro e w5 ⟨rfl, b5⟩
          have z5 := b5.size
          have hK5 := hK2.below b5 (by omega)
          have ow5 := zf ow2 b5
          have g5 := g2.trans (b5.mono (by omega))
          have hX5 := hK5.cell
          have hkl5 := hK5.lt
          clear hXN hN hXK hK2 ow2 g2 b5 CDK
          cases hD : (⟨n2, r, n4, T⟩ : Blk).dat K with
          | none =>
            rw [hD] at HNO
            have hE0 := HNO.out rfl
            unfold yP
            simp only [Option.getD_none, Option.isSome_none]
            clear HNO HST
            go_wp2
            exact bodyPost_ret (v := .tuple #[.slice none 0 0, .bool false]) (by simp [results, Tryz.results156, go_sem]) rfl ⟨_, _, rfl, g5, ZA.no hE0⟩
          | some D =>
            have hDl : (D.length : Int) = n4 := HDL.out D hD
            have HC : Hid (wo K f t 0 (bs.take (k + 1)) = some (P ++ [xB K 0 ((D.drop lo).take (hv - lo))])) := HST.out _ (by rw [hD]; rfl)
            have cMx := fun wr h => cM.out ((D.drop lo).take (hv - lo)) wr h (by simp; omega)
            unfold yP
            simp only [Option.getD_some, Option.isSome_some]
            have hv1 : lo ≤ hv := hHV.2
            have hv2 : hv ≤ D.length := by omega
            have hv3 : (hv : Int) ≤ D.length := by omega
            have hv4 : (lo : Int) ≤ hv := by omega
            clear hDl
            generalize xB K 0 ((D.drop lo).take (hv - lo)) = c at *
            clear HNO HST hD
            obtain ⟨m2, s, m4, U⟩ := c
            go_upto_region 11 with (fail)
            refine wp_region_held_drew (S := (fun w' => w'.cell? ⟨w.heap.size, 0, none⟩ = some (.int .i64 K.o) ∧ w'.cell? ⟨w.heap.size, 1, none⟩ = some (.int .i64 K.l) ∧ w'.cell? ⟨w.heap.size, 2, none⟩ = some (.int .i64 K.m) ∧ w'.cell? ⟨w.heap.size, 3, none⟩ = some (.slice Ak K.ps.length ck) ∧ w'.cell? ⟨w.heap.size, 4, none⟩ = some (.int .i64 K.base) ∧ w'.cell? ⟨w.heap.size, 5, none⟩ = some (.int .i64 K.last))) (by kernel_rfl) ?_ (fun hSS => ?_)
            focus ((refine ⟨?_, ?_, ?_, ?_, ?_, ?_⟩; all_goals first | (simp [hX10]; done) | (simp [hX8]; done) | (simp [hX5]; done) | exact (hK8.alloc _).cell 0 | exact (hK8.alloc _).cell 1 | exact (hK8.alloc _).cell 2 | exact (hK8.alloc _).cell 3 | exact (hK8.alloc _).cell 4 | exact (hK8.alloc _).cell 5))
            refine tk 0 ?_
            try simp only [Act.put, u2, u3, u4]
            refine tk 1 ?_
            try simp only [Act.put, u2, u3, u4]
            refine tk 2 ?_
            try simp only [Act.put, u2, u3, u4]
            refine tk 3 ?_
            try simp only [Act.put, u2, u3, u4]
            refine tk 4 ?_
            try simp only [Act.put, u2, u3, u4]
            refine tk 5 ?_
            try simp only [Act.put, u2, u3, u4]
            refine tk 6 ?_
            try simp only [Act.put, u2, u3, u4]
            refine tk 7 ?_
            try simp only [Act.put, u2, u3, u4]
            refine tk 8 ?_
            try simp only [Act.put, u2, u3, u4]
            refine tk 9 ?_
            try simp only [Act.put, u2, u3, u4]
            refine rd1 10 fun KK hKK => ?_
            go_simp
            (go_at_call 157; refine (cMx _ zX).mono ?_; rintro e8 w8 ⟨rfl, b8⟩; have b8 : Below w5.heap.size w5 w8 := zB b8; have z8 := b8.size; have hK8 := hK5.below b8 hkl5; have o8 := zf ow5 b8; have g8 := g5.trans (b8.mono (by omega)); have hX8 := hK8.cell)
            refine hKK.out _ _ (by (refine ⟨?_, ?_, ?_, ?_, ?_, ?_⟩; all_goals first | (simp [hX10]; done) | (simp [hX8]; done) | (simp [hX5]; done) | exact (hK8.alloc _).cell 0 | exact (hK8.alloc _).cell 1 | exact (hK8.alloc _).cell 2 | exact (hK8.alloc _).cell 3 | exact (hK8.alloc _).cell 4 | exact (hK8.alloc _).cell 5)) fun hSS => ?_
            try simp only [Act.put, u2, u3, u4]
            refine rd1 11 fun KK hKK => ?_
            go_simp
            refine hKK.out _ _ (by (refine ⟨?_, ?_, ?_, ?_, ?_, ?_⟩; all_goals first | (simp [hX10]; done) | (simp [hX8]; done) | (simp [hX5]; done) | exact (hK8.alloc _).cell 0 | exact (hK8.alloc _).cell 1 | exact (hK8.alloc _).cell 2 | exact (hK8.alloc _).cell 3 | exact (hK8.alloc _).cell 4 | exact (hK8.alloc _).cell 5)) fun hSS => ?_
            try simp only [Act.put, u2, u3, u4]
            refine rd1 12 fun KK hKK => ?_
            ((refine vK _ rfl _ _ 96 rfl (w.heap.size + 1) 138 i _ 4 40 Tryz.underlying96 hi hz0 hz1 hz2 rfl (by omega) (.slice Ao P.length co) P.length (zO P) rfl (o8.alloc _) (some ⟨_, 0, none⟩) 1 1 [.int .i64 m2, .bool s, .int .i64 m4, .string ⟨U.toArray⟩] rfl (Sl.new w8 #[.int .i64 m2, .bool s, .int .i64 m4, .string ⟨U.toArray⟩] _ 1 4 (by simp) (by omega)) (by simp [Value.oneCell']) hm1 hm2 (by first | omega | (simp <;> omega)) ?_); intro A10 c10 w10 o10 hg10 hat10; have hK10 := Bk.grown (hK8.alloc _) hg10 (fun k hk => by have := (o8.lt k hk).1; omega); have g10 := (g8.alloc (by omega) _).grown hg10 (by simp; omega) (fun k hk => by have := (o8.lt k hk).1; omega); have hX10 := hK10.cell)
            refine hKK.out _ _ (by (refine ⟨?_, ?_, ?_, ?_, ?_, ?_⟩; all_goals first | (simp [hX10]; done) | (simp [hX8]; done) | (simp [hX5]; done) | exact (hK8.alloc _).cell 0 | exact (hK8.alloc _).cell 1 | exact (hK8.alloc _).cell 2 | exact (hK8.alloc _).cell 3 | exact (hK8.alloc _).cell 4 | exact (hK8.alloc _).cell 5)) fun hSS => ?_
            try simp only [Act.put, u2, u3, u4]
            refine tk 13 ?_
            try simp only [Act.put, u2, u3, u4]
            refine wpAnyH_done (by kernel_rfl) ?_ _
            simp only [List.getElem_toArray, List.getElem_cons_succ, List.getElem_cons_zero, Act.put, List.setIfInBounds_toArray, List.set_cons_zero, List.set_cons_succ]
            have hPl : (P ++ [(⟨m2, s, m4, U⟩ : Blk)]).length = P.length + 1 := by simp
            have o11 : w10.ownsRow (w.heap.size + 1) 138 4 (.slice A10 (P ++ [(⟨m2, s, m4, U⟩ : Blk)]).length c10) (P ++ [(⟨m2, s, m4, U⟩ : Blk)]).length (zO (P ++ [(⟨m2, s, m4, U⟩ : Blk)])) := by rw [hPl, xu]; exact o10
            rw [← hPl]
            have hPf2 : (P ++ [(⟨m2, s, m4, U⟩ : Blk)]).length ≤ k + 1 := by omega
            generalize P ++ [(⟨m2, s, m4, U⟩ : Blk)] = P2 at *
            clear hKK hPl o10 hg10 hat10 cMx hw1 hw2 hlo hhv hL hE
            go_wp2
            go_roundw
            case rel => exact ⟨k + 1, P2, A10, c10, rfl, by rw [HS2.out], by go_num, by omega, hPf2, HC, o11, hK10, g10⟩
            case measure => simp [intOf]; omega
        · have hd1 : (L == S) = false := by simpa using hLS
          have hXK := hK2.cell
          go_wp2_with fail
          refine (CDK.out _ g2).mono ?_
          rintro e w5 ⟨rfl, b5⟩
          have z5 := b5.size
          have hK5 := hK2.below b5 (by omega)
          have ow5 := zf ow2 b5
          have g5 := g2.trans (b5.mono (by omega))
          have hX5 := hK5.cell
          have hkl5 := hK5.lt
          clear hXN hN hXK hK2 ow2 g2 b5 CDK
          cases hD : (⟨n2, r, n4, T⟩ : Blk).dat K with
          | none =>
            rw [hD] at HNO
            have hE0 := HNO.out rfl
            unfold yP
            simp only [Option.getD_none, Option.isSome_none]
            clear HNO HST
            go_wp2
            exact bodyPost_ret (v := .tuple #[.slice none 0 0, .bool false]) (by simp [results, Tryz.results156, go_sem]) rfl ⟨_, _, rfl, g5, ZA.no hE0⟩
          | some D =>
            have hDl : (D.length : Int) = n4 := HDL.out D hD
            have HC : Hid (wo K f t 0 (bs.take (k + 1)) = some (P ++ [xB K 0 ((D.drop lo).take (hv - lo))])) := HST.out _ (by rw [hD]; rfl)
            have cMx := fun wr h => cM.out ((D.drop lo).take (hv - lo)) wr h (by simp; omega)
            unfold yP
            simp only [Option.getD_some, Option.isSome_some]
            have hv1 : lo ≤ hv := hHV.2
            have hv2 : hv ≤ D.length := by omega
            have hv3 : (hv : Int) ≤ D.length := by omega
            have hv4 : (lo : Int) ≤ hv := by omega
            clear hDl
            generalize xB K 0 ((D.drop lo).take (hv - lo)) = c at *
            clear HNO HST hD
            obtain ⟨m2, s, m4, U⟩ := c
            go_upto_region 11 with (fail)
            refine wp_region_held_drew (S := (fun w' => w'.cell? ⟨w.heap.size, 0, none⟩ = some (.int .i64 K.o) ∧ w'.cell? ⟨w.heap.size, 1, none⟩ = some (.int .i64 K.l) ∧ w'.cell? ⟨w.heap.size, 2, none⟩ = some (.int .i64 K.m) ∧ w'.cell? ⟨w.heap.size, 3, none⟩ = some (.slice Ak K.ps.length ck) ∧ w'.cell? ⟨w.heap.size, 4, none⟩ = some (.int .i64 K.base) ∧ w'.cell? ⟨w.heap.size, 5, none⟩ = some (.int .i64 K.last))) (by kernel_rfl) ?_ (fun hSS => ?_)
            focus ((refine ⟨?_, ?_, ?_, ?_, ?_, ?_⟩; all_goals first | (simp [hX10]; done) | (simp [hX8]; done) | (simp [hX5]; done) | exact (hK8.alloc _).cell 0 | exact (hK8.alloc _).cell 1 | exact (hK8.alloc _).cell 2 | exact (hK8.alloc _).cell 3 | exact (hK8.alloc _).cell 4 | exact (hK8.alloc _).cell 5))
            refine tk 0 ?_
            try simp only [Act.put, u2, u3, u4]
            refine tk 1 ?_
            try simp only [Act.put, u2, u3, u4]
            refine tk 2 ?_
            try simp only [Act.put, u2, u3, u4]
            refine tk 3 ?_
            try simp only [Act.put, u2, u3, u4]
            refine tk 4 ?_
            try simp only [Act.put, u2, u3, u4]
            refine tk 5 ?_
            try simp only [Act.put, u2, u3, u4]
            refine tk 6 ?_
            try simp only [Act.put, u2, u3, u4]
            refine tk 7 ?_
            try simp only [Act.put, u2, u3, u4]
            refine tk 8 ?_
            try simp only [Act.put, u2, u3, u4]
            refine tk 9 ?_
            try simp only [Act.put, u2, u3, u4]
            refine rd1 10 fun KK hKK => ?_
            go_simp
            (go_at_call 157; refine (cMx _ zX).mono ?_; rintro e8 w8 ⟨rfl, b8⟩; have b8 : Below w5.heap.size w5 w8 := zB b8; have z8 := b8.size; have hK8 := hK5.below b8 hkl5; have o8 := zf ow5 b8; have g8 := g5.trans (b8.mono (by omega)); have hX8 := hK8.cell)
            refine hKK.out _ _ (by (refine ⟨?_, ?_, ?_, ?_, ?_, ?_⟩; all_goals first | (simp [hX10]; done) | (simp [hX8]; done) | (simp [hX5]; done) | exact (hK8.alloc _).cell 0 | exact (hK8.alloc _).cell 1 | exact (hK8.alloc _).cell 2 | exact (hK8.alloc _).cell 3 | exact (hK8.alloc _).cell 4 | exact (hK8.alloc _).cell 5)) fun hSS => ?_
            try simp only [Act.put, u2, u3, u4]
            refine rd1 11 fun KK hKK => ?_
            go_simp
            refine hKK.out _ _ (by (refine ⟨?_, ?_, ?_, ?_, ?_, ?_⟩; all_goals first | (simp [hX10]; done) | (simp [hX8]; done) | (simp [hX5]; done) | exact (hK8.alloc _).cell 0 | exact (hK8.alloc _).cell 1 | exact (hK8.alloc _).cell 2 | exact (hK8.alloc _).cell 3 | exact (hK8.alloc _).cell 4 | exact (hK8.alloc _).cell 5)) fun hSS => ?_
            try simp only [Act.put, u2, u3, u4]
            refine rd1 12 fun KK hKK => ?_
            ((refine vK _ rfl _ _ 96 rfl (w.heap.size + 1) 138 i _ 4 40 Tryz.underlying96 hi hz0 hz1 hz2 rfl (by omega) (.slice Ao P.length co) P.length (zO P) rfl (o8.alloc _) (some ⟨_, 0, none⟩) 1 1 [.int .i64 m2, .bool s, .int .i64 m4, .string ⟨U.toArray⟩] rfl (Sl.new w8 #[.int .i64 m2, .bool s, .int .i64 m4, .string ⟨U.toArray⟩] _ 1 4 (by simp) (by omega)) (by simp [Value.oneCell']) hm1 hm2 (by first | omega | (simp <;> omega)) ?_); intro A10 c10 w10 o10 hg10 hat10; have hK10 := Bk.grown (hK8.alloc _) hg10 (fun k hk => by have := (o8.lt k hk).1; omega); have g10 := (g8.alloc (by omega) _).grown hg10 (by simp; omega) (fun k hk => by have := (o8.lt k hk).1; omega); have hX10 := hK10.cell)
            refine hKK.out _ _ (by (refine ⟨?_, ?_, ?_, ?_, ?_, ?_⟩; all_goals first | (simp [hX10]; done) | (simp [hX8]; done) | (simp [hX5]; done) | exact (hK8.alloc _).cell 0 | exact (hK8.alloc _).cell 1 | exact (hK8.alloc _).cell 2 | exact (hK8.alloc _).cell 3 | exact (hK8.alloc _).cell 4 | exact (hK8.alloc _).cell 5)) fun hSS => ?_
            try simp only [Act.put, u2, u3, u4]
            refine tk 13 ?_
            try simp only [Act.put, u2, u3, u4]
            refine wpAnyH_done (by kernel_rfl) ?_ _
            simp only [List.getElem_toArray, List.getElem_cons_succ, List.getElem_cons_zero, Act.put, List.setIfInBounds_toArray, List.set_cons_zero, List.set_cons_succ]
            have hPl : (P ++ [(⟨m2, s, m4, U⟩ : Blk)]).length = P.length + 1 := by simp
            have o11 : w10.ownsRow (w.heap.size + 1) 138 4 (.slice A10 (P ++ [(⟨m2, s, m4, U⟩ : Blk)]).length c10) (P ++ [(⟨m2, s, m4, U⟩ : Blk)]).length (zO (P ++ [(⟨m2, s, m4, U⟩ : Blk)])) := by rw [hPl, xu]; exact o10
            rw [← hPl]
            have hPf2 : (P ++ [(⟨m2, s, m4, U⟩ : Blk)]).length ≤ k + 1 := by omega
            generalize P ++ [(⟨m2, s, m4, U⟩ : Blk)] = P2 at *
            clear hKK hPl o10 hg10 hat10 cMx hw1 hw2 hlo hhv hL hE
            go_wp2
            go_roundw
            case rel => exact ⟨k + 1, P2, A10, c10, rfl, by rw [HS2.out], by go_num, by omega, hPf2, HC, o11, hK10, g10⟩
            case measure => simp [intOf]; omega
    · have hki : ¬ (k : Int) < bs.length := by omega
      have HE : Hid (R = some P) := by show _ = _; rw [← HR.out, ← HP.out, List.take_of_length_le (by omega)]
      go_wp2
      exact bodyPost_ret (v := .tuple #[.slice Ao P.length co, .bool true]) (by simp [results, Tryz.results156, go_sem]) rfl ⟨_, _, rfl, g, ZA.yes HE.out (zC ow (by omega))⟩
end Go.Proofs.YtinncdollpajkaaGreat
