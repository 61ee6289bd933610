import Derived.Test.YtinncdollpajkaaGreatYGU4
set_option linter.unusedVariables false
set_option linter.unusedSimpArgs false
set_option maxHeartbeats 8000000
namespace Go.Proofs.YtinncdollpajkaaGreat
open Go.RowKit
set_option maxRecDepth 100000
attribute [local go_sem high] zu zx zy zO zL zX zA zk zn zo zi zq yR zD yh zC
attribute [local go_sem high] qi rX
def ixV (o : Option Nat) : Int := match o with
 | some i => (i : Int)
 | none => -1
theorem ny (S : Sto) (n : Bs) (A : Option Addr) (cap : Nat) (w : World) (hs : Sl w A S.fs.length cap 2 (yf S.fs)) (hl : S.fs.length ≤ 1500000) :
  Calls Tryz.prog 69 #[S.V A cap, sv n] w fun e w' => e = .returned (.int .i64 (ixV (xP S.fs n))) ∧ Below w.heap.size w w' := by
 have hcap := hs.1
 have hcap2 := hs.2.1
 have HSL : Hid (∀ wr, Below w.heap.size w wr → Sl wr A S.fs.length cap 2 (yf S.fs)) := fun wr h => hs.below h
 have HF : Hid (∀ (k : Nat) (hk : k < S.fs.length), (∀ (j : Nat) (h : j < S.fs.length), j < k → S.fs[j].1 ≠ n) → S.fs[k].1 = n → ixV (xP S.fs n) = (k : Int)) := fun k hk hA he => by rw [Zf hk he (fun j hj => hA j (by omega) hj)]; rfl
 have HE : Hid ((∀ (j : Nat) (h : j < S.fs.length), S.fs[j].1 ≠ n) → ixV (xP S.fs n) = -1) := fun h => by rw [jT h]; rfl
 clear hs
 generalize ixV (xP S.fs n) = R at *
 obtain ⟨o, l, m, dict, fs⟩ := S
 simp only at *
 go_enter Tryz.func69, Tryz.ntmps69
 have hK0 : Bk (w.alloc (.cells #[.int .i64 o, .int .i64 l, .int .i64 m, .string ⟨dict.toArray⟩, .slice A fs.length cap] 27)) w.heap.size 27 #[.int .i64 o, .int .i64 l, .int .i64 m, .string ⟨dict.toArray⟩, .slice A fs.length cap] := tBk
 have g0 : Below w.heap.size w (w.alloc (.cells #[.int .i64 o, .int .i64 l, .int .i64 m, .string ⟨dict.toArray⟩, .slice A fs.length cap] 27)) := zG
 go_upto_region 1 with (fail)
 generalize w.alloc (.cells #[.int .i64 o, .int .i64 l, .int .i64 m, .string ⟨dict.toArray⟩, .slice A fs.length cap] 27) = w0 at *
 have hX0 := hK0.cell
 go_wp2
 go_loopw [5] (fun i wr => wr = w0 ∧ ∃ k : Nat, i = .int .i64 (k : Int) ∧ k ≤ fs.length ∧ Hid (∀ (j : Nat) (h : j < fs.length), j < k → fs[j].1 ≠ n)) (fun i _ => fs.length - (intOf i).toNat)
 case atStart => exact ⟨rfl, 0, rfl, by omega, fun j h hj => by omega⟩
 case round =>
  obtain ⟨rfl, k, rfl, hk, HA⟩ := hrel
  by_cases hlt : k < fs.length
  ·have hki : (k : Int) < fs.length := by omega
   obtain ⟨g, off, rfl, hg, c0, c1⟩ := (HSL.out _ g0).fl hlt
   by_cases he : fs[k].1 = n
   ·have hR := HF.out k hlt HA.out he
    subst hR
    have hd : decide (fs[k].1 = n) = true := by simpa using he
    clear he HF HE
    generalize fs[k].1 = a at *
    go_wp2
    go_ret
    exact ⟨rfl, g0⟩
   ·have HA2 := Go.Lib.hid (PL hlt HA.out he)
    have hd : decide (fs[k].1 = n) = false := by simpa using he
    clear he
    generalize fs[k].1 = a at *
    go_wp2
    go_roundw
    case rel => exact ⟨trivial, k + 1, by go_num, by omega, HA2⟩
    case measure => simp [intOf]; omega
  ·have hki : ¬ (k : Int) < fs.length := by omega
   have hR := HE.out (fun j h => HA.out j h (by omega))
   subst hR
   go_wp2
   go_ret
   exact ⟨rfl, g0⟩
theorem Yq (S : Sto) (n : Bs) (A : Option Addr) (cap : Nat) (w : World) (hok : S.ok) (hs : Sl w A S.fs.length cap 2 (yf S.fs)) :
  Calls Tryz.prog 41 #[S.V A cap, sv n] w fun e w' => (∃ x : Nat, e = .returned (.tuple #[.int .i64 (x : Int), .bool (xP S.fs n).isSome]) ∧ ∀ i, xP S.fs n = some i → x = i) ∧ Below w.heap.size w w' := by
 have hcap := hs.1
 have hcap2 := hs.2.1
 have hl := hok.2.1
 have HSL : Hid (∀ wr, Below w.heap.size w wr → Sl wr A S.fs.length cap 2 (yf S.fs)) := fun wr h => hs.below h
 have HF : Hid (∀ (k : Nat) (hk : k < S.fs.length), (∀ (j : Nat) (h : j < S.fs.length), j < k → Op.bytesLess S.fs[j].1 n = true) → Op.bytesLess S.fs[k].1 n = false → xP S.fs n = if S.fs[k].1 = n then some k else none) := fun k hk hA h => UM hok hk hA h
 have HE : Hid (∀ k, S.fs.length ≤ k → (∀ (j : Nat) (h : j < S.fs.length), j < k → Op.bytesLess S.fs[j].1 n = true) → xP S.fs n = none) := fun k hk hA => Qp hk hA
 clear hs hok
 generalize xP S.fs n = R at *
 obtain ⟨o, l, m, dict, fs⟩ := S
 simp only at *
 go_enter Tryz.func41, Tryz.ntmps41
 have hK0 : Bk (w.alloc (.cells #[.int .i64 o, .int .i64 l, .int .i64 m, .string ⟨dict.toArray⟩, .slice A fs.length cap] 27)) w.heap.size 27 #[.int .i64 o, .int .i64 l, .int .i64 m, .string ⟨dict.toArray⟩, .slice A fs.length cap] := tBk
 have g0 : Below w.heap.size w (w.alloc (.cells #[.int .i64 o, .int .i64 l, .int .i64 m, .string ⟨dict.toArray⟩, .slice A fs.length cap] 27)) := zG
 go_upto_region 1 with (fail)
 generalize w.alloc (.cells #[.int .i64 o, .int .i64 l, .int .i64 m, .string ⟨dict.toArray⟩, .slice A fs.length cap] 27) = w0 at *
 have hX0 := hK0.cell
 go_wp2
 go_loopw [11] (fun i wr => ∃ k : Nat, i = .int .i64 (k : Int) ∧ k ≤ fs.length ∧ Hid (∀ (j : Nat) (h : j < fs.length), j < k → Op.bytesLess fs[j].1 n = true) ∧ Bk wr w.heap.size 27 #[.int .i64 o, .int .i64 l, .int .i64 m, .string ⟨dict.toArray⟩, .slice A fs.length cap] ∧ Below w.heap.size w wr) (fun i _ => fs.length - (intOf i).toNat)
 case atStart => exact ⟨0, rfl, by omega, fun j h hj => by omega, hK0, g0⟩
 case round =>
  obtain ⟨k, rfl, hk, HA, hK, hb⟩ := hrel
  clear hK0 g0 hX0
  have hz := hb.size
  by_cases hlt : k < fs.length
  ·have hki : (k : Int) < fs.length := by omega
   obtain ⟨g, off, rfl, hg, c0, c1⟩ := (HSL.out _ hb).fl hlt
   by_cases hls : Op.bytesLess fs[k].1 n = true
   ·have HA2 := Go.Lib.hid (TJ hlt HA.out hls)
    have hK2 := hK.alloc (.cells #[.string ⟨fs[k].1.toArray⟩, .string ⟨fs[k].2.toArray⟩] 40)
    generalize fs[k].1 = a at *
    generalize fs[k].2 = b at *
    go_wp2
    go_roundw
    case rel => exact ⟨k + 1, by go_num, by omega, HA2, hK2, zG⟩
    case measure => simp [intOf]; omega
   ·have hls2 : Op.bytesLess fs[k].1 n = false := by simpa using hls
    have hR := HF.out k hlt HA.out hls2
    have hN2 := (Bk.new wr #[.string ⟨fs[k].1.toArray⟩, .string ⟨fs[k].2.toArray⟩] 40)
    have hY := hN2.cell
    have hG := zK hY hN2.lt
    clear HF HE hls HA
    generalize fs[k].1 = a at *
    generalize fs[k].2 = b at *
    by_cases he : a = n
    ·have hd : decide (a = n) = true := by simpa using he
     rw [if_pos he] at hR
     subst hR
     clear he
     go_wp2_with fail
     refine wp_region_quiet_below (by kernel_rfl) (by kernel_rfl) ?_
     repeat (go_big_quiet_step ((fail)))
     refine wpQuiet_nil ?_
     intro w3 hw2
     have hb3 : Below _ _ w3 := zh hw2
     clear hw2
     go_wp2
     exact bodyPost_ret (v := .tuple #[.int .i64 (k : Int), .bool true]) (by simp [results, Tryz.results41, go_sem]) rfl ⟨⟨k, rfl, fun i hi => by injection hi⟩, (hb.alloc hz _).trans (hb3.mono (by simp; omega))⟩
    ·have hd : decide (a = n) = false := by simpa using he
     rw [if_neg he] at hR
     subst hR
     clear he
     go_wp2_with fail
     refine wp_region_quiet_below (by kernel_rfl) (by kernel_rfl) ?_
     repeat (go_big_quiet_step ((fail)))
     refine wpQuiet_nil ?_
     intro w3 hw2
     have hb3 : Below _ _ w3 := zh hw2
     clear hw2
     go_wp2
     exact bodyPost_ret (v := .tuple #[.int .i64 (k : Int), .bool false]) (by simp [results, Tryz.results41, go_sem]) rfl ⟨⟨k, rfl, fun i hi => by cases hi⟩, (hb.alloc hz _).trans (hb3.mono (by simp; omega))⟩
  ·have hki : ¬ (k : Int) < fs.length := by omega
   have hR := HE.out k (by omega) HA.out
   subst hR
   have hX := hK.cell
   go_wp2
   exact bodyPost_ret (v := .tuple #[.int .i64 (fs.length : Int), .bool false]) (by simp [results, Tryz.results41, go_sem]) rfl ⟨⟨fs.length, rfl⟩, hb⟩
end Go.Proofs.YtinncdollpajkaaGreat
namespace Go.Proofs.YtinncdollpajkaaGreat
open Go.RowKit
set_option maxRecDepth 100000
attribute [local go_sem high] zu zx zy zO zL zX zA zk zn zo zi zq yR zD yh zC
theorem bM (S : Sto) (n : Bs) (A : Option Addr) (cap : Nat) (w : World) (hs : Sl w A S.fs.length cap 2 (yf S.fs)) (hd : S.dict.length ≤ 1500000) (hl : S.fs.length ≤ 1500000) (hb : ∀ f ∈ S.fs, f.1.length ≤ 1500000 ∧ f.2.length ≤ 1500000) :
    Calls Tryz.prog 12 #[S.V A cap, sv n] w fun e w' => e = yl (S.file n) ∧ Below w.heap.size w w' := by
  have hcap := hs.1
  have hcap2 := hs.2.1
  have cV : Hid (∀ w, Sl w A S.fs.length cap 2 (yf S.fs) → Calls Tryz.prog 18 #[S.V A cap] w fun e w' => e = .returned (.bool S.okB) ∧ Below w.heap.size w w') := fun w h => dF S A cap w h hd hl hb
  have cI : Hid (S.ok → ∀ w, Sl w A S.fs.length cap 2 (yf S.fs) → Calls Tryz.prog 41 #[S.V A cap, sv n] w fun e w' => (∃ x : Nat, e = .returned (.tuple #[.int .i64 (x : Int), .bool (xP S.fs n).isSome]) ∧ ∀ i, xP S.fs n = some i → x = i) ∧ Below w.heap.size w w') := fun h w hs => Yq S n A cap w h hs
  have HSL : Hid (∀ wr, Below w.heap.size w wr → Sl wr A S.fs.length cap 2 (yf S.fs)) := fun wr h => hs.below h
  have HNO : Hid (S.okB = false → S.file n = none) := fun h => Sto.Uj fun h2 => by rw [(Sto.sK S).2 h2] at h; cases h
  have HNF : Hid (xP S.fs n = none → S.file n = none) := fun h => Sto.Zw h
  have HY : Hid (∀ i, S.okB = true → xP S.fs n = some i → ∃ h : i < S.fs.length, S.file n = some S.fs[i].2) := fun i h h2 => ⟨vw h2, Sto.ZE ((Sto.sK S).1 h) h2⟩
  have HOK : Hid (S.okB = true → S.ok) := fun h => (Sto.sK S).1 h
  clear hs hb
  generalize S.file n = R at *
  generalize S.okB = B at *
  generalize S.ok = P at *
  generalize xP S.fs n = F at *
  obtain ⟨o, l, m, dict, fs⟩ := S
  simp only at *
  go_enter Tryz.func12, Tryz.ntmps12
  have hK0 : Bk (w.alloc (.cells #[.int .i64 o, .int .i64 l, .int .i64 m, .string ⟨dict.toArray⟩, .slice A fs.length cap] 27)) w.heap.size 27 #[.int .i64 o, .int .i64 l, .int .i64 m, .string ⟨dict.toArray⟩, .slice A fs.length cap] := tBk
  have g0 : Below w.heap.size w (w.alloc (.cells #[.int .i64 o, .int .i64 l, .int .i64 m, .string ⟨dict.toArray⟩, .slice A fs.length cap] 27)) := zG
  go_upto_region 1 with (fail)
  generalize w.alloc (.cells #[.int .i64 o, .int .i64 l, .int .i64 m, .string ⟨dict.toArray⟩, .slice A fs.length cap] 27) = w0 at *
  have hX0 := hK0.cell
  have hz0 := hK0.lt
  go_wp2_with fail
  refine (cV.out _ (HSL.out _ g0)).mono ?_
  rintro e w1 ⟨rfl, hb1⟩
  have hz1 := hb1.size
  have hK1 := hK0.below hb1 hz0
  have g1 := g0.trans (hb1.mono (by omega))
  have hX1 := hK1.cell
  clear hb1 hK0 g0 hX0 cV
  cases B with
  | false =>
    have h := HNO.out rfl
    subst h
    go_wp2
    exact bodyPost_ret (v := .tuple #[sv [], .bool false]) (by simp [results, Tryz.results12, go_sem]) rfl ⟨rfl, g1⟩
  | true =>
    have hP := HOK.out rfl
    go_wp2_with fail
    refine (cI.out hP _ (HSL.out _ g1)).mono ?_
    rintro e w2 ⟨⟨x, rfl, hx⟩, hb2⟩
    have hK2 := hK1.below hb2 (by omega)
    have g2 := g1.trans (hb2.mono (by omega))
    have hX2 := hK2.cell
    clear hb2 hK1 g1 hX1 cI
    cases F with
    | none =>
      have h := HNF.out rfl
      subst h
      go_wp2
      exact bodyPost_ret (v := .tuple #[sv [], .bool false]) (by simp [results, Tryz.results12, go_sem]) rfl ⟨rfl, g2⟩
    | some i =>
      have hxi := hx i rfl
      subst hxi
      obtain ⟨hi, h⟩ := HY.out x (by first | rfl | trivial) (by first | rfl | trivial)
      have hii : (x : Int) < fs.length := by omega
      obtain ⟨g, off, rfl, hg, c0, c1⟩ := (HSL.out _ g2).fl hi
      clear hx HNO HNF HY HOK
      generalize fs[x].2 = t at *
      subst h
      go_wp2
      exact bodyPost_ret (v := .tuple #[sv t, .bool true]) (by simp [results, Tryz.results12, go_sem]) rfl ⟨rfl, g2⟩
theorem gB (S : Sto) (n : Bs) (A : Option Addr) (cap : Nat) (w : World) (hs : Sl w A S.fs.length cap 2 (yf S.fs)) (hd : S.dict.length ≤ 1500000) (hl : S.fs.length ≤ 1500000) (hb : ∀ f ∈ S.fs, f.1.length ≤ 1500000 ∧ f.2.length ≤ 1500000) :
    Calls Tryz.prog 36 #[S.V A cap, sv n] w fun e w' => e = yl (S.file n) ∧ Below w.heap.size w w' := by
  have hcap := hs.1
  have hcap2 := hs.2.1
  have cV : Hid (∀ w, Sl w A S.fs.length cap 2 (yf S.fs) → Calls Tryz.prog 46 #[S.V A cap] w fun e w' => e = .returned (.bool S.okB) ∧ Below w.heap.size w w') := fun w h => oI S A cap w h hd hl hb
  have cI : Hid (∀ w, Sl w A S.fs.length cap 2 (yf S.fs) → Calls Tryz.prog 69 #[S.V A cap, sv n] w fun e w' => e = .returned (.int .i64 (ixV (xP S.fs n))) ∧ Below w.heap.size w w') := fun w hs => ny S n A cap w hs hl
  have HSL : Hid (∀ wr, Below w.heap.size w wr → Sl wr A S.fs.length cap 2 (yf S.fs)) := fun wr h => hs.below h
  have HNO : Hid (S.okB = false → S.file n = none) := fun h => Sto.Uj fun h2 => by rw [(Sto.sK S).2 h2] at h; cases h
  have HNF : Hid (xP S.fs n = none → S.file n = none) := fun h => Sto.Zw h
  have HY : Hid (∀ i, S.okB = true → xP S.fs n = some i → ∃ h : i < S.fs.length, S.file n = some S.fs[i].2) := fun i h h2 => ⟨vw h2, Sto.ZE ((Sto.sK S).1 h) h2⟩
  have HOK : Hid (S.okB = true → S.ok) := fun h => (Sto.sK S).1 h
  clear hs hb
  generalize S.file n = R at *
  generalize S.okB = B at *
  generalize S.ok = P at *
  generalize xP S.fs n = F at *
  obtain ⟨o, l, m, dict, fs⟩ := S
  simp only at *
  go_enter Tryz.func36, Tryz.ntmps36
  have hK0 : Bk (w.alloc (.cells #[.int .i64 o, .int .i64 l, .int .i64 m, .string ⟨dict.toArray⟩, .slice A fs.length cap] 27)) w.heap.size 27 #[.int .i64 o, .int .i64 l, .int .i64 m, .string ⟨dict.toArray⟩, .slice A fs.length cap] := tBk
  have g0 : Below w.heap.size w (w.alloc (.cells #[.int .i64 o, .int .i64 l, .int .i64 m, .string ⟨dict.toArray⟩, .slice A fs.length cap] 27)) := zG
  go_upto_region 1 with (fail)
  generalize w.alloc (.cells #[.int .i64 o, .int .i64 l, .int .i64 m, .string ⟨dict.toArray⟩, .slice A fs.length cap] 27) = w0 at *
  have hX0 := hK0.cell
  have hz0 := hK0.lt
  go_wp2_with fail
  refine (cI.out _ (HSL.out _ g0)).mono ?_
  rintro e w1 ⟨rfl, hb1⟩
  have hz1 := hb1.size
  have hK1 := hK0.below hb1 hz0
  have g1 := g0.trans (hb1.mono (by omega))
  have hX1 := hK1.cell
  clear hb1 hK0 g0 hX0 cI
  go_wp2_with fail
  refine (cV.out _ (HSL.out _ g1)).mono ?_
  rintro e w2 ⟨rfl, hb2⟩
  have hK2 := hK1.below hb2 (by omega)
  have g2 := g1.trans (hb2.mono (by omega))
  have hX2 := hK2.cell
  clear hb2 hK1 g1 hX1 cV
  cases B with
  | false =>
    have h := HNO.out rfl
    subst h
    go_wp2
    exact bodyPost_ret (v := .tuple #[sv [], .bool false]) (by simp [results, Tryz.results36, go_sem]) rfl ⟨rfl, g2⟩
  | true =>
    cases F with
    | none =>
      have h := HNF.out rfl
      subst h
      unfold ixV
      go_wp2
      exact bodyPost_ret (v := .tuple #[sv [], .bool false]) (by simp [results, Tryz.results36, go_sem]) rfl ⟨rfl, g2⟩
    | some x =>
      obtain ⟨hi, h⟩ := HY.out x (by first | rfl | trivial) (by first | rfl | trivial)
      have hii : (x : Int) < fs.length := by omega
      have hi0 : ¬ (x : Int) < 0 := by omega
      obtain ⟨g, off, rfl, hg, c0, c1⟩ := (HSL.out _ g2).fl hi
      clear HNO HNF HY HOK
      generalize fs[x].2 = t at *
      subst h
      unfold ixV
      go_wp2
      exact bodyPost_ret (v := .tuple #[sv t, .bool true]) (by simp [results, Tryz.results36, go_sem]) rfl ⟨rfl, g2⟩
theorem aQ (o l m : Int) (dict t : Bs) (a b : Int) (w : World) (hdl : dict.length ≤ 9223372036854775807) (htl : t.length ≤ 1500000) :
    Calls Tryz.prog 39 #[.agg #[.int .i64 o, .int .i64 l, .int .i64 m], sv dict, sv t, .int .i64 a, .int .i64 b] w fun e w' => e = yl (rrB o l m dict t a b) ∧ Below w.heap.size w w' := by
  have cC := fun w => uD o l m dict t w hdl htl
  have HN : Hid (cdB o l m dict t = none → rrB o l m dict t a b = none) := fun h => by unfold rrB; rw [h]; rfl
  have HY : Hid (∀ d, cdB o l m dict t = some d → rrB o l m dict t a b = YQ d a b ∧ d.length ≤ 2000) := fun d h => ⟨by unfold rrB; rw [h]; rfl, UD h⟩
  generalize rrB o l m dict t a b = R at *
  generalize cdB o l m dict t = D at *
  go_enter Tryz.func39, Tryz.ntmps39
  have hK0 : Bk (w.alloc (.cells #[.int .i64 o, .int .i64 l, .int .i64 m] 24)) w.heap.size 24 #[.int .i64 o, .int .i64 l, .int .i64 m] := tBk
  have g0 : Below w.heap.size w (w.alloc (.cells #[.int .i64 o, .int .i64 l, .int .i64 m] 24)) := zG
  go_upto_region 1 with (fail)
  generalize w.alloc (.cells #[.int .i64 o, .int .i64 l, .int .i64 m] 24) = w0 at *
  have hX0 := hK0.cell
  have hz0 := hK0.lt
  go_wp2_with fail
  refine (cC _).mono ?_
  rintro e w1 ⟨rfl, hb1⟩
  have g1 := g0.trans (hb1.mono (by omega))
  clear hb1 hK0 g0 hX0 cC
  unfold yl
  cases D with
  | none =>
    have h := HN.out rfl
    subst h
    go_wp2
    exact bodyPost_ret (v := .tuple #[sv [], .bool false]) (by simp [results, Tryz.results39, go_sem]) rfl ⟨rfl, g1⟩
  | some d =>
    obtain ⟨hR, hdl2⟩ := HY.out d rfl
    clear HN HY
    unfold YQ at hR
    by_cases h : 0 ≤ a ∧ a ≤ b ∧ b ≤ d.length
    · rw [if_pos h] at hR
      subst hR
      obtain ⟨h1, h2, h3⟩ := h
      have n1 : ¬ a < 0 := by omega
      have n2 : ¬ b < a := by omega
      have n3 : ¬ (d.length : Int) < b := by omega
      go_wp2
      exact bodyPost_ret (v := .tuple #[sv ((d.drop a.toNat).take (b.toNat - a.toNat)), .bool true]) (by simp [results, Tryz.results39, go_sem]) rfl ⟨rfl, g1⟩
    · rw [if_neg h] at hR
      subst hR
      have h3 : a < 0 ∨ (¬ a < 0 ∧ b < a) ∨ (¬ a < 0 ∧ ¬ b < a ∧ (d.length : Int) < b) := by omega
      clear h
      rcases h3 with h1 | ⟨h1, h2⟩ | ⟨h1, h2, h3⟩
      all_goals
        go_wp2
        exact bodyPost_ret (v := .tuple #[sv [], .bool false]) (by simp [results, Tryz.results39, go_sem]) rfl ⟨rfl, g1⟩
theorem bF (o l m : Int) (dict t : Bs) (a b : Int) (w : World) (hdl : dict.length ≤ 9223372036854775807) (htl : t.length ≤ 1500000) :
    Calls Tryz.prog 40 #[.agg #[.int .i64 o, .int .i64 l, .int .i64 m], sv dict, sv t, .int .i64 a, .int .i64 b] w fun e w' => e = yl (rrB o l m dict t a b) ∧ Below w.heap.size w w' := by
  have cC := fun w => uj o l m dict t w hdl htl
  have HN : Hid (cdB o l m dict t = none → rrB o l m dict t a b = none) := fun h => by unfold rrB; rw [h]; rfl
  have HY : Hid (∀ d, cdB o l m dict t = some d → rrB o l m dict t a b = YQ d a b ∧ d.length ≤ 2000) := fun d h => ⟨by unfold rrB; rw [h]; rfl, UD h⟩
  generalize rrB o l m dict t a b = R at *
  generalize cdB o l m dict t = D at *
  go_enter Tryz.func40, Tryz.ntmps40
  have hK0 : Bk (w.alloc (.cells #[.int .i64 o, .int .i64 l, .int .i64 m] 24)) w.heap.size 24 #[.int .i64 o, .int .i64 l, .int .i64 m] := tBk
  have g0 : Below w.heap.size w (w.alloc (.cells #[.int .i64 o, .int .i64 l, .int .i64 m] 24)) := zG
  go_upto_region 1 with (fail)
  generalize w.alloc (.cells #[.int .i64 o, .int .i64 l, .int .i64 m] 24) = w0 at *
  have hX0 := hK0.cell
  have hz0 := hK0.lt
  go_wp2_with fail
  refine (cC _).mono ?_
  rintro e w1 ⟨rfl, hb1⟩
  have g1 := g0.trans (hb1.mono (by omega))
  clear hb1 hK0 g0 hX0 cC
  unfold yl
  cases D with
  | none =>
    have h := HN.out rfl
    subst h
    go_wp2
    exact bodyPost_ret (v := .tuple #[sv [], .bool false]) (by simp [results, Tryz.results40, go_sem]) rfl ⟨rfl, g1⟩
  | some d =>
    obtain ⟨hR, hdl2⟩ := HY.out d rfl
    clear HN HY
    unfold YQ at hR
    by_cases h : 0 ≤ a ∧ a ≤ b ∧ b ≤ d.length
    · rw [if_pos h] at hR
      subst hR
      obtain ⟨h1, h2, h3⟩ := h
      have n1 : ¬ a < 0 := by omega
      have n2 : ¬ b < a := by omega
      have n3 : ¬ (d.length : Int) < b := by omega
      have d1 : decide (0 ≤ a ∧ a ≤ b) = true := by simp; omega
      have d2 : decide (0 ≤ b ∧ b ≤ (d.length : Int)) = true := by simp; omega
      have n4 : 0 ≤ b := by omega
      go_wp2_with (go_at_call 73; refine (wG _ _ _ _).mono ?_; rintro e w' ⟨rfl, rfl⟩)
      exact bodyPost_ret (v := .tuple #[sv ((d.drop a.toNat).take (b.toNat - a.toNat)), .bool true]) (by simp [results, Tryz.results40, go_sem]) rfl ⟨rfl, g1⟩
    · rw [if_neg h] at hR
      subst hR
      have h3 : ¬ 0 ≤ a ∨ (0 ≤ a ∧ ¬ a ≤ b) ∨ (0 ≤ a ∧ a ≤ b ∧ 0 ≤ b ∧ ¬ b ≤ (d.length : Int)) := by omega
      clear h
      rcases h3 with h1 | ⟨h1, h2⟩ | ⟨h1, h2, h4, h3⟩
      all_goals
        (try have h5 : decide (b ≤ (d.length : Int)) = false := by simpa using h3)
        (try have h6 : decide (a ≤ b) = false := by simpa using h2)
        (try have h7 : decide (0 ≤ a) = false := by simpa using h1)
        go_wp2_with (go_at_call 73; refine (wG _ _ _ _).mono ?_; rintro e w' ⟨rfl, rfl⟩)
        exact bodyPost_ret (v := .tuple #[sv [], .bool false]) (by simp [results, Tryz.results40, go_sem]) rfl ⟨rfl, g1⟩
noncomputable def Sto.rd (S : Sto) (n : Bs) (a b : Int) : Option Bs := (S.file n).bind fun t => rrB S.o S.l S.m S.dict t a b
theorem Sto.ji {S : Sto} {n t : Bs} (hb : ∀ f ∈ S.fs, f.1.length ≤ 1500000 ∧ f.2.length ≤ 1500000) (h : S.file n = some t) : t.length ≤ 1500000 := by
  unfold Sto.file at h
  split at h
  · cases hi : xP S.fs n with
    | none => rw [hi] at h; cases h
    | some i =>
      rw [hi] at h
      have hlt := vw hi
      rw [Option.bind_some, List.getElem?_eq_getElem hlt] at h
      injection h with h
      subst h
      exact (hb _ (List.getElem_mem hlt)).2
  · cases h
theorem YL (S : Sto) (n : Bs) (a b : Int) (A : Option Addr) (cap : Nat) (w : World) (hs : Sl w A S.fs.length cap 2 (yf S.fs)) (hd : S.dict.length ≤ 1500000) (hl : S.fs.length ≤ 1500000) (hb : ∀ f ∈ S.fs, f.1.length ≤ 1500000 ∧ f.2.length ≤ 1500000) :
    Calls Tryz.prog 10 #[S.V A cap, sv n, .int .i64 a, .int .i64 b] w fun e w' => e = yl (S.rd n a b) ∧ Below w.heap.size w w' := by
  have cF : Hid (∀ w, Sl w A S.fs.length cap 2 (yf S.fs) → Calls Tryz.prog 12 #[S.V A cap, sv n] w fun e w' => e = yl (S.file n) ∧ Below w.heap.size w w') := fun w h => bM S n A cap w h hd hl hb
  have HSL : Hid (∀ wr, Below w.heap.size w wr → Sl wr A S.fs.length cap 2 (yf S.fs)) := fun wr h => hs.below h
  have HN : Hid (S.file n = none → S.rd n a b = none) := fun h => by unfold Sto.rd; rw [h]; rfl
  have HY : Hid (∀ t, S.file n = some t → S.rd n a b = rrB S.o S.l S.m S.dict t a b ∧ t.length ≤ 1500000) := fun t h => ⟨by unfold Sto.rd; rw [h]; rfl, Sto.ji hb h⟩
  clear hs hb
  generalize S.rd n a b = R at *
  generalize S.file n = F at *
  obtain ⟨o, l, m, dict, fs⟩ := S
  simp only at *
  go_enter Tryz.func10, Tryz.ntmps10
  have hK0 : Bk (w.alloc (.cells #[.int .i64 o, .int .i64 l, .int .i64 m, .string ⟨dict.toArray⟩, .slice A fs.length cap] 27)) w.heap.size 27 #[.int .i64 o, .int .i64 l, .int .i64 m, .string ⟨dict.toArray⟩, .slice A fs.length cap] := tBk
  have g0 : Below w.heap.size w (w.alloc (.cells #[.int .i64 o, .int .i64 l, .int .i64 m, .string ⟨dict.toArray⟩, .slice A fs.length cap] 27)) := zG
  go_upto_region 1 with (fail)
  generalize w.alloc (.cells #[.int .i64 o, .int .i64 l, .int .i64 m, .string ⟨dict.toArray⟩, .slice A fs.length cap] 27) = w0 at *
  have hX0 := hK0.cell
  have hz0 := hK0.lt
  go_wp2_with fail
  refine (cF.out _ (HSL.out _ g0)).mono ?_
  rintro e w1 ⟨rfl, hb1⟩
  have hK1 := hK0.below hb1 hz0
  have hz1 := hb1.size
  have g1 := g0.trans (hb1.mono (by omega))
  have hX1 := hK1.cell
  clear hb1 hK0 g0 hX0 cF
  unfold yl
  cases F with
  | none =>
    have h := HN.out rfl
    subst h
    go_wp2
    exact bodyPost_ret (v := .tuple #[sv [], .bool false]) (by simp [results, Tryz.results10, go_sem]) rfl ⟨rfl, g1⟩
  | some t =>
    obtain ⟨h, htl⟩ := HY.out t rfl
    have cR := fun w => aQ o l m dict t a b w (by omega) htl
    rw [← h] at cR
    clear HN HY h
    go_wp2_with fail
    refine (cR _).mono ?_
    rintro e w2 ⟨rfl, hb2⟩
    have g2 := g1.trans (hb2.mono (by omega))
    unfold yl
    go_wp2
    exact bodyPost_ret (v := .tuple #[sv (R.getD []), .bool R.isSome]) (by simp [results, Tryz.results10, go_sem]) rfl ⟨rfl, g2⟩
theorem Zc (S : Sto) (n : Bs) (a b : Int) (A : Option Addr) (cap : Nat) (w : World) (hs : Sl w A S.fs.length cap 2 (yf S.fs)) (hd : S.dict.length ≤ 1500000) (hl : S.fs.length ≤ 1500000) (hb : ∀ f ∈ S.fs, f.1.length ≤ 1500000 ∧ f.2.length ≤ 1500000) :
    Calls Tryz.prog 11 #[S.V A cap, sv n, .int .i64 a, .int .i64 b] w fun e w' => e = yl (S.rd n a b) ∧ Below w.heap.size w w' := by
  have cF : Hid (∀ w, Sl w A S.fs.length cap 2 (yf S.fs) → Calls Tryz.prog 36 #[S.V A cap, sv n] w fun e w' => e = yl (S.file n) ∧ Below w.heap.size w w') := fun w h => gB S n A cap w h hd hl hb
  have HSL : Hid (∀ wr, Below w.heap.size w wr → Sl wr A S.fs.length cap 2 (yf S.fs)) := fun wr h => hs.below h
  have HN : Hid (S.file n = none → S.rd n a b = none) := fun h => by unfold Sto.rd; rw [h]; rfl
  have HY : Hid (∀ t, S.file n = some t → S.rd n a b = rrB S.o S.l S.m S.dict t a b ∧ t.length ≤ 1500000) := fun t h => ⟨by unfold Sto.rd; rw [h]; rfl, Sto.ji hb h⟩
  clear hs hb
  generalize S.rd n a b = R at *
  generalize S.file n = F at *
  obtain ⟨o, l, m, dict, fs⟩ := S
  simp only at *
  go_enter Tryz.func11, Tryz.ntmps11
  have hK0 : Bk (w.alloc (.cells #[.int .i64 o, .int .i64 l, .int .i64 m, .string ⟨dict.toArray⟩, .slice A fs.length cap] 27)) w.heap.size 27 #[.int .i64 o, .int .i64 l, .int .i64 m, .string ⟨dict.toArray⟩, .slice A fs.length cap] := tBk
  have g0 : Below w.heap.size w (w.alloc (.cells #[.int .i64 o, .int .i64 l, .int .i64 m, .string ⟨dict.toArray⟩, .slice A fs.length cap] 27)) := zG
  go_upto_region 1 with (fail)
  generalize w.alloc (.cells #[.int .i64 o, .int .i64 l, .int .i64 m, .string ⟨dict.toArray⟩, .slice A fs.length cap] 27) = w0 at *
  have hX0 := hK0.cell
  have hz0 := hK0.lt
  go_wp2_with fail
  refine (cF.out _ (HSL.out _ g0)).mono ?_
  rintro e w1 ⟨rfl, hb1⟩
  have hK1 := hK0.below hb1 hz0
  have hz1 := hb1.size
  have g1 := g0.trans (hb1.mono (by omega))
  have hX1 := hK1.cell
  clear hb1 hK0 g0 hX0 cF
  unfold yl
  cases F with
  | none =>
    have h := HN.out rfl
    subst h
    go_wp2
    exact bodyPost_ret (v := .tuple #[sv [], .bool false]) (by simp [results, Tryz.results11, go_sem]) rfl ⟨rfl, g1⟩
  | some t =>
    obtain ⟨h, htl⟩ := HY.out t rfl
    have cR := fun w => bF o l m dict t a b w (by omega) htl
    rw [← h] at cR
    clear HN HY h
    go_wp2_with fail
    refine (cR _).mono ?_
    rintro e w2 ⟨rfl, hb2⟩
    have g2 := g1.trans (hb2.mono (by omega))
    unfold yl
    go_wp2
    exact bodyPost_ret (v := .tuple #[sv (R.getD []), .bool R.isSome]) (by simp [results, Tryz.results11, go_sem]) rfl ⟨rfl, g2⟩
end Go.Proofs.YtinncdollpajkaaGreat
