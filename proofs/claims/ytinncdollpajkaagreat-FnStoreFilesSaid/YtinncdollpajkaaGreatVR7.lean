import Derived.Test.YtinncdollpajkaaGreatVR2
set_option linter.unusedVariables false
set_option linter.unusedSimpArgs false
set_option maxHeartbeats 8000000
namespace Go.Proofs.YtinncdollpajkaaGreat
open Go.RowKit
set_option maxRecDepth 100000
attribute [local go_sem high] zA zu zy zO zK zX zx zk zn zq zi zo yQ zC yf zD
attribute [local go_sem high] qx qB
def ixV (o : Option Nat) : Int := match o with
 | some i => (i : Int)
 | none => -1
theorem gu (S : Sto) (n : Bs) (A : Option Addr) (cap : Nat) (w : World) (hs : Sl w A S.fs.length cap 2 (yj S.fs)) (hl : S.fs.length ≤ 1500000) :
  Calls Tryz.prog 69 #[S.V A cap, sv n] w fun e w' => e = .returned (.int .i64 (ixV (wo S.fs n))) ∧ Below w.heap.size w w' := by
 have hcap := hs.1
 have hcap2 := hs.2.1
 have HSL : Hid (∀ wr, Below w.heap.size w wr → Sl wr A S.fs.length cap 2 (yj S.fs)) := fun wr h => hs.below h
 have HF : Hid (∀ (k : Nat) (hk : k < S.fs.length), (∀ (j : Nat) (h : j < S.fs.length), j < k → S.fs[j].1 ≠ n) → S.fs[k].1 = n → ixV (wo S.fs n) = (k : Int)) := fun k hk hA he => by rw [ik hk he (fun j hj => hA j (by omega) hj)]; rfl
 have HE : Hid ((∀ (j : Nat) (h : j < S.fs.length), S.fs[j].1 ≠ n) → ixV (wo S.fs n) = -1) := fun h => by rw [iw h]; rfl
 clear hs
 generalize ixV (wo S.fs n) = R at *
 obtain ⟨o, l, m, dict, fs⟩ := S
 simp only at *
 go_enter Tryz.func69, Tryz.ntmps69
 have hK0 : Bk (w.alloc (.cells #[.int .i64 o, .int .i64 l, .int .i64 m, .string ⟨dict.toArray⟩, .slice A fs.length cap] 27)) w.heap.size 27 #[.int .i64 o, .int .i64 l, .int .i64 m, .string ⟨dict.toArray⟩, .slice A fs.length cap] := tBk
 have g0 : Below w.heap.size w (w.alloc (.cells #[.int .i64 o, .int .i64 l, .int .i64 m, .string ⟨dict.toArray⟩, .slice A fs.length cap] 27)) := zH
 go_upto_region 1 with (fail)
 generalize w.alloc (.cells #[.int .i64 o, .int .i64 l, .int .i64 m, .string ⟨dict.toArray⟩, .slice A fs.length cap] 27) = w0 at *
 have hX0 := hK0.cell
 go_wp2
 go_loopw [5] (fun i wr => wr = w0 ∧ ∃ k : Nat, i = .int .i64 (k : Int) ∧ k ≤ fs.length ∧ Hid (∀ (j : Nat) (h : j < fs.length), j < k → fs[j].1 ≠ n)) (fun i _ => fs.length - (intOf i).toNat)
 case atStart => exact ⟨rfl, 0, rfl, by omega, fun j h hj => by omega⟩
 case round =>
  obtain ⟨rfl, k, rfl, hk, HA⟩ := hrel
  by_cases hlt : k < fs.length
  ·have hki : (k : Int) < fs.length := by omega
   obtain ⟨g, off, rfl, hg, c0, c1⟩ := (HSL.out _ g0).fl hlt
   by_cases he : fs[k].1 = n
   ·have hR := HF.out k hlt HA.out he
    subst hR
    have hd : decide (fs[k].1 = n) = true := by simpa using he
    clear he HF HE
    generalize fs[k].1 = a at *
    go_wp2
    go_ret
    exact ⟨rfl, g0⟩
   ·have HA2 := Go.Lib.hid (Pq hlt HA.out he)
    have hd : decide (fs[k].1 = n) = false := by simpa using he
    clear he
    generalize fs[k].1 = a at *
    go_wp2
    go_roundw
    case rel => exact ⟨trivial, k + 1, by go_num, by omega, HA2⟩
    case measure => simp [intOf]; omega
  ·have hki : ¬ (k : Int) < fs.length := by omega
   have hR := HE.out (fun j h => HA.out j h (by omega))
   subst hR
   go_wp2
   go_ret
   exact ⟨rfl, g0⟩
theorem Yz (S : Sto) (n : Bs) (A : Option Addr) (cap : Nat) (w : World) (hok : S.ok) (hs : Sl w A S.fs.length cap 2 (yj S.fs)) :
  Calls Tryz.prog 41 #[S.V A cap, sv n] w fun e w' => (∃ x : Nat, e = .returned (.tuple #[.int .i64 (x : Int), .bool (wo S.fs n).isSome]) ∧ ∀ i, wo S.fs n = some i → x = i) ∧ Below w.heap.size w w' := by
 have hcap := hs.1
 have hcap2 := hs.2.1
 have hl := hok.2.1
 have HSL : Hid (∀ wr, Below w.heap.size w wr → Sl wr A S.fs.length cap 2 (yj S.fs)) := fun wr h => hs.below h
 have HF : Hid (∀ (k : Nat) (hk : k < S.fs.length), (∀ (j : Nat) (h : j < S.fs.length), j < k → Op.bytesLess S.fs[j].1 n = true) → Op.bytesLess S.fs[k].1 n = false → wo S.fs n = if S.fs[k].1 = n then some k else none) := fun k hk hA h => U6 hok hk hA h
 have HE : Hid (∀ k, S.fs.length ≤ k → (∀ (j : Nat) (h : j < S.fs.length), j < k → Op.bytesLess S.fs[j].1 n = true) → wo S.fs n = none) := fun k hk hA => QJ hk hA
 clear hs hok
 generalize wo S.fs n = R at *
 obtain ⟨o, l, m, dict, fs⟩ := S
 simp only at *
 go_enter Tryz.func41, Tryz.ntmps41
 have hK0 : Bk (w.alloc (.cells #[.int .i64 o, .int .i64 l, .int .i64 m, .string ⟨dict.toArray⟩, .slice A fs.length cap] 27)) w.heap.size 27 #[.int .i64 o, .int .i64 l, .int .i64 m, .string ⟨dict.toArray⟩, .slice A fs.length cap] := tBk
 have g0 : Below w.heap.size w (w.alloc (.cells #[.int .i64 o, .int .i64 l, .int .i64 m, .string ⟨dict.toArray⟩, .slice A fs.length cap] 27)) := zH
 go_upto_region 1 with (fail)
 generalize w.alloc (.cells #[.int .i64 o, .int .i64 l, .int .i64 m, .string ⟨dict.toArray⟩, .slice A fs.length cap] 27) = w0 at *
 have hX0 := hK0.cell
 go_wp2
 go_loopw [11] (fun i wr => ∃ k : Nat, i = .int .i64 (k : Int) ∧ k ≤ fs.length ∧ Hid (∀ (j : Nat) (h : j < fs.length), j < k → Op.bytesLess fs[j].1 n = true) ∧ Bk wr w.heap.size 27 #[.int .i64 o, .int .i64 l, .int .i64 m, .string ⟨dict.toArray⟩, .slice A fs.length cap] ∧ Below w.heap.size w wr) (fun i _ => fs.length - (intOf i).toNat)
 case atStart => exact ⟨0, rfl, by omega, fun j h hj => by omega, hK0, g0⟩
 case round =>
  obtain ⟨k, rfl, hk, HA, hK, hb⟩ := hrel
  clear hK0 g0 hX0
  have hz := hb.size
  by_cases hlt : k < fs.length
  ·have hki : (k : Int) < fs.length := by omega
   obtain ⟨g, off, rfl, hg, c0, c1⟩ := (HSL.out _ hb).fl hlt
   by_cases hls : Op.bytesLess fs[k].1 n = true
   ·have HA2 := Go.Lib.hid (TY hlt HA.out hls)
    have hK2 := hK.alloc (.cells #[.string ⟨fs[k].1.toArray⟩, .string ⟨fs[k].2.toArray⟩] 40)
    generalize fs[k].1 = a at *
    generalize fs[k].2 = b at *
    go_wp2
    go_roundw
    case rel => exact ⟨k + 1, by go_num, by omega, HA2, hK2, zH⟩
    case measure => simp [intOf]; omega
   ·have hls2 : Op.bytesLess fs[k].1 n = false := by simpa using hls
    have hR := HF.out k hlt HA.out hls2
    have hN2 := (Bk.new wr #[.string ⟨fs[k].1.toArray⟩, .string ⟨fs[k].2.toArray⟩] 40)
    have hY := hN2.cell
    have hG := zG hY hN2.lt
    clear HF HE hls HA
    generalize fs[k].1 = a at *
    generalize fs[k].2 = b at *
    by_cases he : a = n
    ·have hd : decide (a = n) = true := by simpa using he
     rw [if_pos he] at hR
     subst hR
     clear he
     go_wp2_with fail
     refine wp_region_quiet_below (by kernel_rfl) (by kernel_rfl) ?_
     repeat (go_big_quiet_step ((fail)))
     refine wpQuiet_nil ?_
     intro w3 hw2
     have hb3 : Below _ _ w3 := zh hw2
     clear hw2
     go_wp2
     exact bodyPost_ret (v := .tuple #[.int .i64 (k : Int), .bool true]) (by simp [results, Tryz.results41, go_sem]) rfl ⟨⟨k, rfl, fun i hi => by injection hi⟩, (hb.alloc hz _).trans (hb3.mono (by simp; omega))⟩
    ·have hd : decide (a = n) = false := by simpa using he
     rw [if_neg he] at hR
     subst hR
     clear he
     go_wp2_with fail
     refine wp_region_quiet_below (by kernel_rfl) (by kernel_rfl) ?_
     repeat (go_big_quiet_step ((fail)))
     refine wpQuiet_nil ?_
     intro w3 hw2
     have hb3 : Below _ _ w3 := zh hw2
     clear hw2
     go_wp2
     exact bodyPost_ret (v := .tuple #[.int .i64 (k : Int), .bool false]) (by simp [results, Tryz.results41, go_sem]) rfl ⟨⟨k, rfl, fun i hi => by cases hi⟩, (hb.alloc hz _).trans (hb3.mono (by simp; omega))⟩
  ·have hki : ¬ (k : Int) < fs.length := by omega
   have hR := HE.out k (by omega) HA.out
   subst hR
   have hX := hK.cell
   go_wp2
   exact bodyPost_ret (v := .tuple #[.int .i64 (fs.length : Int), .bool false]) (by simp [results, Tryz.results41, go_sem]) rfl ⟨⟨fs.length, rfl⟩, hb⟩
end Go.Proofs.YtinncdollpajkaaGreat
namespace Go.Proofs.YtinncdollpajkaaGreat
open Go.RowKit
set_option maxRecDepth 100000
attribute [local go_sem high] zA zu zy zO zK zX zx zk zn zq zi zo yQ zC yf zD
theorem VH (S : Sto) (n : Bs) (A : Option Addr) (cap : Nat) (w : World) (hs : Sl w A S.fs.length cap 2 (yj S.fs)) (hd : S.dict.length ≤ 1500000) (hl : S.fs.length ≤ 1500000) (hb : ∀ f ∈ S.fs, f.1.length ≤ 1500000 ∧ f.2.length ≤ 1500000) :
    Calls Tryz.prog 12 #[S.V A cap, sv n] w fun e w' => e = yZ (S.file n) ∧ Below w.heap.size w w' := by
  have hcap := hs.1
  have hcap2 := hs.2.1
  have cV : Hid (∀ w, Sl w A S.fs.length cap 2 (yj S.fs) → Calls Tryz.prog 18 #[S.V A cap] w fun e w' => e = .returned (.bool S.okB) ∧ Below w.heap.size w w') := fun w h => uD S A cap w h hd hl hb
  have cI : Hid (S.ok → ∀ w, Sl w A S.fs.length cap 2 (yj S.fs) → Calls Tryz.prog 41 #[S.V A cap, sv n] w fun e w' => (∃ x : Nat, e = .returned (.tuple #[.int .i64 (x : Int), .bool (wo S.fs n).isSome]) ∧ ∀ i, wo S.fs n = some i → x = i) ∧ Below w.heap.size w w') := fun h w hs => Yz S n A cap w h hs
  have HSL : Hid (∀ wr, Below w.heap.size w wr → Sl wr A S.fs.length cap 2 (yj S.fs)) := fun wr h => hs.below h
  have HNO : Hid (S.okB = false → S.file n = none) := fun h => Sto.PO fun h2 => by rw [(Sto.ug S).2 h2] at h; cases h
  have HNF : Hid (wo S.fs n = none → S.file n = none) := fun h => Sto.TV h
  have HY : Hid (∀ i, S.okB = true → wo S.fs n = some i → ∃ h : i < S.fs.length, S.file n = some S.fs[i].2) := fun i h h2 => ⟨ou h2, Sto.Zp ((Sto.ug S).1 h) h2⟩
  have HOK : Hid (S.okB = true → S.ok) := fun h => (Sto.ug S).1 h
  clear hs hb
  generalize S.file n = R at *
  generalize S.okB = B at *
  generalize S.ok = P at *
  generalize wo S.fs n = F at *
  obtain ⟨o, l, m, dict, fs⟩ := S
  simp only at *
  go_enter Tryz.func12, Tryz.ntmps12
  have hK0 : Bk (w.alloc (.cells #[.int .i64 o, .int .i64 l, .int .i64 m, .string ⟨dict.toArray⟩, .slice A fs.length cap] 27)) w.heap.size 27 #[.int .i64 o, .int .i64 l, .int .i64 m, .string ⟨dict.toArray⟩, .slice A fs.length cap] := tBk
  have g0 : Below w.heap.size w (w.alloc (.cells #[.int .i64 o, .int .i64 l, .int .i64 m, .string ⟨dict.toArray⟩, .slice A fs.length cap] 27)) := zH
  go_upto_region 1 with (fail)
  generalize w.alloc (.cells #[.int .i64 o, .int .i64 l, .int .i64 m, .string ⟨dict.toArray⟩, .slice A fs.length cap] 27) = w0 at *
  have hX0 := hK0.cell
  have hz0 := hK0.lt
  go_wp2_with fail
  refine (cV.out _ (HSL.out _ g0)).mono ?_
  rintro e w1 ⟨rfl, hb1⟩
  have hz1 := hb1.size
  have hK1 := hK0.below hb1 hz0
  have g1 := g0.trans (hb1.mono (by omega))
  have hX1 := hK1.cell
  clear hb1 hK0 g0 hX0 cV
  cases B with
  | false =>
    have h := HNO.out rfl
    subst h
    go_wp2
    exact bodyPost_ret (v := .tuple #[sv [], .bool false]) (by simp [results, Tryz.results12, go_sem]) rfl ⟨rfl, g1⟩
  | true =>
    have hP := HOK.out rfl
    go_wp2_with fail
    refine (cI.out hP _ (HSL.out _ g1)).mono ?_
    rintro e w2 ⟨⟨x, rfl, hx⟩, hb2⟩
    have hK2 := hK1.below hb2 (by omega)
    have g2 := g1.trans (hb2.mono (by omega))
    have hX2 := hK2.cell
    clear hb2 hK1 g1 hX1 cI
    cases F with
    | none =>
      have h := HNF.out rfl
      subst h
      go_wp2
      exact bodyPost_ret (v := .tuple #[sv [], .bool false]) (by simp [results, Tryz.results12, go_sem]) rfl ⟨rfl, g2⟩
    | some i =>
      have hxi := hx i rfl
      subst hxi
      obtain ⟨hi, h⟩ := HY.out x (by first | rfl | trivial) (by first | rfl | trivial)
      have hii : (x : Int) < fs.length := by omega
      obtain ⟨g, off, rfl, hg, c0, c1⟩ := (HSL.out _ g2).fl hi
      clear hx HNO HNF HY HOK
      generalize fs[x].2 = t at *
      subst h
      go_wp2
      exact bodyPost_ret (v := .tuple #[sv t, .bool true]) (by simp [results, Tryz.results12, go_sem]) rfl ⟨rfl, g2⟩
theorem aZ (S : Sto) (A : Option Addr) (cap : Nat) (w : World) (hs : Sl w A S.fs.length cap 2 (yj S.fs)) (hd : S.dict.length ≤ 1500000) (hl : S.fs.length ≤ 1500000) (hb : ∀ f ∈ S.fs, f.1.length ≤ 1500000 ∧ f.2.length ≤ 1500000) :
    Calls Tryz.prog 21 #[S.V A cap] w fun e w' => e = .returned (.int .i64 S.size) ∧ Below w.heap.size w w' := by
  have hcap := hs.1
  have hcap2 := hs.2.1
  have cV : Hid (∀ w, Sl w A S.fs.length cap 2 (yj S.fs) → Calls Tryz.prog 18 #[S.V A cap] w fun e w' => e = .returned (.bool S.okB) ∧ Below w.heap.size w w') := fun w h => uD S A cap w h hd hl hb
  have HSL : Hid (∀ wr, Below w.heap.size w wr → Sl wr A S.fs.length cap 2 (yj S.fs)) := fun wr h => hs.below h
  have HNO : Hid (S.okB = false → S.size = -1) := fun h => Sto.Po fun h2 => by rw [(Sto.ug S).2 h2] at h; cases h
  have HY : Hid (S.okB = true → S.size = fsz S.fs ∧ S.fs.length ≤ 6) := fun h => ⟨Sto.Xo ((Sto.ug S).1 h), ((Sto.ug S).1 h).2.1⟩
  have HB := Go.Lib.hid hb
  clear hs hb
  generalize S.size = R at *
  generalize S.okB = B at *
  obtain ⟨o, l, m, dict, fs⟩ := S
  simp only at *
  go_enter Tryz.func21, Tryz.ntmps21
  have hK0 : Bk (w.alloc (.cells #[.int .i64 o, .int .i64 l, .int .i64 m, .string ⟨dict.toArray⟩, .slice A fs.length cap] 27)) w.heap.size 27 #[.int .i64 o, .int .i64 l, .int .i64 m, .string ⟨dict.toArray⟩, .slice A fs.length cap] := tBk
  have g0 : Below w.heap.size w (w.alloc (.cells #[.int .i64 o, .int .i64 l, .int .i64 m, .string ⟨dict.toArray⟩, .slice A fs.length cap] 27)) := zH
  go_upto_region 1 with (fail)
  generalize w.alloc (.cells #[.int .i64 o, .int .i64 l, .int .i64 m, .string ⟨dict.toArray⟩, .slice A fs.length cap] 27) = w0 at *
  have hX0 := hK0.cell
  have hz0 := hK0.lt
  go_wp2_with fail
  refine (cV.out _ (HSL.out _ g0)).mono ?_
  rintro e w1 ⟨rfl, hb1⟩
  have hz1 := hb1.size
  have hK1 := hK0.below hb1 hz0
  have g1 := g0.trans (hb1.mono (by omega))
  have hX1 := hK1.cell
  clear hb1 hK0 g0 hX0 cV
  cases B with
  | false =>
    have h := HNO.out rfl
    subst h
    go_wp2
    go_ret
    exact ⟨rfl, g1⟩
  | true =>
    obtain ⟨h, h6⟩ := HY.out rfl
    subst h
    clear HNO HY
    go_wp2
    go_loopw [3, 12] (fun s i wr => ∃ k : Nat, s = .int .i64 (fsz (fs.take k)) ∧ i = .int .i64 (k : Int) ∧ k ≤ fs.length ∧ Bk wr w.heap.size 27 #[.int .i64 o, .int .i64 l, .int .i64 m, .string ⟨dict.toArray⟩, .slice A fs.length cap] ∧ Below w.heap.size w wr) (fun _ i _ => fs.length - (intOf i).toNat)
    case atStart => exact ⟨0, rfl, rfl, by omega, hK1, g1⟩
    case round =>
      obtain ⟨k, rfl, rfl, hk, hK, hb⟩ := hrel
      clear hK1 g1 hX1
      have hz := hb.size
      have hX := hK.cell
      have hsz := Uf HB.out k
      obtain ⟨hs1, hs2⟩ := hsz
      have hs3 : fsz (fs.take k) ≤ 9000000 := by omega
      clear hs2
      by_cases hlt : k < fs.length
      · have hki : (k : Int) < fs.length := by omega
        obtain ⟨g, off, rfl, hg, c0, c1⟩ := (HSL.out _ hb).fl hlt
        have hbk := (HB.out fs[k] (List.getElem_mem hlt)).2
        have HS2 : Hid (fsz (fs.take (k + 1)) = fsz (fs.take k) + fs[k].2.length) := by show _ = _; rw [List.take_succ_eq_append_getElem hlt, dL]
        have hK2 := hK.alloc (.cells #[.string ⟨fs[k].1.toArray⟩, .string ⟨fs[k].2.toArray⟩] 40)
        generalize fs[k].1 = a at *
        generalize fs[k].2 = b at *
        generalize fsz (fs.take k) = Z at *
        go_wp2
        go_roundw
        case rel => exact ⟨k + 1, by rw [HS2.out], by go_num, by omega, hK2, zH⟩
        case measure => simp [intOf]; omega
      · have hki : ¬ (k : Int) < fs.length := by omega
        have HE : Hid (fsz (fs.take k) = fsz fs) := by show _ = _; rw [List.take_of_length_le (by omega)]
        go_wp2
        go_ret
        exact ⟨yG HE.out, hb⟩
end Go.Proofs.YtinncdollpajkaaGreat
