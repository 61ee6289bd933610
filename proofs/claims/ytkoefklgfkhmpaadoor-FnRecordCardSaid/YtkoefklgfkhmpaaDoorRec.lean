/- Plain: records of operations read back. No program. -/
import Derived.Test.YtkoefklgfkhmpaaDoorNum
namespace Go.Proofs.YtkoefklgfkhmpaaDoor
def recOf (l : Bs) : Bs := two l.length ++ l ++ two (sumOf l)
theorem two_len (n : Int) : (two n).length = 2 := rfl
theorem two_bytes (l : Bs) (a : Nat) (h : a + 1 < l.length) : two (numAt l a) = (l.drop a).take 2 := by
  have e1 := byteAt_nat l a (by omega)
  have e2 := byteAt_nat l (a + 1) h
  have h1 := l[a].toNat_lt
  have h2 := l[a + 1].toNat_lt
  have hd : (l.drop a).take 2 = [l[a], l[a + 1]] := by
    rw [List.drop_eq_getElem_cons (by omega), List.drop_eq_getElem_cons h]; rfl
  rw [hd]
  unfold two numAt
  rw [e1, show ((a : Int) + 1) = ((a + 1 : Nat) : Int) by omega, e2]
  have k1 : (((l[a].toNat : Int) * 256 + (l[a + 1].toNat : Int)) / 256 % 256).toNat = l[a].toNat := by omega
  have k2 : (((l[a].toNat : Int) * 256 + (l[a + 1].toNat : Int)) % 256).toNat = l[a + 1].toNat := by omega
  rw [k1, k2]
  simp
theorem two_inj {m n : Int} (h0 : 0 ≤ m) (h1 : m < 65536) (h2 : 0 ≤ n) (h3 : n < 65536) (h : two m = two n) : m = n := by
  unfold two at h
  injection h with h4 h5
  injection h5 with h5 _
  have e1 := congrArg UInt8.toNat h4
  have e2 := congrArg UInt8.toNat h5
  rw [UInt8.toNat_ofNat', UInt8.toNat_ofNat'] at e1 e2
  omega
theorem numAt_slice (l : Bs) (a : Nat) (h : a + 1 < l.length) : numAt ((l.drop a).take 2) 0 = numAt l a := by
  have e1 := byteAt_nat l a (by omega)
  have e2 := byteAt_nat l (a + 1) h
  have hd : (l.drop a).take 2 = [l[a], l[a + 1]] := by
    rw [List.drop_eq_getElem_cons (by omega), List.drop_eq_getElem_cons h]; rfl
  unfold numAt
  rw [hd, e1, show ((a : Int) + 1) = ((a + 1 : Nat) : Int) by omega, e2]
  simp [byteAt]
/-- The bytes of an operation in a log. -/
def recT (l : Bs) (a : Nat) : Bs := (l.drop (a + 2)).take (numAt l a).toNat
theorem recT_len (l : Bs) (a : Nat) (h : a + 4 + (numAt l a).toNat ≤ l.length) : (recT l a).length = (numAt l a).toNat := by
  unfold recT; simp; omega
theorem rec_test (l : Bs) (a : Nat) (h : a + 4 + (numAt l a).toNat ≤ l.length) : recOf (recT l a) = (l.drop a).take (4 + (numAt l a).toNat) ↔ sumOf (recT l a) = numAt l ((a : Int) + 2 + numAt l a) := by
  have hn := numAt_bd l a
  have hl := recT_len l a h
  have e0 : (l.drop a).take (4 + (numAt l a).toNat) = (l.drop a).take 2 ++ recT l a ++ (l.drop (a + 2 + (numAt l a).toNat)).take 2 := by
    unfold recT
    generalize (numAt l a).toNat = n at *
    have h1 : (l.drop a).take (4 + n) = (l.drop a).take 2 ++ ((l.drop a).drop 2).take (2 + n) := by
      rw [show 4 + n = 2 + (2 + n) by omega, List.take_add]
    have h2 : ((l.drop a).drop 2).take (2 + n) = ((l.drop a).drop 2).take n ++ (((l.drop a).drop 2).drop n).take 2 := by
      rw [show 2 + n = n + 2 by omega, List.take_add]
    rw [h1, h2, List.drop_drop, List.drop_drop, List.append_assoc]
  have e1 : two ((recT l a).length : Int) = (l.drop a).take 2 := by
    rw [hl, show (((numAt l a).toNat : Nat) : Int) = numAt l a by omega]
    exact two_bytes l a (by omega)
  have e2 := two_bytes l (a + 2 + (numAt l a).toNat) (by omega)
  have e3 : ((a + 2 + (numAt l a).toNat : Nat) : Int) = (a : Int) + 2 + numAt l a := by omega
  rw [e3] at e2
  rw [e0, ← e2]
  unfold recOf
  rw [e1]
  have hs := sumOf_bd (recT l a)
  have hm := numAt_bd l ((a : Int) + 2 + numAt l a)
  constructor
  · intro he
    have := List.append_cancel_left he
    exact two_inj (by omega) (by omega) (by omega) (by omega) this
  · intro he; rw [he]
/-- An operation read from its record in a log, and where that ends. -/
def readOpR (l : Bs) (a : Int) : Option (OpR × Int) :=
  if 0 ≤ a ∧ a + 4 ≤ l.length ∧ a + 4 + numAt l a ≤ l.length then
    match parseOpR (recT l a.toNat) with
    | some x => if sumOf (recT l a.toNat) = numAt l (a + 2 + numAt l a) then some (x, a + 4 + numAt l a) else none
    | none => none
  else none
end Go.Proofs.YtkoefklgfkhmpaaDoor
