/- Plain words for bytes and strings, and rules of the walk in their spelling. No function of the program. -/
import Derived.Test.YtgcjfddkgbigoaaRows
import Derived.WalkKit
import Derived.WalkSpells
import Derived.WalkLawsBesides
import Derived.Deep.QuietTactic
import Derived.BigQuiet
import Derived.IntWalk
import Derived.Lib.TrimByte
import Derived.Laws.BitsAllLaws
import Derived.Laws.BitsLemmas
import Derived.Laws.IdiomStrings
import Derived.Lib.Hide
import Derived.RegionTactic
import Derived.Lib.QuietBelow
namespace Go.Proofs.Ytgcjfddkgbigoaa
open Go.RowKit

/-- Byte i of a string, as an int. -/
def byteAt (l : List UInt8) (i : Int) : Int := ((l[i.toNat]?.getD 0).toNat : Int)

theorem byteAt_nonneg (l : List UInt8) (i : Int) : 0 ≤ byteAt l i := by unfold byteAt; omega
theorem byteAt_le (l : List UInt8) (i : Int) : byteAt l i ≤ 255 := by
  unfold byteAt; have := (l[i.toNat]?.getD 0).toNat_lt; omega
theorem byteAt_nat (l : List UInt8) (k : Nat) (h : k < l.length) : byteAt l (k : Int) = (l[k].toNat : Int) := by
  simp [byteAt, List.getElem?_eq_getElem h]

theorem size_S (l : List UInt8) : (⟨l.toArray⟩ : ByteArray).size = l.length := by simp [ByteArray.size]
theorem toList_S (l : List UInt8) : (⟨l.toArray⟩ : ByteArray).toList = l := by
  have h : (⟨l.toArray⟩ : ByteArray).toList = (⟨l.toArray⟩ : ByteArray).data.toList := by
    simp
  rw [h]
theorem append_S (l m : List UInt8) : (⟨l.toArray⟩ : ByteArray) ++ (⟨m.toArray⟩ : ByteArray) = ⟨(l ++ m).toArray⟩ := by
  apply ByteArray.ext
  simp

section
variable {P : Program} (w : World)
theorem run_index_S (t : TypeId) (l : List UInt8) (k : IntKind) (i : Int) (h : P.underlying t = some .string) :
    (Instr.index t (.string ⟨l.toArray⟩) (.int k i)).run P w =
      if 0 ≤ i ∧ i < (l.length : Int) then .ok (.int .u8 (byteAt l i)) w else (boundsPanic k i l.length .index).run P w := by
  rw [run_index_string w t _ k i h]
  by_cases hi : 0 ≤ i ∧ i < (l.length : Int)
  · have hlt : i.toNat < l.length := by omega
    rw [dif_pos (by rw [size_S]; exact hi), if_pos hi]
    have : (⟨l.toArray⟩ : ByteArray)[i.toNat]'(by rw [size_S]; exact hlt) = l[i.toNat] := by
      show l.toArray[i.toNat]'_ = _
      simp
    rw [this]
    simp [byteAt, List.getElem?_eq_getElem hlt]
  · rw [dif_neg (by rw [size_S]; exact hi), if_neg hi, size_S]

theorem binOp_eql_S (t : TypeId) (a b : List UInt8) : binOp .eql t (.string ⟨a.toArray⟩) (.string ⟨b.toArray⟩) = pure (.bool (decide (a = b))) := by
  rw [binOp_string_eql, toList_S, toList_S]
  congr 2
  by_cases h : a = b <;> simp [h]
theorem binOp_neq_S (t : TypeId) (a b : List UInt8) : binOp .neq t (.string ⟨a.toArray⟩) (.string ⟨b.toArray⟩) = pure (.bool (decide (a ≠ b))) := by
  rw [binOp_string_neq, toList_S, toList_S]
  congr 2
  by_cases h : a = b <;> simp [h]
theorem binOp_add_S (t : TypeId) (a b : List UInt8) : binOp .add t (.string ⟨a.toArray⟩) (.string ⟨b.toArray⟩) = Op.stringOp .add ⟨a.toArray⟩ ⟨b.toArray⟩ := binOp_string_add t _ _

theorem run_slice_S (t : TypeId) (l : List UInt8) (k k' : IntKind) (i j : Int) (h : P.underlying t = some .string)
    (h0 : 0 ≤ i) (h1 : i ≤ j) (h2 : j ≤ l.length) :
    (Instr.slice t (.string ⟨l.toArray⟩) (some (.int k i)) (some (.int k' j)) none).run P w = .ok (.string ⟨((l.drop i.toNat).take (j.toNat - i.toNat)).toArray⟩) w := by
  rw [run_slice_string w t _ k k' i j h h0 h1 (by rw [size_S]; exact h2), ByteArray.extract_mk]
theorem run_slice_from_S (t : TypeId) (l : List UInt8) (k : IntKind) (i : Int) (h : P.underlying t = some .string)
    (h0 : 0 ≤ i) (h2 : i ≤ l.length) :
    (Instr.slice t (.string ⟨l.toArray⟩) (some (.int k i)) none none).run P w = .ok (.string ⟨(l.drop i.toNat).toArray⟩) w := by
  rw [run_slice_string_from_if w t _ k i h, if_pos (by rw [size_S]; exact ⟨h0, h2⟩), ByteArray.extract_mk, size_S]
  rw [List.take_of_length_le (by simp)]
theorem run_slice_to_S (t : TypeId) (l : List UInt8) (k : IntKind) (j : Int) (h : P.underlying t = some .string)
    (h0 : 0 ≤ j) (h2 : j ≤ l.length) :
    (Instr.slice t (.string ⟨l.toArray⟩) none (some (.int k j)) none).run P w = .ok (.string ⟨(l.take j.toNat).toArray⟩) w := by
  rw [run_slice_string_to_if w t _ k j h, if_pos (by rw [size_S]; exact ⟨h0, h2⟩), ByteArray.extract_mk]
  simp

/-- string of bytes that were built as a slice a moment ago. -/
theorem run_conv_S (src dst e : TypeId) (b n c : Nat) (l : List UInt8) (hs : P.underlying src = some (.slice e)) (he : P.underlying e = some (.int .u8)) (hd : P.underlying dst = some .string)
    (hn : n = l.length) (hc : ∀ j (hj : j < l.length), w.cell? ((⟨b, 0, none⟩ : Addr).add j) = some (.int .u8 (l[j].toNat : Int))) :
    (convert src dst (.slice (some ⟨b, 0, none⟩) n c)).run P w = .ok (.string ⟨l.toArray⟩) w := by
  subst hn
  exact run_convert_bytes_back w src dst e _ c l hs he hd hc
end

/-- What 'string(b)' gives of one byte, or two, that a slice was built of. -/
def conv1 (x : Option Value) (w : World) (r : Result Value) : Result Value :=
  match x with
  | some (.int .u8 n) => .ok (.string ⟨[UInt8.ofNat n.toNat].toArray⟩) w
  | _ => r
def conv2 (x y : Option Value) (w : World) (r : Result Value) : Result Value :=
  match x, y with
  | some (.int .u8 n), some (.int .u8 m) => .ok (.string ⟨[UInt8.ofNat n.toNat, UInt8.ofNat m.toNat].toArray⟩) w
  | _, _ => r
theorem conv1_some (n : Int) (w : World) (r : Result Value) : conv1 (some (.int .u8 n)) w r = .ok (.string ⟨[UInt8.ofNat n.toNat].toArray⟩) w := rfl
theorem conv2_some (n m : Int) (w : World) (r : Result Value) : conv2 (some (.int .u8 n)) (some (.int .u8 m)) w r = .ok (.string ⟨[UInt8.ofNat n.toNat, UInt8.ofNat m.toNat].toArray⟩) w := rfl

section
variable {P : Program} (w : World)
theorem run_conv1 (src dst e : TypeId) (b c : Nat) (hs : P.underlying src = some (.slice e)) (he : P.underlying e = some (.int .u8)) (hd : P.underlying dst = some .string) :
    (convert src dst (.slice (some ⟨b, 0, none⟩) 1 c)).run P w = conv1 (w.cell? ⟨b, 0, none⟩) w ((Conv.bytesToString (.slice (some ⟨b, 0, none⟩) 1 c)).run P w) := by
  rw [run_convert_bytes_string w src dst e _ 1 c hs he hd]
  unfold conv1
  split
  · rename_i n h
    have hl := run_loadCells_list (P := P) w ⟨b, 0, none⟩ ([n].map (Value.int .u8)) (fun j v hj => by
      match j with
      | 0 => simp at hj; subst hj; simpa [Addr.add] using h
      | j + 1 => simp at hj)
    rw [run_bytesToString w ⟨b, 0, none⟩ 1 c [n] (by simpa using hl)]
    simp [ByteArray.push, ByteArray.empty, ByteArray.emptyWithCapacity]; rfl
  · rfl
theorem run_conv2 (src dst e : TypeId) (b c : Nat) (hs : P.underlying src = some (.slice e)) (he : P.underlying e = some (.int .u8)) (hd : P.underlying dst = some .string) :
    (convert src dst (.slice (some ⟨b, 0, none⟩) 2 c)).run P w = conv2 (w.cell? ⟨b, 0, none⟩) (w.cell? ⟨b, 1, none⟩) w ((Conv.bytesToString (.slice (some ⟨b, 0, none⟩) 2 c)).run P w) := by
  rw [run_convert_bytes_string w src dst e _ 2 c hs he hd]
  unfold conv2
  split
  · rename_i n m h h2
    have hl := run_loadCells_list (P := P) w ⟨b, 0, none⟩ ([n, m].map (Value.int .u8)) (fun j v hj => by
      match j with
      | 0 => simp at hj; subst hj; simpa [Addr.add] using h
      | 1 => simp at hj; subst hj; simpa [Addr.add] using h2
      | j + 2 => simp at hj)
    rw [run_bytesToString w ⟨b, 0, none⟩ 2 c [n, m] (by simpa using hl)]
    simp [ByteArray.push, ByteArray.empty, ByteArray.emptyWithCapacity]; rfl
  · rfl
end

theorem convU (w : World) (b c : Nat) : (convert 22 9 (.slice (some ⟨b, 0, none⟩) 1 c)).run Try.prog w = conv1 (w.cell? ⟨b, 0, none⟩) w ((Conv.bytesToString (.slice (some ⟨b, 0, none⟩) 1 c)).run Try.prog w) :=
  run_conv1 w _ _ 5 b c Try.underlying22 Try.underlying5 Try.underlying9
theorem convU2 (w : World) (b c : Nat) : (convert 22 9 (.slice (some ⟨b, 0, none⟩) 2 c)).run Try.prog w = conv2 (w.cell? ⟨b, 0, none⟩) (w.cell? ⟨b, 1, none⟩) w ((Conv.bytesToString (.slice (some ⟨b, 0, none⟩) 2 c)).run Try.prog w) :=
  run_conv2 w _ _ 5 b c Try.underlying22 Try.underlying5 Try.underlying9

theorem wrap64_byteAt (l : List UInt8) (i : Int) : wrap64 (byteAt l i) = byteAt l i := by
  have h0 := byteAt_nonneg l i; have h1 := byteAt_le l i
  exact IntWalk.wrap64_in _ ⟨by omega, by omega⟩
theorem wrap64_byteAt_mul (l : List UInt8) (i : Int) : wrap64 (byteAt l i * 256) = byteAt l i * 256 := by
  have h0 := byteAt_nonneg l i; have h1 := byteAt_le l i
  exact IntWalk.wrap64_in _ ⟨by omega, by omega⟩
theorem bits_or_bytes (l m : List UInt8) (i j : Int) : bits .or .i64 (byteAt l i * 256) (byteAt m j) = byteAt l i * 256 + byteAt m j := by
  unfold byteAt
  generalize hx : (l[i.toNat]?.getD 0).toNat = x
  generalize hy : (m[j.toNat]?.getD 0).toNat = y
  have h1 : x < 256 := by rw [← hx]; exact UInt8.toNat_lt _
  have h2 : y < 256 := by rw [← hy]; exact UInt8.toNat_lt _
  have e : ((x : Int) * 256) = ((x * 256 : Nat) : Int) := by omega
  rw [e]
  have hxx : x * 256 ||| y < 2 ^ 63 := Nat.or_lt_two_pow (by omega) (by omega)
  have ofI : ∀ a : Nat, a < 9223372036854775808 → (BitVec.ofInt 64 (a : Int)).toNat = a := fun a ha => by
    rw [BitVec.ofInt_natCast, BitVec.toNat_ofNat]; exact Nat.mod_eq_of_lt (by omega)
  show IntKind.i64.wrap ((BitVec.ofInt 64 ((x * 256 : Nat) : Int) ||| BitVec.ofInt 64 (y : Int)).toNat : Int) = _
  rw [BitVec.toNat_or, ofI _ (by omega), ofI y (by omega), IntKind.wrap_i64]
  have : x * 256 ||| y = x * 256 + y := by
    have := Nat.two_pow_add_eq_or_of_lt (i := 8) (b := y) (by omega) x
    rw [show (2:Nat) ^ 8 = 256 from rfl] at this
    rw [Nat.mul_comm]; exact this.symm
  rw [this]
  omega
end Go.Proofs.Ytgcjfddkgbigoaa
