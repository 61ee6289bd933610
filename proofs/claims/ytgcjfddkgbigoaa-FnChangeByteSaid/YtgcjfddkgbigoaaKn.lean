/- What is known, in a box and in rows of the call's own. -/
import Derived.Test.YtgcjfddkgbigoaaS5
import Derived.Test.YtgcjfddkgbigoaaAp
namespace Go.Proofs.Ytgcjfddkgbigoaa
open Go.RowKit
set_option maxRecDepth 100000
theorem info_int : (Try.prog.info? 3).map (fun i => (i.zero, i.size, i.bytes)) = some (some (.int .i64 0), 1, 8) := by kernel_rfl
def strN : Value → Nat
  | .string b => b.data.size
  | _ => 0
abbrev iv (c : Int) : Value := .int .i64 c
abbrev ivn (n : Nat) : Value := .int .i64 (n : Int)
section
variable {w w' : World} {B B' : Nat}
theorem Sl.own {e : TypeId} {A : Option Addr} {n cap size : Nat} {cs : List Value} (h : w.ownsRow B e size (.slice A n cap) n cs) : Sl w A n cap size cs := by
  obtain ⟨A', cap', h1, h2⟩ := Sl.of_own h
  injection h1 with e1 e2 e3
  subst e1 e3
  exact h2
theorem own_own {e e' : TypeId} {s s' n n' : Nat} {v v' : Value} {xs xs' : List Value} (h : w.ownsRow B e s v n xs) (h' : w.ownsRow B' e' s' v' n' xs') (hne : e ≠ e') : v.ownBlock = none ∨ v.ownBlock ≠ v'.ownBlock := by
  rcases h.2 with ⟨rfl, _⟩ | ⟨g, cap, cur, rfl, _, hh, _⟩
  · exact .inl rfl
  · right
    rcases h'.2 with ⟨rfl, _⟩ | ⟨g', cap', cur', rfl, _, hh', _⟩
    · intro hc; cases hc
    · intro hc
      injection hc with hc
      have hc : g = g' := hc
      subst hc
      rw [hh] at hh'
      injection hh' with hh'
      injection hh' with _ hh'
      exact hne hh'
theorem lit_row {e : TypeId} {size n : Nat} (w : World) (cs : Array Value) (h : cs.size = n * size) (hB : B ≤ w.heap.size) (hn : n ≤ maxLen) :
    (w.alloc (.cells cs e)).ownsRow B e size (.slice (some ⟨w.heap.size, 0, none⟩) n n) n cs.toList :=
  ⟨by simpa using h, .inr ⟨w.heap.size, n, cs, rfl, hB, heap_alloc_new w _, Nat.le_refl _, hn, h, by rw [List.take_of_length_le]; simp; omega⟩⟩
theorem own_drew {e : TypeId} {s n : Nat} {v : Value} {xs : List Value} (h : w.ownsRow B e s v n xs) : w.drew.ownsRow B e s v n xs := h
theorem kn_put {K : Kn} {A : Option Addr} {cap b : Nat} (h : Bk w b 127 (knC K A cap)) (K2 : Kn) (A2 : Option Addr) (cap2 : Nat) : Bk ((((((w.setCell ⟨b, 0, none⟩ (.int .i64 K2.o)).setCell ⟨b, 1, none⟩ (.int .i64 K2.l)).setCell ⟨b, 2, none⟩ (.int .i64 K2.m)).setCell ⟨b, 3, none⟩ (.slice A2 K2.ps.length cap2)).setCell ⟨b, 4, none⟩ (.int .i64 K2.base)).setCell ⟨b, 5, none⟩ (.int .i64 K2.last)) b 127 (knC K2 A2 cap2) :=
  (((((h.set 0 _).set 1 _).set 2 _).set 3 _).set 4 _).set 5 _
theorem kn_put0 {b : Nat} (h : Bk w b 127 knZ) (K2 : Kn) (A2 : Option Addr) (cap2 : Nat) : Bk ((((((w.setCell ⟨b, 0, none⟩ (.int .i64 K2.o)).setCell ⟨b, 1, none⟩ (.int .i64 K2.l)).setCell ⟨b, 2, none⟩ (.int .i64 K2.m)).setCell ⟨b, 3, none⟩ (.slice A2 K2.ps.length cap2)).setCell ⟨b, 4, none⟩ (.int .i64 K2.base)).setCell ⟨b, 5, none⟩ (.int .i64 K2.last)) b 127 (knC K2 A2 cap2) :=
  (((((h.set 0 _).set 1 _).set 2 _).set 3 _).set 4 _).set 5 _
theorem kn_below {b : Nat} (h : Below B w' w) (hb : B ≤ b) (K2 : Kn) (A2 : Option Addr) (cap2 : Nat) : Below B w' ((((((w.setCell ⟨b, 0, none⟩ (.int .i64 K2.o)).setCell ⟨b, 1, none⟩ (.int .i64 K2.l)).setCell ⟨b, 2, none⟩ (.int .i64 K2.m)).setCell ⟨b, 3, none⟩ (.slice A2 K2.ps.length cap2)).setCell ⟨b, 4, none⟩ (.int .i64 K2.base)).setCell ⟨b, 5, none⟩ (.int .i64 K2.last)) := by
  iterate 6 refine Below.setCell ?_ (by simpa using hb) _
  exact h
theorem kn_size (w : World) (b : Nat) (K2 : Kn) (A2 : Option Addr) (cap2 : Nat) : ((((((w.setCell ⟨b, 0, none⟩ (.int .i64 K2.o)).setCell ⟨b, 1, none⟩ (.int .i64 K2.l)).setCell ⟨b, 2, none⟩ (.int .i64 K2.m)).setCell ⟨b, 3, none⟩ (.slice A2 K2.ps.length cap2)).setCell ⟨b, 4, none⟩ (.int .i64 K2.base)).setCell ⟨b, 5, none⟩ (.int .i64 K2.last)).heap.size = w.heap.size := by simp
theorem kn_own {b : Nat} {e : TypeId} {s n : Nat} {v : Value} {xs : List Value} (h : w.ownsRow B e s v n xs) (hb : b < B) (K2 : Kn) (A2 : Option Addr) (cap2 : Nat) : ((((((w.setCell ⟨b, 0, none⟩ (.int .i64 K2.o)).setCell ⟨b, 1, none⟩ (.int .i64 K2.l)).setCell ⟨b, 2, none⟩ (.int .i64 K2.m)).setCell ⟨b, 3, none⟩ (.slice A2 K2.ps.length cap2)).setCell ⟨b, 4, none⟩ (.int .i64 K2.base)).setCell ⟨b, 5, none⟩ (.int .i64 K2.last)).ownsRow B e s v n xs := by
  iterate 6 refine ownsRow_setCell_below ?_ (by simpa using hb) _
  exact h
theorem kn_far {b g : Nat} {t : TypeId} {cs : Array Value} (h : Bk w g t cs) (hb : g ≠ b) (K2 : Kn) (A2 : Option Addr) (cap2 : Nat) : Bk ((((((w.setCell ⟨b, 0, none⟩ (.int .i64 K2.o)).setCell ⟨b, 1, none⟩ (.int .i64 K2.l)).setCell ⟨b, 2, none⟩ (.int .i64 K2.m)).setCell ⟨b, 3, none⟩ (.slice A2 K2.ps.length cap2)).setCell ⟨b, 4, none⟩ (.int .i64 K2.base)).setCell ⟨b, 5, none⟩ (.int .i64 K2.last)) g t cs := by
  iterate 6 refine Bk.far ?_ (by simpa using hb) _
  exact h
end
end Go.Proofs.Ytgcjfddkgbigoaa
