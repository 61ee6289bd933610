import Derived.Test.YtfppmajoidkooaaGreatDoorUJ31
import Derived.Lib.AppendZerosOnto
import Derived.Lib.Overlaps
import Derived.Laws.Externs
import Derived.Laws.NewBlocks
set_option linter.unusedVariables false
set_option linter.unusedSimpArgs false
set_option maxHeartbeats 8000000
namespace Go.Proofs.YtfppmajoidkooaaGreatDoor
open Go.RowKit
set_option maxRecDepth 100000
attribute [local go_sem high] zy zA zB zO zK zY zx zk zl zq zi zo yP zD yt zF
theorem Ui {w:World}{b:Nat}{t:TypeId}{cs:Array Value}(h:Bk w b t cs):w.shape? b=some (t,cs.size):=by
 unfold Bk at h;simp [World.shape?,h]
theorem zc2 (x y:Value)(k:Nat):(Builtin.zeroCells #[x,y] k).size=k*2:=by simp [Builtin.zeroCells]
theorem UM {w:World}{g n size:Nat}{t:TypeId}{cur:Array Value}{xs:List Value}(hh:w.heap[g]? =some (.cells cur t (0,0)))(ht:cur.toList.take (n*size)=xs)(j:Nat)(v:Value)(h:xs[j]? =some v):w.cell? ⟨g,j,none⟩=some v:=by
 rw[cell_of_row w g j cur t (0,0) hh];rw[←ht,List.getElem?_take] at h;split at h
 ·simpa using h
 ·cases h
theorem VF (A : Option Addr) (n c p vb B : Nat) (xs : List Value) (nm s : Value) (w : World) (ho : w.ownsRow B 87 2 (.slice A n c) n xs) (hv : Bk w vb 87 #[nm, s]) (hne : ∀ k, (Value.slice A n c).ownBlock = some k → k ≠ vb)
    (hp : p ≤ n) (hn : n ≤ 1000) (h1 : ∀ u ∈ xs, u.oneCell' = true) (hnm : nm.oneCell' = true) (hs : s.oneCell' = true) (hB : B ≤ w.heap.size) :
    Calls Tryz.prog 114 #[.slice A n c, .int .i64 (p : Int), .slice (some ⟨vb, 0, none⟩) 1 1] w fun e w' => ∃ A' c', e = .returned (.slice A' (n + 1) c') ∧ w'.ownsRow B 87 2 (.slice A' (n + 1) c') (n + 1) (xs.take (p * 2) ++ [nm, s] ++ xs.drop (p * 2)) ∧ Below B w w' := by
  obtain ⟨i, hi, hz0, hz1, hz2⟩ := info_parts ny
  have mixed : Tryz.prog.follows .mixedOrders = true := kr
  have hvl := hv.lt
  have sV : Sl w (some ⟨vb, 0, none⟩) 1 1 2 [nm, s] := ⟨Nat.le_refl _, by omega, rfl, fun _ => ⟨vb, 0, rfl, hvl, fun j u hu => by rw [Nat.zero_add]; exact (hv.cell j).trans (by simpa using hu)⟩⟩
  have h1v : ∀ u ∈ [nm, s], u.oneCell' = true := by
    intro u hu
    simp only [List.mem_cons, List.not_mem_nil, or_false] at hu
    rcases hu with rfl | rfl
    · exact hnm
    · exact hs
  have hxl : xs.length = n * 2 := ho.1
  by_cases hpn : p = n
  · subst hpn
    have hm1 : p + 1 ≤ maxLen := by unfold maxLen; omega
    have hm2 : (p + 1) * 32 ≤ 140737488355328 := oo
    have he : xs.take (p * 2) ++ [nm, s] ++ xs.drop (p * 2) = xs ++ [nm, s] := by rw [List.take_of_length_le (by omega), List.drop_of_length_le (by omega), List.append_nil]
    rw [he]
    clear he
    have hk := fun k hk => (ho.lt k hk).1
    have hcap : p ≤ c := by
      rcases ho.2 with ⟨h', h0⟩ | ⟨g, cap, cur, h', _, _, h2, _⟩
      · omega
      · injection h' with _ _ h3; omega
    have hcm : c ≤ 9223372036854775807 := by
      rcases ho.2 with ⟨h', h0⟩ | ⟨g, cap, cur, h', _, _, _, h2, _⟩
      · injection h' with _ _ h3; omega
      · injection h' with _ _ h3; unfold maxLen at h2; omega
    cases A with
    | none =>
      go_enter Tryz.func114, Tryz.ntmps114
      go_wp2_with (at_builtin; go_must (refine zN _ rfl _ _ 40 rfl B 87 i _ 2 32 Tryz.underlying40 hi hz0 hz1 hz2 rfl oo _ _ _ rfl ho _ 1 1 [nm, s] rfl sV h1v hm1 hm2 ?_ ?_))
      · exact hB
      intro A6 c6 w6 o6 hg6 _
      have g6 := (Below.refl B w).grown hg6 hB hk
      go_wp2
      go_ret
      exact ⟨A6, c6, rfl, o6, g6⟩
    | some ad =>
      by_cases hcp : c = p
      all_goals
        go_enter Tryz.func114, Tryz.ntmps114
        go_wp2_with (at_builtin; go_must (refine zN _ rfl _ _ 40 rfl B 87 i _ 2 32 Tryz.underlying40 hi hz0 hz1 hz2 rfl oo _ _ _ rfl ho _ 1 1 [nm, s] rfl sV h1v hm1 hm2 ?_ ?_))
        · exact hB
        intro A6 c6 w6 o6 hg6 _
        have g6 := (Below.refl B w).grown hg6 hB hk
        go_wp2
        go_ret
        exact ⟨A6, c6, rfl, o6, g6⟩
  have hplt : p < n := oo
  obtain ⟨_, ho2⟩ := ho
  rcases ho2 with ⟨_, h0⟩ | ⟨g, cap, cur, hA, hBg, hh, hnc, hcm, hsz, htk⟩
  · omega
  injection hA with hA _ hc
  subst hA hc
  have hgv : g ≠ vb := hne g rfl
  have hcm' : c ≤ 9223372036854775807 := by unfold maxLen at hcm; omega
  have hinf : (Tryz.prog.info? 87).map (·.size) = some 2 := by rw [hi]; simp [hz1]
  have hcell := fun j v h => UM (n := n) (size := 2) hh htk j v h
  have hcl : cur.toList.length = c * 2 := by simpa using hsz
  have hdl : (xs.drop (p * 2)).length = (n - p) * 2 := by rw [List.length_drop]; omega
  have h1d : ∀ u ∈ xs.drop (p * 2), u.oneCell' = true := fun u hu => h1 u (List.mem_of_mem_drop hu)
  have hw1 : IntKind.i64.wrap ((p : Int) + 1) = (p : Int) + 1 := by rw [IntKind.wrap_i64]; omega
  have hw2 : IntKind.i64.wrap ((n : Int) + 1) = (n : Int) + 1 := by rw [IntKind.wrap_i64]; omega
  have hb0 : ¬ ((p : Int) = (n : Int)) := oo
  have hb1 : (0 : Int) ≤ (p : Int) + 1 := oo
  have htn : ((p : Int) + 1).toNat = p + 1 := oo
  have htm : ((n : Int) + 1).toNat = n + 1 := oo
  by_cases hroom : n + 1 ≤ c
  · -- in place
    have hov : ∀ off lb cb, (callFunc 145 #[.slice (some ⟨vb, 0, none⟩) 1 1, .slice (some ⟨g, off, none⟩) lb cb]).run Tryz.prog w = .ok (.value (.bool false)) w := fun off lb cb => by
      rw [run_callFunc_extern Tryz.func145 (by kernel_rfl) (by kernel_rfl) (by kernel_rfl) (e := Extern.SlicesOverlaps.overlaps #[40, 40] #[4]) (by kernel_rfl),
        Lib.run_overlaps_apart w 40 4 87 Tryz.underlying40 2 (fun w => by simp [Go.sizeOf, typeInfo, hi, hz1]) ⟨vb, 0, none⟩ ⟨g, off, none⟩ 1 1 lb cb (Ne.symm hgv) _ _ _ _ (Ui hv) (Ui (t := 87) (cs := cur) hh) (by omega) (hv.free 0) (hv.free _)]
      rfl
    obtain ⟨L1, hL1⟩ : ∃ L1, L1 = cur.toList.take ((p + 1) * 2) ++ xs.drop (p * 2) ++ cur.toList.drop ((p + 1) * 2 + (xs.drop (p * 2)).length) := ⟨_, rfl⟩
    obtain ⟨W1, hW1⟩ : ∃ W1, W1 = w.drew.setRow g L1.toArray := ⟨_, rfl⟩
    have hcp1 : ∀ ty dc sc, (Builtin.copy_ #[40, 40] ty #[.slice (some ⟨g, (p + 1) * 2, none⟩) (n - p) dc, .slice (some ⟨g, p * 2, none⟩) (n + 1 - p) sc]).run Tryz.prog w.drew = .ok (goInt (Nat.min (n + 1 - p) (n - p))) W1 := fun ty dc sc => by
      rw [hW1, hL1]
      exact rF w.drew _ _ ty _ g ((p + 1) * 2) (n - p) dc ⟨g, p * 2, none⟩ (n + 1 - p) sc cur _ (xs.drop (p * 2)) 2 Tryz.underlying40 hinf hh (by rw [hdl, show Nat.min (n + 1 - p) (n - p) = n - p by simp only [Nat.min_def]; split <;> omega])
        (fun j v hj => by rw [Addr.add_lit]; exact hcell (p * 2 + j) v (by rwa [List.getElem?_drop] at hj)) (by rw [hdl]; omega) h1d
    have hh1 : W1.heap[g]? = some (.cells L1.toArray 87 (0, 0)) := by rw [hW1]; exact setRow_heap w.drew g cur _ _ _ hh
    have hL1l : L1.length = c * 2 := by rw [hL1]; simp only [List.length_append, List.length_take, List.length_drop, hcl]; omega
    obtain ⟨L2, hL2⟩ : ∃ L2, L2 = L1.take (p * 2) ++ [nm, s] ++ L1.drop (p * 2 + [nm, s].length) := ⟨_, rfl⟩
    obtain ⟨W2, hW2⟩ : ∃ W2, W2 = W1.setRow g L2.toArray := ⟨_, rfl⟩
    have hcp2 : ∀ ty dc, (Builtin.copy_ #[40, 40] ty #[.slice (some ⟨g, p * 2, none⟩) (n + 1 - p) dc, .slice (some ⟨vb, 0, none⟩) 1 1]).run Tryz.prog W1 = .ok (goInt (Nat.min 1 (n + 1 - p))) W2 := fun ty dc => by
      rw [hW2, hL2]
      have := rF (P := Tryz.prog) W1 40 40 ty _ g (p * 2) (n + 1 - p) dc ⟨vb, 0, none⟩ 1 1 L1.toArray _ [nm, s] 2 Tryz.underlying40 hinf hh1 (by rw [show Nat.min 1 (n + 1 - p) = 1 by simp only [Nat.min_def]; split <;> omega]; rfl)
        (fun j v hj => by
          rw [Addr.add_lit, Nat.zero_add, hW1, cell_setRow_other _ _ _ _ (Ne.symm hgv)]
          exact (hv.cell j).trans (by simpa using hj)) (by simp only [List.length_cons, List.length_nil]; simp; omega) h1v
      simpa using this
    have hR := MW (cur := cur.toList) (xs := xs) (new := [nm, s]) (p := p) (n := n) htk oo oo rfl
    rw [← hL1, ← hL2] at hR
    have hO : W2.ownsRow B 87 2 (.slice (some ⟨g, 0, none⟩) (n + 1) c) (n + 1) (xs.take (p * 2) ++ [nm, s] ++ xs.drop (p * 2)) := by
      rw [hW2]
      exact kK hBg hh1 hcm (by simpa using hL1l) L2 (by rw [hR.2]; simp [hL1l, hcl]) hroom hR.1
    have hBl : Below B w W2 := by rw [hW2, hW1]; exact below_setRow (below_setRow (Below.drew (Below.refl _ _)) hBg _) hBg _
    have hb2 : ¬ (c = p + 1) := oo
    have hb4 : ¬ (c = p) := oo
    have hb3 : (p : Int) ≤ (n : Int) + 1 := oo
    have hb5 : ¬ ((c : Int) < (n : Int) + 1) := oo
    have hb6 : (n : Int) + 1 ≤ c := oo
    clear hW1 hW2 hL1 hL2 hR hL1l hh1 hcell hh htk hsz hcl hdl h1d h1v sV hv hne hxl h1 hi hinf hz0 hz1 hz2
    go_enter Tryz.func114, Tryz.ntmps114
    go_wp2_with (simp only [hov])
    go_region_law_o (refine lK rfl _ _ 40 40 rfl _ _ (by simp [Act.eval, Act.put]) (by simp [Act.eval, Act.put]) (hcp1 _ _ _) ?_)
    go_wp2_with (at_builtin; refine nC rfl _ _ 40 40 rfl _ _ rfl rfl (hcp2 _ _) ?_)
    go_ret
    exact ⟨some ⟨g, 0, none⟩, c, rfl, hO, hBl⟩
  · -- a new row
    have hgl : g < w.heap.size := by
      rcases Nat.lt_or_ge g w.heap.size with hlt | hge
      · exact hlt
      · rw [Array.getElem?_eq_none hge] at hh; cases hh
    obtain ⟨G, hG⟩ : ∃ G, G = grownCap w (n + 1) c 87 := ⟨_, rfl⟩
    have hGn : n + 1 ≤ G := by rw [hG]; exact grownCap_ge w _ _ _
    have hGm : G ≤ maxLen := by rw [hG]; exact grownCap_le_maxLen w (n + 1) c _ (by unfold maxLen; omega)
    have hGm' : G ≤ 9223372036854775807 := by unfold maxLen at hGm; omega
    obtain ⟨ROW, hROW⟩ : ∃ ROW : Array Value, ROW = (xs.take (p * 2)).toArray ++ Builtin.zeroCells (Value.agg #[.string ⟨#[]⟩, .string ⟨#[]⟩]).cells (n + 1 - p) ++ Builtin.zeroCells (Value.agg #[.string ⟨#[]⟩, .string ⟨#[]⟩]).cells (G - (n + 1)) := ⟨_, rfl⟩
    obtain ⟨W1, hW1⟩ : ∃ W1, W1 = w.drew.alloc (.cells ROW 87) := ⟨_, rfl⟩
    have hold : (Builtin.firstCells i.size p (.slice (some ⟨g, 0, none⟩) p c)).run Tryz.prog w.drew = .ok (xs.take (p * 2)).toArray w.drew := by
      rw [hz1]
      exact run_firstCells_some w.drew 2 p ⟨g, 0, none⟩ p c (xs.take (p * 2)) (by rw [List.length_take]; omega) (fun j v hj => by
        rw [Addr.add_lit, Nat.zero_add]
        rw [List.getElem?_take] at hj
        split at hj
        · exact hcell j v hj
        · cases hj)
    have hrz : ∀ ty, (Builtin.append_ #[40, 3] ty #[.slice (some ⟨g, 0, none⟩) p c, .int .i64 ((n : Int) + 1 - (p : Int))]).run Tryz.prog w = .ok (.slice (some ⟨w.heap.size, 0, none⟩) (n + 1) G) W1 := fun ty => by
      have h := Lib.run_append_grow_zeros w _ 3 ty 87 i _ .i64 .i64 Tryz.underlying40 Tryz.underlying3 hi hz0 (some ⟨g, 0, none⟩) p c (xs.take (p * 2)) hold (n + 1 - p) (by omega) (by omega) (by omega) (by omega) (by rw [hz2]; omega) (by rw [hz2, show p + (n + 1 - p) = n + 1 by omega]; exact growslice_fits (by omega) (by omega))
      rw [show p + (n + 1 - p) = n + 1 by omega] at h
      rw [show (n : Int) + 1 - (p : Int) = ((n + 1 - p : Nat) : Int) by omega, hW1, hROW, hG]
      exact h
    have hRl : ROW.toList.length = G * 2 := by
      rw [hROW]
      simp only [Array.toList_append, List.length_append, List.length_take, Array.length_toList, Value.cells, zc2, hxl]
      omega
    have hRt : ROW.toList.take (p * 2) = xs.take (p * 2) := by
      rw [hROW, Array.append_assoc, Array.toList_append, List.take_append_of_le_length (by rw [List.length_take]; omega), List.take_of_length_le (by rw [List.length_take]; omega)]
    have hh1 : W1.heap[w.heap.size]? = some (.cells ROW 87 (0, 0)) := by rw [hW1]; exact Bk.new w.drew ROW 87
    have hb1W : Below w.heap.size w W1 := by rw [hW1]; exact (Below.drew (Below.refl _ _)).alloc (Nat.le_refl _) _
    obtain ⟨L1, hL1⟩ : ∃ L1, L1 = ROW.toList.take (p * 2) ++ [nm, s] ++ ROW.toList.drop (p * 2 + [nm, s].length) := ⟨_, rfl⟩
    obtain ⟨W2, hW2⟩ : ∃ W2, W2 = W1.setRow w.heap.size L1.toArray := ⟨_, rfl⟩
    have hcpA : ∀ ty dc, (Builtin.copy_ #[40, 40] ty #[.slice (some ⟨w.heap.size, p * 2, none⟩) (n + 1 - p) dc, .slice (some ⟨vb, 0, none⟩) 1 1]).run Tryz.prog W1 = .ok (goInt (Nat.min 1 (n + 1 - p))) W2 := fun ty dc => by
      rw [hW2, hL1]
      exact rF (P := Tryz.prog) W1 40 40 ty _ w.heap.size (p * 2) (n + 1 - p) dc ⟨vb, 0, none⟩ 1 1 ROW _ [nm, s] 2 Tryz.underlying40 hinf hh1 (by rw [show Nat.min 1 (n + 1 - p) = 1 by simp only [Nat.min_def]; split <;> omega]; rfl)
        (fun j v hj => by
          rw [Addr.add_lit, Nat.zero_add, hb1W.cell (p := ⟨vb, j, none⟩) hvl]
          exact (hv.cell j).trans (by simpa using hj)) (by have : ROW.size = G * 2 := by simpa using hRl
                                                           simp only [List.length_cons, List.length_nil]; omega) h1v
    have hL1l : L1.length = G * 2 := by rw [hL1]; simp only [List.length_append, List.length_take, List.length_drop, hRl, List.length_cons, List.length_nil]; omega
    have hh2 : W2.heap[w.heap.size]? = some (.cells L1.toArray 87 (0, 0)) := by rw [hW2]; exact setRow_heap W1 w.heap.size ROW _ _ _ hh1
    obtain ⟨L2, hL2⟩ : ∃ L2, L2 = L1.take ((p + 1) * 2) ++ xs.drop (p * 2) ++ L1.drop ((p + 1) * 2 + (xs.drop (p * 2)).length) := ⟨_, rfl⟩
    obtain ⟨W3, hW3⟩ : ∃ W3, W3 = W2.drew.setRow w.heap.size L2.toArray := ⟨_, rfl⟩
    have hcpB : ∀ ty dc sc, (Builtin.copy_ #[40, 40] ty #[.slice (some ⟨w.heap.size, (p + 1) * 2, none⟩) (n - p) dc, .slice (some ⟨g, p * 2, none⟩) (n - p) sc]).run Tryz.prog W2.drew = .ok (goInt (Nat.min (n - p) (n - p))) W3 := fun ty dc sc => by
      rw [hW3, hL2]
      have := rF (P := Tryz.prog) W2.drew 40 40 ty _ w.heap.size ((p + 1) * 2) (n - p) dc ⟨g, p * 2, none⟩ (n - p) sc L1.toArray _ (xs.drop (p * 2)) 2 Tryz.underlying40 hinf hh2 (by rw [hdl, show Nat.min (n - p) (n - p) = n - p by simp only [Nat.min_def]; split <;> omega])
        (fun j v hj => by
          rw [Addr.add_lit]
          show W2.cell? _ = _
          rw [hW2, cell_setRow_other _ _ _ _ (by show g ≠ _; omega), hb1W.cell (p := ⟨g, p * 2 + j, none⟩) hgl]
          exact hcell (p * 2 + j) v (by rwa [List.getElem?_drop] at hj)) (by simp only [List.size_toArray]; rw [hL1l, hdl]; omega) h1d
      simpa using this
    have hR := NR (row := ROW.toList) (xs := xs) (new := [nm, s]) (p := p) (n := n) hRt hxl hp oo rfl
    rw [← hL1, ← hL2] at hR
    have hO : W3.ownsRow B 87 2 (.slice (some ⟨w.heap.size, 0, none⟩) (n + 1) G) (n + 1) (xs.take (p * 2) ++ [nm, s] ++ xs.drop (p * 2)) := by
      rw [hW3]
      exact kK hB (w := W2.drew) hh2 hGm (by simpa using hL1l) L2 (by rw [hR.2]; simp [hL1l, hRl]) hGn hR.1
    have hBl : Below B w W3 := by rw [hW3, hW2]; exact below_setRow (Below.drew (below_setRow (hb1W.mono hB) hB _)) hB _
    have hb2 : ¬ (G = p + 1) := oo
    have hb4 : ¬ (G = p) := oo
    have hb8 : ¬ (c = p) := oo
    have hb3 : (p : Int) ≤ (n : Int) + 1 := oo
    have hb5 : (c : Int) < (n : Int) + 1 := oo
    have hb6 : ¬ ((n : Int) + 1 ≤ c) := oo
    clear hW1 hW2 hW3 hL1 hL2 hR hL1l hRl hRt hROW hG hh1 hh2 hold hcell hh htk hsz hcl hdl h1d h1v sV hv hne hxl h1 hi hinf hz0 hz1 hz2 hb1W
    go_enter Tryz.func114, Tryz.ntmps114
    go_wp2_with (first
      | (at_builtin; refine iH rfl _ _ _ _ rfl _ _ rfl rfl (hrz _) ?_)
      | (at_builtin; refine nC rfl _ _ 40 40 rfl _ _ rfl rfl (hcpA _ _) ?_))
    go_region_law_o (refine lK rfl _ _ 40 40 rfl _ _ (by simp [Act.eval, Act.put]) (by simp [Act.eval, Act.put]) (hcpB _ _ _) ?_)
    go_wp2
    go_ret
    exact ⟨some ⟨w.heap.size, 0, none⟩, G, rfl, hO, hBl⟩
theorem UZ (A:Option Addr)(m c p B:Nat)(xs:List Value)(w:World)(ho:w.ownsRow B 87 2 (.slice A (m+1) c) (m+1) xs)(hp:p<m+1)(hn:m≤1000)(h1:∀u ∈ xs,u.oneCell'=true):
 Calls Tryz.prog 115 #[.slice A (m+1) c,.int .i64 (p:Int),.int .i64 ((p:Int)+1)] w fun e w'=>∃A' c',e= .returned (.slice A' m c')∧w'.ownsRow B 87 2 (.slice A' m c') m (xs.take (p*2)++xs.drop ((p+1)*2))∧Below B w w':=by
 obtain⟨i,hi,hz0,hz1,hz2⟩:=info_parts ny;have mixed:Tryz.prog.follows .mixedOrders=true:=kr;have hxl:xs.length=(m+1)*2:=ho.1;obtain⟨_,ho2⟩:=ho;rcases ho2 with⟨_,h0⟩|⟨g,cap,cur,hA,hBg,hh,hnc,hcm,hsz,htk⟩
 ·omega
 injection hA with hA _ hc
 subst hA hc;have hcm':c≤9223372036854775807:=(by unfold maxLen at hcm;omega);have hcell:=fun j v h=>UM (n:=m+1) (size:=2) hh htk j v h;have hcl:cur.toList.length=c*2:=(by simpa using hsz);have hdl:(xs.drop ((p+1)*2)).length=(m - p)*2:=(by rw[List.length_drop];omega);have h1d:∀u ∈ xs.drop ((p+1)*2),u.oneCell'=true:=fun u hu=>h1 u (List.mem_of_mem_drop hu);obtain⟨L1,hL1⟩:∃L1,L1=cur.toList.take (p*2)++xs.drop ((p+1)*2)++cur.toList.drop (p*2+(xs.drop ((p+1)*2)).length):=⟨_,rfl⟩;obtain⟨W1,hW1⟩:∃W1,W1=w.drew.setRow g L1.toArray:=⟨_,rfl⟩;have happ:∀(ad:Addr) (ty:TypeId) (sc:Nat),(m - p=0∨ad=⟨g,(p+1)*2,none⟩)→(Builtin.append_ #[40,40] ty #[.slice (some ⟨g,0,none⟩) p c,.slice (some ad) (m - p) sc]).run Tryz.prog w.drew= .ok (.slice (some ⟨g,0,none⟩) m c) W1:=fun ad ty sc had=>by
  have h:=run_append_room (P:=Tryz.prog) w.drew 40 ty 87 i Tryz.underlying40 hi g p c cur hh ad (m - p) sc (xs.drop ((p+1)*2)) (by rw[hz1];exact hdl) (fun j u hu=>by
   rcases had with h0|rfl
   ·have:(xs.drop ((p+1)*2)).length=0:=by rw[hdl,h0]
    rw[List.length_eq_zero_iff.1 this] at hu
    cases hu
   ·rw[Addr.add_lit];exact hcell _ u (by rwa [List.getElem?_drop] at hu)) h1d (by omega) (by rw[hz1,hdl,hsz];omega)
  rw[hz1,show p+(m - p)=m by omega] at h;rw[hW1,hL1];exact h
 have hL1l:L1.length=c*2:=(by rw[hL1];simp only[List.length_append,List.length_take,List.length_drop,hcl,hdl];omega);have hh1:W1.heap[g]? =some (.cells L1.toArray 87 (0,0)):=(by rw[hW1];exact setRow_heap w.drew g cur _ _ _ hh);obtain⟨L2,hL2⟩:∃L2,L2=L1.take (m*2)++[Value.string ⟨#[]⟩,.string ⟨#[]⟩]++L1.drop (m*2+2):=⟨_,rfl⟩;obtain⟨W2,hW2⟩:∃W2,W2=W1.setRow g L2.toArray:=⟨_,rfl⟩;have hclr:∀ty sc,(Builtin.clear_ #[40] ty #[.slice (some ⟨g,m*2,none⟩) 1 sc]).run Tryz.prog W1= .ok (.tuple #[]) W2:=fun ty sc=>by
  rw[hW2,hL2];exact YM (P:=Tryz.prog) W1 40 87 ty (.agg #[.string ⟨#[]⟩,.string ⟨#[]⟩]) #[.string ⟨#[]⟩,.string ⟨#[]⟩] Tryz.underlying40 (fun w=>by simp [zeroValue,typeInfo,hi,hz0]) (by simp [Builtin.zeroCells,Value.cells,show Array.range 2=#[0,1] from rfl]) (by intro v hv;simp at hv;subst hv;rfl) g (m*2) sc L1.toArray _ hh1 (by simp;omega)
 have hR:=Ld (cur:=cur.toList) (xs:=xs) (z:=[Value.string ⟨#[]⟩,.string ⟨#[]⟩]) (p:=p) (n:=m+1) htk hp oo rfl;simp only[Nat.add_sub_cancel] at hR;rw[←hL1] at hR;have hR':L2.take (m*2)=xs.take (p*2)++xs.drop ((p+1)*2)∧L2.length=cur.toList.length:=(by rw[hL2];exact hR);have hO:W2.ownsRow B 87 2 (.slice (some ⟨g,0,none⟩) m c) m (xs.take (p*2)++xs.drop ((p+1)*2)):=by
  rw[hW2];exact kK hBg hh1 hcm (by simpa using hL1l) L2 (by rw[hR'.2];simp [hL1l,hcl]) (by omega) hR'.1
 have hBl:Below B w W2:=(by rw[hW2,hW1];exact below_setRow (below_setRow (Below.drew (Below.refl _ _)) hBg _) hBg _);have hWe:m - p=0→W1=w.drew:=fun h0=>by
  have he:xs.drop ((p+1)*2)=[]:=List.eq_nil_of_length_eq_zero (by rw[hdl,h0]);rw[hW1,hL1,he];simp only[List.append_nil,List.length_nil,Nat.add_zero,List.take_append_drop];exact setRow_self w.drew g cur _ _ hh
 have hb0:((p:Int)==(p:Int)+1)=false:=(by simp;omega);have hb1:(0:Int)≤(p:Int)+1:=oo;have hb2:(p:Int)+1≤(m:Int)+1:=oo;have htn:((p:Int)+1).toNat=p+1:=oo;have htm:((m:Int)+1).toNat=m+1:=oo;have hb4:¬(c=m):=oo;have hb8:¬(c=p):=oo;have hb5:(m:Int)+1≤c:=oo;have hb6:m+1≤c:=oo;have hb7:p≤m+1:=oo;have hb9:p+1≤m+1:=oo;have hb10:p≤c:=oo;clear hW1 hW2 hL1 hL2 hR hR' hL1l hh1 hcell hh htk hsz hcl hdl h1d hxl h1 hi hz0 hz1 hz2 i;by_cases hcp:c=p+1
 ·obtain rfl:p=m:=oo
  subst hcp;have hWe':=hWe oo;rw[hWe'] at hclr;have hb11:(p:Int)≤(p:Int)+1:=oo;clear happ hWe hWe';go_enter Tryz.func115,Tryz.ntmps115;go_wp2_with fail;go_region_law_o (fail);go_wp2_with(at_builtin;refine og rfl _ 40 rfl _ rfl (hclr _ _) ?_);go_ret;exact⟨some ⟨g,0,none⟩,p+1,rfl,hO,hBl⟩
 ·have hap:=fun ty=>happ ⟨g,(p+1)*2,none⟩ ty (c - (p+1)) (.inr rfl)
  clear happ hWe;go_enter Tryz.func115,Tryz.ntmps115;go_wp2_with fail;go_region_law_o (refine dQ rfl _ _ 40 40 rfl (.slice (some ⟨g,0,none⟩) p c) (.slice (some ⟨g,(p+1)*2,none⟩) (m - p) (c - (p+1))) (by simp [Act.eval,Act.put]) (by simp [Act.eval,Act.put]) (hap _) ?_);go_wp2_with(at_builtin;refine og rfl _ 40 rfl _ rfl (hclr _ _) ?_);go_ret;exact⟨some ⟨g,0,none⟩,c,rfl,hO,hBl⟩
end Go.Proofs.YtfppmajoidkooaaGreatDoor
