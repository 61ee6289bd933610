import Derived.Test.YtfppmajoidkooaaGreatDoorUS22
import Derived.Deep.Cut
set_option linter.unusedVariables false
set_option linter.unusedSimpArgs false
set_option maxHeartbeats 8000000
namespace Go.Proofs.YtfppmajoidkooaaGreatDoor
open Go.RowKit
set_option maxRecDepth 100000
attribute [local go_sem high] zy zA zB zO zK zY zx zk zl zq zi zo yP zD yt zF
theorem Q7 (o l m:Int)(dict:Bs)(b:Blk)(lo hi:Int)(w:World)(hf:fits o l m dict)(hbo:b.ok=true)(hd:b.dat (zt o l m dict)=none):
 Calls Tryz.prog 211 #[.agg #[.int .i64 o,.int .i64 l,.int .i64 m],sv dict,bkV b,.int .i64 lo,.int .i64 hi] w fun e w'=>e= .returned (.tuple #[.agg xB,.bool false])∧Below w.heap.size w w':=by
 have cD:=fun w=>mP o l m dict b w hf (by have:=pW hbo;omega);rw[hd] at cD;unfold xY at cD;simp only[Option.getD_none,Option.isSome_none] at cD;clear hf hd hbo;obtain⟨n2,r,n4,T⟩:=b;go_enter Tryz.func211,Tryz.ntmps211;have hA:Bk (((w.alloc (.cells #[.int .i64 o,.int .i64 l,.int .i64 m] 39)).alloc (.cells (bkC ⟨n2,r,n4,T⟩) 160)).alloc (.cells xB 160)) w.heap.size 39 #[.int .i64 o,.int .i64 l,.int .i64 m]:=tBk;have hB:Bk (((w.alloc (.cells #[.int .i64 o,.int .i64 l,.int .i64 m] 39)).alloc (.cells (bkC ⟨n2,r,n4,T⟩) 160)).alloc (.cells xB 160)) (w.heap.size+1) 160 (bkC ⟨n2,r,n4,T⟩):=tBk;have hC:Bk (((w.alloc (.cells #[.int .i64 o,.int .i64 l,.int .i64 m] 39)).alloc (.cells (bkC ⟨n2,r,n4,T⟩) 160)).alloc (.cells xB 160)) (w.heap.size+1+1) 160 xB:=tBk;have g0:Below w.heap.size w (((w.alloc (.cells #[.int .i64 o,.int .i64 l,.int .i64 m] 39)).alloc (.cells (bkC ⟨n2,r,n4,T⟩) 160)).alloc (.cells xB 160)):=zu;go_upto_region 1 with(fail)
 generalize((w.alloc (.cells #[.int .i64 o,.int .i64 l,.int .i64 m] 39)).alloc (.cells (bkC ⟨n2,r,n4,T⟩) 160)).alloc (.cells xB 160)=w0 at*;have hXA:=hA.cell;have hXB:=hB.cell;have hz:=hC.lt;go_wp2_with fail;refine(cD _).mono ?_;rintro e w1 ⟨rfl,b1⟩;have hC1:=hC.below b1 hz;have g1:=g0.trans (b1.mono oo);have hX:=hC1.cell;have hF:=hC1.free;have z1:=b1.size;clear hXA hXB hA hB hC b1 g0 cD;go_wp2;have Q:=((((hC1.set 0 (.int .i64 0)).set 1 (.bool false)).set 2 (.int .i64 0)).set 3 (.string ⟨#[]⟩)).cell;exact bodyPost_ret (v:=.tuple #[.agg xB,.bool false]) (by simp [results,Tryz.results211,go_sem,Q]) rfl ⟨rfl,zu⟩
theorem TD (o l m:Int)(dict:Bs)(b:Blk)(D:Bs)(lo hi:Nat)(w:World)(hf:fits o l m dict)(hbo:b.ok=true)(hd:b.dat (zt o l m dict)=some D)(h1:lo≤hi)(h2:hi≤D.length):
 Calls Tryz.prog 211 #[.agg #[.int .i64 o,.int .i64 l,.int .i64 m],sv dict,bkV b,.int .i64 (lo:Int),.int .i64 (hi:Int)] w fun e w'=>e= .returned (.tuple #[bkV (xJ (zt o l m dict) 0 ((D.drop lo).take (hi - lo))),.bool true])∧Below w.heap.size w w':=by
 have cD:=fun w=>mP o l m dict b w hf (by have:=pW hbo;omega);have hDl:D.length≤64:=(by have:=sD hbo hd;have:=Blk.vk hbo;omega);rw[hd] at cD;unfold xY at cD;simp only[Option.getD_some,Option.isSome_some] at cD;have cB:=fun w=>pI o l m dict 0 ((D.drop lo).take (hi - lo)) w hf (by simp;omega);have hR:lF o l m dict 0 ((D.drop lo).take (hi - lo))=xJ (zt o l m dict) 0 ((D.drop lo).take (hi - lo)):=rfl;rw[hR] at cB;generalize xJ (zt o l m dict) 0 ((D.drop lo).take (hi - lo))=c at*;clear hf hd hbo hR;obtain⟨n2,r,n4,T⟩:=b;obtain⟨m2,s,m4,U⟩:=c;go_enter Tryz.func211,Tryz.ntmps211;have hA:Bk (((w.alloc (.cells #[.int .i64 o,.int .i64 l,.int .i64 m] 39)).alloc (.cells (bkC ⟨n2,r,n4,T⟩) 160)).alloc (.cells xB 160)) w.heap.size 39 #[.int .i64 o,.int .i64 l,.int .i64 m]:=tBk;have hB:Bk (((w.alloc (.cells #[.int .i64 o,.int .i64 l,.int .i64 m] 39)).alloc (.cells (bkC ⟨n2,r,n4,T⟩) 160)).alloc (.cells xB 160)) (w.heap.size+1) 160 (bkC ⟨n2,r,n4,T⟩):=tBk;have hC:Bk (((w.alloc (.cells #[.int .i64 o,.int .i64 l,.int .i64 m] 39)).alloc (.cells (bkC ⟨n2,r,n4,T⟩) 160)).alloc (.cells xB 160)) (w.heap.size+1+1) 160 xB:=tBk;have g0:Below w.heap.size w (((w.alloc (.cells #[.int .i64 o,.int .i64 l,.int .i64 m] 39)).alloc (.cells (bkC ⟨n2,r,n4,T⟩) 160)).alloc (.cells xB 160)):=zu;go_upto_region 1 with(fail)
 generalize((w.alloc (.cells #[.int .i64 o,.int .i64 l,.int .i64 m] 39)).alloc (.cells (bkC ⟨n2,r,n4,T⟩) 160)).alloc (.cells xB 160)=w0 at*;have hXA:=hA.cell;have hXB:=hB.cell;have hz:=hC.lt;go_wp2_with fail;refine(cD _).mono ?_;rintro e w1 ⟨rfl,b1⟩;have hA1:=hA.below b1 oo;have hC1:=hC.below b1 hz;have g1:=g0.trans (b1.mono oo);have hX:=hA1.cell;have z1:=b1.size;clear hXA hXB hA hB hC b1 g0 cD;go_upto_region 4 with(fail)
 refine wp_region_held_drew (S:=(fun w'=>w'.cell? ⟨w.heap.size,0,none⟩=some (.int .i64 o)∧w'.cell? ⟨w.heap.size,1,none⟩=some (.int .i64 l)∧w'.cell? ⟨w.heap.size,2,none⟩=some (.int .i64 m))) kr ?_ (fun hSS=> ?_);focus((refine⟨?_,?_,?_⟩;all_goals first|(simp [hX8];done)|(simp [hX];done)|exact hA9.cell 0|exact hA9.cell 1|exact hA9.cell 2))
 refine tk 0 ?_;try simp only[Act.put,u2,u3,u4]
 refine tk 1 ?_;try simp only[Act.put,u2,u3,u4]
 refine tk 2 ?_;try simp only[Act.put,u2,u3,u4]
 refine tk 3 ?_;try simp only[Act.put,u2,u3,u4]
 refine tk 4 ?_;try simp only[Act.put,u2,u3,u4]
 refine tk 5 ?_;try simp only[Act.put,u2,u3,u4]
 refine rd1 6 fun KK hKK=> ?_;go_simp
 (go_at_call 175;refine(cB _).mono ?_;rintro e8 w8 ⟨rfl,b8⟩;have b8:Below w1.heap.size w1 w8:=zG b8;have z8:=b8.size;have hA8:=hA1.below b8 oo;have hC8:=hC1.below b8 oo;have g8:=g1.trans (b8.mono oo);have hX8:=hA8.cell;have hY8:=hC8.cell;have hF8:=hC8.free;have hC9:=((((hC8.set 0 (.int .i64 m2)).set 1 (.bool s)).set 2 (.int .i64 m4)).set 3 (.string ⟨U.toArray⟩));have hA9:=((((hA8.far (p:=⟨w.heap.size+1+1,0,none⟩) (by show w.heap.size≠w.heap.size+1+1;omega) (.int .i64 m2)).far (p:=⟨w.heap.size+1+1,1,none⟩) (by show w.heap.size≠w.heap.size+1+1;omega) (.bool s)).far (p:=⟨w.heap.size+1+1,2,none⟩) (by show w.heap.size≠w.heap.size+1+1;omega) (.int .i64 m4)).far (p:=⟨w.heap.size+1+1,3,none⟩) (by show w.heap.size≠w.heap.size+1+1;omega) (.string ⟨U.toArray⟩)))
 refine hKK.out _ _ (by(refine⟨?_,?_,?_⟩;all_goals first|(simp [hX8];done)|(simp [hX];done)|exact hA9.cell 0|exact hA9.cell 1|exact hA9.cell 2)) fun hSS=> ?_;try simp only[Act.put,u2,u3,u4]
 refine rd1 7 fun KK hKK=> ?_;go_simp;refine hKK.out _ _ (by(refine⟨?_,?_,?_⟩;all_goals first|(simp [hX8];done)|(simp [hX];done)|exact hA9.cell 0|exact hA9.cell 1|exact hA9.cell 2)) fun hSS=> ?_;try simp only[Act.put,u2,u3,u4]
 refine tk 8 ?_;try simp only[Act.put,u2,u3,u4]
 refine wpAnyH_done kr ?_ _;simp only[List.getElem_toArray,List.getElem_cons_succ,List.getElem_cons_zero,Act.put,List.setIfInBounds_toArray,List.set_cons_zero,List.set_cons_succ];have Q:=hC9.cell;clear hKK;go_wp2;exact bodyPost_ret (v:=.tuple #[bkV ⟨m2,s,m4,U⟩,.bool true]) (by simp [results,Tryz.results211,go_sem,Q]) rfl ⟨rfl,zu⟩
theorem mQ {w w':World}{q0 gb x:Nat}{u0 u1 u2 v0 v1 v2 v3:Value}(hk:∀a:Addr,(a.block=q0∨a.block=gb)→w'.cell? a=w.cell? a)
 (h:(w.cell? ⟨q0,0,none⟩=some u0∧w.cell? ⟨q0,1,none⟩=some u1∧w.cell? ⟨q0,2,none⟩=some u2)∧w.cell? ⟨gb,x,none⟩=some v0∧w.cell? ⟨gb,x+1,none⟩=some v1∧w.cell? ⟨gb,x+2,none⟩=some v2∧w.cell? ⟨gb,x+3,none⟩=some v3):
 (w'.cell? ⟨q0,0,none⟩=some u0∧w'.cell? ⟨q0,1,none⟩=some u1∧w'.cell? ⟨q0,2,none⟩=some u2)∧w'.cell? ⟨gb,x,none⟩=some v0∧w'.cell? ⟨gb,x+1,none⟩=some v1∧w'.cell? ⟨gb,x+2,none⟩=some v2∧w'.cell? ⟨gb,x+3,none⟩=some v3:=
 ⟨⟨(hk _ (.inl rfl)).trans h.1.1,(hk _ (.inl rfl)).trans h.1.2.1,(hk _ (.inl rfl)).trans h.1.2.2⟩,(hk _ (.inr rfl)).trans h.2.1,(hk _ (.inr rfl)).trans h.2.2.1,(hk _ (.inr rfl)).trans h.2.2.2.1,(hk _ (.inr rfl)).trans h.2.2.2.2⟩
theorem jf {w:World}{q:Nat}{a:Addr}(h:a.block≠q)(u0 u1 u2 u3:Value):((((w.setCell ⟨q,0,none⟩ u0).setCell ⟨q,1,none⟩ u1).setCell ⟨q,2,none⟩ u2).setCell ⟨q,3,none⟩ u3).cell? a=w.cell? a:=
 World.cell?_of_block ((Below.heap_setCell _ ⟨q,3,none⟩ u3 _ h).trans ((Below.heap_setCell _ ⟨q,2,none⟩ u2 _ h).trans ((Below.heap_setCell _ ⟨q,1,none⟩ u1 _ h).trans (Below.heap_setCell _ ⟨q,0,none⟩ u0 _ h))))
theorem Us {w:World}{q B n s:Nat}{e:TypeId}{v:Value}{xs:List Value}(h:w.ownsRow B e s v n xs)(hq:v.ownBlock≠some q)(u0 u1 u2 u3:Value):((((w.setCell ⟨q,0,none⟩ u0).setCell ⟨q,1,none⟩ u1).setCell ⟨q,2,none⟩ u2).setCell ⟨q,3,none⟩ u3).ownsRow B e s v n xs:=
 ownsRow_setCell_other (a:=⟨q,3,none⟩) (ownsRow_setCell_other (a:=⟨q,2,none⟩) (ownsRow_setCell_other (a:=⟨q,1,none⟩) (ownsRow_setCell_other (a:=⟨q,0,none⟩) h hq u0) hq u1) hq u2) hq u3
def Ls (O:Option (List Blk))(w:World)(e:Ending)(w':World):Prop:=Below w.heap.size w w'∧((O=none∧∃v,e= .returned (.tuple #[v,.bool false]))∨∃P,O=some P∧∃A cap,e= .returned (.tuple #[.slice A P.length cap,.bool true])∧w'.ownsRow w.heap.size 160 4 (.slice A P.length cap) P.length (zS P))
theorem Xe (o l m : Int) (dict : Bs) (bs : List Blk) (A : Option Addr) (cap : Nat) (f t : Int) (w : World) (hf : fits o l m dict) (hs : Sl w A bs.length cap 4 (zS bs)) (hok : ∀ b ∈ bs, b.ok = true) (hl : bs.length ≤ 40) (hf0 : 0 ≤ f) (hf1 : f ≤ 3000) (ht0 : 0 ≤ t) (ht1 : t ≤ 3000) :
    Calls Tryz.prog 174 #[.agg #[.int .i64 o, .int .i64 l, .int .i64 m], sv dict, .slice A bs.length cap, .int .i64 f, .int .i64 t] w (Ls (wM (zt o l m dict) f t 0 bs) w) := by
  obtain ⟨i, hi, hz0, hz1, hz2⟩ := info_parts xW
  have cN : Hid (∀ b lo hi w, b.ok = true → b.dat (zt o l m dict) = none → Calls Tryz.prog 211 #[.agg #[.int .i64 o, .int .i64 l, .int .i64 m], sv dict, bkV b, .int .i64 lo, .int .i64 hi] w fun e w' => e = .returned (.tuple #[.agg xB, .bool false]) ∧ Below w.heap.size w w') := fun b lo hi w h1 h2 => Q7 o l m dict b lo hi w hf h1 h2
  have cY : Hid (∀ b D (lo hi : Nat) w, b.ok = true → b.dat (zt o l m dict) = some D → lo ≤ hi → hi ≤ D.length → Calls Tryz.prog 211 #[.agg #[.int .i64 o, .int .i64 l, .int .i64 m], sv dict, bkV b, .int .i64 (lo : Int), .int .i64 (hi : Int)] w fun e w' => e = .returned (.tuple #[bkV (xJ (zt o l m dict) 0 ((D.drop lo).take (hi - lo))), .bool true]) ∧ Below w.heap.size w w') := fun b D lo hi w h1 h2 h3 h4 => TD o l m dict b D lo hi w hf h1 h2 h3 h4
  have hcap := hs.1
  have hcap2 := hs.2.1
  have HOK := Go.Lib.hid hok
  have HSL : Hid (∀ wr, Below w.heap.size w wr → Sl wr A bs.length cap 4 (zS bs)) := fun wr h => hs.below h
  clear hf hs hok
  generalize zt o l m dict = K at *
  obtain ⟨R, hR⟩ : ∃ R, wM K f t 0 bs = R := ⟨_, rfl⟩
  rw [hR]
  have HR := Go.Lib.hid hR
  clear hR
  unfold Ls
  go_enter Tryz.func174, Tryz.ntmps174
  have hK0 : Bk (w.alloc (.cells #[.int .i64 o, .int .i64 l, .int .i64 m] 39)) w.heap.size 39 #[.int .i64 o, .int .i64 l, .int .i64 m] := tBk
  have g0 : Below w.heap.size w (w.alloc (.cells #[.int .i64 o, .int .i64 l, .int .i64 m] 39)) := zu
  have s0 : (w.alloc (.cells #[.int .i64 o, .int .i64 l, .int .i64 m] 39)).heap.size = w.heap.size + 1 := by simp
  go_upto_region 1 with (fail)
  generalize w.alloc (.cells #[.int .i64 o, .int .i64 l, .int .i64 m] 39) = w0 at *
  have o0 := vK (base := w.heap.size + 1) (size := 4) (Bk.new w0 #[] 160) oo
  rw [s0] at o0
  have hK1 := hK0.alloc (.cells #[] 160)
  have g1 := g0.alloc oo (.cells #[] 160)
  go_upto_region 2 with (fail)
  generalize w0.alloc (.cells #[] 160) = w1 at *
  clear hK0 g0
  go_wp2
  go_loopw [12, 13, 14] (fun a b c wr => ∃ (k : Nat) (P : List Blk) (Ao : Option Addr) (co : Nat), a = .slice Ao P.length co ∧ b = .int .i64 (zn (bs.take k)) ∧ c = .int .i64 (k : Int) ∧ k ≤ bs.length ∧ P.length ≤ k ∧ Hid (wM K f t 0 (bs.take k) = some P) ∧ wr.ownsRow (w.heap.size + 1) 160 4 (.slice Ao P.length co) P.length (zS P) ∧ Bk wr w.heap.size 39 #[.int .i64 o, .int .i64 l, .int .i64 m] ∧ Below w.heap.size w wr) (fun _ _ c _ => bs.length - (intOf c).toNat)
  case atStart => exact ⟨0, [], _, 0, rfl, rfl, rfl, by omega, by simp, rfl, o0, hK1, g1⟩
  case round =>
    obtain ⟨k, P, Ao, co, rfl, rfl, rfl, hk, hP, HP, ow, hK, g⟩ := hrel
    clear hK1 g1 o0
    have hz := g.size
    have hkl := hK.lt
    have hsb := vJ (bs.take k) (fun b hb => HOK.out b (List.mem_of_mem_take hb))
    have htl : (bs.take k).length ≤ 40 := by simp; omega
    obtain ⟨hsb1, hsb2⟩ := hsb
    have hsb3 : zn (bs.take k) ≤ 2560 := oo
    clear hsb2 htl
    by_cases hlt : k < bs.length
    · have hki : (k : Int) < bs.length := oo
      have hsA := HSL.out wr g
      obtain ⟨gb, off, rfl, hg, hc⟩ := Sl.jw hsA hlt
      have hcs := ql bs k hlt
      have c0 := hc 0 _ hcs.1
      have c1 := hc 1 _ hcs.2.1
      have c2 := hc 2 _ hcs.2.2.1
      have c3 := hc 3 _ hcs.2.2.2
      have hbo := HOK.out bs[k] (List.getElem_mem hlt)
      have hbs := Blk.vk hbo
      have HS2 : Hid (zn (bs.take (k + 1)) = zn (bs.take k) + bs[k].size) := by show _ = _; rw [List.take_succ_eq_append_getElem hlt, vT]
      have HST : Hid (∀ y, xZ K (zn (bs.take k)) f t bs[k] = some y → wM K f t 0 (bs.take (k + 1)) = some (P ++ y)) := fun y h => XN hlt HP.out h
      have HNO : Hid (xZ K (zn (bs.take k)) f t bs[k] = none → R = none) := fun h => by rw [← HR.out]; exact XK hlt h
      have cNk := fun lo hi w => cN.out bs[k] lo hi w hbo
      have cYk := fun D lo hi w => cY.out bs[k] D lo hi w hbo
      have HDL : Hid (∀ D, bs[k].dat K = some D → (D.length : Int) = bs[k].size) := fun D h => sD hbo h
      generalize bs[k] = b at *
      generalize zn (bs.take k) = S at *
      have CNK := Go.Lib.hid cNk
      have CYK := Go.Lib.hid cYk
      have HBO := Go.Lib.hid hbo
      clear hc hcs hsA HP hbo cNk cYk
      obtain ⟨n2, r, n4, T⟩ := b
      simp only [Nat.add_zero] at c0 c1 c2 c3 hbs HS2
      obtain ⟨hb1, hb2, hb3, hb4⟩ := hbs
      obtain ⟨lo, hlo⟩ : ∃ lo : Nat, max (f - S) 0 = (lo : Int) := ⟨(max (f - S) 0).toNat, oo⟩
      obtain ⟨hi', hhi⟩ : ∃ h : Int, min (t - S) n4 = h := ⟨_, rfl⟩
      have hm1 : P.length + 1 ≤ maxLen := by unfold maxLen; omega
      have hm2 : (P.length + 1) * 40 ≤ 140737488355328 := oo
      have hX := hK.cell
      by_cases hA : hi' ≤ (lo : Int)
      · -- nothing of it
        have HC := Go.Lib.hid (HST.out [] (by unfold xZ; rw [if_pos (by simp only; omega)]))
        rw [List.append_nil] at HC
        go_wp2
        go_roundw
        case rel => exact ⟨k + 1, P, Ao, co, rfl, by rw [HS2.out], by go_num, by omega, by omega, HC, ow, hK, g⟩
        case measure => simp [intOf]; omega
      obtain ⟨hv, rfl⟩ := Int.eq_ofNat_of_zero_le (by omega : 0 ≤ hi')
      by_cases hW : lo = 0 ∧ (hv : Int) = n4
      · -- all of it
        obtain ⟨hW1, hW2⟩ := hW
        have hd1 : ¬ (0 : Int) < (lo : Int) := oo
        have hd2 : ¬ (hv : Int) < n4 := oo
        have HC := Go.Lib.hid (HST.out [⟨n2, r, n4, T⟩] (by unfold xZ; rw [if_neg (by simp only; omega), if_pos (by simp only; omega)]))
        go_upto_region 16 with (fail)
        have hN := Bk.new wr (bkC ⟨n2, r, n4, T⟩) 160
        have ow2 := ow.alloc (.cells (bkC ⟨n2, r, n4, T⟩) 160)
        have hK2 := hK.alloc (.cells (bkC ⟨n2, r, n4, T⟩) 160)
        have g2 := g.alloc oo (.cells (bkC ⟨n2, r, n4, T⟩) 160)
        generalize wr.alloc (.cells _ 160) = W at *
        have hXN := hN.cell
        have zz := g2.size
        clear ow hK g hX c0 c1 c2 c3
        go_wp2_with (at_builtin; go_must (refine zN _ rfl _ _ 133 rfl (w.heap.size + 1) 160 i _ 4 40 Tryz.underlying133 hi hz0 hz1 hz2 rfl (by omega) _ _ _ rfl (ow2.alloc _) _ 1 1 [.int .i64 n2, .bool r, .int .i64 n4, .string ⟨T.toArray⟩] rfl (Sl.newAt W #[.int .i64 n2, .bool r, .int .i64 n4, .string ⟨T.toArray⟩] _ 1 4 (by first | rfl | simp) (by simp) (by omega)) (by simp [Value.oneCell']) hm1 hm2 ?_ ?_))
        try (case refine_1 => first | omega | (simp <;> omega; done))
        intro A3 cap3 w3 o3 hg3 _
        have g3 := yw g2 hg3 (by first | omega | (simp; omega)) (fun k hk => by have := (ow2.lt k hk).1; omega)
        have hK3 := Bk.grown (hK2.alloc _) hg3 (fun k hk => by have := (ow2.lt k hk).1; omega)
        have o3' : w3.ownsRow (w.heap.size + 1) 160 4 (.slice A3 (P ++ [(⟨n2, r, n4, T⟩ : Blk)]).length cap3) (P ++ [(⟨n2, r, n4, T⟩ : Blk)]).length (zS (P ++ [(⟨n2, r, n4, T⟩ : Blk)])) := by
          rw [xE, List.length_append]; exact o3
        have hol : (P ++ [(⟨n2, r, n4, T⟩ : Blk)]).length = P.length + 1 := by simp
        have HOL := Go.Lib.hid hol
        clear o3 hg3 ow2 g2 hol hK2
        clear hXN hN
        go_wp2
        go_roundw
        case rel => exact ⟨k + 1, P ++ [(⟨n2, r, n4, T⟩ : Blk)], A3, cap3, (by rw [HOL.out]), by rw [HS2.out], by go_num, by omega, by rw [HOL.out]; omega, HC, o3', hK3, g3⟩
        case measure => simp [intOf]; omega
      · -- a part of it
        rcases Nat.eq_zero_or_pos lo with hl0 | hl0
        · subst hl0
          have hd1 : ¬ (0 : Int) < 0 := oo
          have hd2 : (hv : Int) < n4 := oo
          simp only [show ((0 : Nat) : Int) = 0 from rfl] at hlo
          have hcut : xZ K S f t ⟨n2, r, n4, T⟩ = ((⟨n2, r, n4, T⟩ : Blk).dat K).map fun d => [xJ K 0 ((d.drop 0).take (hv - 0))] := by
            unfold xZ
            rw [if_neg (by simp only; omega), if_neg (by simp only; omega)]
            simp only
            rw [show (max S f - S).toNat = 0 by omega, show (min (S + n4) t - max S f).toNat = hv - 0 by omega]
          rw [hcut] at HST HNO
          clear hcut
          cases hD : (⟨n2, r, n4, T⟩ : Blk).dat K with
          | none =>
            rw [hD] at HNO
            have hE := HNO.out rfl
            have cP := fun w => CNK.out 0 (hv : Int) w hD
            clear HNO HST CNK CYK hD
            subst hE
            go_upto_region 13 with (fail)
            have hN := Bk.new wr (bkC ⟨n2, r, n4, T⟩) 160
            have ow1 := ow.alloc (.cells (bkC ⟨n2, r, n4, T⟩) 160)
            have hK1 := hK.alloc (.cells (bkC ⟨n2, r, n4, T⟩) 160)
            have g1 := g.alloc oo (.cells (bkC ⟨n2, r, n4, T⟩) 160)
            have hNl := hN.lt
            have hS1 := mQ (w' := wr.alloc (.cells (bkC ⟨n2, r, n4, T⟩) 160)) (q0 := w.heap.size) (gb := gb) (fun a ha => World.cell?_alloc_old wr _ _ (by rcases ha with h | h <;> (rw [h]; omega))) ⟨⟨hK.cell 0, hK.cell 1, hK.cell 2⟩, c0, c1, c2, c3⟩
            have hqb : (Value.slice Ao P.length co).ownBlock ≠ some wr.heap.size := fun h => by have := (ow.lt _ h).2; omega
            have hq1 : w.heap.size < wr.heap.size := hkl
            have hgb : gb < wr.heap.size := hg
            obtain ⟨q, hq⟩ : ∃ q, wr.heap.size = q := ⟨_, rfl⟩
            generalize wr.alloc (.cells _ 160) = W at *
            rw [hq] at hN hNl hqb hq1 hgb
            rw [hq]
            clear ow hK g hX c0 c1 c2 c3 hq
            refine wp_region_held_drew (S := (fun w' => (w'.cell? ⟨w.heap.size, 0, none⟩ = some (.int .i64 o) ∧ w'.cell? ⟨w.heap.size, 1, none⟩ = some (.int .i64 l) ∧ w'.cell? ⟨w.heap.size, 2, none⟩ = some (.int .i64 m)) ∧ w'.cell? ⟨gb, off + k * 4, none⟩ = some (.int .i64 n2) ∧ w'.cell? ⟨gb, off + k * 4 + 1, none⟩ = some (.bool r) ∧ w'.cell? ⟨gb, off + k * 4 + 2, none⟩ = some (.int .i64 n4) ∧ w'.cell? ⟨gb, off + k * 4 + 3, none⟩ = some (.string ⟨T.toArray⟩))) kr ?_ (fun hSS => ?_)
            focus ((first | exact hS9 | exact hS8 | exact hS1))
            refine tk 0 ?_
            try simp only [Act.put, u2, u3, u4]
            refine tk 1 ?_
            try simp only [Act.put, u2, u3, u4]
            refine tk 2 ?_
            try simp only [Act.put, u2, u3, u4]
            refine tk 3 ?_
            try simp only [Act.put, u2, u3, u4]
            refine tk 4 ?_
            try simp only [Act.put, u2, u3, u4]
            refine tk 5 ?_
            try simp only [Act.put, u2, u3, u4]
            refine tk 6 ?_
            try simp only [Act.put, u2, u3, u4]
            refine tk 7 ?_
            try simp only [Act.put, u2, u3, u4]
            refine rd1 8 fun KK hKK => ?_
            go_simp
            (go_at_call 211; refine (cP _).mono ?_; rintro e8 w8 ⟨rfl, b8⟩; have b8 : Below W.heap.size W w8 := zG b8; have z8 := b8.size; have hK8 := hK1.below b8 (by omega); have hN8 := hN.below b8 hNl; have ow8 := zf ow1 b8; have g8 := g1.trans (b8.mono (by omega)); have hY8 := hN8.cell; have hF8 := hN8.free; have hS8 := mQ (w' := w8) (fun a ha => b8.cell (by rcases ha with h | h <;> (rw [h]; omega))) hS1; have hN9 := ((((hN8.set 0 (.int .i64 0)).set 1 (.bool false)).set 2 (.int .i64 0)).set 3 (.string ⟨#[]⟩)); have hS9 := mQ (w' := (((w8.setCell ⟨q, 0, none⟩ (.int .i64 0)).setCell ⟨q, 1, none⟩ (.bool false)).setCell ⟨q, 2, none⟩ (.int .i64 0)).setCell ⟨q, 3, none⟩ (.string ⟨#[]⟩)) (fun a ha => jf (by rcases ha with h | h <;> (rw [h]; omega)) _ _ _ _) hS8)
            refine hKK.out _ _ (by (first | exact hS9 | exact hS8 | exact hS1)) fun hSS => ?_
            try simp only [Act.put, u2, u3, u4]
            refine tk 9 ?_
            try simp only [Act.put, u2, u3, u4]
            refine tk 10 ?_
            try simp only [Act.put, u2, u3, u4]
            refine tk 11 ?_
            try simp only [Act.put, u2, u3, u4]
            refine rd1 12 fun KK hKK => ?_
            go_simp
            refine hKK.out _ _ (by (first | exact hS9 | exact hS8 | exact hS1)) fun hSS => ?_
            try simp only [Act.put, u2, u3, u4]
            refine tk 13 ?_
            try simp only [Act.put, u2, u3, u4]
            refine wpAnyH_done kr ?_ _
            simp only [List.getElem_toArray, List.getElem_cons_succ, List.getElem_cons_zero, Act.put, List.setIfInBounds_toArray, List.set_cons_zero, List.set_cons_succ]
            clear hKK
            have g9 : Below w.heap.size w ((((w8.setCell ⟨q, 0, none⟩ (.int .i64 0)).setCell ⟨q, 1, none⟩ (.bool false)).setCell ⟨q, 2, none⟩ (.int .i64 0)).setCell ⟨q, 3, none⟩ (.string ⟨#[]⟩)) := zu
            go_wp2
            go_ret2
            exact ⟨g9, by first | exact .inl ⟨rfl, _, rfl⟩ | exact ⟨_, rfl⟩⟩
          | some D =>
            have hDl := HDL.out D hD
            simp only at hDl
            have HC : Hid (wM K f t 0 (bs.take (k + 1)) = some (P ++ [xJ K 0 ((D.drop 0).take (hv - 0))])) := HST.out _ (by rw [hD]; rfl)
            have cP := fun w => CYK.out D 0 hv w hD oo oo
            simp only [show ((0 : Nat) : Int) = 0 from rfl] at cP
            generalize xJ K 0 ((D.drop 0).take (hv - 0)) = c at *
            clear HNO HST CNK CYK hD
            obtain ⟨m2, s, m4, U⟩ := c
            go_upto_region 13 with (fail)
            have hN := Bk.new wr (bkC ⟨n2, r, n4, T⟩) 160
            have ow1 := ow.alloc (.cells (bkC ⟨n2, r, n4, T⟩) 160)
            have hK1 := hK.alloc (.cells (bkC ⟨n2, r, n4, T⟩) 160)
            have g1 := g.alloc oo (.cells (bkC ⟨n2, r, n4, T⟩) 160)
            have hNl := hN.lt
            have hS1 := mQ (w' := wr.alloc (.cells (bkC ⟨n2, r, n4, T⟩) 160)) (q0 := w.heap.size) (gb := gb) (fun a ha => World.cell?_alloc_old wr _ _ (by rcases ha with h | h <;> (rw [h]; omega))) ⟨⟨hK.cell 0, hK.cell 1, hK.cell 2⟩, c0, c1, c2, c3⟩
            have hqb : (Value.slice Ao P.length co).ownBlock ≠ some wr.heap.size := fun h => by have := (ow.lt _ h).2; omega
            have hq1 : w.heap.size < wr.heap.size := hkl
            have hgb : gb < wr.heap.size := hg
            obtain ⟨q, hq⟩ : ∃ q, wr.heap.size = q := ⟨_, rfl⟩
            generalize wr.alloc (.cells _ 160) = W at *
            rw [hq] at hN hNl hqb hq1 hgb
            rw [hq]
            clear ow hK g hX c0 c1 c2 c3 hq
            refine wp_region_held_drew (S := (fun w' => (w'.cell? ⟨w.heap.size, 0, none⟩ = some (.int .i64 o) ∧ w'.cell? ⟨w.heap.size, 1, none⟩ = some (.int .i64 l) ∧ w'.cell? ⟨w.heap.size, 2, none⟩ = some (.int .i64 m)) ∧ w'.cell? ⟨gb, off + k * 4, none⟩ = some (.int .i64 n2) ∧ w'.cell? ⟨gb, off + k * 4 + 1, none⟩ = some (.bool r) ∧ w'.cell? ⟨gb, off + k * 4 + 2, none⟩ = some (.int .i64 n4) ∧ w'.cell? ⟨gb, off + k * 4 + 3, none⟩ = some (.string ⟨T.toArray⟩))) kr ?_ (fun hSS => ?_)
            focus ((first | exact hS9 | exact hS8 | exact hS1))
            refine tk 0 ?_
            try simp only [Act.put, u2, u3, u4]
            refine tk 1 ?_
            try simp only [Act.put, u2, u3, u4]
            refine tk 2 ?_
            try simp only [Act.put, u2, u3, u4]
            refine tk 3 ?_
            try simp only [Act.put, u2, u3, u4]
            refine tk 4 ?_
            try simp only [Act.put, u2, u3, u4]
            refine tk 5 ?_
            try simp only [Act.put, u2, u3, u4]
            refine tk 6 ?_
            try simp only [Act.put, u2, u3, u4]
            refine tk 7 ?_
            try simp only [Act.put, u2, u3, u4]
            refine rd1 8 fun KK hKK => ?_
            go_simp
            (go_at_call 211; refine (cP _).mono ?_; rintro e8 w8 ⟨rfl, b8⟩; have b8 : Below W.heap.size W w8 := zG b8; have z8 := b8.size; have hK8 := hK1.below b8 (by omega); have hN8 := hN.below b8 hNl; have ow8 := zf ow1 b8; have g8 := g1.trans (b8.mono (by omega)); have hY8 := hN8.cell; have hF8 := hN8.free; have hS8 := mQ (w' := w8) (fun a ha => b8.cell (by rcases ha with h | h <;> (rw [h]; omega))) hS1; have hN9 := ((((hN8.set 0 (.int .i64 m2)).set 1 (.bool s)).set 2 (.int .i64 m4)).set 3 (.string ⟨U.toArray⟩)); have hS9 := mQ (w' := (((w8.setCell ⟨q, 0, none⟩ (.int .i64 m2)).setCell ⟨q, 1, none⟩ (.bool s)).setCell ⟨q, 2, none⟩ (.int .i64 m4)).setCell ⟨q, 3, none⟩ (.string ⟨U.toArray⟩)) (fun a ha => jf (by rcases ha with h | h <;> (rw [h]; omega)) _ _ _ _) hS8)
            refine hKK.out _ _ (by (first | exact hS9 | exact hS8 | exact hS1)) fun hSS => ?_
            try simp only [Act.put, u2, u3, u4]
            refine tk 9 ?_
            try simp only [Act.put, u2, u3, u4]
            refine tk 10 ?_
            try simp only [Act.put, u2, u3, u4]
            refine tk 11 ?_
            try simp only [Act.put, u2, u3, u4]
            refine rd1 12 fun KK hKK => ?_
            go_simp
            refine hKK.out _ _ (by (first | exact hS9 | exact hS8 | exact hS1)) fun hSS => ?_
            try simp only [Act.put, u2, u3, u4]
            refine tk 13 ?_
            try simp only [Act.put, u2, u3, u4]
            refine wpAnyH_done kr ?_ _
            simp only [List.getElem_toArray, List.getElem_cons_succ, List.getElem_cons_zero, Act.put, List.setIfInBounds_toArray, List.set_cons_zero, List.set_cons_succ]
            clear hKK
            have g2 : Below w.heap.size w ((((w8.setCell ⟨q, 0, none⟩ (.int .i64 m2)).setCell ⟨q, 1, none⟩ (.bool s)).setCell ⟨q, 2, none⟩ (.int .i64 m4)).setCell ⟨q, 3, none⟩ (.string ⟨U.toArray⟩)) := zu
            have ow2 := Us ow8 hqb (.int .i64 m2) (.bool s) (.int .i64 m4) (.string ⟨U.toArray⟩)
            have hK2 : Bk ((((w8.setCell ⟨q, 0, none⟩ (.int .i64 m2)).setCell ⟨q, 1, none⟩ (.bool s)).setCell ⟨q, 2, none⟩ (.int .i64 m4)).setCell ⟨q, 3, none⟩ (.string ⟨U.toArray⟩)) w.heap.size 39 #[.int .i64 o, .int .i64 l, .int .i64 m] := (((hK8.far (p := ⟨q, 0, none⟩) (by show w.heap.size ≠ q; omega) _).far (p := ⟨q, 1, none⟩) (by show w.heap.size ≠ q; omega) _).far (p := ⟨q, 2, none⟩) (by show w.heap.size ≠ q; omega) _).far (p := ⟨q, 3, none⟩) (by show w.heap.size ≠ q; omega) _
            have zW : q < ((((w8.setCell ⟨q, 0, none⟩ (.int .i64 m2)).setCell ⟨q, 1, none⟩ (.bool s)).setCell ⟨q, 2, none⟩ (.int .i64 m4)).setCell ⟨q, 3, none⟩ (.string ⟨U.toArray⟩)).heap.size := hN9.lt
            clear hS1 hS8 hS9 hK8 hN8 hN ow8 ow1 g8 hY8 hF8 hK1 g1 b8 cP
            generalize (((w8.setCell ⟨q, 0, none⟩ (.int .i64 m2)).setCell ⟨q, 1, none⟩ (.bool s)).setCell ⟨q, 2, none⟩ (.int .i64 m4)).setCell ⟨q, 3, none⟩ (.string ⟨U.toArray⟩) = W2 at *
            have hXN := hN9.cell
            have zz := g2.size
            go_wp2_with (at_builtin; go_must (refine zN _ rfl _ _ 133 rfl (w.heap.size + 1) 160 i _ 4 40 Tryz.underlying133 hi hz0 hz1 hz2 rfl (by omega) _ _ _ rfl (ow2.alloc _) _ 1 1 [.int .i64 m2, .bool s, .int .i64 m4, .string ⟨U.toArray⟩] rfl (Sl.newAt W2 #[.int .i64 m2, .bool s, .int .i64 m4, .string ⟨U.toArray⟩] _ 1 4 (by first | rfl | simp) (by simp) (by omega)) (by simp [Value.oneCell']) hm1 hm2 ?_ ?_))
            try (case refine_1 => first | omega | (simp <;> omega; done))
            intro A3 cap3 w3 o3 hg3 _
            have g3 := yw g2 hg3 (by first | omega | (simp; omega)) (fun k hk => by have := (ow2.lt k hk).1; omega)
            have hK3 := Bk.grown (hK2.alloc _) hg3 (fun k hk => by have := (ow2.lt k hk).1; omega)
            have o3' : w3.ownsRow (w.heap.size + 1) 160 4 (.slice A3 (P ++ [(⟨m2, s, m4, U⟩ : Blk)]).length cap3) (P ++ [(⟨m2, s, m4, U⟩ : Blk)]).length (zS (P ++ [(⟨m2, s, m4, U⟩ : Blk)])) := by
              rw [xE, List.length_append]; exact o3
            have hol : (P ++ [(⟨m2, s, m4, U⟩ : Blk)]).length = P.length + 1 := by simp
            have HOL := Go.Lib.hid hol
            clear o3 hg3 ow2 g2 hol hK2
            clear hXN hN9
            go_wp2
            go_roundw
            case rel => exact ⟨k + 1, P ++ [(⟨m2, s, m4, U⟩ : Blk)], A3, cap3, (by rw [HOL.out]), by rw [HS2.out], by go_num, by omega, by rw [HOL.out]; omega, HC, o3', hK3, g3⟩
            case measure => simp [intOf]; omega
        · have hd1 : (0 : Int) < (lo : Int) := oo
          have hcut : xZ K S f t ⟨n2, r, n4, T⟩ = ((⟨n2, r, n4, T⟩ : Blk).dat K).map fun d => [xJ K 0 ((d.drop lo).take (hv - lo))] := by
            unfold xZ
            rw [if_neg (by simp only; omega), if_neg (by simp only; omega)]
            simp only
            rw [show (max S f - S).toNat = lo by omega, show (min (S + n4) t - max S f).toNat = hv - lo by omega]
          rw [hcut] at HST HNO
          clear hcut
          cases hD : (⟨n2, r, n4, T⟩ : Blk).dat K with
          | none =>
            rw [hD] at HNO
            have hE := HNO.out rfl
            have cP := fun w => CNK.out (lo : Int) (hv : Int) w hD
            clear HNO HST CNK CYK hD
            subst hE
            go_upto_region 13 with (fail)
            have hN := Bk.new wr (bkC ⟨n2, r, n4, T⟩) 160
            have ow1 := ow.alloc (.cells (bkC ⟨n2, r, n4, T⟩) 160)
            have hK1 := hK.alloc (.cells (bkC ⟨n2, r, n4, T⟩) 160)
            have g1 := g.alloc oo (.cells (bkC ⟨n2, r, n4, T⟩) 160)
            have hNl := hN.lt
            have hS1 := mQ (w' := wr.alloc (.cells (bkC ⟨n2, r, n4, T⟩) 160)) (q0 := w.heap.size) (gb := gb) (fun a ha => World.cell?_alloc_old wr _ _ (by rcases ha with h | h <;> (rw [h]; omega))) ⟨⟨hK.cell 0, hK.cell 1, hK.cell 2⟩, c0, c1, c2, c3⟩
            have hqb : (Value.slice Ao P.length co).ownBlock ≠ some wr.heap.size := fun h => by have := (ow.lt _ h).2; omega
            have hq1 : w.heap.size < wr.heap.size := hkl
            have hgb : gb < wr.heap.size := hg
            obtain ⟨q, hq⟩ : ∃ q, wr.heap.size = q := ⟨_, rfl⟩
            generalize wr.alloc (.cells _ 160) = W at *
            rw [hq] at hN hNl hqb hq1 hgb
            rw [hq]
            clear ow hK g hX c0 c1 c2 c3 hq
            refine wp_region_held_drew (S := (fun w' => (w'.cell? ⟨w.heap.size, 0, none⟩ = some (.int .i64 o) ∧ w'.cell? ⟨w.heap.size, 1, none⟩ = some (.int .i64 l) ∧ w'.cell? ⟨w.heap.size, 2, none⟩ = some (.int .i64 m)) ∧ w'.cell? ⟨gb, off + k * 4, none⟩ = some (.int .i64 n2) ∧ w'.cell? ⟨gb, off + k * 4 + 1, none⟩ = some (.bool r) ∧ w'.cell? ⟨gb, off + k * 4 + 2, none⟩ = some (.int .i64 n4) ∧ w'.cell? ⟨gb, off + k * 4 + 3, none⟩ = some (.string ⟨T.toArray⟩))) kr ?_ (fun hSS => ?_)
            focus ((first | exact hS9 | exact hS8 | exact hS1))
            refine tk 0 ?_
            try simp only [Act.put, u2, u3, u4]
            refine tk 1 ?_
            try simp only [Act.put, u2, u3, u4]
            refine tk 2 ?_
            try simp only [Act.put, u2, u3, u4]
            refine tk 3 ?_
            try simp only [Act.put, u2, u3, u4]
            refine tk 4 ?_
            try simp only [Act.put, u2, u3, u4]
            refine tk 5 ?_
            try simp only [Act.put, u2, u3, u4]
            refine tk 6 ?_
            try simp only [Act.put, u2, u3, u4]
            refine tk 7 ?_
            try simp only [Act.put, u2, u3, u4]
            refine rd1 8 fun KK hKK => ?_
            go_simp
            (go_at_call 211; refine (cP _).mono ?_; rintro e8 w8 ⟨rfl, b8⟩; have b8 : Below W.heap.size W w8 := zG b8; have z8 := b8.size; have hK8 := hK1.below b8 (by omega); have hN8 := hN.below b8 hNl; have ow8 := zf ow1 b8; have g8 := g1.trans (b8.mono (by omega)); have hY8 := hN8.cell; have hF8 := hN8.free; have hS8 := mQ (w' := w8) (fun a ha => b8.cell (by rcases ha with h | h <;> (rw [h]; omega))) hS1; have hN9 := ((((hN8.set 0 (.int .i64 0)).set 1 (.bool false)).set 2 (.int .i64 0)).set 3 (.string ⟨#[]⟩)); have hS9 := mQ (w' := (((w8.setCell ⟨q, 0, none⟩ (.int .i64 0)).setCell ⟨q, 1, none⟩ (.bool false)).setCell ⟨q, 2, none⟩ (.int .i64 0)).setCell ⟨q, 3, none⟩ (.string ⟨#[]⟩)) (fun a ha => jf (by rcases ha with h | h <;> (rw [h]; omega)) _ _ _ _) hS8)
            refine hKK.out _ _ (by (first | exact hS9 | exact hS8 | exact hS1)) fun hSS => ?_
            try simp only [Act.put, u2, u3, u4]
            refine tk 9 ?_
            try simp only [Act.put, u2, u3, u4]
            refine tk 10 ?_
            try simp only [Act.put, u2, u3, u4]
            refine tk 11 ?_
            try simp only [Act.put, u2, u3, u4]
            refine rd1 12 fun KK hKK => ?_
            go_simp
            refine hKK.out _ _ (by (first | exact hS9 | exact hS8 | exact hS1)) fun hSS => ?_
            try simp only [Act.put, u2, u3, u4]
            refine tk 13 ?_
            try simp only [Act.put, u2, u3, u4]
            refine wpAnyH_done kr ?_ _
            simp only [List.getElem_toArray, List.getElem_cons_succ, List.getElem_cons_zero, Act.put, List.setIfInBounds_toArray, List.set_cons_zero, List.set_cons_succ]
            clear hKK
            have g9 : Below w.heap.size w ((((w8.setCell ⟨q, 0, none⟩ (.int .i64 0)).setCell ⟨q, 1, none⟩ (.bool false)).setCell ⟨q, 2, none⟩ (.int .i64 0)).setCell ⟨q, 3, none⟩ (.string ⟨#[]⟩)) := zu
            go_wp2
            go_ret2
            exact ⟨g9, by first | exact .inl ⟨rfl, _, rfl⟩ | exact ⟨_, rfl⟩⟩
          | some D =>
            have hDl := HDL.out D hD
            simp only at hDl
            have HC : Hid (wM K f t 0 (bs.take (k + 1)) = some (P ++ [xJ K 0 ((D.drop lo).take (hv - lo))])) := HST.out _ (by rw [hD]; rfl)
            have cP := fun w => CYK.out D lo hv w hD oo oo
            generalize xJ K 0 ((D.drop lo).take (hv - lo)) = c at *
            clear HNO HST CNK CYK hD
            obtain ⟨m2, s, m4, U⟩ := c
            go_upto_region 13 with (fail)
            have hN := Bk.new wr (bkC ⟨n2, r, n4, T⟩) 160
            have ow1 := ow.alloc (.cells (bkC ⟨n2, r, n4, T⟩) 160)
            have hK1 := hK.alloc (.cells (bkC ⟨n2, r, n4, T⟩) 160)
            have g1 := g.alloc oo (.cells (bkC ⟨n2, r, n4, T⟩) 160)
            have hNl := hN.lt
            have hS1 := mQ (w' := wr.alloc (.cells (bkC ⟨n2, r, n4, T⟩) 160)) (q0 := w.heap.size) (gb := gb) (fun a ha => World.cell?_alloc_old wr _ _ (by rcases ha with h | h <;> (rw [h]; omega))) ⟨⟨hK.cell 0, hK.cell 1, hK.cell 2⟩, c0, c1, c2, c3⟩
            have hqb : (Value.slice Ao P.length co).ownBlock ≠ some wr.heap.size := fun h => by have := (ow.lt _ h).2; omega
            have hq1 : w.heap.size < wr.heap.size := hkl
            have hgb : gb < wr.heap.size := hg
            obtain ⟨q, hq⟩ : ∃ q, wr.heap.size = q := ⟨_, rfl⟩
            generalize wr.alloc (.cells _ 160) = W at *
            rw [hq] at hN hNl hqb hq1 hgb
            rw [hq]
            clear ow hK g hX c0 c1 c2 c3 hq
            refine wp_region_held_drew (S := (fun w' => (w'.cell? ⟨w.heap.size, 0, none⟩ = some (.int .i64 o) ∧ w'.cell? ⟨w.heap.size, 1, none⟩ = some (.int .i64 l) ∧ w'.cell? ⟨w.heap.size, 2, none⟩ = some (.int .i64 m)) ∧ w'.cell? ⟨gb, off + k * 4, none⟩ = some (.int .i64 n2) ∧ w'.cell? ⟨gb, off + k * 4 + 1, none⟩ = some (.bool r) ∧ w'.cell? ⟨gb, off + k * 4 + 2, none⟩ = some (.int .i64 n4) ∧ w'.cell? ⟨gb, off + k * 4 + 3, none⟩ = some (.string ⟨T.toArray⟩))) kr ?_ (fun hSS => ?_)
            focus ((first | exact hS9 | exact hS8 | exact hS1))
            refine tk 0 ?_
            try simp only [Act.put, u2, u3, u4]
            refine tk 1 ?_
            try simp only [Act.put, u2, u3, u4]
            refine tk 2 ?_
            try simp only [Act.put, u2, u3, u4]
            refine tk 3 ?_
            try simp only [Act.put, u2, u3, u4]
            refine tk 4 ?_
            try simp only [Act.put, u2, u3, u4]
            refine tk 5 ?_
            try simp only [Act.put, u2, u3, u4]
            refine tk 6 ?_
            try simp only [Act.put, u2, u3, u4]
            refine tk 7 ?_
            try simp only [Act.put, u2, u3, u4]
            refine rd1 8 fun KK hKK => ?_
            go_simp
            (go_at_call 211; refine (cP _).mono ?_; rintro e8 w8 ⟨rfl, b8⟩; have b8 : Below W.heap.size W w8 := zG b8; have z8 := b8.size; have hK8 := hK1.below b8 (by omega); have hN8 := hN.below b8 hNl; have ow8 := zf ow1 b8; have g8 := g1.trans (b8.mono (by omega)); have hY8 := hN8.cell; have hF8 := hN8.free; have hS8 := mQ (w' := w8) (fun a ha => b8.cell (by rcases ha with h | h <;> (rw [h]; omega))) hS1; have hN9 := ((((hN8.set 0 (.int .i64 m2)).set 1 (.bool s)).set 2 (.int .i64 m4)).set 3 (.string ⟨U.toArray⟩)); have hS9 := mQ (w' := (((w8.setCell ⟨q, 0, none⟩ (.int .i64 m2)).setCell ⟨q, 1, none⟩ (.bool s)).setCell ⟨q, 2, none⟩ (.int .i64 m4)).setCell ⟨q, 3, none⟩ (.string ⟨U.toArray⟩)) (fun a ha => jf (by rcases ha with h | h <;> (rw [h]; omega)) _ _ _ _) hS8)
            refine hKK.out _ _ (by (first | exact hS9 | exact hS8 | exact hS1)) fun hSS => ?_
            try simp only [Act.put, u2, u3, u4]
            refine tk 9 ?_
            try simp only [Act.put, u2, u3, u4]
            refine tk 10 ?_
            try simp only [Act.put, u2, u3, u4]
            refine tk 11 ?_
            try simp only [Act.put, u2, u3, u4]
            refine rd1 12 fun KK hKK => ?_
            go_simp
            refine hKK.out _ _ (by (first | exact hS9 | exact hS8 | exact hS1)) fun hSS => ?_
            try simp only [Act.put, u2, u3, u4]
            refine tk 13 ?_
            try simp only [Act.put, u2, u3, u4]
            refine wpAnyH_done kr ?_ _
            simp only [List.getElem_toArray, List.getElem_cons_succ, List.getElem_cons_zero, Act.put, List.setIfInBounds_toArray, List.set_cons_zero, List.set_cons_succ]
            clear hKK
            have g2 : Below w.heap.size w ((((w8.setCell ⟨q, 0, none⟩ (.int .i64 m2)).setCell ⟨q, 1, none⟩ (.bool s)).setCell ⟨q, 2, none⟩ (.int .i64 m4)).setCell ⟨q, 3, none⟩ (.string ⟨U.toArray⟩)) := zu
            have ow2 := Us ow8 hqb (.int .i64 m2) (.bool s) (.int .i64 m4) (.string ⟨U.toArray⟩)
            have hK2 : Bk ((((w8.setCell ⟨q, 0, none⟩ (.int .i64 m2)).setCell ⟨q, 1, none⟩ (.bool s)).setCell ⟨q, 2, none⟩ (.int .i64 m4)).setCell ⟨q, 3, none⟩ (.string ⟨U.toArray⟩)) w.heap.size 39 #[.int .i64 o, .int .i64 l, .int .i64 m] := (((hK8.far (p := ⟨q, 0, none⟩) (by show w.heap.size ≠ q; omega) _).far (p := ⟨q, 1, none⟩) (by show w.heap.size ≠ q; omega) _).far (p := ⟨q, 2, none⟩) (by show w.heap.size ≠ q; omega) _).far (p := ⟨q, 3, none⟩) (by show w.heap.size ≠ q; omega) _
            have zW : q < ((((w8.setCell ⟨q, 0, none⟩ (.int .i64 m2)).setCell ⟨q, 1, none⟩ (.bool s)).setCell ⟨q, 2, none⟩ (.int .i64 m4)).setCell ⟨q, 3, none⟩ (.string ⟨U.toArray⟩)).heap.size := hN9.lt
            clear hS1 hS8 hS9 hK8 hN8 hN ow8 ow1 g8 hY8 hF8 hK1 g1 b8 cP
            generalize (((w8.setCell ⟨q, 0, none⟩ (.int .i64 m2)).setCell ⟨q, 1, none⟩ (.bool s)).setCell ⟨q, 2, none⟩ (.int .i64 m4)).setCell ⟨q, 3, none⟩ (.string ⟨U.toArray⟩) = W2 at *
            have hXN := hN9.cell
            have zz := g2.size
            go_wp2_with (at_builtin; go_must (refine zN _ rfl _ _ 133 rfl (w.heap.size + 1) 160 i _ 4 40 Tryz.underlying133 hi hz0 hz1 hz2 rfl (by omega) _ _ _ rfl (ow2.alloc _) _ 1 1 [.int .i64 m2, .bool s, .int .i64 m4, .string ⟨U.toArray⟩] rfl (Sl.newAt W2 #[.int .i64 m2, .bool s, .int .i64 m4, .string ⟨U.toArray⟩] _ 1 4 (by first | rfl | simp) (by simp) (by omega)) (by simp [Value.oneCell']) hm1 hm2 ?_ ?_))
            try (case refine_1 => first | omega | (simp <;> omega; done))
            intro A3 cap3 w3 o3 hg3 _
            have g3 := yw g2 hg3 (by first | omega | (simp; omega)) (fun k hk => by have := (ow2.lt k hk).1; omega)
            have hK3 := Bk.grown (hK2.alloc _) hg3 (fun k hk => by have := (ow2.lt k hk).1; omega)
            have o3' : w3.ownsRow (w.heap.size + 1) 160 4 (.slice A3 (P ++ [(⟨m2, s, m4, U⟩ : Blk)]).length cap3) (P ++ [(⟨m2, s, m4, U⟩ : Blk)]).length (zS (P ++ [(⟨m2, s, m4, U⟩ : Blk)])) := by
              rw [xE, List.length_append]; exact o3
            have hol : (P ++ [(⟨m2, s, m4, U⟩ : Blk)]).length = P.length + 1 := by simp
            have HOL := Go.Lib.hid hol
            clear o3 hg3 ow2 g2 hol hK2
            clear hXN hN9
            go_wp2
            go_roundw
            case rel => exact ⟨k + 1, P ++ [(⟨m2, s, m4, U⟩ : Blk)], A3, cap3, (by rw [HOL.out]), by rw [HS2.out], by go_num, by omega, by rw [HOL.out]; omega, HC, o3', hK3, g3⟩
            case measure => simp [intOf]; omega
    · have hki : ¬ (k : Int) < bs.length := oo
      have HE : Hid (R = some P) := by show _ = _; rw [← HR.out, ← HP.out, List.take_of_length_le (by omega)]
      go_wp2
      go_ret2
      exact ⟨g, .inr ⟨P, HE.out, Ao, co, rfl, zC ow oo⟩⟩
end Go.Proofs.YtfppmajoidkooaaGreatDoor
