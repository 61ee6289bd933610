import Derived.Test.YtfppmajoidkooaaGreatDoorUS23
import Derived.Test.YtfppmajoidkooaaGreatDoorUGW
import Derived.Deep.Cut
import Derived.Test.YtfppmajoidkooaaGreatDoorUS22
import Derived.Test.YtfppmajoidkooaaGreatDoorUR1
set_option linter.unusedVariables false
set_option linter.unusedSimpArgs false
set_option maxHeartbeats 8000000
namespace Go.Proofs.YtfppmajoidkooaaGreatDoor
open Go.RowKit
set_option maxRecDepth 100000
attribute [local go_sem high] zy zA zB zO zK zY zx zk zl zq zi zo yP zD yt zF
def KN (O:Option (List Blk))(v:Value)(ok:Bool)(B:Nat)(w':World):Prop:=(O=none∧ok=false)∨∃P A cap,O=some P∧ok=true∧v= .slice A P.length cap∧w'.ownsRow B 160 4 (.slice A P.length cap) P.length (zS P)
theorem Ls.out {O:Option (List Blk)}{w w':World}{e:Ending}(h:Ls O w e w'):∃v ok,e= .returned (.tuple #[v,.bool ok])∧Below w.heap.size w w'∧KN O v ok w.heap.size w':=by
 obtain⟨hb,h⟩:=h;rcases h with⟨h1,v,h2⟩|⟨P,h1,A,cap,h2,h3⟩
 ·exact⟨v,false,h2,hb,.inl ⟨h1,rfl⟩⟩
 ·exact⟨_,true,h2,hb,.inr ⟨P,A,cap,h1,rfl,rfl,h3⟩⟩
theorem P9 {w w':World}{B n s:Nat}{e:TypeId}{v:Value}{xs:List Value}{row:Option Nat}(h:w.ownsRow B e s v n xs)(hg:w.grownBy w' row)(hne:∀k,v.ownBlock=some k→row≠some k):w'.ownsRow B e s v n xs:=
 h.kept hg (by
  cases hv:v.ownBlock with
  |none=>exact .inl rfl
  |some k=>exact .inr (fun he=>hne k hv he.symm))
theorem gY (o l m:Int)(dict t:Bs)(f t2:Int)(d:Bs)(size:Int)(w:World)(hl:dict.length≤9223372036854775807)(htl:t.length≤1500000)(hd:d.length≤9223372036854775807)(hs0: -1000000≤size)(hs1:size≤1000000)
 (hf0: -9223372036854775808≤f) (hf1:f≤9223372036854775807) (ht0: -9223372036854775808≤t2) (ht1:t2≤9223372036854775807):
 Calls Tryz.prog 143 #[.agg #[.int .i64 o,.int .i64 l,.int .i64 m],sv dict,sv t,.int .i64 f,.int .i64 t2,sv d,.int .i64 size] w fun e w'=>e=zZ (rpD o l m dict t f t2 d size)∧Below w.heap.size w w':=by
 obtain⟨i,hi,hz0,hz1,hz2⟩:=info_parts xW;have cB:=fun w=>qh t w htl;unfold mM at cB;have cR:=fun w=>jM o l m dict size w hl;have cM:=fun w=>Zf d size w hd hs0 hs1;have HN:Hid ((zT t=none∨¬(fits o l m dict∧1≤size∧size≤64)∨(∀bs,zT t=some bs→¬(0≤f∧f≤t2∧t2≤zn bs))∨(2000<d.length∨size*40<(d.length:Int)))→rpD o l m dict t f t2 d size=none):=fun h=>by
  unfold rpD;by_cases hf:fits o l m dict
  ·rw[if_pos hf]
   cases hB:zT t with
   |none=>rfl
   |some bs=>
    rw[Option.bind_some];split
    ·rename_i hr
     rcases h with h|h|h|h
     ·rw[hB] at h;cases h
     ·unfold nwO;rw[if_neg (fun h2=>h ⟨hf,h2.1,h2.2.1⟩)];rfl
     ·exact absurd hr (h bs hB)
     ·unfold nwO;rw[if_neg (fun h2=>by omega)];rfl
    ·rfl
  ·rw[if_neg hf]
 have HY:Hid (∀bs,zT t=some bs→(fits o l m dict∧1≤size∧size≤64)→(0≤f∧f≤t2∧t2≤zn bs)→¬(2000<d.length∨size*40<(d.length:Int))→rpD o l m dict t f t2 d size=(wM (zt o l m dict) 0 f 0 bs).bind fun a=>(wM (zt o l m dict) t2 (zn bs) 0 bs).bind fun e=>mcO (a++mks (zt o l m dict) size.toNat d.length d++e)):=fun bs h1 h2 hr h3=>by
  unfold rpD nwO;rw[if_pos h2.1,h1,Option.bind_some,if_pos hr,if_pos ⟨h2.2.1,h2.2.2,by omega,by omega⟩];rfl
 obtain⟨R,hR⟩:∃R,rpD o l m dict t f t2 d size=R:=⟨_,rfl⟩;rw[hR] at HN HY⊢;clear hR;go_enter Tryz.func143,Tryz.ntmps143;have hK0:Bk (w.alloc (.cells #[.int .i64 o,.int .i64 l,.int .i64 m] 39)) w.heap.size 39 #[.int .i64 o,.int .i64 l,.int .i64 m]:=tBk;have g0:Below w.heap.size w (w.alloc (.cells #[.int .i64 o,.int .i64 l,.int .i64 m] 39)):=zu;go_upto_region 1 with(fail)
 generalize w.alloc (.cells #[.int .i64 o,.int .i64 l,.int .i64 m] 39)=w0 at*;go_wp2_with fail;refine(cB _).mono ?_;rintro e w1 ⟨A1,c1,rfl,o1,b1⟩;have z0:=g0.size;have z1:=b1.size;have hk0:=hK0.lt;have hK1:=hK0.below b1 hk0;have g1:=g0.trans (b1.mono oo);have hX1:=hK1.cell;have hk1:=hK1.lt;clear hK0 g0 b1 cB
 cases hB:zT t with
 |none=>
  have h:=HN.out (.inl hB);subst h;simp only[hB,Option.elim_none,Option.isSome_none];go_wp2;exact bodyPost_ret (v:=.tuple #[sv [],.bool false]) (by simp [results,Tryz.results143,go_sem]) rfl ⟨rfl,g1⟩
 |some bs=>
  have hbok:=xU hB;have hb40:=(xN hB).2;rw[hB] at o1;simp only[hB,Option.elim_some,Option.isSome_some,Option.getD_some] at o1⊢;go_wp2_with fail;refine(cR _).mono ?_;rintro e w2 ⟨rfl,b2⟩;have z2:=b2.size;have hK2:=hK1.below b2 hk1;have g2:=g1.trans (b2.mono oo);have hX2:=hK2.cell;have o2:=zf o1 b2;clear hK1 g1 b2 cR hX1 o1;by_cases hr:fits o l m dict∧1≤size∧size≤64
  case neg=>
   have h:=HN.out (.inr (.inl hr));subst h;rw[decide_eq_false hr];clear hr;go_wp2;exact bodyPost_ret (v:=.tuple #[sv [],.bool false]) (by simp [results,Tryz.results143,go_sem]) rfl ⟨rfl,g2⟩
  rw[decide_eq_true hr];have sb1:=Sl.own o2;have cZ:=iG bs A1 c1 w2 sb1 hbok oo;have hsz:=vJ bs hbok;have hsz2:=Xd hB;go_wp2_with fail;refine cZ.mono ?_;rintro e w21 ⟨rfl,b21⟩;have z21:=b21.size;have hK21:=hK2.below b21 oo;have g21:=g2.trans (b21.mono oo);have hX21:=hK21.cell;have o21:=zf o2 b21;clear hK2 g2 b21 hX2 o2 sb1 cZ;go_wp2_with fail;refine(bM _ _ _ _).mono ?_;rintro e w' ⟨rfl,rfl⟩;by_cases hq:0≤f∧f≤t2∧t2≤zn bs
  case neg=>
   have h:=HN.out (.inr (.inr (.inl (fun bs' hbs'=>by rw[hB] at hbs';injection hbs' with hbs';subst hbs';exact hq))));subst h;rw[decide_eq_false hq];clear hr hq;go_wp2;exact bodyPost_ret (v:=.tuple #[sv [],.bool false]) (by simp [results,Tryz.results143,go_sem]) rfl ⟨rfl,g21⟩
  rw[decide_eq_true hq];have hK2:=hK21;have g2:=g21;have hX2:=hX21;have o2:=o21;clear hK21 g21 hX21 o21;go_wp2_with fail;refine(cM _).mono ?_;rintro e w3 ⟨rfl,b3⟩;have z3:=b3.size;have hK3:=hK2.below b3 oo;have g3:=g2.trans (b3.mono oo);have hX3:=hK3.cell;have o3:=zf o2 b3;clear hK2 g2 b3 cM hX2 o2;by_cases hm:2000<d.length∨size*40<(d.length:Int)
  case pos=>
   have h:=HN.out (.inr (.inr (.inr hm)));subst h;rw[decide_eq_true hm];clear hr hm hq;go_wp2;exact bodyPost_ret (v:=.tuple #[sv [],.bool false]) (by simp [results,Tryz.results143,go_sem]) rfl ⟨rfl,g3⟩
  rw[decide_eq_false hm];have h:=HY.out bs hB hr hq hm;obtain⟨n,rfl⟩:=Int.eq_ofNat_of_zero_le (by omega:0≤size);rw[Int.toNat_natCast] at h;have hk:=xC hr.1;have hl2:(mks (zt o l m dict) n d.length d).length≤40:=by
   unfold mks;rw[List.length_map];exact uS n (by omega) 40 _ d (by omega)
  have hokm:=Zu hk n d.length oo oo d;have cS:=fun w=>bG o l m dict d n w hr.1 oo oo oo;have hU1:=fun x=>kS (f:=0) (t:=f) hk bs 0 x hbok;have hU2:=fun x=>kS (f:=t2) (t:=zn bs) hk bs 0 x hbok;have s3:=Sl.own o3;have cC:Hid (∀wr,Below w3.heap.size w3 wr→Calls Tryz.prog 174 #[.agg #[.int .i64 o,.int .i64 l,.int .i64 m],sv dict,.slice A1 bs.length c1,.int .i64 0,.int .i64 f] wr fun e w'=>∃v ok,e= .returned (.tuple #[v,.bool ok])∧Below wr.heap.size wr w'∧KN (wM (zt o l m dict) 0 f 0 bs) v ok wr.heap.size w'):=fun wr hw=>(Xe o l m dict bs A1 c1 0 f wr hr.1 (s3.below hw) hbok hb40 oo oo oo oo).mono fun e w' h=>h.out;have cC2:Hid (∀wr,Below w3.heap.size w3 wr→Calls Tryz.prog 174 #[.agg #[.int .i64 o,.int .i64 l,.int .i64 m],sv dict,.slice A1 bs.length c1,.int .i64 t2,.int .i64 (zn bs)] wr fun e w'=>∃v ok,e= .returned (.tuple #[v,.bool ok])∧Below wr.heap.size wr w'∧KN (wM (zt o l m dict) t2 (zn bs) 0 bs) v ok wr.heap.size w'):=fun wr hw=>(Xe o l m dict bs A1 c1 t2 (zn bs) wr hr.1 (s3.below hw) hbok hb40 oo oo oo oo).mono fun e w' h=>h.out;have cZ2:Hid (∀wr,Below w3.heap.size w3 wr→Calls Tryz.prog 173 #[.slice A1 bs.length c1] wr fun e w'=>e= .returned (.int .i64 (zn bs))∧Below wr.heap.size wr w'):=fun wr hw=>iG bs A1 c1 wr (s3.below hw) hbok oo;generalize mks (zt o l m dict) n d.length d=cs at*;generalize zt o l m dict=K at*;clear hr hq hm hbok HN HY hk s3 o3 hsz hsz2;generalize zn bs=z at*;have r3:=Below.refl w3.heap.size w3;go_wp2_with fail;refine(cC.out _ r3).mono ?_;rintro e w4 ⟨v4,k4,rfl,b4,hV4⟩;have z4:=b4.size;have hK4:=hK3.below b4 oo;have g4:=g3.trans (b4.mono oo);have hX4:=hK4.cell;clear cC hK3 g3 hX3 r3;go_wp2_with fail;refine wp_region_held_drew (S:=(fun w'=>w'.cell? ⟨w.heap.size,0,none⟩=some (.int .i64 o)∧w'.cell? ⟨w.heap.size,1,none⟩=some (.int .i64 l)∧w'.cell? ⟨w.heap.size,2,none⟩=some (.int .i64 m))) kr ?_ (fun hSS=> ?_);focus((refine⟨?_,?_,?_⟩;all_goals first|(simp [hX6];done)|(simp [hX5];done)|(simp [hX4];done)))
  refine tk 0 ?_;try simp only[Act.put,u2,u3,u4]
  refine tk 1 ?_;try simp only[Act.put,u2,u3,u4]
  refine tk 2 ?_;try simp only[Act.put,u2,u3,u4]
  refine tk 3 ?_;try simp only[Act.put,u2,u3,u4]
  refine tk 4 ?_;try simp only[Act.put,u2,u3,u4]
  refine rd1 5 fun KK hKK=> ?_;go_simp
  (go_at_call 173;refine(cZ2.out _ yL).mono ?_;rintro e5 w5 ⟨rfl,b5⟩;have b5:Below w4.heap.size w4 w5:=zG b5;have z5:=b5.size;have hK5:=hK4.below b5 oo;have g5:=g4.trans (b5.mono oo);have B5:=b4.trans (b5.mono oo);have hX5:=hK5.cell)
  refine hKK.out _ _ (by(refine⟨?_,?_,?_⟩;all_goals first|(simp [hX6];done)|(simp [hX5];done)|(simp [hX4];done))) fun hSS=> ?_;try simp only[Act.put,u2,u3,u4]
  refine rd1 6 fun KK hKK=> ?_;go_simp
  (go_at_call 174;refine(cC2.out _ B5).mono ?_;rintro e6 w6 ⟨v6,k6,rfl,b6,hV6⟩;have z6:=b6.size;have hK6:=hK5.below b6 oo;have g6:=g5.trans (b6.mono oo);have hX6:=hK6.cell)
  refine hKK.out _ _ (by(refine⟨?_,?_,?_⟩;all_goals first|(simp [hX6];done)|(simp [hX5];done)|(simp [hX4];done))) fun hSS=> ?_;try simp only[Act.put,u2,u3,u4]
  refine tk 7 ?_;try simp only[Act.put,u2,u3,u4]
  refine tk 8 ?_;try simp only[Act.put,u2,u3,u4]
  refine tk 9 ?_;try simp only[Act.put,u2,u3,u4]
  refine tk 10 ?_;try simp only[Act.put,u2,u3,u4]
  refine tk 11 ?_;try simp only[Act.put,u2,u3,u4]
  refine wpAnyH_done kr ?_ _;simp only[List.getElem_toArray,List.getElem_cons_succ,List.getElem_cons_zero,Act.put,List.setIfInBounds_toArray,List.set_cons_zero,List.set_cons_succ];clear hKK cC2 cZ2 hK4 hK5 g4 g5 hX4 hX5 B5;rcases hV4 with⟨hO1,rfl⟩|⟨P,A4,c4,hO1,rfl,rfl,o4⟩
  ·have hE:R=none:=by rw[h,hO1];rfl
   subst hE;clear h hU1 hU2 hV6;go_wp2;exact bodyPost_ret (v:=.tuple #[sv [],.bool false]) (by simp [results,Tryz.results143,go_sem]) rfl ⟨rfl,g6⟩
  rcases hV6 with⟨hO2,rfl⟩|⟨E,A6,c6,hO2,rfl,rfl,o6⟩
  ·have hE:R=none:=by rw[h,hO1,hO2];rfl
   subst hE;clear h hU1 hU2 o4;go_wp2;exact bodyPost_ret (v:=.tuple #[sv [],.bool false]) (by simp [results,Tryz.results143,go_sem]) rfl ⟨rfl,g6⟩
  obtain⟨hp1,hp2⟩:=hU1 P hO1;obtain⟨hp3,hp4⟩:=hU2 E hO2;have hE:R=mcO (P++cs++E):=(by rw[h,hO1,hO2];rfl);have hokA:=pq (pq hp1 hokm) hp3;have hl3:(P++cs++E).length=P.length+cs.length+E.length:=(by simp;omega);have hbv:zS (P++cs++E)=zS P++zS cs++zS E:=(by unfold zS;rw[List.flatMap_append,List.flatMap_append]);have cE:Hid (∀A cap wr,Sl wr A (P.length+cs.length+E.length) cap 4 (zS P++zS cs++zS E)→Calls Tryz.prog 171 #[.slice A (P.length+cs.length+E.length) cap] wr fun e w'=>e=zZ R∧Below wr.heap.size wr w'):=fun A cap wr hs=>by
   rw[←hl3] at hs⊢;rw[←hbv] at hs;rw[hE];exact nO (P++cs++E) A cap wr hs hokA (by rw[hl3];omega)
  have hm1:P.length+cs.length≤maxLen:=(by unfold maxLen;omega);have hm2:(P.length+cs.length)*40≤140737488355328:=oo;have hm3:P.length+cs.length+E.length≤maxLen:=(by unfold maxLen;omega);have hm4:(P.length+cs.length+E.length)*40≤140737488355328:=oo;have h1c:∀u ∈ zS cs,u.oneCell'=true:=Zv cs;have h1e:∀u ∈ zS E,u.oneCell'=true:=Zv E;have o4b:=zf (zf o4 b5) b6;have hne:∀k,(Value.slice A6 E.length c6).ownBlock=some k→(Value.slice A4 P.length c4).ownBlock≠some k:=fun k hk hk2=>by
   have h1:=(o4.lt k hk2).2;have h2:=(o6.lt k hk).1;have:=b5.size;omega
  clear hU1 hU2 hO1 hO2 hp1 hp3 h hE hokA hl3 hbv hokm b4 b5 b6 o4;go_wp2_with fail;refine(cS _).mono ?_;rintro e w7 ⟨A7,c7,rfl,o7,b7⟩;have z7:=b7.size;have g7:=g6.trans (b7.mono oo);have o4c:=zf o4b b7;have o6c:=zf o6 b7;have s7:=Sl.own o7;clear hK6 g6 b7 cS hX6 o4b o6 o7;go_wp2_with(at_builtin;go_must(refine zN _ rfl _ _ 133 rfl w0.heap.size 160 i _ 4 40 Tryz.underlying133 hi hz0 hz1 hz2 rfl oo _ _ _ rfl (zC o4c oo) _ cs.length c7 (zS cs) rfl s7 h1c hm1 hm2 ?_ ?_))
  ·omega
  intro A8 c8 w8 o8 hg8 _;have g8:=g7.grown hg8 oo (fun k hk=>by have:=(o4c.lt k hk).1;omega);have z78:=hg8.size;have s8:=Sl.own (P9 o6c hg8 hne);have z8:=g8.size;clear o4c s7 o6c hg8 g7 hne;go_wp2_with(at_builtin;go_must(refine zN _ rfl _ _ 133 rfl w0.heap.size 160 i _ 4 40 Tryz.underlying133 hi hz0 hz1 hz2 rfl oo _ _ _ rfl o8 _ E.length c6 (zS E) rfl s8 h1e hm3 hm4 ?_ ?_))
  ·omega
  intro A9 c9 w9 o9 hg9 _;have g9:=g8.grown hg9 oo (fun k hk=>by have:=(o8.lt k hk).1;omega);have s9:Sl w9 A9 (P.length+cs.length+E.length) c9 4 (zS P++zS cs++zS E):=by
   have:=Sl.own o9
   first|exact this|(rw[List.append_assoc];exact this)
  have z9:=g9.size;clear o8 s8 o9 hg9 g8;go_wp2_with fail;refine(cE.out _ _ _ s9).mono ?_;rintro e w10 ⟨rfl,b10⟩;have g10:=g9.trans (b10.mono oo);unfold zZ;go_wp2;exact bodyPost_ret (v:=.tuple #[sv (R.getD []),.bool R.isSome]) (by simp [results,Tryz.results143,go_sem]) rfl ⟨rfl,g10⟩
theorem V3 (ms:List Blk)(lb c:Blk):((((zS (ms++[lb])).set (ms.length*4+0) (.int .i64 c.num)).set (ms.length*4+1) (.bool c.raw)).set (ms.length*4+2) (.int .i64 c.size)).set (ms.length*4+3) (.string ⟨c.body.toArray⟩)=zS (ms++[c]):=by
 rw[xE,xE];have hl:=xQ ms;rw[show bkL lb=[.int .i64 lb.num,.bool lb.raw,.int .i64 lb.size,.string ⟨lb.body.toArray⟩] from rfl];rw[List.set_append_right _ _ (by omega),List.set_append_right _ _ (by omega),List.set_append_right _ _ (by omega),List.set_append_right _ _ (by omega),hl];rw[show ms.length*4+0 - ms.length*4=0 by omega,show ms.length*4+1 - ms.length*4=1 by omega,show ms.length*4+2 - ms.length*4=2 by omega,show ms.length*4+3 - ms.length*4=3 by omega];rfl
theorem QM {K:Kn}{bs:List Blk}{Y:Bs}(h:yK K bs=some Y){k:Nat}(hk:k<bs.length):∃d,bs[k].dat K=some d:=by
 cases hd:bs[k].dat K with
 |some d=>exact⟨d,rfl⟩
 |none=>rw[Yd hk hd] at h;cases h
theorem dV (o l m : Int) (dict t : Bs) (size : Int) (w : World) (hl : dict.length ≤ 9223372036854775807) (htl : t.length ≤ 1500000) :
    Calls Tryz.prog 144 #[.agg #[.int .i64 o, .int .i64 l, .int .i64 m], sv dict, sv t, .int .i64 size] w fun e w' => e = zZ (mgD o l m dict t size) ∧ Below w.heap.size w w' := by
  obtain ⟨i, hi, hz0, hz1, hz2⟩ := info_parts xW
  have cB := fun w => qh t w htl
  unfold mM at cB
  have cC := fun w => qX o l m dict t w hl htl
  have cR := fun w => jM o l m dict size w hl
  have HN : Hid ((zT t = none ∨ cdB o l m dict t = none ∨ ¬ (fits o l m dict ∧ 1 ≤ size ∧ size ≤ 64)) → mgD o l m dict t size = none) := fun h => by
    cases hm : mgD o l m dict t size with
    | none => rfl
    | some X =>
      exfalso
      obtain ⟨bs, a, y, h1, h2, h3, h4, h5, _⟩ := U0 hm
      rcases h with h | h | h
      · rw [h4] at h; cases h
      · rw [rX h1 h4, h5] at h; cases h
      · exact h ⟨h1, h2, h3⟩
  obtain ⟨R, hR⟩ : ∃ R, mgD o l m dict t size = R := ⟨_, rfl⟩
  have HRD := Go.Lib.hid hR
  rw [hR] at HN ⊢
  clear hR
  go_enter Tryz.func144, Tryz.ntmps144
  have hK0 : Bk (w.alloc (.cells #[.int .i64 o, .int .i64 l, .int .i64 m] 39)) w.heap.size 39 #[.int .i64 o, .int .i64 l, .int .i64 m] := tBk
  have g0 : Below w.heap.size w (w.alloc (.cells #[.int .i64 o, .int .i64 l, .int .i64 m] 39)) := zu
  have s0 : (w.alloc (.cells #[.int .i64 o, .int .i64 l, .int .i64 m] 39)).heap.size = w.heap.size + 1 := by simp
  go_upto_region 1 with (fail)
  generalize w.alloc (.cells #[.int .i64 o, .int .i64 l, .int .i64 m] 39) = w0 at *
  go_wp2_with fail
  refine (cB _).mono ?_
  rintro e w1 ⟨A1, c1, rfl, o1, b1⟩
  have z1 := b1.size
  have hK1 := hK0.below b1 oo
  have g1 := g0.trans (b1.mono oo)
  have hX1 := hK1.cell
  clear hK0 g0 b1 cB
  go_wp2_with fail
  refine (cC _).mono ?_
  rintro e w2 ⟨rfl, b2⟩
  have z2 := b2.size
  have hK2 := hK1.below b2 oo
  have g2 := g1.trans (b2.mono oo)
  have hX2 := hK2.cell
  have o2 := zf o1 b2
  have hlk := hK2.lt
  clear hK1 g1 b2 hX1 o1 cC
  cases hB : zT t with
  | none =>
    have h := HN.out (.inl hB)
    subst h
    simp only [hB, Option.elim_none, Option.isSome_none]
    unfold xY
    go_wp2
    exact bodyPost_ret (v := .tuple #[sv [], .bool false]) (by simp [results, Tryz.results144, go_sem]) rfl ⟨rfl, g2⟩
  | some bs =>
    have hbok := xU hB
    have hb40 := (xN hB).2
    rw [hB] at o2
    simp only [hB, Option.elim_some, Option.isSome_some, Option.getD_some] at o2 ⊢
    cases hC : cdB o l m dict t with
    | none =>
      have h := HN.out (.inr (.inl hC))
      subst h
      unfold xY
      simp only [Option.getD_none, Option.isSome_none]
      go_wp2
      exact bodyPost_ret (v := .tuple #[sv [], .bool false]) (by simp [results, Tryz.results144, go_sem]) rfl ⟨rfl, g2⟩
    | some Y =>
      unfold xY
      simp only [Option.getD_some, Option.isSome_some]
      go_wp2_with fail
      refine (cR _).mono ?_
      rintro e w3 ⟨rfl, b3⟩
      have z3 := b3.size
      have hK3 := hK2.below b3 hlk
      have g3 := g2.trans (b3.mono oo)
      have o3 := zf o2 b3
      clear hK2 g2 b3 hX2 o2 cR
      by_cases hr : fits o l m dict ∧ 1 ≤ size ∧ size ≤ 64
      case neg =>
        have h := HN.out (.inr (.inr hr))
        subst h
        rw [decide_eq_false hr]
        clear hr
        go_wp2
        exact bodyPost_ret (v := .tuple #[sv [], .bool false]) (by simp [results, Tryz.results144, go_sem]) rfl ⟨rfl, g3⟩
      rw [decide_eq_true hr]
      have hY : yK (zt o l m dict) bs = some Y := by rw [rX hr.1 hB] at hC; exact hC
      have hk := xC hr.1
      have cD : Hid (∀ b wr, b.ok = true → Calls Tryz.prog 163 #[.agg #[.int .i64 o, .int .i64 l, .int .i64 m], sv dict, bkV b] wr fun e w' => e = xY (b.dat (zt o l m dict)) ∧ Below wr.heap.size wr w') := fun b wr h => mP o l m dict b wr hr.1 (by have := pW h; omega)
      have cM : Hid (∀ (x : Bs) wr, x.length ≤ 2000 → Calls Tryz.prog 175 #[.agg #[.int .i64 o, .int .i64 l, .int .i64 m], sv dict, .int .i64 0, sv x] wr fun e w' => e = .returned (bkV (xJ (zt o l m dict) 0 x)) ∧ Below wr.heap.size wr w') := fun x wr hx => pI o l m dict 0 x wr hr.1 oo
      have HR : Hid (∀ a, qi (zt o l m dict) size ([], []) bs = some a → R = mcO a.1) := fun a ha => by
        rw [← HRD.out]; unfold mgD; rw [if_pos hr, hB, Option.bind_some, ha]; rfl
      have HEA : Hid (∀ k (h : k < bs.length), ∃ d, bs[k].dat (zt o l m dict) = some d) := fun k h => QM hY h
      have HOK := Go.Lib.hid hbok
      have HK := Go.Lib.hid hk
      have s3 := Sl.own o3
      have HSL : Hid (∀ wr, Below w3.heap.size w3 wr → Sl wr A1 bs.length c1 4 (zS bs)) := fun wr h => s3.below h
      have hcap := s3.1
      have hcap2 := s3.2.1
      obtain ⟨_, hsz1, hsz2⟩ := hr
      have HG3 : Hid (∀ wr, Below w3.heap.size w3 wr → Below w.heap.size w wr) := fun wr h => g3.trans (h.mono oo)
      clear hC hY hk hB hbok s3 o3 HRD HN
      generalize zt o l m dict = K at *
      have z3w := g3.size
      have o4 := vK (base := w3.heap.size) (size := 4) (Bk.new w3 #[] 160) (Nat.le_refl _)
      have hK4 := hK3.alloc (.cells #[] 160)
      have b4 : Below w3.heap.size w3 (w3.alloc (.cells #[] 160)) := zu
      have hkl := hK3.lt
      go_upto_region 6 with (fail)
      generalize w3.alloc (.cells #[] 160) = w4 at *
      clear hK3 g3
      go_wp2
      go_loopw [14, 15] (fun a c wr => ∃ (k : Nat) (ms : List Blk) (ld y : Bs) (Ao : Option Addr) (co : Nat), a = .slice Ao ms.length co ∧ c = .int .i64 (k : Int) ∧ k ≤ bs.length ∧ Hid (qi K size ([], []) (bs.take k) = some (ms, ld)) ∧ Hid (nS K size (ms, ld) k y) ∧ wr.ownsRow w3.heap.size 160 4 (.slice Ao ms.length co) ms.length (zS ms) ∧ Bk wr w.heap.size 39 #[.int .i64 o, .int .i64 l, .int .i64 m] ∧ Below w3.heap.size w3 wr) (fun _ c _ => bs.length - (intOf c).toNat)
      case atStart => exact ⟨0, [], [], [], _, 0, rfl, rfl, oo, rfl, nS.zero K size, o4, hK4, b4⟩
      case round =>
        obtain ⟨k, ms, ld, y, Ao, co, rfl, rfl, hk, HM, HMG, ow, hK, g⟩ := hrel
        clear hK4 b4 o4
        have hz := g.size
        have hmn : ms.length ≤ k := HMG.out.len
        by_cases hlt : k < bs.length
        · have hki : (k : Int) < bs.length := oo
          have hsA := HSL.out wr g
          obtain ⟨gb, off, rfl, hg, hc⟩ := Sl.jw hsA hlt
          have hcs := ql bs k hlt
          have c0 := hc 0 _ hcs.1
          have c1' := hc 1 _ hcs.2.1
          have c2 := hc 2 _ hcs.2.2.1
          have c3 := hc 3 _ hcs.2.2.2
          obtain ⟨d, hd⟩ := HEA.out k hlt
          have hbo := HOK.out bs[k] (List.getElem_mem hlt)
          have hdl := sD hbo hd
          have hbs := Blk.vk hbo
          have HST := Go.Lib.hid (dG hlt HM.out hd)
          have HMS := Go.Lib.hid (HMG.out.step HK.out hsz2 hbo hd)
          have CD : Hid (∀ wr, Calls Tryz.prog 163 #[.agg #[.int .i64 o, .int .i64 l, .int .i64 m], sv dict, bkV bs[k]] wr fun e w' => e = .returned (.tuple #[sv d, .bool true]) ∧ Below wr.heap.size wr w') := fun wr => by have := cD.out bs[k] wr hbo; rw [hd] at this; exact this
          generalize bs[k] = b at *
          clear hc hcs hsA HM hbo hd
          obtain ⟨n2, r, n4, T⟩ := b
          simp only [Nat.add_zero] at c0 c1' c2 c3 hbs hdl
          obtain ⟨hb1, hb2, hb3, hb4⟩ := hbs
          rcases List.eq_nil_or_concat ms with rfl | ⟨mz, lb, hms⟩
          · -- the first block
            have HX : Hid (vO K size (([] : List Blk), ld) ⟨n2, r, n4, T⟩ d = ([⟨n2, r, n4, T⟩], d)) := by show _ = _; unfold vO; rw [if_neg (fun h => h.1 rfl)]; rfl
            have HST2 := Go.Lib.hid (HST.out.trans (congrArg some HX.out))
            have HMS2 : Hid (nS K size ([⟨n2, r, n4, T⟩], d) (k + 1) (y ++ d)) := by have := HMS.out; rw [HX.out] at this; exact this
            have hm1 : (0 : Nat) + 1 ≤ maxLen := by unfold maxLen; omega
            have hm2 : ((0 : Nat) + 1) * 40 ≤ 140737488355328 := oo
            clear HST HMS HX HMG
            have hX := hK.cell
            go_wp2_with fail
            go_quiet (fail)
            have bq := World.kE wr nq
            have hKq := hK.below bq hK.lt
            have owq := zf ow bq
            have gq := g.trans (bq.mono oo)
            have hgq := Nat.lt_of_lt_of_le hg bq.size
            have q0 := (bq.cell (p := ⟨gb, off + k * 4, none⟩) hg).trans c0
            have q1 := (bq.cell (p := ⟨gb, off + k * 4 + 1, none⟩) hg).trans c1'
            have q2 := (bq.cell (p := ⟨gb, off + k * 4 + 2, none⟩) hg).trans c2
            have q3 := (bq.cell (p := ⟨gb, off + k * 4 + 3, none⟩) hg).trans c3
            clear hK ow g hg c0 c1' c2 c3 bq hX
            generalize wr.drewN nq = wr at *
            have hK := hKq
            have ow := owq
            have g := gq
            have zg := g.size
            have hg := hgq
            have c0 := q0
            have c1' := q1
            have c2 := q2
            have c3 := q3
            have hX := hK.cell
            clear hKq owq gq hgq q0 q1 q2 q3
            go_wp2_with (at_builtin; go_must (refine zN _ rfl _ _ 133 rfl (w3.heap.size) 160 i _ 4 40 Tryz.underlying133 hi hz0 hz1 hz2 rfl (by omega) _ _ _ rfl (ow.alloc _) _ 1 1 [.int .i64 n2, .bool r, .int .i64 n4, .string ⟨T.toArray⟩] rfl (Sl.newAt wr #[.int .i64 n2, .bool r, .int .i64 n4, .string ⟨T.toArray⟩] _ 1 4 (by first | rfl | simp) (by simp) (by omega)) (by simp [Value.oneCell']) hm1 hm2 ?_ ?_))
            try (case refine_1 => first | omega | (simp <;> omega; done))
            intro A5 cap5 w5 o5 hg5 _
            have g5 := yw g hg5 (by first | omega | (simp; omega)) (fun k hk => by have := (ow.lt k hk).1; omega)
            have hK5 := Bk.grown (hK.alloc _) hg5 (fun k hk => by have := (ow.lt k hk).1; omega)
            have o5' : w5.ownsRow w3.heap.size 160 4 (.slice A5 [(⟨n2, r, n4, T⟩ : Blk)].length cap5) [(⟨n2, r, n4, T⟩ : Blk)].length (zS [(⟨n2, r, n4, T⟩ : Blk)]) := o5
            clear o5 hg5 ow hK g hX c0 c1' c2 c3
            go_wp2
            go_roundw
            case rel => exact ⟨k + 1, [(⟨n2, r, n4, T⟩ : Blk)], d, y ++ d, A5, cap5, rfl, by go_num, oo, HST2, HMS2, o5', hK5, g5⟩
            case measure => simp [intOf]; omega
          · -- behind others
            rw [List.concat_eq_append] at hms
            subst hms
            have hne : mz ++ [lb] ≠ [] := by simp
            have hlast := HMG.out.last hne
            rw [List.getLast_concat] at hlast
            have hlbok := HMG.out.ok lb (by simp)
            obtain ⟨hlast1, hlast2⟩ := hlast
            have hldl : ld.length ≤ 64 := by have := Blk.vk hlbok; simp only at hlast2; omega
            simp only [List.length_append, List.length_singleton] at ow hmn ⊢
            obtain ⟨g2, cap2, hform⟩ : ∃ g cap, Value.slice Ao (mz.length + 1) co = .slice (some ⟨g, 0, none⟩) (mz.length + 1) cap := by
              rcases ow.2 with ⟨h1, h2⟩ | ⟨g, cap, cur, h1, _⟩
              · omega
              · exact ⟨g, cap, h1⟩
            injection hform with hA2 _ hc2
            subst hA2 hc2
            have hcell := fun j h => ow.cellAt j h
            have hbv : (zS (mz ++ [lb])) = zS mz ++ bkL lb := xE mz lb
            have hbl := xQ mz
            have e0 : wr.cell? ⟨g2, mz.length * 4, none⟩ = some (.int .i64 lb.num) := by rw [hcell _ (by omega), hbv, List.getElem?_append_right (by omega)]; simp [hbl, bkL]
            have e1 : wr.cell? ⟨g2, mz.length * 4 + 1, none⟩ = some (.bool lb.raw) := by rw [hcell _ (by omega), hbv, List.getElem?_append_right (by omega)]; simp [hbl, bkL]
            have e2 : wr.cell? ⟨g2, mz.length * 4 + 2, none⟩ = some (.int .i64 (ld.length : Int)) := by rw [hcell _ (by omega), hbv, List.getElem?_append_right (by omega), ← hlast2]; simp [hbl, bkL]
            have e3 : wr.cell? ⟨g2, mz.length * 4 + 3, none⟩ = some (.string ⟨lb.body.toArray⟩) := by rw [hcell _ (by omega), hbv, List.getElem?_append_right (by omega)]; simp [hbl, bkL]
            have C2 := fun d os => cell_regrown c2 d os
            have E2 := fun d os => cell_regrown e2 d os
            have hX := hK.cell
            have hg2 := (ow.lt g2 rfl).2
            clear hcell hbv
            by_cases hj : (ld.length : Int) + d.length ≤ size
            · have hjn : (ld.length : Int) + n4 ≤ size := oo
              have HX : Hid (vO K size (mz ++ [lb], ld) ⟨n2, r, n4, T⟩ d = (mz ++ [xJ K 0 (ld ++ d)], ld ++ d)) := by show _ = _; unfold vO; rw [if_pos ⟨hne, hj⟩, List.dropLast_concat]
              have HST2 := Go.Lib.hid (HST.out.trans (congrArg some HX.out))
              have HMS2 : Hid (nS K size (mz ++ [xJ K 0 (ld ++ d)], ld ++ d) (k + 1) (y ++ d)) := by have := HMS.out; rw [HX.out] at this; exact this
              have cL : ∀ wr, Calls Tryz.prog 163 #[.agg #[.int .i64 o, .int .i64 l, .int .i64 m], sv dict, bkV lb] wr fun e w' => e = .returned (.tuple #[sv ld, .bool true]) ∧ Below wr.heap.size wr w' := fun wr => by have := cD.out lb wr hlbok; rw [hlast1] at this; exact this
              have cMx := fun wr => cM.out (ld ++ d) wr (by rw [List.length_append]; omega)
              have hset := V3 mz lb (xJ K 0 (ld ++ d))
              have hdl64 : d.length ≤ 64 := oo
              generalize xJ K 0 (ld ++ d) = c at *
              rw [hlast2.symm] at e2 E2
              obtain ⟨l2, lr, l4, lT⟩ := lb
              obtain ⟨m2, s, m4, U⟩ := c
              simp only at e0 e1 e2 e3 E2 hset
              have hl4 : l4 = (ld.length : Int) := hlast2
              clear HST HMS HX HMG hlast1 hlast2 hne hlbok
              go_wp2_with fail
              go_quiet (fail)
              have bq := World.kE wr nq
              have hKq := hK.below bq hK.lt
              have owq := zf ow bq
              have gq := g.trans (bq.mono oo)
              have hgq := Nat.lt_of_lt_of_le hg bq.size
              have q0 := (bq.cell (p := ⟨gb, off + k * 4, none⟩) hg).trans c0
              have q1 := (bq.cell (p := ⟨gb, off + k * 4 + 1, none⟩) hg).trans c1'
              have q2 := (bq.cell (p := ⟨gb, off + k * 4 + 2, none⟩) hg).trans c2
              have q3 := (bq.cell (p := ⟨gb, off + k * 4 + 3, none⟩) hg).trans c3
              have f0 := (bq.cell (p := ⟨g2, mz.length * 4, none⟩) hg2).trans e0
              have f1 := (bq.cell (p := ⟨g2, mz.length * 4 + 1, none⟩) hg2).trans e1
              have f2 := (bq.cell (p := ⟨g2, mz.length * 4 + 2, none⟩) hg2).trans e2
              have f3 := (bq.cell (p := ⟨g2, mz.length * 4 + 3, none⟩) hg2).trans e3
              clear hK ow g hg c0 c1' c2 c3 bq hX C2 E2 e0 e1 e2 e3
              generalize wr.drewN nq = wr at *
              have hK := hKq
              have ow := owq
              have g := gq
              have zg := g.size
              have hg := hgq
              have c0 := q0
              have c1' := q1
              have c2 := q2
              have c3 := q3
              have hX := hK.cell
              clear hKq owq gq hgq q0 q1 q2 q3
              have e0 := f0
              have e1 := f1
              have e2 := f2
              have e3 := f3
              clear f0 f1 f2 f3
              clear hl4
              have E0 := fun d os => cell_regrown e0 d os
              have E1 := fun d os => cell_regrown e1 d os
              have E2 := fun d os => cell_regrown e2 d os
              have E3 := fun d os => cell_regrown e3 d os
              have hG := zI hX hK.lt
              go_wp2_with fail
              refine wp_region_quiet_below kr kr ?_
              repeat (go_big_quiet_step ((go_at_call 163; exact Calls.regrown_of (cL _))))
              refine wpQuiet_nil ?_
              intro w6 hw2
              have b6 : Below _ _ w6 := zh hw2
              clear hw2
              have z6 := b6.size
              have hK6 := hK.below b6 hK.lt
              have ow6 := zf ow b6
              have g6 := g.trans (b6.mono oo)
              have d0 := (b6.cell (p := ⟨gb, off + k * 4, none⟩) hg).trans c0
              have d1 := (b6.cell (p := ⟨gb, off + k * 4 + 1, none⟩) hg).trans c1'
              have d2 := (b6.cell (p := ⟨gb, off + k * 4 + 2, none⟩) hg).trans c2
              have d3 := (b6.cell (p := ⟨gb, off + k * 4 + 3, none⟩) hg).trans c3
              have hX6 := hK6.cell
              clear E0 E1 E2 E3 hG hX hK ow g c0 c1' c2 c3 cL b6 e0 e1 e2 e3
              have D0 := fun d os => cell_regrown d0 d os
              have D1 := fun d os => cell_regrown d1 d os
              have D2 := fun d os => cell_regrown d2 d os
              have D3 := fun d os => cell_regrown d3 d os
              have hG := zI hX6 hK6.lt
              go_wp2_with fail
              refine wp_region_quiet_below kr kr ?_
              repeat (go_big_quiet_step ((go_at_call 163; exact Calls.regrown_of (CD.out _))))
              refine wpQuiet_nil ?_
              intro w7 hw2
              have b7 : Below _ _ w7 := zh hw2
              clear hw2
              have z7 := b7.size
              have hK7 := hK6.below b7 hK6.lt
              have ow7 := zf ow6 b7
              have g7 := g6.trans (b7.mono oo)
              have hX7 := hK7.cell
              clear D0 D1 D2 D3 hG hX6 hK6 ow6 g6 b7 d0 d1 d2 d3
              have hlen : ¬ 9223372036854775807 < ld.length + d.length := oo
              go_wp2_with fail
              refine (cMx _).mono ?_
              rintro e w8 ⟨rfl, b8⟩
              have z8 := b8.size
              have hK8 := hK7.below b8 hK7.lt
              have ow8 := zf ow7 b8
              have g8 := g7.trans (b8.mono oo)
              have q8 := (ow8.lt g2 rfl)
              have F := fun j => ow8.frozenAt j
              have G0 : ∃ v, w8.cell? ⟨g2, mz.length * 4, none⟩ = some v := ⟨_, (ow8.cellAt (mz.length * 4) (by omega)).trans (List.getElem?_eq_getElem (by rw [xQ]; first | omega | (simp; done) | (simp; omega)))⟩
              have G1 : ∃ v, w8.cell? ⟨g2, mz.length * 4 + 1, none⟩ = some v := ⟨_, (ow8.cellAt (mz.length * 4 + 1) (by omega)).trans (List.getElem?_eq_getElem (by rw [xQ]; first | omega | (simp; done) | (simp; omega)))⟩
              have G2 : ∃ v, w8.cell? ⟨g2, mz.length * 4 + 2, none⟩ = some v := ⟨_, (ow8.cellAt (mz.length * 4 + 2) (by omega)).trans (List.getElem?_eq_getElem (by rw [xQ]; first | omega | (simp; done) | (simp; omega)))⟩
              have G3 : ∃ v, w8.cell? ⟨g2, mz.length * 4 + 3, none⟩ = some v := ⟨_, (ow8.cellAt (mz.length * 4 + 3) (by omega)).trans (List.getElem?_eq_getElem (by rw [xQ]; first | omega | (simp; done) | (simp; omega)))⟩
              obtain ⟨v0, G0⟩ := G0
              obtain ⟨v1, G1⟩ := G1
              obtain ⟨v2, G2⟩ := G2
              obtain ⟨v3, G3⟩ := G3
              have ow9 := ((((ow8.stored (mz.length * 4 + 0) (.int .i64 m2)).1.stored (mz.length * 4 + 1) (.bool s)).1.stored (mz.length * 4 + 2) (.int .i64 m4)).1.stored (mz.length * 4 + 3) (.string ⟨U.toArray⟩)).1
              rw [hset] at ow9
              have hK9 := (((hK8.far (p := ⟨g2, mz.length * 4 + 0, none⟩) (by show w.heap.size ≠ g2; omega) (.int .i64 m2)).far (p := ⟨g2, mz.length * 4 + 1, none⟩) (by show w.heap.size ≠ g2; omega) (.bool s)).far (p := ⟨g2, mz.length * 4 + 2, none⟩) (by show w.heap.size ≠ g2; omega) (.int .i64 m4)).far (p := ⟨g2, mz.length * 4 + 3, none⟩) (by show w.heap.size ≠ g2; omega) (.string ⟨U.toArray⟩)
              have g9 : Below w3.heap.size w3 ((((w8.setCell ⟨g2, mz.length * 4 + 0, none⟩ (.int .i64 m2)).setCell ⟨g2, mz.length * 4 + 1, none⟩ (.bool s)).setCell ⟨g2, mz.length * 4 + 2, none⟩ (.int .i64 m4)).setCell ⟨g2, mz.length * 4 + 3, none⟩ (.string ⟨U.toArray⟩)) := zu
              simp only [Nat.add_zero] at ow9 hK9 g9
              clear hK7 hK8 ow7 ow8 g7 g8 b8 hX7 cMx hset
              go_upto_region 8 with (fail)
              generalize (((w8.setCell ⟨g2, mz.length * 4, none⟩ (.int .i64 m2)).setCell ⟨g2, mz.length * 4 + 1, none⟩ (.bool s)).setCell ⟨g2, mz.length * 4 + 2, none⟩ (.int .i64 m4)).setCell ⟨g2, mz.length * 4 + 3, none⟩ (.string ⟨U.toArray⟩) = w9 at *
              have hol : (mz ++ [(⟨m2, s, m4, U⟩ : Blk)]).length = mz.length + 1 := by simp
              have HOL := Go.Lib.hid hol
              have ow10 : w9.ownsRow w3.heap.size 160 4 (.slice (some ⟨g2, 0, none⟩) (mz ++ [(⟨m2, s, m4, U⟩ : Blk)]).length co) (mz ++ [(⟨m2, s, m4, U⟩ : Blk)]).length (zS (mz ++ [(⟨m2, s, m4, U⟩ : Blk)])) := by rw [hol]; exact ow9
              clear F G0 G1 G2 G3 ow9 hol
              go_wp2
              go_roundw
              case rel => exact ⟨k + 1, mz ++ [(⟨m2, s, m4, U⟩ : Blk)], ld ++ d, y ++ d, _, co, (by rw [HOL.out]), by go_num, by omega, HST2, HMS2, ow10, hK9, g9⟩
              case measure => simp [intOf]; omega
            · have hjn : ¬ (ld.length : Int) + n4 ≤ size := oo
              have HX : Hid (vO K size (mz ++ [lb], ld) ⟨n2, r, n4, T⟩ d = (mz ++ [lb] ++ [⟨n2, r, n4, T⟩], d)) := by show _ = _; unfold vO; rw [if_neg (fun h => hj h.2)]
              have HST2 := Go.Lib.hid (HST.out.trans (congrArg some HX.out))
              have HMS2 : Hid (nS K size (mz ++ [lb] ++ [⟨n2, r, n4, T⟩], d) (k + 1) (y ++ d)) := by have := HMS.out; rw [HX.out] at this; exact this
              have hm1 : mz.length + 1 + 1 ≤ maxLen := by unfold maxLen; omega
              have hm2 : (mz.length + 1 + 1) * 40 ≤ 140737488355328 := oo
              clear HST HMS HX HMG hlast1 hlast2 hne hlbok e0 e1 e3
              go_wp2_with fail
              go_quiet (fail)
              have bq := World.kE wr nq
              have hKq := hK.below bq hK.lt
              have owq := zf ow bq
              have gq := g.trans (bq.mono oo)
              have hgq := Nat.lt_of_lt_of_le hg bq.size
              have q0 := (bq.cell (p := ⟨gb, off + k * 4, none⟩) hg).trans c0
              have q1 := (bq.cell (p := ⟨gb, off + k * 4 + 1, none⟩) hg).trans c1'
              have q2 := (bq.cell (p := ⟨gb, off + k * 4 + 2, none⟩) hg).trans c2
              have q3 := (bq.cell (p := ⟨gb, off + k * 4 + 3, none⟩) hg).trans c3
              clear hK ow g hg c0 c1' c2 c3 bq hX C2 E2 e2
              generalize wr.drewN nq = wr at *
              have hK := hKq
              have ow := owq
              have g := gq
              have zg := g.size
              have hg := hgq
              have c0 := q0
              have c1' := q1
              have c2 := q2
              have c3 := q3
              have hX := hK.cell
              clear hKq owq gq hgq q0 q1 q2 q3
              go_wp2_with (at_builtin; go_must (refine zN _ rfl _ _ 133 rfl (w3.heap.size) 160 i _ 4 40 Tryz.underlying133 hi hz0 hz1 hz2 rfl (by omega) _ _ _ rfl (ow.alloc _) _ 1 1 [.int .i64 n2, .bool r, .int .i64 n4, .string ⟨T.toArray⟩] rfl (Sl.newAt wr #[.int .i64 n2, .bool r, .int .i64 n4, .string ⟨T.toArray⟩] _ 1 4 (by first | rfl | simp) (by simp) (by omega)) (by simp [Value.oneCell']) hm1 hm2 ?_ ?_))
              try (case refine_1 => first | omega | (simp <;> omega; done))
              intro A5 cap5 w5 o5 hg5 _
              have g5 := yw g hg5 (by first | omega | (simp; omega)) (fun k hk => by have := (ow.lt k hk).1; omega)
              have hK5 := Bk.grown (hK.alloc _) hg5 (fun k hk => by have := (ow.lt k hk).1; omega)
              have hol : (mz ++ [lb] ++ [(⟨n2, r, n4, T⟩ : Blk)]).length = mz.length + 1 + 1 := by simp
              have HOL := Go.Lib.hid hol
              have o5' : w5.ownsRow w3.heap.size 160 4 (.slice A5 (mz ++ [lb] ++ [(⟨n2, r, n4, T⟩ : Blk)]).length cap5) (mz ++ [lb] ++ [(⟨n2, r, n4, T⟩ : Blk)]).length (zS (mz ++ [lb] ++ [(⟨n2, r, n4, T⟩ : Blk)])) := by rw [hol, xE]; exact o5
              clear o5 hg5 ow hK g hX c0 c1' c2 c3 hol
              go_wp2
              go_roundw
              case rel => exact ⟨k + 1, mz ++ [lb] ++ [(⟨n2, r, n4, T⟩ : Blk)], d, y ++ d, A5, cap5, (by rw [HOL.out]), by go_num, by omega, HST2, HMS2, o5', hK5, g5⟩
              case measure => simp [intOf]; omega
        · have hki : ¬ (k : Int) < bs.length := oo
          have HE := HR.out (ms, ld) (by rw [← HM.out, List.take_of_length_le (by omega)])
          have hsb := Sl.own ow
          have cE := nO ms Ao co wr hsb HMG.out.ok oo
          have gw := HG3.out wr g
          have zw := gw.size
          rw [← HE] at cE
          have hre : Hid (R = mcO ms) := HE
          clear HE HMG HM
          go_wp2_with fail
          refine cE.mono ?_
          rintro e w7 ⟨rfl, b7⟩
          have g7 := gw.trans (b7.mono oo)
          unfold zZ
          go_wp2
          exact bodyPost_ret (v := .tuple #[sv (R.getD []), .bool R.isSome]) (by simp [results, Tryz.results144, go_sem]) rfl ⟨rfl, g7⟩
end Go.Proofs.YtfppmajoidkooaaGreatDoor
