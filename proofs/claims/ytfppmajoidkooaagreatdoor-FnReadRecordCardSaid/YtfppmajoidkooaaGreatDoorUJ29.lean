import Derived.Test.YtfppmajoidkooaaGreatDoorUJ27
import Derived.Deep.Cut
import Derived.Test.YtfppmajoidkooaaGreatDoorUGU4
import Derived.Test.YtfppmajoidkooaaGreatDoorUS24
set_option linter.unusedVariables false
set_option linter.unusedSimpArgs false
set_option maxHeartbeats 8000000
namespace Go.Proofs.YtfppmajoidkooaaGreatDoor
open Go.RowKit
set_option maxRecDepth 100000
attribute [local go_sem high] zy zA zB zO zK zY zx zk zl zq zi zo yP zD yt zF
theorem Ou {w w':World}{B n s:Nat}{e:TypeId}{v:Value}{xs:List Value}{row:Option Nat}(h:w.ownsRow B e s v n xs)(hg:w.grownBy w' row)(hne:∀k,v.ownBlock=some k→row≠some k):w'.ownsRow B e s v n xs:=
 h.kept hg (by
  cases hv:v.ownBlock with
  |none=>exact .inl rfl
  |some k=>exact .inr (fun he=>hne k hv he.symm))
theorem gX (o l m:Int)(dict t:Bs)(f t2:Int)(d:Bs)(size:Int)(w:World)(hl:dict.length≤9223372036854775807)(htl:t.length≤1500000)(hd:d.length≤9223372036854775807)(hs0: -1000000≤size)(hs1:size≤1000000)
 (hf0: -9223372036854775808≤f) (hf1:f≤9223372036854775807) (ht0: -9223372036854775808≤t2) (ht1:t2≤9223372036854775807):
 Calls Tryz.prog 149 #[.agg #[.int .i64 o,.int .i64 l,.int .i64 m],sv dict,sv t,.int .i64 f,.int .i64 t2,sv d,.int .i64 size] w fun e w'=>e=zZ (rpD o l m dict t f t2 d size)∧Below w.heap.size w w':=by
 obtain⟨i,hi,hz0,hz1,hz2⟩:=info_parts xW;by_cases hfb:fits o l m dict∧(zT t).isSome=true
 case neg=>
  have cS:=fun w=>nK o l m dict t w hfb hl htl;have hE:rpD o l m dict t f t2 d size=none:=by
   unfold rpD;split
   ·rename_i hf
    cases hb:zT t with
    |none=>rfl
    |some bs=>exact absurd ⟨hf,by rw[hb];rfl⟩ hfb
   ·rfl
  rw[hE];unfold zZ;clear hE hfb;go_enter Tryz.func149,Tryz.ntmps149;have hK0:Bk (w.alloc (.cells #[.int .i64 o,.int .i64 l,.int .i64 m] 39)) w.heap.size 39 #[.int .i64 o,.int .i64 l,.int .i64 m]:=tBk;have g0:Below w.heap.size w (w.alloc (.cells #[.int .i64 o,.int .i64 l,.int .i64 m] 39)):=zu;go_upto_region 1 with(fail)
  generalize w.alloc (.cells #[.int .i64 o,.int .i64 l,.int .i64 m] 39)=w0 at*;have hX0:=hK0.cell;have hz0':=hK0.lt;go_wp2_with fail;refine(cS _).mono ?_;rintro e w1 ⟨rfl,hb1⟩;have g1:=g0.trans (hb1.mono oo);have hz1':=g1.size;go_wp2;exact bodyPost_ret (v:=.tuple #[sv [],.bool false]) (by simp [results,Tryz.results149,go_sem]) rfl ⟨rfl,zu⟩
 obtain⟨hf,hbs⟩:=hfb;obtain⟨bs,hB⟩:=Option.isSome_iff_exists.1 hbs;have cS:=fun w=>oH o l m dict t bs w hf hB htl;unfold Uu at cS;have hk:=xC hf;have hbok:=xU hB;have hb40:=(xN hB).2;have hsz:=vJ bs hbok;have hsz2:=Xd hB;have hE:rpD o l m dict t f t2 d size=if 0≤f∧f≤t2∧t2≤zn bs then(nwO (zt o l m dict) d size).bind fun cs=>(wM (zt o l m dict) 0 f 0 bs).bind fun a=>(wM (zt o l m dict) t2 (zn bs) 0 bs).bind fun e=>mcO (a++cs++e) else none:=by unfold rpD;rw[if_pos hf,hB];rfl
 have cN:Hid (∀A cap wr,Sl wr A (zt o l m dict).ps.length cap 2 (psV (zt o l m dict).ps)→Calls Tryz.prog 180 #[knV (zt o l m dict) A cap,sv d,.int .i64 size] wr (NwR (nwO (zt o l m dict) d size) wr)):=fun A cap wr h=>jH _ A cap d size wr hk h hd hs0 hs1;unfold NwR at cN;have cZ:Hid (∀A cap wr,Sl wr A bs.length cap 4 (zS bs)→Calls Tryz.prog 138 #[.slice A bs.length cap] wr fun e w'=>e= .returned (.int .i64 (zn bs))∧Below wr.heap.size wr w'):=fun A cap wr h=>ik bs A cap wr h hbok oo;have cC:Hid (∀Ak ck A cap a b wr,Sl wr Ak (zt o l m dict).ps.length ck 2 (psV (zt o l m dict).ps)→Sl wr A bs.length cap 4 (zS bs)→0≤a→a≤3000→0≤b→b≤3000→Calls Tryz.prog 181 #[knV (zt o l m dict) Ak ck,.slice A bs.length cap,.int .i64 a,.int .i64 b] wr fun e w'=>∃v ok,e= .returned (.tuple #[v,.bool ok])∧Below wr.heap.size wr w'∧Vk (wM (zt o l m dict) a b 0 bs) v ok wr.heap.size w'):=fun Ak ck A cap a b wr h1 h2 h3 h4 h5 h6=>YN _ Ak ck bs A cap a b wr hk h1 h2 hbok hb40 h3 h4 h5 h6;have hU:Hid (∀a b x,wM (zt o l m dict) a b 0 bs=some x→(∀c ∈ x,c.ok=true)∧x.length≤bs.length):=fun a b x=>kS hk bs 0 x hbok;have HNW:Hid (∀cs,nwO (zt o l m dict) d size=some cs→(∀b ∈ cs,b.ok=true)∧cs.length≤40):=fun cs h=>WW hk h;obtain⟨R,hR⟩:∃R,rpD o l m dict t f t2 d size=R:=⟨_,rfl⟩;rw[hR] at hE⊢;have HE:=Go.Lib.hid hE;clear hE hR hf hB hbs hk hbok;generalize nwO (zt o l m dict) d size=O at*;generalize zt o l m dict=K at*;go_enter Tryz.func149,Tryz.ntmps149;have hK0:Bk (w.alloc (.cells #[.int .i64 o,.int .i64 l,.int .i64 m] 39)) w.heap.size 39 #[.int .i64 o,.int .i64 l,.int .i64 m]:=tBk;have g0:Below w.heap.size w (w.alloc (.cells #[.int .i64 o,.int .i64 l,.int .i64 m] 39)):=zu;go_upto_region 1 with(fail)
 generalize w.alloc (.cells #[.int .i64 o,.int .i64 l,.int .i64 m] 39)=w0 at*;have hX0:=hK0.cell;have hl0:=hK0.lt;go_wp2_with fail;refine(cS _).mono ?_;rintro e w1 ⟨A1,c1,A2,c2,rfl,o1,p1,b1⟩;have z1:=b1.size;have g1:=g0.trans (b1.mono oo);have hB2:=Bk.new w1 (knC K A1 c1) 130;have o2:=o1.alloc (.cells (knC K A1 c1) 130);have p2:=p1.alloc (.cells (knC K A1 c1) 130);have g2:=g1.alloc oo (.cells (knC K A1 c1) 130);clear b1 hX0 hK0 g0 o1 p1 g1 cS;go_upto_region 2 with(fail)
 unfold knC at hB2 o2 p2 g2;generalize w1.alloc (.cells #[.int .i64 K.o,.int .i64 K.l,.int .i64 K.m,.slice A1 K.ps.length c1,.int .i64 K.base,.int .i64 K.last] 130)=W at*;generalize w1.heap.size=q1 at*;have hl2:=hB2.lt;have zg2:=g2.size;by_cases hq:0≤f∧f≤t2∧t2≤zn bs
 case neg=>
  have hEn:R=none:=(by rw[HE.out,if_neg hq]);subst hEn;clear HE HNW hU cN cC;by_cases h1:f<0
  ·clear hq
   go_wp2;exact bodyPost_ret (v:=.tuple #[sv [],.bool false]) (by simp [results,Tryz.results149,go_sem]) rfl ⟨rfl,g2⟩
  by_cases h2:t2<f
  ·clear hq
   go_wp2;exact bodyPost_ret (v:=.tuple #[sv [],.bool false]) (by simp [results,Tryz.results149,go_sem]) rfl ⟨rfl,g2⟩
  have h3:zn bs<t2:=oo;have s2:=Sl.own p2;go_wp2_with fail;refine(cZ.out _ _ _ s2).mono ?_;rintro e w3 ⟨rfl,b3⟩;have g3:=g2.trans (b3.mono oo);clear hq;go_wp2;exact bodyPost_ret (v:=.tuple #[sv [],.bool false]) (by simp [results,Tryz.results149,go_sem]) rfl ⟨rfl,g3⟩
 have h1:¬f<0:=oo;have h2:¬t2<f:=oo;have h3:¬zn bs<t2:=oo;have HE2:Hid (R=O.bind fun cs=>(wM K 0 f 0 bs).bind fun a=>(wM K t2 (zn bs) 0 bs).bind fun e=>mcO (a++cs++e)):=(by show _=_;rw[HE.out,if_pos hq]);have hqa:0≤f∧f≤3000∧0≤t2∧t2≤3000∧zn bs≤3000:=oo;obtain⟨q1',q2',q3',q4',q5'⟩:=hqa;have s2:=Sl.own p2;clear HE hq;go_wp2_with fail;refine(cZ.out _ _ _ s2).mono ?_;rintro e w3 ⟨rfl,b3⟩;have z3:=b3.size;have g3:=g2.trans (b3.mono oo);have hB3:=hB2.below b3 hl2;have o3:=zf o2 b3;have p3:=zf p2 b3;have t3:=Sl.own o3;have hX3:=hB3.cell;have hl3:=hB3.lt;clear b3 hB2 o2 p2 g2 s2;go_wp2_with fail;refine(cN.out _ _ _ t3).mono ?_;rintro e w4 ⟨A4,c4,rfl,o4,b4⟩;have z4:=b4.size;have g4:=g3.trans (b4.mono oo);have hB4:=hB3.below b4 hl3;have oo4:=zf o3 b4;have p4:=zf p3 b4;have hX4:=hB4.cell;have hl4:=hB4.lt;clear b4 hB3 hX3 g3 o3 t3 p3 cN
 cases O with
 |none=>
  have hEn:R=none:=HE2.out;subst hEn;simp only[Option.isSome_none,Option.getD_none];clear HE2 HNW hU cC;go_wp2;exact bodyPost_ret (v:=.tuple #[sv [],.bool false]) (by simp [results,Tryz.results149,go_sem]) rfl ⟨rfl,g4⟩
 |some cs=>
  obtain⟨hcok,hc40⟩:=HNW.out cs rfl;have HCO:=Go.Lib.hid hcok;simp only[Option.isSome_some,Option.getD_some] at o4⊢;have t4:=Sl.own oo4;have s4:=Sl.own p4;clear hcok HNW;go_wp2_with fail;refine(cC.out _ _ _ _ 0 f _ t4 s4 oo oo q1' q2').mono ?_;rintro e w5 ⟨v5,k5,rfl,b5,hV5⟩;have z5:=b5.size;have g5:=g4.trans (b5.mono oo);have hB5:=hB4.below b5 hl4;have oo5:=zf oo4 b5;have p5:=zf p4 b5;have o5:=zf o4 b5;have hX5:=hB5.cell;have hl5:=hB5.lt;clear hB4 hX4 g4 oo4 t4 p4 s4 b5;rcases hV5 with⟨hO1,rfl⟩|⟨P,A5,c5,hO1,rfl,rfl,r5⟩
  ·have hEn:R=none:=by rw[HE2.out,Option.bind_some,hO1];rfl
   subst hEn;clear HE2 hU cC;go_wp2;exact bodyPost_ret (v:=.tuple #[sv [],.bool false]) (by simp [results,Tryz.results149,go_sem]) rfl ⟨rfl,g5⟩
  have t5:=Sl.own oo5;have s5:=Sl.own p5;go_upto_region 10 with(fail)
  refine wp_region_held_drew (S:=(fun w'=>w'.cell? ⟨q1,0,none⟩=some (.int .i64 K.o)∧w'.cell? ⟨q1,1,none⟩=some (.int .i64 K.l)∧w'.cell? ⟨q1,2,none⟩=some (.int .i64 K.m)∧w'.cell? ⟨q1,3,none⟩=some (.slice A1 K.ps.length c1)∧w'.cell? ⟨q1,4,none⟩=some (.int .i64 K.base)∧w'.cell? ⟨q1,5,none⟩=some (.int .i64 K.last))) kr ?_ (fun hSS=> ?_);focus((refine⟨?_,?_,?_,?_,?_,?_⟩;all_goals first|(simp [hX7];done)|(simp [hX6];done)|(simp [hX5];done)))
  refine tk 0 ?_;try simp only[Act.put,u2,u3,u4]
  refine tk 1 ?_;try simp only[Act.put,u2,u3,u4]
  refine tk 2 ?_;try simp only[Act.put,u2,u3,u4]
  refine tk 3 ?_;try simp only[Act.put,u2,u3,u4]
  refine rd1 4 fun KK hKK=> ?_;go_simp
  (go_at_call 138;refine(cZ.out _ _ _ (s5.below yL)).mono ?_;rintro e6 w6 ⟨rfl,b6⟩;have b6:Below w5.heap.size w5 w6:=zG b6;have z6:=b6.size;have hB6:=hB5.below b6 hl5;have g6:=g5.trans (b6.mono oo);have t6:=t5.below b6;have s6:=s5.below b6;have hX6:=hB6.cell;have hl6:=hB6.lt)
  refine hKK.out _ _ (by(refine⟨?_,?_,?_,?_,?_,?_⟩;all_goals first|(simp [hX7];done)|(simp [hX6];done)|(simp [hX5];done))) fun hSS=> ?_;try simp only[Act.put,u2,u3,u4]
  refine rd1 5 fun KK hKK=> ?_;go_simp
  (go_at_call 181;refine(cC.out _ _ _ _ t2 (zn bs) _ t6 s6 q3' q4' oo q5').mono ?_;rintro e7 w7 ⟨v7,k7,rfl,b7,hV7⟩;have z7:=b7.size;have hB7:=hB6.below b7 hl6;have g7:=g6.trans (b7.mono oo);have hX7:=hB7.cell)
  refine hKK.out _ _ (by(refine⟨?_,?_,?_,?_,?_,?_⟩;all_goals first|(simp [hX7];done)|(simp [hX6];done)|(simp [hX5];done))) fun hSS=> ?_;try simp only[Act.put,u2,u3,u4]
  refine tk 6 ?_;try simp only[Act.put,u2,u3,u4]
  refine tk 7 ?_;try simp only[Act.put,u2,u3,u4]
  refine tk 8 ?_;try simp only[Act.put,u2,u3,u4]
  refine tk 9 ?_;try simp only[Act.put,u2,u3,u4]
  refine tk 10 ?_;try simp only[Act.put,u2,u3,u4]
  refine wpAnyH_done kr ?_ _;simp only[List.getElem_toArray,List.getElem_cons_succ,List.getElem_cons_zero,Act.put,List.setIfInBounds_toArray,List.set_cons_zero,List.set_cons_succ];have r7:=zf (zf r5 b6) b7;have n7:=zf (zf o5 b6) b7;clear hKK hB5 hB6 hB7 g5 g6 hX5 hX6 hX7 oo5 p5 t5 s5 t6 s6 cC cZ;rcases hV7 with⟨hO2,rfl⟩|⟨E,A7,c7,hO2,rfl,rfl,e7⟩
  ·have hEn:R=none:=by rw[HE2.out,Option.bind_some,hO1,hO2];rfl
   subst hEn;clear HE2 hU;go_wp2;exact bodyPost_ret (v:=.tuple #[sv [],.bool false]) (by simp [results,Tryz.results149,go_sem]) rfl ⟨rfl,g7⟩
  obtain⟨hp1,hp2⟩:=hU.out 0 f P hO1;obtain⟨hp3,hp4⟩:=hU.out t2 (zn bs) E hO2;have hER:R=mcO (P++cs++E):=(by rw[HE2.out,Option.bind_some,hO1,hO2];rfl);have hokA:=pq (pq hp1 HCO.out) hp3;have hl3':(P++cs++E).length=P.length+cs.length+E.length:=(by simp;omega);have hbv:zS (P++cs++E)=zS P++zS cs++zS E:=(by unfold zS;rw[List.flatMap_append,List.flatMap_append]);have cE:Hid (∀A cap wr,Sl wr A (P.length+cs.length+E.length) cap 4 (zS P++zS cs++zS E)→Calls Tryz.prog 177 #[.slice A (P.length+cs.length+E.length) cap] wr fun e w'=>e=zZ R∧Below wr.heap.size wr w'):=fun A cap wr hs=>by
   rw[←hl3'] at hs⊢;rw[←hbv] at hs;rw[hER];exact pY (P++cs++E) A cap wr hs hokA (by rw[hl3'];omega)
  have hm1:P.length+cs.length≤maxLen:=(by unfold maxLen;omega);have hm2:(P.length+cs.length)*40≤140737488355328:=oo;have hm3:P.length+cs.length+E.length≤maxLen:=(by unfold maxLen;omega);have hm4:(P.length+cs.length+E.length)*40≤140737488355328:=oo;have h1c:∀u ∈ zS cs,u.oneCell'=true:=eG cs;have h1e:∀u ∈ zS E,u.oneCell'=true:=eG E;have hne:∀k,(Value.slice A7 E.length c7).ownBlock=some k→(Value.slice A5 P.length c5).ownBlock≠some k:=fun k hk hk2=>by
   have h1:=(r5.lt k hk2).2;have h2:=(e7.lt k hk).1;have:=b6.size;omega
  have s7:=Sl.own n7;clear hU hO1 hO2 hp1 hp3 HE2 hER hokA hl3' hbv HCO b6 b7 r5 n7 o5;go_wp2_with(at_builtin;go_must(refine zN _ rfl _ _ 133 rfl w0.heap.size 160 i _ 4 40 Tryz.underlying133 hi hz0 hz1 hz2 rfl oo _ _ _ rfl (zC r7 oo) _ cs.length c4 (zS cs) rfl s7 h1c hm1 hm2 ?_ ?_))
  ·omega
  intro A8 c8 w8 o8 hg8 _;have z78:=hg8.size;have g8:=g7.grown hg8 oo (fun k hk=>by have:=(r7.lt k hk).1;omega);have s8:=Sl.own (Ou e7 hg8 hne);have z8:=g8.size;clear r7 s7 e7 hg8 g7 hne;go_wp2_with(at_builtin;go_must(refine zN _ rfl _ _ 133 rfl w0.heap.size 160 i _ 4 40 Tryz.underlying133 hi hz0 hz1 hz2 rfl oo _ _ _ rfl o8 _ E.length c7 (zS E) rfl s8 h1e hm3 hm4 ?_ ?_))
  ·omega
  intro A9 c9 w9 o9 hg9 _;have g9:=g8.grown hg9 oo (fun k hk=>by have:=(o8.lt k hk).1;omega);have s9:Sl w9 A9 (P.length+cs.length+E.length) c9 4 (zS P++zS cs++zS E):=by
   have:=Sl.own o9
   first|exact this|(rw[List.append_assoc];exact this)
  have z9:=g9.size;clear o8 s8 o9 hg9 g8;go_wp2_with fail;refine(cE.out _ _ _ s9).mono ?_;rintro e w10 ⟨rfl,b10⟩;have g10:=g9.trans (b10.mono oo);unfold zZ;go_wp2;exact bodyPost_ret (v:=.tuple #[sv (R.getD []),.bool R.isSome]) (by simp [results,Tryz.results149,go_sem]) rfl ⟨rfl,g10⟩
end Go.Proofs.YtfppmajoidkooaaGreatDoor
namespace Go.Proofs.YtfppmajoidkooaaGreatDoor
open Go.RowKit
set_option maxRecDepth 100000
attribute [local go_sem high] zy zA zB zO zK zY zx zk zl zq zi zo yP zD yt zF
attribute [local go_sem high] rO rM
def ixV (o:Option Nat):Int:=match o with
 |some i=>(i:Int)
 |none=> -1
theorem bT (S:Sto)(n:Bs)(A:Option Addr)(cap:Nat)(w:World)(hs:Sl w A S.fs.length cap 2 (yf S.fs))(hl:S.fs.length≤1500000):
 Calls Tryz.prog 109 #[S.V A cap,sv n] w fun e w'=>e= .returned (.int .i64 (ixV (xK S.fs n)))∧Below w.heap.size w w':=by
 have hcap:=hs.1;have hcap2:=hs.2.1;have HSL:Hid (∀wr,Below w.heap.size w wr→Sl wr A S.fs.length cap 2 (yf S.fs)):=fun wr h=>hs.below h;have HF:Hid (∀(k:Nat) (hk:k<S.fs.length),(∀(j:Nat) (h:j<S.fs.length),j<k→S.fs[j].1≠n)→S.fs[k].1=n→ixV (xK S.fs n)=(k:Int)):=fun k hk hA he=>(by rw[XI hk he (fun j hj=>hA j (by omega) hj)];rfl);have HE:Hid ((∀(j:Nat) (h:j<S.fs.length),S.fs[j].1≠n)→ixV (xK S.fs n)= -1):=fun h=>(by rw[di h];rfl);clear hs;generalize ixV (xK S.fs n)=R at*;obtain⟨o,l,m,dict,fs⟩:=S;simp only at*;go_enter Tryz.func109,Tryz.ntmps109;have hK0:Bk (w.alloc (.cells #[.int .i64 o,.int .i64 l,.int .i64 m,.string ⟨dict.toArray⟩,.slice A fs.length cap] 42)) w.heap.size 42 #[.int .i64 o,.int .i64 l,.int .i64 m,.string ⟨dict.toArray⟩,.slice A fs.length cap]:=tBk;have g0:Below w.heap.size w (w.alloc (.cells #[.int .i64 o,.int .i64 l,.int .i64 m,.string ⟨dict.toArray⟩,.slice A fs.length cap] 42)):=zu;go_upto_region 1 with(fail)
 generalize w.alloc (.cells #[.int .i64 o,.int .i64 l,.int .i64 m,.string ⟨dict.toArray⟩,.slice A fs.length cap] 42)=w0 at*;have hX0:=hK0.cell;go_wp2;go_loopw [5] (fun i wr=>wr=w0∧∃k:Nat,i= .int .i64 (k:Int)∧k≤fs.length∧Hid (∀(j:Nat) (h:j<fs.length),j<k→fs[j].1≠n)) (fun i _=>fs.length - (intOf i).toNat)
 case atStart=>exact⟨rfl,0,rfl,oo,fun j h hj=>by omega⟩
 case round=>
  obtain⟨rfl,k,rfl,hk,HA⟩:=hrel;by_cases hlt:k<fs.length
  ·have hki:(k:Int)<fs.length:=oo
   obtain⟨g,off,rfl,hg,c0,c1⟩:=(HSL.out _ g0).fl hlt;by_cases he:fs[k].1=n
   ·have hR:=HF.out k hlt HA.out he
    subst hR;have hd:decide (fs[k].1=n)=true:=(by simpa using he);clear he HF HE;generalize fs[k].1=a at*;go_wp2;go_ret;exact⟨rfl,g0⟩
   ·have HA2:=Go.Lib.hid (Lc hlt HA.out he)
    have hd:decide (fs[k].1=n)=false:=(by simpa using he);clear he;generalize fs[k].1=a at*;go_wp2;go_roundw
    case rel=>exact⟨trivial,k+1,by go_num,oo,HA2⟩
    case measure=>simp [intOf];omega
  ·have hki:¬(k:Int)<fs.length:=oo
   have hR:=HE.out (fun j h=>HA.out j h oo);subst hR;go_wp2;go_ret;exact⟨rfl,g0⟩
end Go.Proofs.YtfppmajoidkooaaGreatDoor
namespace Go.Proofs.YtfppmajoidkooaaGreatDoor
open Go.RowKit
set_option maxRecDepth 100000
attribute [local go_sem high] zy zA zB zO zK zY zx zk zl zq zi zo yP zD yt zF
noncomputable def Sto.rd (S:Sto)(n:Bs)(a b:Int):Option Bs:=(S.file n).bind fun t=>rrB S.o S.l S.m S.dict t a b
theorem dO (o l m : Int) (dict t : Bs) (size : Int) (w : World) (hl : dict.length ≤ 9223372036854775807) (htl : t.length ≤ 1500000) (hs0 : -1000000 ≤ size) (hs1 : size ≤ 1000000) :
    Calls Tryz.prog 150 #[.agg #[.int .i64 o, .int .i64 l, .int .i64 m], sv dict, sv t, .int .i64 size] w fun e w' => e = zZ (mgD o l m dict t size) ∧ Below w.heap.size w w' := by
  obtain ⟨i, hi, hz0, hz1, hz2⟩ := info_parts xW
  by_cases hfb : fits o l m dict ∧ (zT t).isSome = true
  case neg =>
    have cS := fun w => nK o l m dict t w hfb hl htl
    have hE : mgD o l m dict t size = none := by
      unfold mgD
      split
      · rename_i hf
        cases hb : zT t with
        | none => rfl
        | some bs => exact absurd ⟨hf.1, by rw [hb]; rfl⟩ hfb
      · rfl
    rw [hE]
    unfold zZ
    clear hE hfb
    go_enter Tryz.func150, Tryz.ntmps150
    have hK0 : Bk (w.alloc (.cells #[.int .i64 o, .int .i64 l, .int .i64 m] 39)) w.heap.size 39 #[.int .i64 o, .int .i64 l, .int .i64 m] := tBk
    have g0 : Below w.heap.size w (w.alloc (.cells #[.int .i64 o, .int .i64 l, .int .i64 m] 39)) := zu
    go_upto_region 1 with (fail)
    generalize w.alloc (.cells #[.int .i64 o, .int .i64 l, .int .i64 m] 39) = w0 at *
    have hX0 := hK0.cell
    have hz0' := hK0.lt
    go_wp2_with fail
    refine (cS _).mono ?_
    rintro e w1 ⟨rfl, hb1⟩
    have g1 := g0.trans (hb1.mono oo)
    have hz1' := g1.size
    go_wp2
    exact bodyPost_ret (v := .tuple #[sv [], .bool false]) (by simp [results, Tryz.results150, go_sem]) rfl ⟨rfl, zu⟩
  obtain ⟨hf, hbs⟩ := hfb
  obtain ⟨bs, hB⟩ := Option.isSome_iff_exists.1 hbs
  have cS := fun w => oH o l m dict t bs w hf hB htl
  unfold Uu at cS
  have hk := xC hf
  have hbok := xU hB
  have hb40 := (xN hB).2
  have HN : Hid (¬ (1 ≤ size ∧ size ≤ 64) → mgD o l m dict t size = none) := fun h => by unfold mgD; rw [if_neg (fun hh => h hh.2)]
  have HRD : Hid (1 ≤ size ∧ size ≤ 64 → mgD o l m dict t size = (qi (zt o l m dict) size ([], []) bs).bind fun a => mcO a.1) := fun h => by unfold mgD; rw [if_pos ⟨hf, h.1, h.2⟩, hB]; rfl
  obtain ⟨R, hR⟩ : ∃ R, mgD o l m dict t size = R := ⟨_, rfl⟩
  rw [hR] at HN HRD ⊢
  clear hR hf hB hbs
  have HOK := Go.Lib.hid hbok
  have HK := Go.Lib.hid hk
  have cD : Hid (∀ A cap b wr, Sl wr A (zt o l m dict).ps.length cap 2 (psV (zt o l m dict).ps) → b.ok = true → Calls Tryz.prog 139 #[knV (zt o l m dict) A cap, bkV b] wr fun e w' => e = xY (b.dat (zt o l m dict)) ∧ Below wr.heap.size wr w') := fun A cap b wr h hb => jk _ A cap b wr hk h (by have := pW hb; omega)
  have cM : Hid (∀ A cap (x : Bs) wr, Sl wr A (zt o l m dict).ps.length cap 2 (psV (zt o l m dict).ps) → x.length ≤ 2000 → Calls Tryz.prog 182 #[knV (zt o l m dict) A cap, sv x] wr fun e w' => e = .returned (bkV (xJ (zt o l m dict) 0 x)) ∧ Below wr.heap.size wr w') := fun A cap x wr h hx => oL _ A cap x wr hk h oo
  clear hbok hk
  generalize zt o l m dict = K at *
  go_enter Tryz.func150, Tryz.ntmps150
  have hK0 : Bk (w.alloc (.cells #[.int .i64 o, .int .i64 l, .int .i64 m] 39)) w.heap.size 39 #[.int .i64 o, .int .i64 l, .int .i64 m] := tBk
  have g0 : Below w.heap.size w (w.alloc (.cells #[.int .i64 o, .int .i64 l, .int .i64 m] 39)) := zu
  go_upto_region 1 with (fail)
  generalize w.alloc (.cells #[.int .i64 o, .int .i64 l, .int .i64 m] 39) = w0 at *
  have hX0 := hK0.cell
  have hl0 := hK0.lt
  go_wp2_with fail
  refine (cS _).mono ?_
  rintro e w1 ⟨A1, c1, A2, c2, rfl, o1, p1, b1⟩
  have z1 := b1.size
  have g1 := g0.trans (b1.mono oo)
  have hB2 := Bk.new w1 (knC K A1 c1) 130
  have o2 := o1.alloc (.cells (knC K A1 c1) 130)
  have p2 := p1.alloc (.cells (knC K A1 c1) 130)
  have g2 := g1.alloc oo (.cells (knC K A1 c1) 130)
  clear b1 hX0 hK0 g0 o1 p1 g1 cS
  go_upto_region 2 with (fail)
  unfold knC at hB2 o2 p2 g2
  generalize w1.alloc (.cells #[.int .i64 K.o, .int .i64 K.l, .int .i64 K.m, .slice A1 K.ps.length c1, .int .i64 K.base, .int .i64 K.last] 130) = W at *
  generalize w1.heap.size = q1 at *
  have hl2 := hB2.lt
  have zg2 := g2.size
  by_cases hq : 1 ≤ size ∧ size ≤ 64
  case neg =>
    have hE := HN.out hq
    subst hE
    have hd2 := decide_eq_false hq
    clear HN HRD hq cD cM
    go_wp2_with fail
    refine (y9 _ _).mono ?_
    rintro e w' ⟨rfl, rfl⟩
    rw [hd2]
    go_wp2
    exact bodyPost_ret (v := .tuple #[sv [], .bool false]) (by simp [results, Tryz.results150, go_sem]) rfl ⟨rfl, g2⟩
  have hd2 := decide_eq_true hq
  have hE := HRD.out hq
  obtain ⟨hsz1, hsz2⟩ := hq
  have HR : Hid (∀ a, qi K size ([], []) bs = some a → R = mcO a.1) := fun a ha => by rw [hE, ha]; rfl
  have HR0 : Hid (qi K size ([], []) bs = none → R = none) := fun ha => by rw [hE, ha]; rfl
  have s2 := Sl.own o2
  have t2 := Sl.own p2
  have hcap := t2.1
  have hcap2 := t2.2.1
  have HSK : Hid (∀ wr, Below W.heap.size W wr → Sl wr A1 K.ps.length c1 2 (psV K.ps)) := fun wr h => s2.below h
  have HSL : Hid (∀ wr, Below W.heap.size W wr → Sl wr A2 bs.length c2 4 (zS bs)) := fun wr h => t2.below h
  have HGW : Hid (∀ wr, Below W.heap.size W wr → Below w.heap.size w wr) := fun wr h => g2.trans (h.mono oo)
  have HBK : Hid (∀ wr, Below W.heap.size W wr → Bk wr q1 130 #[.int .i64 K.o, .int .i64 K.l, .int .i64 K.m, .slice A1 K.ps.length c1, .int .i64 K.base, .int .i64 K.last]) := fun wr h => hB2.below h hl2
  have o0 : W.ownsRow W.heap.size 160 4 (.slice none ([] : List Blk).length 0) ([] : List Blk).length (zS []) := ⟨by simp [zS], .inl ⟨rfl, rfl⟩⟩
  have g3 : Below W.heap.size W W := Below.refl _ _
  clear hE HN HRD s2 t2 hB2 o2 p2 g2
  go_wp2_with fail
  refine (y9 _ _).mono ?_
  rintro e w' ⟨rfl, rfl⟩
  rw [hd2]
  go_wp2
  go_loopw [13, 14, 37] (fun a b c wr => ∃ (k : Nat) (ms : List Blk) (ld y : Bs) (Ao : Option Addr) (co : Nat), a = .slice Ao ms.length co ∧ b = .string ⟨ld.toArray⟩ ∧ c = .int .i64 (k : Int) ∧ k ≤ bs.length ∧ ld.length ≤ 64 ∧ Hid (qi K size ([], []) (bs.take k) = some (ms, ld)) ∧ Hid (nS K size (ms, ld) k y) ∧ wr.ownsRow W.heap.size 160 4 (.slice Ao ms.length co) ms.length (zS ms) ∧ Below W.heap.size W wr) (fun _ _ c _ => bs.length - (intOf c).toNat)
  case atStart => exact ⟨0, [], [], [], none, 0, rfl, rfl, rfl, by omega, by simp, rfl, nS.zero K size, o0, g3⟩
  case round =>
    obtain ⟨k, ms, ld, y, Ao, co, rfl, rfl, rfl, hk, hld, HM, HMG, ow, g⟩ := hrel
    clear o0 g3
    have hz := g.size
    have hmn : ms.length ≤ k := HMG.out.len
    by_cases hlt : k < bs.length
    · have hki : (k : Int) < bs.length := oo
      have hsA := HSL.out wr g
      obtain ⟨gb, off, rfl, hg, hc⟩ := Sl.jw hsA hlt
      have hcs := ql bs k hlt
      have c0 := hc 0 _ hcs.1
      have c1' := hc 1 _ hcs.2.1
      have c2' := hc 2 _ hcs.2.2.1
      have c3 := hc 3 _ hcs.2.2.2
      have hbo := HOK.out bs[k] (List.getElem_mem hlt)
      have hbs := Blk.vk hbo
      have HSTP : Hid (∀ d, bs[k].dat K = some d → qi K size ([], []) (bs.take (k + 1)) = some (vO K size (ms, ld) bs[k] d)) := fun d hd => dG hlt HM.out hd
      have HSTN : Hid (bs[k].dat K = none → R = none) := fun hd => HR0.out (QL hlt hd)
      have HMSP : Hid (∀ d, bs[k].dat K = some d → nS K size (vO K size (ms, ld) bs[k] d) (k + 1) (y ++ d)) := fun d hd => HMG.out.step HK.out hsz2 hbo hd
      have CDK : Hid (∀ wr, Below W.heap.size W wr → Calls Tryz.prog 139 #[knV K A1 c1, bkV bs[k]] wr fun e w' => e = xY (bs[k].dat K) ∧ Below wr.heap.size wr w') := fun wr h => cD.out _ _ bs[k] wr (HSK.out wr h) hbo
      have HDL : Hid (∀ D, bs[k].dat K = some D → (D.length : Int) = bs[k].size) := fun D h => sD hbo h
      generalize bs[k] = b at *
      clear hc hcs hsA HM hbo
      obtain ⟨n2, r, n4, T⟩ := b
      simp only [Nat.add_zero] at c0 c1' c2' c3 hbs
      obtain ⟨hb1, hb2, hb3, hb4⟩ := hbs
      have hN := Bk.new wr (bkC ⟨n2, r, n4, T⟩) 160
      have ow2 := ow.alloc (.cells (bkC ⟨n2, r, n4, T⟩) 160)
      have gg2 := g.alloc oo (.cells (bkC ⟨n2, r, n4, T⟩) 160)
      go_upto_region 9 with (fail)
      generalize wr.alloc (.cells _ 160) = V at *
      have hNl := hN.lt
      have hXN := hN.cell
      have zz := gg2.size
      have hq1 : W.heap.size ≤ wr.heap.size := hz
      generalize wr.heap.size = q at *
      have hKb := HBK.out _ gg2
      have hXK := hKb.cell
      clear ow g c0 c1' c2' c3
      go_wp2_with fail
      refine (CDK.out _ gg2).mono ?_
      rintro e w5 ⟨rfl, b5⟩
      have z5 := b5.size
      have hN5 := hN.below b5 hNl
      have ow5 := zf ow2 b5
      have g5 := gg2.trans (b5.mono oo)
      have hKb5 := HBK.out _ g5
      have hX5 := hKb5.cell
      have hXN5 := hN5.cell
      clear hXN hN hXK hKb ow2 gg2 b5 CDK
      cases hD : (⟨n2, r, n4, T⟩ : Blk).dat K with
      | none =>
        have hE0 := HSTN.out hD
        subst hE0
        have gw := HGW.out _ g5
        unfold xY
        simp only [Option.getD_none, Option.isSome_none]
        clear HSTN HSTP HMSP HR HR0
        go_wp2
        exact bodyPost_ret (v := .tuple #[sv [], .bool false]) (by simp [results, Tryz.results150, go_sem]) rfl ⟨rfl, gw⟩
      | some d =>
        have hDl : (d.length : Int) = n4 := HDL.out d hD
        have HST := Go.Lib.hid (HSTP.out d hD)
        have HMS := Go.Lib.hid (HMSP.out d hD)
        unfold xY
        simp only [Option.getD_some, Option.isSome_some]
        clear HSTN HSTP HMSP HDL hD
        have hd64 : d.length ≤ 64 := oo
        clear hDl
        rcases List.eq_nil_or_concat ms with rfl | ⟨mz, lb, hms⟩
        · -- the first block
          have HX : Hid (vO K size (([] : List Blk), ld) ⟨n2, r, n4, T⟩ d = ([⟨n2, r, n4, T⟩], d)) := by show _ = _; unfold vO; rw [if_neg (fun h => h.1 rfl)]; rfl
          have HST2 := Go.Lib.hid (HST.out.trans (congrArg some HX.out))
          have HMS2 : Hid (nS K size ([⟨n2, r, n4, T⟩], d) (k + 1) (y ++ d)) := by have := HMS.out; rw [HX.out] at this; exact this
          have hm1 : (0 : Nat) + 1 ≤ maxLen := by unfold maxLen; omega
          have hm2 : ((0 : Nat) + 1) * 40 ≤ 140737488355328 := oo
          clear HST HMS HX HMG
          go_wp2_with (at_builtin; go_must (refine zN _ rfl _ _ 133 rfl (W.heap.size) 160 i _ 4 40 Tryz.underlying133 hi hz0 hz1 hz2 rfl (by omega) _ _ _ rfl (ow5.alloc _) _ 1 1 [.int .i64 n2, .bool r, .int .i64 n4, .string ⟨T.toArray⟩] rfl (Sl.newAt w5 #[.int .i64 n2, .bool r, .int .i64 n4, .string ⟨T.toArray⟩] _ 1 4 (by first | rfl | simp) (by simp) (by omega)) (by simp [Value.oneCell']) hm1 hm2 ?_ ?_))
          try (case refine_1 => first | omega | (simp <;> omega; done))
          intro A6 cap6 w6 o6 hg6 _
          have g6 := yw g5 hg6 (by first | omega | (simp; omega)) (fun k hk => by have := (ow5.lt k hk).1; omega)
          have o6' : w6.ownsRow W.heap.size 160 4 (.slice A6 [(⟨n2, r, n4, T⟩ : Blk)].length cap6) [(⟨n2, r, n4, T⟩ : Blk)].length (zS [(⟨n2, r, n4, T⟩ : Blk)]) := o6
          clear o6 hg6 ow5 g5 hX5 hXN5 hN5 hKb5
          go_wp2
          go_roundw
          case rel => exact ⟨k + 1, [(⟨n2, r, n4, T⟩ : Blk)], d, y ++ d, A6, cap6, rfl, rfl, by go_num, oo, hd64, HST2, HMS2, o6', g6⟩
          case measure => simp [intOf]; omega
        · -- behind others
          rw [List.concat_eq_append] at hms
          subst hms
          have hne : mz ++ [lb] ≠ [] := by simp
          simp only [List.length_append, List.length_singleton] at ow5 hmn ⊢
          by_cases hj : (ld.length : Int) + d.length ≤ size
          · have HX : Hid (vO K size (mz ++ [lb], ld) ⟨n2, r, n4, T⟩ d = (mz ++ [xJ K 0 (ld ++ d)], ld ++ d)) := by show _ = _; unfold vO; rw [if_pos ⟨hne, hj⟩, List.dropLast_concat]
            have HST2 := Go.Lib.hid (HST.out.trans (congrArg some HX.out))
            have HMS2 : Hid (nS K size (mz ++ [xJ K 0 (ld ++ d)], ld ++ d) (k + 1) (y ++ d)) := by have := HMS.out; rw [HX.out] at this; exact this
            have cMx : Hid (∀ wr, Below W.heap.size W wr → Calls Tryz.prog 182 #[knV K A1 c1, sv (ld ++ d)] wr fun e w' => e = .returned (bkV (xJ K 0 (ld ++ d))) ∧ Below wr.heap.size wr w') := fun wr h => cM.out _ _ (ld ++ d) wr (HSK.out wr h) (by rw [List.length_append]; omega)
            have hset := V3 mz lb (xJ K 0 (ld ++ d))
            have hl64 : (ld ++ d).length ≤ 64 := by rw [List.length_append]; omega
            generalize xJ K 0 (ld ++ d) = c at *
            obtain ⟨m2, s, m4, U⟩ := c
            simp only at hset
            clear HST HMS HX HMG hne
            have hlen : ¬ 9223372036854775807 < ld.length + d.length := oo
            go_wp2_with fail
            refine (cMx.out _ g5).mono ?_
            rintro e w8 ⟨rfl, b8⟩
            have z8 := b8.size
            have ow8 := zf ow5 b8
            have g8 := g5.trans (b8.mono oo)
            obtain ⟨g2, cap2, hform⟩ : ∃ g cap, Value.slice Ao (mz.length + 1) co = .slice (some ⟨g, 0, none⟩) (mz.length + 1) cap := by
              rcases ow8.2 with ⟨h1, h2⟩ | ⟨g, cap, cur, h1, _⟩
              · omega
              · exact ⟨g, cap, h1⟩
            injection hform with hA2 _ hc2
            subst hA2 hc2
            have q8 := (ow8.lt g2 rfl)
            have F := fun j => ow8.frozenAt j
            have G0 : ∃ v, w8.cell? ⟨g2, mz.length * 4, none⟩ = some v := ⟨_, (ow8.cellAt (mz.length * 4) (by omega)).trans (List.getElem?_eq_getElem (by rw [xQ]; first | omega | (simp; done) | (simp; omega)))⟩
            have G1 : ∃ v, w8.cell? ⟨g2, mz.length * 4 + 1, none⟩ = some v := ⟨_, (ow8.cellAt (mz.length * 4 + 1) (by omega)).trans (List.getElem?_eq_getElem (by rw [xQ]; first | omega | (simp; done) | (simp; omega)))⟩
            have G2 : ∃ v, w8.cell? ⟨g2, mz.length * 4 + 2, none⟩ = some v := ⟨_, (ow8.cellAt (mz.length * 4 + 2) (by omega)).trans (List.getElem?_eq_getElem (by rw [xQ]; first | omega | (simp; done) | (simp; omega)))⟩
            have G3 : ∃ v, w8.cell? ⟨g2, mz.length * 4 + 3, none⟩ = some v := ⟨_, (ow8.cellAt (mz.length * 4 + 3) (by omega)).trans (List.getElem?_eq_getElem (by rw [xQ]; first | omega | (simp; done) | (simp; omega)))⟩
            obtain ⟨v0, G0⟩ := G0
            obtain ⟨v1, G1⟩ := G1
            obtain ⟨v2, G2⟩ := G2
            obtain ⟨v3, G3⟩ := G3
            have ow9 := ((((ow8.stored (mz.length * 4 + 0) (.int .i64 m2)).1.stored (mz.length * 4 + 1) (.bool s)).1.stored (mz.length * 4 + 2) (.int .i64 m4)).1.stored (mz.length * 4 + 3) (.string ⟨U.toArray⟩)).1
            rw [hset] at ow9
            have g9 : Below W.heap.size W ((((w8.setCell ⟨g2, mz.length * 4 + 0, none⟩ (.int .i64 m2)).setCell ⟨g2, mz.length * 4 + 1, none⟩ (.bool s)).setCell ⟨g2, mz.length * 4 + 2, none⟩ (.int .i64 m4)).setCell ⟨g2, mz.length * 4 + 3, none⟩ (.string ⟨U.toArray⟩)) := zu
            simp only [Nat.add_zero] at ow9 g9
            clear ow5 g5 b8 cMx hset hX5 hXN5 hN5 hKb5
            go_upto_region 18 with (fail)
            generalize (((w8.setCell ⟨g2, mz.length * 4, none⟩ (.int .i64 m2)).setCell ⟨g2, mz.length * 4 + 1, none⟩ (.bool s)).setCell ⟨g2, mz.length * 4 + 2, none⟩ (.int .i64 m4)).setCell ⟨g2, mz.length * 4 + 3, none⟩ (.string ⟨U.toArray⟩) = w9 at *
            have hol : (mz ++ [(⟨m2, s, m4, U⟩ : Blk)]).length = mz.length + 1 := by simp
            have HOL := Go.Lib.hid hol
            have ow10 : w9.ownsRow W.heap.size 160 4 (.slice (some ⟨g2, 0, none⟩) (mz ++ [(⟨m2, s, m4, U⟩ : Blk)]).length co) (mz ++ [(⟨m2, s, m4, U⟩ : Blk)]).length (zS (mz ++ [(⟨m2, s, m4, U⟩ : Blk)])) := by rw [hol]; exact ow9
            clear F G0 G1 G2 G3 ow9 hol
            go_wp2
            go_roundw
            case rel => exact ⟨k + 1, mz ++ [(⟨m2, s, m4, U⟩ : Blk)], ld ++ d, y ++ d, _, co, (by rw [HOL.out]), rfl, by go_num, by omega, hl64, HST2, HMS2, ow10, g9⟩
            case measure => simp [intOf]; omega
          · have HX : Hid (vO K size (mz ++ [lb], ld) ⟨n2, r, n4, T⟩ d = (mz ++ [lb] ++ [⟨n2, r, n4, T⟩], d)) := by show _ = _; unfold vO; rw [if_neg (fun h => hj h.2)]
            have HST2 := Go.Lib.hid (HST.out.trans (congrArg some HX.out))
            have HMS2 : Hid (nS K size (mz ++ [lb] ++ [⟨n2, r, n4, T⟩], d) (k + 1) (y ++ d)) := by have := HMS.out; rw [HX.out] at this; exact this
            have hm1 : mz.length + 1 + 1 ≤ maxLen := by unfold maxLen; omega
            have hm2 : (mz.length + 1 + 1) * 40 ≤ 140737488355328 := oo
            clear HST HMS HX HMG hne
            go_wp2_with (at_builtin; go_must (refine zN _ rfl _ _ 133 rfl (W.heap.size) 160 i _ 4 40 Tryz.underlying133 hi hz0 hz1 hz2 rfl (by omega) _ _ _ rfl (ow5.alloc _) _ 1 1 [.int .i64 n2, .bool r, .int .i64 n4, .string ⟨T.toArray⟩] rfl (Sl.newAt w5 #[.int .i64 n2, .bool r, .int .i64 n4, .string ⟨T.toArray⟩] _ 1 4 (by first | rfl | simp) (by simp) (by omega)) (by simp [Value.oneCell']) hm1 hm2 ?_ ?_))
            try (case refine_1 => first | omega | (simp <;> omega; done))
            intro A6 cap6 w6 o6 hg6 _
            have g6 := yw g5 hg6 (by first | omega | (simp; omega)) (fun k hk => by have := (ow5.lt k hk).1; omega)
            have hol : (mz ++ [lb] ++ [(⟨n2, r, n4, T⟩ : Blk)]).length = mz.length + 1 + 1 := by simp
            have HOL := Go.Lib.hid hol
            have o6' : w6.ownsRow W.heap.size 160 4 (.slice A6 (mz ++ [lb] ++ [(⟨n2, r, n4, T⟩ : Blk)]).length cap6) (mz ++ [lb] ++ [(⟨n2, r, n4, T⟩ : Blk)]).length (zS (mz ++ [lb] ++ [(⟨n2, r, n4, T⟩ : Blk)])) := by rw [hol, xE]; exact o6
            clear o6 hg6 ow5 g5 hX5 hXN5 hN5 hKb5 hol
            go_wp2
            go_roundw
            case rel => exact ⟨k + 1, mz ++ [lb] ++ [(⟨n2, r, n4, T⟩ : Blk)], d, y ++ d, A6, cap6, (by rw [HOL.out]), rfl, by go_num, by omega, hd64, HST2, HMS2, o6', g6⟩
            case measure => simp [intOf]; omega
    · have hki : ¬ (k : Int) < bs.length := oo
      have HE := HR.out (ms, ld) (by rw [← HM.out, List.take_of_length_le (by omega)])
      have hsb := Sl.own ow
      have cE := pY ms Ao co wr hsb HMG.out.ok oo
      have gw := HGW.out wr g
      have zw := gw.size
      rw [← HE] at cE
      have hre : Hid (R = mcO ms) := HE
      clear HE HMG HM
      go_wp2_with fail
      refine cE.mono ?_
      rintro e w7 ⟨rfl, b7⟩
      have g7 := gw.trans (b7.mono oo)
      unfold zZ
      go_wp2
      exact bodyPost_ret (v := .tuple #[sv (R.getD []), .bool R.isSome]) (by simp [results, Tryz.results150, go_sem]) rfl ⟨rfl, g7⟩
end Go.Proofs.YtfppmajoidkooaaGreatDoor
