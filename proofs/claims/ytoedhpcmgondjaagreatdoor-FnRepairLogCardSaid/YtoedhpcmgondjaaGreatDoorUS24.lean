import Derived.Test.YtoedhpcmgondjaaGreatDoorUS23
import Derived.Test.YtoedhpcmgondjaaGreatDoorUR1
set_option linter.all false
set_option maxHeartbeats 8000000
namespace Go.Proofs.YtoedhpcmgondjaaGreatDoor
open Go.Lib(hid)
open Go.RowKit Go.Proofs.Tryz
set_option maxRecDepth 100000
attribute [local instance] mU hZ cvZ
attribute [local go_sem high] zA zB zD zS zL yf zC zk zl zt zi zu yR zG yu zH
def LX (O:Option (List Blk))(v:Value)(ok:Bool)(B:Nat)(w':World):Prop:=(O=none∧ok=false)∨∃P A cap,O=some P∧ok=true∧v= .slice A P.length cap∧w'.ownsRow B 122 4 (.slice A P.length cap) P.length (zU P)
theorem MF.out {O:Option (List Blk)}{w w':World}{e:Ending}(h:MF O w e w'):∃v ok,e= .returned (.tuple #[v,.bool ok])∧Below w.heap.size w w'∧LX O v ok w.heap.size w':=by
 obtain⟨a,h⟩:=h;rcases h with⟨h1,v,h2⟩|⟨P,h1,A,cap,h2,b⟩
 ·exact⟨v,false,h2,a,.inl ⟨h1,rfl⟩⟩
 ·exact⟨_,true,h2,a,.inr ⟨P,A,cap,h1,rfl,rfl,b⟩⟩
theorem PX {w w':World}{B n s:Nat}{e:TypeId}{v:Value}{xs:List Value}{row:Option Nat}(h:w.ownsRow B e s v n xs)(a:w.grownBy w' row)(b:∀k,v.ownBlock=some k→row≠some k):w'.ownsRow B e s v n xs:=
 h.kept a (by
  cases c:v.ownBlock with
  |none=>exact .inl rfl
  |some k=>exact .inr (fun d=>b k c d.symm))
theorem iy (o l m:Int)(dict t:Bs)(f c:Int)(d:Bs)(size:Int)(w:World)(hl:dict.length≤9223372036854775807)(h4:t.length≤1500000)(hd:d.length≤9223372036854775807)(h6: -1000000≤size)(h7:size≤1000000)
 (k3: -9223372036854775808≤f) (k4:f≤9223372036854775807) (k5: -9223372036854775808≤c) (k6:c≤9223372036854775807):
 Calls prog 88 #[.agg #[(o:Int),l,m],sv dict,sv t,f,c,sv d,size] w fun e w'=>e=yg (rpD o l m dict t f c d size)∧Below w.heap.size w w':=by
 obtain⟨i,hi,c7,c8,c9⟩:=info_parts wo;have cB:=fun w=>qm t w h4;unfold nM at cB;have cR:=fun w=>jJ o l m dict size w hl;have cM:=fun w=>Zr d size w hd h6 h7;have y:Hid ((zX t=none∨¬(fits o l m dict∧1≤size∧size≤64)∨(∀b,zX t=some b→¬(0≤f∧f≤c∧c≤zn b))∨(2000<d.length∨size*40<(d.length:Int)))→rpD o l m dict t f c d size=none):=fun h=>by
  unfold rpD;by_cases hf:fits o l m dict
  ·rw[if_pos hf]
   cases hB:zX t with
   |none=>rfl
   |some b=>
    rw[Option.bind_some];split
    ·rename_i g
     rcases h with h|h|h|h
     ·rw[hB] at h;cases h
     ·unfold nwO;rw[if_neg (fun h2=>h ⟨hf,h2.1,h2.2.1⟩)];rfl
     ·exact absurd g (h b hB)
     ·unfold nwO;rw[if_neg (fun h2=>by omega)];rfl
    ·rfl
  ·rw[if_neg hf]
 have HY:Hid (∀b,zX t=some b→(fits o l m dict∧1≤size∧size≤64)→(0≤f∧f≤c∧c≤zn b)→¬(2000<d.length∨size*40<(d.length:Int))→rpD o l m dict t f c d size=(wS (zy o l m dict) 0 f 0 b).bind fun a=>(wS (zy o l m dict) c (zn b) 0 b).bind fun e=>mcO (a++mks (zy o l m dict) size.toNat d.length d++e)):=fun b h1 h2 g h3=>by
  unfold rpD nwO;rw[if_pos h2.1,h1,Option.bind_some,if_pos g,if_pos ⟨h2.2.1,h2.2.2,by omega,by omega⟩];rfl
 obtain⟨R,hR⟩:∃R,rpD o l m dict t f c d size=R:=⟨_,rfl⟩;rw[hR] at y HY⊢;clear hR;go_enter func88,ntmps88;have b0:Bk (w.alloc (.cells #[(o:Int),l,m] 24)) w.heap.size 24 #[(o:Int),l,m]:=tBk;have g0:Below w.heap.size w (w.alloc (.cells #[(o:Int),l,m] 24)):=zx;go_upto_region 1 with(fail)
 generalize w.alloc (.cells #[(o:Int),l,m] 24)=w0 at*;go_wp2_with fail;refine(cB _).mono ?_;rintro e w1 ⟨r,s,rfl,U,V⟩;have z0:=g0.size;have z1:=V.size;have h8:=b0.lt;have W:=b0.below V h8;have g1:=g0.trans (V.mono oo);have h9:=W.cell;have h':=W.lt;clear b0 g0 V cB
 cases hB:zX t with
 |none=>
  have h:=y.out (.inl hB);subst h;simp only[hB,Option.elim_none,Option.isSome_none];go_wp2;exact bodyPost_ret (v:=.tuple #[sv [],.bool false]) (by simp [results,results88,go_sem]) rfl ⟨rfl,g1⟩
 |some b=>
  have p:=xY hB;have d3:=(xO hB).2;rw[hB] at U;simp only[hB,Option.elim_some,Option.isSome_some,Option.getD_some] at U⊢;go_wp2_with fail;refine(cR _).mono ?_;rintro e w2 ⟨rfl,I⟩;have z2:=I.size;have B:=W.below I h';have C:=g1.trans (I.mono oo);have b3:=B.cell;have D:=zf U I;clear W g1 I cR h9 U;by_cases g:fits o l m dict∧1≤size∧size≤64
  case neg=>
   have h:=y.out (.inr (.inl g));subst h;rw[decide_eq_false g];clear g;go_wp2;exact bodyPost_ret (v:=.tuple #[sv [],.bool false]) (by simp [results,results88,go_sem]) rfl ⟨rfl,C⟩
  rw[decide_eq_true g];have d4:=Sl.own D;have cZ:=jU b r s w2 d4 p oo;have i1:=vV b p;have i2:=Xp hB;go_wp2_with fail;refine cZ.mono ?_;rintro e l1 ⟨rfl,J⟩;have l2:=J.size;have b4:=B.below J oo;have b5:=C.trans (J.mono oo);have d6:=b4.cell;have d7:=zf D J;clear B C J b3 D d4 cZ;go_wp2_with fail;refine(dN _ _ _ _).mono ?_;rintro e w' ⟨rfl,rfl⟩;by_cases u:0≤f∧f≤c∧c≤zn b
  case neg=>
   have h:=y.out (.inr (.inr (.inl (fun bs' X=>by rw[hB] at X;injection X with X;subst X;exact u))));subst h;rw[decide_eq_false u];clear g u;go_wp2;exact bodyPost_ret (v:=.tuple #[sv [],.bool false]) (by simp [results,results88,go_sem]) rfl ⟨rfl,b5⟩
  rw[decide_eq_true u];have B:=b4;have C:=b5;have b3:=d6;have D:=d7;clear b4 b5 d6 d7;go_wp2_with fail;refine(cM _).mono ?_;rintro e q ⟨rfl,L⟩;have z3:=L.size;have b6:=B.below L oo;have g3:=C.trans (L.mono oo);have i3:=b6.cell;have o3:=zf D L;clear B C L cM b3 D;by_cases F:2000<d.length∨size*40<(d.length:Int)
  case pos=>
   have h:=y.out (.inr (.inr (.inr F)));subst h;rw[decide_eq_true F];clear g F u;go_wp2;exact bodyPost_ret (v:=.tuple #[sv [],.bool false]) (by simp [results,results88,go_sem]) rfl ⟨rfl,g3⟩
  rw[decide_eq_false F];have h:=HY.out b hB g u F;obtain⟨n,rfl⟩:=Int.eq_ofNat_of_zero_le (by omega:0≤size);rw[Int.toNat_natCast] at h;have hk:=xG g.1;have l4:(mks (zy o l m dict) n d.length d).length≤40:=by
   unfold mks;rw[List.length_map];exact uQ n (by omega) 40 _ d (by omega)
  have d9:=Yg hk n d.length oo oo d;have cS:=fun w=>bF o l m dict d n w g.1 oo oo oo;have Y:=fun x=>kX (f:=0) (t:=f) hk b 0 x p;have Z:=fun x=>kX (f:=c) (t:=zn b) hk b 0 x p;have s3:=Sl.own o3;have cC:Hid (∀wr,Below q.heap.size q wr→Calls prog 126 #[.agg #[(o:Int),l,m],sv dict,.slice r b.length s,.int .i64 0,f] wr fun e w'=>∃v ok,e= .returned (.tuple #[v,.bool ok])∧Below wr.heap.size wr w'∧LX (wS (zy o l m dict) 0 f 0 b) v ok wr.heap.size w'):=fun wr M=>(Xq o l m dict b r s 0 f wr g.1 (s3.below M) p d3 oo oo oo oo).mono fun e w' h=>h.out;have e1:Hid (∀wr,Below q.heap.size q wr→Calls prog 126 #[.agg #[(o:Int),l,m],sv dict,.slice r b.length s,c,.int .i64 (zn b)] wr fun e w'=>∃v ok,e= .returned (.tuple #[v,.bool ok])∧Below wr.heap.size wr w'∧LX (wS (zy o l m dict) c (zn b) 0 b) v ok wr.heap.size w'):=fun wr M=>(Xq o l m dict b r s c (zn b) wr g.1 (s3.below M) p d3 oo oo oo oo).mono fun e w' h=>h.out;have e2:Hid (∀wr,Below q.heap.size q wr→Calls prog 125 #[.slice r b.length s] wr fun e w'=>e= .returned (.int .i64 (zn b))∧Below wr.heap.size wr w'):=fun wr M=>jU b r s wr (s3.below M) p oo;generalize mks (zy o l m dict) n d.length d=cs at*;generalize zy o l m dict=K at*;clear g u F p y HY hk s3 o3 i1 i2;generalize zn b=z at*;have r3:=Below.refl q.heap.size q;go_wp2_with fail;refine(cC.out _ r3).mono ?_;rintro e w4 ⟨v4,l6,rfl,N,i4⟩;have z4:=N.size;have b8:=b6.below N oo;have g4:=g3.trans (N.mono oo);have a1:=b8.cell;clear cC b6 g3 i3 r3;go_wp2_with fail;refine wp_region_held_drew (S:=(fun w'=>w'.cell? ⟨w.heap.size,0,none⟩=some (.int .i64 o)∧w'.cell? ⟨w.heap.size,1,none⟩=some (.int .i64 l)∧w'.cell? ⟨w.heap.size,2,none⟩=some (.int .i64 m))) kr ?_ (fun e6=> ?_);focus((refine⟨?_,?_,?_⟩;all_goals first|(simp [a2];done)|(simp [a3];done)|(simp [a1];done)))
  refine tk 0 ?_;refine tk 1 ?_;refine tk 2 ?_;refine tk 3 ?_;refine tk 4 ?_;try simp only[Act.put,u2,u3,u4]
  refine rd1 5 fun KK a4=> ?_;go_simp
  (go_at_call 125;refine(e2.out _ y5).mono ?_;rintro e5 w5 ⟨rfl,j⟩;have j:Below w4.heap.size w4 w5:=zK j;have z5:=j.size;have b9:=b8.below j oo;have g5:=g4.trans (j.mono oo);have B5:=N.trans (j.mono oo);have a3:=b9.cell)
  refine a4.out _ _ (by(refine⟨?_,?_,?_⟩;all_goals first|(simp [a2];done)|(simp [a3];done)|(simp [a1];done))) fun e6=> ?_;try simp only[Act.put,u2,u3,u4]
  refine rd1 6 fun KK a4=> ?_;go_simp
  (go_at_call 126;refine(e1.out _ B5).mono ?_;rintro m1 w6 ⟨v6,m4,rfl,O,e9⟩;have z6:=O.size;have e':=b9.below O oo;have g6:=g5.trans (O.mono oo);have a2:=e'.cell)
  refine a4.out _ _ (by(refine⟨?_,?_,?_⟩;all_goals first|(simp [a2];done)|(simp [a3];done)|(simp [a1];done))) fun e6=> ?_;try simp only[Act.put,u2,u3,u4]
  refine tk 7 ?_;refine tk 8 ?_;refine tk 9 ?_;refine tk 10 ?_;refine tk 11 ?_;try simp only[Act.put,u2,u3,u4]
  refine wpAnyH_done kr ?_ _;simp only[List.getElem_toArray,List.getElem_cons_succ,List.getElem_cons_zero,Act.put,List.setIfInBounds_toArray,List.set_cons_zero,List.set_cons_succ];clear a4 e1 e2 b8 b9 g4 g5 a1 a3 B5;rcases i4 with⟨G,rfl⟩|⟨P,A4,c4,G,rfl,rfl,o4⟩
  ·have H:R=none:=by rw[h,G];rfl
   subst H;clear h Y Z e9;go_wp2;exact bodyPost_ret (v:=.tuple #[sv [],.bool false]) (by simp [results,results88,go_sem]) rfl ⟨rfl,g6⟩
  rcases e9 with⟨Q,rfl⟩|⟨E,A6,c6,Q,rfl,rfl,o6⟩
  ·have H:R=none:=by rw[h,G,Q];rfl
   subst H;clear h Y Z o4;go_wp2;exact bodyPost_ret (v:=.tuple #[sv [],.bool false]) (by simp [results,results88,go_sem]) rfl ⟨rfl,g6⟩
  obtain⟨f1,m6⟩:=Y P G;obtain⟨f2,m7⟩:=Z E Q;have H:R=mcO (P++cs++E):=(by rw[h,G,Q];rfl);have f3:=qG (qG f1 d9) f2;have c0:(P++cs++E).length=P.length+cs.length+E.length:=(by simp;omega);have f4:zU (P++cs++E)=zU P++zU cs++zU E:=(by unfold zU;rw[List.flatMap_append,List.flatMap_append]);have cE:Hid (∀A cap wr,Sl wr A (P.length+cs.length+E.length) cap 4 (zU P++zU cs++zU E)→Calls prog 122 #[.slice A (P.length+cs.length+E.length) cap] wr fun e w'=>e=yg R∧Below wr.heap.size wr w'):=fun A cap wr hs=>by
   rw[←c0] at hs⊢;rw[←f4] at hs;rw[H];exact nY (P++cs++E) A cap wr hs f3 (by rw[c0];omega)
  have j0:P.length+cs.length≤maxLen:=(by unfold maxLen;omega);have j1:(P.length+cs.length)*40≤140737488355328:=oo;have j2:P.length+cs.length+E.length≤maxLen:=(by unfold maxLen;omega);have j3:(P.length+cs.length+E.length)*40≤140737488355328:=oo;have j4:∀c2 ∈ zU cs,c2.oneCell'=true:=Yi cs;have j5:∀c2 ∈ zU E,c2.oneCell'=true:=Yi E;have f5:=zf (zf o4 j) O;have f6:∀k,(Value.slice A6 E.length c6).ownBlock=some k→(Value.slice A4 P.length c4).ownBlock≠some k:=fun k hk j6=>by
   have h1:=(o4.lt k j6).2;have h2:=(o6.lt k hk).1;have:=j.size;omega
  clear Y Z G Q f1 f2 h H f3 c0 f4 d9 N j O o4;go_wp2_with fail;refine(cS _).mono ?_;rintro e w7 ⟨A7,j7,rfl,o7,T⟩;have z7:=T.size;have g7:=g6.trans (T.mono oo);have c3:=zf f5 T;have f9:=zf o6 T;have s7:=Sl.own o7;clear e' g6 T cS a2 f5 o6 o7;go_wp2_with(at_builtin;go_must(refine zQ _ rfl _ _ 97 rfl w0.heap.size 122 i _ 4 40 underlying97 hi c7 c8 c9 rfl oo _ _ _ rfl (zF c3 oo) _ cs.length j7 (zU cs) rfl s7 j4 j0 j1 ?_ ?_))
  ·omega
  intro A8 n1 w8 o8 a7 _;have g8:=g7.grown a7 oo (fun k hk=>by have:=(c3.lt k hk).1;omega);have n3:=a7.size;have s8:=Sl.own (PX f9 a7 f6);have z8:=g8.size;clear c3 s7 f9 a7 g7 f6;go_wp2_with(at_builtin;go_must(refine zQ _ rfl _ _ 97 rfl w0.heap.size 122 i _ 4 40 underlying97 hi c7 c8 c9 rfl oo _ _ _ rfl o8 _ E.length c6 (zU E) rfl s8 j5 j2 j3 ?_ ?_))
  ·omega
  intro A9 j9 w9 o9 g' _;have g9:=g8.grown g' oo (fun k hk=>by have:=(o8.lt k hk).1;omega);have s9:Sl w9 A9 (P.length+cs.length+E.length) j9 4 (zU P++zU cs++zU E):=by
   have:=Sl.own o9
   first|exact this|(rw[List.append_assoc];exact this)
  have z9:=g9.size;clear o8 s8 o9 g' g8;go_wp2_with fail;refine(cE.out _ _ _ s9).mono ?_;rintro e n6 ⟨rfl,k1⟩;have k2:=g9.trans (k1.mono oo);unfold yg;go_wp2;exact bodyPost_ret (v:=.tuple #[sv (R.getD []),.bool R.isSome]) (by simp [results,results88,go_sem]) rfl ⟨rfl,k2⟩
theorem V4 (a:List Blk)(b c:Blk):((((zU (a++[b])).set (a.length*4+0) (.int .i64 c.num)).set (a.length*4+1) (.bool c.raw)).set (a.length*4+2) (.int .i64 c.size)).set (a.length*4+3) (.string ⟨c.body.toArray⟩)=zU (a++[c]):=by
 rw[xJ,xJ];have d:=xX a;rw[show bkL b=[.int .i64 b.num,.bool b.raw,.int .i64 b.size,.string ⟨b.body.toArray⟩] from rfl];rw[List.set_append_right _ _ (by omega),List.set_append_right _ _ (by omega),List.set_append_right _ _ (by omega),List.set_append_right _ _ (by omega),d];rw[show a.length*4+0 - a.length*4=0 by omega,show a.length*4+1 - a.length*4=1 by omega,show a.length*4+2 - a.length*4=2 by omega,show a.length*4+3 - a.length*4=3 by omega];rfl
theorem PS {K:Kn}{a:List Blk}{Y:Bs}(h:yL K a=some Y){k:Nat}(hk:k<a.length):∃d,a[k].dat K=some d:=by
 cases hd:a[k].dat K with
 |some d=>exact⟨d,rfl⟩
 |none=>rw[ZK hk hd] at h;cases h
theorem dH (o l m:Int)(dict t:Bs)(size:Int)(w:World)(hl:dict.length≤9223372036854775807)(h3:t.length≤1500000):
 Calls prog 89 #[.agg #[(o:Int),l,m],sv dict,sv t,size] w fun e w'=>e=yg (mgD o l m dict t size)∧Below w.heap.size w w':=by
 obtain⟨i,hi,h5,h6,h7⟩:=info_parts wo;have cB:=fun w=>qm t w h3;unfold nM at cB;have cC:=fun w=>qO o l m dict t w hl h3;have cR:=fun w=>jJ o l m dict size w hl;have HN:Hid ((zX t=none∨cdB o l m dict t=none∨¬(fits o l m dict∧1≤size∧size≤64))→mgD o l m dict t size=none):=fun h=>by
  cases hm:mgD o l m dict t size with
  |none=>rfl
  |some p8=>
   exfalso;obtain⟨E,a,y,h1,h2,l6,h4,l8,_⟩:=Vz hm;rcases h with h|h|h
   ·rw[h4] at h;cases h
   ·rw[rO h1 h4,l8] at h;cases h
   ·exact h ⟨h1,h2,l6⟩
 obtain⟨b0,hR⟩:∃b0,mgD o l m dict t size=b0:=⟨_,rfl⟩;have i0:=hid hR;rw[hR] at HN⊢;clear hR;go_enter func89,ntmps89;have i1:Bk (w.alloc (.cells #[(o:Int),l,m] 24)) w.heap.size 24 #[(o:Int),l,m]:=tBk;have i2:Below w.heap.size w (w.alloc (.cells #[(o:Int),l,m] 24)):=zx;have s0:(w.alloc (.cells #[(o:Int),l,m] 24)).heap.size=w.heap.size+1:=(by simp);go_upto_region 1 with(fail)
 generalize w.alloc (.cells #[(o:Int),l,m] 24)=w0 at*;go_wp2_with fail;refine(cB _).mono ?_;rintro e w1 ⟨A1,m0,rfl,o1,d5⟩;have z1:=d5.size;have f1:=i1.below d5 oo;have g1:=i2.trans (d5.mono oo);have m1:=f1.cell;clear i1 i2 d5 cB;go_wp2_with fail;refine(cC _).mono ?_;rintro e w2 ⟨rfl,b8⟩;have z2:=b8.size;have d6:=f1.below b8 oo;have c:=g1.trans (b8.mono oo);have m2:=d6.cell;have o2:=zf o1 b8;have m3:=d6.lt;clear f1 g1 b8 m1 o1 cC
 cases hB:zX t with
 |none=>
  have h:=HN.out (.inl hB);subst h;simp only[hB,Option.elim_none,Option.isSome_none];unfold x9;go_wp2;exact bodyPost_ret (v:=.tuple #[sv [],.bool false]) (by simp [results,results89,go_sem]) rfl ⟨rfl,c⟩
 |some E=>
  have i5:=xY hB;have q8:=(xO hB).2;rw[hB] at o2;simp only[hB,Option.elim_some,Option.isSome_some,Option.getD_some] at o2⊢
  cases hC:cdB o l m dict t with
  |none=>
   have h:=HN.out (.inr (.inl hC));subst h;unfold x9;simp only[Option.getD_none,Option.isSome_none];go_wp2;exact bodyPost_ret (v:=.tuple #[sv [],.bool false]) (by simp [results,results89,go_sem]) rfl ⟨rfl,c⟩
  |some m4=>
   unfold x9;simp only[Option.getD_some,Option.isSome_some];go_wp2_with fail;refine(cR _).mono ?_;rintro e B ⟨rfl,b9⟩;have z3:=b9.size;have f2:=d6.below b9 m3;have g3:=c.trans (b9.mono oo);have o3:=zf o2 b9;clear d6 c b9 m2 o2 cR;by_cases O:fits o l m dict∧1≤size∧size≤64
   case neg=>
    have h:=HN.out (.inr (.inr O));subst h;rw[decide_eq_false O];clear O;go_wp2;exact bodyPost_ret (v:=.tuple #[sv [],.bool false]) (by simp [results,results89,go_sem]) rfl ⟨rfl,g3⟩
   rw[decide_eq_true O];have hY:yL (zy o l m dict) E=some m4:=(by rw[rO O.1 hB] at hC;exact hC);have hk:=xG O.1;have cD:Hid (∀b wr,b.ok=true→Calls prog 128 #[.agg #[(o:Int),l,m],sv dict,bkV b] wr fun e w'=>e=x9 (b.dat (zy o l m dict))∧Below wr.heap.size wr w'):=fun b wr h=>mD o l m dict b wr O.1 (by have:=pM h;omega);have cM:Hid (∀(x:Bs) wr,x.length≤2000→Calls prog 129 #[.agg #[(o:Int),l,m],sv dict,.int .i64 0,sv x] wr fun e w'=>e= .returned (bkV (xH (zy o l m dict) 0 x))∧Below wr.heap.size wr w'):=fun x wr hx=>pK o l m dict 0 x wr O.1 oo;have HR:Hid (∀a,qg (zy o l m dict) size ([],[]) E=some a→b0=mcO a.1):=fun a ha=>by
    rw[←i0.out];unfold mgD;rw[if_pos O,hB,Option.bind_some,ha];rfl
   have m8:Hid (∀k (h:k<E.length),∃d,E[k].dat (zy o l m dict)=some d):=fun k h=>PS hY h;have m9:=hid i5;have HK:=hid hk;have s3:=Sl.own o3;have n0:Hid (∀wr,Below B.heap.size B wr→Sl wr A1 E.length m0 4 (zU E)):=fun wr h=>s3.below h;have r0:=s3.1;have r1:=s3.2.1;obtain⟨_,r2,n1⟩:=O;have n2:Hid (∀wr,Below B.heap.size B wr→Below w.heap.size w wr):=fun wr h=>g3.trans (h.mono oo);clear hC hY hk hB i5 s3 o3 i0 HN;generalize zy o l m dict=K at*;have r3:=g3.size;have o4:=vP (base:=B.heap.size) (size:=4) (Bk.new B #[] 122) (Nat.le_refl _);have i':=f2.alloc (.cells #[] 122);have b4:Below B.heap.size B (B.alloc (.cells #[] 122)):=zx;have r4:=f2.lt;go_upto_region 6 with(fail)
   generalize B.alloc (.cells #[] 122)=w4 at*;clear f2 g3;go_wp2;go_loopw [14,15] (fun a b' wr=>∃(k:Nat) (L:List Blk) (u y:Bs) (Ao:Option Addr) (co:Nat),a= .slice Ao L.length co∧b'= .int .i64 (k:Int)∧k≤E.length∧Hid (qg K size ([],[]) (E.take k)=some (L,u))∧Hid (nS K size (L,u) k y)∧wr.ownsRow B.heap.size 122 4 (.slice Ao L.length co) L.length (zU L)∧Bk wr w.heap.size 24 #[(o:Int),l,m]∧Below B.heap.size B wr) (fun _ b' _=>E.length - (intOf b').toNat)
   case atStart=>exact⟨0,[],[],[],_,0,rfl,rfl,oo,rfl,nS.zero K size,o4,i',b4⟩
   case round=>
    obtain⟨k,L,u,y,Ao,co,rfl,rfl,hk,HM,P,q,j,g⟩:=hrel;clear i' b4 o4;have hz:=g.size;have n3:L.length≤k:=P.out.len;by_cases c1:k<E.length
    ·have n4:(k:Int)<E.length:=oo
     have j1:=n0.out wr g;obtain⟨gb,F,rfl,n,hc⟩:=Sl.je j1 c1;have c3:=qo E k c1;have H:=hc 0 _ c3.1;have I:=hc 1 _ c3.2.1;have G:=hc 2 _ c3.2.2.1;have J:=hc 3 _ c3.2.2.2;obtain⟨d,hd⟩:=m8.out k c1;have c5:=m9.out E[k] (List.getElem_mem c1);have n5:=tX c5 hd;have j2:=Blk.vz c5;have b1:=hid (eu c1 HM.out hd);have b2:=hid (P.out.step HK.out n1 c5 hd);have CD:Hid (∀wr,Calls prog 128 #[.agg #[(o:Int),l,m],sv dict,bkV E[k]] wr fun e w'=>e= .returned (.tuple #[sv d,.bool true])∧Below wr.heap.size wr w'):=fun wr=>(by have:=cD.out E[k] wr c5;rw[hd] at this;exact this);generalize E[k]=b at*;clear hc c3 j1 HM c5 hd;obtain⟨C,r,z,T⟩:=b;simp only[Nat.add_zero] at H I G J j2 n5;obtain⟨r7,r8,r9,r'⟩:=j2;rcases List.eq_nil_or_concat L with rfl|⟨mz,A,j3⟩
     ·
      have M:Hid (vO K size (([]:List Blk),u) ⟨C,r,z,T⟩ d=([⟨C,r,z,T⟩],d)):=(by show _=_;unfold vO;rw[if_neg (fun h=>h.1 rfl)];rfl);have c6:=hid (b1.out.trans (congrArg some M.out));have c7:Hid (nS K size ([⟨C,r,z,T⟩],d) (k+1) (y++d)):=(by have:=b2.out;rw[M.out] at this;exact this);have f3:(0:Nat)+1≤maxLen:=(by unfold maxLen;omega);have f4:((0:Nat)+1)*40≤140737488355328:=oo;clear b1 b2 M P;have N:=j.cell;go_wp2_with fail;go_quiet(fail);have f:=World.ku wr nq;have W:=j.below f j.lt;have X:=zf q f;have Y:=g.trans (f.mono oo);have Z:=Nat.lt_of_lt_of_le n f.size;have q0:=(f.cell (p:=⟨gb,F+k*4,none⟩) n).trans H;have q1:=(f.cell (p:=⟨gb,F+k*4+1,none⟩) n).trans I;have q2:=(f.cell (p:=⟨gb,F+k*4+2,none⟩) n).trans G;have q3:=(f.cell (p:=⟨gb,F+k*4+3,none⟩) n).trans J;clear j q g n H I G J f N;generalize wr.drewN nq=wr at*;have j:=W;have q:=X;have g:=Y;have zg:=g.size;have n:=Z;have H:=q0;have I:=q1;have G:=q2;have J:=q3;have N:=j.cell;clear W X Y Z q0 q1 q2 q3;go_wp2_with(at_builtin;go_must(refine zQ _ rfl _ _ 97 rfl (B.heap.size) 122 i _ 4 40 underlying97 hi h5 h6 h7 rfl (by omega) _ _ _ rfl (q.alloc _) _ 1 1 [.int .i64 C,.bool r,.int .i64 z,.string ⟨T.toArray⟩] rfl (Sl.newAt wr #[(C:Int),.bool r,z,T] _ 1 4 (by first|rfl|simp) (by simp) (by omega)) (by simp [Value.oneCell']) f3 f4 ?_ ?_));try(case refine_1=>first|omega|(simp<;>omega;done))
      intro A5 c9 w5 o5 a5 _;have g5:=yz g a5 (by first|omega|(simp;omega)) (fun k hk=>by have:=(q.lt k hk).1;omega);have f7:=Bk.grown (j.alloc _) a5 (fun k hk=>by have:=(q.lt k hk).1;omega);have f8:w5.ownsRow B.heap.size 122 4 (.slice A5 [(⟨C,r,z,T⟩:Blk)].length c9) [(⟨C,r,z,T⟩:Blk)].length (zU [(⟨C,r,z,T⟩:Blk)]):=o5;clear o5 a5 q j g N H I G J;go_wp2;go_roundw
      case rel=>exact⟨k+1,[(⟨C,r,z,T⟩:Blk)],d,y++d,A5,c9,rfl,by go_num,oo,c6,c7,f8,f7,g5⟩
      case measure=>simp [intOf];omega
     ·
      rw[List.concat_eq_append] at j3;subst j3;have e2:mz++[A]≠[]:=(by simp);have j5:=P.out.last e2;rw[List.getLast_concat] at j5;have e4:=P.out.ok A (by simp);obtain⟨f9,b3⟩:=j5;have s1:u.length≤64:=(by have:=Blk.vz e4;simp only at b3;omega);simp only[List.length_append,List.length_singleton] at q n3⊢;obtain⟨c,s2,n7⟩:∃g cap,Value.slice Ao (mz.length+1) co= .slice (some ⟨g,0,none⟩) (mz.length+1) cap:=by
       rcases q.2 with⟨h1,h2⟩|⟨g,cap,cur,h1,_⟩
       ·omega
       ·exact⟨g,cap,h1⟩
      injection n7 with hA2 _ hc2
      subst hA2 hc2;have d0:=fun f' h=>q.cellAt f' h;have d1:(zU (mz++[A]))=zU mz++bkL A:=xJ mz A;have e5:=xX mz;have e0:wr.cell? ⟨c,mz.length*4,none⟩=some (.int .i64 A.num):=(by rw[d0 _ (by omega),d1,List.getElem?_append_right (by omega)];simp [e5,bkL]);have e1:wr.cell? ⟨c,mz.length*4+1,none⟩=some (.bool A.raw):=(by rw[d0 _ (by omega),d1,List.getElem?_append_right (by omega)];simp [e5,bkL]);have Q:wr.cell? ⟨c,mz.length*4+2,none⟩=some (.int .i64 (u.length:Int)):=(by rw[d0 _ (by omega),d1,List.getElem?_append_right (by omega),←b3];simp [e5,bkL]);have e3:wr.cell? ⟨c,mz.length*4+3,none⟩=some (.string ⟨A.body.toArray⟩):=(by rw[d0 _ (by omega),d1,List.getElem?_append_right (by omega)];simp [e5,bkL]);have C2:=fun d D=>cell_regrown G d D;have E2:=fun d D=>cell_regrown Q d D;have N:=j.cell;have e6:=(q.lt c rfl).2;clear d0 d1;by_cases hj:(u.length:Int)+d.length≤size
      ·have n8:(u.length:Int)+z≤size:=oo
       have M:Hid (vO K size (mz++[A],u) ⟨C,r,z,T⟩ d=(mz++[xH K 0 (u++d)],u++d)):=(by show _=_;unfold vO;rw[if_pos ⟨e2,hj⟩,List.dropLast_concat]);have c6:=hid (b1.out.trans (congrArg some M.out));have c7:Hid (nS K size (mz++[xH K 0 (u++d)],u++d) (k+1) (y++d)):=(by have:=b2.out;rw[M.out] at this;exact this);have cL:∀wr,Calls prog 128 #[.agg #[(o:Int),l,m],sv dict,bkV A] wr fun e w'=>e= .returned (.tuple #[sv u,.bool true])∧Below wr.heap.size wr w':=fun wr=>(by have:=cD.out A wr e4;rw[f9] at this;exact this);have j9:=fun wr=>cM.out (u++d) wr (by rw[List.length_append];omega);have g0:=V4 mz A (xH K 0 (u++d));have s4:d.length≤64:=oo;generalize xH K 0 (u++d)=b' at*;rw[b3.symm] at Q E2;obtain⟨s5,lr,l4,lT⟩:=A;obtain⟨R,s,S,U⟩:=b';simp only at e0 e1 Q e3 E2 g0;have n':l4=(u.length:Int):=b3;clear b1 b2 M P f9 b3 e2 e4;go_wp2_with fail;go_quiet(fail);have f:=World.ku wr nq;have W:=j.below f j.lt;have X:=zf q f;have Y:=g.trans (f.mono oo);have Z:=Nat.lt_of_lt_of_le n f.size;have q0:=(f.cell (p:=⟨gb,F+k*4,none⟩) n).trans H;have q1:=(f.cell (p:=⟨gb,F+k*4+1,none⟩) n).trans I;have q2:=(f.cell (p:=⟨gb,F+k*4+2,none⟩) n).trans G;have q3:=(f.cell (p:=⟨gb,F+k*4+3,none⟩) n).trans J;have f0:=(f.cell (p:=⟨c,mz.length*4,none⟩) e6).trans e0;have k0:=(f.cell (p:=⟨c,mz.length*4+1,none⟩) e6).trans e1;have k1:=(f.cell (p:=⟨c,mz.length*4+2,none⟩) e6).trans Q;have k2:=(f.cell (p:=⟨c,mz.length*4+3,none⟩) e6).trans e3;clear j q g n H I G J f N C2 E2 e0 e1 Q e3;generalize wr.drewN nq=wr at*;have j:=W;have q:=X;have g:=Y;have zg:=g.size;have n:=Z;have H:=q0;have I:=q1;have G:=q2;have J:=q3;have N:=j.cell;clear W X Y Z q0 q1 q2 q3;have e0:=f0;have e1:=k0;have Q:=k1;have e3:=k2;clear f0 k0 k1 k2;clear n';have E0:=fun d D=>cell_regrown e0 d D;have E1:=fun d D=>cell_regrown e1 d D;have E2:=fun d D=>cell_regrown Q d D;have E3:=fun d D=>cell_regrown e3 d D;have hG:=zJ N j.lt;go_wp2_with fail;refine wp_region_quiet_below kr kr ?_;repeat(go_big_quiet_step ((go_at_call 128;exact Calls.regrown_of (cL _))))
       refine wpQuiet_nil ?_;intro w6 d2;have V:Below _ _ w6:=zh d2;clear d2;have z6:=V.size;have d3:=j.below V j.lt;have k3:=zf q V;have g6:=g.trans (V.mono oo);have k5:=(V.cell (p:=⟨gb,F+k*4,none⟩) n).trans H;have k6:=(V.cell (p:=⟨gb,F+k*4+1,none⟩) n).trans I;have k7:=(V.cell (p:=⟨gb,F+k*4+2,none⟩) n).trans G;have k8:=(V.cell (p:=⟨gb,F+k*4+3,none⟩) n).trans J;have k9:=d3.cell;clear E0 E1 E2 E3 hG N j q g H I G J cL V e0 e1 Q e3;have D0:=fun d D=>cell_regrown k5 d D;have D1:=fun d D=>cell_regrown k6 d D;have D2:=fun d D=>cell_regrown k7 d D;have D3:=fun d D=>cell_regrown k8 d D;have hG:=zJ k9 d3.lt;go_wp2_with fail;refine wp_region_quiet_below kr kr ?_;repeat(go_big_quiet_step ((go_at_call 128;exact Calls.regrown_of (CD.out _))))
       refine wpQuiet_nil ?_;intro w7 d2;have b7:Below _ _ w7:=zh d2;clear d2;have z7:=b7.size;have e7:=d3.below b7 d3.lt;have l0:=zf k3 b7;have g7:=g6.trans (b7.mono oo);have p2:=e7.cell;clear D0 D1 D2 D3 hG k9 d3 k3 g6 b7 k5 k6 k7 k8;have s':¬9223372036854775807<u.length+d.length:=oo;go_wp2_with fail;refine(j9 _).mono ?_;rintro e w8 ⟨rfl,d4⟩;have z8:=d4.size;have l1:=e7.below d4 e7.lt;have a3:=zf l0 d4;have g8:=g7.trans (d4.mono oo);have t1:=(a3.lt c rfl);have p4:=fun f'=>a3.frozenAt f';have G0:∃v,w8.cell? ⟨c,mz.length*4,none⟩=some v:=⟨_,(a3.cellAt (mz.length*4) (by omega)).trans (List.getElem?_eq_getElem (by rw[xX];first|omega|(simp;done)|(simp;omega)))⟩;have G1:∃v,w8.cell? ⟨c,mz.length*4+1,none⟩=some v:=⟨_,(a3.cellAt (mz.length*4+1) (by omega)).trans (List.getElem?_eq_getElem (by rw[xX];first|omega|(simp;done)|(simp;omega)))⟩;have G2:∃v,w8.cell? ⟨c,mz.length*4+2,none⟩=some v:=⟨_,(a3.cellAt (mz.length*4+2) (by omega)).trans (List.getElem?_eq_getElem (by rw[xX];first|omega|(simp;done)|(simp;omega)))⟩;have G3:∃v,w8.cell? ⟨c,mz.length*4+3,none⟩=some v:=⟨_,(a3.cellAt (mz.length*4+3) (by omega)).trans (List.getElem?_eq_getElem (by rw[xX];first|omega|(simp;done)|(simp;omega)))⟩;obtain⟨v0,G0⟩:=G0;obtain⟨v1,G1⟩:=G1;obtain⟨v2,G2⟩:=G2;obtain⟨v3,G3⟩:=G3;have e9:=((((a3.stored (mz.length*4+0) (.int .i64 R)).1.stored (mz.length*4+1) (.bool s)).1.stored (mz.length*4+2) (.int .i64 S)).1.stored (mz.length*4+3) (.string ⟨U.toArray⟩)).1;rw[g0] at e9;have l2:=(((l1.far (p:=⟨c,mz.length*4+0,none⟩) (by show w.heap.size≠c;omega) (.int .i64 R)).far (p:=⟨c,mz.length*4+1,none⟩) (by show w.heap.size≠c;omega) (.bool s)).far (p:=⟨c,mz.length*4+2,none⟩) (by show w.heap.size≠c;omega) (.int .i64 S)).far (p:=⟨c,mz.length*4+3,none⟩) (by show w.heap.size≠c;omega) (.string ⟨U.toArray⟩);have l3:Below B.heap.size B ((((w8.setCell ⟨c,mz.length*4+0,none⟩ (.int .i64 R)).setCell ⟨c,mz.length*4+1,none⟩ (.bool s)).setCell ⟨c,mz.length*4+2,none⟩ (.int .i64 S)).setCell ⟨c,mz.length*4+3,none⟩ (.string ⟨U.toArray⟩)):=zx;simp only[Nat.add_zero] at e9 l2 l3;clear e7 l1 l0 a3 g7 g8 d4 p2 j9 g0;go_upto_region 8 with(fail)
       generalize(((w8.setCell ⟨c,mz.length*4,none⟩ (.int .i64 R)).setCell ⟨c,mz.length*4+1,none⟩ (.bool s)).setCell ⟨c,mz.length*4+2,none⟩ (.int .i64 S)).setCell ⟨c,mz.length*4+3,none⟩ (.string ⟨U.toArray⟩)=w9 at*;have a':(mz++[(⟨R,s,S,U⟩:Blk)]).length=mz.length+1:=(by simp);have g9:=hid a';have p6:w9.ownsRow B.heap.size 122 4 (.slice (some ⟨c,0,none⟩) (mz++[(⟨R,s,S,U⟩:Blk)]).length co) (mz++[(⟨R,s,S,U⟩:Blk)]).length (zU (mz++[(⟨R,s,S,U⟩:Blk)])):=(by rw[a'];exact e9);clear p4 G0 G1 G2 G3 e9 a';go_wp2;go_roundw
       case rel=>exact⟨k+1,mz++[(⟨R,s,S,U⟩:Blk)],u++d,y++d,_,co,(by rw[g9.out]),by go_num,by omega,c6,c7,p6,l2,l3⟩
       case measure=>simp [intOf];omega
      ·have n8:¬(u.length:Int)+z≤size:=oo
       have M:Hid (vO K size (mz++[A],u) ⟨C,r,z,T⟩ d=(mz++[A]++[⟨C,r,z,T⟩],d)):=(by show _=_;unfold vO;rw[if_neg (fun h=>hj h.2)]);have c6:=hid (b1.out.trans (congrArg some M.out));have c7:Hid (nS K size (mz++[A]++[⟨C,r,z,T⟩],d) (k+1) (y++d)):=(by have:=b2.out;rw[M.out] at this;exact this);have f3:mz.length+1+1≤maxLen:=(by unfold maxLen;omega);have f4:(mz.length+1+1)*40≤140737488355328:=oo;clear b1 b2 M P f9 b3 e2 e4 e0 e1 e3;go_wp2_with fail;go_quiet(fail);have f:=World.ku wr nq;have W:=j.below f j.lt;have X:=zf q f;have Y:=g.trans (f.mono oo);have Z:=Nat.lt_of_lt_of_le n f.size;have q0:=(f.cell (p:=⟨gb,F+k*4,none⟩) n).trans H;have q1:=(f.cell (p:=⟨gb,F+k*4+1,none⟩) n).trans I;have q2:=(f.cell (p:=⟨gb,F+k*4+2,none⟩) n).trans G;have q3:=(f.cell (p:=⟨gb,F+k*4+3,none⟩) n).trans J;clear j q g n H I G J f N C2 E2 Q;generalize wr.drewN nq=wr at*;have j:=W;have q:=X;have g:=Y;have zg:=g.size;have n:=Z;have H:=q0;have I:=q1;have G:=q2;have J:=q3;have N:=j.cell;clear W X Y Z q0 q1 q2 q3;go_wp2_with(at_builtin;go_must(refine zQ _ rfl _ _ 97 rfl (B.heap.size) 122 i _ 4 40 underlying97 hi h5 h6 h7 rfl (by omega) _ _ _ rfl (q.alloc _) _ 1 1 [.int .i64 C,.bool r,.int .i64 z,.string ⟨T.toArray⟩] rfl (Sl.newAt wr #[(C:Int),.bool r,z,T] _ 1 4 (by first|rfl|simp) (by simp) (by omega)) (by simp [Value.oneCell']) f3 f4 ?_ ?_));try(case refine_1=>first|omega|(simp<;>omega;done))
       intro A5 c9 w5 o5 a5 _;have g5:=yz g a5 (by first|omega|(simp;omega)) (fun k hk=>by have:=(q.lt k hk).1;omega);have f7:=Bk.grown (j.alloc _) a5 (fun k hk=>by have:=(q.lt k hk).1;omega);have a':(mz++[A]++[(⟨C,r,z,T⟩:Blk)]).length=mz.length+1+1:=(by simp);have g9:=hid a';have f8:w5.ownsRow B.heap.size 122 4 (.slice A5 (mz++[A]++[(⟨C,r,z,T⟩:Blk)]).length c9) (mz++[A]++[(⟨C,r,z,T⟩:Blk)]).length (zU (mz++[A]++[(⟨C,r,z,T⟩:Blk)])):=(by rw[a',xJ];exact o5);clear o5 a5 q j g N H I G J a';go_wp2;go_roundw
       case rel=>exact⟨k+1,mz++[A]++[(⟨C,r,z,T⟩:Blk)],d,y++d,A5,c9,(by rw[g9.out]),by go_num,by omega,c6,c7,f8,f7,g5⟩
       case measure=>simp [intOf];omega
    ·have n4:¬(k:Int)<E.length:=oo
     have HE:=HR.out (L,u) (by rw[←HM.out,List.take_of_length_le (by omega)]);have p7:=Sl.own q;have cE:=nY L Ao co wr p7 P.out.ok oo;have gw:=n2.out wr g;have zw:=gw.size;rw[←HE] at cE;have t7:Hid (b0=mcO L):=HE;clear HE P HM;go_wp2_with fail;refine cE.mono ?_;rintro e w7 ⟨rfl,b7⟩;have g7:=gw.trans (b7.mono oo);unfold yg;go_wp2;exact bodyPost_ret (v:=.tuple #[sv (b0.getD []),.bool b0.isSome]) (by simp [results,results89,go_sem]) rfl ⟨rfl,g7⟩
