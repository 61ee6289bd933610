import Derived.Test.YtfppmajoidkooaaGreatDoorUGU4
import Derived.Test.YtfppmajoidkooaaGreatDoorUGU3
import Derived.Deep.Cut
import Derived.Test.YtfppmajoidkooaaGreatDoorUGJ4
set_option linter.unusedVariables false
set_option linter.unusedSimpArgs false
set_option maxHeartbeats 8000000
namespace Go.Proofs.YtfppmajoidkooaaGreatDoor
open Go.RowKit
set_option maxRecDepth 100000
attribute [local go_sem high] zy zA zB zO zK zY zx zk zl zq zi zo yP zD yt zF
theorem eG (bs:List Blk):∀u ∈ zS bs,u.oneCell'=true:=by
 intro u hu;unfold zS at hu;obtain⟨b,_,hb⟩:=List.mem_flatMap.1 hu;simp only[bkL,List.mem_cons,List.not_mem_nil,or_false] at hb;rcases hb with rfl|rfl|rfl|rfl<;>rfl
def Uu (K:Kn)(bs:List Blk)(w:World)(e:Ending)(w':World):Prop:=∃A1 c1 A2 c2,e= .returned (.tuple #[knV K A1 c1,.slice A2 bs.length c2,.bool true])∧w'.ownsRow w.heap.size 207 2 (.slice A1 K.ps.length c1) K.ps.length (psV K.ps)∧w'.ownsRow w.heap.size 160 4 (.slice A2 bs.length c2) bs.length (zS bs)∧Below w.heap.size w w'
theorem oH (o l m:Int)(dict t:Bs)(bs:List Blk)(w:World)(hf:fits o l m dict)(hB:zT t=some bs)(htl:t.length≤1500000):
 Calls Tryz.prog 179 #[.agg #[.int .i64 o,.int .i64 l,.int .i64 m],sv dict,sv t] w (Uu (zt o l m dict) bs w):=by
 have cS:=fun w=>qO o l m dict w hf;have cB:=fun w=>qc t w htl;unfold mM at cB;rw[hB] at cB;simp only[Option.elim_some,Option.isSome_some,Option.getD_some] at cB;unfold lg at cS;unfold Uu;clear hf hB;generalize zt o l m dict=K at*;go_enter Tryz.func179,Tryz.ntmps179;have hJ:Bk ((w.alloc (.cells #[.int .i64 o,.int .i64 l,.int .i64 m] 39)).alloc (.cells knZ 130)) w.heap.size 39 #[.int .i64 o,.int .i64 l,.int .i64 m]:=tBk;have hI:Bk ((w.alloc (.cells #[.int .i64 o,.int .i64 l,.int .i64 m] 39)).alloc (.cells knZ 130)) (w.heap.size+1) 130 knZ:=tBk;have g0:Below w.heap.size w ((w.alloc (.cells #[.int .i64 o,.int .i64 l,.int .i64 m] 39)).alloc (.cells knZ 130)):=zu;go_wp2_with fail;generalize(w.alloc (.cells #[.int .i64 o,.int .i64 l,.int .i64 m] 39)).alloc (.cells knZ 130)=w0 at*;refine(cS _).mono ?_;rintro e w1 ⟨A1,c1,rfl,o1,b1⟩;have z0:=hI.lt;have z1:=b1.size;have g1:=g0.trans (b1.mono oo);have hI1:=hI.below b1 oo;have hI2:=hI1.alloc (.cells (knC K A1 c1) 130);have hB2:=Bk.new w1 (knC K A1 c1) 130;have o2:=o1.alloc (.cells (knC K A1 c1) 130);have g2:=g1.alloc oo (.cells (knC K A1 c1) 130);clear b1 hI hJ g0 o1 g1 hI1 cS;go_upto_region 4 with(fail)
 unfold knC at hB2 o2 g2 hI2;generalize w1.alloc (.cells #[.int .i64 K.o,.int .i64 K.l,.int .i64 K.m,.slice A1 K.ps.length c1,.int .i64 K.base,.int .i64 K.last] 130)=W at*;have hl2:=hB2.lt;have zg2:=g2.size;go_wp2_with fail;refine(cB _).mono ?_;rintro e w3 ⟨A3,c3,rfl,o3,b3⟩;have z3:=b3.size;have g3:=g2.trans (b3.mono oo);have hI3:=hI2.below b3 oo;have hB3:=hB2.below b3 hl2;have o4:=zf o2 b3;have hX3:=hB3.cell;have hF:=hI3.free;have hY:=hI3.cell;clear b3 hI2 hB2 o2 g2 cB;go_wp2;have hQ:=(wK hI3 K A1 c1).cell;have g5:=yj g3 (b:=w.heap.size+1) oo K A1 c1;have o5:=zC (B':=w.heap.size) (yz o4 (b:=w.heap.size+1) oo K A1 c1) oo;have o6:=zC (B':=w.heap.size) (yz o3 (b:=w.heap.size+1) oo K A1 c1) oo;exact bodyPost_ret (v:=.tuple #[knV K A1 c1,.slice A3 bs.length c3,.bool true]) (by simp [results,Tryz.results179,go_sem,hQ]) rfl ⟨A1,c1,A3,c3,rfl,o5,o6,g5⟩
theorem nK (o l m:Int)(dict t:Bs)(w:World)(h:¬(fits o l m dict∧(zT t).isSome=true))(hdl:dict.length≤9223372036854775807)(htl:t.length≤1500000):
 Calls Tryz.prog 179 #[.agg #[.int .i64 o,.int .i64 l,.int .i64 m],sv dict,sv t] w fun e w'=>e= .returned (.tuple #[az,.slice none 0 0,.bool false])∧Below w.heap.size w w':=by
 by_cases hf:fits o l m dict
 ·have hB:zT t=none:=by
   cases hb:zT t with
   |none=>rfl
   |some bs=>exact absurd ⟨hf,by rw[hb];rfl⟩ h
  have cS:=fun w=>qO o l m dict w hf;have cB:=fun w=>qc t w htl;unfold mM at cB;rw[hB] at cB;simp only[Option.elim_none,Option.isSome_none,Option.getD_none] at cB;unfold lg at cS;clear hf hB h;generalize zt o l m dict=K at*;go_enter Tryz.func179,Tryz.ntmps179;have hJ:Bk ((w.alloc (.cells #[.int .i64 o,.int .i64 l,.int .i64 m] 39)).alloc (.cells knZ 130)) w.heap.size 39 #[.int .i64 o,.int .i64 l,.int .i64 m]:=tBk;have hI:Bk ((w.alloc (.cells #[.int .i64 o,.int .i64 l,.int .i64 m] 39)).alloc (.cells knZ 130)) (w.heap.size+1) 130 knZ:=tBk;have g0:Below w.heap.size w ((w.alloc (.cells #[.int .i64 o,.int .i64 l,.int .i64 m] 39)).alloc (.cells knZ 130)):=zu;go_wp2_with fail;generalize(w.alloc (.cells #[.int .i64 o,.int .i64 l,.int .i64 m] 39)).alloc (.cells knZ 130)=w0 at*;refine(cS _).mono ?_;rintro e w1 ⟨A1,c1,rfl,o1,b1⟩;have z0:=hI.lt;have z1:=b1.size;have g1:=g0.trans (b1.mono oo);have hI1:=hI.below b1 oo;have hI2:=hI1.alloc (.cells (knC K A1 c1) 130);have g2:=g1.alloc oo (.cells (knC K A1 c1) 130);clear b1 hI hJ g0 o1 g1 hI1 cS;go_upto_region 4 with(fail)
  unfold knC at g2 hI2;generalize w1.alloc (.cells #[.int .i64 K.o,.int .i64 K.l,.int .i64 K.m,.slice A1 K.ps.length c1,.int .i64 K.base,.int .i64 K.last] 130)=W at*;have hl2:=hI2.lt;have zg2:=g2.size;go_wp2_with fail;refine(cB _).mono ?_;rintro e w3 ⟨A3,c3,rfl,o3,b3⟩;have z3:=b3.size;have g3:=g2.trans (b3.mono oo);have hI3:=hI2.below b3 oo;have hF:=hI3.free;have hY:=hI3.cell;clear b3 hI2 o3 g2 cB;go_wp2;have hQ:=(wK hI3 ⟨0,0,0,[],0,0⟩ none 0).cell;have g5:=yj g3 (b:=w.heap.size+1) oo ⟨0,0,0,[],0,0⟩ none 0;simp only[List.length_nil] at hQ g5;exact bodyPost_ret (v:=.tuple #[az,.slice none 0 0,.bool false]) (by simp [results,Tryz.results179,go_sem,hQ]) rfl ⟨rfl,g5⟩
 ·have cS:=fun w=>jC o l m dict w hf hdl
  clear hf h;go_enter Tryz.func179,Tryz.ntmps179;have hJ:Bk ((w.alloc (.cells #[.int .i64 o,.int .i64 l,.int .i64 m] 39)).alloc (.cells knZ 130)) w.heap.size 39 #[.int .i64 o,.int .i64 l,.int .i64 m]:=tBk;have hI:Bk ((w.alloc (.cells #[.int .i64 o,.int .i64 l,.int .i64 m] 39)).alloc (.cells knZ 130)) (w.heap.size+1) 130 knZ:=tBk;have g0:Below w.heap.size w ((w.alloc (.cells #[.int .i64 o,.int .i64 l,.int .i64 m] 39)).alloc (.cells knZ 130)):=zu;go_wp2_with fail;generalize(w.alloc (.cells #[.int .i64 o,.int .i64 l,.int .i64 m] 39)).alloc (.cells knZ 130)=w0 at*;refine(cS _).mono ?_;rintro e w1 ⟨rfl,b1⟩;have z0:=hI.lt;have z1:=b1.size;have g1:=g0.trans (b1.mono oo);have hI1:=hI.below b1 oo;have hI2:=hI1.alloc (.cells knZ 130);have g2:=g1.alloc oo (.cells knZ 130);clear b1 hI hJ g0 g1 hI1 cS;go_upto_region 3 with(fail)
  generalize w1.alloc (.cells _ 130)=W at*;have hF:=hI2.free;have hY:=hI2.cell;go_wp2;have hQ:=(wK hI2 ⟨0,0,0,[],0,0⟩ none 0).cell;have g5:=yj g2 (b:=w.heap.size+1) oo ⟨0,0,0,[],0,0⟩ none 0;simp only[List.length_nil] at hQ g5;exact bodyPost_ret (v:=.tuple #[az,.slice none 0 0,.bool false]) (by simp [results,Tryz.results179,go_sem,hQ]) rfl ⟨rfl,g5⟩
def NwR (O:Option (List Blk))(w:World)(e:Ending)(w':World):Prop:=∃A cap,e= .returned (.tuple #[.slice A (O.getD []).length cap,.bool O.isSome])∧w'.ownsRow w.heap.size 160 4 (.slice A (O.getD []).length cap) (O.getD []).length (zS (O.getD []))∧Below w.heap.size w w'
theorem jH (K:Kn)(A:Option Addr)(cap:Nat)(d:Bs)(size:Int)(w:World)(hk:K.ok)(hs:Sl w A K.ps.length cap 2 (psV K.ps))(hd:d.length≤9223372036854775807)(hs0: -1000000≤size)(hs1:size≤1000000):
 Calls Tryz.prog 180 #[knV K A cap,sv d,.int .i64 size] w (NwR (nwO K d size) w):=by
 have HN:Hid (¬(1≤size∧size≤64∧d.length≤2000∧(d.length:Int)≤size*40)→nwO K d size=none):=fun h=>(by unfold nwO;rw[if_neg h]);have HY:Hid (∀n:Nat,size=n→1≤n→n≤64→d.length≤2000→d.length≤n*40→nwO K d size=some (mks K n d.length d)):=fun n h0 ha hb hc he=>(by unfold nwO;rw[if_pos ⟨by omega,by omega,hc,by omega⟩,h0,Int.toNat_natCast]);unfold NwR;generalize nwO K d size=R at*;have hdi:∀b,decide (1≤size∧size≤64)=b→decide (1≤size∧size≤64)=b:=fun _ h=>h;by_cases h2:1≤size∧size≤64
 case neg=>
  have hE:=HN.out (fun h=>h2 ⟨h.1,h.2.1⟩);subst hE;have hd2:=decide_eq_false h2;clear HN HY h2 hdi;go_enter Tryz.func180,Tryz.ntmps180;have hK0:Bk (w.alloc (.cells (knC K A cap) 130)) w.heap.size 130 (knC K A cap):=tBk;have g0:Below w.heap.size w (w.alloc (.cells (knC K A cap) 130)):=zu;go_upto_region 1 with(fail)
  generalize w.alloc (.cells (knC K A cap) 130)=w0 at*;go_wp2_with fail;refine(y9 _ _).mono ?_;rintro e w' ⟨rfl,rfl⟩;rw[hd2];go_wp2;exact bodyPost_ret (v:=.tuple #[.slice none 0 0,.bool false]) (by simp [results,Tryz.results180,go_sem]) rfl ⟨none,0,rfl,⟨by simp [zS],.inl ⟨rfl,rfl⟩⟩,g0⟩
 have hd2:=decide_eq_true h2;obtain⟨h2a,h2b⟩:=h2;obtain⟨n,rfl⟩:=Int.eq_ofNat_of_zero_le (by omega:0≤size);by_cases h3:d.length≤2000∧d.length≤n*40
 case neg=>
  have hE:=HN.out (fun h=>h3 ⟨h.2.2.1,oo⟩);subst hE;have h5:¬(2000:Int)<d.length→(40:Int)*(n:Int)<d.length:=fun _=>(by omega);clear HN HY hdi;go_enter Tryz.func180,Tryz.ntmps180;have hK0:Bk (w.alloc (.cells (knC K A cap) 130)) w.heap.size 130 (knC K A cap):=tBk;have g0:Below w.heap.size w (w.alloc (.cells (knC K A cap) 130)):=zu;go_upto_region 1 with(fail)
  generalize w.alloc (.cells (knC K A cap) 130)=w0 at*;by_cases h6:(2000:Int)<d.length
  ·clear h5
   go_wp2_with fail;refine(y9 _ _).mono ?_;rintro e w' ⟨rfl,rfl⟩;rw[hd2];go_wp2;exact bodyPost_ret (v:=.tuple #[.slice none 0 0,.bool false]) (by simp [results,Tryz.results180,go_sem]) rfl ⟨none,0,rfl,⟨by simp [zS],.inl ⟨rfl,rfl⟩⟩,g0⟩
  ·have h7:=h5 h6
   clear h5;go_wp2_with fail;refine(y9 _ _).mono ?_;rintro e w' ⟨rfl,rfl⟩;rw[hd2];go_wp2;exact bodyPost_ret (v:=.tuple #[.slice none 0 0,.bool false]) (by simp [results,Tryz.results180,go_sem]) rfl ⟨none,0,rfl,⟨by simp [zS],.inl ⟨rfl,rfl⟩⟩,g0⟩
 obtain⟨h3a,h3b⟩:=h3;have hE:=HY.out n rfl oo oo h3a h3b;subst hE;have h6:¬(2000:Int)<d.length:=oo;have h7:¬(40:Int)*(n:Int)<d.length:=oo;have cM:Hid (∀wr,Below w.heap.size w wr→Calls Tryz.prog 178 #[knV K A cap,sv d,.int .i64 (n:Int)] wr (BkR (mks K n d.length d) wr)):=fun wr h=>lQ K A cap d n wr hk (hs.below h) oo oo h3a;unfold BkR at cM;simp only[Option.getD_some,Option.isSome_some];clear HN HY hdi hk hs h3a h3b;generalize mks K n d.length d=bs at*;go_enter Tryz.func180,Tryz.ntmps180;have hK0:Bk (w.alloc (.cells (knC K A cap) 130)) w.heap.size 130 (knC K A cap):=tBk;have g0:Below w.heap.size w (w.alloc (.cells (knC K A cap) 130)):=zu;go_upto_region 1 with(fail)
 generalize w.alloc (.cells (knC K A cap) 130)=w0 at*;have hX0:=hK0.cell;have z0:=g0.size;go_wp2_with fail;refine(y9 _ _).mono ?_;rintro e w' ⟨rfl,rfl⟩;rw[hd2];go_wp2_with fail;refine(cM.out _ g0).mono ?_;rintro e w3 ⟨A3,c3,rfl,o3,b3⟩;have g3:=g0.trans (b3.mono oo);go_wp2;exact bodyPost_ret (v:=.tuple #[.slice A3 bs.length c3,.bool true]) (by simp [results,Tryz.results180,go_sem]) rfl ⟨A3,c3,rfl,zC o3 (by omega),g3⟩
theorem ax (o l m:Int)(dict t d:Bs)(size:Int)(w:World)(hl:dict.length≤9223372036854775807)(htl:t.length≤1500000)(hd:d.length≤9223372036854775807)(hs0: -1000000≤size)(hs1:size≤1000000):
 Calls Tryz.prog 148 #[.agg #[.int .i64 o,.int .i64 l,.int .i64 m],sv dict,sv t,sv d,.int .i64 size] w fun e w'=>e=zZ (apD o l m dict t d size)∧Below w.heap.size w w':=by
 obtain⟨i,hi,hz0,hz1,hz2⟩:=info_parts xW;by_cases hfb:fits o l m dict∧(zT t).isSome=true
 case neg=>
  have cS:=fun w=>nK o l m dict t w hfb hl htl;have hE:apD o l m dict t d size=none:=by
   unfold apD;split
   ·rename_i hf
    cases hb:zT t with
    |none=>rfl
    |some bs=>exact absurd ⟨hf,by rw[hb];rfl⟩ hfb
   ·rfl
  rw[hE];unfold zZ;clear hE hfb;go_enter Tryz.func148,Tryz.ntmps148;have hK0:Bk (w.alloc (.cells #[.int .i64 o,.int .i64 l,.int .i64 m] 39)) w.heap.size 39 #[.int .i64 o,.int .i64 l,.int .i64 m]:=tBk;have g0:Below w.heap.size w (w.alloc (.cells #[.int .i64 o,.int .i64 l,.int .i64 m] 39)):=zu;go_upto_region 1 with(fail)
  generalize w.alloc (.cells #[.int .i64 o,.int .i64 l,.int .i64 m] 39)=w0 at*;have hX0:=hK0.cell;have hz0':=hK0.lt;go_wp2_with fail;refine(cS _).mono ?_;rintro e w1 ⟨rfl,hb1⟩;have g1:=g0.trans (hb1.mono oo);have hz1':=g1.size;go_wp2;exact bodyPost_ret (v:=.tuple #[sv [],.bool false]) (by simp [results,Tryz.results148,go_sem]) rfl ⟨rfl,zu⟩
 obtain⟨hf,hbs⟩:=hfb;obtain⟨bs,hB⟩:=Option.isSome_iff_exists.1 hbs;have cS:=fun w=>oH o l m dict t bs w hf hB htl;unfold Uu at cS;have hk:=xC hf;have hE:apD o l m dict t d size=(nwO (zt o l m dict) d size).bind fun cs=>mcO (bs++cs):=(by unfold apD;rw[if_pos hf,hB];rfl);have cN:Hid (∀A cap wr,Sl wr A (zt o l m dict).ps.length cap 2 (psV (zt o l m dict).ps)→Calls Tryz.prog 180 #[knV (zt o l m dict) A cap,sv d,.int .i64 size] wr (NwR (nwO (zt o l m dict) d size) wr)):=fun A cap wr h=>jH _ A cap d size wr hk h hd hs0 hs1;unfold NwR at cN;have hbok:=xU hB;have hb40:=(xN hB).2;have HC:Hid (∀cs,nwO (zt o l m dict) d size=some cs→cs.length≤40∧∀A cap wr,Sl wr A (bs.length+cs.length) cap 4 (zS bs++zS cs)→Calls Tryz.prog 177 #[.slice A (bs.length+cs.length) cap] wr fun e w'=>e=zZ (mcO (bs++cs))∧Below wr.heap.size wr w'):=fun cs hcs=>by
  have h1:=WW hk hcs;refine⟨h1.2,fun A cap wr hs=> ?_⟩;have e1:(bs++cs).length=bs.length+cs.length:=(by simp);have e2:zS (bs++cs)=zS bs++zS cs:=(by unfold zS;rw[List.flatMap_append]);rw[←e1];rw[←e1,←e2] at hs;exact pY (bs++cs) A cap wr hs (pq hbok h1.1) (by rw[e1];omega)
 rw[hE];clear hE hf hB hbs hk hbok;generalize nwO (zt o l m dict) d size=O at*;generalize zt o l m dict=K at*;go_enter Tryz.func148,Tryz.ntmps148;have hK0:Bk (w.alloc (.cells #[.int .i64 o,.int .i64 l,.int .i64 m] 39)) w.heap.size 39 #[.int .i64 o,.int .i64 l,.int .i64 m]:=tBk;have g0:Below w.heap.size w (w.alloc (.cells #[.int .i64 o,.int .i64 l,.int .i64 m] 39)):=zu;go_upto_region 1 with(fail)
 generalize w.alloc (.cells #[.int .i64 o,.int .i64 l,.int .i64 m] 39)=w0 at*;have hX0:=hK0.cell;have hl0:=hK0.lt;go_wp2_with fail;refine(cS _).mono ?_;rintro e w1 ⟨A1,c1,A2,c2,rfl,o1,p1,b1⟩;have z1:=b1.size;have g1:=g0.trans (b1.mono oo);have hB2:=Bk.new w1 (knC K A1 c1) 130;have o2:=o1.alloc (.cells (knC K A1 c1) 130);have p2:=p1.alloc (.cells (knC K A1 c1) 130);have g2:=g1.alloc oo (.cells (knC K A1 c1) 130);clear b1 hX0 hK0 g0 o1 p1 g1 cS;go_upto_region 2 with(fail)
 unfold knC at hB2 o2 p2 g2;generalize w1.alloc (.cells #[.int .i64 K.o,.int .i64 K.l,.int .i64 K.m,.slice A1 K.ps.length c1,.int .i64 K.base,.int .i64 K.last] 130)=W at*;have hl2:=hB2.lt;have zg2:=g2.size;have s2:=Sl.own o2;have hX2:=hB2.cell;go_wp2_with fail;refine(cN.out _ _ _ s2).mono ?_;rintro e w3 ⟨A3,c3,rfl,o3,b3⟩;have z3:=b3.size;have g3:=g2.trans (b3.mono oo);have p3:=zf p2 b3;have s3:=Sl.own o3;clear b3 hX2 hB2 g2 o2 s2 p2 o3 cN
 cases O with
 |none=>
  simp only[Option.isSome_none,Option.getD_none,Option.bind_none];go_wp2;exact bodyPost_ret (v:=.tuple #[sv [],.bool false]) (by simp [results,Tryz.results148,go_sem]) rfl ⟨rfl,g3⟩
 |some cs=>
  obtain⟨hc40,cE⟩:=HC.out cs rfl;have CE:=Go.Lib.hid cE;simp only[Option.isSome_some,Option.getD_some,Option.bind_some] at s3⊢;have hm1:bs.length+cs.length≤maxLen:=(by unfold maxLen;omega);have hm2:(bs.length+cs.length)*40≤140737488355328:=oo;have h1c:∀u ∈ zS cs,u.oneCell'=true:=eG cs;clear HC cE;go_wp2_with(at_builtin;go_must(refine zN _ rfl _ _ 133 rfl w0.heap.size 160 i _ 4 40 Tryz.underlying133 hi hz0 hz1 hz2 rfl oo _ _ _ rfl p3 _ cs.length c3 (zS cs) rfl s3 h1c hm1 hm2 ?_ ?_))
  ·omega
  intro A6 c6 w6 o6 hg6 _;have g6:=g3.grown hg6 oo (fun k hk=>by have:=(p3.lt k hk).1;omega);have s6:=Sl.own o6;have z6:=g6.size;clear p3 s3 o6 hg6 g3;go_wp2_with fail;refine(CE.out _ _ _ s6).mono ?_;rintro e w7 ⟨rfl,b7⟩;have g7:=g6.trans (b7.mono oo);unfold zZ;go_wp2;exact bodyPost_ret (v:=.tuple #[sv ((mcO (bs++cs)).getD []),.bool (mcO (bs++cs)).isSome]) (by simp [results,Tryz.results148,go_sem]) rfl ⟨rfl,g7⟩
def Vk (O:Option (List Blk))(v:Value)(ok:Bool)(B:Nat)(w':World):Prop:=(O=none∧ok=false)∨∃P A cap,O=some P∧ok=true∧v= .slice A P.length cap∧w'.ownsRow B 160 4 (.slice A P.length cap) P.length (zS P)
def KX (O:Option (List Blk))(w:World)(e:Ending)(w':World):Prop:=∃v ok,e= .returned (.tuple #[v,.bool ok])∧Below w.heap.size w w'∧Vk O v ok w.heap.size w'
theorem Vk.no {O:Option (List Blk)}{v:Value}{B:Nat}{w':World}(h:O=none):Vk O v false B w':=.inl ⟨h,rfl⟩
theorem Vk.yes {O:Option (List Blk)}{P:List Blk}{A:Option Addr}{cap B:Nat}{w':World}(h:O=some P)(ho:w'.ownsRow B 160 4 (.slice A P.length cap) P.length (zS P)):Vk O (.slice A P.length cap) true B w':=.inr ⟨P,A,cap,h,rfl,rfl,ho⟩
theorem YN (K : Kn) (Ak : Option Addr) (ck : Nat) (bs : List Blk) (A : Option Addr) (cap : Nat) (f t : Int) (w : World) (hk0 : K.ok) (hks : Sl w Ak K.ps.length ck 2 (psV K.ps)) (hs : Sl w A bs.length cap 4 (zS bs)) (hok : ∀ b ∈ bs, b.ok = true) (hl : bs.length ≤ 40) (hf0 : 0 ≤ f) (hf1 : f ≤ 3000) (ht0 : 0 ≤ t) (ht1 : t ≤ 3000) :
    Calls Tryz.prog 181 #[knV K Ak ck, .slice A bs.length cap, .int .i64 f, .int .i64 t] w (KX (wM K f t 0 bs) w) := by
  obtain ⟨i, hi, hz0, hz1, hz2⟩ := info_parts xW
  have cD : Hid (∀ b wr, Below w.heap.size w wr → b.ok = true → Calls Tryz.prog 139 #[knV K Ak ck, bkV b] wr fun e w' => e = xY (b.dat K) ∧ Below wr.heap.size wr w') := fun b wr h hb => jk K Ak ck b wr hk0 (hks.below h) (by have := pW hb; omega)
  have cM : Hid (∀ (x : Bs) wr, Below w.heap.size w wr → x.length ≤ 2000 → Calls Tryz.prog 182 #[knV K Ak ck, sv x] wr fun e w' => e = .returned (bkV (xJ K 0 x)) ∧ Below wr.heap.size wr w') := fun x wr h hx => oL K Ak ck x wr hk0 (hks.below h) oo
  have hcap := hs.1
  have hcap2 := hs.2.1
  have HOK := Go.Lib.hid hok
  have HSL : Hid (∀ wr, Below w.heap.size w wr → Sl wr A bs.length cap 4 (zS bs)) := fun wr h => hs.below h
  clear hs hok hks hk0
  obtain ⟨R, hR⟩ : ∃ R, wM K f t 0 bs = R := ⟨_, rfl⟩
  rw [hR]
  have HR := Go.Lib.hid hR
  clear hR
  have o0 : w.ownsRow (w.heap.size + 1) 160 4 (.slice none ([] : List Blk).length 0) ([] : List Blk).length (zS []) := ⟨by simp [zS], .inl ⟨rfl, rfl⟩⟩
  go_enter Tryz.func181, Tryz.ntmps181
  have hK0 : Bk (w.alloc (.cells (knC K Ak ck) 130)) w.heap.size 130 (knC K Ak ck) := tBk
  have g0 : Below w.heap.size w (w.alloc (.cells (knC K Ak ck) 130)) := zu
  have o1 := o0.alloc (.cells (knC K Ak ck) 130)
  go_upto_region 1 with (fail)
  generalize w.alloc (.cells (knC K Ak ck) 130) = w0 at *
  clear o0
  go_wp2
  go_loopw [10, 11, 21] (fun a b c wr => ∃ (k : Nat) (P : List Blk) (Ao : Option Addr) (co : Nat), a = .slice Ao P.length co ∧ b = .int .i64 (zn (bs.take k)) ∧ c = .int .i64 (k : Int) ∧ k ≤ bs.length ∧ P.length ≤ k ∧ Hid (wM K f t 0 (bs.take k) = some P) ∧ wr.ownsRow (w.heap.size + 1) 160 4 (.slice Ao P.length co) P.length (zS P) ∧ Bk wr w.heap.size 130 (knC K Ak ck) ∧ Below w.heap.size w wr) (fun _ _ c _ => bs.length - (intOf c).toNat)
  case atStart => exact ⟨0, [], none, 0, rfl, rfl, rfl, by omega, by simp, rfl, o1, hK0, g0⟩
  case round =>
    obtain ⟨k, P, Ao, co, rfl, rfl, rfl, hk, hP, HP, ow, hK, g⟩ := hrel
    clear hK0 g0 o1
    have hz := g.size
    have hkl := hK.lt
    have hsb := vJ (bs.take k) (fun b hb => HOK.out b (List.mem_of_mem_take hb))
    have htl : (bs.take k).length ≤ 40 := by simp; omega
    obtain ⟨hsb1, hsb2⟩ := hsb
    have hsb3 : zn (bs.take k) ≤ 2560 := oo
    clear hsb2 htl
    by_cases hlt : k < bs.length
    · have hki : (k : Int) < bs.length := oo
      have hsA := HSL.out wr g
      obtain ⟨gb, off, rfl, hg, hc⟩ := Sl.jw hsA hlt
      have hcs := ql bs k hlt
      have c0 := hc 0 _ hcs.1
      have c1 := hc 1 _ hcs.2.1
      have c2 := hc 2 _ hcs.2.2.1
      have c3 := hc 3 _ hcs.2.2.2
      have hbo := HOK.out bs[k] (List.getElem_mem hlt)
      have hbs := Blk.vk hbo
      have HS2 : Hid (zn (bs.take (k + 1)) = zn (bs.take k) + bs[k].size) := by show _ = _; rw [List.take_succ_eq_append_getElem hlt, vT]
      have HST : Hid (∀ y, xZ K (zn (bs.take k)) f t bs[k] = some y → wM K f t 0 (bs.take (k + 1)) = some (P ++ y)) := fun y h => XN hlt HP.out h
      have HNO : Hid (xZ K (zn (bs.take k)) f t bs[k] = none → R = none) := fun h => by rw [← HR.out]; exact XK hlt h
      have CDK : Hid (∀ wr, Below w.heap.size w wr → Calls Tryz.prog 139 #[knV K Ak ck, bkV bs[k]] wr fun e w' => e = xY (bs[k].dat K) ∧ Below wr.heap.size wr w') := fun wr h => cD.out bs[k] wr h hbo
      have HDL : Hid (∀ D, bs[k].dat K = some D → (D.length : Int) = bs[k].size) := fun D h => sD hbo h
      generalize bs[k] = b at *
      generalize zn (bs.take k) = S at *
      clear hc hcs hsA HP hbo
      obtain ⟨n2, r, n4, T⟩ := b
      simp only [Nat.add_zero] at c0 c1 c2 c3 hbs HS2
      obtain ⟨hb1, hb2, hb3, hb4⟩ := hbs
      obtain ⟨L, hL⟩ : ∃ L : Int, max S f = L := ⟨_, rfl⟩
      obtain ⟨E, hE⟩ : ∃ E : Int, min (S + n4) t = E := ⟨_, rfl⟩
      have hm1 : P.length + 1 ≤ maxLen := by unfold maxLen; omega
      have hm2 : (P.length + 1) * 40 ≤ 140737488355328 := oo
      have hLb : 0 ≤ L ∧ L ≤ 3000 := oo
      have hEb : 0 ≤ E ∧ E ≤ 3000 := oo
      have hN := Bk.new wr (bkC ⟨n2, r, n4, T⟩) 160
      have ow2 := ow.alloc (.cells (bkC ⟨n2, r, n4, T⟩) 160)
      have hK2 := hK.alloc (.cells (bkC ⟨n2, r, n4, T⟩) 160)
      have g2 := g.alloc oo (.cells (bkC ⟨n2, r, n4, T⟩) 160)
      go_upto_region 6 with (fail)
      generalize wr.alloc (.cells _ 160) = W at *
      have hNl := hN.lt
      have hXN := hN.cell
      have zz := g2.size
      generalize wr.heap.size = q at *
      clear ow hK g c0 c1 c2 c3
      by_cases hA : E ≤ L
      · -- nothing of it
        have HC := Go.Lib.hid (HST.out [] (by unfold xZ; rw [if_pos (by simp only; omega)]))
        rw [List.append_nil] at HC
        have hAd : decide (E ≤ L) = true := decide_eq_true hA
        go_wp2
        go_roundw
        case rel => exact ⟨k + 1, P, Ao, co, rfl, by rw [HS2.out], by go_num, by omega, by omega, HC, ow2, hK2, g2⟩
        case measure => simp [intOf]; omega
      by_cases hW : L = S ∧ E = S + n4
      · -- all of it
        obtain ⟨hW1, hW2⟩ := hW
        have HC := Go.Lib.hid (HST.out [⟨n2, r, n4, T⟩] (by unfold xZ; rw [if_neg (by simp only; omega), if_pos (by simp only; omega)]))
        have hd1 : (L == S) = true := by simp; omega
        have hd2 : (E == S + n4) = true := by simp; omega
        have HW1 := Go.Lib.hid hW1
        have HW2 := Go.Lib.hid hW2
        clear hW1 hW2
        go_wp2_with (at_builtin; go_must (refine zN _ rfl _ _ 133 rfl (w.heap.size + 1) 160 i _ 4 40 Tryz.underlying133 hi hz0 hz1 hz2 rfl (by omega) _ _ _ rfl (ow2.alloc _) _ 1 1 [.int .i64 n2, .bool r, .int .i64 n4, .string ⟨T.toArray⟩] rfl (Sl.newAt W #[.int .i64 n2, .bool r, .int .i64 n4, .string ⟨T.toArray⟩] _ 1 4 (by first | rfl | simp) (by simp) (by omega)) (by simp [Value.oneCell']) hm1 hm2 ?_ ?_))
        try (case refine_1 => first | omega | (simp <;> omega; done))
        intro A3 cap3 w3 o3 hg3 _
        have g3 := yw g2 hg3 (by first | omega | (simp; omega)) (fun k hk => by have := (ow2.lt k hk).1; omega)
        have hK3 := Bk.grown (hK2.alloc _) hg3 (fun k hk => by have := (ow2.lt k hk).1; omega)
        have o3' : w3.ownsRow (w.heap.size + 1) 160 4 (.slice A3 (P ++ [(⟨n2, r, n4, T⟩ : Blk)]).length cap3) (P ++ [(⟨n2, r, n4, T⟩ : Blk)]).length (zS (P ++ [(⟨n2, r, n4, T⟩ : Blk)])) := by
          rw [xE, List.length_append]; exact o3
        have hol : (P ++ [(⟨n2, r, n4, T⟩ : Blk)]).length = P.length + 1 := by simp
        have HOL := Go.Lib.hid hol
        clear o3 hg3 ow2 g2 hol hK2 hXN hN
        go_wp2
        go_roundw
        case rel => exact ⟨k + 1, P ++ [(⟨n2, r, n4, T⟩ : Blk)], A3, cap3, (by rw [HOL.out]), by rw [HS2.out], by go_num, by omega, by rw [HOL.out]; omega, HC, o3', hK3, g3⟩
        case measure => simp [intOf]; omega
      · -- a part of it
        obtain ⟨lo, hlo⟩ : ∃ lo : Nat, L - S = (lo : Int) := ⟨(L - S).toNat, oo⟩
        obtain ⟨hv, hhv⟩ : ∃ hv : Nat, E - S = (hv : Int) := ⟨(E - S).toNat, oo⟩
        have hcut : xZ K S f t ⟨n2, r, n4, T⟩ = ((⟨n2, r, n4, T⟩ : Blk).dat K).map fun d => [xJ K 0 ((d.drop lo).take (hv - lo))] := by
          unfold xZ
          rw [if_neg (by simp only; omega), if_neg (by simp only; omega)]
          simp only
          rw [show (max S f - S).toNat = lo by omega, show (min (S + n4) t - max S f).toNat = hv - lo by omega]
        rw [hcut] at HST HNO
        clear hcut
        have hw1 : IntKind.i64.wrap (lo : Int) = (lo : Int) := IntWalk.i64_in _ oo
        have hw2 : IntKind.i64.wrap (hv : Int) = (hv : Int) := IntWalk.i64_in _ oo
        have hHV : hv ≤ n4.toNat ∧ lo ≤ hv := oo
        by_cases hLS : L = S
        · have hd1 : (L == S) = true := by simpa using hLS
          have hd2 : (E == S + n4) = false := by simp; omega
          have HLS := Go.Lib.hid hLS
          clear hLS
          have hXK := hK2.cell
          go_wp2_with fail
          refine (CDK.out _ g2).mono ?_
          rintro e w5 ⟨rfl, b5⟩
          have z5 := b5.size
          have hK5 := hK2.below b5 oo
          have ow5 := zf ow2 b5
          have g5 := g2.trans (b5.mono oo)
          have hX5 := hK5.cell
          have hkl5 := hK5.lt
          clear hXN hN hXK hK2 ow2 g2 b5 CDK
          cases hD : (⟨n2, r, n4, T⟩ : Blk).dat K with
          | none =>
            rw [hD] at HNO
            have hE0 := HNO.out rfl
            unfold xY
            simp only [Option.getD_none, Option.isSome_none]
            clear HNO HST
            go_wp2
            exact bodyPost_ret (v := .tuple #[.slice none 0 0, .bool false]) (by simp [results, Tryz.results181, go_sem]) rfl ⟨_, _, rfl, g5, Vk.no hE0⟩
          | some D =>
            have hDl : (D.length : Int) = n4 := HDL.out D hD
            have HC : Hid (wM K f t 0 (bs.take (k + 1)) = some (P ++ [xJ K 0 ((D.drop lo).take (hv - lo))])) := HST.out _ (by rw [hD]; rfl)
            have cMx := fun wr h => cM.out ((D.drop lo).take (hv - lo)) wr h (by simp; omega)
            unfold xY
            simp only [Option.getD_some, Option.isSome_some]
            have hv1 : lo ≤ hv := hHV.2
            have hv2 : hv ≤ D.length := oo
            have hv3 : (hv : Int) ≤ D.length := oo
            have hv4 : (lo : Int) ≤ hv := oo
            clear hDl
            generalize xJ K 0 ((D.drop lo).take (hv - lo)) = c at *
            clear HNO HST hD
            obtain ⟨m2, s, m4, U⟩ := c
            go_upto_region 11 with (fail)
            refine wp_region_held_drew (S := (fun w' => w'.cell? ⟨w.heap.size, 0, none⟩ = some (.int .i64 K.o) ∧ w'.cell? ⟨w.heap.size, 1, none⟩ = some (.int .i64 K.l) ∧ w'.cell? ⟨w.heap.size, 2, none⟩ = some (.int .i64 K.m) ∧ w'.cell? ⟨w.heap.size, 3, none⟩ = some (.slice Ak K.ps.length ck) ∧ w'.cell? ⟨w.heap.size, 4, none⟩ = some (.int .i64 K.base) ∧ w'.cell? ⟨w.heap.size, 5, none⟩ = some (.int .i64 K.last))) kr ?_ (fun hSS => ?_)
            focus ((refine ⟨?_, ?_, ?_, ?_, ?_, ?_⟩; all_goals first | (simp [hX10]; done) | (simp [hX8]; done) | (simp [hX5]; done) | exact (hK8.alloc _).cell 0 | exact (hK8.alloc _).cell 1 | exact (hK8.alloc _).cell 2 | exact (hK8.alloc _).cell 3 | exact (hK8.alloc _).cell 4 | exact (hK8.alloc _).cell 5))
            refine tk 0 ?_
            try simp only [Act.put, u2, u3, u4]
            refine tk 1 ?_
            try simp only [Act.put, u2, u3, u4]
            refine tk 2 ?_
            try simp only [Act.put, u2, u3, u4]
            refine tk 3 ?_
            try simp only [Act.put, u2, u3, u4]
            refine tk 4 ?_
            try simp only [Act.put, u2, u3, u4]
            refine tk 5 ?_
            try simp only [Act.put, u2, u3, u4]
            refine tk 6 ?_
            try simp only [Act.put, u2, u3, u4]
            refine tk 7 ?_
            try simp only [Act.put, u2, u3, u4]
            refine tk 8 ?_
            try simp only [Act.put, u2, u3, u4]
            refine tk 9 ?_
            try simp only [Act.put, u2, u3, u4]
            refine rd1 10 fun KK hKK => ?_
            go_simp
            (go_at_call 182; refine (cMx _ yL).mono ?_; rintro e8 w8 ⟨rfl, b8⟩; have b8 : Below w5.heap.size w5 w8 := zG b8; have z8 := b8.size; have hK8 := hK5.below b8 hkl5; have o8 := zf ow5 b8; have g8 := g5.trans (b8.mono oo); have hX8 := hK8.cell)
            refine hKK.out _ _ (by (refine ⟨?_, ?_, ?_, ?_, ?_, ?_⟩; all_goals first | (simp [hX10]; done) | (simp [hX8]; done) | (simp [hX5]; done) | exact (hK8.alloc _).cell 0 | exact (hK8.alloc _).cell 1 | exact (hK8.alloc _).cell 2 | exact (hK8.alloc _).cell 3 | exact (hK8.alloc _).cell 4 | exact (hK8.alloc _).cell 5)) fun hSS => ?_
            try simp only [Act.put, u2, u3, u4]
            refine rd1 11 fun KK hKK => ?_
            go_simp
            refine hKK.out _ _ (by (refine ⟨?_, ?_, ?_, ?_, ?_, ?_⟩; all_goals first | (simp [hX10]; done) | (simp [hX8]; done) | (simp [hX5]; done) | exact (hK8.alloc _).cell 0 | exact (hK8.alloc _).cell 1 | exact (hK8.alloc _).cell 2 | exact (hK8.alloc _).cell 3 | exact (hK8.alloc _).cell 4 | exact (hK8.alloc _).cell 5)) fun hSS => ?_
            try simp only [Act.put, u2, u3, u4]
            refine rd1 12 fun KK hKK => ?_
            ((refine uz _ rfl _ _ 133 rfl (w.heap.size + 1) 160 i _ 4 40 Tryz.underlying133 hi hz0 hz1 hz2 rfl (by omega) (.slice Ao P.length co) P.length (zS P) rfl (o8.alloc _) (some ⟨_, 0, none⟩) 1 1 [.int .i64 m2, .bool s, .int .i64 m4, .string ⟨U.toArray⟩] rfl (Sl.new w8 #[.int .i64 m2, .bool s, .int .i64 m4, .string ⟨U.toArray⟩] _ 1 4 (by simp) (by omega)) (by simp [Value.oneCell']) hm1 hm2 (by first | omega | (simp <;> omega)) ?_); intro A10 c10 w10 o10 hg10 hat10; have hK10 := Bk.grown (hK8.alloc _) hg10 (fun k hk => by have := (o8.lt k hk).1; omega); have g10 := (g8.alloc (by omega) _).grown hg10 (by simp; omega) (fun k hk => by have := (o8.lt k hk).1; omega); have hX10 := hK10.cell)
            refine hKK.out _ _ (by (refine ⟨?_, ?_, ?_, ?_, ?_, ?_⟩; all_goals first | (simp [hX10]; done) | (simp [hX8]; done) | (simp [hX5]; done) | exact (hK8.alloc _).cell 0 | exact (hK8.alloc _).cell 1 | exact (hK8.alloc _).cell 2 | exact (hK8.alloc _).cell 3 | exact (hK8.alloc _).cell 4 | exact (hK8.alloc _).cell 5)) fun hSS => ?_
            try simp only [Act.put, u2, u3, u4]
            refine tk 13 ?_
            try simp only [Act.put, u2, u3, u4]
            refine wpAnyH_done kr ?_ _
            simp only [List.getElem_toArray, List.getElem_cons_succ, List.getElem_cons_zero, Act.put, List.setIfInBounds_toArray, List.set_cons_zero, List.set_cons_succ]
            have hPl : (P ++ [(⟨m2, s, m4, U⟩ : Blk)]).length = P.length + 1 := by simp
            have o11 : w10.ownsRow (w.heap.size + 1) 160 4 (.slice A10 (P ++ [(⟨m2, s, m4, U⟩ : Blk)]).length c10) (P ++ [(⟨m2, s, m4, U⟩ : Blk)]).length (zS (P ++ [(⟨m2, s, m4, U⟩ : Blk)])) := by rw [hPl, xE]; exact o10
            rw [← hPl]
            have hPf2 : (P ++ [(⟨m2, s, m4, U⟩ : Blk)]).length ≤ k + 1 := oo
            generalize P ++ [(⟨m2, s, m4, U⟩ : Blk)] = P2 at *
            clear hKK hPl o10 hg10 hat10 cMx hw1 hw2 hlo hhv hL hE
            go_wp2
            go_roundw
            case rel => exact ⟨k + 1, P2, A10, c10, rfl, by rw [HS2.out], by go_num, by omega, hPf2, HC, o11, hK10, g10⟩
            case measure => simp [intOf]; omega
        · have hd1 : (L == S) = false := by simpa using hLS
          have hXK := hK2.cell
          go_wp2_with fail
          refine (CDK.out _ g2).mono ?_
          rintro e w5 ⟨rfl, b5⟩
          have z5 := b5.size
          have hK5 := hK2.below b5 oo
          have ow5 := zf ow2 b5
          have g5 := g2.trans (b5.mono oo)
          have hX5 := hK5.cell
          have hkl5 := hK5.lt
          clear hXN hN hXK hK2 ow2 g2 b5 CDK
          cases hD : (⟨n2, r, n4, T⟩ : Blk).dat K with
          | none =>
            rw [hD] at HNO
            have hE0 := HNO.out rfl
            unfold xY
            simp only [Option.getD_none, Option.isSome_none]
            clear HNO HST
            go_wp2
            exact bodyPost_ret (v := .tuple #[.slice none 0 0, .bool false]) (by simp [results, Tryz.results181, go_sem]) rfl ⟨_, _, rfl, g5, Vk.no hE0⟩
          | some D =>
            have hDl : (D.length : Int) = n4 := HDL.out D hD
            have HC : Hid (wM K f t 0 (bs.take (k + 1)) = some (P ++ [xJ K 0 ((D.drop lo).take (hv - lo))])) := HST.out _ (by rw [hD]; rfl)
            have cMx := fun wr h => cM.out ((D.drop lo).take (hv - lo)) wr h (by simp; omega)
            unfold xY
            simp only [Option.getD_some, Option.isSome_some]
            have hv1 : lo ≤ hv := hHV.2
            have hv2 : hv ≤ D.length := oo
            have hv3 : (hv : Int) ≤ D.length := oo
            have hv4 : (lo : Int) ≤ hv := oo
            clear hDl
            generalize xJ K 0 ((D.drop lo).take (hv - lo)) = c at *
            clear HNO HST hD
            obtain ⟨m2, s, m4, U⟩ := c
            go_upto_region 11 with (fail)
            refine wp_region_held_drew (S := (fun w' => w'.cell? ⟨w.heap.size, 0, none⟩ = some (.int .i64 K.o) ∧ w'.cell? ⟨w.heap.size, 1, none⟩ = some (.int .i64 K.l) ∧ w'.cell? ⟨w.heap.size, 2, none⟩ = some (.int .i64 K.m) ∧ w'.cell? ⟨w.heap.size, 3, none⟩ = some (.slice Ak K.ps.length ck) ∧ w'.cell? ⟨w.heap.size, 4, none⟩ = some (.int .i64 K.base) ∧ w'.cell? ⟨w.heap.size, 5, none⟩ = some (.int .i64 K.last))) kr ?_ (fun hSS => ?_)
            focus ((refine ⟨?_, ?_, ?_, ?_, ?_, ?_⟩; all_goals first | (simp [hX10]; done) | (simp [hX8]; done) | (simp [hX5]; done) | exact (hK8.alloc _).cell 0 | exact (hK8.alloc _).cell 1 | exact (hK8.alloc _).cell 2 | exact (hK8.alloc _).cell 3 | exact (hK8.alloc _).cell 4 | exact (hK8.alloc _).cell 5))
            refine tk 0 ?_
            try simp only [Act.put, u2, u3, u4]
            refine tk 1 ?_
            try simp only [Act.put, u2, u3, u4]
            refine tk 2 ?_
            try simp only [Act.put, u2, u3, u4]
            refine tk 3 ?_
            try simp only [Act.put, u2, u3, u4]
            refine tk 4 ?_
            try simp only [Act.put, u2, u3, u4]
            refine tk 5 ?_
            try simp only [Act.put, u2, u3, u4]
            refine tk 6 ?_
            try simp only [Act.put, u2, u3, u4]
            refine tk 7 ?_
            try simp only [Act.put, u2, u3, u4]
            refine tk 8 ?_
            try simp only [Act.put, u2, u3, u4]
            refine tk 9 ?_
            try simp only [Act.put, u2, u3, u4]
            refine rd1 10 fun KK hKK => ?_
            go_simp
            (go_at_call 182; refine (cMx _ yL).mono ?_; rintro e8 w8 ⟨rfl, b8⟩; have b8 : Below w5.heap.size w5 w8 := zG b8; have z8 := b8.size; have hK8 := hK5.below b8 hkl5; have o8 := zf ow5 b8; have g8 := g5.trans (b8.mono oo); have hX8 := hK8.cell)
            refine hKK.out _ _ (by (refine ⟨?_, ?_, ?_, ?_, ?_, ?_⟩; all_goals first | (simp [hX10]; done) | (simp [hX8]; done) | (simp [hX5]; done) | exact (hK8.alloc _).cell 0 | exact (hK8.alloc _).cell 1 | exact (hK8.alloc _).cell 2 | exact (hK8.alloc _).cell 3 | exact (hK8.alloc _).cell 4 | exact (hK8.alloc _).cell 5)) fun hSS => ?_
            try simp only [Act.put, u2, u3, u4]
            refine rd1 11 fun KK hKK => ?_
            go_simp
            refine hKK.out _ _ (by (refine ⟨?_, ?_, ?_, ?_, ?_, ?_⟩; all_goals first | (simp [hX10]; done) | (simp [hX8]; done) | (simp [hX5]; done) | exact (hK8.alloc _).cell 0 | exact (hK8.alloc _).cell 1 | exact (hK8.alloc _).cell 2 | exact (hK8.alloc _).cell 3 | exact (hK8.alloc _).cell 4 | exact (hK8.alloc _).cell 5)) fun hSS => ?_
            try simp only [Act.put, u2, u3, u4]
            refine rd1 12 fun KK hKK => ?_
            ((refine uz _ rfl _ _ 133 rfl (w.heap.size + 1) 160 i _ 4 40 Tryz.underlying133 hi hz0 hz1 hz2 rfl (by omega) (.slice Ao P.length co) P.length (zS P) rfl (o8.alloc _) (some ⟨_, 0, none⟩) 1 1 [.int .i64 m2, .bool s, .int .i64 m4, .string ⟨U.toArray⟩] rfl (Sl.new w8 #[.int .i64 m2, .bool s, .int .i64 m4, .string ⟨U.toArray⟩] _ 1 4 (by simp) (by omega)) (by simp [Value.oneCell']) hm1 hm2 (by first | omega | (simp <;> omega)) ?_); intro A10 c10 w10 o10 hg10 hat10; have hK10 := Bk.grown (hK8.alloc _) hg10 (fun k hk => by have := (o8.lt k hk).1; omega); have g10 := (g8.alloc (by omega) _).grown hg10 (by simp; omega) (fun k hk => by have := (o8.lt k hk).1; omega); have hX10 := hK10.cell)
            refine hKK.out _ _ (by (refine ⟨?_, ?_, ?_, ?_, ?_, ?_⟩; all_goals first | (simp [hX10]; done) | (simp [hX8]; done) | (simp [hX5]; done) | exact (hK8.alloc _).cell 0 | exact (hK8.alloc _).cell 1 | exact (hK8.alloc _).cell 2 | exact (hK8.alloc _).cell 3 | exact (hK8.alloc _).cell 4 | exact (hK8.alloc _).cell 5)) fun hSS => ?_
            try simp only [Act.put, u2, u3, u4]
            refine tk 13 ?_
            try simp only [Act.put, u2, u3, u4]
            refine wpAnyH_done kr ?_ _
            simp only [List.getElem_toArray, List.getElem_cons_succ, List.getElem_cons_zero, Act.put, List.setIfInBounds_toArray, List.set_cons_zero, List.set_cons_succ]
            have hPl : (P ++ [(⟨m2, s, m4, U⟩ : Blk)]).length = P.length + 1 := by simp
            have o11 : w10.ownsRow (w.heap.size + 1) 160 4 (.slice A10 (P ++ [(⟨m2, s, m4, U⟩ : Blk)]).length c10) (P ++ [(⟨m2, s, m4, U⟩ : Blk)]).length (zS (P ++ [(⟨m2, s, m4, U⟩ : Blk)])) := by rw [hPl, xE]; exact o10
            rw [← hPl]
            have hPf2 : (P ++ [(⟨m2, s, m4, U⟩ : Blk)]).length ≤ k + 1 := oo
            generalize P ++ [(⟨m2, s, m4, U⟩ : Blk)] = P2 at *
            clear hKK hPl o10 hg10 hat10 cMx hw1 hw2 hlo hhv hL hE
            go_wp2
            go_roundw
            case rel => exact ⟨k + 1, P2, A10, c10, rfl, by rw [HS2.out], by go_num, by omega, hPf2, HC, o11, hK10, g10⟩
            case measure => simp [intOf]; omega
    · have hki : ¬ (k : Int) < bs.length := oo
      have HE : Hid (R = some P) := by show _ = _; rw [← HR.out, ← HP.out, List.take_of_length_le (by omega)]
      go_wp2
      exact bodyPost_ret (v := .tuple #[.slice Ao P.length co, .bool true]) (by simp [results, Tryz.results181, go_sem]) rfl ⟨_, _, rfl, g, Vk.yes HE.out (zC ow (by omega))⟩
end Go.Proofs.YtfppmajoidkooaaGreatDoor
