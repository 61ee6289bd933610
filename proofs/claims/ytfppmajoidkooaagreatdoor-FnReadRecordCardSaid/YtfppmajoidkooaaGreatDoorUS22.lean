import Derived.Test.YtfppmajoidkooaaGreatDoorUGS5
import Derived.Test.YtfppmajoidkooaaGreatDoorUGU3
import Derived.Deep.Cut
set_option linter.unusedVariables false
set_option linter.unusedSimpArgs false
set_option maxHeartbeats 8000000
namespace Go.Proofs.YtfppmajoidkooaaGreatDoor
open Go.RowKit
set_option maxRecDepth 100000
attribute [local go_sem high] zy zA zB zO zK zY zx zk zl zq zi zo yP zD yt zF
theorem Zv (bs:List Blk):∀u ∈ zS bs,u.oneCell'=true:=by
 intro u hu;unfold zS at hu;obtain⟨b,_,hb⟩:=List.mem_flatMap.1 hu;simp only[bkL,List.mem_cons,List.not_mem_nil,or_false] at hb;rcases hb with rfl|rfl|rfl|rfl<;>rfl
theorem iG (bs:List Blk)(A:Option Addr)(cap:Nat)(w:World)(hs:Sl w A bs.length cap 4 (zS bs))(hok:∀b ∈ bs,b.ok=true)(hl:bs.length≤1000000):
 Calls Tryz.prog 173 #[.slice A bs.length cap] w fun e w'=>e= .returned (.int .i64 (zn bs))∧Below w.heap.size w w':=by
 have HOK:=Go.Lib.hid hok;have hcap:=hs.1;go_enter Tryz.func173,Tryz.ntmps173;go_wp2;have hS:Hid (∀wr,Below w.heap.size w wr→Sl wr A bs.length cap 4 (zS bs)):=fun wr h=>hs.below h;clear hs hok;go_loopw [3,4] (fun s i wr=>∃k:Nat,s= .int .i64 (zn (bs.take k))∧i= .int .i64 k∧k≤bs.length∧Below w.heap.size w wr) (fun _ i _=>bs.length - (intOf i).toNat)
 case atStart=>exact⟨0,rfl,rfl,oo,zu⟩
 case round=>
  obtain⟨k,rfl,rfl,hk,hb⟩:=hrel;have hbs:=hb.size;have hsb:=vJ (bs.take k) (fun b hb=>HOK.out b (List.mem_of_mem_take hb));have htl:(bs.take k).length≤1000000:=(by simp;omega);have HTL:=Go.Lib.hid htl;obtain⟨hsb1,hsb2⟩:=hsb;have hsb3:zn (bs.take k)≤64000000:=oo;clear hsb2 htl;by_cases hlt:k<bs.length
  ·have hki:(k:Int)<bs.length:=oo
   have hsr:=hS.out wr hb;obtain⟨g,off,rfl,hg,hc⟩:=Sl.jw hsr hlt;have hcs:=ql bs k hlt;have c2:=hc 2 _ hcs.2.2.1;clear hc hcs hsr;have hsz:=Blk.vk (HOK.out bs[k] (List.getElem_mem hlt));obtain⟨hz1,hz2,_,_⟩:=hsz;have HS2:Hid (zn (bs.take (k+1))=zn (bs.take k)+bs[k].size):=(by show _=_;rw[List.take_succ_eq_append_getElem hlt,vT]);generalize bs[k]=b at*;obtain⟨n2,r,n4,D⟩:=b;simp only[Nat.add_zero] at c2 hz1 hz2 HS2;generalize zn (bs.take k)=S at*;go_wp2;go_roundw
   case rel=>exact⟨k+1,(by rw[HS2.out]),by go_num,by omega,zu⟩
   case measure=>simp [intOf];omega
  ·have hki:¬(k:Int)<bs.length:=oo
   have HE:Hid (zn (bs.take k)=zn bs):=(by show _=_;rw[List.take_of_length_le (by omega)]);go_wp2;go_ret;exact⟨yN HE.out,hb⟩
theorem U8 (bs:List Blk)(A:Option Addr)(cap:Nat)(w:World)(hs:Sl w A bs.length cap 4 (zS bs))(hok:∀b ∈ bs,b.ok=true)(hl:bs.length≤1000000):
 Calls Tryz.prog 209 #[.slice A bs.length cap] w fun e w'=>e= .returned (.bool (decide (bs.length≤40∧zn bs≤2000)))∧Below w.heap.size w w':=by
 have cS:=iG bs A cap w hs hok hl;have hcap:=hs.1;have hsb:=vJ bs hok;by_cases h40:bs.length≤40
 ·have hi:(bs.length:Int)≤40:=oo
  have hR:decide (bs.length≤40∧zn bs≤2000)=decide (zn bs≤2000):=(by simp [h40]);rw[hR];clear hR hsb hs hok;generalize zn bs=z at*;go_enter Tryz.func209,Tryz.ntmps209;go_wp2_with fail;refine cS.mono ?_;rintro e w1 ⟨rfl,b1⟩;go_wp2;go_ret;exact⟨zQ (by first|rfl|simp),b1⟩
 ·have hi:¬(bs.length:Int)≤40:=oo
  have hR:decide (bs.length≤40∧zn bs≤2000)=false:=(by simp [h40]);rw[hR];clear hR cS;go_enter Tryz.func209,Tryz.ntmps209;go_wp2;go_ret;exact⟨rfl,Below.refl _ _⟩
theorem RJ (bs:List Blk)(k:Nat)(h:k<bs.length):vC 0 (bs.take (k+1))=vC 0 (bs.take k)++[{ bs[k] with num:=(k:Int) }]:=by
 rw[List.take_succ_eq_append_getElem h,Xg,List.length_take,Nat.min_eq_left (by omega),Nat.zero_add]
theorem Uj (bs:List Blk)(A:Option Addr)(cap:Nat)(w:World)(hs:Sl w A bs.length cap 4 (zS bs))(hok:∀b ∈ bs,b.ok=true)(hl:bs.length≤40):
 Calls Tryz.prog 210 #[.slice A bs.length cap,.int .i64 0] w fun e w'=>e= .returned (sv (wQ (vC 0 bs)))∧Below w.heap.size w w':=by
 have hcap:=hs.1;have hcap2:=hs.2.1;have HOK:=Go.Lib.hid hok;have HSL:Hid (∀wr,Below w.heap.size w wr→Sl wr A bs.length cap 4 (zS bs)):=fun wr h=>hs.below h;obtain⟨T,hT⟩:∃T,wQ (vC 0 bs)=T:=⟨_,rfl⟩;rw[hT];have HT:=Go.Lib.hid hT;clear hs hok hT;go_enter Tryz.func210,Tryz.ntmps210;go_wp2;go_loopw [5,6] (fun a i wr=>∃(k:Nat) (X:Bs),a=sv X∧i= .int .i64 (k:Int)∧k≤bs.length∧X.length≤74*k∧Hid (wQ (vC 0 (bs.take k))=X)∧Below w.heap.size w wr) (fun _ i _=>bs.length - (intOf i).toNat)
 case atStart=>exact⟨0,[],rfl,rfl,by omega,by simp,rfl,zu⟩
 case round=>
  obtain⟨k,X,rfl,rfl,hk,hX,HX,hb⟩:=hrel;have hz:=hb.size;by_cases hlt:k<bs.length
  ·have hki:(k:Int)<bs.length:=oo
   have hsA:=HSL.out wr hb;obtain⟨g,off,rfl,hg,hc⟩:=Sl.jw hsA hlt;have hcs:=ql bs k hlt;have c0:=hc 0 _ hcs.1;have c1:=hc 1 _ hcs.2.1;have c2:=hc 2 _ hcs.2.2.1;have c3:=hc 3 _ hcs.2.2.2;have hbo:=Ti (HOK.out bs[k] (List.getElem_mem hlt)) (n:=(k:Int)) oo oo;have HS:=Go.Lib.hid (RJ bs k hlt);generalize bs[k]=b at*;obtain⟨n2,r,n4,D⟩:=b;simp only at hbo HS;have hbt:=Vs hbo;have hbs:=Blk.vk hbo;have hbl:=pW hbo;have cF:=fun w=>jV ⟨(k:Int),r,n4,D⟩ w (by unfold Blk.sm;simp only at hbs hbl⊢;omega);have HS2:Hid (wQ (vC 0 (bs.take (k+1)))=X++(⟨(k:Int),r,n4,D⟩:Blk).text):=(by show _=_;rw[HS.out,dK,HX.out]);generalize(⟨(k:Int),r,n4,D⟩:Blk).text=d at*;simp only[Nat.add_zero] at c0 c1 c2 c3;have hN1:=Bk.new wr (bkC ⟨(k:Int),r,n4,D⟩) 160;have bW:Below wr.heap.size wr (wr.alloc (.cells (bkC ⟨(k:Int),r,n4,D⟩) 160)):=zu;have g1:=hb.trans (bW.mono hz);clear hc hcs HX HS hbo hsA bW hbs hbl;go_upto_region 7 with(fail)
   generalize wr.alloc (.cells _ 160)=W at*;have hY1:=hN1.cell;have hlN:=hN1.lt;have hq:¬9223372036854775807<X.length+d.length:=oo;clear c0 c1 c2 c3;go_wp2_with fail;refine(cF _).mono ?_;rintro e w2 ⟨rfl,hb2⟩;have z2:=hb2.size;have g2:=g1.trans (hb2.mono oo);have hxl:(X++d).length≤74*(k+1):=(by simp;omega);have HXL:=Go.Lib.hid hxl;clear cF hb2 hN1 g1 hY1 hxl;go_wp2;go_roundw
   case rel=>exact⟨k+1,X++d,by first|rfl|(simp [sv];done),by go_num,by omega,HXL.out,HS2,g2⟩
   case measure=>simp [intOf];omega
  ·have hki:¬(k:Int)<bs.length:=oo
   have h:T=X:=(by rw[←HT.out,←HX.out,List.take_of_length_le (by omega)]);subst h;go_wp2;go_ret;exact⟨rfl,hb⟩
theorem nO (bs:List Blk)(A:Option Addr)(cap:Nat)(w:World)(hs:Sl w A bs.length cap 4 (zS bs))(hok:∀b ∈ bs,b.ok=true)(hl:bs.length≤1000000):
 Calls Tryz.prog 171 #[.slice A bs.length cap] w fun e w'=>e=zZ (mcO bs)∧Below w.heap.size w w':=by
 have cF:=U8 bs A cap w hs hok hl;by_cases h:bs.length≤40∧zn bs≤2000
 ·have cT:Hid (∀wr,Below w.heap.size w wr→Calls Tryz.prog 210 #[.slice A bs.length cap,.int .i64 0] wr fun e w'=>e= .returned (sv (wQ (vC 0 bs)))∧Below wr.heap.size wr w'):=fun wr hw=>Uj bs A cap wr (hs.below hw) hok h.1
  have hE:mcO bs=some (wQ (vC 0 bs)):=(by unfold mcO;rw[if_pos h]);rw[hE];rw[decide_eq_true h] at cF;unfold zZ;clear hE h hs hok;generalize wQ (vC 0 bs)=T at*;go_enter Tryz.func171,Tryz.ntmps171;go_wp2_with fail;refine cF.mono ?_;rintro e w1 ⟨rfl,b1⟩;go_wp2_with fail;refine(cT.out _ b1).mono ?_;rintro e w2 ⟨rfl,b2⟩;have z1:=b1.size;go_wp2;exact bodyPost_ret (v:=.tuple #[sv T,.bool true]) (by simp [results,Tryz.results171,go_sem]) rfl ⟨rfl,b1.trans (b2.mono z1)⟩
 ·have hE:mcO bs=none:=by unfold mcO;rw[if_neg h]
  rw[hE];rw[decide_eq_false h] at cF;unfold zZ;clear hE h hs hok;go_enter Tryz.func171,Tryz.ntmps171;go_wp2_with fail;refine cF.mono ?_;rintro e w1 ⟨rfl,b1⟩;go_wp2;exact bodyPost_ret (v:=.tuple #[sv [],.bool false]) (by simp [results,Tryz.results171,go_sem]) rfl ⟨rfl,b1⟩
theorem Zf (d:Bs)(size:Int)(w:World)(hd:d.length≤9223372036854775807)(hs0: -1000000≤size)(hs1:size≤1000000):
 Calls Tryz.prog 170 #[sv d,.int .i64 size] w fun e w'=>e= .returned (.bool (decide (2000<d.length∨size*40<(d.length:Int))))∧Below w.heap.size w w':=by
 by_cases h:2000<d.length
 ·have hi:(2000:Int)<d.length:=oo
  have hR:decide (2000<d.length∨size*40<(d.length:Int))=true:=(by simp [h]);rw[hR];go_enter Tryz.func170,Tryz.ntmps170;go_wp2;go_ret;exact⟨rfl,Below.refl _ _⟩
 ·have hi:¬(2000:Int)<d.length:=oo
  have hR:decide (2000<d.length∨size*40<(d.length:Int))=decide (size*40<(d.length:Int)):=(by simp [h]);rw[hR];go_enter Tryz.func170,Tryz.ntmps170;go_wp2;go_ret;exact⟨zQ (by first|rfl|simp),Below.refl _ _⟩
theorem jM (o l m:Int)(dict:Bs)(size:Int)(w:World)(hdl:dict.length≤9223372036854775807):
 Calls Tryz.prog 169 #[.agg #[.int .i64 o,.int .i64 l,.int .i64 m],sv dict,.int .i64 size] w fun e w'=>e= .returned (.bool (decide (fits o l m dict∧1≤size∧size≤64)))∧Below w.heap.size w w':=by
 have cR:=fun w=>rW o l m dict w hdl;have cJ:=fun w=>Rn size 1 64 w;by_cases h:fits o l m dict
 ·have hR:decide (fits o l m dict∧1≤size∧size≤64)=decide (1≤size∧size≤64):=by simp [h]
  rw[hR];rw[decide_eq_true h] at cR;clear hR h;go_enter Tryz.func169,Tryz.ntmps169;have hK0:Bk (w.alloc (.cells #[.int .i64 o,.int .i64 l,.int .i64 m] 39)) w.heap.size 39 #[.int .i64 o,.int .i64 l,.int .i64 m]:=tBk;have g0:Below w.heap.size w (w.alloc (.cells #[.int .i64 o,.int .i64 l,.int .i64 m] 39)):=zu;go_upto_region 1 with(fail)
  generalize w.alloc (.cells #[.int .i64 o,.int .i64 l,.int .i64 m] 39)=w0 at*;have hX0:=hK0.cell;have hz0:=hK0.lt;go_wp2_with fail;refine(cR _).mono ?_;rintro e w1 ⟨rfl,hb1⟩;have g1:=g0.trans (hb1.mono oo);have hz1:=g1.size;go_wp2_with fail;refine(cJ _).mono ?_;rintro e w2 ⟨rfl,hb2⟩;have g2:=g1.trans (hb2.mono oo);go_wp2;go_ret;exact⟨zQ (by first|rfl|simp),g2⟩
 ·have hR:decide (fits o l m dict∧1≤size∧size≤64)=false:=by simp [h]
  rw[hR];rw[decide_eq_false h] at cR;clear hR h;go_enter Tryz.func169,Tryz.ntmps169;have hK0:Bk (w.alloc (.cells #[.int .i64 o,.int .i64 l,.int .i64 m] 39)) w.heap.size 39 #[.int .i64 o,.int .i64 l,.int .i64 m]:=tBk;have g0:Below w.heap.size w (w.alloc (.cells #[.int .i64 o,.int .i64 l,.int .i64 m] 39)):=zu;go_upto_region 1 with(fail)
  generalize w.alloc (.cells #[.int .i64 o,.int .i64 l,.int .i64 m] 39)=w0 at*;have hX0:=hK0.cell;have hz0:=hK0.lt;go_wp2_with fail;refine(cR _).mono ?_;rintro e w1 ⟨rfl,hb1⟩;have g1:=g0.trans (hb1.mono oo);go_wp2;go_ret;exact⟨rfl,g1⟩
theorem bG (o l m:Int)(dict d:Bs)(size:Nat)(w:World)(hf:fits o l m dict)(hs1:1≤size)(hs2:size≤64)(hdl:d.length≤2000):
 Calls Tryz.prog 172 #[.agg #[.int .i64 o,.int .i64 l,.int .i64 m],sv dict,sv d,.int .i64 (size:Int)] w fun e w'=>∃A cap,e= .returned (.slice A (mks (zt o l m dict) size d.length d).length cap)∧w'.ownsRow w.heap.size 160 4 (.slice A (mks (zt o l m dict) size d.length d).length cap) (mks (zt o l m dict) size d.length d).length (zS (mks (zt o l m dict) size d.length d))∧Below w.heap.size w w':=by
 obtain⟨i,hi,hz0,hz1,hz2⟩:=info_parts xW;have cM:Hid (∀(x:Bs) wr,x.length≤2000→Calls Tryz.prog 175 #[.agg #[.int .i64 o,.int .i64 l,.int .i64 m],sv dict,.int .i64 0,sv x] wr fun e w'=>e= .returned (bkV (xJ (zt o l m dict) 0 x))∧Below wr.heap.size wr w'):=fun x wr hx=>pI o l m dict 0 x wr hf oo;clear hf;generalize zt o l m dict=K at*;have HG0:Hid (mks K size d.length d=[]++mks K size d.length d):=rfl;obtain⟨ALL,hALL⟩:∃ALL,mks K size d.length d=ALL:=⟨_,rfl⟩;rw[hALL];have HG1:Hid (ALL=[]++mks K size d.length d):=hALL.symm;clear hALL HG0;go_enter Tryz.func172,Tryz.ntmps172;have hK0:Bk (w.alloc (.cells #[.int .i64 o,.int .i64 l,.int .i64 m] 39)) w.heap.size 39 #[.int .i64 o,.int .i64 l,.int .i64 m]:=tBk;have g0:Below w.heap.size w (w.alloc (.cells #[.int .i64 o,.int .i64 l,.int .i64 m] 39)):=zu;have s0:(w.alloc (.cells #[.int .i64 o,.int .i64 l,.int .i64 m] 39)).heap.size=w.heap.size+1:=(by simp);go_upto_region 1 with(fail)
 generalize w.alloc (.cells #[.int .i64 o,.int .i64 l,.int .i64 m] 39)=w0 at*;have o0:=vK (base:=w.heap.size+1) (size:=4) (Bk.new w0 #[] 160) oo;rw[s0] at o0;have hK1:=hK0.alloc (.cells #[] 160);have g1:=g0.alloc oo (.cells #[] 160);go_upto_region 2 with(fail)
 generalize w0.alloc (.cells #[] 160)=w1 at*;clear hK0 g0;go_loopw [2,9] (fun a b wr=>∃(D:Bs) (j:Nat) (P:List Blk) (Ao:Option Addr) (co:Nat),a=sv D∧b= .slice Ao P.length co∧D.length≤j∧D.length≤2000∧P.length+D.length≤2000∧Hid (ALL=P++mks K size j D)∧wr.ownsRow (w.heap.size+1) 160 4 (.slice Ao P.length co) P.length (zS P)∧Bk wr w.heap.size 39 #[.int .i64 o,.int .i64 l,.int .i64 m]∧Below w.heap.size w wr) (fun a _ _=>VL a)
 case atStart=>exact⟨d,d.length,[],_,0,rfl,rfl,Nat.le_refl _,hdl,by simpa using hdl,HG1,o0,hK1,g1⟩
 case round=>
  obtain⟨D,j,P,Ao,co,rfl,rfl,hj,hD,hPD,HG,ow,hK,g⟩:=hrel;clear hK1 g1 o0 HG1;have hz:=g.size;have hkl:=hK.lt;by_cases hne:D=[]
  ·subst hne
   have HE:Hid (ALL=P):=(by show _=_;rw[HG.out,X9,List.append_nil]);go_wp2;go_ret;exact⟨Ao,co,by rw[HE.out];rfl,by rw[HE.out];exact zC ow (by omega),g⟩
  ·have hl1:=List.length_pos_iff.2 hne
   have hte:(decide (D=[]))=false:=(by simpa using hne);have hte2:(D != [])=true:=(by simpa using hne);obtain⟨j',rfl⟩:∃j',j=j'+1:=⟨j - 1,oo⟩;obtain⟨e,he⟩:∃e:Nat,e=min size D.length:=⟨_,rfl⟩;have hmi:min (size:Int) (D.length:Int)=(e:Int):=oo;have hel:e≤D.length:=oo;have he1:1≤e:=oo;have htk:D.take e=D.take size:=by
    by_cases h:size≤D.length
    ·rw[show e=size by omega]
    ·rw[List.take_of_length_le (by omega),List.take_of_length_le (by omega)]
   have hdr:D.drop e=D.drop size:=by
    by_cases h:size≤D.length
    ·rw[show e=size by omega]
    ·rw[List.drop_of_length_le (by omega),List.drop_of_length_le (by omega)]
   have HG2:Hid (ALL=(P++[xJ K 0 (D.take e)])++mks K size j' (D.drop e)):=by
    show _=_;rw[HG.out,SN _ _ _ hne,htk,hdr];simp
   have cMx:=fun wr=>cM.out (D.take e) wr (by simp;omega);obtain⟨b,hb⟩:∃b,xJ K 0 (D.take e)=b:=⟨_,rfl⟩;rw[hb] at HG2 cMx;have hdl2:(D.drop e).length=D.length - e:=(by simp);have hm1:P.length+1≤maxLen:=(by unfold maxLen;omega);have hm2:(P.length+1)*40≤140737488355328:=oo;clear hb htk hdr HG he hne;obtain⟨n2,r,n4,T⟩:=b;have hX6:=hK.cell;go_upto_region 4 with(fail)
   refine wp_region_held_drew (S:=(fun w'=>w'.cell? ⟨w.heap.size,0,none⟩=some (.int .i64 o)∧w'.cell? ⟨w.heap.size,1,none⟩=some (.int .i64 l)∧w'.cell? ⟨w.heap.size,2,none⟩=some (.int .i64 m))) kr ?_ (fun hSS=> ?_);focus((refine⟨?_,?_,?_⟩;all_goals first|(simp [hX10];done)|(simp [hX8];done)|(simp [hX6];done)|exact(hK8.alloc _).cell 0|exact(hK8.alloc _).cell 1|exact(hK8.alloc _).cell 2))
   refine tk 0 ?_;try simp only[Act.put,u2,u3,u4]
   refine tk 1 ?_;try simp only[Act.put,u2,u3,u4]
   refine tk 2 ?_;try simp only[Act.put,u2,u3,u4]
   refine tk 3 ?_;try simp only[Act.put,u2,u3,u4]
   refine tk 4 ?_;try simp only[Act.put,u2,u3,u4]
   refine tk 5 ?_;try simp only[Act.put,u2,u3,u4]
   refine rd1 6 fun KK hKK=> ?_;go_simp
   (go_at_call 175;refine(cMx _).mono ?_;rintro e8 w8 ⟨rfl,b8⟩;have b8:Below wr.heap.size wr w8:=zG b8;have z8:=b8.size;have hK8:=hK.below b8 hkl;have o8:=zf ow b8;have g8:=g.trans (b8.mono oo);have hX8:=hK8.cell)
   refine hKK.out _ _ (by(refine⟨?_,?_,?_⟩;all_goals first|(simp [hX10];done)|(simp [hX8];done)|(simp [hX6];done)|exact(hK8.alloc _).cell 0|exact(hK8.alloc _).cell 1|exact(hK8.alloc _).cell 2)) fun hSS=> ?_;try simp only[Act.put,u2,u3,u4]
   refine rd1 7 fun KK hKK=> ?_;go_simp;refine hKK.out _ _ (by(refine⟨?_,?_,?_⟩;all_goals first|(simp [hX10];done)|(simp [hX8];done)|(simp [hX6];done)|exact(hK8.alloc _).cell 0|exact(hK8.alloc _).cell 1|exact(hK8.alloc _).cell 2)) fun hSS=> ?_;try simp only[Act.put,u2,u3,u4]
   refine rd1 8 fun KK hKK=> ?_
   ((refine uz _ rfl _ _ 133 rfl (w.heap.size+1) 160 i _ 4 40 Tryz.underlying133 hi hz0 hz1 hz2 rfl (by omega) (.slice Ao P.length co) P.length (zS P) rfl (o8.alloc _) (some ⟨_,0,none⟩) 1 1 [.int .i64 n2,.bool r,.int .i64 n4,.string ⟨T.toArray⟩] rfl (Sl.new w8 #[.int .i64 n2,.bool r,.int .i64 n4,.string ⟨T.toArray⟩] _ 1 4 (by simp) (by omega)) (by simp [Value.oneCell']) hm1 hm2 (by first|omega|(simp<;>omega)) ?_);intro A10 c10 w10 o10 hg10 hat10;have hK10:=Bk.grown (hK8.alloc _) hg10 (fun k hk=>by have:=(o8.lt k hk).1;omega);have g10:=(g8.alloc (by omega) _).grown hg10 (by simp;omega) (fun k hk=>by have:=(o8.lt k hk).1;omega);have hX10:=hK10.cell)
   refine hKK.out _ _ (by(refine⟨?_,?_,?_⟩;all_goals first|(simp [hX10];done)|(simp [hX8];done)|(simp [hX6];done)|exact(hK8.alloc _).cell 0|exact(hK8.alloc _).cell 1|exact(hK8.alloc _).cell 2)) fun hSS=> ?_;try simp only[Act.put,u2,u3,u4]
   refine tk 9 ?_;try simp only[Act.put,u2,u3,u4]
   refine wpAnyH_done kr ?_ _;simp only[List.getElem_toArray,List.getElem_cons_succ,List.getElem_cons_zero,Act.put,List.setIfInBounds_toArray,List.set_cons_zero,List.set_cons_succ];have hPl:(P++[(⟨n2,r,n4,T⟩:Blk)]).length=P.length+1:=(by simp);have o11:w10.ownsRow (w.heap.size+1) 160 4 (.slice A10 (P++[(⟨n2,r,n4,T⟩:Blk)]).length c10) (P++[(⟨n2,r,n4,T⟩:Blk)]).length (zS (P++[(⟨n2,r,n4,T⟩:Blk)])):=(by rw[hPl,xE];exact o10);rw[←hPl];have hPf2:(P++[(⟨n2,r,n4,T⟩:Blk)]).length+(D.drop e).length≤2000:=oo;generalize P++[(⟨n2,r,n4,T⟩:Blk)]=P2 at*;clear hKK hmi hPl o10 hg10 hat10 cMx;go_wp2;go_roundw
   case rel=>exact⟨D.drop e,j',P2,A10,c10,by first|rfl|(simp [sv];done),rfl,by omega,by omega,hPf2,HG2,o11,hK10,g10⟩
   case measure=>simp [VL];omega
theorem bZ (o l m:Int)(dict t d:Bs)(size:Int)(w:World)(hl:dict.length≤9223372036854775807)(htl:t.length≤1500000)(hd:d.length≤9223372036854775807)(hs0: -1000000≤size)(hs1:size≤1000000):
 Calls Tryz.prog 142 #[.agg #[.int .i64 o,.int .i64 l,.int .i64 m],sv dict,sv t,sv d,.int .i64 size] w fun e w'=>e=zZ (apD o l m dict t d size)∧Below w.heap.size w w':=by
 obtain⟨i,hi,hz0,hz1,hz2⟩:=info_parts xW;have cB:=fun w=>qh t w htl;unfold mM at cB;have cR:=fun w=>jM o l m dict size w hl;have cM:=fun w=>Zf d size w hd hs0 hs1;have HN:Hid ((zT t=none∨¬(fits o l m dict∧1≤size∧size≤64)∨(2000<d.length∨size*40<(d.length:Int)))→apD o l m dict t d size=none):=fun h=>by
  unfold apD nwO;by_cases hf:fits o l m dict
  ·rw[if_pos hf]
   rcases h with h|h|h
   ·rw[h];rfl
   ·rw[if_neg (fun h2=>h ⟨hf,h2.1,h2.2.1⟩)];cases zT t<;>rfl
   ·rw[if_neg (fun h2=>by omega)];cases zT t<;>rfl
  ·rw[if_neg hf]
 have HY:Hid (∀bs,zT t=some bs→(fits o l m dict∧1≤size∧size≤64)→¬(2000<d.length∨size*40<(d.length:Int))→apD o l m dict t d size=mcO (bs++mks (zt o l m dict) size.toNat d.length d)):=fun bs h1 h2 h3=>by
  unfold apD nwO;rw[if_pos h2.1,h1,if_pos ⟨h2.2.1,h2.2.2,by omega,by omega⟩];rfl
 obtain⟨R,hR⟩:∃R,apD o l m dict t d size=R:=⟨_,rfl⟩;rw[hR] at HN HY⊢;clear hR;go_enter Tryz.func142,Tryz.ntmps142;have hK0:Bk (w.alloc (.cells #[.int .i64 o,.int .i64 l,.int .i64 m] 39)) w.heap.size 39 #[.int .i64 o,.int .i64 l,.int .i64 m]:=tBk;have g0:Below w.heap.size w (w.alloc (.cells #[.int .i64 o,.int .i64 l,.int .i64 m] 39)):=zu;go_upto_region 1 with(fail)
 generalize w.alloc (.cells #[.int .i64 o,.int .i64 l,.int .i64 m] 39)=w0 at*;go_wp2_with fail;refine(cB _).mono ?_;rintro e w1 ⟨A1,c1,rfl,o1,b1⟩;have z0:=g0.size;have z1:=b1.size;have hk0:=hK0.lt;have hK1:=hK0.below b1 hk0;have g1:=g0.trans (b1.mono oo);have hX1:=hK1.cell;have hk1:=hK1.lt;clear hK0 g0 b1 cB
 cases hB:zT t with
 |none=>
  have h:=HN.out (.inl hB);subst h;simp only[hB,Option.elim_none,Option.isSome_none];go_wp2;exact bodyPost_ret (v:=.tuple #[sv [],.bool false]) (by simp [results,Tryz.results142,go_sem]) rfl ⟨rfl,g1⟩
 |some bs=>
  have hbok:=xU hB;have hb40:=(xN hB).2;rw[hB] at o1;simp only[hB,Option.elim_some,Option.isSome_some,Option.getD_some] at o1⊢;go_wp2_with fail;refine(cR _).mono ?_;rintro e w2 ⟨rfl,b2⟩;have z2:=b2.size;have hK2:=hK1.below b2 hk1;have g2:=g1.trans (b2.mono oo);have hX2:=hK2.cell;have o2:=zf o1 b2;clear hK1 g1 b2 cR hX1 o1;by_cases hr:fits o l m dict∧1≤size∧size≤64
  case neg=>
   have h:=HN.out (.inr (.inl hr));subst h;rw[decide_eq_false hr];clear hr;go_wp2;exact bodyPost_ret (v:=.tuple #[sv [],.bool false]) (by simp [results,Tryz.results142,go_sem]) rfl ⟨rfl,g2⟩
  rw[decide_eq_true hr];go_wp2_with fail;refine(cM _).mono ?_;rintro e w3 ⟨rfl,b3⟩;have z3:=b3.size;have hK3:=hK2.below b3 oo;have g3:=g2.trans (b3.mono oo);have hX3:=hK3.cell;have o3:=zf o2 b3;clear hK2 g2 b3 cM hX2 o2;by_cases hm:2000<d.length∨size*40<(d.length:Int)
  case pos=>
   have h:=HN.out (.inr (.inr hm));subst h;rw[decide_eq_true hm];clear hr hm;go_wp2;exact bodyPost_ret (v:=.tuple #[sv [],.bool false]) (by simp [results,Tryz.results142,go_sem]) rfl ⟨rfl,g3⟩
  rw[decide_eq_false hm];have h:=HY.out bs hB hr hm;obtain⟨n,rfl⟩:=Int.eq_ofNat_of_zero_le (by omega:0≤size);rw[Int.toNat_natCast] at h;have hk:=xC hr.1;have hl2:(mks (zt o l m dict) n d.length d).length≤40:=by
   unfold mks;rw[List.length_map];exact uS n (by omega) 40 _ d (by omega)
  have hok2:=pq hbok (Zu hk n d.length oo oo d);have cS:=fun w=>bG o l m dict d n w hr.1 oo oo oo;generalize mks (zt o l m dict) n d.length d=cs at*;have cE:Hid (∀A cap wr,Sl wr A (bs++cs).length cap 4 (zS (bs++cs))→Calls Tryz.prog 171 #[.slice A (bs++cs).length cap] wr fun e w'=>e=zZ (mcO (bs++cs))∧Below wr.heap.size wr w'):=fun A cap wr hs=>nO (bs++cs) A cap wr hs hok2 (by rw[List.length_append];omega);have hm1:bs.length+cs.length≤maxLen:=(by unfold maxLen;omega);have hm2:(bs.length+cs.length)*40≤140737488355328:=oo;have hl3:(bs++cs).length=bs.length+cs.length:=(by simp);have hbv:zS (bs++cs)=zS bs++zS cs:=(by unfold zS;rw[List.flatMap_append]);rw[hl3,hbv] at cE;have h1c:∀u ∈ zS cs,u.oneCell'=true:=Zv cs;rw[←h] at cE;clear hr hm hok2 hl3 hbv h HN HY hk hbok;go_wp2_with fail;refine(cS _).mono ?_;rintro e w4 ⟨A4,c4,rfl,o4,b4⟩;have z4:=b4.size;have g4:=g3.trans (b4.mono oo);have o5:=zf o3 b4;have s4:=Sl.own o4;clear hK3 g3 b4 cS hX3 o3 o4;go_wp2_with(at_builtin;go_must(refine zN _ rfl _ _ 133 rfl w0.heap.size 160 i _ 4 40 Tryz.underlying133 hi hz0 hz1 hz2 rfl oo _ _ _ rfl o5 _ cs.length c4 (zS cs) rfl s4 h1c hm1 hm2 ?_ ?_))
  ·omega
  intro A6 c6 w6 o6 hg6 _;have g6:=g4.grown hg6 oo (fun k hk=>by have:=(o5.lt k hk).1;omega);have s6:=Sl.own o6;have z6:=g6.size;clear o5 s4 o6 hg6 g4;go_wp2_with fail;refine(cE.out _ _ _ s6).mono ?_;rintro e w7 ⟨rfl,b7⟩;have g7:=g6.trans (b7.mono oo);unfold zZ;go_wp2;exact bodyPost_ret (v:=.tuple #[sv (R.getD []),.bool R.isSome]) (by simp [results,Tryz.results142,go_sem]) rfl ⟨rfl,g7⟩
end Go.Proofs.YtfppmajoidkooaaGreatDoor
