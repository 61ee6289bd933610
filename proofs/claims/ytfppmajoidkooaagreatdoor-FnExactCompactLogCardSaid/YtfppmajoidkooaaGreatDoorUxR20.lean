import Derived.Test.YtfppmajoidkooaaGreatDoorUGU4
import Derived.Test.YtfppmajoidkooaaGreatDoorUxGU4
import Derived.Test.YtfppmajoidkooaaGreatDoorUR1
import Derived.Test.YtfppmajoidkooaaGreatDoorUxGU1
import Derived.Test.YtfppmajoidkooaaGreatDoorUxR2
import Derived.Test.YtfppmajoidkooaaGreatDoorUxQ17
import Derived.Test.YtfppmajoidkooaaGreatDoorUEv
import Derived.Test.YtfppmajoidkooaaGreatDoorUxOpw
import Derived.Deep.Cut
set_option maxHeartbeats 8000000
namespace Go.Proofs.YtfppmajoidkooaaGreatDoor
open Go.RowKit
set_option linter.unusedVariables false
set_option linter.unusedSimpArgs false
set_option maxRecDepth 100000
attribute [local go_sem high] zy zA zB zO zK zY zx zk zl zq zi zo yP zD yt zF
theorem bld_cell1 {T e:TypeId}{B b:Nat}{bs:List Value}{w:World}(h:Go.Lib.IsBuilderF T e B b bs w):∃A c,w.cell? ⟨b,1,none⟩=some (.slice A bs.length c):=by
 have key:∀p,Go.Lib.BuilderAtF T e B b p bs w→∃A c,w.cell? ⟨b,1,none⟩=some (.slice A bs.length c):=by
  rintro p ⟨hB,v,hbk,⟨ho,ho2⟩,hne⟩;rcases ho2 with⟨rfl,h0⟩|⟨g,cap,cur,fz,rfl,_⟩
  ·refine⟨none,0,?_⟩
   rw[Go.Lib.cell_of_heap hbk];first|(simp [h0];done)|(rw[h0];rfl)
  ·refine⟨some ⟨g,0,none⟩,cap,?_⟩
   rw[Go.Lib.cell_of_heap hbk];rfl
 exact h.elim (key _) (key _)
theorem bld_len (B b:Nat)(bs:List Value)(w:World)(h:Go.Lib.IsBuilderF 91 5 B b bs w):
 Calls Tryz.prog 61 #[.pointer (some ⟨b,0,none⟩)] w fun e w'=>e= .returned (.int .i64 (bs.length:Int))∧w'=w:=by
 obtain⟨A,c,hc⟩:=bld_cell1 h;clear h;go_enter Tryz.func61,Tryz.ntmps61;go_wp2;go_ret;exact⟨rfl,rfl⟩
def cmK (S:Sto)(k:Nat):Bs:=(S.fs.take k).flatMap fun f=>vg (putX S f)
theorem cmK_step (S:Sto)(k:Nat)(h:k<S.fs.length):cmK S (k+1)=cmK S k++vg (putX S S.fs[k]):=by
 unfold cmK;rw[List.take_succ_eq_append_getElem h,List.flatMap_append];simp
theorem cmK_len (S:Sto):∀k,(cmK S k).length≤9004*k
 |0=>by simp [cmK]
 |k+1=>by
  by_cases h:k<S.fs.length
  ·rw[cmK_step S k h,List.length_append]
   have:=cmK_len S k;have:=(lh (putX S S.fs[k])).2;omega
  ·have:cmK S (k+1)=cmK S k:=by unfold cmK;rw[List.take_of_length_le (by omega),List.take_of_length_le (by omega)]
   rw[this];have:=cmK_len S k;omega
theorem cmK_all (S:Sto):cmK S S.fs.length=cmpX S:=by unfold cmK cmpX;rw[List.take_length]
theorem cmpB_no {S:Sto}(h:¬S.ok):cmpB S=none:=by unfold cmpB;rw[if_neg (fun h2=>h h2.1)]
theorem cmpB_yes {S:Sto}(h:S.ok):cmpB S=if(cmpX S).length≤30000 then some (cmpX S) else none:=by
 unfold cmpB;by_cases h2:(cmpX S).length≤30000
 ·rw[if_pos ⟨h,h2⟩,if_pos h2]
 ·rw[if_neg (fun h3=>h2 h3.2),if_neg h2]
theorem putX_recO {S:Sto}(hok:S.ok){k:Nat}(hk:k<S.fs.length):YZ ⟨0,0,0,64,S.fs[k].1,(cdB S.o S.l S.m S.dict S.fs[k].2).getD []⟩=some (vg (putX S S.fs[k])):=by
 have h:=putX_ok hok (List.getElem_mem hk);have e:YZ (putX S S.fs[k])=some (vg (putX S S.fs[k])):=(by unfold YZ;rw[if_pos h]);exact e
theorem iCompactLog_any (S:Sto)(A:Option Addr)(cap:Nat)(w:World)(hev:Et w)(hs:Sl w A S.fs.length cap 2 (yf S.fs))(hd:S.dict.length≤1500000)(hl:S.fs.length≤1500000)(hb:∀f ∈ S.fs,f.1.length≤1500000∧f.2.length≤1500000):
 Calls Tryz.prog 19 #[S.V A cap] w fun e w'=>e=xY (cmpB S)∧Below w.heap.size w w':=by
 have hcap:=hs.1;have hcap2:=hs.2.1;have HEV:Go.RowKit.Hid (∀wr,Below w.heap.size w wr→Et wr):=fun wr h=>hev.on h;have cV:Go.RowKit.Hid (∀w,Sl w A S.fs.length cap 2 (yf S.fs)→Calls Tryz.prog 39 #[S.V A cap] w fun e w'=>e= .returned (.bool S.okB)∧Below w.heap.size w w'):=fun w h=>storeValid_any S A cap w h hd hl hb;have HSL:Go.RowKit.Hid (∀wr,Below w.heap.size w wr→Sl wr A S.fs.length cap 2 (yf S.fs)):=fun wr h=>hs.below h;have HB:=Go.Lib.hid hb;clear hs hb hev;by_cases hok:S.ok
 case neg=>
  rw[show S.okB=false from Sto.SB hok] at cV;rw[cmpB_no hok];clear hok;obtain⟨o,l,m,dict,fs⟩:=S;simp only at*;go_enter Tryz.func19,Tryz.ntmps19;have hK0:=Bk.new w #[.int .i64 o,.int .i64 l,.int .i64 m,.string ⟨dict.toArray⟩,.slice A fs.length cap] 42;have g0:Below w.heap.size w (w.alloc (.cells #[.int .i64 o,.int .i64 l,.int .i64 m,.string ⟨dict.toArray⟩,.slice A fs.length cap] 42)):=zu;go_upto_region 1 with(fail)
  generalize w.alloc (.cells #[.int .i64 o,.int .i64 l,.int .i64 m,.string ⟨dict.toArray⟩,.slice A fs.length cap] 42)=w0 at*;have hX0:=hK0.cell;have hz0:=hK0.lt;go_wp2_with fail;refine(cV.out _ (HSL.out _ g0)).mono ?_;rintro e w1 ⟨rfl,hb1⟩;have g1:=g0.trans (hb1.mono (by omega));clear hb1 hK0 g0 hX0 cV;go_wp2;exact bodyPost_ret (v:=.tuple #[sv [],.bool false]) (by simp [results,Tryz.results19,go_sem]) rfl ⟨rfl,g1⟩
 rw[show S.okB=true from(Sto.Vt S).2 hok] at cV;have h6:=hok.2.1;have HR:=Go.Lib.hid (cmpB_yes hok);have HST:=Go.Lib.hid (cmK_step S);have HLN:=Go.Lib.hid (cmK_len S);have HAL:=Go.Lib.hid (cmK_all S);have HRL:Go.RowKit.Hid (∀(k:Nat) (hk:k<S.fs.length),(vg (putX S S.fs[k])).length≤9004):=fun k hk=>(lh _).2;have cC:Go.RowKit.Hid (∀t w,t.length≤1500000→Calls Tryz.prog 59 #[.agg #[.int .i64 S.o,.int .i64 S.l,.int .i64 S.m],sv S.dict,sv t] w fun e w'=>e=xY (cdB S.o S.l S.m S.dict t)∧Below w.heap.size w w'):=fun t w h=>containerData_any S.o S.l S.m S.dict t w (by omega) h;have HDL:Go.RowKit.Hid (∀t,((cdB S.o S.l S.m S.dict t).getD []).length≤2000):=fun t=>by
  cases h:cdB S.o S.l S.m S.dict t with
  |none=>simp
  |some y=>exact cdB_len h
 have HPR:Go.RowKit.Hid (∀(k:Nat) (hk:k<S.fs.length),YZ ⟨0,0,0,64,S.fs[k].1,(cdB S.o S.l S.m S.dict S.fs[k].2).getD []⟩=some (vg (putX S S.fs[k]))):=fun k hk=>putX_recO hok hk;clear hok;generalize cmpB S=R at*;generalize cmpX S=CX at*;generalize putX S=px at*;generalize hcm:cmK S=cm at*;have hc0:cm 0=[]:=(by rw[←hcm];rfl);clear hcm;obtain⟨o,l,m,dict,fs⟩:=S;simp only at*;generalize cdB o l m dict=cd at*;go_enter Tryz.func19,Tryz.ntmps19;have hK0:=Bk.new w #[.int .i64 o,.int .i64 l,.int .i64 m,.string ⟨dict.toArray⟩,.slice A fs.length cap] 42;have g0:Below w.heap.size w (w.alloc (.cells #[.int .i64 o,.int .i64 l,.int .i64 m,.string ⟨dict.toArray⟩,.slice A fs.length cap] 42)):=zu;go_upto_region 1 with(fail)
 generalize w.alloc (.cells #[.int .i64 o,.int .i64 l,.int .i64 m,.string ⟨dict.toArray⟩,.slice A fs.length cap] 42)=w0 at*;have hX0:=hK0.cell;have hz0:=hK0.lt;go_wp2_with fail;refine(cV.out _ (HSL.out _ g0)).mono ?_;rintro e w1 ⟨rfl,hb1⟩;have hz1:=hb1.size;have hK1:=hK0.below hb1 hz0;have g1:=g0.trans (hb1.mono (by omega));clear hb1 hK0 g0 hX0 cV;have hl1:=hK1.lt;have B1:=NZ (w:=w1) (B:=w1.heap.size) (Nat.le_refl _);have b1:Below w1.heap.size w1 (w1.alloc (.cells #[.pointer none,.slice none 0 0] 91)):=zu;have HKB:Go.RowKit.Hid (∀wr,Below w1.heap.size w1 wr→Sl wr A fs.length cap 2 (yf fs)∧Bk wr w.heap.size 42 #[.int .i64 o,.int .i64 l,.int .i64 m,.string ⟨dict.toArray⟩,.slice A fs.length cap]∧Et wr∧Below w.heap.size w wr):=fun wr h=>⟨HSL.out wr (g1.trans (h.mono (by omega))),hK1.below h hl1,HEV.out wr (g1.trans (h.mono (by omega))),g1.trans (h.mono (by omega))⟩;have hX1:=(hK1.alloc (.cells #[.pointer none,.slice none 0 0] 91)).cell;clear hK1 g1;have hsz:w1.heap.size≤(w1.alloc (.cells #[.pointer none,.slice none 0 0] 91)).heap.size:=(by simp);obtain⟨bb,hbb⟩:∃bb,w1.heap.size=bb:=⟨_,rfl⟩;rw[hbb] at B1 b1 HKB hl1 hsz;go_wp2;go_loopw [17] (fun i wr=>∃k:Nat,i= .int .i64 (k:Int)∧k≤fs.length∧Go.Lib.IsBuilderF 91 5 bb bb ((cm k).map u8v) wr∧Below bb w1 wr) (fun i _=>fs.length - (intOf i).toNat)
 case atStart=>exact⟨0,rfl,by omega,by rw[hc0];exact B1,b1⟩
 case round=>
  obtain⟨k,rfl,hk,hB,hb⟩:=hrel;clear B1 b1 hsz hX1;have hz:=hb.size;rw[hbb] at hz;obtain⟨hsl,hBk,hev,hgw⟩:=HKB.out wr hb;have hcl:=HLN.out k;by_cases hlt:k<fs.length
  ·have hki:(k:Int)<fs.length:=by omega
   obtain⟨g,off,rfl,hg,c0,c1⟩:=hsl.fl hlt;have hbk:=HB.out fs[k] (List.getElem_mem hlt);have hrl:=HRL.out k hlt;have hpr:=HPR.out k hlt;have hst:=HST.out k hlt;have hdl:=HDL.out fs[k].2;have cD:=fun w=>cC.out fs[k].2 w (by omega);clear hsl;generalize vg (px fs[k])=rc at*;generalize fs[k].1=nm at*;generalize fs[k].2=tx at*;generalize cd tx=D at*;unfold xY at cD;generalize D.getD []=dd at*;generalize D.isSome=db at*;have HST2:=Go.Lib.hid hst;have HPR2:=Go.Lib.hid hpr;clear hst hpr;have cL:∀wr,Et wr→Calls Tryz.prog 15 #[.agg #[.int .i64 0,.string ⟨nm.toArray⟩,.int .i64 0,.int .i64 0,.int .i64 64,.string ⟨dd.toArray⟩]] wr fun e w'=>e= .returned (.tuple #[sv rc,.bool true])∧Below wr.heap.size wr w':=fun wr h=>by
    have:=WH ⟨0,0,0,64,nm,dd⟩ wr h (by show nm.length≤_;omega) (by show dd.length≤_;omega);rw[HPR2.out] at this;exact this
   have hB1:=Xt hB ((Below.refl _ wr).alloc (Nat.le_refl _) (.cells #[.string ⟨nm.toArray⟩,.string ⟨tx.toArray⟩] 87));have hN1:=Bk.new wr #[.string ⟨nm.toArray⟩,.string ⟨tx.toArray⟩] 87;have g1:=hb.alloc (by omega) (.cells #[.string ⟨nm.toArray⟩,.string ⟨tx.toArray⟩] 87);have hX:=hBk.cell;clear hB;go_upto_region 7 with(fail)
   generalize wr.alloc (.cells #[.string ⟨nm.toArray⟩,.string ⟨tx.toArray⟩] 87)=W at*;have hX1:=(HKB.out _ g1).2.1.cell;have hY1:=hN1.cell;have hlN:=hN1.lt;clear c0 c1 hX hBk hev;go_wp2_with fail;refine(cD _).mono ?_;rintro e w2 ⟨rfl,hb2⟩;have z2:=hb2.size;have hB2:=Xt hB1 hb2;have g2:=g1.trans (hb2.mono (by have:=g1.size;omega));have hN2:=hN1.below hb2 hlN;have hY2:=hN2.cell;have hev2:=(HKB.out _ g2).2.2.1;clear cD hb2 hB1 hN1 g1 hX1 hY1;go_wp2_with fail;refine(cL _ hev2).mono ?_;rintro e w3 ⟨rfl,hb3⟩;have hB3:=Xt hB2 hb3;have g3:=g2.trans (hb3.mono (by have:=g2.size;omega));clear hb3 hB2 g2 hN2 hY2 hev2 cL;have cW:=PS bb bb ((cm k).map u8v) rc _ hB3 (by simp;omega) (by have:=g3.size;omega);go_wp2_with fail;refine cW.mono ?_;rintro e w4 ⟨rfl,hB4,b4,k4⟩;have g4:=g3.trans b4;have hB5:Go.Lib.IsBuilderF 91 5 bb bb ((cm (k+1)).map u8v) w4:=(by rw[HST2.out,List.map_append];exact .inr hB4);have HB5:=Go.Lib.hid hB5;clear cW hB4 b4 k4 hB3 g3 hB5;go_wp2;go_roundw
   case rel=>exact⟨k+1,by go_num,by omega,HB5.out,g4⟩
   case measure=>simp [intOf];omega
  ·have hki:¬(k:Int)<fs.length:=by omega
   have hke:k=fs.length:=(by omega);have hcx:cm k=CX:=(by rw[hke];exact HAL.out);rw[hcx] at hB hcl;have cN:=bld_len bb bb (CX.map u8v) wr hB;rw[List.length_map] at cN;have cS:=Tryz.Builder_String_any_k bb bb CX wr (by unfold Go.Lib.byteCells;exact hB) (by omega);have hR:=HR.out;clear HR HAL hcx hsl;go_wp2_with fail;refine cN.mono ?_;rintro e w3 ⟨rfl,rfl⟩;by_cases h3:CX.length≤30000
   ·rw[if_pos h3] at hR
    subst hR;have h3i:¬(30000:Int)<CX.length:=(by omega);clear cN;go_wp2_with fail;refine cS.mono ?_;rintro e w4 ⟨rfl,_,b4,_⟩;have gw:=(HKB.out _ (hb.trans b4)).2.2.2;clear cS b4 hb hB;go_wp2;exact bodyPost_ret (v:=.tuple #[sv CX,.bool true]) (by simp [results,Tryz.results19,go_sem]) rfl ⟨rfl,gw⟩
   ·rw[if_neg h3] at hR
    subst hR;have h3i:(30000:Int)<CX.length:=(by omega);clear cN cS;go_wp2;exact bodyPost_ret (v:=.tuple #[sv [],.bool false]) (by simp [results,Tryz.results19,go_sem]) rfl ⟨rfl,hgw⟩
theorem sPut_any (o l m:Int)(dict:Bs)(n:Nat)(A:Option Addr)(cap:Nat)(nm tx:Bs)(w:World)(hdl:dict.length≤9223372036854775807)(htl:tx.length≤1500000):
 Calls Tryz.prog 57 #[.agg #[.int .i64 o,.int .i64 l,.int .i64 m,.string ⟨dict.toArray⟩,.slice A n cap],.agg #[.string ⟨nm.toArray⟩,.string ⟨tx.toArray⟩]] w fun e w'=>e= .returned (.agg #[.int .i64 0,.string ⟨nm.toArray⟩,.int .i64 0,.int .i64 0,.int .i64 64,.string ⟨((cdB o l m dict tx).getD []).toArray⟩])∧Below w.heap.size w w':=by
 have cD:=fun w=>qX o l m dict tx w hdl htl;unfold xY at cD;generalize(cdB o l m dict tx).getD []=dd at*;generalize(cdB o l m dict tx).isSome=db at*;go_enter Tryz.func57,Tryz.ntmps57;have hA:Bk (((w.alloc (.cells #[.int .i64 o,.int .i64 l,.int .i64 m,.string ⟨dict.toArray⟩,.slice A n cap] 42)).alloc (.cells #[.string ⟨nm.toArray⟩,.string ⟨tx.toArray⟩] 87)).alloc (.cells opZ.cells 26)) w.heap.size 42 #[.int .i64 o,.int .i64 l,.int .i64 m,.string ⟨dict.toArray⟩,.slice A n cap]:=tBk;have hF:Bk (((w.alloc (.cells #[.int .i64 o,.int .i64 l,.int .i64 m,.string ⟨dict.toArray⟩,.slice A n cap] 42)).alloc (.cells #[.string ⟨nm.toArray⟩,.string ⟨tx.toArray⟩] 87)).alloc (.cells opZ.cells 26)) (w.heap.size+1) 87 #[.string ⟨nm.toArray⟩,.string ⟨tx.toArray⟩]:=tBk;have hO:Bk (((w.alloc (.cells #[.int .i64 o,.int .i64 l,.int .i64 m,.string ⟨dict.toArray⟩,.slice A n cap] 42)).alloc (.cells #[.string ⟨nm.toArray⟩,.string ⟨tx.toArray⟩] 87)).alloc (.cells opZ.cells 26)) (w.heap.size+1+1) 26 opZ.cells:=tBk;have g0:Below w.heap.size w (((w.alloc (.cells #[.int .i64 o,.int .i64 l,.int .i64 m,.string ⟨dict.toArray⟩,.slice A n cap] 42)).alloc (.cells #[.string ⟨nm.toArray⟩,.string ⟨tx.toArray⟩] 87)).alloc (.cells opZ.cells 26)):=zu;simp only[opZ,OpR.cells] at hA hF hO g0;go_upto_region 1 with(fail)
 generalize(((w.alloc (.cells #[.int .i64 o,.int .i64 l,.int .i64 m,.string ⟨dict.toArray⟩,.slice A n cap] 42)).alloc (.cells #[.string ⟨nm.toArray⟩,.string ⟨tx.toArray⟩] 87)).alloc (.cells #[.int .i64 0,.string ⟨[].toArray⟩,.int .i64 0,.int .i64 0,.int .i64 0,.string ⟨[].toArray⟩] 26))=w0 at*;have la:=hA.lt;have lf:=hF.lt;have lo:=hO.lt;have hXA:=hA.cell;have hXF:=hF.cell;go_wp2_with fail;refine(cD _).mono ?_;rintro e w1 ⟨rfl,b1⟩;have z1:=b1.size;have hF1:=hF.below b1 lf;have hO1:=hO.below b1 lo;have g1:=g0.trans (b1.mono (by omega));have hXF1:=hF1.cell;have hXO1:=hO1.cell;have hFO1:=hO1.free;clear hA hF hO hXA hXF b1 g0 cD;go_wp2;have Q:=(op_put hO1 ⟨0,0,0,64,nm,dd⟩).cell;have gg:=op_below g1 (b:=w.heap.size+1+1) (by omega) ⟨0,0,0,64,nm,dd⟩;simp only[OpR.cells] at Q;exact bodyPost_ret (v:=.agg #[.int .i64 0,.string ⟨nm.toArray⟩,.int .i64 0,.int .i64 0,.int .i64 64,.string ⟨dd.toArray⟩]) (by simp [results,Tryz.results57,go_sem,Q]) rfl ⟨rfl,gg⟩
theorem sCompactLog_any (S:Sto)(A:Option Addr)(cap:Nat)(w:World)(hs:Sl w A S.fs.length cap 2 (yf S.fs))(hd:S.dict.length≤1500000)(hl:S.fs.length≤1500000)(hb:∀f ∈ S.fs,f.1.length≤1500000∧f.2.length≤1500000):
 Calls Tryz.prog 17 #[S.V A cap] w fun e w'=>e=xY (cmpB S)∧Below w.heap.size w w':=by
 have hcap:=hs.1;have hcap2:=hs.2.1;have cV:Go.RowKit.Hid (∀w,Sl w A S.fs.length cap 2 (yf S.fs)→Calls Tryz.prog 55 #[S.V A cap] w fun e w'=>e= .returned (.bool S.okB)∧Below w.heap.size w w'):=fun w h=>ai S A cap w h hd hl hb;have HSL:Go.RowKit.Hid (∀wr,Below w.heap.size w wr→Sl wr A S.fs.length cap 2 (yf S.fs)):=fun wr h=>hs.below h;have HB:=Go.Lib.hid hb;clear hs hb;by_cases hok:S.ok
 case neg=>
  rw[show S.okB=false from Sto.SB hok] at cV;rw[cmpB_no hok];clear hok;obtain⟨o,l,m,dict,fs⟩:=S;simp only at*;go_enter Tryz.func17,Tryz.ntmps17;have hK0:=Bk.new w #[.int .i64 o,.int .i64 l,.int .i64 m,.string ⟨dict.toArray⟩,.slice A fs.length cap] 42;have g0:Below w.heap.size w (w.alloc (.cells #[.int .i64 o,.int .i64 l,.int .i64 m,.string ⟨dict.toArray⟩,.slice A fs.length cap] 42)):=zu;go_upto_region 1 with(fail)
  generalize w.alloc (.cells #[.int .i64 o,.int .i64 l,.int .i64 m,.string ⟨dict.toArray⟩,.slice A fs.length cap] 42)=w0 at*;have hX0:=hK0.cell;have hz0:=hK0.lt;go_wp2_with fail;refine(cV.out _ (HSL.out _ g0)).mono ?_;rintro e w1 ⟨rfl,hb1⟩;have g1:=g0.trans (hb1.mono (by omega));clear hb1 hK0 g0 hX0 cV;go_wp2;exact bodyPost_ret (v:=.tuple #[sv [],.bool false]) (by simp [results,Tryz.results17,go_sem]) rfl ⟨rfl,g1⟩
 rw[show S.okB=true from(Sto.Vt S).2 hok] at cV;have h6:=hok.2.1;have HR:=Go.Lib.hid (cmpB_yes hok);have HST:=Go.Lib.hid (cmK_step S);have HLN:=Go.Lib.hid (cmK_len S);have HAL:=Go.Lib.hid (cmK_all S);have HRL:Go.RowKit.Hid (∀(k:Nat) (hk:k<S.fs.length),(vg (putX S S.fs[k])).length≤9004∧vg (putX S S.fs[k])=uu (yU 0 S.fs[k].1 0 0 64 ((cdB S.o S.l S.m S.dict S.fs[k].2).getD []))):=fun k hk=>⟨(lh _).2,rfl⟩;have cC:Go.RowKit.Hid (∀(n:Nat) (A:Option Addr) (cap:Nat) (nm tx:Bs) (w:World),tx.length≤1500000→Calls Tryz.prog 57 #[.agg #[.int .i64 S.o,.int .i64 S.l,.int .i64 S.m,.string ⟨S.dict.toArray⟩,.slice A n cap],.agg #[.string ⟨nm.toArray⟩,.string ⟨tx.toArray⟩]] w fun e w'=>e= .returned (.agg #[.int .i64 0,.string ⟨nm.toArray⟩,.int .i64 0,.int .i64 0,.int .i64 64,.string ⟨((cdB S.o S.l S.m S.dict tx).getD []).toArray⟩])∧Below w.heap.size w w'):=fun n A cap nm tx w h=>sPut_any S.o S.l S.m S.dict n A cap nm tx w (by omega) h;have HDL:Go.RowKit.Hid (∀t,((cdB S.o S.l S.m S.dict t).getD []).length≤2000):=fun t=>by
  cases h:cdB S.o S.l S.m S.dict t with
  |none=>simp
  |some y=>exact cdB_len h
 clear hok;generalize cmpB S=R at*;generalize cmpX S=CX at*;generalize putX S=px at*;generalize hcm:cmK S=cm at*;have hc0:cm 0=[]:=(by rw[←hcm];rfl);clear hcm;obtain⟨o,l,m,dict,fs⟩:=S;simp only at*;generalize cdB o l m dict=cd at*;go_enter Tryz.func17,Tryz.ntmps17;have hK0:=Bk.new w #[.int .i64 o,.int .i64 l,.int .i64 m,.string ⟨dict.toArray⟩,.slice A fs.length cap] 42;have g0:Below w.heap.size w (w.alloc (.cells #[.int .i64 o,.int .i64 l,.int .i64 m,.string ⟨dict.toArray⟩,.slice A fs.length cap] 42)):=zu;go_upto_region 1 with(fail)
 generalize w.alloc (.cells #[.int .i64 o,.int .i64 l,.int .i64 m,.string ⟨dict.toArray⟩,.slice A fs.length cap] 42)=w0 at*;have hX0:=hK0.cell;have hz0:=hK0.lt;go_wp2_with fail;refine(cV.out _ (HSL.out _ g0)).mono ?_;rintro e w1 ⟨rfl,hb1⟩;have hz1:=hb1.size;have hK1:=hK0.below hb1 hz0;have g1:=g0.trans (hb1.mono (by omega));clear hb1 hK0 g0 hX0 cV;have hl1:=hK1.lt;have HKB:Go.RowKit.Hid (∀wr,Below w1.heap.size w1 wr→Sl wr A fs.length cap 2 (yf fs)∧Bk wr w.heap.size 42 #[.int .i64 o,.int .i64 l,.int .i64 m,.string ⟨dict.toArray⟩,.slice A fs.length cap]∧Below w.heap.size w wr):=fun wr h=>⟨HSL.out wr (g1.trans (h.mono (by omega))),hK1.below h hl1,g1.trans (h.mono (by omega))⟩;clear hK1 g1;go_wp2;go_loopw [4,5] (fun x i wr=>∃k:Nat,x=sv (cm k)∧i= .int .i64 (k:Int)∧k≤fs.length∧Below w1.heap.size w1 wr) (fun _ i _=>fs.length - (intOf i).toNat)
 case atStart=>exact⟨0,by rw[hc0],rfl,by omega,Below.refl _ _⟩
 case round=>
  obtain⟨k,rfl,rfl,hk,hb⟩:=hrel;have hz:=hb.size;obtain⟨hsl,hBk,hgw⟩:=HKB.out wr hb;have hcl:=HLN.out k;have hX:=hBk.cell;by_cases hlt:k<fs.length
  ·have hki:(k:Int)<fs.length:=by omega
   obtain⟨g,off,hA1,hg,c0,c1⟩:=hsl.fl hlt;have hbk:=HB.out fs[k] (List.getElem_mem hlt);have HEL:Go.RowKit.Hid (∀W,Below w1.heap.size w1 W→W.cell? ⟨g,off+k*2,none⟩=some (.string ⟨fs[k].1.toArray⟩)∧W.cell? ⟨g,off+k*2+1,none⟩=some (.string ⟨fs[k].2.toArray⟩)):=fun W h=>by
    obtain⟨g',off',e,_,c,c'⟩:=(HKB.out W h).1.fl hlt;rw[hA1] at e;injection e with e;injection e with e1 e2;subst e1 e2;exact⟨c,c'⟩
   obtain⟨hrl,hre⟩:=HRL.out k hlt;have hst:=HST.out k hlt;have hdl:=HDL.out fs[k].2;have cP:=fun w=>cC.out fs.length A cap fs[k].1 fs[k].2 w (by omega);rw[hre] at hst hrl;clear hsl hre;subst hA1;generalize fs[k].1=nm at*;generalize fs[k].2=tx at*;generalize(cd tx).getD []=dd at*;have cF:=fun w=>uO 0 0 0 64 nm dd w (by omega) (by omega);have hfl:=Xw 0 nm 0 0 64 dd;generalize yU 0 nm 0 0 64 dd=ft at*;have cR:=fun w=>iM ft w (by omega);generalize uu ft=rc at*;have HST2:=Go.Lib.hid hst;have hq:¬9223372036854775807<(cm k).length+rc.length:=(by omega);clear hst;go_upto_region 7 with(fail)
   refine wp_region_held_drew (S:=(fun w'=>w'.cell? ⟨w.heap.size,0,none⟩=some (.int .i64 o)∧w'.cell? ⟨w.heap.size,1,none⟩=some (.int .i64 l)∧w'.cell? ⟨w.heap.size,2,none⟩=some (.int .i64 m)∧w'.cell? ⟨w.heap.size,3,none⟩=some (.string ⟨dict.toArray⟩)∧w'.cell? ⟨w.heap.size,4,none⟩=some (.slice (some ⟨g,off,none⟩) fs.length cap)∧w'.cell? ⟨g,off+k*2,none⟩=some (.string ⟨nm.toArray⟩)∧w'.cell? ⟨g,off+k*2+1,none⟩=some (.string ⟨tx.toArray⟩))) (by kernel_rfl) ?_ (fun hSS=> ?_);focus(exact⟨hX 0,hX 1,hX 2,hX 3,hX 4,c0,c1⟩)
   refine tk 0 ?_;try simp only[Act.put,u2,u3,u4]
   refine tk 1 ?_;try simp only[Act.put,u2,u3,u4]
   refine tk 2 ?_;try simp only[Act.put,u2,u3,u4]
   refine tk 3 ?_;try simp only[Act.put,u2,u3,u4]
   refine tk 4 ?_;try simp only[Act.put,u2,u3,u4]
   refine tk 5 ?_;try simp only[Act.put,u2,u3,u4]
   refine tk 6 ?_;try simp only[Act.put,u2,u3,u4]
   refine rd1 7 fun KK hKK=> ?_;go_simp
   (go_at_call 57;refine(cP _).mono ?_;rintro e w7 ⟨rfl,b7⟩;have B7:=hb.trans ((zG b7).mono hz);have X7:=(HKB.out _ B7).2.1.cell;have E7:=HEL.out _ B7)
   refine hKK.out _ _ (by exact⟨X7 0,X7 1,X7 2,X7 3,X7 4,E7.1,E7.2⟩) fun hSS=> ?_;try simp only[Act.put,u2,u3,u4]
   refine rd1 8 fun KK hKK=> ?_;go_simp
   (go_at_call 56;refine(cF _).mono ?_;rintro e w8 ⟨rfl,b8⟩;have B8:=B7.trans (b8.mono B7.size);have X8:=(HKB.out _ B8).2.1.cell;have E8:=HEL.out _ B8)
   refine hKK.out _ _ (by exact⟨X8 0,X8 1,X8 2,X8 3,X8 4,E8.1,E8.2⟩) fun hSS=> ?_;try simp only[Act.put,u2,u3,u4]
   refine rd1 9 fun KK hKK=> ?_;go_simp
   (go_at_call 50;refine(cR _).mono ?_;rintro e w9 ⟨rfl,b9⟩;have B9:=B8.trans (b9.mono B8.size);have X9:=(HKB.out _ B9).2.1.cell;have E9:=HEL.out _ B9)
   refine hKK.out _ _ (by exact⟨X9 0,X9 1,X9 2,X9 3,X9 4,E9.1,E9.2⟩) fun hSS=> ?_;try simp only[Act.put,u2,u3,u4]
   refine tk 10 ?_;try simp only[Act.put,u2,u3,u4]
   refine tk 11 ?_;try simp only[Act.put,u2,u3,u4]
   refine wpAnyH_done (by kernel_rfl) ?_ _;clear b7 b8 b9 X7 X8 X9 E7 E8 E9 hX c0 c1;go_wp2;go_roundw
   case rel=>exact⟨k+1,by rw[HST2.out],by go_num,by omega,B9⟩
   case measure=>simp [intOf];omega
  ·have hki:¬(k:Int)<fs.length:=by omega
   have hke:k=fs.length:=(by omega);have hcx:cm k=CX:=(by rw[hke];exact HAL.out);rw[hcx] at hcl⊢;have hR:=HR.out;clear HR HAL hcx hsl;by_cases h3:CX.length≤30000
   ·rw[if_pos h3] at hR
    subst hR;have h3i:¬(30000:Int)<CX.length:=(by omega);go_wp2;exact bodyPost_ret (v:=.tuple #[sv CX,.bool true]) (by simp [results,Tryz.results17,go_sem]) rfl ⟨rfl,hgw⟩
   ·rw[if_neg h3] at hR
    subst hR;have h3i:(30000:Int)<CX.length:=(by omega);go_wp2;exact bodyPost_ret (v:=.tuple #[sv [],.bool false]) (by simp [results,Tryz.results17,go_sem]) rfl ⟨rfl,hgw⟩
end Go.Proofs.YtfppmajoidkooaaGreatDoor
