import Derived.Test.YtfppmajoidkooaaGreatDoorUGU4
import Derived.Test.YtfppmajoidkooaaGreatDoorUGU1
import Derived.Test.YtfppmajoidkooaaGreatDoorUxGU1
import Derived.Test.YtfppmajoidkooaaGreatDoorUxR2
import Derived.Test.YtfppmajoidkooaaGreatDoorUR1
import Derived.Test.YtfppmajoidkooaaGreatDoorUGW
import Derived.Deep.Cut
set_option maxHeartbeats 8000000
namespace Go.Proofs.YtfppmajoidkooaaGreatDoor
open Go.RowKit
set_option linter.unusedVariables false
set_option linter.unusedSimpArgs false
set_option maxRecDepth 100000
attribute [local go_sem high] zy zA zB zO zK zY zx zk zl zq zi zo yP zD yt zF
attribute [local go_sem high] rO rM
theorem storeValid_any (S:Sto)(A:Option Addr)(cap:Nat)(w:World)(hs:Sl w A S.fs.length cap 2 (yf S.fs))(hd:S.dict.length≤1500000)(hl:S.fs.length≤1500000)(hb:∀f ∈ S.fs,f.1.length≤1500000∧f.2.length≤1500000):
 Calls Tryz.prog 39 #[S.V A cap] w fun e w'=>e= .returned (.bool S.okB)∧Below w.heap.size w w':=by
 have hcap:=hs.1;have hcap2:=hs.2.1;have HSL:Go.RowKit.Hid (∀wr,Below w.heap.size w wr→Sl wr A S.fs.length cap 2 (yf S.fs)):=fun wr h=>hs.below h;have HB:=Go.Lib.hid hb;clear hs hb;have cF:=fun w=>tY S.o S.l S.m S.dict w (by omega);have HNF:Go.RowKit.Hid (¬fits S.o S.l S.m S.dict→S.okB=false):=Sto.OL;have HNL:Go.RowKit.Hid (¬S.fs.length≤6→S.okB=false):=Sto.LU;have HNB:Go.RowKit.Hid (∀(k:Nat) (hk:k<S.fs.length),¬(um S.fs[k].1=true∧(cdB S.o S.l S.m S.dict S.fs[k].2).isSome=true∧(k=0∨Op.bytesLess (bP S.fs k) S.fs[k].1=true))→S.okB=false):=fun k hk h=>Sto.MN (hk:=hk) fun h2=>h ((Sto.VC hk).1 h2);have HYF:Go.RowKit.Hid (∀(k:Nat) (hk:k<S.fs.length),(um S.fs[k].1=true∧(cdB S.o S.l S.m S.dict S.fs[k].2).isSome=true∧(k=0∨Op.bytesLess (bP S.fs k) S.fs[k].1=true))→S.fine k hk):=fun k hk h=>(Sto.VC hk).2 h;have HST:Go.RowKit.Hid (∀(k:Nat) (hk:k<S.fs.length),(∀(i:Nat) (h:i<S.fs.length),i<k→S.fine i h)→S.fine k hk→∀(i:Nat) (h:i<S.fs.length),i<k+1→S.fine i h):=fun k hk hA h=>Sto.Xc hA hk h;have HY:Go.RowKit.Hid (fits S.o S.l S.m S.dict→S.fs.length≤6→(∀(i:Nat) (hi:i<S.fs.length),i<S.fs.length→S.fine i hi)→S.okB=true):=fun h h2 h3=>Sto.MV h h2 h3;generalize S.okB=R at*;generalize Sto.fine S=P at*;obtain⟨o,l,m,dict,fs⟩:=S;simp only at*;go_enter Tryz.func39,Tryz.ntmps39;have hK0:Bk (w.alloc (.cells #[.int .i64 o,.int .i64 l,.int .i64 m,.string ⟨dict.toArray⟩,.slice A fs.length cap] 42)) w.heap.size 42 #[.int .i64 o,.int .i64 l,.int .i64 m,.string ⟨dict.toArray⟩,.slice A fs.length cap]:=tBk;have g0:Below w.heap.size w (w.alloc (.cells #[.int .i64 o,.int .i64 l,.int .i64 m,.string ⟨dict.toArray⟩,.slice A fs.length cap] 42)):=zu;go_upto_region 1 with(fail)
 generalize w.alloc (.cells #[.int .i64 o,.int .i64 l,.int .i64 m,.string ⟨dict.toArray⟩,.slice A fs.length cap] 42)=w0 at*;have hX0:=hK0.cell;have hz0:=hK0.lt;by_cases hf:fits o l m dict
 case neg=>
  rw[show decide (fits o l m dict)=false by simpa using hf] at cF;have h:=HNF.out hf;subst h;clear HNB HYF HST HY HNL;go_wp2_with fail;refine(cF _).mono ?_;rintro e w1 ⟨rfl,hb1⟩;have g1:=g0.trans (hb1.mono (by omega));clear hb1;go_wp2;go_ret;exact⟨rfl,g1⟩
 rw[show decide (fits o l m dict)=true by simpa using hf] at cF;go_wp2_with fail;refine(cF _).mono ?_;rintro e w1 ⟨rfl,hb1⟩;have hz1:=hb1.size;have hK1:=hK0.below hb1 hz0;have g1:=g0.trans (hb1.mono (by omega));have hX1:=hK1.cell;clear hb1 hK0 g0 hX0 cF;by_cases h6:fs.length≤6
 case neg=>
  have h:=HNL.out h6;subst h;have h6i:(6:Int)<fs.length:=(by omega);clear HNB HYF HST HY HNF;go_wp2;go_ret;exact⟨rfl,g1⟩
 have h6i:¬(6:Int)<fs.length:=(by omega);have HY2:=Go.Lib.hid (HY.out hf h6);have cC:Go.RowKit.Hid (∀t w,t.length≤1500000→Calls Tryz.prog 59 #[.agg #[.int .i64 o,.int .i64 l,.int .i64 m],sv dict,sv t] w fun e w'=>e=xY (cdB o l m dict t)∧Below w.heap.size w w'):=fun t w h=>containerData_any o l m dict t w (by omega) h;clear HY HNF HNL hf;go_wp2;go_loopw [22] (fun i wr=>∃k:Nat,i= .int .i64 (k:Int)∧k≤fs.length∧Go.RowKit.Hid (∀(i:Nat) (h:i<fs.length),i<k→P i h)∧Bk wr w.heap.size 42 #[.int .i64 o,.int .i64 l,.int .i64 m,.string ⟨dict.toArray⟩,.slice A fs.length cap]∧Below w.heap.size w wr) (fun i _=>fs.length - (intOf i).toNat)
 case atStart=>exact⟨0,rfl,by omega,fun i h hi=>by omega,hK1,g1⟩
 case round=>
  obtain⟨k,rfl,hk,HA,hK,hb⟩:=hrel;clear hK1 g1 hX1;have hz:=hb.size;have hlt0:=hK.lt;by_cases hlt:k<fs.length
  ·have hki:(k:Int)<fs.length:=by omega
   obtain⟨g,off,hA,hg,c0,c1⟩:=(HSL.out wr hb).fl hlt;have HBB:=HB.out fs[k] (List.getElem_mem hlt);have HNB2:=Go.Lib.hid (HNB.out k hlt);have HYF2:Go.RowKit.Hid (_→∀(i:Nat) (h:i<fs.length),i<k+1→P i h):=fun h=>HST.out k hlt HA.out (HYF.out k hlt h);have hP:k=0∨∃j,k=j+1:=by
    cases k with
    |zero=>exact .inl rfl
    |succ j=>exact .inr ⟨j,rfl⟩
   have HPV:Go.RowKit.Hid (∀j W,k=j+1→Below w.heap.size w W→W.cell? ⟨g,off+j*2,none⟩=some (.string ⟨(bP fs k).toArray⟩)):=fun j W e h=>(by subst e;exact(HSL.out W h).prev hlt hA);generalize fs[k].1=nm at*;generalize fs[k].2=tx at*;generalize bP fs k=pv at*;subst hA;obtain⟨hb1,hb2⟩:=HBB;have hK2:=hK.alloc (.cells #[.string ⟨nm.toArray⟩,.string ⟨tx.toArray⟩] 87);have hN2:=Bk.new wr #[.string ⟨nm.toArray⟩,.string ⟨tx.toArray⟩] 87;have g2:=hb.alloc hz (.cells #[.string ⟨nm.toArray⟩,.string ⟨tx.toArray⟩] 87);clear hK;go_upto_region 6 with(fail)
   generalize wr.alloc (.cells #[.string ⟨nm.toArray⟩,.string ⟨tx.toArray⟩] 87)=W at*;have hX:=hK2.cell;have hY:=hN2.cell;have hlN:=hN2.lt;have hG:=zI hX hK2.lt;have hG2:=zI hY hlN;clear c0 c1 hb;have cN:∀w,Calls Tryz.prog 78 #[.string ⟨nm.toArray⟩] w fun e w'=>e= .returned (.bool (um nm))∧Below w.heap.size w w':=fun w=>(YF nm w (by omega)).mono fun e w' h=>⟨h.1,h.2▸Below.refl _ _⟩;have cD:=cC.out tx;by_cases h1:um nm=true
   case neg=>
    have h:=HNB2.out (fun h=>h1 h.1);subst h;rw[show um nm=false by simpa using h1] at cN;clear HNB2 HYF2;refine wp_region_quiet_below (by kernel_rfl) (by kernel_rfl) ?_;repeat(go_big_quiet_step ((go_at_call 78;exact Calls.regrown_of (cN _))))
    refine wpQuiet_nil ?_;intro w3 hw2;have hb3:Below _ _ w3:=zh hw2;clear hw2;have g3:=g2.trans (hb3.mono (by have:=g2.size;omega));go_wp2;go_ret;exact⟨rfl,g3⟩
   rw[h1] at cN;by_cases h2:k=0∨Op.bytesLess pv nm=true
   case neg=>
    have h:=HNB2.out (fun h=>h2 h.2.2);subst h;obtain⟨hk0,hlp⟩:=not_or.1 h2;have hlp2:Op.bytesLess pv nm=false:=(by simpa using hlp);obtain⟨j,rfl⟩:=hP.resolve_left hk0;have cp:=HPV.out j W rfl g2;have CP:=fun d os=>cell_regrown cp d os;have hkp:(0:Int)<((j+1:Nat):Int):=(by omega);have hkp2:(0:Int)<(j:Int)+1:=(by omega);have hji:(j:Int)<fs.length:=(by omega);clear HNB2 HYF2 h2 hlp;refine wp_region_quiet_below (by kernel_rfl) (by kernel_rfl) ?_;repeat(go_big_quiet_step ((go_at_call 78;exact Calls.regrown_of (cN _))))
    refine wpQuiet_nil ?_;intro w3 hw2;have hb3:Below _ _ w3:=zh hw2;clear hw2;have g3:=g2.trans (hb3.mono (by have:=g2.size;omega));go_wp2;go_ret;exact⟨rfl,g3⟩
   rcases hP with rfl|⟨j,rfl⟩
   ·clear HPV
    refine wp_region_quiet_below (by kernel_rfl) (by kernel_rfl) ?_;repeat(go_big_quiet_step ((go_at_call 78;exact Calls.regrown_of (cN _))))
    refine wpQuiet_nil ?_;intro w3 hw2;have hb3:Below _ _ w3:=zh hw2;clear hw2;have z3:=hb3.size;have hK3:=hK2.below hb3 (by omega);have hN3:=hN2.below hb3 hlN;have g3:=g2.trans (hb3.mono (by have:=g2.size;omega));have hX3:=hK3.cell;have hY3:=hN3.cell;clear hb3 hK2 hN2 g2 hX hY hG hG2 cN;go_wp2_with fail;refine(cD _ (by omega)).mono ?_;rintro e w4 ⟨rfl,hb4⟩;have hK4:=hK3.below hb4 (by omega);have g4:=g3.trans (hb4.mono (by have:=g3.size;omega));clear hb4 hK3 hN3 g3 hX3 hY3 cD;unfold xY
    cases hcd:cdB o l m dict tx with
    |none=>
     have h:=HNB2.out (fun h=>by have:=h.2.1;rw[hcd] at this;cases this);subst h;clear HNB2 HYF2;go_wp2;go_ret;exact⟨rfl,g4⟩
    |some d=>
     have HA2:=Go.Lib.hid (HYF2.out ⟨h1,by rw[hcd];rfl,h2⟩);clear HNB2 HYF2 hcd;go_wp2;go_roundw
     case rel=>exact⟨_,(by go_num),by omega,HA2,hK4,g4⟩
     case measure=>simp [intOf];omega
   ·have hlp2:Op.bytesLess pv nm=true:=h2.resolve_left (by omega)
    have cp:=HPV.out j W rfl g2;have CP:=fun d os=>cell_regrown cp d os;have hkp:(0:Int)<((j+1:Nat):Int):=(by omega);have hkp2:(0:Int)<(j:Int)+1:=(by omega);have hji:(j:Int)<fs.length:=(by omega);refine wp_region_quiet_below (by kernel_rfl) (by kernel_rfl) ?_;repeat(go_big_quiet_step ((go_at_call 78;exact Calls.regrown_of (cN _))))
    refine wpQuiet_nil ?_;intro w3 hw2;have hb3:Below _ _ w3:=zh hw2;clear hw2;clear cp CP HPV;have z3:=hb3.size;have hK3:=hK2.below hb3 (by omega);have hN3:=hN2.below hb3 hlN;have g3:=g2.trans (hb3.mono (by have:=g2.size;omega));have hX3:=hK3.cell;have hY3:=hN3.cell;clear hb3 hK2 hN2 g2 hX hY hG hG2 cN;go_wp2_with fail;refine(cD _ (by omega)).mono ?_;rintro e w4 ⟨rfl,hb4⟩;have hK4:=hK3.below hb4 (by omega);have g4:=g3.trans (hb4.mono (by have:=g3.size;omega));clear hb4 hK3 hN3 g3 hX3 hY3 cD;unfold xY
    cases hcd:cdB o l m dict tx with
    |none=>
     have h:=HNB2.out (fun h=>by have:=h.2.1;rw[hcd] at this;cases this);subst h;clear HNB2 HYF2;go_wp2;go_ret;exact⟨rfl,g4⟩
    |some d=>
     have HA2:=Go.Lib.hid (HYF2.out ⟨h1,by rw[hcd];rfl,h2⟩);clear HNB2 HYF2 hcd;go_wp2;go_roundw
     case rel=>exact⟨_,(by go_num),by omega,HA2,hK4,g4⟩
     case measure=>simp [intOf];omega
  ·have hki:¬(k:Int)<fs.length:=by omega
   have h:=HY2.out (fun i h _=>HA.out i h (by omega));subst h;go_wp2;go_ret;exact⟨rfl,hb⟩
end Go.Proofs.YtfppmajoidkooaaGreatDoor
namespace Go.Proofs.YtfppmajoidkooaaGreatDoor
open Go.RowKit
set_option linter.unusedVariables false
set_option linter.unusedSimpArgs false
set_option maxRecDepth 100000
attribute [local go_sem high] zy zA zB zO zK zY zx zk zl zq zi zo yP zD yt zF
def LfRes (P:Prop)(n:Nat)(e:Ending):Prop:=∃m:Int,e= .returned (.int .i64 m)∧ -1≤m∧m≤n∧(0≤m→P)
def FsSm (fs:List Fl)(n:Nat):Prop:=fs.length≤n∧∀f ∈ fs,f.1.length≤n∧f.2.length≤n
theorem szFile_any (a b:Bs)(n:Nat)(w:World)(hn:n≤1048576)(ha:a.length≤9223372036854775807)(hb:b.length≤9223372036854775807):
 Calls Tryz.prog 94 #[.agg #[.string ⟨a.toArray⟩,.string ⟨b.toArray⟩],.int .i64 (n:Int)] w fun e w'=>LfRes (a.length≤n∧b.length≤n) n e∧Below w.heap.size w w':=by
 by_cases h0:(n:Int) - a.length<0
 ·go_enter Tryz.func94,Tryz.ntmps94
  go_wp2;go_ret;exact⟨⟨-1,rfl,by omega,by omega,fun h=>by omega⟩,zu⟩
 ·by_cases h1:(n:Int) - a.length - b.length<0
  ·go_enter Tryz.func94,Tryz.ntmps94
   go_wp2;go_ret;exact⟨⟨-1,rfl,by omega,by omega,fun h=>by omega⟩,zu⟩
  ·go_enter Tryz.func94,Tryz.ntmps94
   go_wp2;go_ret;exact⟨⟨_,rfl,by omega,by omega,fun h=>⟨by omega,by omega⟩⟩,zu⟩
theorem szFileS_any (fs:List Fl)(n:Nat)(A:Option Addr)(cap:Nat)(w:World)(hs:Sl w A fs.length cap 2 (yf fs))(hn:n≤1048576)(hx:∀f ∈ fs,f.1.length≤9223372036854775807∧f.2.length≤9223372036854775807):
 Calls Tryz.prog 54 #[.slice A fs.length cap,.int .i64 (n:Int)] w fun e w'=>LfRes (FsSm fs n) n e∧Below w.heap.size w w':=by
 have hcap:=hs.2.1;have hcap1:=hs.1;have HX:=Go.Lib.hid hx;have HS:Go.RowKit.Hid (∀wr,Below w.heap.size w wr→Sl wr A fs.length cap 2 (yf fs)):=fun wr h=>hs.below h;clear hx hs;by_cases h0:(n:Int)<fs.length
 ·have h0':(n:Int) - fs.length<0:=by omega
  go_enter Tryz.func54,Tryz.ntmps54;go_wp2;go_ret;exact⟨⟨-1,rfl,by omega,by omega,fun h=>by omega⟩,zu⟩
 ·have h0':¬(n:Int) - fs.length<0:=by omega
  go_enter Tryz.func54,Tryz.ntmps54;go_wp2;go_loopw [1,5] (fun a i wr=>∃k m:Nat,a= .int .i64 (m:Int)∧i= .int .i64 (k:Int)∧k≤fs.length∧m≤n∧Go.RowKit.Hid (∀f ∈ fs.take k,f.1.length≤n∧f.2.length≤n)∧Below w.heap.size w wr) (fun _ i _=>fs.length - (intOf i).toNat)
  case atStart=>exact⟨0,n - fs.length,by congr 1;omega,rfl,by omega,by omega,fun t ht=>(by simp at ht),zu⟩
  case round=>
   obtain⟨k,m,rfl,rfl,hk,hm,HA,hb⟩:=hrel;have hz:=hb.size;by_cases hlt:k<fs.length
   ·have hki:(k:Int)<fs.length:=by omega
    obtain⟨g,off,rfl,hg,c0,c1⟩:=(HS.out wr hb).fl hlt;have hxk:=HX.out fs[k] (List.getElem_mem hlt);have HTK:Go.RowKit.Hid (fs.take (k+1)=fs.take k++[(fs[k].1,fs[k].2)]):=List.take_succ_eq_append_getElem hlt;generalize fs[k].1=a at*;generalize fs[k].2=b at*;have cF:=szFile_any a b m wr (by omega) hxk.1 hxk.2;go_wp2_with fail;refine cF.mono ?_;rintro e w2 ⟨⟨m2,rfl,hm1,hm2,hm3⟩,hb2⟩;have g2:=hb.trans (hb2.mono hz);clear cF hb2 hb;by_cases hneg:m2<0
    ·clear hm3
     go_wp2;go_ret;exact⟨⟨-1,rfl,by omega,by omega,fun h=>by omega⟩,g2⟩
    ·have h3:=hm3 (by omega)
     obtain⟨q,rfl⟩:=Int.eq_ofNat_of_zero_le (by omega:0≤m2);have HA2:Go.RowKit.Hid (∀f ∈ fs.take (k+1),f.1.length≤n∧f.2.length≤n):=fun f hf=>by
      rw[HTK.out] at hf;rcases List.mem_append.1 hf with h|h
      ·exact HA.out f h
      ·simp at h;subst h;exact⟨by simp only;omega,by simp only;omega⟩
     clear hm3 h3;go_wp2;go_roundw
     case rel=>exact⟨k+1,q,rfl,by go_num,by omega,by omega,HA2,g2⟩
     case measure=>simp [intOf];omega
   ·have hki:¬(k:Int)<fs.length:=by omega
    have hkl:fs.take k=fs:=List.take_of_length_le (by omega);rw[hkl] at HA;clear hkl;go_wp2;go_ret;exact⟨⟨m,rfl,by omega,by omega,fun _=>⟨by omega,HA.out⟩⟩,hb⟩
theorem szStore_any (S:Sto)(n:Nat)(A:Option Addr)(cap:Nat)(w:World)(hs:Sl w A S.fs.length cap 2 (yf S.fs))(hn:n≤1048576)(hd:S.dict.length≤9223372036854775807)(hx:∀f ∈ S.fs,f.1.length≤9223372036854775807∧f.2.length≤9223372036854775807):
 Calls Tryz.prog 16 #[S.V A cap,.int .i64 (n:Int)] w fun e w'=>LfRes (S.small n) n e∧Below w.heap.size w w':=by
 have HS:Go.RowKit.Hid (∀wr,Below w.heap.size w wr→Sl wr A S.fs.length cap 2 (yf S.fs)):=fun wr h=>hs.below h;have cF:Go.RowKit.Hid (∀(m:Nat) w,m≤n→Sl w A S.fs.length cap 2 (yf S.fs)→Calls Tryz.prog 54 #[.slice A S.fs.length cap,.int .i64 (m:Int)] w fun e w'=>LfRes (FsSm S.fs m) m e∧Below w.heap.size w w'):=fun m w h hs=>szFileS_any S.fs m A cap w hs (by omega) hx;have HP:Go.RowKit.Hid (∀m:Nat,m≤n→S.dict.length≤n→FsSm S.fs m→S.small n):=fun m h1 h2 h3=>⟨h2,by have:=h3.1;omega,fun f hf=>⟨by have:=(h3.2 f hf).1;omega,by have:=(h3.2 f hf).2;omega⟩⟩;clear hs hx;generalize S.small n=P at*;obtain⟨o,l,m,dict,fs⟩:=S;simp only at*;by_cases h0:(n:Int) - dict.length<0
 ·go_enter Tryz.func16,Tryz.ntmps16
  go_wp2;go_ret;exact⟨⟨-1,rfl,by omega,by omega,fun h=>by omega⟩,zu⟩
 ·obtain⟨q,hq⟩:∃q:Nat,(n:Int) - dict.length=(q:Int):=⟨n - dict.length,by omega⟩
  have hqn:q≤n:=(by omega);have cG:=fun w hs=>cF.out q w hqn hs;go_enter Tryz.func16,Tryz.ntmps16;go_wp2_with fail;refine(cG _ (HS.out _ zu)).mono ?_;rintro e w2 ⟨⟨m2,rfl,hm1,hm2,hm3⟩,hb2⟩;have g2:Below w.heap.size w w2:=((Below.refl _ w).alloc (Nat.le_refl _) _).trans (hb2.mono (by simp));clear hb2 cG;by_cases hneg:m2<0
  ·clear hm3
   go_wp2;go_ret;exact⟨⟨-1,rfl,by omega,by omega,fun h=>by omega⟩,g2⟩
  ·have hP:=HP.out q hqn (by omega) (hm3 (by omega))
   clear hm3;go_wp2;go_ret;exact⟨⟨m2,rfl,by omega,by omega,fun _=>hP⟩,g2⟩
theorem toFile_any (a b:Bs)(w:World):
 Calls Tryz.prog 102 #[.agg #[.string ⟨a.toArray⟩,.string ⟨b.toArray⟩]] w fun e w'=>e= .returned (.agg #[.string ⟨a.toArray⟩,.string ⟨b.toArray⟩])∧Below w.heap.size w w':=by
 go_enter Tryz.func102,Tryz.ntmps102;go_wp2;exact bodyPost_ret (v:=.agg #[.string ⟨a.toArray⟩,.string ⟨b.toArray⟩]) (by simp [results,Tryz.results102,go_sem]) rfl ⟨rfl,zu⟩
def cpF (fs:List Fl)(k:Nat):List Value:=yf (fs.take k)++List.replicate ((fs.length - k)*2) (sv [])
theorem cpF_zero (fs:List Fl):cpF fs 0=List.replicate (fs.length*2) (sv []):=by simp [cpF,yf]
theorem cpF_full (fs:List Fl):cpF fs fs.length=yf fs:=by simp [cpF]
theorem cpF_cur (fs:List Fl)(k j:Nat)(h:k<fs.length)(hj:j<2):(cpF fs k)[k*2+j]? =some (sv []):=by
 unfold cpF;have e:(yf (fs.take k)).length=k*2:=(by rw[vH,List.length_take];omega);rw[List.getElem?_append_right (by omega),e,List.getElem?_replicate,if_pos (by omega)]
theorem cpF_set (fs:List Fl)(k:Nat)(h:k<fs.length):((cpF fs k).set (k*2) (.string ⟨fs[k].1.toArray⟩)).set (k*2+1) (.string ⟨fs[k].2.toArray⟩)=cpF fs (k+1):=by
 unfold cpF;have e:(yf (fs.take k)).length=k*2:=(by rw[vH,List.length_take];omega);rw[List.set_append_right _ _ (by omega),e,Nat.sub_self,show(fs.length - k)*2=(fs.length - (k+1))*2+1+1 by omega,List.replicate_succ,List.replicate_succ,List.set_cons_zero,
  List.set_append_right _ _ (by omega),e,show k*2+1 - k*2=1 by omega,List.take_succ_eq_append_getElem h,sZ,List.append_assoc]
 rfl
theorem madeCells_fl (n:Nat):(madeCells #[.string ⟨#[]⟩,.string ⟨#[]⟩] (n*2)).toList=List.replicate (n*2) (sv []):=by
 apply List.ext_getElem?;intro j;by_cases hj:j<n*2
 ·have:j % 2=0∨j % 2=1:=by omega
  rcases this with h|h<;>simp [madeCells,hj,h,sv]
 ·simp [madeCells,hj]
theorem toFileS_any (fs:List Fl)(A:Option Addr)(cap:Nat)(w:World)(hs:Sl w A fs.length cap 2 (yf fs))(hl:fs.length≤1500000):
 Calls Tryz.prog 58 #[.slice A fs.length cap] w fun e w'=>∃(A':Option Addr) (cap':Nat),e= .returned (.slice A' fs.length cap')∧w'.ownsRow w.heap.size 87 2 (.slice A' fs.length cap') fs.length (yf fs)∧Below w.heap.size w w':=by
 obtain⟨i0,hi,hz0,hz1,hz2⟩:=info_parts ny;have hcap:=hs.2.1;have hcap1:=hs.1;have HS:Go.RowKit.Hid (∀wr,Below w.heap.size w wr→Sl wr A fs.length cap 2 (yf fs)):=fun wr h=>hs.below h;clear hs;obtain⟨n,hn⟩:∃n,fs.length=n:=⟨_,rfl⟩;rw[hn];go_enter Tryz.func58,Tryz.ntmps58;go_wp2_with(at_make;go_must(refine wpList_make_full _ rfl _ _ 40 rfl w.heap.size 87 i0 (.agg #[.string ⟨#[]⟩,.string ⟨#[]⟩]) 2 Tryz.underlying40 hi hz0 hz1 _ _ _ _ n rfl rfl (by omega) (by omega) (by rw[hz2];omega) (by unfold maxLen;omega) (Nat.le_refl _) ?_);intro w1 hown hg1);have g1:Below w.heap.size w w1:=(Below.refl _ _).grown hg1 (Nat.le_refl _) (by simp);clear hg1;rw[show Value.cells (.agg #[.string ⟨#[]⟩,.string ⟨#[]⟩])=#[.string ⟨#[]⟩,.string ⟨#[]⟩] from rfl,madeCells_fl] at hown;go_loopw [4] (fun i wr=>∃k:Nat,i= .int .i64 (k:Int)∧k≤n∧wr.ownsRow w.heap.size 87 2 (.slice (some ⟨w.heap.size,0,none⟩) n n) n (cpF fs k)∧Below w.heap.size w wr) (fun i _=>n - (intOf i).toNat)
 case atStart=>exact⟨0,rfl,by omega,by rw[cpF_zero,hn];exact hown,g1⟩
 case round=>
  obtain⟨k,rfl,hk,hown,hb⟩:=hrel;have hz:=hb.size;by_cases hlt:k<n
  ·have hki:(k:Int)<(n:Int):=by omega
   have hlt2:k<fs.length:=(by omega);obtain⟨g,off,rfl,hg,c0,c1⟩:=(HS.out wr hb).fl hlt2;have HSE:=Go.Lib.hid (cpF_set fs k hlt2);have HC0:=cpF_cur fs k 0 hlt2 (by omega);have HC1:=cpF_cur fs k 1 hlt2 (by omega);generalize fs[k].1=a at*;generalize fs[k].2=b at*;go_wp2_with fail;refine(toFile_any a b _).mono ?_;rintro e w2 ⟨rfl,hb2⟩;have hz2':=hb2.size;have o2:=zf hown hb2;have g2:=hb.trans (hb2.mono hz);have hlt3:w.heap.size<w2.heap.size:=(o2.lt _ rfl).2;clear hb2 hown hb c0 c1;have hr1:=o2.frozenAt (k*2);have hr2:=o2.frozenAt (k*2+1);have hcl1:=(o2.cellAt (k*2) (by omega)).trans HC0;have hcl2:=(o2.cellAt (k*2+1) (by omega)).trans HC1;have o4:=(o2.stored (k*2) (.string ⟨a.toArray⟩)).1;have o5:=(o4.stored (k*2+1) (.string ⟨b.toArray⟩)).1;rw[HSE.out] at o5;have b5:Below w.heap.size w ((w2.setCell ⟨w.heap.size,k*2,none⟩ (.string ⟨a.toArray⟩)).setCell ⟨w.heap.size,k*2+1,none⟩ (.string ⟨b.toArray⟩)):=(g2.setCell (Nat.le_refl _) _).setCell (Nat.le_refl _) _;have HH:=Go.Lib.hid (And.intro o5 b5);clear o2 o4 o5 b5 g2 HC0 HC1;go_wp2;go_roundw
   case rel=>exact⟨k+1,by go_num,by omega,HH.out.1,HH.out.2⟩
   case measure=>simp [intOf];omega
  ·have hki:¬(k:Int)<(n:Int):=by omega
   have e:cpF fs k=yf fs:=(by rw[←cpF_full];congr 1;omega);rw[e] at hown;clear e;go_wp2;go_ret;exact⟨some ⟨w.heap.size,0,none⟩,n,rfl,hown,hb⟩
theorem toStore_any (S:Sto)(A:Option Addr)(cap:Nat)(w:World)(hs:Sl w A S.fs.length cap 2 (yf S.fs))(hl:S.fs.length≤1500000):
 Calls Tryz.prog 18 #[S.V A cap] w fun e w'=>∃(A':Option Addr) (cap':Nat),e= .returned (S.V A' cap')∧w'.ownsRow w.heap.size 87 2 (.slice A' S.fs.length cap') S.fs.length (yf S.fs)∧Below w.heap.size w w':=by
 obtain⟨o,l,m,dict,fs⟩:=S;simp only at*;have HS:Go.RowKit.Hid (∀wr,Below w.heap.size w wr→Sl wr A fs.length cap 2 (yf fs)):=fun wr h=>hs.below h;clear hs;go_enter Tryz.func18,Tryz.ntmps18;have hB0:Bk (((w.alloc (.cells #[.int .i64 o,.int .i64 l,.int .i64 m,.string ⟨dict.toArray⟩,.slice A fs.length cap] 36)).alloc (.cells #[.int .i64 0,.int .i64 0,.int .i64 0,.string ⟨#[]⟩,.slice none 0 0] 42)).alloc (.cells #[.int .i64 0,.int .i64 0,.int .i64 0,.string ⟨#[]⟩,.slice none 0 0] 42)) w.heap.size 36 #[.int .i64 o,.int .i64 l,.int .i64 m,.string ⟨dict.toArray⟩,.slice A fs.length cap]:=tBk;have hB1:Bk (((w.alloc (.cells #[.int .i64 o,.int .i64 l,.int .i64 m,.string ⟨dict.toArray⟩,.slice A fs.length cap] 36)).alloc (.cells #[.int .i64 0,.int .i64 0,.int .i64 0,.string ⟨#[]⟩,.slice none 0 0] 42)).alloc (.cells #[.int .i64 0,.int .i64 0,.int .i64 0,.string ⟨#[]⟩,.slice none 0 0] 42)) (w.heap.size+1) 42 #[.int .i64 0,.int .i64 0,.int .i64 0,.string ⟨#[]⟩,.slice none 0 0]:=(Bk.newAt _ _ _ (by simp)).alloc _;have hB2:Bk (((w.alloc (.cells #[.int .i64 o,.int .i64 l,.int .i64 m,.string ⟨dict.toArray⟩,.slice A fs.length cap] 36)).alloc (.cells #[.int .i64 0,.int .i64 0,.int .i64 0,.string ⟨#[]⟩,.slice none 0 0] 42)).alloc (.cells #[.int .i64 0,.int .i64 0,.int .i64 0,.string ⟨#[]⟩,.slice none 0 0] 42)) (w.heap.size+2) 42 #[.int .i64 0,.int .i64 0,.int .i64 0,.string ⟨#[]⟩,.slice none 0 0]:=Bk.newAt _ _ _ (by simp);have g0:Below w.heap.size w (((w.alloc (.cells #[.int .i64 o,.int .i64 l,.int .i64 m,.string ⟨dict.toArray⟩,.slice A fs.length cap] 36)).alloc (.cells #[.int .i64 0,.int .i64 0,.int .i64 0,.string ⟨#[]⟩,.slice none 0 0] 42)).alloc (.cells #[.int .i64 0,.int .i64 0,.int .i64 0,.string ⟨#[]⟩,.slice none 0 0] 42)):=zu;go_upto_region 2 with(fail)
 generalize((w.alloc (.cells #[.int .i64 o,.int .i64 l,.int .i64 m,.string ⟨dict.toArray⟩,.slice A fs.length cap] 36)).alloc (.cells #[.int .i64 0,.int .i64 0,.int .i64 0,.string ⟨#[]⟩,.slice none 0 0] 42)).alloc (.cells #[.int .i64 0,.int .i64 0,.int .i64 0,.string ⟨#[]⟩,.slice none 0 0] 42)=w0 at*;have hX0:=hB0.cell;have hz0:=hB2.lt;go_wp2_with fail;refine(wZ _ _ _ _).mono ?_;rintro e w1 ⟨rfl,hb1⟩;have hz1:=hb1.size;have hA0:=hB0.below hb1 (by omega);have hA1:=hB1.below hb1 (by omega);have hA2:=hB2.below hb1 hz0;have g1:=g0.trans (hb1.mono (by omega));clear hb1 hB0 hB1 hB2 g0 hX0;have hX1:=hA0.cell;have hF1:=hA2.free;have hY1:=hA2.cell;have hC2:=(((hA2.set 0 (.int .i64 o)).set 1 (.int .i64 l)).set 2 (.int .i64 m)).set 3 (.string ⟨dict.toArray⟩);have hC0:Bk (((((w1.setCell ⟨w.heap.size+2,0,none⟩ (.int .i64 o)).setCell ⟨w.heap.size+2,1,none⟩ (.int .i64 l)).setCell ⟨w.heap.size+2,2,none⟩ (.int .i64 m)).setCell ⟨w.heap.size+2,3,none⟩ (.string ⟨dict.toArray⟩))) w.heap.size 36 #[.int .i64 o,.int .i64 l,.int .i64 m,.string ⟨dict.toArray⟩,.slice A fs.length cap]:=(((hA0.far (p:=⟨w.heap.size+2,0,none⟩) (by show w.heap.size≠w.heap.size+2;omega) _).far (p:=⟨w.heap.size+2,1,none⟩) (by show w.heap.size≠w.heap.size+2;omega) _).far (p:=⟨w.heap.size+2,2,none⟩) (by show w.heap.size≠w.heap.size+2;omega) _).far (p:=⟨w.heap.size+2,3,none⟩) (by show w.heap.size≠w.heap.size+2;omega) _;have hC1:Bk (((((w1.setCell ⟨w.heap.size+2,0,none⟩ (.int .i64 o)).setCell ⟨w.heap.size+2,1,none⟩ (.int .i64 l)).setCell ⟨w.heap.size+2,2,none⟩ (.int .i64 m)).setCell ⟨w.heap.size+2,3,none⟩ (.string ⟨dict.toArray⟩))) (w.heap.size+1) 42 #[.int .i64 0,.int .i64 0,.int .i64 0,.string ⟨#[]⟩,.slice none 0 0]:=(((hA1.far (p:=⟨w.heap.size+2,0,none⟩) (by show w.heap.size+1≠w.heap.size+2;omega) _).far (p:=⟨w.heap.size+2,1,none⟩) (by show w.heap.size+1≠w.heap.size+2;omega) _).far (p:=⟨w.heap.size+2,2,none⟩) (by show w.heap.size+1≠w.heap.size+2;omega) _).far (p:=⟨w.heap.size+2,3,none⟩) (by show w.heap.size+1≠w.heap.size+2;omega) _;have g2:Below w.heap.size w (((((w1.setCell ⟨w.heap.size+2,0,none⟩ (.int .i64 o)).setCell ⟨w.heap.size+2,1,none⟩ (.int .i64 l)).setCell ⟨w.heap.size+2,2,none⟩ (.int .i64 m)).setCell ⟨w.heap.size+2,3,none⟩ (.string ⟨dict.toArray⟩))):=(((g1.setCell (by show w.heap.size≤w.heap.size+2;omega) _).setCell (by show w.heap.size≤w.heap.size+2;omega) _).setCell (by show w.heap.size≤w.heap.size+2;omega) _).setCell (by show w.heap.size≤w.heap.size+2;omega) _;go_upto_region 4 with(fail)
 generalize((((w1.setCell ⟨w.heap.size+2,0,none⟩ (.int .i64 o)).setCell ⟨w.heap.size+2,1,none⟩ (.int .i64 l)).setCell ⟨w.heap.size+2,2,none⟩ (.int .i64 m)).setCell ⟨w.heap.size+2,3,none⟩ (.string ⟨dict.toArray⟩))=W at*;clear hX1 hF1 hY1 hA0 hA1 hA2 g1;have hX2:=hC0.cell;have hz2:=hC2.lt;have cT:=toFileS_any fs A cap W (HS.out W g2) hl;go_wp2_with fail;refine cT.mono ?_;rintro e w3 ⟨A3,c3,rfl,o3,hb3⟩;have hz3:=hb3.size;have hD1:=hC1.below hb3 (by omega);have hD2:=hC2.below hb3 hz2;have g3:=g2.trans (hb3.mono (by omega));clear hb3 hC0 hC1 hC2 g2 hX2 cT;have hF2:=hD2.free;have hY2:=hD2.cell;have hE2:=hD2.set 4 (.slice A3 fs.length c3);have hE1:=hD1.far (p:=⟨w.heap.size+2,4,none⟩) (by show w.heap.size+1≠w.heap.size+2;omega) (.slice A3 fs.length c3);have o4:=ownsRow_setCell_below o3 (a:=⟨w.heap.size+2,4,none⟩) hz2 (.slice A3 fs.length c3);have g4:=g3.setCell (p:=⟨w.heap.size+2,4,none⟩) (by show w.heap.size≤w.heap.size+2;omega) (.slice A3 fs.length c3);go_upto_region 5 with(fail)
 generalize w3.setCell ⟨w.heap.size+2,4,none⟩ (.slice A3 fs.length c3)=W4 at*;clear hF2 hY2 hD1 hD2 g3 o3;have hX4:=hE2.cell;have hF4:=hE1.free;have hY4:=hE1.cell;go_wp2;have hQ:=(((((hE1.set 0 (.int .i64 o)).set 1 (.int .i64 l)).set 2 (.int .i64 m)).set 3 (.string ⟨dict.toArray⟩)).set 4 (.slice A3 fs.length c3)).cell;have o9:=zC (B':=w.heap.size) (ownsRow_setCell_below (ownsRow_setCell_below (ownsRow_setCell_below (ownsRow_setCell_below (ownsRow_setCell_below o4 (a:=⟨w.heap.size+1,0,none⟩) (by show w.heap.size+1<W.heap.size;omega) (.int .i64 o)) (a:=⟨w.heap.size+1,1,none⟩) (by show w.heap.size+1<W.heap.size;omega) (.int .i64 l)) (a:=⟨w.heap.size+1,2,none⟩) (by show w.heap.size+1<W.heap.size;omega) (.int .i64 m)) (a:=⟨w.heap.size+1,3,none⟩) (by show w.heap.size+1<W.heap.size;omega) (.string ⟨dict.toArray⟩)) (a:=⟨w.heap.size+1,4,none⟩) (by show w.heap.size+1<W.heap.size;omega) (.slice A3 fs.length c3)) (by omega);have g9:=((((g4.setCell (p:=⟨w.heap.size+1,0,none⟩) (by show w.heap.size≤w.heap.size+1;omega) (.int .i64 o)).setCell (p:=⟨w.heap.size+1,1,none⟩) (by show w.heap.size≤w.heap.size+1;omega) (.int .i64 l)).setCell (p:=⟨w.heap.size+1,2,none⟩) (by show w.heap.size≤w.heap.size+1;omega) (.int .i64 m)).setCell (p:=⟨w.heap.size+1,3,none⟩) (by show w.heap.size≤w.heap.size+1;omega) (.string ⟨dict.toArray⟩)).setCell (p:=⟨w.heap.size+1,4,none⟩) (by show w.heap.size≤w.heap.size+1;omega) (.slice A3 fs.length c3);exact bodyPost_ret (v:=.agg #[.int .i64 o,.int .i64 l,.int .i64 m,.string ⟨dict.toArray⟩,.slice A3 fs.length c3]) (by simp [results,Tryz.results18,go_sem,hQ]) rfl ⟨A3,c3,rfl,o9,g9⟩
end Go.Proofs.YtfppmajoidkooaaGreatDoor
