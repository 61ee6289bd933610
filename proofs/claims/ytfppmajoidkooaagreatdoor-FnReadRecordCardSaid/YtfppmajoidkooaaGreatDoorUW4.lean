import Derived.Test.YtfppmajoidkooaaGreatDoorUW3
import Derived.Test.YtfppmajoidkooaaGreatDoorUGW
import Derived.Test.YtfppmajoidkooaaGreatDoorUShelf
import Derived.Test.YtfppmajoidkooaaGreatDoorUGR
import Derived.Lib.AppendIntMem
import Derived.Test.YtfppmajoidkooaaGreatDoorUW9
set_option linter.unusedVariables false
set_option linter.unusedSimpArgs false
set_option maxHeartbeats 8000000
namespace Go.Proofs.YtfppmajoidkooaaGreatDoor
open Go.RowKit
attribute [local go_sem high] zy zA zB zO zK zY zx zk zl zq zi zo yP zD yt zF
abbrev uD (B:Nat)(w:World):Prop:=Lib.TabBelow Tryz.prog B w "internal/strconv.uint64pow10" .u64 Lib.pow10Tab
theorem below_grow (w:World)(k:Nat)(os:Array Obj):Below w.heap.size w (Go.Sort.grow (w.drewN k) os):=
 ⟨rfl,rfl,rfl,by simp [Go.Sort.grow],fun i hi=>by simp [Go.Sort.grow,Array.getElem?_append,hi]⟩
theorem Zm (n:Int)(w:World)(B:Nat)(hB:B≤w.heap.size)(hT:uD B w)(h0: -9223372036854775808≤n)(h1:n≤9223372036854775807):
 Calls Tryz.prog 91 #[.int .i64 n] w fun e w'=>e= .returned (.string ⟨(Lib.itoa n).toArray⟩)∧Below w.heap.size w w':=
 (Tryz.strconv_Itoa n h0 h1 w hT.here).mono fun e w' ⟨he,k,os,hw⟩=>⟨he,by rw[hw];exact below_grow _ _ _⟩
theorem Vw (k f t s:Int)(nm d:Bs)(w:World)(B:Nat)(hB:B≤w.heap.size)(hT:uD B w)(hn:nm.length≤9223372036854775807)(hd:d.length≤9223372036854775807):
 Calls Tryz.prog 52 #[.agg #[.int .i64 k,.string ⟨nm.toArray⟩,.int .i64 f,.int .i64 t,.int .i64 s,.string ⟨d.toArray⟩]] w fun e w'=>e= .returned (.string ⟨(yU k nm f t s d).toArray⟩)∧Below w.heap.size w w':=by
 have HT:=Go.Lib.hid hT;clear hT;have HFM:Hid (yU k nm f t s d=yU k nm f t s d):=rfl;go_enter Tryz.func52,Tryz.ntmps52;go_wp2_with fail;refine(lY _ _ _ _ _ _ _ hn hd).mono ?_;rintro e w1 ⟨rfl,hb1⟩;have hz1:=hb1.size;simp only[World.size_alloc] at hz1;have X0_1:=zJ (yl _ _ _) hb1 (by simp);have L0_1:w.heap.size<w1.heap.size:=oo;have g1:Below w.heap.size w w1:=((Below.refl _ _).alloc (Nat.le_refl _) _).trans (hb1.mono (by simp));clear hb1;by_cases hv:uM k nm f t s d
 ·have hdv:decide (uM k nm f t s d)=true:=by simpa using hv
  have hv':=hv;obtain⟨ho1,ho2,ho3⟩:=hv';have hl:=qx ho1;have hs0:0≤s:=oo;have hs1:s≤64:=oo;have h4:d.length≤4000:=oo;obtain⟨hl1,hl2⟩:=hl;have hi1:=Lib.itoa_length_le s oo oo;have hx1:=nJ d;have hx2:=nI (uV d);have HV:=Go.Lib.hid hv;have H3:=Go.Lib.hid ho3;clear hv ho1 ho2 ho3;go_wp2_with fail;refine(Zm _ _ B oo (HT.out.on (g1.mono hB)) oo oo).mono ?_;rintro e w2 ⟨rfl,hb2⟩;have hz2:=hb2.size;have X0_2:=zJ X0_1 hb2 L0_1;have L0_2:w.heap.size<w2.heap.size:=oo;have g2:Below w.heap.size w w2:=g1.trans (hb2.mono oo);clear hb2 X0_1 L0_1 g1;go_wp2_with fail;refine(YQ _ _ h4).mono ?_;rintro e w3 ⟨rfl,hb3⟩;have hz3:=hb3.size;have X0_3:=zJ X0_2 hb3 L0_2;have L0_3:w.heap.size<w3.heap.size:=oo;have g3:Below w.heap.size w w3:=g2.trans (hb3.mono oo);clear hb3 X0_2 L0_2 g2;go_wp2_with fail;refine(SG _ _).mono ?_;rintro e w' ⟨rfl,rfl⟩;have hTG:∀d os,uD B (Go.Sort.grow (redrawn w3 d) os):=fun d os=>HT.out.on ((g3.mono hB).trans ((below_regrown w3 d os).mono oo));have hBG:∀d os,B≤(Go.Sort.grow (redrawn w3 d) os).heap.size:=fun d os=>Nat.le_trans oo (below_regrown w3 d os).size;have hG:=zI X0_3 L0_3;by_cases k0:k=0
  ·have hk:(k==0)=true:=by simpa using k0
   have K:=Go.Lib.hid k0;clear k0;go_wp2;go_ret;exact⟨vZ (by rw[yU,if_pos HV.out,if_pos K.out];simp),g3⟩
  have hk0:(k==0)=false:=(by simpa using k0);have K0:=Go.Lib.hid k0;clear k0;by_cases k0:k=1
  ·have hk:(k==1)=true:=by simpa using k0
   have K:=Go.Lib.hid k0;clear k0;go_wp2;go_ret;exact⟨vZ (by rw[yU,if_pos HV.out,if_neg K0.out,if_pos K.out];simp),g3⟩
  have hk1:(k==1)=false:=(by simpa using k0);have K1:=Go.Lib.hid k0;clear k0;by_cases k0:k=2
  ·have hk:(k==2)=true:=by simpa using k0
   have hft:0≤f∧f≤t∧t≤2000:=(by have:=H3.out;omega);obtain⟨hf0,hft1,hft2⟩:=hft;have hi2:=Lib.itoa_length_le f oo oo;have hi3:=Lib.itoa_length_le t oo oo;have K:=Go.Lib.hid k0;clear k0;go_wp2_with fail;refine wp_region_quiet_below kr kr ?_;repeat(go_big_quiet_step ((first|(go_at_call 91;exact Calls.regrown_of (Zm _ _ B (hBG _ _) (hTG _ _) oo oo)))))
   refine wpQuiet_nil ?_;intro w5 hw2;have hb5:Below _ _ w5:=zh hw2;clear hw2;go_wp2;go_ret;exact⟨vZ (by rw[yU,if_pos HV.out,if_neg K0.out,if_neg K1.out,if_pos K.out];simp),g3.trans (hb5.mono (by omega))⟩
  have hk2:(k==2)=false:=(by simpa using k0);have K2:=Go.Lib.hid k0;clear k0;by_cases k0:k=3
  ·have hk:(k==3)=true:=by simpa using k0
   have K:=Go.Lib.hid k0;clear k0;go_wp2;go_ret;exact⟨vZ (by rw[yU,if_pos HV.out,if_neg K0.out,if_neg K1.out,if_neg K2.out,if_pos K.out];simp),g3⟩
  have hk3:(k==3)=false:=(by simpa using k0);have K3:=Go.Lib.hid k0;clear k0;go_wp2;go_ret;exact⟨vZ (by rw[yU,if_pos HV.out,if_neg K0.out,if_neg K1.out,if_neg K2.out,if_neg K3.out];simp),g3⟩
 ·have hdv:decide (uM k nm f t s d)=false:=by simpa using hv
  have HV:=Go.Lib.hid hv;clear hv;go_wp2;go_ret;exact⟨by rw[yU,if_neg HV.out];rfl,g1⟩
theorem NH (l:Bs)(w:World):
 Calls Tryz.prog 100 #[.string ⟨l.toArray⟩] w fun e w'=>e= .returned (.string ⟨(wH l).toArray⟩)∧Below w.heap.size w w':=
 (TJ l w).mono fun e w' ⟨he,hw⟩=>⟨he,by subst hw;exact Below.refl _ _⟩
theorem uO (k f t s:Int)(nm d:Bs)(w:World)(hn:nm.length≤9223372036854775807)(hd:d.length≤9223372036854775807):
 Calls Tryz.prog 56 #[.agg #[.int .i64 k,.string ⟨nm.toArray⟩,.int .i64 f,.int .i64 t,.int .i64 s,.string ⟨d.toArray⟩]] w fun e w'=>e= .returned (.string ⟨(yU k nm f t s d).toArray⟩)∧Below w.heap.size w w':=by
 go_enter Tryz.func56,Tryz.ntmps56;go_wp2_with fail;refine(mi _ _ _ _ _ _ _ hn hd).mono ?_;rintro e w1 ⟨rfl,hb1⟩;have hz1:=hb1.size;simp only[World.size_alloc] at hz1;have X0_1:=zJ (yl _ _ _) hb1 (by simp);have L0_1:w.heap.size<w1.heap.size:=oo;have g1:Below w.heap.size w w1:=((Below.refl _ _).alloc (Nat.le_refl _) _).trans (hb1.mono (by simp));clear hb1;by_cases hv:uM k nm f t s d
 ·have hdv:decide (uM k nm f t s d)=true:=by simpa using hv
  have hv':=hv;obtain⟨ho1,ho2,ho3⟩:=hv';have hl:=qx ho1;have hs0:0≤s:=oo;have hs1:s≤64:=oo;have h4:d.length≤4000:=oo;obtain⟨hl1,hl2⟩:=hl;have hi1:=Lib.itoa_length_le s oo oo;have hx1:=nJ d;have hx2:=nI (uV d);have HV:=Go.Lib.hid hv;have H3:=Go.Lib.hid ho3;clear hv ho1 ho2 ho3;have hG:=zI X0_1 L0_1;go_wp2_with fail;refine wp_region_quiet_below kr kr ?_;repeat(go_big_quiet_step ((first|(go_at_call 99;exact Calls.regrown_of (dB _ _ oo oo))|(go_at_call 101;exact Calls.regrown_of (Yn _ _ h4))|(go_at_call 100;exact Calls.regrown_of (NH _ _)))))
  refine wpQuiet_nil ?_;intro w2 hw2;have hb2:Below _ _ w2:=zh hw2;clear hw2;have hz2:=hb2.size;have X0_2:=zJ X0_1 hb2 L0_1;have L0_2:w.heap.size<w2.heap.size:=oo;have g2:Below w.heap.size w w2:=g1.trans (hb2.mono oo);clear hb2 X0_1 L0_1 g1 hG;have hG:=zI X0_2 L0_2;by_cases k0:k=0
  ·have hk:(k==0)=true:=by simpa using k0
   have K:=Go.Lib.hid k0;clear k0;go_wp2;go_ret;exact⟨vZ (by rw[yU,if_pos HV.out,if_pos K.out];simp),g2⟩
  have hk0:(k==0)=false:=(by simpa using k0);have K0:=Go.Lib.hid k0;clear k0;by_cases k0:k=1
  ·have hk:(k==1)=true:=by simpa using k0
   have K:=Go.Lib.hid k0;clear k0;go_wp2;go_ret;exact⟨vZ (by rw[yU,if_pos HV.out,if_neg K0.out,if_pos K.out];simp),g2⟩
  have hk1:(k==1)=false:=(by simpa using k0);have K1:=Go.Lib.hid k0;clear k0;by_cases k0:k=2
  ·have hk:(k==2)=true:=by simpa using k0
   have hft:0≤f∧f≤t∧t≤2000:=(by have:=H3.out;omega);obtain⟨hf0,hft1,hft2⟩:=hft;have hi2:=Lib.itoa_length_le f oo oo;have hi3:=Lib.itoa_length_le t oo oo;have K:=Go.Lib.hid k0;clear k0;go_wp2_with fail;refine wp_region_quiet_below kr kr ?_;repeat(go_big_quiet_step (((go_at_call 99;exact Calls.regrown_of (dB _ _ oo oo)))))
   refine wpQuiet_nil ?_;intro w5 hw2;have hb5:Below _ _ w5:=zh hw2;clear hw2;go_wp2;go_ret;exact⟨vZ (by rw[yU,if_pos HV.out,if_neg K0.out,if_neg K1.out,if_pos K.out];simp),g2.trans (hb5.mono (by omega))⟩
  have hk2:(k==2)=false:=(by simpa using k0);have K2:=Go.Lib.hid k0;clear k0;by_cases k0:k=3
  ·have hk:(k==3)=true:=by simpa using k0
   have K:=Go.Lib.hid k0;clear k0;go_wp2_with fail;refine wp_region_quiet_below kr kr ?_;repeat(go_big_quiet_step (((go_at_call 99;exact Calls.regrown_of (dB _ _ oo oo)))))
   refine wpQuiet_nil ?_;intro w5 hw2;have hb5:Below _ _ w5:=zh hw2;clear hw2;go_wp2;go_ret;exact⟨vZ (by rw[yU,if_pos HV.out,if_neg K0.out,if_neg K1.out,if_neg K2.out,if_pos K.out];simp),g2.trans (hb5.mono (by omega))⟩
  have hk3:(k==3)=false:=(by simpa using k0);have K3:=Go.Lib.hid k0;clear k0;go_wp2;go_ret;exact⟨vZ (by rw[yU,if_pos HV.out,if_neg K0.out,if_neg K1.out,if_neg K2.out,if_neg K3.out];simp),g2⟩
 ·have hdv:decide (uM k nm f t s d)=false:=by simpa using hv
  have HV:=Go.Lib.hid hv;clear hv;go_wp2;go_ret;exact⟨by rw[yU,if_neg HV.out];rfl,g1⟩
def nR (k:Int)(nm:Bs)(f t s:Int)(d:Bs):Value:=if uM k nm f t s d then .tuple #[.string ⟨(uu (yU k nm f t s d)).toArray⟩,.bool true] else .tuple #[.string ⟨[].toArray⟩,.bool false]
theorem Xw (k:Int)(nm:Bs)(f t s:Int)(d:Bs):(yU k nm f t s d).length≤9000:=by
 unfold yU;split
 ·rename_i h
  obtain⟨h1,h2,h3⟩:=h;have a:=qx h1;have b1:=Lib.itoa_length_le s oo oo;have c:=nJ d;have e:=nI (uV d);split
  ·simp;omega
  split
  ·simp;omega
  split
  ·have b2:=Lib.itoa_length_le f oo oo
   have b3:=Lib.itoa_length_le t oo oo;simp;omega
  split
  ·simp;omega
  ·simp;omega
 ·simp
theorem iM (l:Bs)(w:World)(hl:l.length≤65535):
 Calls Tryz.prog 50 #[.string ⟨l.toArray⟩] w fun e w'=>e= .returned (.string ⟨(uu l).toArray⟩)∧Below w.heap.size w w':=by
 have hs:=uH l;obtain⟨hs0,hs1⟩:=hs;have t1:=tH l.length;have t2:=tH (sumOf l);have T1:(two l.length).length≤2:=oo;have T2:(two (sumOf l)).length≤2:=oo;clear t1 t2;go_enter Tryz.func50,Tryz.ntmps50;go_wp2_with fail;refine(jc _ _ oo oo).mono ?_;rintro e w1 ⟨rfl,hb1⟩;have hz1:=hb1.size;have g1:Below w.heap.size w w1:=hb1;clear hb1;go_wp2_with fail;refine(ZB _ _ oo).mono ?_;rintro e w' ⟨rfl,rfl⟩;go_wp2_with fail;refine(jc _ _ oo oo).mono ?_;rintro e w2 ⟨rfl,hb2⟩;have hz2:=hb2.size;have g2:Below w.heap.size w w2:=g1.trans (hb2.mono oo);clear hb2 g1;go_wp2;go_ret;exact⟨vZ (by simp [uu]),g2⟩
theorem ZM (k f t s:Int)(nm d:Bs)(w:World)(hn:nm.length≤9223372036854775807)(hd:d.length≤9223372036854775807):
 Calls Tryz.prog 70 #[.agg #[.int .i64 k,.string ⟨nm.toArray⟩,.int .i64 f,.int .i64 t,.int .i64 s,.string ⟨d.toArray⟩]] w fun e w'=>e= .returned (nR k nm f t s d)∧Below w.heap.size w w':=by
 have hl:=Xw k nm f t s d;go_enter Tryz.func70,Tryz.ntmps70;go_wp2_with fail;refine(mi _ _ _ _ _ _ _ hn hd).mono ?_;rintro e w1 ⟨rfl,hb1⟩;have hz1:=hb1.size;simp only[World.size_alloc] at hz1;have X0_1:=zJ (yl _ _ _) hb1 (by simp);have L0_1:w.heap.size<w1.heap.size:=oo;have g1:Below w.heap.size w w1:=((Below.refl _ _).alloc (Nat.le_refl _) _).trans (hb1.mono (by simp));clear hb1;by_cases hv:uM k nm f t s d
 ·have hdv:decide (uM k nm f t s d)=true:=by simpa using hv
  have HV:=Go.Lib.hid hv;clear hv;go_wp2_with fail;refine(uO _ _ _ _ _ _ _ hn hd).mono ?_;rintro e w2 ⟨rfl,hb2⟩;have hz2:=hb2.size;have X0_2:=zJ X0_1 hb2 L0_1;have L0_2:w.heap.size<w2.heap.size:=oo;have g2:Below w.heap.size w w2:=g1.trans (hb2.mono oo);clear hb2 X0_1 L0_1 g1;go_wp2_with fail;refine(iM _ _ oo).mono ?_;rintro e w3 ⟨rfl,hb3⟩;have hz3:=hb3.size;have X0_3:=zJ X0_2 hb3 L0_2;have L0_3:w.heap.size<w3.heap.size:=oo;have g3:Below w.heap.size w w3:=g2.trans (hb3.mono oo);clear hb3 X0_2 L0_2 g2;go_wp2;go_ret2;exact⟨by rw[nR,if_pos HV.out];rfl,g3⟩
 ·have hdv:decide (uM k nm f t s d)=false:=by simpa using hv
  have HV:=Go.Lib.hid hv;clear hv;go_wp2;go_ret2;exact⟨by rw[nR,if_neg HV.out];rfl,g1⟩
theorem YI (k f t s:Int)(nm d:Bs)(w:World)(B:Nat)(hB:B≤w.heap.size)(hT:uD B w)(hn:nm.length≤9223372036854775807)(hd:d.length≤9223372036854775807):
 Calls Tryz.prog 15 #[.agg #[.int .i64 k,.string ⟨nm.toArray⟩,.int .i64 f,.int .i64 t,.int .i64 s,.string ⟨d.toArray⟩]] w fun e w'=>e= .returned (nR k nm f t s d)∧Below w.heap.size w w':=by
 have HT:=Go.Lib.hid hT;clear hT;have hl:=Xw k nm f t s d;have hs:=uH (yU k nm f t s d);obtain⟨hs0,hs1⟩:=hs;have T1:(two (yU k nm f t s d).length).length≤2:=Nat.le_refl 2;have T2:(two (sumOf (yU k nm f t s d))).length≤2:=Nat.le_refl 2;go_enter Tryz.func15,Tryz.ntmps15;go_wp2_with fail;refine(lY _ _ _ _ _ _ _ hn hd).mono ?_;rintro e w1 ⟨rfl,hb1⟩;have hz1:=hb1.size;simp only[World.size_alloc] at hz1;have X0_1:=zJ (yl _ _ _) hb1 (by simp);have L0_1:w.heap.size<w1.heap.size:=oo;have g1:Below w.heap.size w w1:=((Below.refl _ _).alloc (Nat.le_refl _) _).trans (hb1.mono (by simp));clear hb1;by_cases hv:uM k nm f t s d
 ·have hdv:decide (uM k nm f t s d)=true:=by simpa using hv
  have HV:=Go.Lib.hid hv;clear hv;go_wp2_with fail;refine(Vw _ _ _ _ _ _ _ B oo (HT.out.on (g1.mono hB)) hn hd).mono ?_;rintro e w2 ⟨rfl,hb2⟩;have hz2:=hb2.size;have X0_2:=zJ X0_1 hb2 L0_1;have L0_2:w.heap.size<w2.heap.size:=oo;have g2:Below w.heap.size w w2:=g1.trans (hb2.mono oo);clear hb2 X0_1 L0_1 g1;go_wp2_with fail;refine(two_any _ _ oo oo).mono ?_;rintro e w3 ⟨rfl,hb3⟩;have hz3:=hb3.size;have X0_3:=zJ X0_2 hb3 L0_2;have L0_3:w.heap.size<w3.heap.size:=oo;have g3:Below w.heap.size w w3:=g2.trans (hb3.mono oo);clear hb3 X0_2 L0_2 g2;go_wp2_with fail;refine(qE _ _ oo).mono ?_;rintro e w' ⟨rfl,rfl⟩;go_wp2_with fail;refine(two_any _ _ oo oo).mono ?_;rintro e w4 ⟨rfl,hb4⟩;have hz4:=hb4.size;have X0_4:=zJ X0_3 hb4 L0_3;have L0_4:w.heap.size<w4.heap.size:=oo;have g4:Below w.heap.size w w4:=g3.trans (hb4.mono oo);clear hb4 X0_3 L0_3 g3;go_wp2;go_ret2;exact⟨by rw[nR,if_pos HV.out];simp [uu],g4⟩
 ·have hdv:decide (uM k nm f t s d)=false:=by simpa using hv
  have HV:=Go.Lib.hid hv;clear hv;go_wp2;go_ret2;exact⟨by rw[nR,if_neg HV.out];rfl,g1⟩
set_option maxRecDepth 100000
def xG (o:Option Int):Ending:=.returned (.tuple #[.int .i64 (o.getD 0),.bool o.isSome])
theorem oq (r:Bs)(k n:Nat)(h:k<r.length)(hn:Lib.decFrom 0 (r.take k)=some n)(h1:48≤byteAt r k)(h2:byteAt r k≤57):Lib.decFrom 0 (r.take (k+1))=some (n*10+(byteAt r k - 48).toNat):=by
 rw[List.take_succ_eq_append_getElem h,nU,hn];rw[zX r k h] at h1 h2⊢;have:Lib.digitVal r[k]=some (r[k].toNat - 48):=(by unfold Lib.digitVal;rw[if_pos (by omega)]);rw[this];simp;omega
theorem pV :∀(r:Bs) (k acc:Nat),k<r.length→(byteAt r k<48∨57<byteAt r k)→Lib.decFrom acc r=none
 |[],k,acc,h,_=>by simp at h
 |c::r,0,acc,_,hb=>by
  have:Lib.digitVal c=none:=by
   unfold Lib.digitVal;have:byteAt (c::r) ((0:Nat):Int)=(c.toNat:Int):=(by simp [byteAt]);rw[this] at hb;rw[if_neg (by omega)]
  unfold Lib.decFrom;rw[this]
 |c::r,k+1,acc,h,hb=>by
  have e:byteAt (c::r) ((k+1:Nat):Int)=byteAt r (k:Int):=(by simp [byteAt]);rw[e] at hb;unfold Lib.decFrom
  cases Lib.digitVal c with
  |none=>rfl
  |some d=>exact pV r k _ (by simpa using h) hb
theorem WB :∀k,k≤17→10 ^ k≤100000000000000000:=by
 intro k hk;have:(10:Nat) ^ k≤10 ^ 17:=Nat.pow_le_pow_right oo hk;omega
theorem Sz (r:Bs)(w:World)(hl:r.length≤4000000):
 Calls Tryz.prog 85 #[.string ⟨(45::r:Bs).toArray⟩] w fun e w'=>e=xG (sO true r)∧w=w':=by
 have hb:byteAt (45::r) 0=45:=rfl;have hb2:(byteAt (45::r) 0==45)=true:=rfl;have hx:(⟨(45::r:Bs).toArray⟩:ByteArray).extract 1 (r.length+1)=⟨r.toArray⟩:=by
  rw[ByteArray.extract_mk];simp
 by_cases h0:r.length=0
 ·have HR:Hid (xG (sO true r)= .returned (.tuple #[.int .i64 0,.bool false])):=by
   show _=_;unfold sO;rw[if_pos (.inl h0)];rfl
  have h0':((r.length:Int)==0)=true:=(by simp;exact List.eq_nil_of_length_eq_zero h0);go_enter Tryz.func85,Tryz.ntmps85;go_wp2;exact bodyPost_ret (v:=.tuple #[.int .i64 0,.bool false]) (by simp [results,Tryz.results85,go_sem]) rfl ⟨HR.out.symm,rfl⟩
 by_cases h17:17<r.length
 ·have HR:Hid (xG (sO true r)= .returned (.tuple #[.int .i64 0,.bool false])):=by
   show _=_;unfold sO;rw[if_pos (.inr (.inl h17))];rfl
  have h0':((r.length:Int)==0)=false:=(by rw[beq_eq_false_iff_ne];omega);have h17':(17:Int)<r.length:=oo;go_enter Tryz.func85,Tryz.ntmps85;go_wp2;exact bodyPost_ret (v:=.tuple #[.int .i64 0,.bool false]) (by simp [results,Tryz.results85,go_sem]) rfl ⟨HR.out.symm,rfl⟩
 have h0':((r.length:Int)==0)=false:=(by rw[beq_eq_false_iff_ne];omega);have h17':(r.length:Int)≤17:=oo;have hpos:(0:Int)<r.length:=oo;by_cases hz:byteAt r 0=48∧(1<r.length∨true=true)
 ·have HR:Hid (xG (sO true r)= .returned (.tuple #[.int .i64 0,.bool false])):=by
   show _=_;unfold sO;rw[if_pos (.inr (.inr hz))];rfl
  obtain⟨hz1,hz2⟩:=hz;have hz1':(byteAt r 0==48)=true:=(by rw[hz1];rfl);clear hz1;go_enter Tryz.func85,Tryz.ntmps85;by_cases h1:1<r.length
  ·have h1':(1:Int)<r.length:=oo
   go_wp2;exact bodyPost_ret (v:=.tuple #[.int .i64 0,.bool false]) (by simp [results,Tryz.results85,go_sem]) rfl ⟨HR.out.symm,rfl⟩
  ·go_wp2
   exact bodyPost_ret (v:=.tuple #[.int .i64 0,.bool false]) (by simp [results,Tryz.results85,go_sem]) rfl ⟨HR.out.symm,rfl⟩
 have HG:Hid (sO true r=(Lib.decFrom 0 r).map fun n=>if true=true then -(n:Int) else n):=by
  show _=_;unfold sO;rw[if_neg];rintro(h|h|h)
  ·exact h0 h
  ·exact h17 h
  ·exact hz h
 have h48':(byteAt r 0==48)=false:=by
  rw[beq_eq_false_iff_ne];exact fun e=>hz ⟨e,.inr rfl⟩
 clear hz;go_enter Tryz.func85,Tryz.ntmps85;go_wp2;go_loop [5,6] (fun a b=>∃k n:Nat,k≤r.length∧b= .int .i64 k∧a= .int .i64 n∧n<10 ^ k∧Hid (Lib.decFrom 0 (r.take k)=some n)) (fun _ b=>r.length - (intOf b).toNat)
 case atStart=>exact⟨0,0,by omega,rfl,rfl,by decide,by show _=_;simp [Lib.decFrom]⟩
 case round=>
  obtain⟨k,n,hk,rfl,rfl,hn,hd⟩:=hrel;have hten:=WB k oo;by_cases hlt:k<r.length
  ·have hb0:=zL r k
   have hb1:=yu r k;have ha:(k:Int)<r.length:=oo;by_cases hdig:48≤byteAt r k∧byteAt r k≤57
   ·obtain⟨hd1,hd2⟩:=hdig
    have HD:=Go.Lib.hid (oq r k n hlt hd.out hd1 hd2);have hpk:(10:Nat) ^ (k+1)=10 ^ k*10:=Nat.pow_succ 10 k;go_wp2;go_round
    case rel=>exact⟨k+1,n*10+(byteAt r k - 48).toNat,oo,by go_num,by go_num,oo,HD⟩
    case measure=>simp [intOf];omega
   ·have HR:Hid (xG (sO true r)= .returned (.tuple #[.int .i64 0,.bool false])):=by
     show _=_;rw[HG.out,pV r k 0 hlt (by omega)];rfl
    by_cases h48:48≤byteAt r k
    ·have h57:57<byteAt r k:=oo
     go_wp2;exact bodyPost_ret (v:=.tuple #[.int .i64 0,.bool false]) (by simp [results,Tryz.results85,go_sem]) rfl ⟨HR.out.symm,rfl⟩
    ·go_wp2
     exact bodyPost_ret (v:=.tuple #[.int .i64 0,.bool false]) (by simp [results,Tryz.results85,go_sem]) rfl ⟨HR.out.symm,rfl⟩
  ·have HR:Hid (xG (sO true r)= .returned (.tuple #[.int .i64 (-(n:Int)),.bool true])):=by
    show _=_;have e:r.take k=r:=List.take_of_length_le oo;have:=hd.out;rw[e] at this;rw[HG.out,this];rfl
   go_wp2;exact bodyPost_ret (v:=.tuple #[.int .i64 (-(n:Int)),.bool true]) (by simp [results,Tryz.results85,go_sem]) rfl ⟨HR.out.symm,rfl⟩
theorem Ur (r:Bs)(w:World)(hl:r.length≤4000000)(hne:¬(0<r.length∧byteAt r 0=45)):
 Calls Tryz.prog 85 #[.string ⟨(r:Bs).toArray⟩] w fun e w'=>e=xG (sO false r)∧w=w':=by
 have hb2:0<r.length→(byteAt r 0==45)=false:=fun h=>(by rw[beq_eq_false_iff_ne];exact fun e=>hne ⟨h,e⟩);have hb1:¬0<r.length→r=[]:=fun h=>List.eq_nil_of_length_eq_zero oo;clear hne;by_cases h0:r.length=0
 ·have HR:Hid (xG (sO false r)= .returned (.tuple #[.int .i64 0,.bool false])):=by
   show _=_;unfold sO;rw[if_pos (.inl h0)];rfl
  have h0':=hb1 oo;subst h0';clear h0 hb1 hb2;go_enter Tryz.func85,Tryz.ntmps85;go_wp2;exact bodyPost_ret (v:=.tuple #[.int .i64 0,.bool false]) (by simp [results,Tryz.results85,go_sem]) rfl ⟨HR.out.symm,rfl⟩
 by_cases h17:17<r.length
 ·have HR:Hid (xG (sO false r)= .returned (.tuple #[.int .i64 0,.bool false])):=by
   show _=_;unfold sO;rw[if_pos (.inr (.inl h17))];rfl
  have h0':((r.length:Int)==0)=false:=(by rw[beq_eq_false_iff_ne];omega);have h17':(17:Int)<r.length:=oo;have hb3:=hb2 oo;clear hb2;go_enter Tryz.func85,Tryz.ntmps85;go_wp2;exact bodyPost_ret (v:=.tuple #[.int .i64 0,.bool false]) (by simp [results,Tryz.results85,go_sem]) rfl ⟨HR.out.symm,rfl⟩
 have h0':((r.length:Int)==0)=false:=(by rw[beq_eq_false_iff_ne];omega);have h17':(r.length:Int)≤17:=oo;have hpos:(0:Int)<r.length:=oo;have hb3:=hb2 oo;clear hb2 hb1;by_cases hz:byteAt r 0=48∧(1<r.length∨false=true)
 ·have HR:Hid (xG (sO false r)= .returned (.tuple #[.int .i64 0,.bool false])):=by
   show _=_;unfold sO;rw[if_pos (.inr (.inr hz))];rfl
  obtain⟨hz1,hz2⟩:=hz;have hz1':(byteAt r 0==48)=true:=(by rw[hz1];rfl);clear hz1;have h1':(1:Int)<r.length:=by
   rcases hz2 with h|h
   ·omega
   ·cases h
  go_enter Tryz.func85,Tryz.ntmps85;go_wp2;exact bodyPost_ret (v:=.tuple #[.int .i64 0,.bool false]) (by simp [results,Tryz.results85,go_sem]) rfl ⟨HR.out.symm,rfl⟩
 have HG:Hid (sO false r=(Lib.decFrom 0 r).map fun n=>if false=true then -(n:Int) else n):=by
  show _=_;unfold sO;rw[if_neg];rintro(h|h|h)
  ·exact h0 h
  ·exact h17 h
  ·exact hz h
 by_cases h48:byteAt r 0=48
 ·have h48':(byteAt r 0==48)=true:=by rw[h48];rfl
  have h1':(r.length:Int)≤1:=by
   have:=fun h=>hz ⟨h48,.inl h⟩;omega
  clear h48 hz;go_enter Tryz.func85,Tryz.ntmps85;go_wp2;go_loop [5,6] (fun a b=>∃k n:Nat,k≤r.length∧b= .int .i64 k∧a= .int .i64 n∧n<10 ^ k∧Hid (Lib.decFrom 0 (r.take k)=some n)) (fun _ b=>r.length - (intOf b).toNat)
  case atStart=>exact⟨0,0,by omega,rfl,rfl,by decide,by show _=_;simp [Lib.decFrom]⟩
  case round=>
   obtain⟨k,n,hk,rfl,rfl,hn,hd⟩:=hrel;have hten:=WB k oo;by_cases hlt:k<r.length
   ·have hb0:=zL r k
    have hb1:=yu r k;have ha:(k:Int)<r.length:=oo;by_cases hdig:48≤byteAt r k∧byteAt r k≤57
    ·obtain⟨hd1,hd2⟩:=hdig
     have HD:=Go.Lib.hid (oq r k n hlt hd.out hd1 hd2);have hpk:(10:Nat) ^ (k+1)=10 ^ k*10:=Nat.pow_succ 10 k;go_wp2;go_round
     case rel=>exact⟨k+1,n*10+(byteAt r k - 48).toNat,oo,by go_num,by go_num,oo,HD⟩
     case measure=>simp [intOf];omega
    ·have HR:Hid (xG (sO false r)= .returned (.tuple #[.int .i64 0,.bool false])):=by
      show _=_;rw[HG.out,pV r k 0 hlt (by omega)];rfl
     by_cases h48:48≤byteAt r k
     ·have h57:57<byteAt r k:=oo
      go_wp2;exact bodyPost_ret (v:=.tuple #[.int .i64 0,.bool false]) (by simp [results,Tryz.results85,go_sem]) rfl ⟨HR.out.symm,rfl⟩
     ·go_wp2
      exact bodyPost_ret (v:=.tuple #[.int .i64 0,.bool false]) (by simp [results,Tryz.results85,go_sem]) rfl ⟨HR.out.symm,rfl⟩
   ·have HR:Hid (xG (sO false r)= .returned (.tuple #[.int .i64 ((n:Int)),.bool true])):=by
     show _=_;have e:r.take k=r:=List.take_of_length_le oo;have:=hd.out;rw[e] at this;rw[HG.out,this];rfl
    go_wp2;exact bodyPost_ret (v:=.tuple #[.int .i64 ((n:Int)),.bool true]) (by simp [results,Tryz.results85,go_sem]) rfl ⟨HR.out.symm,rfl⟩
 ·have h48':(byteAt r 0==48)=false:=by rw[beq_eq_false_iff_ne];exact h48
  clear h48 hz;go_enter Tryz.func85,Tryz.ntmps85;go_wp2;go_loop [5,6] (fun a b=>∃k n:Nat,k≤r.length∧b= .int .i64 k∧a= .int .i64 n∧n<10 ^ k∧Hid (Lib.decFrom 0 (r.take k)=some n)) (fun _ b=>r.length - (intOf b).toNat)
  case atStart=>exact⟨0,0,by omega,rfl,rfl,by decide,by show _=_;simp [Lib.decFrom]⟩
  case round=>
   obtain⟨k,n,hk,rfl,rfl,hn,hd⟩:=hrel;have hten:=WB k oo;by_cases hlt:k<r.length
   ·have hb0:=zL r k
    have hb1:=yu r k;have ha:(k:Int)<r.length:=oo;by_cases hdig:48≤byteAt r k∧byteAt r k≤57
    ·obtain⟨hd1,hd2⟩:=hdig
     have HD:=Go.Lib.hid (oq r k n hlt hd.out hd1 hd2);have hpk:(10:Nat) ^ (k+1)=10 ^ k*10:=Nat.pow_succ 10 k;go_wp2;go_round
     case rel=>exact⟨k+1,n*10+(byteAt r k - 48).toNat,oo,by go_num,by go_num,oo,HD⟩
     case measure=>simp [intOf];omega
    ·have HR:Hid (xG (sO false r)= .returned (.tuple #[.int .i64 0,.bool false])):=by
      show _=_;rw[HG.out,pV r k 0 hlt (by omega)];rfl
     by_cases h48:48≤byteAt r k
     ·have h57:57<byteAt r k:=oo
      go_wp2;exact bodyPost_ret (v:=.tuple #[.int .i64 0,.bool false]) (by simp [results,Tryz.results85,go_sem]) rfl ⟨HR.out.symm,rfl⟩
     ·go_wp2
      exact bodyPost_ret (v:=.tuple #[.int .i64 0,.bool false]) (by simp [results,Tryz.results85,go_sem]) rfl ⟨HR.out.symm,rfl⟩
   ·have HR:Hid (xG (sO false r)= .returned (.tuple #[.int .i64 ((n:Int)),.bool true])):=by
     show _=_;have e:r.take k=r:=List.take_of_length_le oo;have:=hd.out;rw[e] at this;rw[HG.out,this];rfl
    go_wp2;exact bodyPost_ret (v:=.tuple #[.int .i64 ((n:Int)),.bool true]) (by simp [results,Tryz.results85,go_sem]) rfl ⟨HR.out.symm,rfl⟩
theorem oU (l:Bs)(w:World)(hl:l.length≤4000000):
 Calls Tryz.prog 85 #[.string ⟨l.toArray⟩] w fun e w'=>e=xG (nD l)∧w=w':=by
 unfold nD;by_cases hneg:0<l.length∧byteAt l 0=45
 ·rw[if_pos hneg]
  cases l with
  |nil=>simp at hneg
  |cons c r=>
   have hc:c=45:=by
    have:=hneg.2;unfold byteAt at this;simp at this;exact UInt8.toNat_inj.1 (by show c.toNat=45;omega)
   subst hc;exact Sz r w (by simp at hl;omega)
 ·rw[if_neg hneg]
  exact Ur l w hl hneg
end Go.Proofs.YtfppmajoidkooaaGreatDoor
