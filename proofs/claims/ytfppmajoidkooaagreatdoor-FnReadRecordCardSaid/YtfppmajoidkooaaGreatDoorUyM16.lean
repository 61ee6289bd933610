import Derived.Test.YtfppmajoidkooaaGreatDoorRows
import Derived.WalkKit
import Derived.Laws.StructEq
import Derived.Test.YtfppmajoidkooaaGreatDoorUyD13
import Derived.Test.YtfppmajoidkooaaGreatDoorUEv
import Derived.Test.YtfppmajoidkooaaGreatDoorUyD8
import Derived.Test.YtfppmajoidkooaaGreatDoorUQ15
import Derived.Deep.Cut
set_option maxHeartbeats 8000000
namespace Go.Proofs.YtfppmajoidkooaaGreatDoor
set_option maxRecDepth 100000
theorem stood_Op :Tryz.prog.stoodInHeld 26=false:=by kernel_rfl
theorem guard_Op :Tryz.prog.eqGuardType Tryz.prog.depth 26=false:=by kernel_rfl
open Go.RowKit
set_option linter.unusedSimpArgs false
set_option linter.unusedVariables false
set_option maxRecDepth 100000
attribute [local go_sem high] zy zA zB zO zK zY zx zk zl zq zi zo yP zD yt zF
theorem law_ReadRecord (bs:Bs)(A:Option Addr)(cap:Nat)(w:World)(hev:Ev w)(hs:Sl w A bs.length cap 1 (bs.map u8v)):
 Calls Tryz.prog 3 #[.slice A bs.length cap] w fun e w'=>e= .returned (.bool true)∧Below w.heap.size w w':=by
 have hst:=stood_Op;have hgd:=guard_Op;have HEV:Go.RowKit.Hid (∀wr,Below w.heap.size w wr→Ev wr):=fun wr h=>hev.on h;clear hev;go_enter Tryz.func3,Tryz.ntmps3;by_cases hl0:1048576<bs.length
 ·have hli:(1048576:Int)<bs.length:=by omega
  go_wp2;go_ret;exact⟨rfl,Below.refl _ _⟩
 have hli0:¬(1048576:Int)<bs.length:=(by omega);go_wp2_with fail;refine(drawReadRecord_any bs A cap _ hs).mono ?_;rintro e w1 ⟨⟨log,a,rfl,hll,ha0,ha1⟩,b1⟩;have z1:=b1.size;have cP:=fun w h=>YT log a w h (by omega) ha0 ha1;have cQ:=fun w=>ay log a w (by omega) ha0 ha1;have HBW:Go.RowKit.Hid (∀x e,yh log a=some (x,e)→∃n:Nat,a=n∧x.ok∧e=(n:Int)+(vg x).length∧n+(vg x).length≤log.length∧(log.drop n).take (vg x).length=vg x):=fun x e h=>sS h;clear hs hl0;generalize yh log a=R at*;have hev1:=HEV.out _ b1;go_wp2_with fail;refine(cP _ hev1).mono ?_;rintro e w2 ⟨rfl,b2⟩;have z2:=b2.size;have g2:=b1.trans (b2.mono (by omega));clear cP b1 b2 hev1
 cases R with
 |none=>
  rw[show qf none= .returned (.tuple #[.agg #[.int .i64 0,.string ⟨#[]⟩,.int .i64 0,.int .i64 0,.int .i64 0,.string ⟨#[]⟩],.int .i64 0,.bool false]) from rfl] at*;have hK3:=Bk.new w2 #[.int .i64 0,.string ⟨#[]⟩,.int .i64 0,.int .i64 0,.int .i64 0,.string ⟨#[]⟩] 26;have g3:=g2.alloc (by omega) (.cells #[.int .i64 0,.string ⟨#[]⟩,.int .i64 0,.int .i64 0,.int .i64 0,.string ⟨#[]⟩] 26);clear HBW g2;go_upto_region 5 with(fail)
  generalize w2.alloc (.cells #[.int .i64 0,.string ⟨#[]⟩,.int .i64 0,.int .i64 0,.int .i64 0,.string ⟨#[]⟩] 26)=w3 at*;have z3:=hK3.lt;have g3z:=g3.size;go_wp2_with fail;refine(cQ _).mono ?_;rintro e w4 ⟨rfl,b4⟩;have z4:=b4.size;have hK5:=(hK3.below b4 z3).alloc (.cells #[.int .i64 0,.string ⟨#[]⟩,.int .i64 0,.int .i64 0,.int .i64 0,.string ⟨#[]⟩] 26);have hL5:=Bk.new w4 #[.int .i64 0,.string ⟨#[]⟩,.int .i64 0,.int .i64 0,.int .i64 0,.string ⟨#[]⟩] 26;have g5:=(g3.trans (b4.mono (by omega))).alloc (by omega) (.cells #[.int .i64 0,.string ⟨#[]⟩,.int .i64 0,.int .i64 0,.int .i64 0,.string ⟨#[]⟩] 26);clear hK3 g3 b4 cQ;go_upto_region 6 with(fail)
  generalize w4.alloc (.cells #[.int .i64 0,.string ⟨#[]⟩,.int .i64 0,.int .i64 0,.int .i64 0,.string ⟨#[]⟩] 26)=w5 at*;have X:=hK5.cell;have Y:=hL5.cell;go_wp2;go_ret;exact⟨rfl,g5⟩
 |some p=>
  obtain⟨x,e⟩:=p;obtain⟨n,rfl,hok,rfl,hle,hsl⟩:=HBW.out x e rfl;rw[Zo] at*;have cL:=fun w h=>WH x w h (by have:=qx hok.1;omega) (by have:=hok.2.1;omega);rw[show YZ x=some (vg x) from by unfold YZ;rw[if_pos hok]] at cL;simp only[Option.getD_some,Option.isSome_some] at cL;have HSL:=Go.Lib.hid hsl;have hcast:(n:Int)+(vg x).length=((n+(vg x).length:Nat):Int):=(by push_cast;rfl);rw[hcast] at cQ⊢;clear HBW hok hsl hcast;generalize vg x=rc at*;obtain⟨xk,xf,xt,xs,xn,xd⟩:=x;have hK3:=Bk.new w2 #[.int .i64 xk,.string ⟨xn.toArray⟩,.int .i64 xf,.int .i64 xt,.int .i64 xs,.string ⟨xd.toArray⟩] 26;have g3:=g2.alloc (by omega) (.cells #[.int .i64 xk,.string ⟨xn.toArray⟩,.int .i64 xf,.int .i64 xt,.int .i64 xs,.string ⟨xd.toArray⟩] 26);clear g2;go_upto_region 5 with(fail)
  generalize w2.alloc (.cells #[.int .i64 xk,.string ⟨xn.toArray⟩,.int .i64 xf,.int .i64 xt,.int .i64 xs,.string ⟨xd.toArray⟩] 26)=w3 at*;have z3:=hK3.lt;have g3z:=g3.size;go_wp2_with fail;refine(cQ _).mono ?_;rintro e w4 ⟨rfl,b4⟩;have z4:=b4.size;have hK5:=(hK3.below b4 z3).alloc (.cells #[.int .i64 xk,.string ⟨xn.toArray⟩,.int .i64 xf,.int .i64 xt,.int .i64 xs,.string ⟨xd.toArray⟩] 26);have hL5:=Bk.new w4 #[.int .i64 xk,.string ⟨xn.toArray⟩,.int .i64 xf,.int .i64 xt,.int .i64 xs,.string ⟨xd.toArray⟩] 26;have g5:=(g3.trans (b4.mono (by omega))).alloc (by omega) (.cells #[.int .i64 xk,.string ⟨xn.toArray⟩,.int .i64 xf,.int .i64 xt,.int .i64 xs,.string ⟨xd.toArray⟩] 26);clear hK3 g3 b4 cQ;go_upto_region 6 with(fail)
  generalize w4.alloc (.cells #[.int .i64 xk,.string ⟨xn.toArray⟩,.int .i64 xf,.int .i64 xt,.int .i64 xs,.string ⟨xd.toArray⟩] 26)=w5 at*;have X:=hK5.cell;have Y:=hL5.cell;have hev5:=HEV.out _ g5;have z5:=g5.size;go_wp2_with fail;refine(cL _ hev5.1).mono ?_;rintro e w6 ⟨rfl,b6⟩;have g6:=g5.trans (b6.mono (by omega));clear cL b6 g5 hev5 hK5 hL5 X Y;have hle2:((n+rc.length:Nat):Int)≤log.length:=(by omega);have hsx:(⟨log.toArray⟩:ByteArray).extract n (n+rc.length)=⟨rc.toArray⟩:=(by rw[ByteArray.extract_mk];simp [HSL.out]);go_wp2;go_ret;exact⟨zQ (by first|rfl|simp),g6⟩
end Go.Proofs.YtfppmajoidkooaaGreatDoor
