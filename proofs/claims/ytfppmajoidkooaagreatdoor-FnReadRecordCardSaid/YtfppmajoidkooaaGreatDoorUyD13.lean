import Derived.Test.YtfppmajoidkooaaGreatDoorUyGD2
import Derived.Test.YtfppmajoidkooaaGreatDoorUyD8
import Derived.Deep.Cut
set_option maxHeartbeats 8000000
namespace Go.Proofs.YtfppmajoidkooaaGreatDoor
open Go.RowKit
set_option linter.unusedSimpArgs false
set_option linter.unusedVariables false
set_option maxRecDepth 100000
attribute [local go_sem high] zy zA zB zO zK zY zx zk zl zq zi zo yP zD yt zF
theorem sv_ext_from2 (p:Bs)(n:Nat):(ByteArray.mk p.toArray).extract n p.length=⟨(p.drop n).toArray⟩:=by
 rw[ByteArray.extract_mk];simp;rw[List.take_of_length_le (by simp)]
attribute [local go_sem high] zy zA zB zO zK zY zx zk zl zq zi zo yP zD yt zF
theorem l8BadLog_any (r M:Nat)(l:Bs)(w:World)(hR:Rd w r M)(hM:M≤30000000)(hl:l.length≤100000):
 Calls Tryz.prog 44 #[.pointer (some ⟨r,0,none⟩),sv l] w fun e w'=>(∃x:Bs,e= .returned (sv x)∧x.length≤l.length+10)∧Rd w' r (M+20)∧BelowR w.heap.size r w w':=by
 have hr:=hR.lt;have R0:=hR;have g0:=BelowR.refl w.heap.size r w;go_enter Tryz.func44,Tryz.ntmps44;go_wp2_with fail;refine(pick_any r M (l.length+1) _ R0 (by omega) (by omega) (by omega)).mono ?_;rintro e w1 ⟨⟨v,rfl,hv0,hv1⟩,R1,b1⟩;have z1:=b1.size;try simp only[World.size_alloc,World.size_setCell,World.size_drew] at z1
 have g1:=g0.trans (b1.mono (by first|omega|(simp;done)|(simp;omega)));clear b1 g0;obtain⟨n,rfl⟩:=Int.eq_ofNat_of_zero_le hv0;have hn:n≤l.length:=(by omega);have hni:(n:Int)≤l.length:=(by omega);clear hv0 hv1;go_wp2_with fail;refine(pick_any r _ 5 _ R1 (by omega) (by omega) (by omega)).mono ?_;rintro e w2 ⟨⟨k,rfl,hk0,hk1⟩,R2,b2⟩;have z2:=b2.size;try simp only[World.size_alloc,World.size_setCell,World.size_drew] at z2
 have g2:=g1.trans (b2.mono (by first|omega|(simp;done)|(simp;omega)));clear b2 g1;by_cases h0:k=0
 ·subst h0
  go_wp2;go_ret;exact⟨⟨l.take n,(by simp [sv]),by simp;omega⟩,R2.mono (by omega),g2⟩
 have hkb:(k==0)=false:=(by rw[beq_eq_false_iff_ne];exact h0);by_cases h1:k=1
 ·subst h1
  by_cases hlt:n<l.length
  ·have hlti:(n:Int)<l.length:=by omega
   have ht1:(l.take n).length≤100000:=(by simp;omega);have ht2:(l.drop (n+1)).length≤100000:=(by simp;omega);have hw2:((n:Int)+1).toNat=n+1:=(by omega);have hext:=sv_ext_from2 l (n+1);have hs1:¬9223372036854775807<n+1:=(by omega);have hs2:¬9223372036854775807<n+1+(l.length - (n+1)):=(by omega);have hw1:IntKind.i64.wrap ((n:Int)+1)=(n:Int)+1:=IntWalk.i64_in _ (by omega);go_wp2_with fail;go_region_with(go_at_call 42;refine(pick_any r _ 256 _ (Rd.drew R2) (by omega) (by omega) (by omega)).mono ?_;rintro e w3 ⟨⟨v,rfl,hv0,hv1⟩,R3,b3⟩;have z3:=b3.size;simp only[World.size_drew] at z3;have g3:=(BelowR.drew g2).trans (b3.mono (by simp;omega)))
   all_goals
    go_wp2;go_ret;refine⟨⟨_,rfl,?_⟩,(R3.alloc _).mono (by omega),g3.alloc (by omega) _⟩;simp;omega
  ·have hlti:¬(n:Int)<l.length:=by omega
   go_wp2;go_ret;exact⟨⟨l,rfl,by omega⟩,R2.mono (by omega),g2⟩
 have hkb1:(k==1)=false:=(by rw[beq_eq_false_iff_ne];exact h1);by_cases h2:k=2
 ·subst h2
  go_wp2_with fail;refine(l1Bytes_any r _ 8 _ R2 (by omega) (by omega)).mono ?_;rintro e w3 ⟨⟨d,rfl,hd⟩,R3,b3⟩;have z3:=b3.size;try simp only[World.size_alloc,World.size_setCell,World.size_drew] at z3
  have g3:=g2.trans (b3.mono (by first|omega|(simp;done)|(simp;omega)));clear b3 g2;have hq:¬9223372036854775807<l.length+d.length:=(by omega);go_wp2;go_ret;exact⟨⟨l++d,(by simp [sv]),by simp;omega⟩,R3.mono (by omega),g3⟩
 have hkb2:(k==2)=false:=(by rw[beq_eq_false_iff_ne];exact h2);go_wp2;go_ret;exact⟨⟨l,rfl,by omega⟩,R2.mono (by omega),g2⟩
theorem drawReadRecord_any (bs:Bs)(A:Option Addr)(cap:Nat)(w:World)(hs:Sl w A bs.length cap 1 (bs.map u8v)):
 Calls Tryz.prog 12 #[.slice A bs.length cap] w fun e w'=>(∃(log:Bs) (a:Int),e= .returned (.tuple #[sv log,.int .i64 a])∧log.length≤30010∧ -9223372036854775808≤a∧a≤9223372036854775807)∧Below w.heap.size w w':=by
 go_enter Tryz.func12,Tryz.ntmps12;go_wp2_with fail;refine(l9Open_any bs A cap _ hs).mono ?_;rintro e w1 ⟨rfl,R1,hb1⟩;have z1:=hb1.size;have g1:BelowR w.heap.size w.heap.size w w1:=below_toR hb1 _;clear hb1 hs;generalize hr0:w.heap.size=r at*;have hrl:=R1.lt;go_wp2_with fail;refine(l8Log_any r _ _ R1 (by omega)).mono ?_;rintro e w2 ⟨⟨o,l,m,dict,log,rfl,hst,hdl,hll⟩,R2,b2⟩;have z2:=b2.size;try simp only[World.size_alloc,World.size_setCell,World.size_drew] at z2
 have g2:=g1.trans (b2.mono (by first|omega|(simp;done)|(simp;omega)));clear b2 g1;have R3:=R2.alloc (.cells #[.int .i64 o,.int .i64 l,.int .i64 m] 39);have g3:=g2.alloc (by omega) (.cells #[.int .i64 o,.int .i64 l,.int .i64 m] 39);clear R2 g2 hst hdl;go_upto_region 3 with(fail)
 generalize w2.alloc (.cells #[.int .i64 o,.int .i64 l,.int .i64 m] 39)=w3 at*;have hrl3:=R3.lt;go_wp2_with fail;refine(pick_any r _ 4 _ R3 (by omega) (by omega) (by omega)).mono ?_;rintro e w4 ⟨⟨n0,rfl,hn0,hn1⟩,R4,b4⟩;have z4:=b4.size;try simp only[World.size_alloc,World.size_setCell,World.size_drew] at z4
 have g4:=g3.trans (b4.mono (by first|omega|(simp;done)|(simp;omega)));clear b4 g3;obtain⟨n,rfl⟩:=Int.eq_ofNat_of_zero_le hn0;have hnm:n≤3:=(by omega);clear hn0 hn1;go_wp2;go_loopw [8,9] (fun x a wr=>∃(k p:Nat),x= .int .i64 (p:Int)∧a= .int .i64 (k:Int)∧k≤3∧p≤log.length∧Rd wr r 1001∧BelowR r r w wr) (fun _ a _=>(intOf a).toNat)
 case atStart=>exact⟨n,0,rfl,rfl,hnm,by omega,R4.mono (by omega),g4⟩
 case round=>
  obtain⟨k,p,rfl,rfl,hk3,hp,R5,g5⟩:=hrel;clear R4 g4;have z5:=g5.size;have hrl5:=R5.lt;by_cases hk:0<k
  ·have hki:(0:Int)<k:=by omega
   have HRD:Go.RowKit.Hid (∀x e,yh log (p:Int)=some (x,e)→∃j:Nat,e=(j:Int)∧j≤log.length):=fun x e h=>by
    obtain⟨n',hn',hx,he,hle,_⟩:=sS h;exact⟨n'+(vg x).length,by omega,by omega⟩
   go_wp2_with fail;refine(ay log (p:Int) wr (by omega) (by omega) (by omega)).mono ?_;rintro e w6 ⟨rfl,b6⟩;have z6:=b6.size;have R6:=R5.keep b6;have g6:=g5.trans (below_toR (b6.mono (by omega)) r)
   cases hr:yh log (p:Int) with
   |none=>
    rw[show qf none= .returned (.tuple #[.agg #[.int .i64 0,.string ⟨#[]⟩,.int .i64 0,.int .i64 0,.int .i64 0,.string ⟨#[]⟩],.int .i64 0,.bool false]) from rfl];have R7:=R6.alloc (.cells #[.int .i64 0,.string ⟨#[]⟩,.int .i64 0,.int .i64 0,.int .i64 0,.string ⟨#[]⟩] 26);have g7:=g6.alloc (by omega) (.cells #[.int .i64 0,.string ⟨#[]⟩,.int .i64 0,.int .i64 0,.int .i64 0,.string ⟨#[]⟩] 26);clear R5 g5 R6 g6 b6 hr HRD;go_upto_region 8 with(fail)
    generalize w6.alloc (.cells #[.int .i64 0,.string ⟨#[]⟩,.int .i64 0,.int .i64 0,.int .i64 0,.string ⟨#[]⟩] 26)=w7 at*;go_wp2;go_roundw
    case rel=>exact⟨k - 1,p,rfl,by go_num,by omega,hp,R7,g7⟩
    case measure=>simp [intOf];omega
   |some q=>
    obtain⟨x,e⟩:=q;obtain⟨j,rfl,hj⟩:=HRD.out x e hr;rw[Zo];obtain⟨xk,xf,xt,xs,xn,xd⟩:=x;have R7:=R6.alloc (.cells #[.int .i64 xk,.string ⟨xn.toArray⟩,.int .i64 xf,.int .i64 xt,.int .i64 xs,.string ⟨xd.toArray⟩] 26);have g7:=g6.alloc (by omega) (.cells #[.int .i64 xk,.string ⟨xn.toArray⟩,.int .i64 xf,.int .i64 xt,.int .i64 xs,.string ⟨xd.toArray⟩] 26);clear R5 g5 R6 g6 b6 hr HRD;go_upto_region 8 with(fail)
    generalize w6.alloc (.cells #[.int .i64 xk,.string ⟨xn.toArray⟩,.int .i64 xf,.int .i64 xt,.int .i64 xs,.string ⟨xd.toArray⟩] 26)=w7 at*;go_wp2;go_roundw
    case rel=>exact⟨k - 1,j,rfl,by go_num,by omega,hj,R7,g7⟩
    case measure=>simp [intOf];omega
  ·have hki:¬(0:Int)<k:=by omega
   clear hk;have cB:=fun w M h hM=>l8BadLog_any r M log w h hM (by omega);go_wp2_with fail;refine(pick_any r _ 10 _ R5 (by omega) (by omega) (by omega)).mono ?_;rintro e w6 ⟨⟨v,rfl,hv0,hv1⟩,R6,b6⟩;have z6:=b6.size;have g6:=g5.trans (b6.mono (by omega));clear R5 g5 b6;by_cases hv:v=0
   ·subst hv
    have s6:=Sl.list w6 [.int .i64 (-1),.int .i64 (log.length:Int),.int .i64 ((log.length:Int)+1),.int .i64 9223372036854775807] 3 w6.heap.size 4 rfl rfl (by omega);go_wp2_with fail;refine(num_any r _ [(-1),(log.length:Int),(log.length:Int)+1,9223372036854775807] (some ⟨w6.heap.size,0,none⟩) 4 _ (R6.alloc _) (by omega) s6 (by simp) (by simp) (by rintro g off ⟨⟩;omega)).mono ?_;rintro e w7 ⟨⟨y,hy,rfl⟩,R7,b7⟩;have z7:=b7.size;simp only[World.size_alloc] at z7;have g7:=(g6.alloc (by omega) _).trans (b7.mono (by simp;omega));have hyb: -9223372036854775808≤y∧y≤9223372036854775807:=by
     simp only[List.mem_cons,List.not_mem_nil,or_false] at hy;rcases hy with h|h|h|h<;>omega
    clear hy s6 g6 b7;go_wp2_with fail;refine(cB _ _ R7 (by omega)).mono ?_;rintro e w8 ⟨⟨x,rfl,hx⟩,R8,b8⟩;have g8:=g7.trans (b8.mono (by omega));go_wp2;exact bodyPost_ret (v:=.tuple #[sv x,.int .i64 y]) (by simp [results,Tryz.results12,go_sem]) rfl ⟨⟨x,y,rfl,by omega,hyb.1,hyb.2⟩,(by rw[hr0];exact g8.below (Nat.le_refl _))⟩
   ·have hvb:(v==0)=false:=by rw[beq_eq_false_iff_ne];exact hv
    go_wp2_with fail;refine(cB _ _ R6 (by omega)).mono ?_;rintro e w8 ⟨⟨x,rfl,hx⟩,R8,b8⟩;have g8:=g6.trans (b8.mono (by omega));go_wp2;exact bodyPost_ret (v:=.tuple #[sv x,.int .i64 (p:Int)]) (by simp [results,Tryz.results12,go_sem]) rfl ⟨⟨x,p,rfl,by omega,by omega,by omega⟩,(by rw[hr0];exact g8.below (Nat.le_refl _))⟩
end Go.Proofs.YtfppmajoidkooaaGreatDoor
