import Derived.Test.YtoedhpcmgondjaaGreatDoorUJ34
import Derived.Test.YtoedhpcmgondjaaGreatDoorUSs
set_option linter.all false
set_option maxHeartbeats 8000000
namespace Go.Proofs.YtoedhpcmgondjaaGreatDoor
open Go.RowKit Go.Proofs.Tryz
set_option maxRecDepth 100000
attribute [local instance] mU hZ cvZ
attribute [local go_sem high] zA zB zD zS zL yf zC zk zl zt zi zu yR zG yu zH
theorem Qx {o l m:Int}{dict log:Bs} :(rpL o l m dict log=none∧rX o l m dict log=none)∨∃(T:Sto) (b:Nat),rX o l m dict log=some (T,(b:Int))∧rpL o l m dict log=some (log.take b)∧b≤log.length∧T.fs.length≤6∧rX o l m dict (log.take b)=some (T,(b:Int))∧rpL o l m dict (log.take b)=some (log.take b):=by
 unfold rpL
 cases h:rX o l m dict log with
 |none=>exact .inl ⟨rfl,rfl⟩
 |some p=>
  obtain⟨T,n⟩:=p;obtain⟨b,xs,rfl,a⟩:=dA h;have h2:=a.cut.rpl;exact .inr ⟨T,b,rfl,rfl,a.le,a.ok.1.2.1,h2,by rw[h2,Option.map_some,Int.toNat_natCast,List.take_take,Nat.min_self]⟩
theorem YJ (d:Bs)(A:Option Addr)(cap:Nat)(w:World)(a:Ev w)(x:Sl w A d.length cap 1 (d.map u8v)):
 Calls prog 4 #[.slice A d.length cap] w fun e w'=>e= .returned (.bool true)∧Below w.heap.size w w':=by
 have K:=(Kp.base w).and (Kp.of fun wr h=>a.on h);clear a;go_enter func4,ntmps4;by_cases V:1048576<d.length
 ·have b0:(1048576:Int)<d.length:=oo
  go_wp2;go_ret;exact⟨rfl,Below.refl _ _⟩
 have b1:¬(1048576:Int)<d.length:=oo;have s:=fH d A cap w x;unfold DrL at s;clear x V;go_wp2_with fail;refine s.mono ?_;rintro e y ⟨⟨o,l,m,dict,log,rfl,b2,b3⟩,b⟩;have K:=K.step b;have K:=K.box #[o,l,m] 24;clear s b;go_upto_region 4 with(fail)
 generalize y.alloc (.cells #[o,l,m] 24)=w2 at*;generalize y.heap.size=sb at*;have z:=fun w h=>mZ o l m dict log w h oo oo;have t:=fun w=>ZW o l m dict log w oo oo;have j:=fun w h=>qC o l m dict log w h oo oo;have W:=Qx (o:=o) (l:=l) (m:=m) (dict:=dict) (log:=log);obtain⟨⟨_,a⟩,c⟩:=K.now;have X:=c.cell;go_wp2_with fail;refine(z _ a).mono ?_;rintro e w3 ⟨rfl,b⟩;have K:=K.step b;have X:=K.now.2.cell;clear b a c z;unfold yg at t⊢;go_wp2_with fail;refine(t _).mono ?_;rintro e w4 ⟨rfl,b⟩;have K:=K.step b;clear b t X;rcases W with⟨h1,h2⟩|⟨T,n,h1,h2,hn,Z,C,D⟩
 ·rw[h1]
  have g:=K.now.1.1;simp only[Option.getD_none,Option.isSome_none];go_wp2;go_ret;exact⟨rfl,g⟩
 have f:=fun w h=>qC o l m dict (log.take n) w h (by omega) (by rw[List.length_take];omega);have i:=fun w h=>mZ o l m dict (log.take n) w h (by omega) (by rw[List.length_take];omega);have u:=fun A B ca cb w ha hb=>Yq T A B ca cb w ha hb oo;rw[h2];rw[h1] at j;rw[C] at f;rw[D] at i;unfold NS LW at j f;unfold yg at i;simp only[Option.map_some,Option.getD_some,Option.isSome_some] at j f i⊢;have v:(log.take n).length=n:=(by rw[List.length_take];omega);have a4:Hid (∃Y,log.take n=Y∧log.take Y.length=Y):=⟨_,rfl,by rw[v]⟩;clear h1 h2 C D Z;obtain⟨Y,E,F⟩:=a4;rw[E] at f i v⊢;have a5:=Go.Lib.hid F;have b9:Y.length≤log.length:=oo;subst v;clear E F;obtain⟨k,p,q,r,P⟩:=T;simp only at u;obtain⟨⟨_,a⟩,c⟩:=K.now;have X:=c.cell;go_wp2_with fail;refine(j _ a).mono ?_;rintro e G ⟨H,I,rfl,J,⟨a6,a7⟩,b⟩;have K:=(K.step b).and (Kp.sl (OwC.sl J a6 a7));have K:=K.box #[k,p,q,r,.slice H P.length I] 29;clear b a c J j;go_upto_region 9 with(fail)
 generalize G.alloc (.cells #[k,p,q,r,.slice H P.length I] 29)=w6 at*;generalize G.heap.size=q5 at*;obtain⟨⟨⟨⟨_,a⟩,c⟩,_⟩,_⟩:=K.now;have X:=c.cell;go_wp2_with fail;refine(f _ a).mono ?_;rintro e L ⟨M,N,rfl,O,⟨a8,a9⟩,b⟩;have K:=(K.step b).and (Kp.sl (OwC.sl O a8 a9));have K:=K.box #[k,p,q,r,.slice M P.length N] 29;clear b a c O f;go_upto_region 10 with(fail)
 generalize L.alloc (.cells #[k,p,q,r,.slice M P.length N] 29)=w8 at*;generalize L.heap.size=q7 at*;obtain⟨⟨⟨⟨⟨⟨_,a⟩,c⟩,_⟩,_⟩,_⟩,_⟩:=K.now;have X:=c.cell;go_wp2_with fail;refine(i _ a).mono ?_;rintro e w9 ⟨rfl,b⟩;have K:=K.step b;clear b a c i X;obtain⟨⟨⟨⟨_,Q⟩,R⟩,S⟩,U⟩:=K.now;have X:=R.cell;have a':=U.cell;go_wp2_with fail;refine(u _ _ _ _ _ Q S).mono ?_;rintro e c4 ⟨rfl,b⟩;have g:=(K.step b).now.1.1.1.1.1.1;clear b Q R S U X a' u K;go_wp2;go_ret;exact⟨by simp [a5.out],g⟩
