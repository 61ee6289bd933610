import Derived.Test.YtoedhpcmgondjaaGreatDoorYGW
import Derived.Deep.DeepCutAuto
set_option linter.all false
set_option maxHeartbeats 8000000
namespace Go.Proofs.YtoedhpcmgondjaaGreatDoor
open Go.Lib(hid)
open Go.RowKit Go.Proofs.Tryz
set_option maxRecDepth 100000
attribute [local instance] mU hZ cvZ
attribute [local go_sem high] zG zF zH zV zN yu zD zl zn zt zi zu y9 zK yE zJ
abbrev bkC (b:Blk):Array Value:=#[b.num,.bool b.raw,b.size,b.body]
abbrev bkV (b:Blk):Value:=.agg #[b.num,.bool b.raw,b.size,b.body]
def bkZ :Blk:=⟨0,false,0,[]⟩
abbrev xZ :Array Value:=#[.int .i64 0,.bool false,.int .i64 0,.string ⟨#[]⟩]
def Blk.sm (b:Blk):Prop:=0≤b.num∧b.num≤65535∧0≤b.size∧b.size≤65535∧b.body.length≤1500000
theorem Blk.jh (n s:Int)(r:Bool)(d:Bs):(Blk.ok ⟨n,r,s,d⟩=true)↔(0≤n∧n<40∧1≤s∧s≤64∧(if r=true then(d.length:Int)=s else 1≤d.length∧(d.length:Int)<s)):=by simp [Blk.ok]
theorem Vz (n:Int)(w:World):
 Calls prog 206 #[n] w fun e w'=>e= .returned (.bool (decide (0≤n∧n≤39)))∧w=w':=by
 go_enter func206,ntmps206;go_wp2_with(go_at_call 117;refine(uI _ _ _ _).mono ?_;rintro e w' ⟨rfl,rfl⟩);go_ret;exact⟨zS (by simp),rfl⟩
theorem Qq (b:Blk)(w:World)(a:b.sm):
 Calls prog 179 #[bkV b] w (rT w (.bool b.ok)):=by
 obtain⟨n,r,s,d⟩:=b;obtain⟨h1,h2,c,f,g⟩:=a;simp only at h1 h2 c f g;go_enter func179,ntmps179;go_wp2_with(first|(go_at_call 206;refine(Vz _ _).mono ?_;rintro e w' ⟨rfl,rfl⟩)|(go_at_call 117;refine(uI _ _ _ _).mono ?_;rintro e w' ⟨rfl,rfl⟩))
 all_goals go_ret
 all_goals refine⟨zS ?_,(Below.refl _ _).alloc (Nat.le_refl _) _⟩
 all_goals (rw[Bool.eq_iff_iff,Blk.jh];(try simp only[decide_eq_true_eq,beq_iff_eq]);grind)
theorem RV (b:Blk)(w:World):
 Calls prog 178 #[bkV b] w fun e w'=>e= .returned (.string ⟨[if b.raw=true then(0:UInt8) else 1].toArray⟩)∧Below w.heap.size w w':=by
 obtain⟨n,r,s,d⟩:=b
 cases r
 ·go_enter func178,ntmps178
  go_wp2;go_ret;exact⟨rfl,zy⟩
 ·go_enter func178,ntmps178
  go_wp2;go_ret;exact⟨rfl,zy⟩
theorem fC (b:Blk)(w:World)(o:b.sm):
 Calls prog 148 #[bkV b] w (rT w (.string ⟨b.text.toArray⟩)):=by
 have A:=tq b.inner;have c:b.inner=(if b.raw=true then(0:UInt8) else 1)::(two b.num++(two b.size++(two b.body.length++b.body))):=(by simp [Blk.inner]);have g:b.text=181::(b.inner++two (sumOf b.inner)):=rfl;have h:=fun w=>RV b w;obtain⟨n,r,s,d⟩:=b;obtain⟨h1,h2,p,q,t⟩:=o;simp only at h1 h2 p q t c h;generalize(⟨n,r,s,d⟩:Blk).text=T at*;generalize(⟨n,r,s,d⟩:Blk).inner=I at*;generalize(if r=true then(0:UInt8) else 1)=k at*;have u:=hid g;have a:∀n,(two n).length≤2:=fun n=>(by simp [two]);have B:=a n;have C:=a s;have D:=a d.length;have E:=a (sumOf I);have F:I.length≤1500007:=(by rw[c];simp;omega);have i:=hid c;clear c g a;go_enter func148,ntmps148;go_wp2_with fail;have v:=zM (yF w (bkC ⟨n,r,s,d⟩) 122) (by simp);refine wp_region_quiet_below kr kr ?_;repeat(go_big_quiet_step ((first|(go_at_call 178;exact Calls.regrown_of (h _))|(go_at_call 84;exact Calls.regrown_of (jL _ _ oo oo)))))
 refine wpQuiet_nil ?_;intro j l;have f:Below _ _ j:=zh l;clear l;have x:=f.size;simp only[World.size_alloc] at x;have G:Below w.heap.size w j:=((Below.refl _ _).alloc (Nat.le_refl _) _).trans (f.mono (by simp));clear v f;go_wp2_with fail;rw[←i.out];clear i;have H:¬9223372036854775807<1+I.length:=oo;have J:¬9223372036854775807<I.length+1+(two (sumOf I)).length:=oo;have K:¬9223372036854775807<1+I.length+(two (sumOf I)).length:=oo;go_region_with(first|(go_at_call 85;refine(Xh _ _ (by omega)).mono ?_;rintro e w' ⟨rfl,rfl⟩)|(go_at_call 84;refine(jL _ _ (by omega) (by omega)).mono ?_;rintro e L ⟨rfl,m⟩;have y:=m.size;(try simp at y);try(have z:=zB m;have M:=zU (yF _ _ _) z (by simp))))
 all_goals
  go_wp2;go_ret;exact⟨rO (by rw[u.out]),yj⟩
def vI (l:Bs)(a:Int):Option (Blk×Int):=if yX l a=true then some (xK l a,xm l a) else none
def oK (o:Option (Blk×Int)):Ending:=.returned (.tuple #[bkV ((o.map (·.1)).getD bkZ),.int .i64 ((o.map (·.2)).getD 0),.bool o.isSome])
theorem qU {l:Bs}{a:Int}(h:yX l a=false):oK (vI l a)= .returned (.tuple #[.agg xZ,.int .i64 0,.bool false]):=by
 unfold vI;rw[h];rfl
theorem dm {l:Bs}{a:Int}(h:¬sH l a=true):yX l a=false:=by
 have h:sH l a=false:=(by simpa using h);unfold yX;rw[h];rfl
theorem XL {l:Bs}{a:Int}(h:¬sH l a=true):
 a<0∨∃n:Nat,a=n∧((l.length:Int)<n∨(n≤l.length∧(l.length:Int) - n<10)∨(n+10≤l.length∧(byteAt l n != 181)=true)∨(n+10≤l.length∧(byteAt l n != 181)=false∧1<byteAt l ((n:Int)+1))):=by
 by_cases h0:a<0
 ·exact .inl h0
 obtain⟨n,rfl⟩:=Int.eq_ofNat_of_zero_le (by omega:0≤a);refine .inr ⟨n,rfl,?_⟩;simp only[sH,Bool.and_eq_true,decide_eq_true_eq] at h;by_cases h1:(l.length:Int)<n
 ·exact .inl h1
 by_cases h2:(l.length:Int) - n<10
 ·exact .inr (.inl ⟨by omega,h2⟩)
 by_cases b:byteAt l n=181
 ·refine .inr (.inr (.inr ⟨by omega,by simp [b],?_⟩))
  have:¬byteAt l ((n:Int)+1)≤1:=fun c=>h ⟨⟨by omega,oo⟩,b,c⟩;omega
 ·exact .inr (.inr (.inl ⟨by omega,by simpa using b⟩))
theorem Yf {l:Bs}{a:Int}(h:sH l a=true):∃n:Nat,a=n∧n+10≤l.length∧(byteAt l n != 181)=false∧byteAt l ((n:Int)+1)≤1:=by
 simp only[sH,Bool.and_eq_true,decide_eq_true_eq] at h;obtain⟨⟨h0,h1⟩,h2,b⟩:=h;obtain⟨n,rfl⟩:=Int.eq_ofNat_of_zero_le h0;exact⟨n,rfl,by omega,by simpa using h2,b⟩
theorem ay (l:Bs)(n:Nat)(h:n+2≤l.length):numAt ((l.drop n).take 2) 0=numAt l n:=by
 have h0:n<l.length:=oo;have h1:n+1<l.length:=oo;unfold numAt;have e:((n:Int)+1)=((n+1:Nat):Int):=oo;rw[e,yh l n h0,yh l (n+1) h1];have a:((l.drop n).take 2)=[l[n],l[n+1]]:=by
  rw[List.drop_eq_getElem_cons h0,List.drop_eq_getElem_cons h1];rfl
 rw[a];rfl
theorem kD (l:Bs)(w:World)(h:2≤l.length):
 Calls prog 50 #[l] w (rT w (.int .i64 (numAt l 0))):=by
 have h0:=zQ l 0;have h1:=yG l 0;have h2:=zQ l 1;have a:=yG l 1;have b:(2:Int)≤l.length:=oo;go_enter func50,ntmps50;go_wp2;go_quiet(fail);go_wp2;go_ret;exact⟨yZ (by unfold numAt;simp;omega),zy⟩
theorem lX (l:Bs)(a:Int)(w:World)(hs:l.length≤1500000)(d7: -9223372036854775808≤a)(d8:a≤9223372036854775807):
 Calls prog 149 #[l,a] w (rS w (oK (vI l a))):=by
 by_cases z:sH l a=true
 ·have HH:=hid z
  obtain⟨n,rfl,hn,d',s⟩:=Yf z;clear z;have b9:¬(n:Int)<0:=oo;have b':¬(l.length:Int)<n:=oo;have c0:¬(l.length:Int) - n<10:=oo;have e0:¬1<byteAt l ((n:Int)+1):=oo;have c1:(n:Int)<l.length:=oo;have c2:(n:Int)+1<l.length:=oo;have E:=fun w=>kD ((l.drop (n+6)).take 2) w (by simp;omega);rw[ay l (n+6) (by omega)] at E;have R:=fun w=>kD ((l.drop (n+2)).take 2) w (by simp;omega);rw[ay l (n+2) (by omega)] at R;have M:=fun w=>kD ((l.drop (n+4)).take 2) w (by simp;omega);rw[ay l (n+4) (by omega)] at M;have A:xK l n=⟨numAt l ((n+2:Nat):Int),decide (byteAt l ((n:Int)+1)=0),numAt l ((n+4:Nat):Int),(l.drop (n+8)).take (numAt l ((n+6:Nat):Int)).toNat⟩:=by
   unfold xK cutAt;have h6:=xQ l ((n:Int)+6);simp only[Int.natCast_add,Int.cast_ofNat_Int];rw[show((n:Int)+8).toNat=n+8 by omega,show((n:Int)+8+numAt l (↑n+6)).toNat - (n+8)=(numAt l (↑n+6)).toNat by omega]
  have x:xm l n=(n:Int)+10+numAt l ((n+6:Nat):Int):=by
   unfold xm;simp only[Int.natCast_add,Int.cast_ofNat_Int];omega
  have c3:=xQ l ((n+2:Nat):Int);have c4:=xQ l ((n+4:Nat):Int);have N:=xQ l ((n+6:Nat):Int);generalize numAt l ((n+2:Nat):Int)=f at*;generalize numAt l ((n+4:Nat):Int)=g at*;obtain⟨m,hm⟩:=Int.eq_ofNat_of_zero_le N.1;rw[hm] at A x E N;rw[Int.toNat_natCast] at A;clear hm;obtain⟨c5,c6⟩:=c3;obtain⟨c7,c8⟩:=c4;have e2:=N.2;clear N;have e3:m≤65535:=oo;have e4:(⟨l.toArray⟩:ByteArray).extract (n+6) (n+8)=⟨((l.drop (n+6)).take 2).toArray⟩:=(by rw[ByteArray.extract_mk];simp);have e5:(⟨l.toArray⟩:ByteArray).extract (n+2) (n+4)=⟨((l.drop (n+2)).take 2).toArray⟩:=(by rw[ByteArray.extract_mk];simp);have e6:(⟨l.toArray⟩:ByteArray).extract (n+4) (n+6)=⟨((l.drop (n+4)).take 2).toArray⟩:=(by rw[ByteArray.extract_mk];simp);have e7:(⟨l.toArray⟩:ByteArray).extract (n+8) (n+8+m)=⟨((l.drop (n+8)).take m).toArray⟩:=(by rw[ByteArray.extract_mk];simp);have e8:(⟨l.toArray⟩:ByteArray).extract n (n+10+m)=⟨((l.drop n).take (10+m)).toArray⟩:=(by rw[ByteArray.extract_mk];simp;congr 1;omega);by_cases e9:n+10+m≤l.length
  ·have c9:¬(l.length:Int) - n - 10<m:=oo
   have e':(n:Int)+8+m≤l.length:=oo;have f0:(n:Int)+10+m≤l.length:=oo;have hT:cutAt l n (xm l n)=(l.drop n).take (10+m):=by
    unfold cutAt;rw[x];congr 1;omega
   have U:=PI HH.out (by rw[x];omega);rw[hT] at U;have hP:yX l n=((xK l n).ok&&decide ((xK l n).text=(l.drop n).take (10+m))):=by
    unfold yX;rw[HH.out,decide_eq_true (by rw[x];omega:xm l n≤l.length)];simp only[Bool.true_and];congr 1;exact(decide_eq_decide.2 U).symm
   have HP:Hid (vI l n=if(xK l n).ok=true∧(xK l n).text=(l.drop n).take (10+m) then some (xK l n,(n:Int)+10+m) else none):=by
    show _=_;unfold vI;rw[hP,x];simp
   clear U hP hT x;have hr:decide (byteAt l ((n:Int)+1)=0)=(byteAt l ((n:Int)+1)==0):=by
    by_cases h:byteAt l ((n:Int)+1)=0<;>simp [h]
   rw[hr] at A;clear hr;generalize hR:(byteAt l ((n:Int)+1)==0)=r at*;have f2:=zQ l ((n:Int)+1);generalize V:(l.drop (n+8)).take m=D at*;have f3:D.length≤65535:=(by rw[←V];simp;omega);generalize b1:(l.drop n).take (10+m)=T at*;have HB:=hid A;have f4:List.take (n+10+m - n) (List.drop n l)=T:=(by rw[show n+10+m - n=10+m by omega];exact b1);have W:=hid V;clear A V b1;have X:(⟨f,r,g,D⟩:Blk).sm:=⟨c5,c6,c7,c8,by show D.length≤_;omega⟩;go_enter func149,ntmps149;go_wp2_with fail;have B:=Bk.new w xZ 122;refine(E _).mono ?_;rintro e k ⟨rfl,s⟩;have F:=B.below s B.lt;have Y:=s.size;simp only[World.size_alloc] at Y;have Z:Below w.heap.size w k:=((Below.refl _ _).alloc (Nat.le_refl _) _).trans (s.mono (by simp));clear s B E;go_wp2_with fail;go_cut [8] (fun p wx=>∃G:Nat,p= .pointer (some ⟨G,0,none⟩)∧k.heap.size≤G∧Bk wx G 122 (bkC ⟨f,r,g,D⟩)∧Below k.heap.size k wx)
   case first=>
    have f5:IntKind.i64.wrap ((n:Int)+1)=(n:Int)+1:=IntWalk.i64_in _ oo;have t:IntKind.i64.wrap ((n:Int)+2)=(n:Int)+2:=IntWalk.i64_in _ oo;have f6:IntKind.i64.wrap ((n:Int)+4)=(n:Int)+4:=IntWalk.i64_in _ oo;have f7:IntKind.i64.wrap ((n:Int)+6)=(n:Int)+6:=IntWalk.i64_in _ oo;have f8:IntKind.i64.wrap ((n:Int)+8)=(n:Int)+8:=IntWalk.i64_in _ oo;have f9:IntKind.i64.wrap ((n:Int)+8+m)=(n:Int)+8+m:=IntWalk.i64_in _ oo;have f':(0:Int)≤(n:Int)+1:=oo;have g0:(0:Int)≤(n:Int)+2:=oo;have g1:(0:Int)≤(n:Int)+4:=oo;have g2:(0:Int)≤(n:Int)+6:=oo;have g5:(0:Int)≤(n:Int)+8:=oo;have g6:(0:Int)≤(n:Int)+8+m:=oo;have g7:(n:Int)+4≤l.length:=oo;have g8:(n:Int)+6≤l.length:=oo;have g9:(n:Int)+2≤(n:Int)+4:=oo;have g':(n:Int)+4≤(n:Int)+6:=oo;have h3:(n:Int)+8≤(n:Int)+8+m:=oo;have h4:((n:Int)+2).toNat=n+2:=oo;have h5:((n:Int)+4).toNat=n+4:=oo;have h7:((n:Int)+6).toNat=n+6:=oo;have h8:((n:Int)+8).toNat=n+8:=oo;have h9:((n:Int)+8+m).toNat=n+8+m:=oo;have S1:=Bk.new k xZ 122;refine wp_region_held_drew (S:=(fun w'=>Below k.heap.size k w')) kr ?_ (fun i=> ?_);focus(exact yj)
    refine tk 0 ?_;refine tk 1 ?_;refine tk 2 ?_;refine tk 3 ?_;refine tk 4 ?_;refine tk 5 ?_;refine tk 7 ?_;refine tk 8 ?_;refine tk 9 ?_;refine tk 10 ?_;refine tk 11 ?_;refine tk 12 ?_;refine tk 13 ?_;refine tk 14 ?_;refine tk 15 ?_;refine tk 16 ?_;refine tk 17 ?_;refine tk 19 ?_;refine tk 20 ?_;refine tk 21 ?_;refine tk 22 ?_;refine tk 23 ?_;refine tk 24 ?_;refine tk 25 ?_;refine tk 26 ?_;try simp only[Act.put,rR]
    refine wpAnyH_ready (rs:=[6,28]) (by kernel_rfl) (by simp) ?_;refine(AllReadyH.cons (o:=_) rfl (fun q b=> ?_) (AllReadyH.cons (o:=_) rfl (fun q b=> ?_) AllReadyH.nil))
    ·
     go_simp
     (go_at_call 50;(with_reducible refine(R _).mono ?_);rintro e w2 ⟨rfl,O⟩;have a0:=O.size;(try simp at a0))
     refine b.out _ _ (by exact yj) fun i=> ?_;try simp only[Act.put,rR]
     refine wpAnyH_ready (rs:=[18,28]) (by kernel_rfl) (by simp) ?_;refine(AllReadyH.cons (o:=_) rfl (fun q b=> ?_) (AllReadyH.cons (o:=_) rfl (fun q b=> ?_) AllReadyH.nil))
     ·
      go_simp
      (go_at_call 50;(with_reducible refine(M _).mono ?_);rintro e w3 ⟨rfl,d⟩;have P:=d.size)
      refine b.out _ _ (by exact yj) fun i=> ?_;try simp only[Act.put,rR]
      refine tk 27 ?_;try simp only[Act.put,rR]
      refine rd1 28 fun q b=> ?_;go_simp;refine b.out _ _ (by exact yj) fun i=> ?_;try simp only[Act.put,rR]
      refine rd1 29 fun q b=> ?_;go_simp;refine b.out _ _ (by exact yj) fun i=> ?_;try simp only[Act.put,rR]
      refine wpAnyH_done kr ?_ _;go_wp2_with fail;go_meet;rw[W.out];exact⟨_,rfl,by first|omega|(simp;omega),Bk.new _ _ _,yj⟩
     ·
      go_simp;refine b.out _ _ (by exact yj) fun i=> ?_;try simp only[Act.put,rR]
      refine rd1 18 fun q b=> ?_;go_simp
      (go_at_call 50;(with_reducible refine(M _).mono ?_);rintro e w3 ⟨rfl,d⟩;have P:=d.size;simp at P;have c:=Bk.below (Bk.new w2 xZ 122) d (by simp);have H:=c.cell;have I:=c.free)
      refine b.out _ _ (by exact yj) fun i=> ?_;try simp only[Act.put,rR]
      refine tk 27 ?_;try simp only[Act.put,rR]
      refine rd1 29 fun q b=> ?_;go_simp;refine b.out _ _ (by exact yj) fun i=> ?_;try simp only[Act.put,rR]
      refine wpAnyH_done kr ?_ _;go_wp2_with fail;go_meet;rw[W.out];exact⟨_,rfl,by first|omega|(simp;omega),(((c.set 0 _).set 1 _).set 2 _).set 3 _,yj⟩
    ·
     go_simp;refine b.out _ _ (by exact yj) fun i=> ?_;try simp only[Act.put,rR]
     refine rd1 6 fun q b=> ?_;go_simp
     (go_at_call 50;(with_reducible refine(R _).mono ?_);rintro e w2 ⟨rfl,O⟩;have a0:=O.size;simp at a0;have K2:=Bk.below (Bk.drew (Bk.new k xZ 122)) O (by simp))
     refine b.out _ _ (by exact yj) fun i=> ?_;try simp only[Act.put,rR]
     refine rd1 18 fun q b=> ?_;go_simp
     (go_at_call 50;(with_reducible refine(M _).mono ?_);rintro e w3 ⟨rfl,d⟩;have P:=d.size;have c:=Bk.below K2 d K2.lt;have H:=c.cell;have I:=c.free)
     refine b.out _ _ (by exact yj) fun i=> ?_;try simp only[Act.put,rR]
     refine tk 27 ?_;try simp only[Act.put,rR]
     refine rd1 29 fun q b=> ?_;go_simp;refine b.out _ _ (by exact yj) fun i=> ?_;try simp only[Act.put,rR]
     refine wpAnyH_done kr ?_ _;go_wp2_with fail;go_meet;rw[W.out];exact⟨_,rfl,by first|omega|(simp;omega),(((c.set 0 _).set 1 _).set 2 _).set 3 _,yj⟩
   case rest=>
    obtain⟨G,rfl,i0,Q,d⟩:=hcut;have c:=F.below d oo;have g3:=Z.trans (d.mono oo);have P:=d.size;have c':=Q.lt;clear F Z d;have H:=c.cell;have I:=c.free;have Y3:=Q.cell;have i1:¬G=w.heap.size:=oo;have hG:=zM Q.cell c';have i2:(0:Int)≤(n:Int)+10+m:=oo;have i3:(n:Int)≤(n:Int)+10+m:=oo;have i4:((n:Int)+10+m).toNat=n+10+m:=oo;have cF:=fun w=>Qq ⟨f,r,g,D⟩ w X;have cT:=fun w=>fC ⟨f,r,g,D⟩ w X;have C:Hid (vI l n=if(⟨f,r,g,D⟩:Blk).ok=true∧(⟨f,r,g,D⟩:Blk).text=T then some (⟨f,r,g,D⟩,(n:Int)+10+m) else none):=by
     show _=_;rw[HP.out,HB.out]
    clear HP HB X;generalize(⟨f,r,g,D⟩:Blk).ok=ok at*;generalize(⟨f,r,g,D⟩:Blk).text=J at*;have d1:ok=false∨(ok=true∧((decide (J=T)=false∧decide (J≠T)=true)∨(decide (J=T)=true∧decide (J≠T)=false))):=by
     cases ok
     ·exact .inl rfl
     ·refine .inr ⟨rfl,?_⟩
      by_cases h:J=T
      ·right;simp [h]
      ·left;simp [h]
    rcases d1 with rfl|⟨rfl,⟨hd,d2⟩|⟨hd,d2⟩⟩
    ·have j:Hid (oK (vI l n)= .returned (.tuple #[.agg xZ,.int .i64 0,.bool false])):=by show _=_;rw[C.out];simp;rfl
     clear C;go_wp2_with fail;refine wp_region_quiet_below kr kr ?_;repeat(go_big_quiet_step ((first|(go_at_call 179;exact Calls.regrown_of (cF _))|(go_at_call 148;exact Calls.regrown_of (cT _)))))
     refine wpQuiet_nil ?_;intro K t;have u:Below _ _ K:=zh t;clear t;have y:=c.below u oo;have g4:=g3.trans (u.mono oo);have L:=y.cell;have F4:=y.free;clear H I hG;go_wp2;exact bodyPost_ret (v:=.tuple #[.agg xZ,.int .i64 0,.bool false]) (by simp [results,results149,go_sem,L]) rfl ⟨j.out.symm,zy⟩
    ·have j:Hid (oK (vI l n)= .returned (.tuple #[.agg xZ,.int .i64 0,.bool false])):=by show _=_;rw[C.out,if_neg (fun h=>of_decide_eq_false hd h.2)];rfl
     clear C;go_wp2_with fail;refine wp_region_quiet_below kr kr ?_;repeat(go_big_quiet_step ((first|(go_at_call 179;exact Calls.regrown_of (cF _))|(go_at_call 148;exact Calls.regrown_of (cT _)))))
     refine wpQuiet_nil ?_;intro K t;have u:Below _ _ K:=zh t;clear t;have y:=c.below u oo;have g4:=g3.trans (u.mono oo);have L:=y.cell;have F4:=y.free;clear H I hG;go_wp2;exact bodyPost_ret (v:=.tuple #[.agg xZ,.int .i64 0,.bool false]) (by simp [results,results149,go_sem,L]) rfl ⟨j.out.symm,zy⟩
    ·have j:Hid (oK (vI l n)= .returned (.tuple #[bkV ⟨f,r,g,D⟩,.int .i64 ((n:Int)+10+m),.bool true])):=by show _=_;rw[C.out,if_pos ⟨rfl,of_decide_eq_true hd⟩];rfl
     clear C;go_wp2_with fail;refine wp_region_quiet_below kr kr ?_;repeat(go_big_quiet_step ((first|(go_at_call 179;exact Calls.regrown_of (cF _))|(go_at_call 148;exact Calls.regrown_of (cT _)))))
     refine wpQuiet_nil ?_;intro K t;have u:Below _ _ K:=zh t;clear t;have y:=c.below u oo;have k4:=Q.below u oo;have g4:=g3.trans (u.mono oo);have L:=y.cell;have F4:=y.free;have Y4:=k4.cell;clear H I Y3 hG;go_wp2;exact bodyPost_ret (v:=.tuple #[bkV ⟨f,r,g,D⟩,.int .i64 ((n:Int)+10+m),.bool true]) (by simp [results,results149,go_sem,L]) rfl ⟨j.out.symm,zy⟩
  ·have c9:(l.length:Int) - n - 10<m:=oo
   have j:Hid (oK (vI l n)= .returned (.tuple #[.agg xZ,.int .i64 0,.bool false])):=by
    refine qU ?_;unfold yX;rw[decide_eq_false (by rw[x];omega:¬xm l n≤l.length)];simp
   clear x A;go_enter func149,ntmps149;go_wp2_with fail;have B:=Bk.new w xZ 122;refine(E _).mono ?_;rintro e k ⟨rfl,s⟩;have F:=B.below s B.lt;have Y:=s.size;simp only[World.size_alloc] at Y;have Z:Below w.heap.size w k:=((Below.refl _ _).alloc (Nat.le_refl _) _).trans (s.mono (by simp));have X1:=F.cell;have F1:=F.free;go_wp2;exact bodyPost_ret (v:=.tuple #[.agg xZ,.int .i64 0,.bool false]) (by simp [results,results149,go_sem,X1]) rfl ⟨j.out.symm,zy⟩
 ·have j:Hid (oK (vI l a)= .returned (.tuple #[.agg xZ,.int .i64 0,.bool false])):=qU (dm z)
  have hw:=XL z;clear z;rcases hw with h0|⟨n,rfl,h1⟩
  ·go_enter func149,ntmps149
   go_wp2;exact bodyPost_ret (v:=.tuple #[.agg xZ,.int .i64 0,.bool false]) (by simp [results,results149,go_sem]) rfl ⟨j.out.symm,zy⟩
  ·have b9:¬(n:Int)<0:=oo
   rcases h1 with h1|⟨h1,h2⟩|⟨h1,h2⟩|⟨h1,h2,i7⟩
   ·go_enter func149,ntmps149
    go_wp2;exact bodyPost_ret (v:=.tuple #[.agg xZ,.int .i64 0,.bool false]) (by simp [results,results149,go_sem]) rfl ⟨j.out.symm,zy⟩
   all_goals
    have b':¬(l.length:Int)<n:=oo
    first|have c0:¬(l.length:Int) - n<10:=oo
         |skip
    first|have c1:(n:Int)<l.length:=oo
         |skip
    first|have c2:(n:Int)+1<l.length:=oo
         |skip
    go_enter func149,ntmps149;go_wp2;exact bodyPost_ret (v:=.tuple #[.agg xZ,.int .i64 0,.bool false]) (by simp [results,results149,go_sem]) rfl ⟨j.out.symm,zy⟩
theorem eF (l:Bs)(a:Nat)(w:World)(h:a+1<l.length)(b:l.length≤4000000):
 Calls prog 40 #[l,(a:Int)] w (rT w (.int .i64 (numAt l a))):=by
 have h0:=zQ l a;have h1:=yG l a;have h2:=zQ l ((a:Int)+1);have c:=yG l ((a:Int)+1);have d:(a:Int)+1<l.length:=oo;go_enter func40,ntmps40;go_wp2;go_quiet(fail);go_wp2;go_ret;exact⟨rfl,zy⟩
theorem ja (b:Blk)(w:World)(a:b.sm):
 Calls prog 132 #[bkV b] w (rT w (.bool b.ok)):=by
 obtain⟨n,r,s,d⟩:=b;obtain⟨h1,h2,c,f,g⟩:=a;simp only at h1 h2 c f g;go_enter func132,ntmps132;go_wp2
 all_goals go_ret
 all_goals refine⟨zS ?_,(Below.refl _ _).alloc (Nat.le_refl _) _⟩
 all_goals (rw[Bool.eq_iff_iff,Blk.jh];(try simp only[decide_eq_true_eq,beq_iff_eq]);grind)
def TS (b:Blk):Ending:=.returned (.tuple #[.string ⟨(if b.ok=true then b.text else[]).toArray⟩,.bool b.ok])
theorem ZB (n:Int):(two n).length≤2:=by simp [two]
theorem Zv (b:Blk)(w:World)(j:b.sm):
 Calls prog 145 #[bkV b] w (rS w (TS b)):=by
 have H:=tq b.inner;have c:b.inner=(if b.raw=true then(0:UInt8) else 1)::(two b.num++(two b.size++(two b.body.length++b.body))):=(by simp [Blk.inner]);have k:b.text=181::(b.inner++two (sumOf b.inner)):=rfl;have f:=fun w=>ja b w j;have l:TS b= .returned (.tuple #[.string ⟨(if b.ok=true then b.text else[]).toArray⟩,.bool b.ok]):=rfl;obtain⟨n,r,s,d⟩:=b;obtain⟨h1,h2,x,y,z⟩:=j;simp only at h1 h2 x y z c f;generalize TS ⟨n,r,s,d⟩=J at*;generalize(⟨n,r,s,d⟩:Blk).text=T at*;generalize(⟨n,r,s,d⟩:Blk).inner=I at*;generalize(⟨n,r,s,d⟩:Blk).ok=ok at*;have A:=hid k;have K:=ZB n;have L:=ZB s;have M:=ZB d.length;have N:=ZB (sumOf I);have O:I.length≤1500007:=(by rw[c];simp;omega);have m:=hid c;have o:=hid l;clear c k l
 cases ok
 ·go_enter func145,ntmps145
  go_wp2_with fail;refine(f _).mono ?_;rintro e g ⟨rfl,a⟩;have p:=a.size;simp only[World.size_alloc] at p;have q:Below w.heap.size w g:=((Below.refl _ _).alloc (Nat.le_refl _) _).trans (a.mono (by simp));go_wp2;go_ret2;exact⟨by rw[o.out];rfl,q⟩
 cases r
 all_goals
  go_enter func145,ntmps145;go_wp2_with fail;refine(f _).mono ?_;rintro e B ⟨rfl,h⟩;have C:=h.size;simp only[World.size_alloc] at C;have t:=zU (yF _ _ _) h (by simp);have D:Below w.heap.size w B:=((Below.refl _ _).alloc (Nat.le_refl _) _).trans (h.mono (by simp));clear h f;have E:=zM t oo;go_wp2_with fail;refine wp_region_quiet_below kr kr ?_;repeat(go_big_quiet_step (((go_at_call 175;exact Calls.regrown_of (two_any _ _ oo oo)))))
  refine wpQuiet_nil ?_;intro g u;have a:Below _ _ g:=zh u;clear u;have p:=a.size;have q:Below w.heap.size w g:=D.trans (a.mono oo);clear E a t;go_wp2_with fail;have i:=m.out;simp only[if_true,if_false,Bool.false_eq_true] at i;rw[←i];clear m i;have P:¬9223372036854775807<1+I.length:=oo;have Q:¬9223372036854775807<I.length+1+(two (sumOf I)).length:=oo;have R:¬9223372036854775807<1+I.length+(two (sumOf I)).length:=oo;go_region_with(first|(go_at_call 42;refine(nX _ _ (by omega)).mono ?_;rintro e w' ⟨rfl,rfl⟩)|(go_at_call 175;refine(two_any _ _ (by omega) (by omega)).mono ?_;rintro e S ⟨rfl,v⟩;have F:=v.size;(try simp at F);try(have G:=zB v;have U:=zU (yF _ _ _) G (by simp))))
  all_goals
   go_wp2;go_ret2;exact⟨by rw[o.out,A.out,if_pos trivial];rfl,yj⟩
theorem jm (l:Bs)(a:Int)(w:World)(hs:l.length≤1500000)(e3: -9223372036854775808≤a)(e4:a≤9223372036854775807):
 Calls prog 93 #[l,a] w (rS w (oK (vI l a))):=by
 by_cases x:sH l a=true
 ·have HH:=hid x
  obtain⟨n,rfl,hn,e6,k⟩:=Yf x;clear x;have c2:¬(n:Int)<0:=oo;have a6:¬(l.length:Int) - 10<n:=oo;have e7:¬1<byteAt l ((n:Int)+1):=oo;have c3:(n:Int)<l.length:=oo;have c4:(n:Int)+1<l.length:=oo;have E:=fun w=>eF l (n+6) w oo oo;have R:=fun w=>eF l (n+2) w oo oo;have L:=fun w=>eF l (n+4) w oo oo;have a7:((n+6:Nat):Int)=(n:Int)+6:=oo;have a8:((n+2:Nat):Int)=(n:Int)+2:=oo;have a9:((n+4:Nat):Int)=(n:Int)+4:=oo;rw[a7] at E;rw[a8] at R;rw[a9] at L;clear a7 a8 a9;have y:xK l n=⟨numAt l ((n:Int)+2),decide (byteAt l ((n:Int)+1)=0),numAt l ((n:Int)+4),(l.drop (n+8)).take (numAt l ((n:Int)+6)).toNat⟩:=by
   unfold xK cutAt;have h6:=xQ l ((n:Int)+6);rw[show((n:Int)+8).toNat=n+8 by omega,show((n:Int)+8+numAt l (↑n+6)).toNat - (n+8)=(numAt l (↑n+6)).toNat by omega]
  have u:xm l n=(n:Int)+8+numAt l ((n:Int)+6)+2:=rfl;have c5:=xQ l ((n:Int)+2);have c6:=xQ l ((n:Int)+4);have M:=xQ l ((n:Int)+6);generalize numAt l ((n:Int)+2)=s at*;generalize numAt l ((n:Int)+4)=t at*;obtain⟨m,hm⟩:=Int.eq_ofNat_of_zero_le M.1;rw[hm] at y u E M;rw[Int.toNat_natCast] at y;clear hm;obtain⟨c7,c8⟩:=c5;obtain⟨c9,c'⟩:=c6;have e9:=M.2;clear M;have e':m≤65535:=oo;by_cases f0:n+10+m≤l.length
  ·have d0:¬(l.length:Int) - 2<(n:Int)+8+m:=oo
   have f1:(n:Int)+8+m≤l.length:=oo;have U:=fun w=>eF l (n+8+m) w oo oo;have b0:((n+8+m:Nat):Int)=(n:Int)+8+m:=oo;rw[b0] at U;clear b0;have hP:yX l n=((xK l n).ok&&decide (sumOf ((l.drop (n+1)).take (7+m))=numAt l ((n:Int)+8+m))):=by
    unfold yX;rw[HH.out,decide_eq_true (by rw[u];omega:xm l n≤l.length),u];simp only[Bool.true_and];have e1:cutAt l ((n:Int)+1) ((n:Int)+8+m+2 - 2)=(l.drop (n+1)).take (7+m):=by
     unfold cutAt;rw[show((n:Int)+1).toNat=n+1 by omega,show((n:Int)+8+m+2 - 2).toNat - (n+1)=7+m by omega]
    rw[e1,show(n:Int)+8+m+2 - 2=(n:Int)+8+m by omega]
   have HP:Hid (vI l n=if(xK l n).ok=true∧sumOf ((l.drop (n+1)).take (7+m))=numAt l ((n:Int)+8+m) then some (xK l n,(n:Int)+8+m+2) else none):=by
    show _=_;unfold vI;rw[hP,u];simp
   clear hP u;have hr:decide (byteAt l ((n:Int)+1)=0)=(byteAt l ((n:Int)+1)==0):=by
    by_cases h:byteAt l ((n:Int)+1)=0<;>simp [h]
   rw[hr] at y;clear hr;generalize hR:(byteAt l ((n:Int)+1)==0)=r at*;have f3:=zQ l ((n:Int)+1);generalize V:(l.drop (n+8)).take m=D at*;have f4:D.length≤65535:=(by rw[←V];simp;omega);have W:=hid V;clear V;have f5:(⟨l.toArray⟩:ByteArray).extract (n+1) (n+8+m)=⟨((l.drop (n+1)).take (7+m)).toArray⟩:=(by rw[ByteArray.extract_mk];simp;congr 1;omega);generalize X:(l.drop (n+1)).take (7+m)=T at*;have f6:T.length≤100000:=(by rw[←X];simp;omega);have f7:List.take (n+8+m - (n+1)) (List.drop (n+1) l)=T:=(by rw[show n+8+m - (n+1)=7+m by omega];exact X);have HB:=hid y;clear y X;have b5:(⟨s,r,t,D⟩:Blk).sm:=⟨c7,c8,c9,c',by show D.length≤_;omega⟩;have f8:=tq T;go_enter func93,ntmps93;go_wp2_with fail;have z:=Bk.new w xZ 122;refine(E _).mono ?_;rintro e q ⟨rfl,k⟩;have F:=z.below k z.lt;have Y:=k.size;simp only[World.size_alloc] at Y;have Z:Below w.heap.size w q:=((Below.refl _ _).alloc (Nat.le_refl _) _).trans (k.mono (by simp));clear k z E;go_wp2_with fail;go_cut [9] (fun p wx=>∃G:Nat,p= .pointer (some ⟨G,0,none⟩)∧q.heap.size≤G∧Bk wx G 122 (bkC ⟨s,r,t,D⟩)∧Below q.heap.size q wx)
   case first=>
    have f9:IntKind.i64.wrap ((n:Int)+1)=(n:Int)+1:=IntWalk.i64_in _ oo;have f':IntKind.i64.wrap ((n:Int)+2)=(n:Int)+2:=IntWalk.i64_in _ oo;have g0:IntKind.i64.wrap ((n:Int)+4)=(n:Int)+4:=IntWalk.i64_in _ oo;have d2:(0:Int)≤(n:Int)+1:=oo;have g1:(0:Int)≤(n:Int)+8:=oo;have g2:(0:Int)≤(n:Int)+8+m:=oo;have g4:(n:Int)+8≤(n:Int)+8+m:=oo;have g6:((n:Int)+8).toNat=n+8:=oo;have g7:((n:Int)+8+m).toNat=n+8+m:=oo;refine wp_region_held_drew (S:=(fun w'=>Below q.heap.size q w')) kr ?_ (fun g=> ?_);focus(exact yj)
    refine tk 0 ?_;refine tk 1 ?_;refine tk 2 ?_;refine tk 4 ?_;refine tk 5 ?_;refine tk 6 ?_;refine tk 7 ?_;refine tk 8 ?_;refine tk 9 ?_;refine tk 10 ?_;refine tk 11 ?_;refine tk 13 ?_;refine tk 14 ?_;refine tk 15 ?_;refine tk 16 ?_;try simp only[Act.put,rR]
    refine wpAnyH_ready (rs:=[3,18]) (by kernel_rfl) (by simp) ?_;refine(AllReadyH.cons (o:=_) rfl (fun i b=> ?_) (AllReadyH.cons (o:=_) rfl (fun i b=> ?_) AllReadyH.nil))
    ·
     go_simp
     (go_at_call 40;(with_reducible refine(R _).mono ?_);rintro e w2 ⟨rfl,O⟩;have a0:=O.size;(try simp at a0))
     refine b.out _ _ (by exact yj) fun g=> ?_;try simp only[Act.put,rR]
     refine wpAnyH_ready (rs:=[12,18]) (by kernel_rfl) (by simp) ?_;refine(AllReadyH.cons (o:=_) rfl (fun i b=> ?_) (AllReadyH.cons (o:=_) rfl (fun i b=> ?_) AllReadyH.nil))
     ·
      go_simp
      (go_at_call 40;(with_reducible refine(L _).mono ?_);rintro e w3 ⟨rfl,f⟩;have P:=f.size)
      refine b.out _ _ (by exact yj) fun g=> ?_;try simp only[Act.put,rR]
      refine tk 17 ?_;try simp only[Act.put,rR]
      refine rd1 18 fun i b=> ?_;go_simp;refine b.out _ _ (by exact yj) fun g=> ?_;try simp only[Act.put,rR]
      refine rd1 19 fun i b=> ?_;go_simp;refine b.out _ _ (by exact yj) fun g=> ?_;try simp only[Act.put,rR]
      refine wpAnyH_done kr ?_ _;go_wp2_with fail;go_meet;rw[W.out];exact⟨_,rfl,by first|omega|(simp;omega),Bk.new _ _ _,yj⟩
     ·
      go_simp;refine b.out _ _ (by exact yj) fun g=> ?_;try simp only[Act.put,rR]
      refine rd1 12 fun i b=> ?_;go_simp
      (go_at_call 40;(with_reducible refine(L _).mono ?_);rintro e w3 ⟨rfl,f⟩;have P:=f.size;simp at P;have c:=Bk.below (Bk.new w2 xZ 122) f (by simp);have H:=c.cell;have I:=c.free)
      refine b.out _ _ (by exact yj) fun g=> ?_;try simp only[Act.put,rR]
      refine tk 17 ?_;try simp only[Act.put,rR]
      refine rd1 19 fun i b=> ?_;go_simp;refine b.out _ _ (by exact yj) fun g=> ?_;try simp only[Act.put,rR]
      refine wpAnyH_done kr ?_ _;go_wp2_with fail;go_meet;rw[W.out];exact⟨_,rfl,by first|omega|(simp;omega),(((c.set 0 _).set 1 _).set 2 _).set 3 _,yj⟩
    ·
     go_simp;refine b.out _ _ (by exact yj) fun g=> ?_;try simp only[Act.put,rR]
     refine rd1 3 fun i b=> ?_;go_simp
     (go_at_call 40;(with_reducible refine(R _).mono ?_);rintro e w2 ⟨rfl,O⟩;have a0:=O.size;simp at a0;have K2:=Bk.below (Bk.drew (Bk.new q xZ 122)) O (by simp))
     refine b.out _ _ (by exact yj) fun g=> ?_;try simp only[Act.put,rR]
     refine rd1 12 fun i b=> ?_;go_simp
     (go_at_call 40;(with_reducible refine(L _).mono ?_);rintro e w3 ⟨rfl,f⟩;have P:=f.size;have c:=Bk.below K2 f K2.lt;have H:=c.cell;have I:=c.free)
     refine b.out _ _ (by exact yj) fun g=> ?_;try simp only[Act.put,rR]
     refine tk 17 ?_;try simp only[Act.put,rR]
     refine rd1 19 fun i b=> ?_;go_simp;refine b.out _ _ (by exact yj) fun g=> ?_;try simp only[Act.put,rR]
     refine wpAnyH_done kr ?_ _;go_wp2_with fail;go_meet;rw[W.out];exact⟨_,rfl,by first|omega|(simp;omega),(((c.set 0 _).set 1 _).set 2 _).set 3 _,yj⟩
   case rest=>
    obtain⟨G,rfl,g8,a1,f⟩:=hcut;have c:=F.below f oo;have g3:=Z.trans (f.mono oo);have P:=f.size;have g9:=a1.lt;clear F Z f;have H:=c.cell;have I:=c.free;have Y3:=a1.cell;have g':¬G=w.heap.size:=oo;have d2:(0:Int)≤(n:Int)+1:=oo;have h3:(n:Int)+1≤(n:Int)+8+m:=oo;have cF:=fun w=>ja ⟨s,r,t,D⟩ w b5;have A:Hid (vI l n=if(⟨s,r,t,D⟩:Blk).ok=true∧sumOf T=numAt l ((n:Int)+8+m) then some (⟨s,r,t,D⟩,(n:Int)+8+m+2) else none):=by
     show _=_;rw[HP.out,HB.out]
    clear HP HB b5;generalize(⟨s,r,t,D⟩:Blk).ok=ok at*;generalize numAt l ((n:Int)+8+m)=N at*;have d4:ok=false∨(ok=true∧((sumOf T==N)=false∧(sumOf T != N)=true∨(sumOf T==N)=true∧(sumOf T != N)=false)):=by
     cases ok
     ·exact .inl rfl
     ·refine .inr ⟨rfl,?_⟩
      by_cases h:sumOf T=N
      ·right;simp [h]
      ·left;simp [h]
    rcases d4 with rfl|⟨rfl,⟨hd,d5⟩|⟨hd,d5⟩⟩
    ·have j:Hid (oK (vI l n)= .returned (.tuple #[.agg xZ,.int .i64 0,.bool false])):=by show _=_;rw[A.out];simp;rfl
     clear A;go_wp2_with fail;refine(cF _).mono ?_;rintro e w4 ⟨rfl,d⟩;have B:=c.below d oo;have Q:=g3.trans (d.mono oo);have J:=B.cell;have F4:=B.free;clear H I;go_wp2;exact bodyPost_ret (v:=.tuple #[.agg xZ,.int .i64 0,.bool false]) (by simp [results,results93,go_sem,J]) rfl ⟨j.out.symm,zy⟩
    ·have j:Hid (oK (vI l n)= .returned (.tuple #[.agg xZ,.int .i64 0,.bool false])):=by show _=_;rw[A.out,if_neg (fun h=>by simp [h.2] at hd)];rfl
     clear A;go_wp2_with fail;refine(cF _).mono ?_;rintro e w4 ⟨rfl,d⟩;have B:=c.below d oo;have d6:=d.size;have Q:=g3.trans (d.mono oo);clear H I d;go_wp2_with fail;refine(nX T _ oo).mono ?_;rintro e w5 ⟨rfl,rfl⟩;go_wp2_with fail;refine(U _).mono ?_;rintro e w5 ⟨rfl,C⟩;have K:=B.below C oo;have g5:=Q.trans (C.mono oo);have J:=K.cell;have F4:=K.free;go_wp2;exact bodyPost_ret (v:=.tuple #[.agg xZ,.int .i64 0,.bool false]) (by simp [results,results93,go_sem,J]) rfl ⟨j.out.symm,zy⟩
    ·have j:Hid (oK (vI l n)= .returned (.tuple #[bkV ⟨s,r,t,D⟩,.int .i64 ((n:Int)+8+m+2),.bool true])):=by show _=_;rw[A.out,if_pos ⟨rfl,by simpa using hd⟩];rfl
     clear A;go_wp2_with fail;refine(cF _).mono ?_;rintro e w4 ⟨rfl,d⟩;have B:=c.below d oo;have k4:=a1.below d oo;have d6:=d.size;have Q:=g3.trans (d.mono oo);clear H I Y3 d;go_wp2_with fail;refine(nX T _ oo).mono ?_;rintro e w5 ⟨rfl,rfl⟩;go_wp2_with fail;refine(U _).mono ?_;rintro e w5 ⟨rfl,C⟩;have K:=B.below C oo;have k5:=k4.below C oo;have g5:=Q.trans (C.mono oo);have J:=K.cell;have F4:=K.free;have Y4:=k5.cell;go_wp2;exact bodyPost_ret (v:=.tuple #[bkV ⟨s,r,t,D⟩,.int .i64 ((n:Int)+8+m+2),.bool true]) (by simp [results,results93,go_sem,J]) rfl ⟨j.out.symm,zy⟩
  ·have d0:(l.length:Int) - 2<(n:Int)+8+m:=oo
   have j:Hid (oK (vI l n)= .returned (.tuple #[.agg xZ,.int .i64 0,.bool false])):=by
    refine qU ?_;unfold yX;rw[decide_eq_false (by rw[u];omega:¬xm l n≤l.length)];simp
   clear u y;go_enter func93,ntmps93;go_wp2_with fail;have z:=Bk.new w xZ 122;refine(E _).mono ?_;rintro e q ⟨rfl,k⟩;have F:=z.below k z.lt;have Y:=k.size;simp only[World.size_alloc] at Y;have Z:Below w.heap.size w q:=((Below.refl _ _).alloc (Nat.le_refl _) _).trans (k.mono (by simp));have X1:=F.cell;have F1:=F.free;go_wp2;exact bodyPost_ret (v:=.tuple #[.agg xZ,.int .i64 0,.bool false]) (by simp [results,results93,go_sem,X1]) rfl ⟨j.out.symm,zy⟩
 ·have j:Hid (oK (vI l a)= .returned (.tuple #[.agg xZ,.int .i64 0,.bool false])):=qU (dm x)
  have hw:=XL x;clear x;rcases hw with h0|⟨n,rfl,h1⟩
  ·go_enter func93,ntmps93
   go_wp2;exact bodyPost_ret (v:=.tuple #[.agg xZ,.int .i64 0,.bool false]) (by simp [results,results93,go_sem]) rfl ⟨j.out.symm,zy⟩
  ·have c2:¬(n:Int)<0:=oo
   rcases h1 with h1|⟨h1,h2⟩|⟨h1,h2⟩|⟨h1,h2,h7⟩
   all_goals
    first|have a6:(l.length:Int) - 10<n:=oo
         |have a6:¬(l.length:Int) - 10<n:=oo
    first|have c3:(n:Int)<l.length:=oo
         |skip
    first|have c4:(n:Int)+1<l.length:=oo
         |skip
    go_enter func93,ntmps93;go_wp2;exact bodyPost_ret (v:=.tuple #[.agg xZ,.int .i64 0,.bool false]) (by simp [results,results93,go_sem]) rfl ⟨j.out.symm,zy⟩
theorem KA {l:Bs}{a:Int}(h:yX l a=true):oK (vI l a)= .returned (.tuple #[bkV (xK l a),.int .i64 (xm l a),.bool true]):=by
 unfold vI;rw[if_pos h];rfl
theorem SH (l:Bs)(a:Int)(w:World)(b:l.length≤1500000)(c: -9223372036854775808≤a)(d:a≤9223372036854775807)(h:yX l a=true):
 Calls prog 149 #[l,a] w (rT w (.tuple #[bkV (xK l a),.int .i64 (xm l a),.bool true])):=
 (lX l a w b c d).mono fun e w' ⟨f,g⟩=>⟨f.trans (KA h),g⟩
theorem O9 (l:Bs)(a:Int)(w:World)(b:l.length≤1500000)(c: -9223372036854775808≤a)(d:a≤9223372036854775807)(h:yX l a=false):
 Calls prog 149 #[l,a] w (rT w (.tuple #[.agg xZ,.int .i64 0,.bool false])):=
 (lX l a w b c d).mono fun e w' ⟨f,g⟩=>⟨f.trans (qU h),g⟩
theorem SE (l:Bs)(a:Int)(w:World)(b:l.length≤1500000)(c: -9223372036854775808≤a)(d:a≤9223372036854775807)(h:yX l a=true):
 Calls prog 93 #[l,a] w (rT w (.tuple #[bkV (xK l a),.int .i64 (xm l a),.bool true])):=
 (jm l a w b c d).mono fun e w' ⟨f,g⟩=>⟨f.trans (KA h),g⟩
theorem Nh (l:Bs)(a:Int)(w:World)(b:l.length≤1500000)(c: -9223372036854775808≤a)(d:a≤9223372036854775807)(h:yX l a=false):
 Calls prog 93 #[l,a] w (rT w (.tuple #[.agg xZ,.int .i64 0,.bool false])):=
 (jm l a w b c d).mono fun e w' ⟨f,g⟩=>⟨f.trans (qU h),g⟩
