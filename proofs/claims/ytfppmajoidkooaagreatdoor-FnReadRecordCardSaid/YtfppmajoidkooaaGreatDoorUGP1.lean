import Derived.Test.YtfppmajoidkooaaGreatDoorUGW
import Derived.Test.YtfppmajoidkooaaGreatDoorUGB
import Derived.Test.YtfppmajoidkooaaGreatDoorUGA
import Derived.Deep.DeepCutAuto
set_option linter.unusedVariables false
set_option linter.unusedSimpArgs false
set_option maxHeartbeats 8000000
namespace Go.Proofs.YtfppmajoidkooaaGreatDoor
open Go.RowKit
set_option maxRecDepth 100000
attribute [local go_sem high] zy zA zB zO zK zY zx zk zl zq zi zo yP zD yt zF
abbrev bkC (b:Blk):Array Value:=#[.int .i64 b.num,.bool b.raw,.int .i64 b.size,.string ⟨b.body.toArray⟩]
abbrev bkV (b:Blk):Value:=.agg #[.int .i64 b.num,.bool b.raw,.int .i64 b.size,.string ⟨b.body.toArray⟩]
def bkZ :Blk:=⟨0,false,0,[]⟩
abbrev xB :Array Value:=#[.int .i64 0,.bool false,.int .i64 0,.string ⟨#[]⟩]
def Blk.sm (b:Blk):Prop:=0≤b.num∧b.num≤65535∧0≤b.size∧b.size≤65535∧b.body.length≤1500000
theorem Blk.lZ (n s:Int)(r:Bool)(d:Bs):(Blk.ok ⟨n,r,s,d⟩=true)↔(0≤n∧n<40∧1≤s∧s≤64∧(if r=true then(d.length:Int)=s else 1≤d.length∧(d.length:Int)<s)):=by simp [Blk.ok]
theorem WG (n:Int)(w:World):
 Calls Tryz.prog 231 #[.int .i64 n] w fun e w'=>e= .returned (.bool (decide (0≤n∧n≤39)))∧w=w':=by
 go_enter Tryz.func231,Tryz.ntmps231;go_wp2_with(go_at_call 133;refine(uk _ _ _ _).mono ?_;rintro e w' ⟨rfl,rfl⟩);go_ret;exact⟨zQ (by simp),rfl⟩
theorem SL (b:Blk)(w:World)(hb:b.sm):
 Calls Tryz.prog 196 #[bkV b] w fun e w'=>e= .returned (.bool b.ok)∧Below w.heap.size w w':=by
 obtain⟨n,r,s,d⟩:=b;obtain⟨h1,h2,h3,h4,h5⟩:=hb;simp only at h1 h2 h3 h4 h5;go_enter Tryz.func196,Tryz.ntmps196;go_wp2_with(first|(go_at_call 231;refine(WG _ _).mono ?_;rintro e w' ⟨rfl,rfl⟩)|(go_at_call 133;refine(uk _ _ _ _).mono ?_;rintro e w' ⟨rfl,rfl⟩))
 all_goals go_ret
 all_goals refine⟨zQ ?_,(Below.refl _ _).alloc (Nat.le_refl _) _⟩
 all_goals (rw[Bool.eq_iff_iff,Blk.lZ];(try simp only[decide_eq_true_eq,beq_iff_eq]);grind)
theorem TM (b:Blk)(w:World):
 Calls Tryz.prog 232 #[bkV b] w fun e w'=>e= .returned (.string ⟨[if b.raw=true then(0:UInt8) else 1].toArray⟩)∧Below w.heap.size w w':=by
 obtain⟨n,r,s,d⟩:=b
 cases r
 ·go_enter Tryz.func232,Tryz.ntmps232
  go_wp2;go_ret;exact⟨rfl,zu⟩
 ·go_enter Tryz.func232,Tryz.ntmps232
  go_wp2;go_ret;exact⟨rfl,zu⟩
theorem jV (b:Blk)(w:World)(hb:b.sm):
 Calls Tryz.prog 197 #[bkV b] w fun e w'=>e= .returned (.string ⟨b.text.toArray⟩)∧Below w.heap.size w w':=by
 have hsb:=uH b.inner;have hie:b.inner=(if b.raw=true then(0:UInt8) else 1)::(two b.num++(two b.size++(two b.body.length++b.body))):=(by simp [Blk.inner]);have hte:b.text=181::(b.inner++two (sumOf b.inner)):=rfl;have cK:=fun w=>TM b w;obtain⟨n,r,s,d⟩:=b;obtain⟨h1,h2,h3,h4,h5⟩:=hb;simp only at h1 h2 h3 h4 h5 hie cK;generalize(⟨n,r,s,d⟩:Blk).text=T at*;generalize(⟨n,r,s,d⟩:Blk).inner=I at*;generalize(if r=true then(0:UInt8) else 1)=k at*;have HT:=Go.Lib.hid hte;have two_le:∀n,(two n).length≤2:=fun n=>(by simp [two]);have t1:=two_le n;have t2:=two_le s;have t3:=two_le d.length;have t4:=two_le (sumOf I);have hil:I.length≤1500007:=(by rw[hie];simp;omega);have HI:=Go.Lib.hid hie;clear hie hte two_le;go_enter Tryz.func197,Tryz.ntmps197;go_wp2_with fail;have hG:=zI (yl w (bkC ⟨n,r,s,d⟩) 160) (by simp);refine wp_region_quiet_below kr kr ?_;repeat(go_big_quiet_step ((first|(go_at_call 232;exact Calls.regrown_of (cK _))|(go_at_call 88;exact Calls.regrown_of (jc _ _ oo oo)))))
 refine wpQuiet_nil ?_;intro w2 hw2;have hb2:Below _ _ w2:=zh hw2;clear hw2;have hz2:=hb2.size;simp only[World.size_alloc] at hz2;have g2:Below w.heap.size w w2:=((Below.refl _ _).alloc (Nat.le_refl _) _).trans (hb2.mono (by simp));clear hG hb2;go_wp2_with fail;rw[←HI.out];clear HI;have hq1:¬9223372036854775807<1+I.length:=oo;have hq2:¬9223372036854775807<I.length+1+(two (sumOf I)).length:=oo;have hq3:¬9223372036854775807<1+I.length+(two (sumOf I)).length:=oo;go_region_with(first|(go_at_call 89;refine(ZB _ _ (by omega)).mono ?_;rintro e w' ⟨rfl,rfl⟩)|(go_at_call 88;refine(jc _ _ (by omega) (by omega)).mono ?_;rintro e w3 ⟨rfl,hb3⟩;have hz3:=hb3.size;(try simp at hz3);try(have hb4:=zG hb3;have hxx:=zJ (yl _ _ _) hb4 (by simp))))
 all_goals
  go_wp2;go_ret;exact⟨vZ (by rw[HT.out]),yL⟩
def wR (l:Bs)(a:Int):Option (Blk×Int):=if yM l a=true then some (xq l a,yT l a) else none
def pO (o:Option (Blk×Int)):Ending:=.returned (.tuple #[bkV ((o.map (·.1)).getD bkZ),.int .i64 ((o.map (·.2)).getD 0),.bool o.isSome])
theorem qB {l:Bs}{a:Int}(h:yM l a=false):pO (wR l a)= .returned (.tuple #[.agg xB,.int .i64 0,.bool false]):=by
 unfold wR;rw[h];rfl
theorem gV {l:Bs}{a:Int}(h:¬uQ l a=true):yM l a=false:=by
 have h:uQ l a=false:=(by simpa using h);unfold yM;rw[h];rfl
theorem XM {l:Bs}{a:Int}(h:¬uQ l a=true):
 a<0∨∃n:Nat,a=n∧((l.length:Int)<n∨(n≤l.length∧(l.length:Int) - n<10)∨(n+10≤l.length∧(byteAt l n != 181)=true)∨(n+10≤l.length∧(byteAt l n != 181)=false∧1<byteAt l ((n:Int)+1))):=by
 by_cases h0:a<0
 ·exact .inl h0
 obtain⟨n,rfl⟩:=Int.eq_ofNat_of_zero_le (by omega:0≤a);refine .inr ⟨n,rfl,?_⟩;simp only[uQ,Bool.and_eq_true,decide_eq_true_eq] at h;by_cases h1:(l.length:Int)<n
 ·exact .inl h1
 by_cases h2:(l.length:Int) - n<10
 ·exact .inr (.inl ⟨by omega,h2⟩)
 by_cases h3:byteAt l n=181
 ·refine .inr (.inr (.inr ⟨by omega,by simp [h3],?_⟩))
  have:¬byteAt l ((n:Int)+1)≤1:=fun h4=>h ⟨⟨by omega,oo⟩,h3,h4⟩;omega
 ·exact .inr (.inr (.inl ⟨by omega,by simpa using h3⟩))
theorem ZF {l:Bs}{a:Int}(h:uQ l a=true):∃n:Nat,a=n∧n+10≤l.length∧(byteAt l n != 181)=false∧byteAt l ((n:Int)+1)≤1:=by
 simp only[uQ,Bool.and_eq_true,decide_eq_true_eq] at h;obtain⟨⟨h0,h1⟩,h2,h3⟩:=h;obtain⟨n,rfl⟩:=Int.eq_ofNat_of_zero_le h0;exact⟨n,rfl,by omega,by simpa using h2,h3⟩
theorem dE (l:Bs)(n:Nat)(h:n+2≤l.length):numAt ((l.drop n).take 2) 0=numAt l n:=by
 have h0:n<l.length:=oo;have h1:n+1<l.length:=oo;unfold numAt;have e:((n:Int)+1)=((n+1:Nat):Int):=oo;rw[e,zX l n h0,zX l (n+1) h1];have e0:((l.drop n).take 2)=[l[n],l[n+1]]:=by
  rw[List.drop_eq_getElem_cons h0,List.drop_eq_getElem_cons h1];rfl
 rw[e0];rfl
theorem lX (l:Bs)(w:World)(h:2≤l.length):
 Calls Tryz.prog 48 #[.string ⟨l.toArray⟩] w fun e w'=>e= .returned (.int .i64 (numAt l 0))∧Below w.heap.size w w':=by
 have h0:=zL l 0;have h1:=yu l 0;have h2:=zL l 1;have h3:=yu l 1;have hl:(2:Int)≤l.length:=oo;go_enter Tryz.func48,Tryz.ntmps48;go_wp2;go_quiet(fail);go_wp2;go_ret;exact⟨yN (by unfold numAt;simp;omega),zu⟩
theorem mW (l:Bs)(a:Int)(w:World)(hs:l.length≤1500000)(ha0: -9223372036854775808≤a)(ha1:a≤9223372036854775807):
 Calls Tryz.prog 162 #[.string ⟨l.toArray⟩,.int .i64 a] w fun e w'=>e=pO (wR l a)∧Below w.heap.size w w':=by
 by_cases hh:uQ l a=true
 ·have HH:=Go.Lib.hid hh
  obtain⟨n,rfl,hn,hb181,hb1⟩:=ZF hh;clear hh;have hi1:¬(n:Int)<0:=oo;have hi2:¬(l.length:Int)<n:=oo;have hi3:¬(l.length:Int) - n<10:=oo;have hi4:¬1<byteAt l ((n:Int)+1):=oo;have hi5:(n:Int)<l.length:=oo;have hi6:(n:Int)+1<l.length:=oo;have cP6:=fun w=>lX ((l.drop (n+6)).take 2) w (by simp;omega);rw[dE l (n+6) (by omega)] at cP6;have cP2:=fun w=>lX ((l.drop (n+2)).take 2) w (by simp;omega);rw[dE l (n+2) (by omega)] at cP2;have cP4:=fun w=>lX ((l.drop (n+4)).take 2) w (by simp;omega);rw[dE l (n+4) (by omega)] at cP4;have hB:xq l n=⟨numAt l ((n+2:Nat):Int),decide (byteAt l ((n:Int)+1)=0),numAt l ((n+4:Nat):Int),(l.drop (n+8)).take (numAt l ((n+6:Nat):Int)).toNat⟩:=by
   unfold xq cutAt;have h6:=xA l ((n:Int)+6);simp only[Int.natCast_add,Int.cast_ofNat_Int];rw[show((n:Int)+8).toNat=n+8 by omega,show((n:Int)+8+numAt l (↑n+6)).toNat - (n+8)=(numAt l (↑n+6)).toNat by omega]
  have hE:yT l n=(n:Int)+10+numAt l ((n+6:Nat):Int):=by
   unfold yT;simp only[Int.natCast_add,Int.cast_ofNat_Int];omega
  have hn2:=xA l ((n+2:Nat):Int);have hn4:=xA l ((n+4:Nat):Int);have hn6:=xA l ((n+6:Nat):Int);generalize numAt l ((n+2:Nat):Int)=n2 at*;generalize numAt l ((n+4:Nat):Int)=n4 at*;obtain⟨m,hm⟩:=Int.eq_ofNat_of_zero_le hn6.1;rw[hm] at hB hE cP6 hn6;rw[Int.toNat_natCast] at hB;clear hm;obtain⟨hn2a,hn2b⟩:=hn2;obtain⟨hn4a,hn4b⟩:=hn4;have hn6b:=hn6.2;clear hn6;have hm2:m≤65535:=oo;have hx6:(⟨l.toArray⟩:ByteArray).extract (n+6) (n+8)=⟨((l.drop (n+6)).take 2).toArray⟩:=(by rw[ByteArray.extract_mk];simp);have hx2:(⟨l.toArray⟩:ByteArray).extract (n+2) (n+4)=⟨((l.drop (n+2)).take 2).toArray⟩:=(by rw[ByteArray.extract_mk];simp);have hx4:(⟨l.toArray⟩:ByteArray).extract (n+4) (n+6)=⟨((l.drop (n+4)).take 2).toArray⟩:=(by rw[ByteArray.extract_mk];simp);have hx8:(⟨l.toArray⟩:ByteArray).extract (n+8) (n+8+m)=⟨((l.drop (n+8)).take m).toArray⟩:=(by rw[ByteArray.extract_mk];simp);have hx0:(⟨l.toArray⟩:ByteArray).extract n (n+10+m)=⟨((l.drop n).take (10+m)).toArray⟩:=(by rw[ByteArray.extract_mk];simp;congr 1;omega);by_cases hfit:n+10+m≤l.length
  ·have hfi:¬(l.length:Int) - n - 10<m:=oo
   have hfi2:(n:Int)+8+m≤l.length:=oo;have hfi3:(n:Int)+10+m≤l.length:=oo;have hT:cutAt l n (yT l n)=(l.drop n).take (10+m):=by
    unfold cutAt;rw[hE];congr 1;omega
   have htx:=QH HH.out (by rw[hE];omega);rw[hT] at htx;have hP:yM l n=((xq l n).ok&&decide ((xq l n).text=(l.drop n).take (10+m))):=by
    unfold yM;rw[HH.out,decide_eq_true (by rw[hE];omega:yT l n≤l.length)];simp only[Bool.true_and];congr 1;exact(decide_eq_decide.2 htx).symm
   have HP:Hid (wR l n=if(xq l n).ok=true∧(xq l n).text=(l.drop n).take (10+m) then some (xq l n,(n:Int)+10+m) else none):=by
    show _=_;unfold wR;rw[hP,hE];simp
   clear htx hP hT hE;have hr:decide (byteAt l ((n:Int)+1)=0)=(byteAt l ((n:Int)+1)==0):=by
    by_cases h:byteAt l ((n:Int)+1)=0<;>simp [h]
   rw[hr] at hB;clear hr;generalize hR:(byteAt l ((n:Int)+1)==0)=r at*;have hbl:=zL l ((n:Int)+1);generalize hD:(l.drop (n+8)).take m=D at*;have hDl:D.length≤65535:=(by rw[←hD];simp;omega);generalize hTT:(l.drop n).take (10+m)=T at*;have HB:=Go.Lib.hid hB;have hTk:List.take (n+10+m - n) (List.drop n l)=T:=(by rw[show n+10+m - n=10+m by omega];exact hTT);have HD:=Go.Lib.hid hD;clear hB hD hTT;have hsm:(⟨n2,r,n4,D⟩:Blk).sm:=⟨hn2a,hn2b,hn4a,hn4b,by show D.length≤_;omega⟩;go_enter Tryz.func162,Tryz.ntmps162;go_wp2_with fail;have K0:=Bk.new w xB 160;refine(cP6 _).mono ?_;rintro e w1 ⟨rfl,hb1⟩;have K1:=K0.below hb1 K0.lt;have hz1:=hb1.size;simp only[World.size_alloc] at hz1;have g1:Below w.heap.size w w1:=((Below.refl _ _).alloc (Nat.le_refl _) _).trans (hb1.mono (by simp));clear hb1 K0 cP6;go_wp2_with fail;go_cut [8] (fun p wx=>∃gp:Nat,p= .pointer (some ⟨gp,0,none⟩)∧w1.heap.size≤gp∧Bk wx gp 160 (bkC ⟨n2,r,n4,D⟩)∧Below w1.heap.size w1 wx)
   case first=>
    have hw1:IntKind.i64.wrap ((n:Int)+1)=(n:Int)+1:=IntWalk.i64_in _ oo;have hw2:IntKind.i64.wrap ((n:Int)+2)=(n:Int)+2:=IntWalk.i64_in _ oo;have hw4:IntKind.i64.wrap ((n:Int)+4)=(n:Int)+4:=IntWalk.i64_in _ oo;have hw6:IntKind.i64.wrap ((n:Int)+6)=(n:Int)+6:=IntWalk.i64_in _ oo;have hw8:IntKind.i64.wrap ((n:Int)+8)=(n:Int)+8:=IntWalk.i64_in _ oo;have hw9:IntKind.i64.wrap ((n:Int)+8+m)=(n:Int)+8+m:=IntWalk.i64_in _ oo;have hp1:(0:Int)≤(n:Int)+1:=oo;have hp2:(0:Int)≤(n:Int)+2:=oo;have hp4:(0:Int)≤(n:Int)+4:=oo;have hp6:(0:Int)≤(n:Int)+6:=oo;have hp8:(0:Int)≤(n:Int)+8:=oo;have hp9:(0:Int)≤(n:Int)+8+m:=oo;have hl4:(n:Int)+4≤l.length:=oo;have hl6:(n:Int)+6≤l.length:=oo;have h24:(n:Int)+2≤(n:Int)+4:=oo;have h46:(n:Int)+4≤(n:Int)+6:=oo;have h89:(n:Int)+8≤(n:Int)+8+m:=oo;have ht2:((n:Int)+2).toNat=n+2:=oo;have ht4:((n:Int)+4).toNat=n+4:=oo;have ht6:((n:Int)+6).toNat=n+6:=oo;have ht8:((n:Int)+8).toNat=n+8:=oo;have ht9:((n:Int)+8+m).toNat=n+8+m:=oo;have S1:=Bk.new w1 xB 160;refine wp_region_held_drew (S:=(fun w'=>Below w1.heap.size w1 w')) kr ?_ (fun hSS=> ?_);focus(exact yL)
    refine tk 0 ?_;try simp only[Act.put,u2,u3,u4]
    refine tk 1 ?_;try simp only[Act.put,u2,u3,u4]
    refine tk 2 ?_;try simp only[Act.put,u2,u3,u4]
    refine tk 3 ?_;try simp only[Act.put,u2,u3,u4]
    refine tk 4 ?_;try simp only[Act.put,u2,u3,u4]
    refine tk 5 ?_;try simp only[Act.put,u2,u3,u4]
    refine tk 7 ?_;try simp only[Act.put,u2,u3,u4]
    refine tk 8 ?_;try simp only[Act.put,u2,u3,u4]
    refine tk 9 ?_;try simp only[Act.put,u2,u3,u4]
    refine tk 10 ?_;try simp only[Act.put,u2,u3,u4]
    refine tk 11 ?_;try simp only[Act.put,u2,u3,u4]
    refine tk 12 ?_;try simp only[Act.put,u2,u3,u4]
    refine tk 13 ?_;try simp only[Act.put,u2,u3,u4]
    refine tk 14 ?_;try simp only[Act.put,u2,u3,u4]
    refine tk 15 ?_;try simp only[Act.put,u2,u3,u4]
    refine tk 16 ?_;try simp only[Act.put,u2,u3,u4]
    refine tk 17 ?_;try simp only[Act.put,u2,u3,u4]
    refine tk 19 ?_;try simp only[Act.put,u2,u3,u4]
    refine tk 20 ?_;try simp only[Act.put,u2,u3,u4]
    refine tk 21 ?_;try simp only[Act.put,u2,u3,u4]
    refine tk 22 ?_;try simp only[Act.put,u2,u3,u4]
    refine tk 23 ?_;try simp only[Act.put,u2,u3,u4]
    refine tk 24 ?_;try simp only[Act.put,u2,u3,u4]
    refine tk 25 ?_;try simp only[Act.put,u2,u3,u4]
    refine tk 26 ?_;try simp only[Act.put,u2,u3,u4]
    refine wpAnyH_ready (rs:=[6,28]) (by kernel_rfl) (by simp) ?_;refine(AllReadyH.cons (o:=_) rfl (fun KK hKK=> ?_) (AllReadyH.cons (o:=_) rfl (fun KK hKK=> ?_) AllReadyH.nil))
    ·
     go_simp
     (go_at_call 48;(with_reducible refine(cP2 _).mono ?_);rintro e w2 ⟨rfl,hb2⟩;have hz2:=hb2.size;(try simp at hz2))
     refine hKK.out _ _ (by exact yL) fun hSS=> ?_;try simp only[Act.put,u2,u3,u4]
     refine wpAnyH_ready (rs:=[18,28]) (by kernel_rfl) (by simp) ?_;refine(AllReadyH.cons (o:=_) rfl (fun KK hKK=> ?_) (AllReadyH.cons (o:=_) rfl (fun KK hKK=> ?_) AllReadyH.nil))
     ·
      go_simp
      (go_at_call 48;(with_reducible refine(cP4 _).mono ?_);rintro e w3 ⟨rfl,hb3⟩;have hz3:=hb3.size)
      refine hKK.out _ _ (by exact yL) fun hSS=> ?_;try simp only[Act.put,u2,u3,u4]
      refine tk 27 ?_;try simp only[Act.put,u2,u3,u4]
      refine rd1 28 fun KK hKK=> ?_;go_simp;refine hKK.out _ _ (by exact yL) fun hSS=> ?_;try simp only[Act.put,u2,u3,u4]
      refine rd1 29 fun KK hKK=> ?_;go_simp;refine hKK.out _ _ (by exact yL) fun hSS=> ?_;try simp only[Act.put,u2,u3,u4]
      refine wpAnyH_done kr ?_ _;go_wp2_with fail;go_meet;rw[HD.out];exact⟨_,rfl,by first|omega|(simp;omega),Bk.new _ _ _,yL⟩
     ·
      go_simp;refine hKK.out _ _ (by exact yL) fun hSS=> ?_;try simp only[Act.put,u2,u3,u4]
      refine rd1 18 fun KK hKK=> ?_;go_simp
      (go_at_call 48;(with_reducible refine(cP4 _).mono ?_);rintro e w3 ⟨rfl,hb3⟩;have hz3:=hb3.size;simp at hz3;have K3:=Bk.below (Bk.new w2 xB 160) hb3 (by simp);have X3:=K3.cell;have F3:=K3.free)
      refine hKK.out _ _ (by exact yL) fun hSS=> ?_;try simp only[Act.put,u2,u3,u4]
      refine tk 27 ?_;try simp only[Act.put,u2,u3,u4]
      refine rd1 29 fun KK hKK=> ?_;go_simp;refine hKK.out _ _ (by exact yL) fun hSS=> ?_;try simp only[Act.put,u2,u3,u4]
      refine wpAnyH_done kr ?_ _;go_wp2_with fail;go_meet;rw[HD.out];exact⟨_,rfl,by first|omega|(simp;omega),(((K3.set 0 _).set 1 _).set 2 _).set 3 _,yL⟩
    ·
     go_simp;refine hKK.out _ _ (by exact yL) fun hSS=> ?_;try simp only[Act.put,u2,u3,u4]
     refine rd1 6 fun KK hKK=> ?_;go_simp
     (go_at_call 48;(with_reducible refine(cP2 _).mono ?_);rintro e w2 ⟨rfl,hb2⟩;have hz2:=hb2.size;simp at hz2;have K2:=Bk.below (Bk.drew (Bk.new w1 xB 160)) hb2 (by simp))
     refine hKK.out _ _ (by exact yL) fun hSS=> ?_;try simp only[Act.put,u2,u3,u4]
     refine rd1 18 fun KK hKK=> ?_;go_simp
     (go_at_call 48;(with_reducible refine(cP4 _).mono ?_);rintro e w3 ⟨rfl,hb3⟩;have hz3:=hb3.size;have K3:=Bk.below K2 hb3 K2.lt;have X3:=K3.cell;have F3:=K3.free)
     refine hKK.out _ _ (by exact yL) fun hSS=> ?_;try simp only[Act.put,u2,u3,u4]
     refine tk 27 ?_;try simp only[Act.put,u2,u3,u4]
     refine rd1 29 fun KK hKK=> ?_;go_simp;refine hKK.out _ _ (by exact yL) fun hSS=> ?_;try simp only[Act.put,u2,u3,u4]
     refine wpAnyH_done kr ?_ _;go_wp2_with fail;go_meet;rw[HD.out];exact⟨_,rfl,by first|omega|(simp;omega),(((K3.set 0 _).set 1 _).set 2 _).set 3 _,yL⟩
   case rest=>
    obtain⟨gp,rfl,hgp,hbk,hb3⟩:=hcut;have K3:=K1.below hb3 oo;have g3:=g1.trans (hb3.mono oo);have hz3:=hb3.size;have hgl:=hbk.lt;clear K1 g1 hb3;have X3:=K3.cell;have F3:=K3.free;have Y3:=hbk.cell;have hne:¬gp=w.heap.size:=oo;have hG:=zI hbk.cell hgl;have hp0:(0:Int)≤(n:Int)+10+m:=oo;have hpe:(n:Int)≤(n:Int)+10+m:=oo;have hte:((n:Int)+10+m).toNat=n+10+m:=oo;have cF:=fun w=>SL ⟨n2,r,n4,D⟩ w hsm;have cT:=fun w=>jV ⟨n2,r,n4,D⟩ w hsm;have HP2:Hid (wR l n=if(⟨n2,r,n4,D⟩:Blk).ok=true∧(⟨n2,r,n4,D⟩:Blk).text=T then some (⟨n2,r,n4,D⟩,(n:Int)+10+m) else none):=by
     show _=_;rw[HP.out,HB.out]
    clear HP HB hsm;generalize(⟨n2,r,n4,D⟩:Blk).ok=ok at*;generalize(⟨n2,r,n4,D⟩:Blk).text=TT at*;have hcases:ok=false∨(ok=true∧((decide (TT=T)=false∧decide (TT≠T)=true)∨(decide (TT=T)=true∧decide (TT≠T)=false))):=by
     cases ok
     ·exact .inl rfl
     ·refine .inr ⟨rfl,?_⟩
      by_cases h:TT=T
      ·right;simp [h]
      ·left;simp [h]
    rcases hcases with rfl|⟨rfl,⟨hd,hd2⟩|⟨hd,hd2⟩⟩
    ·have HR:Hid (pO (wR l n)= .returned (.tuple #[.agg xB,.int .i64 0,.bool false])):=by show _=_;rw[HP2.out];simp;rfl
     clear HP2;go_wp2_with fail;refine wp_region_quiet_below kr kr ?_;repeat(go_big_quiet_step ((first|(go_at_call 196;exact Calls.regrown_of (cF _))|(go_at_call 197;exact Calls.regrown_of (cT _)))))
     refine wpQuiet_nil ?_;intro w4 hw2;have hb4:Below _ _ w4:=zh hw2;clear hw2;have K4:=K3.below hb4 oo;have g4:=g3.trans (hb4.mono oo);have X4:=K4.cell;have F4:=K4.free;clear X3 F3 hG;go_wp2;exact bodyPost_ret (v:=.tuple #[.agg xB,.int .i64 0,.bool false]) (by simp [results,Tryz.results162,go_sem,X4]) rfl ⟨HR.out.symm,zu⟩
    ·have HR:Hid (pO (wR l n)= .returned (.tuple #[.agg xB,.int .i64 0,.bool false])):=by show _=_;rw[HP2.out,if_neg (fun h=>of_decide_eq_false hd h.2)];rfl
     clear HP2;go_wp2_with fail;refine wp_region_quiet_below kr kr ?_;repeat(go_big_quiet_step ((first|(go_at_call 196;exact Calls.regrown_of (cF _))|(go_at_call 197;exact Calls.regrown_of (cT _)))))
     refine wpQuiet_nil ?_;intro w4 hw2;have hb4:Below _ _ w4:=zh hw2;clear hw2;have K4:=K3.below hb4 oo;have g4:=g3.trans (hb4.mono oo);have X4:=K4.cell;have F4:=K4.free;clear X3 F3 hG;go_wp2;exact bodyPost_ret (v:=.tuple #[.agg xB,.int .i64 0,.bool false]) (by simp [results,Tryz.results162,go_sem,X4]) rfl ⟨HR.out.symm,zu⟩
    ·have HR:Hid (pO (wR l n)= .returned (.tuple #[bkV ⟨n2,r,n4,D⟩,.int .i64 ((n:Int)+10+m),.bool true])):=by show _=_;rw[HP2.out,if_pos ⟨rfl,of_decide_eq_true hd⟩];rfl
     clear HP2;go_wp2_with fail;refine wp_region_quiet_below kr kr ?_;repeat(go_big_quiet_step ((first|(go_at_call 196;exact Calls.regrown_of (cF _))|(go_at_call 197;exact Calls.regrown_of (cT _)))))
     refine wpQuiet_nil ?_;intro w4 hw2;have hb4:Below _ _ w4:=zh hw2;clear hw2;have K4:=K3.below hb4 oo;have k4:=hbk.below hb4 oo;have g4:=g3.trans (hb4.mono oo);have X4:=K4.cell;have F4:=K4.free;have Y4:=k4.cell;clear X3 F3 Y3 hG;go_wp2;exact bodyPost_ret (v:=.tuple #[bkV ⟨n2,r,n4,D⟩,.int .i64 ((n:Int)+10+m),.bool true]) (by simp [results,Tryz.results162,go_sem,X4]) rfl ⟨HR.out.symm,zu⟩
  ·have hfi:(l.length:Int) - n - 10<m:=oo
   have HR:Hid (pO (wR l n)= .returned (.tuple #[.agg xB,.int .i64 0,.bool false])):=by
    refine qB ?_;unfold yM;rw[decide_eq_false (by rw[hE];omega:¬yT l n≤l.length)];simp
   clear hE hB;go_enter Tryz.func162,Tryz.ntmps162;go_wp2_with fail;have K0:=Bk.new w xB 160;refine(cP6 _).mono ?_;rintro e w1 ⟨rfl,hb1⟩;have K1:=K0.below hb1 K0.lt;have hz1:=hb1.size;simp only[World.size_alloc] at hz1;have g1:Below w.heap.size w w1:=((Below.refl _ _).alloc (Nat.le_refl _) _).trans (hb1.mono (by simp));have X1:=K1.cell;have F1:=K1.free;go_wp2;exact bodyPost_ret (v:=.tuple #[.agg xB,.int .i64 0,.bool false]) (by simp [results,Tryz.results162,go_sem,X1]) rfl ⟨HR.out.symm,zu⟩
 ·have HR:Hid (pO (wR l a)= .returned (.tuple #[.agg xB,.int .i64 0,.bool false])):=qB (gV hh)
  have hw:=XM hh;clear hh;rcases hw with h0|⟨n,rfl,h1⟩
  ·go_enter Tryz.func162,Tryz.ntmps162
   go_wp2;exact bodyPost_ret (v:=.tuple #[.agg xB,.int .i64 0,.bool false]) (by simp [results,Tryz.results162,go_sem]) rfl ⟨HR.out.symm,zu⟩
  ·have hi1:¬(n:Int)<0:=oo
   rcases h1 with h1|⟨h1,h2⟩|⟨h1,h2⟩|⟨h1,h2,h3⟩
   ·go_enter Tryz.func162,Tryz.ntmps162
    go_wp2;exact bodyPost_ret (v:=.tuple #[.agg xB,.int .i64 0,.bool false]) (by simp [results,Tryz.results162,go_sem]) rfl ⟨HR.out.symm,zu⟩
   all_goals
    have hi2:¬(l.length:Int)<n:=oo
    first|have hi3:¬(l.length:Int) - n<10:=oo
         |skip
    first|have hi5:(n:Int)<l.length:=oo
         |skip
    first|have hi6:(n:Int)+1<l.length:=oo
         |skip
    go_enter Tryz.func162,Tryz.ntmps162;go_wp2;exact bodyPost_ret (v:=.tuple #[.agg xB,.int .i64 0,.bool false]) (by simp [results,Tryz.results162,go_sem]) rfl ⟨HR.out.symm,zu⟩
theorem fM (l:Bs)(a:Nat)(w:World)(h:a+1<l.length)(hl:l.length≤4000000):
 Calls Tryz.prog 45 #[.string ⟨l.toArray⟩,.int .i64 (a:Int)] w fun e w'=>e= .returned (.int .i64 (numAt l a))∧Below w.heap.size w w':=by
 have h0:=zL l a;have h1:=yu l a;have h2:=zL l ((a:Int)+1);have h3:=yu l ((a:Int)+1);have hi:(a:Int)+1<l.length:=oo;go_enter Tryz.func45,Tryz.ntmps45;go_wp2;go_quiet(fail);go_wp2;go_ret;exact⟨rfl,zu⟩
theorem lH (b:Blk)(w:World)(hb:b.sm):
 Calls Tryz.prog 166 #[bkV b] w fun e w'=>e= .returned (.bool b.ok)∧Below w.heap.size w w':=by
 obtain⟨n,r,s,d⟩:=b;obtain⟨h1,h2,h3,h4,h5⟩:=hb;simp only at h1 h2 h3 h4 h5;go_enter Tryz.func166,Tryz.ntmps166;go_wp2
 all_goals go_ret
 all_goals refine⟨zQ ?_,(Below.refl _ _).alloc (Nat.le_refl _) _⟩
 all_goals (rw[Bool.eq_iff_iff,Blk.lZ];(try simp only[decide_eq_true_eq,beq_iff_eq]);grind)
def Ub (b:Blk):Ending:=.returned (.tuple #[.string ⟨(if b.ok=true then b.text else[]).toArray⟩,.bool b.ok])
theorem aK (n:Int):(two n).length≤2:=by simp [two]
theorem af (b:Blk)(w:World)(hb:b.sm):
 Calls Tryz.prog 214 #[bkV b] w fun e w'=>e=Ub b∧Below w.heap.size w w':=by
 have hsb:=uH b.inner;have hie:b.inner=(if b.raw=true then(0:UInt8) else 1)::(two b.num++(two b.size++(two b.body.length++b.body))):=(by simp [Blk.inner]);have hte:b.text=181::(b.inner++two (sumOf b.inner)):=rfl;have cV:=fun w=>lH b w hb;have hrs:Ub b= .returned (.tuple #[.string ⟨(if b.ok=true then b.text else[]).toArray⟩,.bool b.ok]):=rfl;obtain⟨n,r,s,d⟩:=b;obtain⟨h1,h2,h3,h4,h5⟩:=hb;simp only at h1 h2 h3 h4 h5 hie cV;generalize Ub ⟨n,r,s,d⟩=RR at*;generalize(⟨n,r,s,d⟩:Blk).text=T at*;generalize(⟨n,r,s,d⟩:Blk).inner=I at*;generalize(⟨n,r,s,d⟩:Blk).ok=ok at*;have HT:=Go.Lib.hid hte;have t1:=aK n;have t2:=aK s;have t3:=aK d.length;have t4:=aK (sumOf I);have hil:I.length≤1500007:=(by rw[hie];simp;omega);have HI:=Go.Lib.hid hie;have HRR:=Go.Lib.hid hrs;clear hie hte hrs
 cases ok
 ·go_enter Tryz.func214,Tryz.ntmps214
  go_wp2_with fail;refine(cV _).mono ?_;rintro e w2 ⟨rfl,hb2⟩;have hz2:=hb2.size;simp only[World.size_alloc] at hz2;have g2:Below w.heap.size w w2:=((Below.refl _ _).alloc (Nat.le_refl _) _).trans (hb2.mono (by simp));go_wp2;go_ret2;exact⟨by rw[HRR.out];rfl,g2⟩
 cases r
 all_goals
  go_enter Tryz.func214,Tryz.ntmps214;go_wp2_with fail;refine(cV _).mono ?_;rintro e w1 ⟨rfl,hb1⟩;have hz1:=hb1.size;simp only[World.size_alloc] at hz1;have X1:=zJ (yl _ _ _) hb1 (by simp);have g1:Below w.heap.size w w1:=((Below.refl _ _).alloc (Nat.le_refl _) _).trans (hb1.mono (by simp));clear hb1 cV;have hG:=zI X1 oo;go_wp2_with fail;refine wp_region_quiet_below kr kr ?_;repeat(go_big_quiet_step (((go_at_call 53;exact Calls.regrown_of (two_any _ _ oo oo)))))
  refine wpQuiet_nil ?_;intro w2 hw2;have hb2:Below _ _ w2:=zh hw2;clear hw2;have hz2:=hb2.size;have g2:Below w.heap.size w w2:=g1.trans (hb2.mono oo);clear hG hb2 X1;go_wp2_with fail;have HI2:=HI.out;simp only[if_true,if_false,Bool.false_eq_true] at HI2;rw[←HI2];clear HI HI2;have hq1:¬9223372036854775807<1+I.length:=oo;have hq2:¬9223372036854775807<I.length+1+(two (sumOf I)).length:=oo;have hq3:¬9223372036854775807<1+I.length+(two (sumOf I)).length:=oo;go_region_with(first|(go_at_call 47;refine(qE _ _ (by omega)).mono ?_;rintro e w' ⟨rfl,rfl⟩)|(go_at_call 53;refine(two_any _ _ (by omega) (by omega)).mono ?_;rintro e w3 ⟨rfl,hb3⟩;have hz3:=hb3.size;(try simp at hz3);try(have hb4:=zG hb3;have hxx:=zJ (yl _ _ _) hb4 (by simp))))
  all_goals
   go_wp2;go_ret2;exact⟨by rw[HRR.out,HT.out,if_pos trivial];rfl,yL⟩
theorem lL (l:Bs)(a:Int)(w:World)(hs:l.length≤1500000)(ha0: -9223372036854775808≤a)(ha1:a≤9223372036854775807):
 Calls Tryz.prog 137 #[.string ⟨l.toArray⟩,.int .i64 a] w fun e w'=>e=pO (wR l a)∧Below w.heap.size w w':=by
 by_cases hh:uQ l a=true
 ·have HH:=Go.Lib.hid hh
  obtain⟨n,rfl,hn,hb181,hb1⟩:=ZF hh;clear hh;have hi1:¬(n:Int)<0:=oo;have hi2:¬(l.length:Int) - 10<n:=oo;have hi4:¬1<byteAt l ((n:Int)+1):=oo;have hi5:(n:Int)<l.length:=oo;have hi6:(n:Int)+1<l.length:=oo;have cP6:=fun w=>fM l (n+6) w oo oo;have cP2:=fun w=>fM l (n+2) w oo oo;have cP4:=fun w=>fM l (n+4) w oo oo;have ec6:((n+6:Nat):Int)=(n:Int)+6:=oo;have ec2:((n+2:Nat):Int)=(n:Int)+2:=oo;have ec4:((n+4:Nat):Int)=(n:Int)+4:=oo;rw[ec6] at cP6;rw[ec2] at cP2;rw[ec4] at cP4;clear ec6 ec2 ec4;have hB:xq l n=⟨numAt l ((n:Int)+2),decide (byteAt l ((n:Int)+1)=0),numAt l ((n:Int)+4),(l.drop (n+8)).take (numAt l ((n:Int)+6)).toNat⟩:=by
   unfold xq cutAt;have h6:=xA l ((n:Int)+6);rw[show((n:Int)+8).toNat=n+8 by omega,show((n:Int)+8+numAt l (↑n+6)).toNat - (n+8)=(numAt l (↑n+6)).toNat by omega]
  have hE:yT l n=(n:Int)+8+numAt l ((n:Int)+6)+2:=rfl;have hn2:=xA l ((n:Int)+2);have hn4:=xA l ((n:Int)+4);have hn6:=xA l ((n:Int)+6);generalize numAt l ((n:Int)+2)=n2 at*;generalize numAt l ((n:Int)+4)=n4 at*;obtain⟨m,hm⟩:=Int.eq_ofNat_of_zero_le hn6.1;rw[hm] at hB hE cP6 hn6;rw[Int.toNat_natCast] at hB;clear hm;obtain⟨hn2a,hn2b⟩:=hn2;obtain⟨hn4a,hn4b⟩:=hn4;have hn6b:=hn6.2;clear hn6;have hm2:m≤65535:=oo;by_cases hfit:n+10+m≤l.length
  ·have hfi:¬(l.length:Int) - 2<(n:Int)+8+m:=oo
   have hfi2:(n:Int)+8+m≤l.length:=oo;have cPe:=fun w=>fM l (n+8+m) w oo oo;have ece:((n+8+m:Nat):Int)=(n:Int)+8+m:=oo;rw[ece] at cPe;clear ece;have hP:yM l n=((xq l n).ok&&decide (sumOf ((l.drop (n+1)).take (7+m))=numAt l ((n:Int)+8+m))):=by
    unfold yM;rw[HH.out,decide_eq_true (by rw[hE];omega:yT l n≤l.length),hE];simp only[Bool.true_and];have e1:cutAt l ((n:Int)+1) ((n:Int)+8+m+2 - 2)=(l.drop (n+1)).take (7+m):=by
     unfold cutAt;rw[show((n:Int)+1).toNat=n+1 by omega,show((n:Int)+8+m+2 - 2).toNat - (n+1)=7+m by omega]
    rw[e1,show(n:Int)+8+m+2 - 2=(n:Int)+8+m by omega]
   have HP:Hid (wR l n=if(xq l n).ok=true∧sumOf ((l.drop (n+1)).take (7+m))=numAt l ((n:Int)+8+m) then some (xq l n,(n:Int)+8+m+2) else none):=by
    show _=_;unfold wR;rw[hP,hE];simp
   clear hP hE;have hr:decide (byteAt l ((n:Int)+1)=0)=(byteAt l ((n:Int)+1)==0):=by
    by_cases h:byteAt l ((n:Int)+1)=0<;>simp [h]
   rw[hr] at hB;clear hr;generalize hR:(byteAt l ((n:Int)+1)==0)=r at*;have hbl:=zL l ((n:Int)+1);generalize hD:(l.drop (n+8)).take m=D at*;have hDl:D.length≤65535:=(by rw[←hD];simp;omega);have HD:=Go.Lib.hid hD;clear hD;have hSx:(⟨l.toArray⟩:ByteArray).extract (n+1) (n+8+m)=⟨((l.drop (n+1)).take (7+m)).toArray⟩:=(by rw[ByteArray.extract_mk];simp;congr 1;omega);generalize hTT:(l.drop (n+1)).take (7+m)=T at*;have hTl:T.length≤100000:=(by rw[←hTT];simp;omega);have hTk:List.take (n+8+m - (n+1)) (List.drop (n+1) l)=T:=(by rw[show n+8+m - (n+1)=7+m by omega];exact hTT);have HB:=Go.Lib.hid hB;clear hB hTT;have hsm:(⟨n2,r,n4,D⟩:Blk).sm:=⟨hn2a,hn2b,hn4a,hn4b,by show D.length≤_;omega⟩;have hsb:=uH T;go_enter Tryz.func137,Tryz.ntmps137;go_wp2_with fail;have K0:=Bk.new w xB 160;refine(cP6 _).mono ?_;rintro e w1 ⟨rfl,hb1⟩;have K1:=K0.below hb1 K0.lt;have hz1:=hb1.size;simp only[World.size_alloc] at hz1;have g1:Below w.heap.size w w1:=((Below.refl _ _).alloc (Nat.le_refl _) _).trans (hb1.mono (by simp));clear hb1 K0 cP6;go_wp2_with fail;go_cut [9] (fun p wx=>∃gp:Nat,p= .pointer (some ⟨gp,0,none⟩)∧w1.heap.size≤gp∧Bk wx gp 160 (bkC ⟨n2,r,n4,D⟩)∧Below w1.heap.size w1 wx)
   case first=>
    have hw1:IntKind.i64.wrap ((n:Int)+1)=(n:Int)+1:=IntWalk.i64_in _ oo;have hw2:IntKind.i64.wrap ((n:Int)+2)=(n:Int)+2:=IntWalk.i64_in _ oo;have hw4:IntKind.i64.wrap ((n:Int)+4)=(n:Int)+4:=IntWalk.i64_in _ oo;have hp1:(0:Int)≤(n:Int)+1:=oo;have hp8:(0:Int)≤(n:Int)+8:=oo;have hp9:(0:Int)≤(n:Int)+8+m:=oo;have h89:(n:Int)+8≤(n:Int)+8+m:=oo;have ht8:((n:Int)+8).toNat=n+8:=oo;have ht9:((n:Int)+8+m).toNat=n+8+m:=oo;refine wp_region_held_drew (S:=(fun w'=>Below w1.heap.size w1 w')) kr ?_ (fun hSS=> ?_);focus(exact yL)
    refine tk 0 ?_;try simp only[Act.put,u2,u3,u4]
    refine tk 1 ?_;try simp only[Act.put,u2,u3,u4]
    refine tk 2 ?_;try simp only[Act.put,u2,u3,u4]
    refine tk 4 ?_;try simp only[Act.put,u2,u3,u4]
    refine tk 5 ?_;try simp only[Act.put,u2,u3,u4]
    refine tk 6 ?_;try simp only[Act.put,u2,u3,u4]
    refine tk 7 ?_;try simp only[Act.put,u2,u3,u4]
    refine tk 8 ?_;try simp only[Act.put,u2,u3,u4]
    refine tk 9 ?_;try simp only[Act.put,u2,u3,u4]
    refine tk 10 ?_;try simp only[Act.put,u2,u3,u4]
    refine tk 11 ?_;try simp only[Act.put,u2,u3,u4]
    refine tk 13 ?_;try simp only[Act.put,u2,u3,u4]
    refine tk 14 ?_;try simp only[Act.put,u2,u3,u4]
    refine tk 15 ?_;try simp only[Act.put,u2,u3,u4]
    refine tk 16 ?_;try simp only[Act.put,u2,u3,u4]
    refine wpAnyH_ready (rs:=[3,18]) (by kernel_rfl) (by simp) ?_;refine(AllReadyH.cons (o:=_) rfl (fun KK hKK=> ?_) (AllReadyH.cons (o:=_) rfl (fun KK hKK=> ?_) AllReadyH.nil))
    ·
     go_simp
     (go_at_call 45;(with_reducible refine(cP2 _).mono ?_);rintro e w2 ⟨rfl,hb2⟩;have hz2:=hb2.size;(try simp at hz2))
     refine hKK.out _ _ (by exact yL) fun hSS=> ?_;try simp only[Act.put,u2,u3,u4]
     refine wpAnyH_ready (rs:=[12,18]) (by kernel_rfl) (by simp) ?_;refine(AllReadyH.cons (o:=_) rfl (fun KK hKK=> ?_) (AllReadyH.cons (o:=_) rfl (fun KK hKK=> ?_) AllReadyH.nil))
     ·
      go_simp
      (go_at_call 45;(with_reducible refine(cP4 _).mono ?_);rintro e w3 ⟨rfl,hb3⟩;have hz3:=hb3.size)
      refine hKK.out _ _ (by exact yL) fun hSS=> ?_;try simp only[Act.put,u2,u3,u4]
      refine tk 17 ?_;try simp only[Act.put,u2,u3,u4]
      refine rd1 18 fun KK hKK=> ?_;go_simp;refine hKK.out _ _ (by exact yL) fun hSS=> ?_;try simp only[Act.put,u2,u3,u4]
      refine rd1 19 fun KK hKK=> ?_;go_simp;refine hKK.out _ _ (by exact yL) fun hSS=> ?_;try simp only[Act.put,u2,u3,u4]
      refine wpAnyH_done kr ?_ _;go_wp2_with fail;go_meet;rw[HD.out];exact⟨_,rfl,by first|omega|(simp;omega),Bk.new _ _ _,yL⟩
     ·
      go_simp;refine hKK.out _ _ (by exact yL) fun hSS=> ?_;try simp only[Act.put,u2,u3,u4]
      refine rd1 12 fun KK hKK=> ?_;go_simp
      (go_at_call 45;(with_reducible refine(cP4 _).mono ?_);rintro e w3 ⟨rfl,hb3⟩;have hz3:=hb3.size;simp at hz3;have K3:=Bk.below (Bk.new w2 xB 160) hb3 (by simp);have X3:=K3.cell;have F3:=K3.free)
      refine hKK.out _ _ (by exact yL) fun hSS=> ?_;try simp only[Act.put,u2,u3,u4]
      refine tk 17 ?_;try simp only[Act.put,u2,u3,u4]
      refine rd1 19 fun KK hKK=> ?_;go_simp;refine hKK.out _ _ (by exact yL) fun hSS=> ?_;try simp only[Act.put,u2,u3,u4]
      refine wpAnyH_done kr ?_ _;go_wp2_with fail;go_meet;rw[HD.out];exact⟨_,rfl,by first|omega|(simp;omega),(((K3.set 0 _).set 1 _).set 2 _).set 3 _,yL⟩
    ·
     go_simp;refine hKK.out _ _ (by exact yL) fun hSS=> ?_;try simp only[Act.put,u2,u3,u4]
     refine rd1 3 fun KK hKK=> ?_;go_simp
     (go_at_call 45;(with_reducible refine(cP2 _).mono ?_);rintro e w2 ⟨rfl,hb2⟩;have hz2:=hb2.size;simp at hz2;have K2:=Bk.below (Bk.drew (Bk.new w1 xB 160)) hb2 (by simp))
     refine hKK.out _ _ (by exact yL) fun hSS=> ?_;try simp only[Act.put,u2,u3,u4]
     refine rd1 12 fun KK hKK=> ?_;go_simp
     (go_at_call 45;(with_reducible refine(cP4 _).mono ?_);rintro e w3 ⟨rfl,hb3⟩;have hz3:=hb3.size;have K3:=Bk.below K2 hb3 K2.lt;have X3:=K3.cell;have F3:=K3.free)
     refine hKK.out _ _ (by exact yL) fun hSS=> ?_;try simp only[Act.put,u2,u3,u4]
     refine tk 17 ?_;try simp only[Act.put,u2,u3,u4]
     refine rd1 19 fun KK hKK=> ?_;go_simp;refine hKK.out _ _ (by exact yL) fun hSS=> ?_;try simp only[Act.put,u2,u3,u4]
     refine wpAnyH_done kr ?_ _;go_wp2_with fail;go_meet;rw[HD.out];exact⟨_,rfl,by first|omega|(simp;omega),(((K3.set 0 _).set 1 _).set 2 _).set 3 _,yL⟩
   case rest=>
    obtain⟨gp,rfl,hgp,hbk,hb3⟩:=hcut;have K3:=K1.below hb3 oo;have g3:=g1.trans (hb3.mono oo);have hz3:=hb3.size;have hgl:=hbk.lt;clear K1 g1 hb3;have X3:=K3.cell;have F3:=K3.free;have Y3:=hbk.cell;have hne:¬gp=w.heap.size:=oo;have hp1:(0:Int)≤(n:Int)+1:=oo;have hpe:(n:Int)+1≤(n:Int)+8+m:=oo;have cF:=fun w=>lH ⟨n2,r,n4,D⟩ w hsm;have HP2:Hid (wR l n=if(⟨n2,r,n4,D⟩:Blk).ok=true∧sumOf T=numAt l ((n:Int)+8+m) then some (⟨n2,r,n4,D⟩,(n:Int)+8+m+2) else none):=by
     show _=_;rw[HP.out,HB.out]
    clear HP HB hsm;generalize(⟨n2,r,n4,D⟩:Blk).ok=ok at*;generalize numAt l ((n:Int)+8+m)=N at*;have hcases:ok=false∨(ok=true∧((sumOf T==N)=false∧(sumOf T != N)=true∨(sumOf T==N)=true∧(sumOf T != N)=false)):=by
     cases ok
     ·exact .inl rfl
     ·refine .inr ⟨rfl,?_⟩
      by_cases h:sumOf T=N
      ·right;simp [h]
      ·left;simp [h]
    rcases hcases with rfl|⟨rfl,⟨hd,hd2⟩|⟨hd,hd2⟩⟩
    ·have HR:Hid (pO (wR l n)= .returned (.tuple #[.agg xB,.int .i64 0,.bool false])):=by show _=_;rw[HP2.out];simp;rfl
     clear HP2;go_wp2_with fail;refine(cF _).mono ?_;rintro e w4 ⟨rfl,hb4⟩;have K4:=K3.below hb4 oo;have g4:=g3.trans (hb4.mono oo);have X4:=K4.cell;have F4:=K4.free;clear X3 F3;go_wp2;exact bodyPost_ret (v:=.tuple #[.agg xB,.int .i64 0,.bool false]) (by simp [results,Tryz.results137,go_sem,X4]) rfl ⟨HR.out.symm,zu⟩
    ·have HR:Hid (pO (wR l n)= .returned (.tuple #[.agg xB,.int .i64 0,.bool false])):=by show _=_;rw[HP2.out,if_neg (fun h=>by simp [h.2] at hd)];rfl
     clear HP2;go_wp2_with fail;refine(cF _).mono ?_;rintro e w4 ⟨rfl,hb4⟩;have K4:=K3.below hb4 oo;have hz4:=hb4.size;have g4:=g3.trans (hb4.mono oo);clear X3 F3 hb4;go_wp2_with fail;refine(qE T _ oo).mono ?_;rintro e w5 ⟨rfl,rfl⟩;go_wp2_with fail;refine(cPe _).mono ?_;rintro e w5 ⟨rfl,hb5⟩;have K5:=K4.below hb5 oo;have g5:=g4.trans (hb5.mono oo);have X4:=K5.cell;have F4:=K5.free;go_wp2;exact bodyPost_ret (v:=.tuple #[.agg xB,.int .i64 0,.bool false]) (by simp [results,Tryz.results137,go_sem,X4]) rfl ⟨HR.out.symm,zu⟩
    ·have HR:Hid (pO (wR l n)= .returned (.tuple #[bkV ⟨n2,r,n4,D⟩,.int .i64 ((n:Int)+8+m+2),.bool true])):=by show _=_;rw[HP2.out,if_pos ⟨rfl,by simpa using hd⟩];rfl
     clear HP2;go_wp2_with fail;refine(cF _).mono ?_;rintro e w4 ⟨rfl,hb4⟩;have K4:=K3.below hb4 oo;have k4:=hbk.below hb4 oo;have hz4:=hb4.size;have g4:=g3.trans (hb4.mono oo);clear X3 F3 Y3 hb4;go_wp2_with fail;refine(qE T _ oo).mono ?_;rintro e w5 ⟨rfl,rfl⟩;go_wp2_with fail;refine(cPe _).mono ?_;rintro e w5 ⟨rfl,hb5⟩;have K5:=K4.below hb5 oo;have k5:=k4.below hb5 oo;have g5:=g4.trans (hb5.mono oo);have X4:=K5.cell;have F4:=K5.free;have Y4:=k5.cell;go_wp2;exact bodyPost_ret (v:=.tuple #[bkV ⟨n2,r,n4,D⟩,.int .i64 ((n:Int)+8+m+2),.bool true]) (by simp [results,Tryz.results137,go_sem,X4]) rfl ⟨HR.out.symm,zu⟩
  ·have hfi:(l.length:Int) - 2<(n:Int)+8+m:=oo
   have HR:Hid (pO (wR l n)= .returned (.tuple #[.agg xB,.int .i64 0,.bool false])):=by
    refine qB ?_;unfold yM;rw[decide_eq_false (by rw[hE];omega:¬yT l n≤l.length)];simp
   clear hE hB;go_enter Tryz.func137,Tryz.ntmps137;go_wp2_with fail;have K0:=Bk.new w xB 160;refine(cP6 _).mono ?_;rintro e w1 ⟨rfl,hb1⟩;have K1:=K0.below hb1 K0.lt;have hz1:=hb1.size;simp only[World.size_alloc] at hz1;have g1:Below w.heap.size w w1:=((Below.refl _ _).alloc (Nat.le_refl _) _).trans (hb1.mono (by simp));have X1:=K1.cell;have F1:=K1.free;go_wp2;exact bodyPost_ret (v:=.tuple #[.agg xB,.int .i64 0,.bool false]) (by simp [results,Tryz.results137,go_sem,X1]) rfl ⟨HR.out.symm,zu⟩
 ·have HR:Hid (pO (wR l a)= .returned (.tuple #[.agg xB,.int .i64 0,.bool false])):=qB (gV hh)
  have hw:=XM hh;clear hh;rcases hw with h0|⟨n,rfl,h1⟩
  ·go_enter Tryz.func137,Tryz.ntmps137
   go_wp2;exact bodyPost_ret (v:=.tuple #[.agg xB,.int .i64 0,.bool false]) (by simp [results,Tryz.results137,go_sem]) rfl ⟨HR.out.symm,zu⟩
  ·have hi1:¬(n:Int)<0:=oo
   rcases h1 with h1|⟨h1,h2⟩|⟨h1,h2⟩|⟨h1,h2,h3⟩
   all_goals
    first|have hi2:(l.length:Int) - 10<n:=oo
         |have hi2:¬(l.length:Int) - 10<n:=oo
    first|have hi5:(n:Int)<l.length:=oo
         |skip
    first|have hi6:(n:Int)+1<l.length:=oo
         |skip
    go_enter Tryz.func137,Tryz.ntmps137;go_wp2;exact bodyPost_ret (v:=.tuple #[.agg xB,.int .i64 0,.bool false]) (by simp [results,Tryz.results137,go_sem]) rfl ⟨HR.out.symm,zu⟩
theorem Nb {l:Bs}{a:Int}(h:yM l a=true):pO (wR l a)= .returned (.tuple #[bkV (xq l a),.int .i64 (yT l a),.bool true]):=by
 unfold wR;rw[if_pos h];rfl
theorem TI (l:Bs)(a:Int)(w:World)(hs:l.length≤1500000)(ha0: -9223372036854775808≤a)(ha1:a≤9223372036854775807)(h:yM l a=true):
 Calls Tryz.prog 162 #[.string ⟨l.toArray⟩,.int .i64 a] w fun e w'=>e= .returned (.tuple #[bkV (xq l a),.int .i64 (yT l a),.bool true])∧Below w.heap.size w w':=
 (mW l a w hs ha0 ha1).mono fun e w' ⟨he,hb⟩=>⟨he.trans (Nb h),hb⟩
theorem QR (l:Bs)(a:Int)(w:World)(hs:l.length≤1500000)(ha0: -9223372036854775808≤a)(ha1:a≤9223372036854775807)(h:yM l a=false):
 Calls Tryz.prog 162 #[.string ⟨l.toArray⟩,.int .i64 a] w fun e w'=>e= .returned (.tuple #[.agg xB,.int .i64 0,.bool false])∧Below w.heap.size w w':=
 (mW l a w hs ha0 ha1).mono fun e w' ⟨he,hb⟩=>⟨he.trans (qB h),hb⟩
theorem Sm (l:Bs)(a:Int)(w:World)(hs:l.length≤1500000)(ha0: -9223372036854775808≤a)(ha1:a≤9223372036854775807)(h:yM l a=true):
 Calls Tryz.prog 137 #[.string ⟨l.toArray⟩,.int .i64 a] w fun e w'=>e= .returned (.tuple #[bkV (xq l a),.int .i64 (yT l a),.bool true])∧Below w.heap.size w w':=
 (lL l a w hs ha0 ha1).mono fun e w' ⟨he,hb⟩=>⟨he.trans (Nb h),hb⟩
theorem QX (l:Bs)(a:Int)(w:World)(hs:l.length≤1500000)(ha0: -9223372036854775808≤a)(ha1:a≤9223372036854775807)(h:yM l a=false):
 Calls Tryz.prog 137 #[.string ⟨l.toArray⟩,.int .i64 a] w fun e w'=>e= .returned (.tuple #[.agg xB,.int .i64 0,.bool false])∧Below w.heap.size w w':=
 (lL l a w hs ha0 ha1).mono fun e w' ⟨he,hb⟩=>⟨he.trans (qB h),hb⟩
end Go.Proofs.YtfppmajoidkooaaGreatDoor
