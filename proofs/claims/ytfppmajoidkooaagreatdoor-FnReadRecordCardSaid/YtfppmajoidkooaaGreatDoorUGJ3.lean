import Derived.Test.YtfppmajoidkooaaGreatDoorUGJ1
import Derived.Test.YtfppmajoidkooaaGreatDoorUShelf
import Derived.Lib.BitFns
import Derived.Test.YtfppmajoidkooaaGreatDoorUGT
import Derived.Test.YtfppmajoidkooaaGreatDoorUGJ2
import Derived.Test.YtfppmajoidkooaaGreatDoorUGS2
set_option linter.unusedVariables false
set_option linter.unusedSimpArgs false
set_option maxHeartbeats 8000000
namespace Go.Proofs.YtfppmajoidkooaaGreatDoor
open Go.RowKit
set_option maxRecDepth 100000
attribute [local go_sem high] zy zA zB zO zK zY zx zk zl zq zi zo yP zD yt zF
theorem YV :∀n:Nat,n<2 ^ 64→n≠0→Go.Lib.bitLen n=needed n:=by
 intro n
 induction n using Nat.strongRecOn with
 |ind n ih=>
  intro h h0;rw[Go.Lib.bitLen_half n h0 h];by_cases h1:n≤1
  ·have:n=1:=oo
   subst this;rw[sJ 1 (by omega)];decide
  ·rw[pJ n (by omega),ih (n / 2) (by omega) (by omega) (by omega)];omega
theorem Tz (n:Nat)(h:n≤1000000):max 1 ((Go.Lib.bitLen n:Nat):Int)=(needed n:Nat):=by
 have hb:=qF 19 n oo;by_cases h0:n=0
 ·subst h0
  rw[sJ 0 (by omega)];decide
 ·rw[YV n (by omega) h0];omega
theorem VX (n:Int)(w:World)(h0:0≤n)(h1:n≤1000000):
 Calls Tryz.prog 300 #[.int .u64 n] w fun e w'=>e= .returned (.int .i64 (Go.Lib.bitLen n.toNat))∧w=w':=
 (Tryz.bits_Len n w h0 oo).mono fun _ _ ⟨h1,h2⟩=>⟨h1,h2.symm⟩
theorem ZI (n:Int)(w:World)(h0:0≤n)(h1:n≤1000000):
 Calls Tryz.prog 278 #[.int .i64 n] w fun e w'=>e= .returned (.int .i64 (needed n.toNat))∧Below w.heap.size w w':=by
 have HM:=Go.Lib.hid (Tz n.toNat oo);have cL:=fun w=>VX n w h0 h1;have hb:Go.Lib.bitLen n.toNat≤64:=Go.Lib.bitLen_le n.toNat 64 (Nat.le_refl _) oo;generalize Go.Lib.bitLen n.toNat=q at*;generalize needed n.toNat=p at*;have hw:IntKind.u64.wrap n=n:=IntWalk.u64_in _ ⟨h0,oo⟩;go_enter Tryz.func278,Tryz.ntmps278;go_wp2_with(go_at_call 300;refine(cL _).mono ?_;rintro e w' ⟨rfl,rfl⟩)
 all_goals
  go_ret;exact⟨yN (by have:=HM.out;omega),Below.refl _ _⟩
theorem Y8 (K:Kn)(A:Option Addr)(cap:Nat)(w:World)(hk:K.ok):
 Calls Tryz.prog 256 #[knV K A cap] w fun e w'=>e= .returned (.int .i64 K.width)∧Below w.heap.size w w':=by
 have hb:=hk.bd;have hg:=K.uJ hk;have hp:=hk.lm;obtain⟨hp1,hp2,hp3,hp4⟩:=hp;have hgr0:0≤K.great:=oo;have hgr1:K.great≤1000000:=oo;have hn:=qF 19 K.great.toNat oo;obtain⟨hn1,hn2⟩:=hn;have HX:Hid ((max (K.l+1) (needed K.great.toNat:Int))=(K.width:Int)):=by
  show _=_;unfold Kn.width;omega
 go_enter Tryz.func256,Tryz.ntmps256;go_wp2_with fail;have hG:=zI (yl w (knC K A cap) 130) (by simp);refine wp_region_quiet_below kr kr ?_;repeat(go_big_quiet_step ((first|(go_at_call 279;exact Calls.regrown_of (iY _ _ _ _ hk))|(go_at_call 278;exact Calls.regrown_of (ZI _ _ hgr0 hgr1)))))
 refine wpQuiet_nil ?_;intro w2 hw2;have hb2:Below _ _ w2:=zh hw2;clear hw2;go_wp2
 all_goals
  go_wp2;go_ret;exact⟨yN (by have:=HX.out;omega),((Below.refl _ _).alloc (Nat.le_refl _) _).trans (hb2.mono (by simp))⟩
def vF (o:Int)(i w:Nat):Nat:=if o=1 then w - 1 - i else i
def sG (l:Bs)(i:Nat):Nat:=(l[i]?.getD 48).toNat - 48
def sumTo (o:Int)(l:Bs)(w:Nat):Nat→Nat
 |0=>0
 |k+1=>sumTo o l w k+sG l k*2 ^ vF o k w
theorem iP (l:Bs)(h:yJ l=true)(i:Nat):(l[i]?.getD 48=48∧sG l i=0)∨(l[i]?.getD 48=49∧sG l i=1):=by
 unfold sG
 cases hi:l[i]? with
 |none=>left;exact⟨rfl,rfl⟩
 |some c=>
  have hm:c ∈ l:=List.mem_of_getElem? hi;have:=List.all_eq_true.1 h c hm;have h2:c=48∨c=49:=(by simpa using this);rcases h2 with e|e
  ·left;subst e;exact⟨rfl,rfl⟩
  ·right;subst e;exact⟨rfl,rfl⟩
theorem fE (o:Int)(i w:Nat)(h:i<w):vF o i w<w:=by unfold vF;split<;>omega
theorem U2 (o:Int)(l:Bs)(w:Nat)(hb:yJ l=true)(hw:w≤16):∀k,k≤w→sumTo o l w k≤k*65536
 |0,_=>by simp [sumTo]
 |k+1,h=>by
  have:=U2 o l w hb hw k oo;have hp:2 ^ vF o k w≤2 ^ 16:=Nat.pow_le_pow_right oo (by have:=fE o k w oo;omega);have hm:sG l k*2 ^ vF o k w≤1*2 ^ 16:=Nat.mul_le_mul (by rcases iP l hb k with h|h<;>omega) hp;unfold sumTo;omega
theorem Va (x:UInt8):∀(l:Bs),yI (x::l)=(x.toNat - 48)*2 ^ l.length+yI l:=by
 intro l
 induction l using y5 with
 |h0=>simp [yI]
 |h1 l y ih=>
  rw[show x::(l++[y])=(x::l)++[y] from rfl,wW,wW,ih];rw[List.length_append,List.length_cons,List.length_nil,Nat.pow_add,Nat.mul_add];have:2*((x.toNat - 48)*2 ^ l.length)=(x.toNat - 48)*(2 ^ l.length*2 ^ (0+1)):=by
   rw[Nat.zero_add,Nat.pow_one,←Nat.mul_assoc,Nat.mul_comm 2 (x.toNat - 48),Nat.mul_assoc,Nat.mul_comm 2]
  omega
theorem XU (o:Int)(ho:o≠1)(l:Bs)(w:Nat):∀k,k≤l.length→sumTo o l w k=yI (l.take k).reverse
 |0,_=>by simp [sumTo,yI]
 |k+1,h=>by
  have ih:=XU o ho l w k oo;rw[sumTo,ih,take_snoc' l k (by omega),List.reverse_append];show _=yI (l[k]::(l.take k).reverse);rw[Va];unfold sG vF;rw[if_neg ho,List.getElem?_eq_getElem (by omega),List.length_reverse,List.length_take,Nat.min_eq_left (by omega)];simp only[Option.getD_some];omega
theorem ZT (l:Bs):∀k,k≤l.length→sumTo 1 l l.length k=yI (l.take k)*2 ^ (l.length - k)
 |0,_=>by simp [sumTo,yI]
 |k+1,h=>by
  have ih:=ZT l k oo;rw[sumTo,ih,take_snoc' l k (by omega),wW];unfold sG vF;rw[if_pos rfl,List.getElem?_eq_getElem (by omega)];simp only[Option.getD_some];have e:l.length - k=(l.length - (k+1))+1:=oo;have e2:l.length - 1 - k=l.length - (k+1):=oo;rw[e2,e,Nat.pow_succ,Nat.add_mul];have:yI (l.take k)*(2 ^ (l.length - (k+1))*2)=2*yI (l.take k)*2 ^ (l.length - (k+1)):=by
   rw[Nat.mul_comm (2 ^ (l.length - (k+1))) 2,←Nat.mul_assoc,Nat.mul_comm (yI (l.take k)) 2]
  omega
theorem Y9 (o:Int)(ho:o=0∨o=1)(l:Bs):sumTo o l l.length l.length=numBits o l:=by
 unfold numBits;rcases ho with ho|ho
 ·rw[if_pos ho,XU o (by omega) l l.length l.length (Nat.le_refl _),List.take_length]
 ·rw[if_neg (by omega),ho,ZT l l.length (Nat.le_refl _),List.take_length,Nat.sub_self];simp
theorem UT (o:Int)(ho:o=0∨o=1)(c w k:Nat)(hk:k<w):(zU o c w)[k]? =some (oz c (vF o k w)):=by
 unfold zU vF wJ;rcases ho with ho|ho
 ·rw[if_pos ho,if_neg (by omega),List.getElem?_map,List.getElem?_range hk];rfl
 ·rw[if_neg (by omega),if_pos ho,List.getElem?_reverse (by simpa using hk)]
  simp only[List.length_map,List.length_range];rw[List.getElem?_map,List.getElem?_range (by omega)];rfl
theorem V8 (c i:Nat)(hc:c≤65535)(hi:i≤16):bits .and .i64 (c:Int) ((2 ^ i:Nat):Int)=(((c / 2 ^ i % 2)*2 ^ i:Nat):Int):=by
 have hp:2 ^ i≤2 ^ 16:=Nat.pow_le_pow_right oo hi;show IntKind.i64.wrap ((BitVec.ofInt 64 (c:Int)&&& BitVec.ofInt 64 ((2 ^ i:Nat):Int)).toNat:Int)=_;rw[BitVec.toNat_and,kX c (by omega),kX (2 ^ i) (by omega),IntKind.wrap_i64];have e:c&&& 2 ^ i=(c / 2 ^ i % 2)*2 ^ i:=by
  apply Nat.eq_of_testBit_eq;intro j;rw[Nat.testBit_and,Nat.testBit_two_pow];have ht:=Nat.testBit_eq_decide_div_mod_eq (x:=c) (i:=i);have:c / 2 ^ i % 2=0∨c / 2 ^ i % 2=1:=oo;rcases this with h|h
  ·rw[h] at ht⊢
   by_cases hij:i=j
   ·subst hij;simp [ht]
   ·simp [hij]
  ·rw[h] at ht⊢
   rw[Nat.one_mul,Nat.testBit_two_pow];by_cases hij:i=j
   ·subst hij;simp [ht]
   ·simp [hij]
 rw[e];have hm:c / 2 ^ i % 2*2 ^ i≤1*2 ^ 16:=Nat.mul_le_mul oo hp;omega
theorem ZE (i:Nat)(h:i≤16):wrap64 ((2:Int) ^ i)=((2 ^ i:Nat):Int):=by
 have hp:2 ^ i≤2 ^ 16:=Nat.pow_le_pow_right oo h;have e:(2:Int) ^ i=((2 ^ i:Nat):Int):=(by simp);rw[e];generalize 2 ^ i=p at*;exact IntWalk.wrap64_in _ ⟨by omega,oo⟩
theorem dJ (o:Int)(i w0:Nat)(w:World)(ho:o=0∨o=1)(hi:i<w0)(hw:w0≤16):
 Calls Tryz.prog 280 #[.int .i64 o,.int .i64 (i:Int),.int .i64 (w0:Int)] w fun e w'=>e= .returned (.int .i64 ((2 ^ vF o i w0:Nat):Int))∧w=w':=by
 rcases ho with rfl|rfl
 ·have hx:=ZE i oo
  have HE:Hid (vF 0 i w0=i):=(by show _=_;unfold vF;rw[if_neg (by omega)]);generalize vF 0 i w0=q at*;go_enter Tryz.func280,Tryz.ntmps280;go_wp2;go_ret;exact⟨yN (by first|(rw[HE.out];exact hx)|(rw[HE.out];done)|(simp [HE.out];done)),rfl⟩
 ·obtain⟨j,hj⟩:∃j:Nat,w0 - 1 - i=j:=⟨_,rfl⟩
  have hje:((w0:Int) - 1 - i)=(j:Int):=oo;have hx:=ZE j oo;have hj16:j≤16:=oo;have HE:Hid (vF 1 i w0=j):=(by show _=_;unfold vF;rw[if_pos rfl];exact hj);generalize vF 1 i w0=q at*;clear hj;go_enter Tryz.func280,Tryz.ntmps280;go_wp2;go_ret;exact⟨yN (by first|(rw[HE.out];exact hx)|(rw[HE.out];done)|(simp [HE.out];done)),rfl⟩
theorem Zg (o:Int)(l:Bs)(w:World)(ho:o=0∨o=1)(hl:l.length≤16)(hb:yJ l=true):
 Calls Tryz.prog 257 #[.int .i64 o,sv l] w fun e w'=>e= .returned (.int .i64 (numBits o l))∧w=w':=by
 have HN:=Go.Lib.hid (Y9 o ho l);have HB:=Go.Lib.hid (U2 o l l.length hb hl);have HBI:=Go.Lib.hid (iP l hb);have cP:Hid (∀(i:Nat) w,i<l.length→Calls Tryz.prog 280 #[.int .i64 o,.int .i64 (i:Int),.int .i64 (l.length:Int)] w fun e w'=>e= .returned (.int .i64 ((2 ^ vF o i l.length:Nat):Int))∧w=w'):=fun i w h=>dJ o i l.length w ho h hl;clear hb;go_enter Tryz.func257,Tryz.ntmps257;go_wp2;go_loop [5,9] (fun a c=>∃k:Nat,k≤l.length∧a= .int .i64 ((sumTo o l l.length k:Nat):Int)∧c= .int .i64 (k:Int)) (fun _ c=>l.length - (intOf c).toNat)
 case atStart=>exact⟨0,oo,rfl,rfl⟩
 case round=>
  obtain⟨k,hk,rfl,rfl⟩:=hrel;have hbd:=HB.out k hk;by_cases hlt:k<l.length
  ·have hki:(k:Int)<l.length:=oo
   have hpl:=fE o k l.length hlt;have hp16:2 ^ vF o k l.length≤2 ^ 16:=Nat.pow_le_pow_right oo oo;have hsu:Hid (sumTo o l l.length (k+1)=sumTo o l l.length k+sG l k*2 ^ vF o k l.length):=rfl;have cPk:=fun w=>cP.out k w hlt;have hby:byteAt l (k:Int)=((l[k]?.getD 48).toNat:Int):=by
    rw[zX l k hlt,List.getElem?_eq_getElem hlt];rfl
   generalize sumTo o l l.length k=s at*;generalize 2 ^ vF o k l.length=p at*;rcases HBI.out k with⟨h1,h2⟩|⟨h1,h2⟩
   ·have hb48:byteAt l (k:Int)=48:=by rw[hby,h1];rfl
    have H2:=Go.Lib.hid h2;clear h1 h2 hby;go_wp2;go_round
    case rel=>exact⟨k+1,by omega,by rw[hsu.out,H2.out];simp,by go_num⟩
    case measure=>simp [intOf];omega
   ·have hb49:byteAt l (k:Int)=49:=by rw[hby,h1];rfl
    have H2:=Go.Lib.hid h2;clear h1 h2 hby;go_wp2_with(go_at_call 280;refine(cPk _).mono ?_;rintro e w' ⟨rfl,rfl⟩);go_round
    case rel=>exact⟨k+1,by omega,by rw[hsu.out,H2.out];go_num,by go_num⟩
    case measure=>simp [intOf];omega
  ·have hki:¬(k:Int)<l.length:=oo
   have hke:k=l.length:=oo;go_wp2;go_ret;exact⟨yN (by first|rw[HN.out]|rw[hke,HN.out]),rfl⟩
def Nj (B:Nat)(v:Value)(l:Bs)(w:World)(e:Ending)(w':World):Prop:=
 ∃A cap,e= .returned (.slice A l.length cap)∧w'.ownsRow B 5 1 (.slice A l.length cap) l.length (l.map u8v)∧Kept B (fun g=>v.ownBlock=some g) w w'∧∀g,Value.ownBlock (.slice A l.length cap)=some g→v.ownBlock=some g∨w.heap.size≤g
theorem kL (B:Nat)(A0:Option Addr)(cap0:Nat)(out:Bs)(o:Int)(c k0:Nat)(w:World)(ho:o=0∨o=1)(hc:c≤65535)(hk0:k0≤16)(hr:w.ownsRow B 5 1 (.slice A0 out.length cap0) out.length (out.map u8v))(hol:out.length≤1000000)(hB:B≤w.heap.size):
 Calls Tryz.prog 261 #[.slice A0 out.length cap0,.int .i64 o,.int .i64 (c:Int),.int .i64 (k0:Int)] w (Nj B (.slice A0 out.length cap0) (out++zU o c k0) w):=by
 obtain⟨i,hi,hz0,hz1,hz2⟩:=info_parts wI;have hcbl:=xx o c k0;have HCB:Hid (∀k,k<k0→(zU o c k0)[k]? =some (oz c (vF o k k0))):=fun k h=>UT o ho c k0 k h;have cP:Hid (∀(i:Nat) w,i<k0→Calls Tryz.prog 280 #[.int .i64 o,.int .i64 (i:Int),.int .i64 (k0:Int)] w fun e w'=>e= .returned (.int .i64 ((2 ^ vF o i k0:Nat):Int))∧w=w'):=fun i w h=>dJ o i k0 w ho h hk0;generalize hR:zU o c k0=R at*;have HRL:=Go.Lib.hid hcbl;clear hR hcbl;have HV:Hid (Value.ownBlock (.slice A0 out.length cap0)=Value.ownBlock (.slice A0 out.length cap0)):=rfl;go_enter Tryz.func261,Tryz.ntmps261;go_wp2;go_loopw [0,12] (fun a v wr=>∃(k:Nat) (A:Option Addr) (cap:Nat),k≤k0∧a= .slice A (out++R.take k).length cap∧v= .int .i64 (k:Int)∧wr.ownsRow B 5 1 (.slice A (out++R.take k).length cap) (out++R.take k).length ((out++R.take k).map u8v)∧
  Kept B (fun g=>Value.ownBlock (.slice A0 out.length cap0)=some g) w wr∧(∀g,Value.ownBlock (.slice A (out++R.take k).length cap)=some g→Value.ownBlock (.slice A0 out.length cap0)=some g∨w.heap.size≤g)) (fun _ v _=>k0 - (intOf v).toNat)
 case atStart=>exact⟨0,A0,cap0,by omega,by simp,rfl,by simpa using hr,Kept.refl _ _ _,fun g hg=>.inl (by simpa using hg)⟩
 case round=>
  obtain⟨k,A,cap,hk,rfl,rfl,hown,hkp,hvb⟩:=hrel;have HVB:=Go.Lib.hid hvb;clear hvb;have hz:=hkp.size;by_cases hlt:k<k0
  ·have hki:(k:Int)<k0:=oo
   have hpl:=fE o k k0 hlt;have hcb:=HCB.out k hlt;have hkr:k<R.length:=(by have:=HRL.out;omega);have HSN:Hid (out++R.take (k+1)=out++R.take k++[oz c (vF o k k0)]):=by
    show _=_;rw[take_snoc' R k hkr];rw[List.getElem?_eq_getElem hkr] at hcb;injection hcb with hcb
    rw[hcb,List.append_assoc]
   have cPk:=fun w=>cP.out k w hlt;have hand:=V8 c (vF o k k0) hc oo;have hp16:2 ^ vF o k k0≤2 ^ 16:=Nat.pow_le_pow_right oo oo;have hp1:1≤2 ^ vF o k k0:=Nat.one_le_two_pow;have hb2:oz c (vF o k k0)=UInt8.ofNat (48+c / 2 ^ vF o k k0 % 2):=rfl;have hq:c / 2 ^ vF o k k0 % 2=0∨c / 2 ^ vF o k k0 % 2=1:=oo;obtain⟨y,hy⟩:∃y,oz c (vF o k k0)=y:=⟨_,rfl⟩;rw[hy] at HSN hb2;generalize c / 2 ^ vF o k k0 % 2=q at*;generalize 2 ^ vF o k k0=p at*;have hPl:(out++R.take k).length≤1000016:=(by simp;omega);obtain⟨P,hP⟩:∃P,out++R.take k=P:=⟨_,rfl⟩;rw[hP] at hown HVB HSN hPl⊢;have hm1:P.length+1≤maxLen:=(by unfold maxLen;omega);have hm2:(P.length+1)*1≤140737488355328:=oo;clear hcb hy hP;rcases hq with hq|hq
   ·rw[hq] at hand hb2
    have hand0:bits .and .i64 (c:Int) (p:Int)=0:=(by rw[hand];simp);have HY:Hid (y=48):=(by show _=_;rw[hb2];rfl);clear hand hb2 hq;go_wp2_with fail;refine(cPk _).mono ?_;rintro e w' ⟨rfl,rfl⟩;go_wp2_with(at_builtin;go_must(refine zN _ rfl _ _ 22 rfl (B) 5 i _ 1 1 Tryz.underlying22 hi hz0 hz1 hz2 rfl (by omega) _ _ _ rfl (hown.alloc _) _ 1 1 [.int .u8 48] rfl (Sl.newAt wr #[.int .u8 48] _ 1 1 (by first|rfl|simp) (by simp) (by omega)) (by simp [Value.oneCell']) hm1 hm2 ?_ ?_));try(case refine_1=>first|omega|(simp<;>omega;done))
    intro A5 c5 w5 hown5 hg5 hat5;have g5:=(hkp.alloc _).grown hg5 (fun g hg=>⟨(hown.lt g hg).1,HVB.out g hg⟩);have HV5:Hid (∀g,Value.ownBlock (.slice A5 (P.length+1) c5)=some g→Value.ownBlock (.slice A0 out.length cap0)=some g∨w.heap.size≤g):=fun g hg=>by
     rcases hat5 with h|h
     ·rw[h] at hg;exact HVB.out g hg
     ·rw[h] at hg;injection hg with hg;(try simp at hg);exact .inr (by omega)
    clear hg5 hat5 hown hkp;go_wp2;go_roundw
    case rel=>
     refine⟨k+1,A5,c5,oo,?_,by go_num,?_,g5,?_⟩
     ·rw[HSN.out];simp
     ·rw[HSN.out,List.length_append,List.map_append,HY.out];exact hown5
     ·rw[HSN.out,List.length_append];exact HV5.out
    case measure=>simp [intOf];omega
   ·rw[hq] at hand hb2
    have hand1:bits .and .i64 (c:Int) (p:Int)=(p:Int):=(by rw[hand];simp);have hpne:((p:Int) != 0)=true:=(by simp;omega);have hpne2:((p:Int)==0)=false:=(by simp;omega);have HY:Hid (y=49):=(by show _=_;rw[hb2];rfl);clear hand hb2 hq;go_wp2_with fail;refine(cPk _).mono ?_;rintro e w' ⟨rfl,rfl⟩;go_wp2_with(at_builtin;go_must(refine zN _ rfl _ _ 22 rfl (B) 5 i _ 1 1 Tryz.underlying22 hi hz0 hz1 hz2 rfl (by omega) _ _ _ rfl (hown.alloc _) _ 1 1 [.int .u8 49] rfl (Sl.newAt wr #[.int .u8 49] _ 1 1 (by first|rfl|simp) (by simp) (by omega)) (by simp [Value.oneCell']) hm1 hm2 ?_ ?_));try(case refine_1=>first|omega|(simp<;>omega;done))
    intro A5 c5 w5 hown5 hg5 hat5;have g5:=(hkp.alloc _).grown hg5 (fun g hg=>⟨(hown.lt g hg).1,HVB.out g hg⟩);have HV5:Hid (∀g,Value.ownBlock (.slice A5 (P.length+1) c5)=some g→Value.ownBlock (.slice A0 out.length cap0)=some g∨w.heap.size≤g):=fun g hg=>by
     rcases hat5 with h|h
     ·rw[h] at hg;exact HVB.out g hg
     ·rw[h] at hg;injection hg with hg;(try simp at hg);exact .inr (by omega)
    clear hg5 hat5 hown hkp;go_wp2;go_roundw
    case rel=>
     refine⟨k+1,A5,c5,oo,?_,by go_num,?_,g5,?_⟩
     ·rw[HSN.out];simp
     ·rw[HSN.out,List.length_append,List.map_append,HY.out];exact hown5
     ·rw[HSN.out,List.length_append];exact HV5.out
    case measure=>simp [intOf];omega
  ·have hki:¬(k:Int)<k0:=oo
   have hke:R.take k=R:=List.take_of_length_le (by have:=HRL.out;omega);rw[hke] at hown HVB⊢;clear hke;generalize out++R=P at*;go_wp2;go_ret;exact⟨A,cap,rfl,hown,hkp,HVB.out⟩
theorem WC (o:Int)(l:Bs)(k:Nat)(h:k<l.length):zM o (l.take (k+1))=zM o (l.take k)++zU o l[k].toNat 8:=by
 rw[take_snoc' l k h];unfold zM;rw[List.flatMap_append];simp
theorem ah (o:Int)(l:Bs)(w:World)(ho:o=0∨o=1)(hl:l.length≤4000):
 Calls Tryz.prog 241 #[.int .i64 o,sv l] w fun e w'=>e= .returned (sv (zM o l))∧Below w.heap.size w w':=by
 obtain⟨i,hi,hz0,hz1,hz2⟩:=info_parts wI;go_enter Tryz.func241,Tryz.ntmps241;go_wp2_with(at_make;go_must(refine wpList_make_own _ rfl _ _ 22 rfl w.heap.size 5 i (.int .u8 0) 1 Tryz.underlying22 hi hz0 hz1 _ _ _ (8*l.length) rfl rfl (by omega) (by rw[hz2];omega) (by unfold maxLen;omega) (Nat.le_refl _) ?_);intro w1 hown hg1);have g1:Below w.heap.size w w1:=(Below.refl _ _).grown hg1 (Nat.le_refl _) (by simp);clear hg1;go_loopw [5,13] (fun a v wr=>∃(k:Nat) (A:Option Addr) (cap:Nat),k≤l.length∧a= .slice A (zM o (l.take k)).length cap∧v= .int .i64 (k:Int)∧wr.ownsRow w.heap.size 5 1 (.slice A (zM o (l.take k)).length cap) (zM o (l.take k)).length ((zM o (l.take k)).map u8v)∧Below w.heap.size w wr) (fun _ v _=>l.length - (intOf v).toNat)
 case atStart=>
  exact⟨0,some ⟨w.heap.size,0,none⟩,8*l.length,by omega,by simp [zM],rfl,by simpa [zM] using hown,g1⟩
 case round=>
  obtain⟨k,A,cap,hk,rfl,rfl,hown,hb⟩:=hrel;have hz:=hb.size;have hul:(zM o (l.take k)).length=8*k:=(by rw[tN,List.length_take];omega);by_cases hlt:k<l.length
  ·have hki:(k:Int)<l.length:=oo
   have hby:byteAt l (k:Int)=((l[k].toNat:Nat):Int):=zX l k hlt;have HSN:=Go.Lib.hid (WC o l k hlt);have hx255:l[k].toNat≤255:=(by have:=l[k].toNat_lt;omega);generalize l[k].toNat=x at*;obtain⟨P,hP⟩:∃P,zM o (l.take k)=P:=⟨_,rfl⟩;rw[hP] at hown hul HSN⊢;clear hP;have cA:=kL w.heap.size A cap P o x 8 wr ho oo oo hown oo hz;rw[←HSN.out] at cA;have HUL:=Go.Lib.hid hul;clear hul HSN;go_wp2_with fail;refine cA.mono ?_;rintro e w5 ⟨A5,c5,rfl,hown5,hk5,hv5⟩;have hb5:=hb.trans (hk5.below hz);clear hv5 hown;obtain⟨P2,hP2⟩:∃P2,zM o (l.take (k+1))=P2:=⟨_,rfl⟩;rw[hP2] at hown5⊢;have HP2:=Go.Lib.hid hP2;clear hP2 cA;go_wp2;go_roundw
   case rel=>
    refine⟨k+1,A5,c5,by omega,by rw[HP2.out],by go_num,?_,hb5⟩;rw[HP2.out];exact hown5
   case measure=>simp [intOf];omega
  ·have hki:¬(k:Int)<l.length:=oo
   have hke:l.take k=l:=List.take_of_length_le oo;rw[hke] at hown⊢;clear hke hul;obtain⟨P,hP⟩:∃P,zM o l=P:=⟨_,rfl⟩;rw[hP] at hown⊢;have HP:=Go.Lib.hid hP;clear hP;have hcv:=yH hown;go_wp2;go_ret;exact⟨by rw[HP.out];rfl,hb⟩
theorem VB (B g cap:Nat)(L:Bs)(w:World)(hr:w.ownsRow B 5 1 (.slice (some ⟨g,0,none⟩) L.length cap) L.length (L.map u8v))(hl:L.length≤200000)(hg:B≤g):
 Calls Tryz.prog 281 #[.slice (some ⟨g,0,none⟩) L.length cap] w fun e w'=>e= .returned (.tuple #[])∧w'.ownsRow B 5 1 (.slice (some ⟨g,0,none⟩) L.length cap) L.length (L.reverse.map u8v)∧Below g w w':=by
 go_enter Tryz.func281,Tryz.ntmps281;go_wp2;go_loopw [2,3] (fun a c wr=>∃i:Nat,i≤L.length / 2∧a= .int .i64 (i:Int)∧c= .int .i64 ((L.length:Int) - 1 - i)∧wr.ownsRow B 5 1 (.slice (some ⟨g,0,none⟩) L.length cap) L.length ((uf L i).map u8v)∧Below g w wr) (fun a _ _=>L.length - (intOf a).toNat)
 case atStart=>exact⟨0,by omega,rfl,by simp,by rw[ZA];exact hr,Below.refl _ _⟩
 case round=>
  obtain⟨i,hile,rfl,rfl,hown,hb⟩:=hrel;by_cases hlt:i<L.length / 2
  ·have hq0:(i:Int)<(L.length:Int) - 1 - i:=oo
   have hq1:(i:Int)<L.length:=oo;have hq2:0≤(L.length:Int) - 1 - i:=oo;have hq3:(L.length:Int) - 1 - i<L.length:=oo;have hci:=(hown.cellAt i (by omega)).trans (iV (uf L i) i (by rw[wo];omega));have hfi:=hown.frozenAt i;have hcj:=(hown.cellAt (L.length - 1 - i) (by omega)).trans (iV (uf L i) (L.length - 1 - i) (by rw[wo];omega));have hfj:=hown.frozenAt (L.length - 1 - i);have hne:¬i=L.length - 1 - i:=oo;go_wp2;go_region
   all_goals go_wp2
   refine⟨⟨i+1,by omega,by go_num,by congr 1;omega,?_,?_⟩,by simp [intOf];omega⟩
   ·have h2:=((hown.stored i (u8v ((uf L i)[L.length - 1 - i]?.getD 0))).1.stored (L.length - 1 - i) (u8v ((uf L i)[i]?.getD 0))).1
    rw[←List.map_set,←List.map_set] at h2;have e1:(uf L i)[L.length - 1 - i]?.getD 0=L.getD (L.length - 1 - i) 0:=by
     rw[qY L i _ (by omega),if_neg (by omega)];rfl
    have e2:(uf L i)[i]?.getD 0=L.getD i 0:=by
     rw[qY L i _ (by omega),if_neg (by omega)];rfl
    rw[e1,e2,ZU L i hlt] at h2;rw[e1,e2];exact World.ownsRow.drew h2
   ·exact((hb.setCell (by show g≤g;omega) _).setCell (by show g≤g;omega) _).drew
  ·have hq0:¬(i:Int)<(L.length:Int) - 1 - i:=oo
   have hre:(uf L i)=L.reverse:=by
    by_cases he:i=L.length / 2
    ·exact Yl L i he
    ·omega
   rw[hre] at hown;go_wp2;go_end0;exact⟨rfl,by rw[←List.map_reverse];exact hown,hb⟩
theorem jG (K:Kn)(A:Option Addr)(cap:Nat)(c:Int)(w:World)(hk:K.ok)(hs:Sl w A K.ps.length cap 2 (psV K.ps))(hc:codeOk K.cl K.ps.length c):
 Calls Tryz.prog 260 #[knV K A cap,.int .i64 c] w fun e w'=>e= .returned (sv (K.word c))∧Below w.heap.size w w':=by
 obtain⟨i,hi,hz0,hz1,hz2⟩:=info_parts wI;have hst:=hk.st;have hbd:=hk.bd;have hp:=hk.lm;obtain⟨hp1,hp2,hp3,hp4⟩:=hp;have hps:K.ps.length≤100000:=oo;have hcb:c≤100000:=(by unfold codeOk at hc;omega);have hcnx:(c==K.nx)=false:=by
  have:c≠K.nx:=(by unfold codeOk Kn.cl at hc;unfold Kn.nx;omega);simpa using this
 go_enter Tryz.func260,Tryz.ntmps260;go_wp2_with fail;refine(xu _ _ _ _ hst hps).mono ?_;rintro e w1 ⟨rfl,hb1⟩;have hz1:=hb1.size;simp only[World.size_alloc] at hz1;have X0_1:=zJ (yl _ _ _) hb1 (by simp);have L0_1:w.heap.size<w1.heap.size:=oo;have g1:Below w.heap.size w w1:=((Below.refl _ _).alloc (Nat.le_refl _) _).trans (hb1.mono (by simp));clear hb1;go_wp2_with fail;refine(xP _ _ _ _ hst).mono ?_;rintro e w2 ⟨rfl,hb2⟩;have hz2:=hb2.size;have X0_2:=zJ X0_1 hb2 L0_1;have L0_2:w.heap.size<w2.heap.size:=oo;have g2:Below w.heap.size w w2:=g1.trans (hb2.mono oo);clear hb2 X0_1 L0_1 g1;go_wp2_with fail;go_loopw [1,7] (fun x v wr=>∃(c':Int) (out:Bs) (A':Option Addr) (cap':Nat),x= .int .i64 c'∧codeOk K.cl K.ps.length c'∧K.word c=K.word c'++out.reverse∧out.length+c'.toNat≤c.toNat∧v= .slice A' out.length cap'∧wr.ownsRow (w.heap.size+1) 5 1 (.slice A' out.length cap') out.length (out.map u8v)∧Below w.heap.size w wr∧w.heap.size<wr.heap.size∧∀i,wr.cell? ⟨w.heap.size,i,none⟩=(knC K A cap)[i]?) (fun x _ _=>(intOf x).toNat)
 case atStart=>exact⟨c,[],none,0,rfl,hc,by simp,by simp,rfl,⟨by simp,.inl ⟨rfl,rfl⟩⟩,g2,by omega,X0_2⟩
 case round=>
  obtain⟨c',out,A',cap',rfl,hc',hw,hl,rfl,hown,hb,hz,hX⟩:=hrel;clear X0_2 g2;clear hi hz0 hz1 hz2;obtain⟨i,hi,hz0,hz1,hz2⟩:=info_parts wI;have HW:=Go.Lib.hid hw;clear hw;have hlo:out.length≤100000:=oo;have hm1:out.length+1≤maxLen:=(by unfold maxLen;omega);have hm2:(out.length+1)*1≤140737488355328:=oo;have hpp:=yZ K.l hp1 hp2;obtain⟨hpp1,hpp2⟩:=hpp;have hc0:0≤c':=(by unfold codeOk at hc';omega);have hcu:c'≤100000:=(by unfold codeOk at hc';omega);by_cases hgt:pow2 K.l+1<c'
  ·have hii:(c' - K.cl - 2).toNat<K.ps.length:=by unfold codeOk at hc';unfold Kn.cl at*;omega
   obtain⟨hi2,hwp⟩:=fG hk.pairs c' hgt (by unfold codeOk at hc';unfold Kn.cl at*;omega);obtain⟨g,off,hA,hg,hc0',hc1'⟩:=fO (hs.below hb) _ hii;have hpr:=hk.pairs _ hii;obtain⟨hpr1,hpr2,hpr3⟩:=hpr;have HWP:=Go.Lib.hid hwp;clear hwp;generalize hPi:K.ps[(c' - K.cl - 2).toNat]=pr at*;clear hPi;obtain⟨p1,p2⟩:=pr;simp only at hpr1 hpr2 hpr3 hc0' hc1' HWP;have hpr5:0≤p1∧p1<c':=by
    have hcl:K.cl=pow2 K.l:=rfl;unfold codeOk at hpr1;omega
   obtain⟨hpr5,hpr6⟩:=hpr5;have hp255:p2≤255:=oo;have hidx:(c' - K.cl - 2).toNat=((c' - (pow2 K.l+1)).toNat - 1):=(by unfold Kn.cl;omega);have hpr1':codeOk K.cl K.ps.length p1:=kC hpr1 oo;rw[hidx] at hc0' hc1';have hi1:c' - (pow2 K.l+1) - 1<K.ps.length:=(by unfold codeOk at hc';unfold Kn.cl at*;omega);have hi00:1≤c' - (pow2 K.l+1):=oo;subst hA;clear hidx;have hX3:=Yq hX hz (.cells #[.int .i64 p1,.int .i64 p2] 207);have hP3:=Bk.new wr #[.int .i64 p1,.int .i64 p2] 207;have o3:=hown.alloc (.cells #[.int .i64 p1,.int .i64 p2] 207);have g3:=hb.alloc oo (.cells #[.int .i64 p1,.int .i64 p2] 207);have hz3:wr.heap.size+1=(wr.alloc (.cells #[.int .i64 p1,.int .i64 p2] 207)).heap.size:=(by simp);go_upto_region 8 with(fail)
   generalize wr.alloc (.cells #[.int .i64 p1,.int .i64 p2] 207)=w3 at*;clear hX hown hb hc0' hc1';have hY3:=hP3.cell;go_wp2_with(at_builtin;go_must(refine zN _ rfl _ _ 22 rfl (w.heap.size+1) 5 i _ 1 1 Tryz.underlying22 hi hz0 hz1 hz2 rfl (by omega) _ _ _ rfl (o3.alloc _) _ 1 1 [.int .u8 p2] rfl (Sl.newAt w3 #[.int .u8 p2] _ 1 1 (by first|rfl|simp) (by simp) (by omega)) (by simp [Value.oneCell']) hm1 hm2 ?_ ?_));try(case refine_1=>first|omega|(simp<;>omega;done))
   intro A5 c5 w5 hown5 hg5 _;have hP5:=Bk.grown (hP3.alloc _) hg5 (own_ne o3 hP3 (by decide));have hlt5:=o3.lt;have hX5:=Vh hg5 (b:=w.heap.size) oo (fun k hk=>by have:=hlt5 k hk;omega);have hX5:=fun i=>(hX5 i).trans (hX3 i);have hb5:=yw g3 hg5 oo (fun k hk=>by have:=hlt5 k hk;omega);have hs5:=wY hg5;have hY5:=hP5.cell;clear hg5 hX3 o3 g3 hY3 hP3;go_wp2;go_roundw
   case rel=>
    refine⟨p1,out++[UInt8.ofNat p2.toNat],A5,c5,rfl,hpr1',?_,by simp;omega,by simp,?_,hb5,by omega,hX5⟩
    ·rw[HW.out]
     show K.word c'++_=K.word p1++_;unfold Kn.word;rw[HWP.out];simp
    ·have e:u8v (UInt8.ofNat p2.toNat)= .int .u8 p2:=by
      show Value.int .u8 _=_;rw[UInt8.toNat_ofNat'];congr 1;omega
     rw[List.map_append,List.length_append];simp only[List.map_cons,List.map_nil,e];exact hown5
   case measure=>simp [intOf];omega
  ·have hlt':c'<K.cl:=by unfold codeOk at hc';unfold Kn.cl at*;omega
   have hc255:c'≤255:=oo;have HL:Hid (K.word c=(out++[UInt8.ofNat c'.toNat]).reverse):=by
    show K.word c=_;rw[HW.out];unfold Kn.word;rw[kP _ _ _ hlt'];simp
   go_upto_region 10 with(fail)
   go_wp2_with(at_builtin;go_must(refine zN _ rfl _ _ 22 rfl (w.heap.size+1) 5 i _ 1 1 Tryz.underlying22 hi hz0 hz1 hz2 rfl (by omega) _ _ _ rfl (hown.alloc _) _ 1 1 [.int .u8 c'] rfl (Sl.newAt wr #[.int .u8 c'] _ 1 1 (by first|rfl|simp) (by simp) (by omega)) (by simp [Value.oneCell']) hm1 hm2 ?_ ?_));try(case refine_1=>first|omega|(simp<;>omega;done))
   intro A5 c5 w5 hown5 hg5 _;have hlt5:=hown.lt;have hb5:=yw hb hg5 oo (fun k hk=>by have:=hlt5 k hk;omega);have hs5:=wY hg5;have e:u8v (UInt8.ofNat c'.toNat)= .int .u8 c':=by
    show Value.int .u8 _=_;rw[UInt8.toNat_ofNat'];congr 1;omega
   have o6:w5.ownsRow (w.heap.size+1) 5 1 (.slice A5 (out++[UInt8.ofNat c'.toNat]).length c5) (out++[UInt8.ofNat c'.toNat]).length ((out++[UInt8.ofNat c'.toNat]).map u8v):=by
    rw[List.map_append,List.length_append];simp only[List.map_cons,List.map_nil,e];exact hown5
   have hLl:out.length+1=(out++[UInt8.ofNat c'.toNat]).length:=(by simp);have hL1:(out++[UInt8.ofNat c'.toNat]).length≤100001:=(by simp;omega);have hL2:0<(out++[UInt8.ofNat c'.toNat]).length:=(by simp);clear hg5 hown5 e hown hX;generalize out++[UInt8.ofNat c'.toNat]=L at*;obtain⟨g,cap3,hv,hg1,hg2⟩:=o6.form hL2;injection hv with e1 e2 e3
   subst e1 e3;clear e2;have cR:=VB (w.heap.size+1) g c5 L w5 o6 oo hg1;go_wp2_with fail;refine cR.mono ?_;rintro e w6 ⟨rfl,o7,hb6⟩;have o8:w6.ownsRow (w.heap.size+1) 5 1 (.slice (some ⟨g,0,none⟩) L.length c5) L.reverse.length (L.reverse.map u8v):=by
    rw[List.length_reverse];exact o7
   have hcv:=yH o8;have g6:Below w.heap.size w w6:=hb5.trans (hb6.mono oo);go_wp2;go_ret;exact⟨vZ HL.out.symm,g6⟩
theorem iQ (K:Kn)(A:Option Addr)(cap:Nat)(c:Int)(w:World)(hk:K.ok)(hs:Sl w A K.ps.length cap 2 (psV K.ps))(hc:K.fol c=true):
 Calls Tryz.prog 260 #[knV K A cap,.int .i64 c] w fun e w'=>e= .returned (sv (K.any c))∧Below w.heap.size w w':=by
 by_cases hnx:c=K.nx
 ·have hst:=hk.st
  have hps:K.ps.length≤100000:=(by have:=hk.bd;omega);have hg:K.gr=true:=by
   unfold Kn.fol at hc;simp only[decide_eq_true_eq] at hc;rcases hc with hc|hc
   ·unfold codeOk at hc;unfold Kn.nx at hnx;unfold Kn.cl at hc;omega
   ·exact hc.1
  have hgl:=K.rq hk hg;have hwl:=fK hk.pairs _ _ (Nat.le_refl _) hgl;have hwl1:1≤(K.word K.last).length:=hwl.1;have hwl2:(K.word K.last).length≤2000:=(by have:=hwl.2;unfold Kn.word;have:=hk.bd;omega);have hwl3:((K.word K.last).take 1).length≤1:=(by simp;omega);have HE:Hid (K.any c=K.word K.last++(K.word K.last).take 1):=by
   show _=_;unfold Kn.any;rw[if_pos hnx]
  have hd:(c==K.nx)=true:=(by simpa using hnx);have cW:=fun w hs=>jG K A cap K.last w hk hs hgl;generalize K.word K.last=W at*;clear hnx hwl hc;go_enter Tryz.func260,Tryz.ntmps260;go_wp2_with fail;refine(xu _ _ _ _ hst hps).mono ?_;rintro e w1 ⟨rfl,hb1⟩;have hz1:=hb1.size;simp only[World.size_alloc] at hz1;have X0_1:=zJ (yl _ _ _) hb1 (by simp);have L0_1:w.heap.size<w1.heap.size:=oo;have g1:Below w.heap.size w w1:=((Below.refl _ _).alloc (Nat.le_refl _) _).trans (hb1.mono (by simp));clear hb1;go_wp2_with fail;refine(cW _ (hs.below g1)).mono ?_;rintro e w2 ⟨rfl,hb2⟩;have g2:=g1.trans (hb2.mono oo);have hw1:(1:Int)≤W.length:=oo;clear X0_1;go_wp2;go_ret;exact⟨vZ HE.out.symm,g2⟩
 ·have h:codeOk K.cl K.ps.length c:=by
   unfold Kn.fol at hc;simp only[decide_eq_true_eq] at hc;rcases hc with hc|hc
   ·exact hc
   ·exact absurd hc.2 hnx
  have e:K.any c=K.word c:=(by unfold Kn.any;rw[if_neg hnx]);rw[e];exact jG K A cap c w hk hs h
def Qi (B:Nat)(v:Value)(K:Kn)(w:World)(e:Ending)(w':World):Prop:=
 ∃A cap,e= .returned (knV K A cap)∧w'.ownsRow B 207 2 (.slice A K.ps.length cap) K.ps.length (psV K.ps)∧Kept B (fun g=>v.ownBlock=some g) w w'∧∀g,Value.ownBlock (.slice A K.ps.length cap)=some g→v.ownBlock=some g∨w.heap.size≤g
theorem jo (B:Nat)(K:Kn)(A:Option Addr)(cap:Nat)(x:Int)(w:World)(hk:K.ok)(hr:w.ownsRow B 207 2 (.slice A K.ps.length cap) K.ps.length (psV K.ps))(hB:B≤w.heap.size):
 Calls Tryz.prog 259 #[knV K A cap,.int .i64 K.cl,.int .u8 x] w (Qi B (.slice A K.ps.length cap) K.cleared w):=by
 have hst:=hk.st;have hb0:=hk.base0;have hb1:=hk.base1;have hcap:=(Sl.own hr).1;have hbc:K.base≤cap:=oo;have hcl:(K.cl==pow2 K.l)=true:=(by simp [Kn.cl]);have hkn:=hk.fine.len;obtain⟨kb,hkb⟩:∃kb:Nat,K.base.toNat=kb:=⟨_,rfl⟩;have hkbl:kb≤K.ps.length:=oo;have HKB:=Go.Lib.hid hkb;have HCL:Hid (K.cleared.ps.length=kb):=(by show(K.ps.take K.base.toNat).length=kb;rw[HKB.out,List.length_take];omega);generalize K.cl=c at*;go_enter Tryz.func259,Tryz.ntmps259;have hK0:Bk ((w.alloc (.cells (knC K A cap) 130)).alloc (.cells knZ 130)) w.heap.size 130 (knC K A cap):=tBk;have hR0:Bk ((w.alloc (.cells (knC K A cap) 130)).alloc (.cells knZ 130)) (w.heap.size+1) 130 knZ:=tBk;have o0:((w.alloc (.cells (knC K A cap) 130)).alloc (.cells knZ 130)).ownsRow B 207 2 (.slice A K.ps.length cap) K.ps.length (psV K.ps):=(hr.alloc _).alloc _;have g0:Kept B (fun g=>Value.ownBlock (.slice A K.ps.length cap)=some g) w ((w.alloc (.cells (knC K A cap) 130)).alloc (.cells knZ 130)):=((Kept.refl _ _ w).alloc _).alloc _;go_upto_region 1 with(fail)
 generalize(w.alloc (.cells (knC K A cap) 130)).alloc (.cells knZ 130)=w0 at*;have hX0:=hK0.cell;have hz0':=hR0.lt;go_wp2_with fail;refine(yX _ _ _ _ hst).mono ?_;rintro e w1 ⟨rfl,hb1'⟩;have hK1:=hK0.below hb1' oo;have hR1:=hR0.below hb1' oo;have o1:=zf o0 hb1';have g1:=g0.trans (Kept.of_below hb1');clear hb1' hK0 hR0 o0 g0 hX0;have hX1:=hK1.cell;have hF1:=hK1.free;have hK2:=hK1.set 3 (.slice A kb cap);have hR2:=hR1.far (p:=⟨w.heap.size,3,none⟩) (by show w.heap.size+1≠w.heap.size;omega) (.slice A kb cap);have o2:=zH o1 (p:=⟨w.heap.size,3,none⟩) (own_ne o1 hK1 (by decide)) (.slice A kb cap);have g2:=g1.setCell (p:=⟨w.heap.size,3,none⟩) ⟨hB,.inr (Nat.le_refl _)⟩ (.slice A kb cap);go_upto_region 3 with(fail)
 generalize w1.setCell ⟨w.heap.size,3,none⟩ (.slice A kb cap)=w2 at*;clear hX1 hF1 hK1 hR1 o1 g1;have hX2:=hK2.cell;have hF2:=hK2.free;have hK3:=hK2.set 5 (.int .i64 (-1));have hR3:=hR2.far (p:=⟨w.heap.size,5,none⟩) (by show w.heap.size+1≠w.heap.size;omega) (.int .i64 (-1));have o3:=zH o2 (p:=⟨w.heap.size,5,none⟩) (own_ne o2 hK2 (by decide)) (.int .i64 (-1));have g3:=g2.setCell (p:=⟨w.heap.size,5,none⟩) ⟨hB,.inr (Nat.le_refl _)⟩ (.int .i64 (-1));go_upto_region 4 with(fail)
 generalize w2.setCell ⟨w.heap.size,5,none⟩ (.int .i64 (-1))=w3 at*;clear hX2 hF2 hK2 hR2 o2 g2;have hX3:=hK3.cell;have hF3:=hR3.free;have hY3:=hR3.cell;go_wp2;have hQ:=((((((hR3.set 0 (.int .i64 K.o)).set 1 (.int .i64 K.l)).set 2 (.int .i64 K.m)).set 3 (.slice A kb cap)).set 4 (.int .i64 K.base)).set 5 (.int .i64 (-1))).cell;try simp only[Exit.inBlock,Exit.then]
 refine bodyPost_ret (v:=.agg #[.int .i64 K.o,.int .i64 K.l,.int .i64 K.m,.slice A kb cap,.int .i64 K.base,.int .i64 (-1)]) (by simp [results,Tryz.results259,go_sem,hQ]) rfl ?_;clear hQ;have hcl2:=HCL.out;have hkb2:=HKB.out;have hpsv:psV K.cleared.ps=(psV K.ps).take (kb*2):=(by show psV (K.ps.take K.base.toNat)=_;rw[hkb2,Yr]);refine⟨A,cap,?_,?_,?_,fun g hg=>.inl ?_⟩
 ·unfold knV;rw[hcl2];rfl
 ·rw[hpsv,hcl2]
  refine aC ?_ hkbl
  iterate 6 refine zH ?_ (p:=⟨w.heap.size+1,_,none⟩) (own_ne o3 hR3 (by decide)) _
  exact o3
 ·iterate 6 refine Kept.setCell ?_ (p:=⟨w.heap.size+1,_,none⟩) ⟨by show B≤w.heap.size+1;omega,.inr (by show w.heap.size≤w.heap.size+1;omega)⟩ _
  exact g3
 ·exact mg hr g (wF hg)
theorem iJ (B:Nat)(K:Kn)(A:Option Addr)(cap:Nat)(c x:Int)(w:World)(hk:K.ok)(hr:w.ownsRow B 207 2 (.slice A K.ps.length cap) K.ps.length (psV K.ps))(hB:B≤w.heap.size)(hc:K.fol c=true)(hx:x=wE (K.any c)):
 Calls Tryz.prog 259 #[knV K A cap,.int .i64 c,.int .u8 x] w (Qi B (.slice A K.ps.length cap) (K.after c) w):=by
 obtain⟨i,hi,hz0,hz1,hz2⟩:=info_parts oZ;have hst:=hk.st;have hkn:=hk.fine.len;have hfb:=dU hk hc;have hncl:(c==pow2 K.l)=false:=by
  have h:=hfb.2.2.1;unfold Kn.cl at h;simpa using h
 have hh:=gK (K.any c);rw[←hx] at hh;obtain⟨hx0,hx1⟩:=hh;have cG:=fun w=>uw K A cap w hk;have HKA:Hid (K.after c= { K with ps:=if K.gr=true then K.ps++[(K.last,x)] else K.ps,last:=c }):=by
  show _=_;rw[hx];rfl
 generalize K.after c=K1 at*;have CG:=Go.Lib.hid cG;clear cG hx hc hfb hk;have hHV:Hid (∀g,Value.ownBlock (.slice A K.ps.length cap)=some g→B≤g∧g<w.heap.size):=hr.lt;go_enter Tryz.func259,Tryz.ntmps259;have hK0:Bk ((w.alloc (.cells (knC K A cap) 130)).alloc (.cells knZ 130)) w.heap.size 130 (knC K A cap):=tBk;have hR0:Bk ((w.alloc (.cells (knC K A cap) 130)).alloc (.cells knZ 130)) (w.heap.size+1) 130 knZ:=tBk;have o0:((w.alloc (.cells (knC K A cap) 130)).alloc (.cells knZ 130)).ownsRow B 207 2 (.slice A K.ps.length cap) K.ps.length (psV K.ps):=(hr.alloc _).alloc _;have g0:Kept B (fun g=>Value.ownBlock (.slice A K.ps.length cap)=some g) w ((w.alloc (.cells (knC K A cap) 130)).alloc (.cells knZ 130)):=((Kept.refl _ _ w).alloc _).alloc _;go_upto_region 1 with(fail)
 generalize(w.alloc (.cells (knC K A cap) 130)).alloc (.cells knZ 130)=w0 at*;have hX0:=hK0.cell;have hz0':=hR0.lt;go_wp2_with fail;refine(yX _ _ _ _ hst).mono ?_;rintro e w1 ⟨rfl,hb1'⟩;have hK1:=hK0.below hb1' oo;have hR1:=hR0.below hb1' oo;have o1:=zf o0 hb1';have g1:=g0.trans (Kept.of_below hb1');have hz1':=hb1'.size;clear hb1' hK0 hR0 o0 g0 hX0;have hX1:=hK1.cell;go_wp2_with fail;refine(CG.out _).mono ?_;rintro e w2 ⟨rfl,hb2'⟩;have hK2:=hK1.below hb2' oo;have hR2:=hR1.below hb2' oo;have o2:=zf o1 hb2';have g2:=g1.trans (Kept.of_below hb2');have hz2':=hb2'.size;clear hb2' hK1 hR1 o1 g1 hX1;have hX2:=hK2.cell;have hF2:=hK2.free;have fin:∀(w3:World) (A3:Option Addr) (cap3:Nat),Bk w3 w.heap.size 130 #[.int .i64 K.o,.int .i64 K.l,.int .i64 K.m,.slice A3 K1.ps.length cap3,.int .i64 K.base,.int .i64 c]→True:=fun _ _ _ _=>trivial;clear fin
 cases hgr:K.gr
 ·rw[hgr] at HKA
  have hps:Hid (K1.ps.length=K.ps.length∧K1.ps=K.ps):=(by show _∧_;rw[HKA.out];exact⟨rfl,rfl⟩);have hK3:=hK2.set 5 (.int .i64 c);have hR3:=hR2.far (p:=⟨w.heap.size,5,none⟩) (by show w.heap.size+1≠w.heap.size;omega) (.int .i64 c);have o3:=zH o2 (p:=⟨w.heap.size,5,none⟩) (own_ne o2 hK2 (by decide)) (.int .i64 c);have g3:=g2.setCell (p:=⟨w.heap.size,5,none⟩) ⟨hB,.inr (Nat.le_refl _)⟩ (.int .i64 c);go_upto_region 8 with(fail)
  generalize w2.setCell ⟨w.heap.size,5,none⟩ (.int .i64 c)=w3 at*;clear hX2 hF2 hK2 hR2 o2 g2;have hX3:=hK3.cell;have hF3:=hR3.free;have hY3:=hR3.cell;go_wp2;have hQ:=((((((hR3.set 0 (.int .i64 K.o)).set 1 (.int .i64 K.l)).set 2 (.int .i64 K.m)).set 3 (.slice A K.ps.length cap)).set 4 (.int .i64 K.base)).set 5 (.int .i64 c)).cell;try simp only[Exit.inBlock,Exit.then]
  refine bodyPost_ret (v:=.agg #[.int .i64 K.o,.int .i64 K.l,.int .i64 K.m,.slice A K.ps.length cap,.int .i64 K.base,.int .i64 c]) (by simp [results,Tryz.results259,go_sem,hQ]) rfl ?_;clear hQ;obtain⟨hp1,hp2⟩:=hps.out;have hk1:=HKA.out;refine⟨A,cap,?_,?_,?_,fun g hg=>.inl ?_⟩
  ·unfold knV;rw[hp1,hk1]
  ·rw[hp1,hp2]
   iterate 6 refine zH ?_ (p:=⟨w.heap.size+1,_,none⟩) (own_ne o3 hR3 (by decide)) _
   exact o3
  ·iterate 6 refine Kept.setCell ?_ (p:=⟨w.heap.size+1,_,none⟩) ⟨by show B≤w.heap.size+1;omega,.inr (by show w.heap.size≤w.heap.size+1;omega)⟩ _
   exact g3
  ·rw[hp1] at hg;exact hg
 ·rw[hgr] at HKA
  have hps:Hid (K1.ps.length=K.ps.length+1∧K1.ps=K.ps++[(K.last,x)]):=(by show _∧_;rw[HKA.out];exact⟨by simp,rfl⟩);have hm1:K.ps.length+1≤maxLen:=(by unfold maxLen;omega);have hm2:(K.ps.length+1)*16≤140737488355328:=oo;go_upto_region 6 with(fail)
  go_wp2_with(at_builtin;go_must(refine zN _ rfl _ _ 128 rfl (B) 207 i _ 2 16 Tryz.underlying128 hi hz0 hz1 hz2 rfl (by omega) _ _ _ rfl (o2.alloc _) _ 1 1 [.int .i64 K.last,.int .i64 x] rfl (Sl.newAt w2 #[.int .i64 K.last,.int .i64 x] _ 1 2 (by first|rfl|simp) (by simp) (by omega)) (by simp [Value.oneCell']) hm1 hm2 ?_ ?_));try(case refine_1=>first|omega|(simp<;>omega;done))
  intro A5 c5 w5 hown5 hg5 hat5;have hK5:=Bk.grown (hK2.alloc _) hg5 (fun k hk=>by have:=(hHV.out k hk).2;omega);have hR5:=Bk.grown (hR2.alloc _) hg5 (fun k hk=>by have:=(hHV.out k hk).2;omega);have g5:=(g2.alloc _).grown hg5 (fun k hk=>⟨(hHV.out k hk).1,.inl hk⟩);have HA5:Hid (∀g,Value.ownBlock (.slice A5 (K.ps.length+1) c5)=some g→Value.ownBlock (.slice A K.ps.length cap)=some g∨w.heap.size≤g):=fun g hg=>by
   rcases hat5 with h|h
   ·rw[h] at hg;exact .inl hg
   ·rw[h] at hg;injection hg with hg;(try simp at hg);exact .inr (by omega)
  have hX5:=hK5.cell;have hF5:=hK5.free;have hne5:∀k:Nat,Value.ownBlock (.slice A5 (K.ps.length+1) c5)=some k→k≠w.heap.size∧k≠w.heap.size+1:=fun k hk=>by
   rcases hat5 with h|h
   ·rw[h] at hk;have:=(hHV.out k hk).2;omega
   ·rw[h] at hk;injection hk with hk;(try simp at hk);omega
  have HNE:=Go.Lib.hid hne5;have hK6:=hK5.set 3 (.slice A5 (K.ps.length+1) c5);have hR6:=hR5.far (p:=⟨w.heap.size,3,none⟩) (by show w.heap.size+1≠w.heap.size;omega) (.slice A5 (K.ps.length+1) c5);have o6:=zH hown5 (p:=⟨w.heap.size,3,none⟩) (fun k hk=>(HNE.out k hk).1) (.slice A5 (K.ps.length+1) c5);have g6:=g5.setCell (p:=⟨w.heap.size,3,none⟩) ⟨hB,.inr (Nat.le_refl _)⟩ (.slice A5 (K.ps.length+1) c5);clear hne5 hat5 hg5 hX2 hF2 o2 g2 hK2 hR2;go_upto_region 7 with(fail)
  generalize w5.setCell ⟨w.heap.size,3,none⟩ (.slice A5 (K.ps.length+1) c5)=w6 at*;clear hX5 hF5 hK5 hR5 hown5 g5;have hX6:=hK6.cell;have hF6:=hK6.free;have hK7:=hK6.set 5 (.int .i64 c);have hR7:=hR6.far (p:=⟨w.heap.size,5,none⟩) (by show w.heap.size+1≠w.heap.size;omega) (.int .i64 c);have o7:=zH o6 (p:=⟨w.heap.size,5,none⟩) (fun k hk=>(HNE.out k hk).1) (.int .i64 c);have g7:=g6.setCell (p:=⟨w.heap.size,5,none⟩) ⟨hB,.inr (Nat.le_refl _)⟩ (.int .i64 c);go_upto_region 8 with(fail)
  generalize w6.setCell ⟨w.heap.size,5,none⟩ (.int .i64 c)=w7 at*;clear hX6 hF6 hK6 hR6 o6 g6;have hX7:=hK7.cell;have hF7:=hR7.free;have hY7:=hR7.cell;go_wp2;have hQ:=((((((hR7.set 0 (.int .i64 K.o)).set 1 (.int .i64 K.l)).set 2 (.int .i64 K.m)).set 3 (.slice A5 (K.ps.length+1) c5)).set 4 (.int .i64 K.base)).set 5 (.int .i64 c)).cell;try simp only[Exit.inBlock,Exit.then]
  refine bodyPost_ret (v:=.agg #[.int .i64 K.o,.int .i64 K.l,.int .i64 K.m,.slice A5 (K.ps.length+1) c5,.int .i64 K.base,.int .i64 c]) (by simp [results,Tryz.results259,go_sem,hQ]) rfl ?_;clear hQ;obtain⟨hp1,hp2⟩:=hps.out;have hk1:=HKA.out;refine⟨A5,c5,?_,?_,?_,?_⟩
  ·unfold knV;rw[hp1,hk1]
  ·rw[hp1,hp2,Zq]
   iterate 6 refine zH ?_ (p:=⟨w.heap.size+1,_,none⟩) (fun k hk=>(HNE.out k hk).2) _
   exact o7
  ·iterate 6 refine Kept.setCell ?_ (p:=⟨w.heap.size+1,_,none⟩) ⟨by show B≤w.heap.size+1;omega,.inr (by show w.heap.size≤w.heap.size+1;omega)⟩ _
   exact g7
  ·rw[hp1];exact HA5.out
end Go.Proofs.YtfppmajoidkooaaGreatDoor
