import Derived.Test.YtoedhpcmgondjaaGreatDoorYShelf
import Derived.Lib.BitFns
import Derived.Test.YtoedhpcmgondjaaGreatDoorYGJ2
set_option linter.all false
set_option maxHeartbeats 8000000
namespace Go.Proofs.YtoedhpcmgondjaaGreatDoor
open Go.Lib(hid)
open Go.RowKit Go.Proofs.Tryz
set_option maxRecDepth 100000
attribute [local instance] mU hZ
attribute [local go_sem high] zG zF zH zV zN yu zD zl zn zt zi zu y9 zK yE zJ
theorem Xv :∀n:Nat,n<2 ^ 64→n≠0→Go.Lib.bitLen n=needed n:=by
 intro n
 induction n using Nat.strongRecOn with
 |ind n a=>
  intro h h0;rw[Go.Lib.bitLen_half n h0 h];by_cases h1:n≤1
  ·have:n=1:=oo
   subst this;rw[rW 1 (by omega)];decide
  ·rw[oU n (by omega),a (n / 2) (by omega) (by omega) (by omega)];omega
theorem SN (n:Nat)(h:n≤1000000):max 1 ((Go.Lib.bitLen n:Nat):Int)=(needed n:Nat):=by
 have a:=qR 19 n oo;by_cases h0:n=0
 ·subst h0
  rw[rW 0 (by omega)];decide
 ·rw[Xv n (by omega) h0];omega
theorem Sr (n:Int)(w:World)(h0:0≤n)(h1:n≤1000000):
 Calls prog 265 #[.int .u64 n] w fun e w'=>e= .returned (.int .i64 (Go.Lib.bitLen n.toNat))∧w=w':=
 (Tryz.bits_Len n w h0 oo).mono fun _ _ ⟨h1,h2⟩=>⟨h1,h2.symm⟩
theorem Yz (n:Int)(w:World)(h0:0≤n)(h1:n≤1000000):
 Calls prog 244 #[n] w (rT w (.int .i64 (needed n.toNat))):=by
 have a:=hid (SN n.toNat oo);have b:=fun w=>Sr n w h0 h1;have c:Go.Lib.bitLen n.toNat≤64:=Go.Lib.bitLen_le n.toNat 64 (Nat.le_refl _) oo;generalize Go.Lib.bitLen n.toNat=q at*;generalize needed n.toNat=p at*;have d:IntKind.u64.wrap n=n:=IntWalk.u64_in _ ⟨h0,oo⟩;go_enter func244,ntmps244;go_wp2_with(go_at_call 265;refine(b _).mono ?_;rintro e w' ⟨rfl,rfl⟩)
 all_goals
  go_ret;exact⟨yZ (by have:=a.out;omega),Below.refl _ _⟩
theorem XO (K:Kn)(A:Option Addr)(cap:Nat)(w:World)(hk:K.ok):
 Calls prog 213 #[knV K A cap] w (rT w (.int .i64 K.width)):=by
 have j:=hk.bd;have k:=K.tJ hk;have b:=hk.lm;obtain⟨m,n,o,p⟩:=b;have c:0≤K.great:=oo;have d:K.great≤1000000:=oo;have f:=qR 19 K.great.toNat oo;obtain⟨q,r⟩:=f;have g:Hid ((max (K.l+1) (needed K.great.toNat:Int))=(K.width:Int)):=by
  show _=_;unfold Kn.width;omega
 go_enter func213,ntmps213;go_wp2_with fail;have s:=zM (yF w (knC K A cap) 94) (by simp);refine wp_region_quiet_below kr kr ?_;repeat(go_big_quiet_step ((first|(go_at_call 245;exact Calls.regrown_of (dR _ _ _ _ hk))|(go_at_call 244;exact Calls.regrown_of (Yz _ _ c d)))))
 refine wpQuiet_nil ?_;intro h a;have i:Below _ _ h:=zh a;clear a;go_wp2
 all_goals
  go_wp2;go_ret;exact⟨yZ (by have:=g.out;omega),((Below.refl _ _).alloc (Nat.le_refl _) _).trans (i.mono (by simp))⟩
def vZ (o:Int)(i w:Nat):Nat:=if o=1 then w - 1 - i else i
def rH (l:Bs)(i:Nat):Nat:=(l[i]?.getD 48).toNat - 48
def sumTo (o:Int)(l:Bs)(w:Nat):Nat→Nat
 |0=>0
 |k+1=>sumTo o l w k+rH l k*2 ^ vZ o k w
theorem eX (l:Bs)(h:yU l=true)(i:Nat):(l[i]?.getD 48=48∧rH l i=0)∨(l[i]?.getD 48=49∧rH l i=1):=by
 unfold rH
 cases hi:l[i]? with
 |none=>left;exact⟨rfl,rfl⟩
 |some c=>
  have a:c ∈ l:=List.mem_of_getElem? hi;have:=List.all_eq_true.1 h c a;have h2:c=48∨c=49:=(by simpa using this);rcases h2 with e|e
  ·left;subst e;exact⟨rfl,rfl⟩
  ·right;subst e;exact⟨rfl,rfl⟩
theorem di (o:Int)(i w:Nat)(h:i<w):vZ o i w<w:=by unfold vZ;split<;>omega
theorem TV (o:Int)(l:Bs)(w:Nat)(a:yU l=true)(b:w≤16):∀k,k≤w→sumTo o l w k≤k*65536
 |0,_=>by simp [sumTo]
 |k+1,h=>by
  have:=TV o l w a b k oo;have c:2 ^ vZ o k w≤2 ^ 16:=Nat.pow_le_pow_right oo (by have:=di o k w oo;omega);have d:rH l k*2 ^ vZ o k w≤1*2 ^ 16:=Nat.mul_le_mul (by rcases eX l a k with h|h<;>omega) c;unfold sumTo;omega
theorem VW (x:UInt8):∀(l:Bs),yS (x::l)=(x.toNat - 48)*2 ^ l.length+yS l:=by
 intro l
 induction l using xx with
 |h0=>simp [yS]
 |h1 l y a=>
  rw[show x::(l++[y])=(x::l)++[y] from rfl,vO,vO,a];rw[List.length_append,List.length_cons,List.length_nil,Nat.pow_add,Nat.mul_add];have:2*((x.toNat - 48)*2 ^ l.length)=(x.toNat - 48)*(2 ^ l.length*2 ^ (0+1)):=by
   rw[Nat.zero_add,Nat.pow_one,←Nat.mul_assoc,Nat.mul_comm 2 (x.toNat - 48),Nat.mul_assoc,Nat.mul_comm 2]
  omega
theorem XY (o:Int)(a:o≠1)(l:Bs)(w:Nat):∀k,k≤l.length→sumTo o l w k=yS (l.take k).reverse
 |0,_=>by simp [sumTo,yS]
 |k+1,h=>by
  have b:=XY o a l w k oo;rw[sumTo,b,take_snoc' l k (by omega),List.reverse_append];show _=yS (l[k]::(l.take k).reverse);rw[VW];unfold rH vZ;rw[if_neg a,List.getElem?_eq_getElem (by omega),List.length_reverse,List.length_take,Nat.min_eq_left (by omega)];simp only[Option.getD_some];omega
theorem Y1 (l:Bs):∀k,k≤l.length→sumTo 1 l l.length k=yS (l.take k)*2 ^ (l.length - k)
 |0,_=>by simp [sumTo,yS]
 |k+1,h=>by
  have a:=Y1 l k oo;rw[sumTo,a,take_snoc' l k (by omega),vO];unfold rH vZ;rw[if_pos rfl,List.getElem?_eq_getElem (by omega)];simp only[Option.getD_some];have e:l.length - k=(l.length - (k+1))+1:=oo;have b:l.length - 1 - k=l.length - (k+1):=oo;rw[b,e,Nat.pow_succ,Nat.add_mul];have:yS (l.take k)*(2 ^ (l.length - (k+1))*2)=2*yS (l.take k)*2 ^ (l.length - (k+1)):=by
   rw[Nat.mul_comm (2 ^ (l.length - (k+1))) 2,←Nat.mul_assoc,Nat.mul_comm (yS (l.take k)) 2]
  omega
theorem XF (o:Int)(a:o=0∨o=1)(l:Bs):sumTo o l l.length l.length=numBits o l:=by
 unfold numBits;rcases a with a|a
 ·rw[if_pos a,XY o (by omega) l l.length l.length (Nat.le_refl _),List.take_length]
 ·rw[if_neg (by omega),a,Y1 l l.length (Nat.le_refl _),List.take_length,Nat.sub_self];simp
theorem Uy (o:Int)(a:o=0∨o=1)(c w k:Nat)(hk:k<w):(yg o c w)[k]? =some (nK c (vZ o k w)):=by
 unfold yg vZ vz;rcases a with a|a
 ·rw[if_pos a,if_neg (by omega),List.getElem?_map,List.getElem?_range hk];rfl
 ·rw[if_neg (by omega),if_pos a,List.getElem?_reverse (by simpa using hk)]
  simp only[List.length_map,List.length_range];rw[List.getElem?_map,List.getElem?_range (by omega)];rfl
theorem UX (c i:Nat)(g:c≤65535)(d:i≤16):bits .and .i64 (c:Int) ((2 ^ i:Nat):Int)=(((c / 2 ^ i % 2)*2 ^ i:Nat):Int):=by
 have f:2 ^ i≤2 ^ 16:=Nat.pow_le_pow_right oo d;show IntKind.i64.wrap ((BitVec.ofInt 64 (c:Int)&&& BitVec.ofInt 64 ((2 ^ i:Nat):Int)).toNat:Int)=_;rw[BitVec.toNat_and,jF c (by omega),jF (2 ^ i) (by omega),IntKind.wrap_i64];have e:c&&& 2 ^ i=(c / 2 ^ i % 2)*2 ^ i:=by
  apply Nat.eq_of_testBit_eq;intro j;rw[Nat.testBit_and,Nat.testBit_two_pow];have b:=Nat.testBit_eq_decide_div_mod_eq (x:=c) (i:=i);have:c / 2 ^ i % 2=0∨c / 2 ^ i % 2=1:=oo;rcases this with h|h
  ·rw[h] at b⊢
   by_cases a:i=j
   ·subst a;simp [b]
   ·simp [a]
  ·rw[h] at b⊢
   rw[Nat.one_mul,Nat.testBit_two_pow];by_cases a:i=j
   ·subst a;simp [b]
   ·simp [a]
 rw[e];have k:c / 2 ^ i % 2*2 ^ i≤1*2 ^ 16:=Nat.mul_le_mul oo f;omega
theorem Xf (i:Nat)(h:i≤16):wrap64 ((2:Int) ^ i)=((2 ^ i:Nat):Int):=by
 have a:2 ^ i≤2 ^ 16:=Nat.pow_le_pow_right oo h;have e:(2:Int) ^ i=((2 ^ i:Nat):Int):=(by simp);rw[e];generalize 2 ^ i=p at*;exact IntWalk.wrap64_in _ ⟨by omega,oo⟩
theorem ak (o:Int)(i a:Nat)(w:World)(f:o=0∨o=1)(g:i<a)(h:a≤16):
 Calls prog 228 #[o,(i:Int),(a:Int)] w fun e w'=>e= .returned (.int .i64 ((2 ^ vZ o i a:Nat):Int))∧w=w':=by
 rcases f with rfl|rfl
 ·have c:=Xf i oo
  have b:Hid (vZ 0 i a=i):=(by show _=_;unfold vZ;rw[if_neg (by omega)]);generalize vZ 0 i a=q at*;go_enter func228,ntmps228;go_wp2;go_ret;exact⟨yZ (by first|(rw[b.out];exact c)|(rw[b.out];done)|(simp [b.out];done)),rfl⟩
 ·obtain⟨j,d⟩:∃j:Nat,a - 1 - i=j:=⟨_,rfl⟩
  have k:((a:Int) - 1 - i)=(j:Int):=oo;have c:=Xf j oo;have l:j≤16:=oo;have b:Hid (vZ 1 i a=j):=(by show _=_;unfold vZ;rw[if_pos rfl];exact d);generalize vZ 1 i a=q at*;clear d;go_enter func228,ntmps228;go_wp2;go_ret;exact⟨yZ (by first|(rw[b.out];exact c)|(rw[b.out];done)|(simp [b.out];done)),rfl⟩
theorem YN (o:Int)(l:Bs)(w:World)(j:o=0∨o=1)(m:l.length≤16)(f:yU l=true):
 Calls prog 214 #[o,sv l] w fun e w'=>e= .returned (.int .i64 (numBits o l))∧w=w':=by
 have n:=hid (XF o j l);have r:=hid (TV o l l.length f m);have t:=hid (eX l f);have u:Hid (∀(i:Nat) w,i<l.length→Calls prog 228 #[o,(i:Int),(l.length:Int)] w fun e w'=>e= .returned (.int .i64 ((2 ^ vZ o i l.length:Nat):Int))∧w=w'):=fun i w h=>ak o i l.length w j h m;clear f;go_enter func214,ntmps214;go_wp2;go_loop [5,9] (fun a c=>∃k:Nat,k≤l.length∧a= .int .i64 ((sumTo o l l.length k:Nat):Int)∧c= .int .i64 (k:Int)) (fun _ c=>l.length - (intOf c).toNat)
 case atStart=>exact⟨0,oo,rfl,rfl⟩
 case round=>
  obtain⟨k,hk,rfl,rfl⟩:=hrel;have z:=r.out k hk;by_cases b:k<l.length
  ·have v:(k:Int)<l.length:=oo
   have A:=di o k l.length b;have B:2 ^ vZ o k l.length≤2 ^ 16:=Nat.pow_le_pow_right oo oo;have q:Hid (sumTo o l l.length (k+1)=sumTo o l l.length k+rH l k*2 ^ vZ o k l.length):=rfl;have x:=fun w=>u.out k w b;have d:byteAt l (k:Int)=((l[k]?.getD 48).toNat:Int):=by
    rw[yh l k b,List.getElem?_eq_getElem b];rfl
   generalize sumTo o l l.length k=s at*;generalize 2 ^ vZ o k l.length=p at*;rcases t.out k with⟨h1,h2⟩|⟨h1,h2⟩
   ·have C:byteAt l (k:Int)=48:=by rw[d,h1];rfl
    have g:=hid h2;clear h1 h2 d;go_wp2;go_round
    case rel=>exact⟨k+1,by omega,by rw[q.out,g.out];simp,by go_num⟩
    case measure=>simp [intOf];omega
   ·have D:byteAt l (k:Int)=49:=by rw[d,h1];rfl
    have g:=hid h2;clear h1 h2 d;go_wp2_with(go_at_call 228;refine(x _).mono ?_;rintro e w' ⟨rfl,rfl⟩);go_round
    case rel=>exact⟨k+1,by omega,by rw[q.out,g.out];go_num,by go_num⟩
    case measure=>simp [intOf];omega
  ·have v:¬(k:Int)<l.length:=oo
   have y:k=l.length:=oo;go_wp2;go_ret;exact⟨yZ (by first|rw[n.out]|rw[y,n.out]),rfl⟩
def KP (B:Nat)(v:Value)(l:Bs)(w:World)(e:Ending)(w':World):Prop:=
 ∃A cap,e= .returned (.slice A l.length cap)∧w'.ownsRow B 5 1 (.slice A l.length cap) l.length (l.map u8v)∧Kept B (fun g=>v.ownBlock=some g) w w'∧∀g,Value.ownBlock (.slice A l.length cap)=some g→v.ownBlock=some g∨w.heap.size≤g
theorem kY (B:Nat)(f:Option Addr)(j:Nat)(out:Bs)(o:Int)(c b:Nat)(w:World)(J:o=0∨o=1)(hc:c≤65535)(a1:b≤16)(hr:w.ownsRow B 5 1 (.slice f out.length j) out.length (out.map u8v))(a9:out.length≤1000000)(hB:B≤w.heap.size):
 Calls prog 204 #[.slice f out.length j,o,(c:Int),(b:Int)] w (KP B (.slice f out.length j) (out++yg o c b) w):=by
 obtain⟨i,K,L,M,N⟩:=info_parts wQ;have O:=xP o c b;have a3:Hid (∀k,k<b→(yg o c b)[k]? =some (nK c (vZ o k b))):=fun k h=>Uy o J c b k h;have cP:Hid (∀(i:Nat) w,i<b→Calls prog 228 #[o,(i:Int),(b:Int)] w fun e w'=>e= .returned (.int .i64 ((2 ^ vZ o i b:Nat):Int))∧w=w'):=fun i w h=>ak o i b w J h a1;generalize hR:yg o c b=R at*;have Q:=hid O;clear hR O;have HV:Hid (Value.ownBlock (.slice f out.length j)=Value.ownBlock (.slice f out.length j)):=rfl;go_enter func204,ntmps204;go_wp2;go_loopw [0,12] (fun a v wr=>∃(k:Nat) (A:Option Addr) (cap:Nat),k≤b∧a= .slice A (out++R.take k).length cap∧v= .int .i64 (k:Int)∧wr.ownsRow B 5 1 (.slice A (out++R.take k).length cap) (out++R.take k).length ((out++R.take k).map u8v)∧
  Kept B (fun g=>Value.ownBlock (.slice f out.length j)=some g) w wr∧(∀g,Value.ownBlock (.slice A (out++R.take k).length cap)=some g→Value.ownBlock (.slice f out.length j)=some g∨w.heap.size≤g)) (fun _ v _=>b - (intOf v).toNat)
 case atStart=>exact⟨0,f,j,by omega,by simp,rfl,by simpa using hr,Kept.refl _ _ _,fun g d=>.inl (by simpa using d)⟩
 case round=>
  obtain⟨k,A,cap,hk,rfl,rfl,l,s,S⟩:=hrel;have n:=hid S;clear S;have hz:=s.size;by_cases E:k<b
  ·have a6:(k:Int)<b:=oo
   have b2:=di o k b E;have u:=a3.out k E;have T:k<R.length:=(by have:=Q.out;omega);have m:Hid (out++R.take (k+1)=out++R.take k++[nK c (vZ o k b)]):=by
    show _=_;rw[take_snoc' R k T];rw[List.getElem?_eq_getElem T] at u;injection u with u
    rw[u,List.append_assoc]
   have U:=fun w=>cP.out k w E;have t:=UX c (vZ o k b) hc oo;have b3:2 ^ vZ o k b≤2 ^ 16:=Nat.pow_le_pow_right oo oo;have b4:1≤2 ^ vZ o k b:=Nat.one_le_two_pow;have q:nK c (vZ o k b)=UInt8.ofNat (48+c / 2 ^ vZ o k b % 2):=rfl;have r:c / 2 ^ vZ o k b % 2=0∨c / 2 ^ vZ o k b % 2=1:=oo;obtain⟨y,V⟩:∃y,nK c (vZ o k b)=y:=⟨_,rfl⟩;rw[V] at m q;generalize c / 2 ^ vZ o k b % 2=b5 at*;generalize 2 ^ vZ o k b=p at*;have a7:(out++R.take k).length≤1000016:=(by simp;omega);obtain⟨P,W⟩:∃P,out++R.take k=P:=⟨_,rfl⟩;rw[W] at l n m a7⊢;have X:P.length+1≤maxLen:=(by unfold maxLen;omega);have Y:(P.length+1)*1≤140737488355328:=oo;clear u V W;rcases r with r|r
   ·rw[r] at t q
    have b6:bits .and .i64 (c:Int) (p:Int)=0:=(by rw[t];simp);have F:Hid (y=48):=(by show _=_;rw[q];rfl);clear t q r;go_wp2_with fail;refine(U _).mono ?_;rintro e w' ⟨rfl,rfl⟩;go_wp2_with(at_builtin;go_must(refine zT _ rfl _ _ 22 rfl (B) 5 i _ 1 1 underlying22 K L M N rfl (by omega) _ _ _ rfl (l.alloc _) _ 1 1 [.int .u8 48] rfl (Sl.newAt wr #[.int .u8 48] _ 1 1 (by first|rfl|simp) (by simp) (by omega)) (by simp [Value.oneCell']) X Y ?_ ?_));try(case refine_1=>first|omega|(simp<;>omega;done))
    intro x z w5 G C D;have H:=(s.alloc _).grown C (fun g d=>⟨(l.lt g d).1,n.out g d⟩);have I:Hid (∀g,Value.ownBlock (.slice x (P.length+1) z)=some g→Value.ownBlock (.slice f out.length j)=some g∨w.heap.size≤g):=fun g d=>by
     rcases D with h|h
     ·rw[h] at d;exact n.out g d
     ·rw[h] at d;injection d with d;(try simp at d);exact .inr (by omega)
    clear C D l s;go_wp2;go_roundw
    case rel=>
     refine⟨k+1,x,z,oo,?_,by go_num,?_,H,?_⟩
     ·rw[m.out];simp
     ·rw[m.out,List.length_append,List.map_append,F.out];exact G
     ·rw[m.out,List.length_append];exact I.out
    case measure=>simp [intOf];omega
   ·rw[r] at t q
    have b7:bits .and .i64 (c:Int) (p:Int)=(p:Int):=(by rw[t];simp);have b8:((p:Int) != 0)=true:=(by simp;omega);have b9:((p:Int)==0)=false:=(by simp;omega);have F:Hid (y=49):=(by show _=_;rw[q];rfl);clear t q r;go_wp2_with fail;refine(U _).mono ?_;rintro e w' ⟨rfl,rfl⟩;go_wp2_with(at_builtin;go_must(refine zT _ rfl _ _ 22 rfl (B) 5 i _ 1 1 underlying22 K L M N rfl (by omega) _ _ _ rfl (l.alloc _) _ 1 1 [.int .u8 49] rfl (Sl.newAt wr #[.int .u8 49] _ 1 1 (by first|rfl|simp) (by simp) (by omega)) (by simp [Value.oneCell']) X Y ?_ ?_));try(case refine_1=>first|omega|(simp<;>omega;done))
    intro x z w5 G C D;have H:=(s.alloc _).grown C (fun g d=>⟨(l.lt g d).1,n.out g d⟩);have I:Hid (∀g,Value.ownBlock (.slice x (P.length+1) z)=some g→Value.ownBlock (.slice f out.length j)=some g∨w.heap.size≤g):=fun g d=>by
     rcases D with h|h
     ·rw[h] at d;exact n.out g d
     ·rw[h] at d;injection d with d;(try simp at d);exact .inr (by omega)
    clear C D l s;go_wp2;go_roundw
    case rel=>
     refine⟨k+1,x,z,oo,?_,by go_num,?_,H,?_⟩
     ·rw[m.out];simp
     ·rw[m.out,List.length_append,List.map_append,F.out];exact G
     ·rw[m.out,List.length_append];exact I.out
    case measure=>simp [intOf];omega
  ·have a6:¬(k:Int)<b:=oo
   have Z:R.take k=R:=List.take_of_length_le (by have:=Q.out;omega);rw[Z] at l n⊢;clear Z;generalize out++R=P at*;go_wp2;go_ret;exact⟨A,cap,rfl,l,s,n.out⟩
theorem W9 (o:Int)(l:Bs)(k:Nat)(h:k<l.length):zO o (l.take (k+1))=zO o (l.take k)++yg o l[k].toNat 8:=by
 rw[take_snoc' l k h];unfold zO;rw[List.flatMap_append];simp
theorem Zi (o:Int)(l:Bs)(w:World)(u:o=0∨o=1)(M:l.length≤4000):
 Calls prog 189 #[o,sv l] w (rT w (sv (zO o l))):=by
 obtain⟨i,y,z,B,C⟩:=info_parts wQ;go_enter func189,ntmps189;go_wp2_with(at_make;go_must(refine wpList_make_own _ rfl _ _ 22 rfl w.heap.size 5 i (.int .u8 0) 1 underlying22 y z B _ _ _ (8*l.length) rfl rfl (by omega) (by rw[C];omega) (by unfold maxLen;omega) (Nat.le_refl _) ?_);intro D b m);have E:Below w.heap.size w D:=(Below.refl _ _).grown m (Nat.le_refl _) (by simp);clear m;go_loopw [5,13] (fun a v wr=>∃(k:Nat) (A:Option Addr) (cap:Nat),k≤l.length∧a= .slice A (zO o (l.take k)).length cap∧v= .int .i64 (k:Int)∧wr.ownsRow w.heap.size 5 1 (.slice A (zO o (l.take k)).length cap) (zO o (l.take k)).length ((zO o (l.take k)).map u8v)∧Below w.heap.size w wr) (fun _ v _=>l.length - (intOf v).toNat)
 case atStart=>
  exact⟨0,some ⟨w.heap.size,0,none⟩,8*l.length,by omega,by simp [zO],rfl,by simpa [zO] using b,E⟩
 case round=>
  obtain⟨k,A,cap,hk,rfl,rfl,b,f⟩:=hrel;have n:=f.size;have d:(zO o (l.take k)).length=8*k:=(by rw[rf,List.length_take];omega);by_cases p:k<l.length
  ·have F:(k:Int)<l.length:=oo
   have N:byteAt l (k:Int)=((l[k].toNat:Nat):Int):=yh l k p;have g:=hid (W9 o l k p);have O:l[k].toNat≤255:=(by have:=l[k].toNat_lt;omega);generalize l[k].toNat=x at*;obtain⟨P,c⟩:∃P,zO o (l.take k)=P:=⟨_,rfl⟩;rw[c] at b d g⊢;clear c;have h:=kY w.heap.size A cap P o x 8 wr u oo oo b oo n;rw[←g.out] at h;have Q:=hid d;clear d g;go_wp2_with fail;refine h.mono ?_;rintro e R ⟨G,H,rfl,q,I,J⟩;have K:=f.trans (I.below n);clear J b;obtain⟨r,j⟩:∃r,zO o (l.take (k+1))=r:=⟨_,rfl⟩;rw[j] at q⊢;have s:=hid j;clear j h;go_wp2;go_roundw
   case rel=>
    refine⟨k+1,G,H,by omega,by rw[s.out],by go_num,?_,K⟩;rw[s.out];exact q
   case measure=>simp [intOf];omega
  ·have F:¬(k:Int)<l.length:=oo
   have t:l.take k=l:=List.take_of_length_le oo;rw[t] at b⊢;clear t d;obtain⟨P,c⟩:∃P,zO o l=P:=⟨_,rfl⟩;rw[c] at b⊢;have L:=hid c;clear c;have S:=yL b;go_wp2;go_ret;exact⟨by rw[L.out];rfl,f⟩
theorem TQ (B g cap:Nat)(L:Bs)(w:World)(j:w.ownsRow B 5 1 (.slice (some ⟨g,0,none⟩) L.length cap) L.length (L.map u8v))(o:L.length≤200000)(p:B≤g):
 Calls prog 246 #[.slice (some ⟨g,0,none⟩) L.length cap] w fun e w'=>e= .returned (.tuple #[])∧w'.ownsRow B 5 1 (.slice (some ⟨g,0,none⟩) L.length cap) L.length (L.reverse.map u8v)∧Below g w w':=by
 go_enter func246,ntmps246;go_wp2;go_loopw [2,3] (fun a c wr=>∃i:Nat,i≤L.length / 2∧a= .int .i64 (i:Int)∧c= .int .i64 ((L.length:Int) - 1 - i)∧wr.ownsRow B 5 1 (.slice (some ⟨g,0,none⟩) L.length cap) L.length ((uD L i).map u8v)∧Below g w wr) (fun a _ _=>L.length - (intOf a).toNat)
 case atStart=>exact⟨0,by omega,rfl,by simp,by rw[Xi];exact j,Below.refl _ _⟩
 case round=>
  obtain⟨i,q,rfl,rfl,b,d⟩:=hrel;by_cases k:i<L.length / 2
  ·have l:(i:Int)<(L.length:Int) - 1 - i:=oo
   have r:(i:Int)<L.length:=oo;have s:0≤(L.length:Int) - 1 - i:=oo;have t:(L.length:Int) - 1 - i<L.length:=oo;have u:=(b.cellAt i (by omega)).trans (dZ (uD L i) i (by rw[wP];omega));have v:=b.frozenAt i;have x:=(b.cellAt (L.length - 1 - i) (by omega)).trans (dZ (uD L i) (L.length - 1 - i) (by rw[wP];omega));have y:=b.frozenAt (L.length - 1 - i);have z:¬i=L.length - 1 - i:=oo;go_wp2;go_region
   all_goals go_wp2
   refine⟨⟨i+1,by omega,by go_num,by congr 1;omega,?_,?_⟩,by simp [intOf];omega⟩
   ·have h2:=((b.stored i (u8v ((uD L i)[L.length - 1 - i]?.getD 0))).1.stored (L.length - 1 - i) (u8v ((uD L i)[i]?.getD 0))).1
    rw[←List.map_set,←List.map_set] at h2;have f:(uD L i)[L.length - 1 - i]?.getD 0=L.getD (L.length - 1 - i) 0:=by
     rw[oq L i _ (by omega),if_neg (by omega)];rfl
    have h:(uD L i)[i]?.getD 0=L.getD i 0:=by
     rw[oq L i _ (by omega),if_neg (by omega)];rfl
    rw[f,h,Yd L i k] at h2;rw[f,h];exact World.ownsRow.drew h2
   ·exact((d.setCell (by show g≤g;omega) _).setCell (by show g≤g;omega) _).drew
  ·have l:¬(i:Int)<(L.length:Int) - 1 - i:=oo
   have m:(uD L i)=L.reverse:=by
    by_cases n:i=L.length / 2
    ·exact YH L i n
    ·omega
   rw[m] at b;go_wp2;go_end0;exact⟨rfl,by rw[←List.map_reverse];exact b,d⟩
theorem iq (K:Kn)(A:Option Addr)(cap:Nat)(c:Int)(w:World)(hk:K.ok)(hs:Sl w A K.ps.length cap 2 (psV K.ps))(D:codeOk K.cl K.ps.length c):
 Calls prog 217 #[knV K A cap,c] w (rT w (sv (K.word c))):=by
 obtain⟨i,q,r,j,n⟩:=info_parts wQ;have Q:=hk.st;have d7:=hk.bd;have hp:=hk.lm;obtain⟨b2,b3,d8,d9⟩:=hp;have b4:K.ps.length≤100000:=oo;have d':c≤100000:=(by unfold codeOk at D;omega);have e0:(c==K.nx)=false:=by
  have:c≠K.nx:=(by unfold codeOk Kn.cl at D;unfold Kn.nx;omega);simpa using this
 go_enter func217,ntmps217;go_wp2_with fail;refine(xM _ _ _ _ Q b4).mono ?_;rintro e R ⟨rfl,s⟩;have j:=s.size;simp only[World.size_alloc] at j;have S:=zU (yF _ _ _) s (by simp);have T:w.heap.size<R.heap.size:=oo;have U:Below w.heap.size w R:=((Below.refl _ _).alloc (Nat.le_refl _) _).trans (s.mono (by simp));clear s;go_wp2_with fail;refine(wE _ _ _ _ Q).mono ?_;rintro e V ⟨rfl,t⟩;have n:=t.size;have W:=zU S t T;have e4:w.heap.size<V.heap.size:=oo;have X:Below w.heap.size w V:=U.trans (t.mono oo);clear t S T U;go_wp2_with fail;go_loopw [1,7] (fun x v wr=>∃(a:Int) (out:Bs) (E:Option Addr) (F:Nat),x= .int .i64 a∧codeOk K.cl K.ps.length a∧K.word c=K.word a++out.reverse∧out.length+a.toNat≤c.toNat∧v= .slice E out.length F∧wr.ownsRow (w.heap.size+1) 5 1 (.slice E out.length F) out.length (out.map u8v)∧Below w.heap.size w wr∧w.heap.size<wr.heap.size∧∀i,wr.cell? ⟨w.heap.size,i,none⟩=(knC K A cap)[i]?) (fun x _ _=>(intOf x).toNat)
 case atStart=>exact⟨c,[],none,0,rfl,D,by simp,by simp,rfl,⟨by simp,.inl ⟨rfl,rfl⟩⟩,X,by omega,W⟩
 case round=>
  obtain⟨a,out,E,F,rfl,m,Y,hl,rfl,o,u,hz,G⟩:=hrel;clear W X;clear q r j n;obtain⟨i,q,r,j,n⟩:=info_parts wQ;have Z:=hid Y;clear Y;have e6:out.length≤100000:=oo;have a0:out.length+1≤maxLen:=(by unfold maxLen;omega);have a1:(out.length+1)*1≤140737488355328:=oo;have b6:=xu K.l b2 b3;obtain⟨e7,e8⟩:=b6;have e9:0≤a:=(by unfold codeOk at m;omega);have e':a≤100000:=(by unfold codeOk at m;omega);by_cases b7:pow2 K.l+1<a
  ·have a2:(a - K.cl - 2).toNat<K.ps.length:=by unfold codeOk at m;unfold Kn.cl at*;omega
   obtain⟨f0,a3⟩:=eP hk.pairs a b7 (by unfold codeOk at m;unfold Kn.cl at*;omega);obtain⟨g,f1,hA,hg,H,I⟩:=dX (hs.below u) _ a2;have b9:=hk.pairs _ a2;obtain⟨J,b',c0⟩:=b9;have a4:=hid a3;clear a3;generalize c1:K.ps[(a - K.cl - 2).toNat]=pr at*;clear c1;obtain⟨f,d⟩:=pr;simp only at J b' c0 H I a4;have a5:0≤f∧f<a:=by
    have f3:K.cl=pow2 K.l:=rfl;unfold codeOk at J;omega
   obtain⟨a5,f4⟩:=a5;have f5:d≤255:=oo;have a6:(a - K.cl - 2).toNat=((a - (pow2 K.l+1)).toNat - 1):=(by unfold Kn.cl;omega);have c3:codeOk K.cl K.ps.length f:=kG J oo;rw[a6] at H I;have f6:a - (pow2 K.l+1) - 1<K.ps.length:=(by unfold codeOk at m;unfold Kn.cl at*;omega);have f7:1≤a - (pow2 K.l+1):=oo;subst hA;clear a6;have a7:=Y5 G hz (.cells #[f,d] 173);have y:=Bk.new wr #[f,d] 173;have z:=o.alloc (.cells #[f,d] 173);have g3:=u.alloc oo (.cells #[f,d] 173);have f8:wr.heap.size+1=(wr.alloc (.cells #[f,d] 173)).heap.size:=(by simp);go_upto_region 8 with(fail)
   generalize wr.alloc (.cells #[f,d] 173)=w3 at*;clear G o u H I;have c5:=y.cell;go_wp2_with(at_builtin;go_must(refine zT _ rfl _ _ 22 rfl (w.heap.size+1) 5 i _ 1 1 underlying22 q r j n rfl (by omega) _ _ _ rfl (z.alloc _) _ 1 1 [.int .u8 d] rfl (Sl.newAt w3 #[.int .u8 d] _ 1 1 (by first|rfl|simp) (by simp) (by omega)) (by simp [Value.oneCell']) a0 a1 ?_ ?_));try(case refine_1=>first|omega|(simp<;>omega;done))
   intro M p N B h _;have c6:=Bk.grown (y.alloc _) h (own_ne z y (by decide));have C:=z.lt;have O:=V4 h (b:=w.heap.size) oo (fun k hk=>by have:=C k hk;omega);have O:=fun i=>(O i).trans (a7 i);have P:=yD g3 h oo (fun k hk=>by have:=C k hk;omega);have c7:=ve h;have f9:=c6.cell;clear h a7 z g3 c5 y;go_wp2;go_roundw
   case rel=>
    refine⟨f,out++[UInt8.ofNat d.toNat],M,p,rfl,c3,?_,by simp;omega,by simp,?_,P,by omega,O⟩
    ·rw[Z.out]
     show K.word a++_=K.word f++_;unfold Kn.word;rw[a4.out];simp
    ·have e:u8v (UInt8.ofNat d.toNat)= .int .u8 d:=by
      show Value.int .u8 _=_;rw[UInt8.toNat_ofNat'];congr 1;omega
     rw[List.map_append,List.length_append];simp only[List.map_cons,List.map_nil,e];exact B
   case measure=>simp [intOf];omega
  ·have c8:a<K.cl:=by unfold codeOk at m;unfold Kn.cl at*;omega
   have f':a≤255:=oo;have HL:Hid (K.word c=(out++[UInt8.ofNat a.toNat]).reverse):=by
    show K.word c=_;rw[Z.out];unfold Kn.word;rw[jG _ _ _ c8];simp
   go_upto_region 10 with(fail)
   go_wp2_with(at_builtin;go_must(refine zT _ rfl _ _ 22 rfl (w.heap.size+1) 5 i _ 1 1 underlying22 q r j n rfl (by omega) _ _ _ rfl (o.alloc _) _ 1 1 [.int .u8 a] rfl (Sl.newAt wr #[.int .u8 a] _ 1 1 (by first|rfl|simp) (by simp) (by omega)) (by simp [Value.oneCell']) a0 a1 ?_ ?_));try(case refine_1=>first|omega|(simp<;>omega;done))
   intro M p N B h _;have C:=o.lt;have P:=yD u h oo (fun k hk=>by have:=C k hk;omega);have c7:=ve h;have e:u8v (UInt8.ofNat a.toNat)= .int .u8 a:=by
    show Value.int .u8 _=_;rw[UInt8.toNat_ofNat'];congr 1;omega
   have o6:N.ownsRow (w.heap.size+1) 5 1 (.slice M (out++[UInt8.ofNat a.toNat]).length p) (out++[UInt8.ofNat a.toNat]).length ((out++[UInt8.ofNat a.toNat]).map u8v):=by
    rw[List.map_append,List.length_append];simp only[List.map_cons,List.map_nil,e];exact B
   have g0:out.length+1=(out++[UInt8.ofNat a.toNat]).length:=(by simp);have g1:(out++[UInt8.ofNat a.toNat]).length≤100001:=(by simp;omega);have c':0<(out++[UInt8.ofNat a.toNat]).length:=(by simp);clear h B e o G;generalize out++[UInt8.ofNat a.toNat]=L at*;obtain⟨g,g2,hv,d1,g4⟩:=o6.form c';injection hv with e1 e2 e3
   subst e1 e3;clear e2;have cR:=TQ (w.heap.size+1) g p L N o6 oo d1;go_wp2_with fail;refine cR.mono ?_;rintro e w6 ⟨rfl,o7,d4⟩;have o8:w6.ownsRow (w.heap.size+1) 5 1 (.slice (some ⟨g,0,none⟩) L.length p) L.reverse.length (L.reverse.map u8v):=by
    rw[List.length_reverse];exact o7
   have g5:=yL o8;have g6:Below w.heap.size w w6:=P.trans (d4.mono oo);go_wp2;go_ret;exact⟨rO HL.out.symm,g6⟩
theorem dH (K:Kn)(A:Option Addr)(cap:Nat)(c:Int)(w:World)(hk:K.ok)(d:Sl w A K.ps.length cap 2 (psV K.ps))(a:K.fol c=true):
 Calls prog 217 #[knV K A cap,c] w (rT w (sv (K.any c))):=by
 by_cases b:c=K.nx
 ·have l:=hk.st
  have m:K.ps.length≤100000:=(by have:=hk.bd;omega);have n:K.gr=true:=by
   unfold Kn.fol at a;simp only[decide_eq_true_eq] at a;rcases a with a|a
   ·unfold codeOk at a;unfold Kn.nx at b;unfold Kn.cl at a;omega
   ·exact a.1
  have i:=K.qf hk n;have g:=eG hk.pairs _ _ (Nat.le_refl _) i;have u:1≤(K.word K.last).length:=g.1;have v:(K.word K.last).length≤2000:=(by have:=g.2;unfold Kn.word;have:=hk.bd;omega);have x:((K.word K.last).take 1).length≤1:=(by simp;omega);have o:Hid (K.any c=K.word K.last++(K.word K.last).take 1):=by
   show _=_;unfold Kn.any;rw[if_pos b]
  have y:(c==K.nx)=true:=(by simpa using b);have p:=fun w d=>iq K A cap K.last w hk d i;generalize K.word K.last=W at*;clear b g a;go_enter func217,ntmps217;go_wp2_with fail;refine(xM _ _ _ _ l m).mono ?_;rintro e j ⟨rfl,f⟩;have q:=f.size;simp only[World.size_alloc] at q;have r:=zU (yF _ _ _) f (by simp);have z:w.heap.size<j.heap.size:=oo;have k:Below w.heap.size w j:=((Below.refl _ _).alloc (Nat.le_refl _) _).trans (f.mono (by simp));clear f;go_wp2_with fail;refine(p _ (d.below k)).mono ?_;rintro e B ⟨rfl,s⟩;have t:=k.trans (s.mono oo);have C:(1:Int)≤W.length:=oo;clear r;go_wp2;go_ret;exact⟨rO o.out.symm,t⟩
 ·have h:codeOk K.cl K.ps.length c:=by
   unfold Kn.fol at a;simp only[decide_eq_true_eq] at a;rcases a with a|a
   ·exact a
   ·exact absurd a.2 b
  have e:K.any c=K.word c:=(by unfold Kn.any;rw[if_neg b]);rw[e];exact iq K A cap c w hk d h
def PN (B:Nat)(v:Value)(K:Kn)(w:World)(e:Ending)(w':World):Prop:=
 ∃A cap,e= .returned (knV K A cap)∧w'.ownsRow B 173 2 (.slice A K.ps.length cap) K.ps.length (psV K.ps)∧Kept B (fun g=>v.ownBlock=some g) w w'∧∀g,Value.ownBlock (.slice A K.ps.length cap)=some g→v.ownBlock=some g∨w.heap.size≤g
theorem iD (B:Nat)(K:Kn)(A:Option Addr)(cap:Nat)(x:Int)(w:World)(hk:K.ok)(i:w.ownsRow B 173 2 (.slice A K.ps.length cap) K.ps.length (psV K.ps))(r:B≤w.heap.size):
 Calls prog 216 #[knV K A cap,K.cl,.int .u8 x] w (PN B (.slice A K.ps.length cap) K.cleared w):=by
 have H:=hk.st;have Y:=hk.base0;have Z:=hk.base1;have a0:=(Sl.own i).1;have a1:K.base≤cap:=oo;have a2:(K.cl==pow2 K.l)=true:=(by simp [Kn.cl]);have a3:=hk.fine.len;obtain⟨a,I⟩:∃a:Nat,K.base.toNat=a:=⟨_,rfl⟩;have J:a≤K.ps.length:=oo;have s:=hid I;have L:Hid (K.cleared.ps.length=a):=(by show(K.ps.take K.base.toNat).length=a;rw[s.out,List.length_take];omega);generalize K.cl=c at*;go_enter func216,ntmps216;have j:Bk ((w.alloc (.cells (knC K A cap) 94)).alloc (.cells knZ 94)) w.heap.size 94 (knC K A cap):=tBk;have k:Bk ((w.alloc (.cells (knC K A cap) 94)).alloc (.cells knZ 94)) (w.heap.size+1) 94 knZ:=tBk;have t:((w.alloc (.cells (knC K A cap) 94)).alloc (.cells knZ 94)).ownsRow B 173 2 (.slice A K.ps.length cap) K.ps.length (psV K.ps):=(i.alloc _).alloc _;have u:Kept B (fun g=>Value.ownBlock (.slice A K.ps.length cap)=some g) w ((w.alloc (.cells (knC K A cap) 94)).alloc (.cells knZ 94)):=((Kept.refl _ _ w).alloc _).alloc _;go_upto_region 1 with(fail)
 generalize(w.alloc (.cells (knC K A cap) 94)).alloc (.cells knZ 94)=w0 at*;have M:=j.cell;have a5:=k.lt;go_wp2_with fail;refine(xq _ _ _ _ H).mono ?_;rintro e N ⟨rfl,b⟩;have d:=j.below b oo;have y:=k.below b oo;have n:=zf t b;have z:=u.trans (Kept.of_below b);clear b j k t u M;have O:=d.cell;have P:=d.free;have f:=d.set 3 (.slice A a cap);have C:=y.far (p:=⟨w.heap.size,3,none⟩) (by show w.heap.size+1≠w.heap.size;omega) (.slice A a cap);have q:=zL n (p:=⟨w.heap.size,3,none⟩) (own_ne n d (by decide)) (.slice A a cap);have D:=z.setCell (p:=⟨w.heap.size,3,none⟩) ⟨r,.inr (Nat.le_refl _)⟩ (.slice A a cap);go_upto_region 3 with(fail)
 generalize N.setCell ⟨w.heap.size,3,none⟩ (.slice A a cap)=Q at*;clear O P d y n z;have R:=f.cell;have S:=f.free;have T:=f.set 5 (.int .i64 (-1));have h:=C.far (p:=⟨w.heap.size,5,none⟩) (by show w.heap.size+1≠w.heap.size;omega) (.int .i64 (-1));have E:=zL q (p:=⟨w.heap.size,5,none⟩) (own_ne q f (by decide)) (.int .i64 (-1));have U:=D.setCell (p:=⟨w.heap.size,5,none⟩) ⟨r,.inr (Nat.le_refl _)⟩ (.int .i64 (-1));go_upto_region 4 with(fail)
 generalize Q.setCell ⟨w.heap.size,5,none⟩ (.int .i64 (-1))=w3 at*;clear R S f C q D;have a7:=T.cell;have a8:=h.free;have a9:=h.cell;go_wp2;have F:=((((((h.set 0 (.int .i64 K.o)).set 1 (.int .i64 K.l)).set 2 (.int .i64 K.m)).set 3 (.slice A a cap)).set 4 (.int .i64 K.base)).set 5 (.int .i64 (-1))).cell;try simp only[Exit.inBlock,Exit.then]
 refine bodyPost_ret (v:=.agg #[K.o,K.l,K.m,.slice A a cap,K.base,.int .i64 (-1)]) (by simp [results,results216,go_sem,F]) rfl ?_;clear F;have G:=L.out;have V:=s.out;have W:psV K.cleared.ps=(psV K.ps).take (a*2):=(by show psV (K.ps.take K.base.toNat)=_;rw[V,ZY]);refine⟨A,cap,?_,?_,?_,fun g X=>.inl ?_⟩
 ·unfold knV;rw[G];rfl
 ·rw[W,G]
  refine ZF ?_ J
  iterate 6 refine zL ?_ (p:=⟨w.heap.size+1,_,none⟩) (own_ne E h (by decide)) _
  exact E
 ·iterate 6 refine Kept.setCell ?_ (p:=⟨w.heap.size+1,_,none⟩) ⟨by show B≤w.heap.size+1;omega,.inr (by show w.heap.size≤w.heap.size+1;omega)⟩ _
  exact U
 ·exact lu i g (wX X)
theorem dB (B:Nat)(K:Kn)(A:Option Addr)(cap:Nat)(c x:Int)(w:World)(hk:K.ok)(T:w.ownsRow B 173 2 (.slice A K.ps.length cap) K.ps.length (psV K.ps))(H:B≤w.heap.size)(U:K.fol c=true)(I:x=wV (K.any c)):
 Calls prog 216 #[knV K A cap,c,.int .u8 x] w (PN B (.slice A K.ps.length cap) (K.after c) w):=by
 obtain⟨i,hi,b5,b6,b7⟩:=info_parts nY;have b8:=hk.st;have d6:=hk.fine.len;have V:=aF hk U;have d7:(c==pow2 K.l)=false:=by
  have h:=V.2.2.1;unfold Kn.cl at h;simpa using h
 have W:=bg (K.any c);rw[←I] at W;obtain⟨d8,d9⟩:=W;have X:=fun w=>uU K A cap w hk;have n:Hid (K.after c= { K with ps:=if K.gr=true then K.ps++[(K.last,x)] else K.ps,last:=c }):=by
  show _=_;rw[I];rfl
 generalize K.after c=s at*;have CG:=hid X;clear X I U V hk;have y:Hid (∀g,Value.ownBlock (.slice A K.ps.length cap)=some g→B≤g∧g<w.heap.size):=T.lt;go_enter func216,ntmps216;have J:Bk ((w.alloc (.cells (knC K A cap) 94)).alloc (.cells knZ 94)) w.heap.size 94 (knC K A cap):=tBk;have L:Bk ((w.alloc (.cells (knC K A cap) 94)).alloc (.cells knZ 94)) (w.heap.size+1) 94 knZ:=tBk;have Y:((w.alloc (.cells (knC K A cap) 94)).alloc (.cells knZ 94)).ownsRow B 173 2 (.slice A K.ps.length cap) K.ps.length (psV K.ps):=(T.alloc _).alloc _;have Z:Kept B (fun g=>Value.ownBlock (.slice A K.ps.length cap)=some g) w ((w.alloc (.cells (knC K A cap) 94)).alloc (.cells knZ 94)):=((Kept.refl _ _ w).alloc _).alloc _;go_upto_region 1 with(fail)
 generalize(w.alloc (.cells (knC K A cap) 94)).alloc (.cells knZ 94)=w0 at*;have b':=J.cell;have e0:=L.lt;go_wp2_with fail;refine(xq _ _ _ _ b8).mono ?_;rintro e w1 ⟨rfl,q⟩;have M:=J.below q oo;have a0:=L.below q oo;have o1:=zf Y q;have g1:=Z.trans (Kept.of_below q);have e2:=q.size;clear q J L Y Z b';have c0:=M.cell;go_wp2_with fail;refine(CG.out _).mono ?_;rintro e w2 ⟨rfl,r⟩;have f:=M.below r oo;have z:=a0.below r oo;have t:=zf o1 r;have C:=g1.trans (Kept.of_below r);have e3:=r.size;clear r M a0 o1 g1 c0;have a4:=f.cell;have a5:=f.free;have fin:∀(w3:World) (A3:Option Addr) (c2:Nat),Bk w3 w.heap.size 94 #[K.o,K.l,K.m,.slice A3 s.ps.length c2,K.base,c]→True:=fun _ _ _ _=>trivial;clear fin
 cases hgr:K.gr
 ·rw[hgr] at n
  have N:Hid (s.ps.length=K.ps.length∧s.ps=K.ps):=(by show _∧_;rw[n.out];exact⟨rfl,rfl⟩);have c3:=f.set 5 (.int .i64 c);have D:=z.far (p:=⟨w.heap.size,5,none⟩) (by show w.heap.size+1≠w.heap.size;omega) (.int .i64 c);have o3:=zL t (p:=⟨w.heap.size,5,none⟩) (own_ne t f (by decide)) (.int .i64 c);have g3:=C.setCell (p:=⟨w.heap.size,5,none⟩) ⟨H,.inr (Nat.le_refl _)⟩ (.int .i64 c);go_upto_region 8 with(fail)
  generalize w2.setCell ⟨w.heap.size,5,none⟩ (.int .i64 c)=w3 at*;clear a4 a5 f z t C;have e4:=c3.cell;have e5:=D.free;have e6:=D.cell;go_wp2;have u:=((((((D.set 0 (.int .i64 K.o)).set 1 (.int .i64 K.l)).set 2 (.int .i64 K.m)).set 3 (.slice A K.ps.length cap)).set 4 (.int .i64 K.base)).set 5 (.int .i64 c)).cell;try simp only[Exit.inBlock,Exit.then]
  refine bodyPost_ret (v:=.agg #[K.o,K.l,K.m,.slice A K.ps.length cap,K.base,c]) (by simp [results,results216,go_sem,u]) rfl ?_;clear u;obtain⟨j,O⟩:=N.out;have P:=n.out;refine⟨A,cap,?_,?_,?_,fun g d=>.inl ?_⟩
  ·unfold knV;rw[j,P]
  ·rw[j,O]
   iterate 6 refine zL ?_ (p:=⟨w.heap.size+1,_,none⟩) (own_ne o3 D (by decide)) _
   exact o3
  ·iterate 6 refine Kept.setCell ?_ (p:=⟨w.heap.size+1,_,none⟩) ⟨by show B≤w.heap.size+1;omega,.inr (by show w.heap.size≤w.heap.size+1;omega)⟩ _
   exact g3
  ·rw[j] at d;exact d
 ·rw[hgr] at n
  have N:Hid (s.ps.length=K.ps.length+1∧s.ps=K.ps++[(K.last,x)]):=(by show _∧_;rw[n.out];exact⟨by simp,rfl⟩);have c5:K.ps.length+1≤maxLen:=(by unfold maxLen;omega);have c6:(K.ps.length+1)*16≤140737488355328:=oo;go_upto_region 6 with(fail)
  go_wp2_with(at_builtin;go_must(refine zT _ rfl _ _ 92 rfl (B) 173 i _ 2 16 underlying92 hi b5 b6 b7 rfl (by omega) _ _ _ rfl (t.alloc _) _ 1 1 [.int .i64 K.last,.int .i64 x] rfl (Sl.newAt w2 #[K.last,x] _ 1 2 (by first|rfl|simp) (by simp) (by omega)) (by simp [Value.oneCell']) c5 c6 ?_ ?_));try(case refine_1=>first|omega|(simp<;>omega;done))
  intro a b w5 a8 E Q;have F:=Bk.grown (f.alloc _) E (fun k hk=>by have:=(y.out k hk).2;omega);have a9:=Bk.grown (z.alloc _) E (fun k hk=>by have:=(y.out k hk).2;omega);have g5:=(C.alloc _).grown E (fun k hk=>⟨(y.out k hk).1,.inl hk⟩);have c8:Hid (∀g,Value.ownBlock (.slice a (K.ps.length+1) b)=some g→Value.ownBlock (.slice A K.ps.length cap)=some g∨w.heap.size≤g):=fun g d=>by
   rcases Q with h|h
   ·rw[h] at d;exact .inl d
   ·rw[h] at d;injection d with d;(try simp at d);exact .inr (by omega)
  have c9:=F.cell;have c':=F.free;have b0:∀k:Nat,Value.ownBlock (.slice a (K.ps.length+1) b)=some k→k≠w.heap.size∧k≠w.heap.size+1:=fun k hk=>by
   rcases Q with h|h
   ·rw[h] at hk;have:=(y.out k hk).2;omega
   ·rw[h] at hk;injection hk with hk;(try simp at hk);omega
  have R:=hid b0;have G:=F.set 3 (.slice a (K.ps.length+1) b);have b1:=a9.far (p:=⟨w.heap.size,3,none⟩) (by show w.heap.size+1≠w.heap.size;omega) (.slice a (K.ps.length+1) b);have o6:=zL a8 (p:=⟨w.heap.size,3,none⟩) (fun k hk=>(R.out k hk).1) (.slice a (K.ps.length+1) b);have g6:=g5.setCell (p:=⟨w.heap.size,3,none⟩) ⟨H,.inr (Nat.le_refl _)⟩ (.slice a (K.ps.length+1) b);clear b0 Q E a4 a5 t C f z;go_upto_region 7 with(fail)
  generalize w5.setCell ⟨w.heap.size,3,none⟩ (.slice a (K.ps.length+1) b)=w6 at*;clear c9 c' F a9 a8 g5;have d1:=G.cell;have d2:=G.free;have d3:=G.set 5 (.int .i64 c);have S:=b1.far (p:=⟨w.heap.size,5,none⟩) (by show w.heap.size+1≠w.heap.size;omega) (.int .i64 c);have o7:=zL o6 (p:=⟨w.heap.size,5,none⟩) (fun k hk=>(R.out k hk).1) (.int .i64 c);have g7:=g6.setCell (p:=⟨w.heap.size,5,none⟩) ⟨H,.inr (Nat.le_refl _)⟩ (.int .i64 c);go_upto_region 8 with(fail)
  generalize w6.setCell ⟨w.heap.size,5,none⟩ (.int .i64 c)=w7 at*;clear d1 d2 G b1 o6 g6;have e8:=d3.cell;have e9:=S.free;have e':=S.cell;go_wp2;have u:=((((((S.set 0 (.int .i64 K.o)).set 1 (.int .i64 K.l)).set 2 (.int .i64 K.m)).set 3 (.slice a (K.ps.length+1) b)).set 4 (.int .i64 K.base)).set 5 (.int .i64 c)).cell;try simp only[Exit.inBlock,Exit.then]
  refine bodyPost_ret (v:=.agg #[K.o,K.l,K.m,.slice a (K.ps.length+1) b,K.base,c]) (by simp [results,results216,go_sem,u]) rfl ?_;clear u;obtain⟨j,O⟩:=N.out;have P:=n.out;refine⟨a,b,?_,?_,?_,?_⟩
  ·unfold knV;rw[j,P]
  ·rw[j,O,Yk]
   iterate 6 refine zL ?_ (p:=⟨w.heap.size+1,_,none⟩) (fun k hk=>(R.out k hk).2) _
   exact o7
  ·iterate 6 refine Kept.setCell ?_ (p:=⟨w.heap.size+1,_,none⟩) ⟨by show B≤w.heap.size+1;omega,.inr (by show w.heap.size≤w.heap.size+1;omega)⟩ _
   exact g7
  ·rw[j];exact c8.out
