import Derived.Lib.AppendIntMem
import Derived.Test.YtoedhpcmgondjaaGreatDoorYW9
set_option linter.all false
set_option maxHeartbeats 8000000
namespace Go.Proofs.YtoedhpcmgondjaaGreatDoor
open Go.Lib(hid)
open Go.RowKit Go.Proofs.Tryz
attribute [local instance] mU hZ cvZ
attribute [local go_sem high] zG zF zH zV zN yu zD zl zn zt zi zu y9 zK yE zJ
abbrev rU (B:Nat)(w:World):Prop:=Lib.TabBelow prog B w "internal/strconv.uint64pow10" .u64 Lib.pow10Tab
theorem below_grow (w:World)(k:Nat)(a:Array Obj):Below w.heap.size w (Go.Sort.grow (w.drewN k) a):=
 ⟨rfl,rfl,rfl,by simp [Go.Sort.grow],fun i b=>by simp [Go.Sort.grow,Array.getElem?_append,b]⟩
theorem LP (n:Int)(w:World)(B:Nat)(d:B≤w.heap.size)(a:rU B w)(h0: -9223372036854775808≤n)(h1:n≤9223372036854775807):
 Calls prog 138 #[n] w (rT w (.string ⟨(Lib.itoa n).toArray⟩)):=
 (Tryz.strconv_Itoa n h0 h1 w a.here).mono fun e w' ⟨b,k,f,c⟩=>⟨b,by rw[c];exact below_grow _ _ _⟩
theorem LG (l:Bs)(w:World):
 Calls prog 115 #[l] w (rT w (.string ⟨(vX l).toArray⟩)):=
 (Ri l w).mono fun e w' ⟨a,b⟩=>⟨a,by subst b;exact Below.refl _ _⟩
theorem tV (k f t s:Int)(h d:Bs)(w:World)(C:h.length≤9223372036854775807)(D:d.length≤9223372036854775807):
 Calls prog 83 #[.agg #[k,h,f,t,s,d]] w (rT w (.string ⟨(wu k h f t s d).toArray⟩)):=by
 go_enter func83,ntmps83;go_wp2_with fail;refine(lH _ _ _ _ _ _ _ C D).mono ?_;rintro e x ⟨rfl,j⟩;have E:=j.size;simp only[World.size_alloc] at E;have n:=zU (yF _ _ _) j (by simp);have o:w.heap.size<x.heap.size:=oo;have p:Below w.heap.size w x:=((Below.refl _ _).alloc (Nat.le_refl _) _).trans (j.mono (by simp));clear j;by_cases c:rM k h f t s d
 ·have F:decide (rM k h f t s d)=true:=by simpa using c
  have G:=c;obtain⟨y,H,z⟩:=G;have I:=qY y;have Q:0≤s:=oo;have R:s≤64:=oo;have J:d.length≤4000:=oo;obtain⟨S,T⟩:=I;have U:=Lib.itoa_length_le s oo oo;have V:=gZ d;have W:=gV (qJ d);have g:=hid c;have L:=hid z;clear c y H z;have A:=zM n o;go_wp2_with fail;refine wp_region_quiet_below kr kr ?_;repeat(go_big_quiet_step ((first|(go_at_call 114;exact Calls.regrown_of (aC _ _ oo oo))|(go_at_call 116;exact Calls.regrown_of (YX _ _ J))|(go_at_call 115;exact Calls.regrown_of (LG _ _)))))
  refine wpQuiet_nil ?_;intro q b;have l:Below _ _ q:=zh b;clear b;have X:=l.size;have M:=zU n l o;have N:w.heap.size<q.heap.size:=oo;have i:Below w.heap.size w q:=p.trans (l.mono oo);clear l n o p A;have A:=zM M N;by_cases a:k=0
  ·have hk:(k==0)=true:=by simpa using a
   have K:=hid a;clear a;go_wp2;go_ret;exact⟨rO (by rw[wu,if_pos g.out,if_pos K.out];simp),i⟩
  have Y:(k==0)=false:=(by simpa using a);have m:=hid a;clear a;by_cases a:k=1
  ·have hk:(k==1)=true:=by simpa using a
   have K:=hid a;clear a;go_wp2;go_ret;exact⟨rO (by rw[wu,if_pos g.out,if_neg m.out,if_pos K.out];simp),i⟩
  have Z:(k==1)=false:=(by simpa using a);have r:=hid a;clear a;by_cases a:k=2
  ·have hk:(k==2)=true:=by simpa using a
   have O:0≤f∧f≤t∧t≤2000:=(by have:=L.out;omega);obtain⟨a0,a1,a2⟩:=O;have a3:=Lib.itoa_length_le f oo oo;have a4:=Lib.itoa_length_le t oo oo;have K:=hid a;clear a;go_wp2_with fail;refine wp_region_quiet_below kr kr ?_;repeat(go_big_quiet_step (((go_at_call 114;exact Calls.regrown_of (aC _ _ oo oo)))))
   refine wpQuiet_nil ?_;intro u b;have v:Below _ _ u:=zh b;clear b;go_wp2;go_ret;exact⟨rO (by rw[wu,if_pos g.out,if_neg m.out,if_neg r.out,if_pos K.out];simp),i.trans (v.mono (by omega))⟩
  have a5:(k==2)=false:=(by simpa using a);have B:=hid a;clear a;by_cases a:k=3
  ·have hk:(k==3)=true:=by simpa using a
   have K:=hid a;clear a;go_wp2_with fail;refine wp_region_quiet_below kr kr ?_;repeat(go_big_quiet_step (((go_at_call 114;exact Calls.regrown_of (aC _ _ oo oo)))))
   refine wpQuiet_nil ?_;intro u b;have v:Below _ _ u:=zh b;clear b;go_wp2;go_ret;exact⟨rO (by rw[wu,if_pos g.out,if_neg m.out,if_neg r.out,if_neg B.out,if_pos K.out];simp),i.trans (v.mono (by omega))⟩
  have a6:(k==3)=false:=(by simpa using a);have P:=hid a;clear a;go_wp2;go_ret;exact⟨rO (by rw[wu,if_pos g.out,if_neg m.out,if_neg r.out,if_neg B.out,if_neg P.out];simp),i⟩
 ·have F:decide (rM k h f t s d)=false:=by simpa using c
  have g:=hid c;clear c;go_wp2;go_ret;exact⟨by rw[wu,if_neg g.out];rfl,p⟩
def VS (k:Int)(a:Bs)(f t s:Int)(d:Bs):Value:=if rM k a f t s d then .tuple #[.string ⟨(uK (wu k a f t s d)).toArray⟩,.bool true] else .tuple #[.string ⟨[].toArray⟩,.bool false]
theorem O3 (k:Int)(b:Bs)(f t s:Int)(d:Bs):(wu k b f t s d).length≤9000:=by
 unfold wu;split
 ·rename_i h
  obtain⟨h1,h2,g⟩:=h;have a:=qY h1;have i:=Lib.itoa_length_le s oo oo;have c:=gZ d;have e:=gV (qJ d);split
  ·simp;omega
  split
  ·simp;omega
  split
  ·have j:=Lib.itoa_length_le f oo oo
   have l:=Lib.itoa_length_le t oo oo;simp;omega
  split
  ·simp;omega
  ·simp;omega
 ·simp
theorem dQ (l:Bs)(w:World)(k:l.length≤65535):
 Calls prog 52 #[l] w (rT w (.string ⟨(uK l).toArray⟩)):=by
 have d:=tq l;obtain⟨m,n⟩:=d;have f:=xJ l.length;have g:=xJ (sumOf l);have o:(two l.length).length≤2:=oo;have p:(two (sumOf l)).length≤2:=oo;clear f g;go_enter func52,ntmps52;go_wp2_with fail;refine(jL _ _ oo oo).mono ?_;rintro e h ⟨rfl,a⟩;have q:=a.size;have c:Below w.heap.size w h:=a;clear a;go_wp2_with fail;refine(Xh _ _ oo).mono ?_;rintro e w' ⟨rfl,rfl⟩;go_wp2_with fail;refine(jL _ _ oo oo).mono ?_;rintro e i ⟨rfl,b⟩;have r:=b.size;have j:Below w.heap.size w i:=c.trans (b.mono oo);clear b c;go_wp2;go_ret;exact⟨rO (by simp [uK]),j⟩
theorem Yh (k f t s:Int)(a d:Bs)(w:World)(l:a.length≤9223372036854775807)(m:d.length≤9223372036854775807):
 Calls prog 67 #[.agg #[k,a,f,t,s,d]] w (rT w (VS k a f t s d)):=by
 have B:=O3 k a f t s d;go_enter func67,ntmps67;go_wp2_with fail;refine(lH _ _ _ _ _ _ _ l m).mono ?_;rintro e n ⟨rfl,c⟩;have y:=c.size;simp only[World.size_alloc] at y;have o:=zU (yF _ _ _) c (by simp);have p:w.heap.size<n.heap.size:=oo;have i:Below w.heap.size w n:=((Below.refl _ _).alloc (Nat.le_refl _) _).trans (c.mono (by simp));clear c;by_cases b:rM k a f t s d
 ·have z:decide (rM k a f t s d)=true:=by simpa using b
  have j:=hid b;clear b;go_wp2_with fail;refine(tV _ _ _ _ _ _ _ l m).mono ?_;rintro e q ⟨rfl,g⟩;have C:=g.size;have r:=zU o g p;have u:w.heap.size<q.heap.size:=oo;have v:Below w.heap.size w q:=i.trans (g.mono oo);clear g o p i;go_wp2_with fail;refine(dQ _ _ oo).mono ?_;rintro e x ⟨rfl,h⟩;have D:=h.size;have E:=zU r h u;have F:w.heap.size<x.heap.size:=oo;have A:Below w.heap.size w x:=v.trans (h.mono oo);clear h r u v;go_wp2;go_ret2;exact⟨by rw[VS,if_pos j.out];rfl,A⟩
 ·have z:decide (rM k a f t s d)=false:=by simpa using b
  have j:=hid b;clear b;go_wp2;go_ret2;exact⟨by rw[VS,if_neg j.out];rfl,i⟩
set_option maxRecDepth 100000
def x8 (o:Option Int):Ending:=.returned (.tuple #[.int .i64 (o.getD 0),.bool o.isSome])
theorem oZ (r:Bs)(k n:Nat)(h:k<r.length)(a:Lib.decFrom 0 (r.take k)=some n)(h1:48≤byteAt r k)(h2:byteAt r k≤57):Lib.decFrom 0 (r.take (k+1))=some (n*10+(byteAt r k - 48).toNat):=by
 rw[List.take_succ_eq_append_getElem h,lK,a];rw[yh r k h] at h1 h2⊢;have:Lib.digitVal r[k]=some (r[k].toNat - 48):=(by unfold Lib.digitVal;rw[if_pos (by omega)]);rw[this];simp;omega
theorem oH :∀(r:Bs) (k a:Nat),k<r.length→(byteAt r k<48∨57<byteAt r k)→Lib.decFrom a r=none
 |[],k,a,h,_=>by simp at h
 |c::r,0,a,_,b=>by
  have:Lib.digitVal c=none:=by
   unfold Lib.digitVal;have:byteAt (c::r) ((0:Nat):Int)=(c.toNat:Int):=(by simp [byteAt]);rw[this] at b;rw[if_neg (by omega)]
  unfold Lib.decFrom;rw[this]
 |c::r,k+1,a,h,b=>by
  have e:byteAt (c::r) ((k+1:Nat):Int)=byteAt r (k:Int):=(by simp [byteAt]);rw[e] at b;unfold Lib.decFrom
  cases Lib.digitVal c with
  |none=>rfl
  |some d=>exact oH r k _ (by simpa using h) b
theorem VY :∀k,k≤17→10 ^ k≤100000000000000000:=by
 intro k hk;have:(10:Nat) ^ k≤10 ^ 17:=Nat.pow_le_pow_right oo hk;omega
theorem QF (r:Bs)(w:World)(u:r.length≤4000000):
 Calls prog 80 #[.string ⟨(45::r:Bs).toArray⟩] w fun e w'=>e=x8 (rZ true r)∧w=w':=by
 have x:byteAt (45::r) 0=45:=rfl;have y:(byteAt (45::r) 0==45)=true:=rfl;have z:(⟨(45::r:Bs).toArray⟩:ByteArray).extract 1 (r.length+1)=⟨r.toArray⟩:=by
  rw[ByteArray.extract_mk];simp
 by_cases h0:r.length=0
 ·have c:Hid (x8 (rZ true r)= .returned (.tuple #[.int .i64 0,.bool false])):=by
   show _=_;unfold rZ;rw[if_pos (.inl h0)];rfl
  have f:((r.length:Int)==0)=true:=(by simp;exact List.eq_nil_of_length_eq_zero h0);go_enter func80,ntmps80;go_wp2;exact bodyPost_ret (v:=.tuple #[.int .i64 0,.bool false]) (by simp [results,results80,go_sem]) rfl ⟨c.out.symm,rfl⟩
 by_cases g:17<r.length
 ·have c:Hid (x8 (rZ true r)= .returned (.tuple #[.int .i64 0,.bool false])):=by
   show _=_;unfold rZ;rw[if_pos (.inr (.inl g))];rfl
  have f:((r.length:Int)==0)=false:=(by rw[beq_eq_false_iff_ne];omega);have o:(17:Int)<r.length:=oo;go_enter func80,ntmps80;go_wp2;exact bodyPost_ret (v:=.tuple #[.int .i64 0,.bool false]) (by simp [results,results80,go_sem]) rfl ⟨c.out.symm,rfl⟩
 have f:((r.length:Int)==0)=false:=(by rw[beq_eq_false_iff_ne];omega);have o:(r.length:Int)≤17:=oo;have A:(0:Int)<r.length:=oo;by_cases d:byteAt r 0=48∧(1<r.length∨true=true)
 ·have c:Hid (x8 (rZ true r)= .returned (.tuple #[.int .i64 0,.bool false])):=by
   show _=_;unfold rZ;rw[if_pos (.inr (.inr d))];rfl
  obtain⟨i,B⟩:=d;have C:(byteAt r 0==48)=true:=(by rw[i];rfl);clear i;go_enter func80,ntmps80;by_cases h1:1<r.length
  ·have D:(1:Int)<r.length:=oo
   go_wp2;exact bodyPost_ret (v:=.tuple #[.int .i64 0,.bool false]) (by simp [results,results80,go_sem]) rfl ⟨c.out.symm,rfl⟩
  ·go_wp2
   exact bodyPost_ret (v:=.tuple #[.int .i64 0,.bool false]) (by simp [results,results80,go_sem]) rfl ⟨c.out.symm,rfl⟩
 have j:Hid (rZ true r=(Lib.decFrom 0 r).map fun n=>if true=true then -(n:Int) else n):=by
  show _=_;unfold rZ;rw[if_neg];rintro(h|h|h)
  ·exact h0 h
  ·exact g h
  ·exact d h
 have E:(byteAt r 0==48)=false:=by
  rw[beq_eq_false_iff_ne];exact fun e=>d ⟨e,.inr rfl⟩
 clear d;go_enter func80,ntmps80;go_wp2;go_loop [5,6] (fun a b=>∃k n:Nat,k≤r.length∧b= .int .i64 k∧a= .int .i64 n∧n<10 ^ k∧Hid (Lib.decFrom 0 (r.take k)=some n)) (fun _ b=>r.length - (intOf b).toNat)
 case atStart=>exact⟨0,0,by omega,rfl,rfl,by decide,by show _=_;simp [Lib.decFrom]⟩
 case round=>
  obtain⟨k,n,hk,rfl,rfl,F,l⟩:=hrel;have G:=VY k oo;by_cases m:k<r.length
  ·have H:=zQ r k
   have I:=yG r k;have J:(k:Int)<r.length:=oo;by_cases p:48≤byteAt r k∧byteAt r k≤57
   ·obtain⟨q,s⟩:=p
    have t:=hid (oZ r k n m l.out q s);have K:(10:Nat) ^ (k+1)=10 ^ k*10:=Nat.pow_succ 10 k;go_wp2;go_round
    case rel=>exact⟨k+1,n*10+(byteAt r k - 48).toNat,oo,by go_num,by go_num,oo,t⟩
    case measure=>simp [intOf];omega
   ·have c:Hid (x8 (rZ true r)= .returned (.tuple #[.int .i64 0,.bool false])):=by
     show _=_;rw[j.out,oH r k 0 m (by omega)];rfl
    by_cases L:48≤byteAt r k
    ·have M:57<byteAt r k:=oo
     go_wp2;exact bodyPost_ret (v:=.tuple #[.int .i64 0,.bool false]) (by simp [results,results80,go_sem]) rfl ⟨c.out.symm,rfl⟩
    ·go_wp2
     exact bodyPost_ret (v:=.tuple #[.int .i64 0,.bool false]) (by simp [results,results80,go_sem]) rfl ⟨c.out.symm,rfl⟩
  ·have c:Hid (x8 (rZ true r)= .returned (.tuple #[.int .i64 (-(n:Int)),.bool true])):=by
    show _=_;have e:r.take k=r:=List.take_of_length_le oo;have:=l.out;rw[e] at this;rw[j.out,this];rfl
   go_wp2;exact bodyPost_ret (v:=.tuple #[.int .i64 (-(n:Int)),.bool true]) (by simp [results,results80,go_sem]) rfl ⟨c.out.symm,rfl⟩
theorem Tq (r:Bs)(w:World)(K:r.length≤4000000)(u:¬(0<r.length∧byteAt r 0=45)):
 Calls prog 80 #[.string ⟨(r:Bs).toArray⟩] w fun e w'=>e=x8 (rZ false r)∧w=w':=by
 have g:0<r.length→(byteAt r 0==45)=false:=fun h=>(by rw[beq_eq_false_iff_ne];exact fun e=>u ⟨h,e⟩);have i:¬0<r.length→r=[]:=fun h=>List.eq_nil_of_length_eq_zero oo;clear u;by_cases h0:r.length=0
 ·have c:Hid (x8 (rZ false r)= .returned (.tuple #[.int .i64 0,.bool false])):=by
   show _=_;unfold rZ;rw[if_pos (.inl h0)];rfl
  have o:=i oo;subst o;clear h0 i g;go_enter func80,ntmps80;go_wp2;exact bodyPost_ret (v:=.tuple #[.int .i64 0,.bool false]) (by simp [results,results80,go_sem]) rfl ⟨c.out.symm,rfl⟩
 by_cases x:17<r.length
 ·have c:Hid (x8 (rZ false r)= .returned (.tuple #[.int .i64 0,.bool false])):=by
   show _=_;unfold rZ;rw[if_pos (.inr (.inl x))];rfl
  have o:((r.length:Int)==0)=false:=(by rw[beq_eq_false_iff_ne];omega);have z:(17:Int)<r.length:=oo;have A:=g oo;clear g;go_enter func80,ntmps80;go_wp2;exact bodyPost_ret (v:=.tuple #[.int .i64 0,.bool false]) (by simp [results,results80,go_sem]) rfl ⟨c.out.symm,rfl⟩
 have o:((r.length:Int)==0)=false:=(by rw[beq_eq_false_iff_ne];omega);have z:(r.length:Int)≤17:=oo;have L:(0:Int)<r.length:=oo;have A:=g oo;clear g i;by_cases f:byteAt r 0=48∧(1<r.length∨false=true)
 ·have c:Hid (x8 (rZ false r)= .returned (.tuple #[.int .i64 0,.bool false])):=by
   show _=_;unfold rZ;rw[if_pos (.inr (.inr f))];rfl
  obtain⟨y,B⟩:=f;have M:(byteAt r 0==48)=true:=(by rw[y];rfl);clear y;have C:(1:Int)<r.length:=by
   rcases B with h|h
   ·omega
   ·cases h
  go_enter func80,ntmps80;go_wp2;exact bodyPost_ret (v:=.tuple #[.int .i64 0,.bool false]) (by simp [results,results80,go_sem]) rfl ⟨c.out.symm,rfl⟩
 have m:Hid (rZ false r=(Lib.decFrom 0 r).map fun n=>if false=true then -(n:Int) else n):=by
  show _=_;unfold rZ;rw[if_neg];rintro(h|h|h)
  ·exact h0 h
  ·exact x h
  ·exact f h
 by_cases d:byteAt r 0=48
 ·have D:(byteAt r 0==48)=true:=by rw[d];rfl
  have C:(r.length:Int)≤1:=by
   have:=fun h=>f ⟨d,.inl h⟩;omega
  clear d f;go_enter func80,ntmps80;go_wp2;go_loop [5,6] (fun a b=>∃k n:Nat,k≤r.length∧b= .int .i64 k∧a= .int .i64 n∧n<10 ^ k∧Hid (Lib.decFrom 0 (r.take k)=some n)) (fun _ b=>r.length - (intOf b).toNat)
  case atStart=>exact⟨0,0,by omega,rfl,rfl,by decide,by show _=_;simp [Lib.decFrom]⟩
  case round=>
   obtain⟨k,n,hk,rfl,rfl,E,j⟩:=hrel;have F:=VY k oo;by_cases l:k<r.length
   ·have G:=zQ r k
    have i:=yG r k;have H:(k:Int)<r.length:=oo;by_cases p:48≤byteAt r k∧byteAt r k≤57
    ·obtain⟨q,s⟩:=p
     have t:=hid (oZ r k n l j.out q s);have I:(10:Nat) ^ (k+1)=10 ^ k*10:=Nat.pow_succ 10 k;go_wp2;go_round
     case rel=>exact⟨k+1,n*10+(byteAt r k - 48).toNat,oo,by go_num,by go_num,oo,t⟩
     case measure=>simp [intOf];omega
    ·have c:Hid (x8 (rZ false r)= .returned (.tuple #[.int .i64 0,.bool false])):=by
      show _=_;rw[m.out,oH r k 0 l (by omega)];rfl
     by_cases d:48≤byteAt r k
     ·have J:57<byteAt r k:=oo
      go_wp2;exact bodyPost_ret (v:=.tuple #[.int .i64 0,.bool false]) (by simp [results,results80,go_sem]) rfl ⟨c.out.symm,rfl⟩
     ·go_wp2
      exact bodyPost_ret (v:=.tuple #[.int .i64 0,.bool false]) (by simp [results,results80,go_sem]) rfl ⟨c.out.symm,rfl⟩
   ·have c:Hid (x8 (rZ false r)= .returned (.tuple #[.int .i64 ((n:Int)),.bool true])):=by
     show _=_;have e:r.take k=r:=List.take_of_length_le oo;have:=j.out;rw[e] at this;rw[m.out,this];rfl
    go_wp2;exact bodyPost_ret (v:=.tuple #[.int .i64 ((n:Int)),.bool true]) (by simp [results,results80,go_sem]) rfl ⟨c.out.symm,rfl⟩
 ·have D:(byteAt r 0==48)=false:=by rw[beq_eq_false_iff_ne];exact d
  clear d f;go_enter func80,ntmps80;go_wp2;go_loop [5,6] (fun a b=>∃k n:Nat,k≤r.length∧b= .int .i64 k∧a= .int .i64 n∧n<10 ^ k∧Hid (Lib.decFrom 0 (r.take k)=some n)) (fun _ b=>r.length - (intOf b).toNat)
  case atStart=>exact⟨0,0,by omega,rfl,rfl,by decide,by show _=_;simp [Lib.decFrom]⟩
  case round=>
   obtain⟨k,n,hk,rfl,rfl,E,j⟩:=hrel;have F:=VY k oo;by_cases l:k<r.length
   ·have G:=zQ r k
    have i:=yG r k;have H:(k:Int)<r.length:=oo;by_cases p:48≤byteAt r k∧byteAt r k≤57
    ·obtain⟨q,s⟩:=p
     have t:=hid (oZ r k n l j.out q s);have I:(10:Nat) ^ (k+1)=10 ^ k*10:=Nat.pow_succ 10 k;go_wp2;go_round
     case rel=>exact⟨k+1,n*10+(byteAt r k - 48).toNat,oo,by go_num,by go_num,oo,t⟩
     case measure=>simp [intOf];omega
    ·have c:Hid (x8 (rZ false r)= .returned (.tuple #[.int .i64 0,.bool false])):=by
      show _=_;rw[m.out,oH r k 0 l (by omega)];rfl
     by_cases d:48≤byteAt r k
     ·have J:57<byteAt r k:=oo
      go_wp2;exact bodyPost_ret (v:=.tuple #[.int .i64 0,.bool false]) (by simp [results,results80,go_sem]) rfl ⟨c.out.symm,rfl⟩
     ·go_wp2
      exact bodyPost_ret (v:=.tuple #[.int .i64 0,.bool false]) (by simp [results,results80,go_sem]) rfl ⟨c.out.symm,rfl⟩
   ·have c:Hid (x8 (rZ false r)= .returned (.tuple #[.int .i64 ((n:Int)),.bool true])):=by
     show _=_;have e:r.take k=r:=List.take_of_length_le oo;have:=j.out;rw[e] at this;rw[m.out,this];rfl
    go_wp2;exact bodyPost_ret (v:=.tuple #[.int .i64 ((n:Int)),.bool true]) (by simp [results,results80,go_sem]) rfl ⟨c.out.symm,rfl⟩
theorem mf (l:Bs)(w:World)(b:l.length≤4000000):
 Calls prog 80 #[l] w fun e w'=>e=x8 (mr l)∧w=w':=by
 unfold mr;by_cases a:0<l.length∧byteAt l 0=45
 ·rw[if_pos a]
  cases l with
  |nil=>simp at a
  |cons c r=>
   have d:c=45:=by
    have:=a.2;unfold byteAt at this;simp at this;exact UInt8.toNat_inj.1 (by show c.toNat=45;omega)
   subst d;exact QF r w (by simp at b;omega)
 ·rw[if_neg a]
  exact Tq l w b a
