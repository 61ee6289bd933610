import Derived.Test.YtoedhpcmgondjaaGreatDoorYGQ
import Derived.Lib.ItoaNum
import Derived.Lib.ItoaLen
import Derived.Lib.ItoaMem
set_option linter.all false
set_option maxHeartbeats 8000000
namespace Go.Proofs.YtoedhpcmgondjaaGreatDoor
open Go.Lib(hid)
open Go.RowKit Go.Proofs.Tryz
set_option maxRecDepth 100000
attribute [local instance] mU hZ cvZ
attribute [local go_sem high] zG zF zH zV zN yu zD zl zn zt zi zu y9 zK yE zJ
theorem YX (d:Bs)(w:World)(o:d.length≤4000):
 Calls prog 116 #[d] w (rT w (.string ⟨(qJ d).toArray⟩)):=by
 obtain⟨i,f,g,h,j⟩:=info_parts wQ;go_enter func116,ntmps116;go_wp2_with(at_make;go_must(refine wpList_make_own _ rfl _ _ 22 rfl w.heap.size 5 i (.int .u8 0) 1 underlying22 f g h _ _ _ (2*d.length) rfl rfl (by omega) (by rw[j];omega) (by unfold maxLen;omega) (Nat.le_refl _) ?_);intro p a l);have r:Below w.heap.size w p:=(Below.refl _ _).grown l (Nat.le_refl _) (by simp);clear l;go_loopw [4,5] (fun v k wr=>∃n:Nat,n≤d.length∧k= .int .i64 n∧wr.ownsRow w.heap.size 5 1 v (hexOf (d.take n)).length ((hexOf (d.take n)).map u8v)∧Below w.heap.size w wr) (fun _ k _=>d.length - (intOf k).toNat)
 case atStart=>exact⟨0,Nat.zero_le _,rfl,by simpa [hexOf] using a,r⟩
 case round=>
  obtain⟨k,hk,rfl,a,b⟩:=hrel;have s:=b.size;by_cases c:k<d.length
  ·have m:=zQ d k
   have u:=yG d k;have G:(k:Int)<d.length:=oo;have H:0≤byteAt d k / 16:=oo;have I:byteAt d k / 16<16:=oo;have J:0≤byteAt d k % 16:=oo;have K:byteAt d k % 16<16:=oo;have x:(hexOf (d.take k)).length+2≤maxLen:=(by rw[hexOf_length];unfold maxLen;have:=List.length_take_le k d;omega);have y:((hexOf (d.take k)).length+2)*1≤140737488355328:=(by rw[hexOf_length];have:=List.length_take_le k d;omega);have L:IntKind.u8.wrap ((byteAt d k).tdiv 16)=byteAt d k / 16:=IntWalk.u8_quo _ _ ⟨m,u,oo⟩;have M:(byteAt d k).tmod 16=byteAt d k % 16:=IntWalk.rem_in _ _ m;have z:=hid (Qy d k c);have A:=hid (Ib d k c);have B:=hid (Ij d k c);go_wp2;go_region_held3 (fun _=>True) (trivial) (((refine step_append_lies _ (by rfl) _ _ _ (by rfl) w.heap.size 5 i _ 1 1 underlying22 f g h j rfl (by omega) u4 _ _ (by rfl) ((a.alloc _).drew) ⟨wr.heap.size,0,none⟩ 2 2 [.int .u8 (byteAt hexL (byteAt d k / 16)),.int .u8 (byteAt hexL (byteAt d k % 16))] (by rfl) (by rfl) (World.news_of_block (cs:=#[.int .u8 (byteAt hexL (byteAt d k / 16)),.int .u8 (byteAt hexL (byteAt d k % 16))]) (t:=5) (fr:=(0,0)) (heap_alloc_new wr _)) (by simp [Value.oneCell']) (by omega) x y (by simp;omega) (wr.heap.size+1) (by simp) ?_);intro N cap O C D P Q))
   all_goals
    go_wp2;refine⟨⟨k+1,by omega,by go_num,?_,?_⟩,by simp [intOf];omega⟩
    ·rw[z.out,List.length_append,List.map_append]
     simp only[List.map_cons,List.map_nil,u8v,←A.out,←B.out];exact C
    ·exact b.trans ((((Below.refl w.heap.size wr).alloc s _).drew).grown D (by simp;omega) (by intro q E;have:=(a.lt q E);omega))
  ·have F:=yL a
   have e:d.take k=d:=List.take_of_length_le oo;rw[e] at F;go_wp2;go_ret;exact⟨by rw[qJ,if_pos o];rfl,b⟩
theorem Yg (u:Nat)(h:10≤u):Lib.decDigits u=Lib.decDigits (u / 10)++[UInt8.ofNat (48+u % 10)]:=by
 rw[Lib.decDigits,dif_neg (by omega)]
theorem decDigits_one (u:Nat)(h:u<10):Lib.decDigits u=[UInt8.ofNat (48+u)]:=by
 rw[Lib.decDigits,dif_pos h]
theorem OC (n:Nat)(w:World)(i:n≤9000000000000):
 Calls prog 114 #[n] w (rT w (.string ⟨(Lib.decDigits n).toArray⟩)):=by
 go_enter func114,ntmps114;go_wp2;go_loopw [0,3] (fun a b wr=>∃(u:Nat) (o:Bs),u≤n∧a= .int .i64 u∧b= .string ⟨o.toArray⟩∧Lib.decDigits n=Lib.decDigits u++o∧Below w.heap.size w wr) (fun a _ _=>(intOf a).toNat)
 case atStart=>exact⟨n,[],Nat.le_refl _,rfl,rfl,by simp,Below.refl _ _⟩
 case round=>
  obtain⟨u,o,j,rfl,rfl,c,g⟩:=hrel;have k:o.length≤21:=by
   have h1:=Lib.itoa_length_le (n:Int) oo oo;rw[Lib.itoa_nonneg,c,List.length_append] at h1;omega
  have l:1+o.length≤9223372036854775807:=oo;have f:=hid c;clear c;have m:=g.size;by_cases h:10≤u
  ·have d:=hid (Yg u h)
   go_wp2;go_roundw
   case rel=>
    refine⟨u / 10,_,oo,by go_num,rfl,?_,zy⟩;rw[f.out,d.out,List.append_assoc];simp
   case measure=>simp [intOf];omega
  ·have d:=hid (decDigits_one u oo)
   go_wp2;go_ret;refine⟨?_,zy⟩;rw[f.out,d.out];simp
theorem aC (n:Int)(w:World)(h0:0≤n)(a:n≤9000000000000):
 Calls prog 114 #[n] w (rT w (.string ⟨(Lib.itoa n).toArray⟩)):=by
 obtain⟨k,rfl⟩:=Int.eq_ofNat_of_zero_le h0;rw[Lib.itoa_nonneg];exact OC k w oo
theorem Ri (l:Bs)(w:World):
 Calls prog 115 #[l] w fun e w'=>e= .returned (.string ⟨(vX l).toArray⟩)∧w=w':=by
 go_enter func115,ntmps115;by_cases h:l=[]
 ·subst h
  go_wp2;go_ret;exact⟨rfl,rfl⟩
 ·have a:vX l=l:=by rw[vX,if_neg h]
  have b:=hid a;have c:decide (l=[])=false:=(by simpa using h);clear a h;go_wp2;go_ret;exact⟨rO b.out.symm,rfl⟩
