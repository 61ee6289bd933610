import Derived.Test.YtfppmajoidkooaaGreatDoorUGA
import Derived.Test.YtfppmajoidkooaaGreatDoorUGQ
import Derived.Lib.ItoaNum
import Derived.Lib.ItoaLen
import Derived.Lib.ItoaMem
set_option linter.unusedVariables false
set_option linter.unusedSimpArgs false
set_option maxHeartbeats 8000000
namespace Go.Proofs.YtfppmajoidkooaaGreatDoor
open Go.RowKit
set_option maxRecDepth 100000
attribute [local go_sem high] zy zA zB zO zK zY zx zk zl zq zi zo yP zD yt zF
theorem YQ (d:Bs)(w:World)(hs:d.length≤4000):
 Calls Tryz.prog 93 #[.string ⟨d.toArray⟩] w fun e w'=>e= .returned (.string ⟨(uV d).toArray⟩)∧Below w.heap.size w w':=by
 obtain⟨i,hi,hz0,hz1,hz2⟩:=info_parts wI;go_enter Tryz.func93,Tryz.ntmps93;go_wp2_with(at_make;go_must(refine wpList_make_own _ rfl _ _ 22 rfl w.heap.size 5 i (.int .u8 0) 1 Tryz.underlying22 hi hz0 hz1 _ _ _ (2*d.length) rfl rfl (by omega) (by rw[hz2];omega) (by unfold maxLen;omega) (Nat.le_refl _) ?_);intro w1 hown hg1);have g1:Below w.heap.size w w1:=(Below.refl _ _).grown hg1 (Nat.le_refl _) (by simp);clear hg1;go_loopw [3,14] (fun v k wr=>∃n:Nat,n≤d.length∧k= .int .i64 n∧wr.ownsRow w.heap.size 5 1 v (hexOf (d.take n)).length ((hexOf (d.take n)).map u8v)∧Below w.heap.size w wr) (fun _ k _=>d.length - (intOf k).toNat)
 case atStart=>exact⟨0,Nat.zero_le _,rfl,by simpa [hexOf] using hown,g1⟩
 case round=>
  obtain⟨k,hk,rfl,hown,hb⟩:=hrel;have hz:=hb.size;by_cases hlt:k<d.length
  ·have hc1:=zL d k
   have hc2:=yu d k;have ha:(k:Int)<d.length:=oo;have hx0:0≤byteAt d k / 16:=oo;have hx1:byteAt d k / 16<16:=oo;have hy0:0≤byteAt d k % 16:=oo;have hy1:byteAt d k % 16<16:=oo;have hand:=SY d k;have hm1:(hexOf (d.take k)).length+2≤maxLen:=(by rw[hexOf_length];unfold maxLen;have:=List.length_take_le k d;omega);have hm2:((hexOf (d.take k)).length+2)*1≤140737488355328:=(by rw[hexOf_length];have:=List.length_take_le k d;omega);have HS:=Go.Lib.hid (Z5 d k hlt);have H1:=Go.Lib.hid (LX d k hlt);have H2:=Go.Lib.hid (L8 d k hlt);go_wp2;go_region_held3 (fun _=>True) (trivial) (((refine step_append_lies _ (by rfl) _ _ _ (by rfl) w.heap.size 5 i _ 1 1 Tryz.underlying22 hi hz0 hz1 hz2 rfl (by omega) u3 _ _ (by rfl) ((hown.alloc _).drew) ⟨wr.heap.size,0,none⟩ 2 2 [.int .u8 (byteAt hexL (byteAt d k / 16)),.int .u8 (byteAt hexL (byteAt d k % 16))] (by rfl) (by rfl) (World.news_of_block (cs:=#[.int .u8 (byteAt hexL (byteAt d k / 16)),.int .u8 (byteAt hexL (byteAt d k % 16))]) (t:=5) (fr:=(0,0)) (heap_alloc_new wr _)) (by simp [Value.oneCell']) (by omega) hm1 hm2 (by simp;omega) (wr.heap.size+1) (by simp) ?_);intro gg cap w2 hown2 hgrow hat hlt2))
   all_goals
    go_wp2;refine⟨⟨k+1,by omega,by go_num,?_,?_⟩,by simp [intOf];omega⟩
    ·rw[HS.out,List.length_append,List.map_append]
     simp only[List.map_cons,List.map_nil,u8v,←H1.out,←H2.out];exact hown2
    ·exact hb.trans ((((Below.refl w.heap.size wr).alloc hz _).drew).grown hgrow (by simp;omega) (by intro q hq;have:=(hown.lt q hq);omega))
  ·have hcv:=yH hown
   have e:d.take k=d:=List.take_of_length_le oo;rw[e] at hcv;go_wp2;go_ret;exact⟨by rw[uV,if_pos hs];rfl,hb⟩
theorem Yn (d:Bs)(w:World)(hs:d.length≤4000):
 Calls Tryz.prog 101 #[.string ⟨d.toArray⟩] w fun e w'=>e= .returned (.string ⟨(uV d).toArray⟩)∧Below w.heap.size w w':=by
 obtain⟨i,hi,hz0,hz1,hz2⟩:=info_parts wI;go_enter Tryz.func101,Tryz.ntmps101;go_wp2_with(at_make;go_must(refine wpList_make_own _ rfl _ _ 22 rfl w.heap.size 5 i (.int .u8 0) 1 Tryz.underlying22 hi hz0 hz1 _ _ _ (2*d.length) rfl rfl (by omega) (by rw[hz2];omega) (by unfold maxLen;omega) (Nat.le_refl _) ?_);intro w1 hown hg1);have g1:Below w.heap.size w w1:=(Below.refl _ _).grown hg1 (Nat.le_refl _) (by simp);clear hg1;go_loopw [4,5] (fun v k wr=>∃n:Nat,n≤d.length∧k= .int .i64 n∧wr.ownsRow w.heap.size 5 1 v (hexOf (d.take n)).length ((hexOf (d.take n)).map u8v)∧Below w.heap.size w wr) (fun _ k _=>d.length - (intOf k).toNat)
 case atStart=>exact⟨0,Nat.zero_le _,rfl,by simpa [hexOf] using hown,g1⟩
 case round=>
  obtain⟨k,hk,rfl,hown,hb⟩:=hrel;have hz:=hb.size;by_cases hlt:k<d.length
  ·have hc1:=zL d k
   have hc2:=yu d k;have ha:(k:Int)<d.length:=oo;have hx0:0≤byteAt d k / 16:=oo;have hx1:byteAt d k / 16<16:=oo;have hy0:0≤byteAt d k % 16:=oo;have hy1:byteAt d k % 16<16:=oo;have hm1:(hexOf (d.take k)).length+2≤maxLen:=(by rw[hexOf_length];unfold maxLen;have:=List.length_take_le k d;omega);have hm2:((hexOf (d.take k)).length+2)*1≤140737488355328:=(by rw[hexOf_length];have:=List.length_take_le k d;omega);have hq1:IntKind.u8.wrap ((byteAt d k).tdiv 16)=byteAt d k / 16:=IntWalk.u8_quo _ _ ⟨hc1,hc2,oo⟩;have hq2:(byteAt d k).tmod 16=byteAt d k % 16:=IntWalk.rem_in _ _ hc1;have HS:=Go.Lib.hid (Z5 d k hlt);have H1:=Go.Lib.hid (LX d k hlt);have H2:=Go.Lib.hid (L8 d k hlt);go_wp2;go_region_held3 (fun _=>True) (trivial) (((refine step_append_lies _ (by rfl) _ _ _ (by rfl) w.heap.size 5 i _ 1 1 Tryz.underlying22 hi hz0 hz1 hz2 rfl (by omega) u4 _ _ (by rfl) ((hown.alloc _).drew) ⟨wr.heap.size,0,none⟩ 2 2 [.int .u8 (byteAt hexL (byteAt d k / 16)),.int .u8 (byteAt hexL (byteAt d k % 16))] (by rfl) (by rfl) (World.news_of_block (cs:=#[.int .u8 (byteAt hexL (byteAt d k / 16)),.int .u8 (byteAt hexL (byteAt d k % 16))]) (t:=5) (fr:=(0,0)) (heap_alloc_new wr _)) (by simp [Value.oneCell']) (by omega) hm1 hm2 (by simp;omega) (wr.heap.size+1) (by simp) ?_);intro gg cap w2 hown2 hgrow hat hlt2))
   all_goals
    go_wp2;refine⟨⟨k+1,by omega,by go_num,?_,?_⟩,by simp [intOf];omega⟩
    ·rw[HS.out,List.length_append,List.map_append]
     simp only[List.map_cons,List.map_nil,u8v,←H1.out,←H2.out];exact hown2
    ·exact hb.trans ((((Below.refl w.heap.size wr).alloc hz _).drew).grown hgrow (by simp;omega) (by intro q hq;have:=(hown.lt q hq);omega))
  ·have hcv:=yH hown
   have e:d.take k=d:=List.take_of_length_le oo;rw[e] at hcv;go_wp2;go_ret;exact⟨by rw[uV,if_pos hs];rfl,hb⟩
theorem lN (u:Nat)(h:10≤u):Lib.decDigits u=Lib.decDigits (u / 10)++[UInt8.ofNat (48+u % 10)]:=by
 rw[Lib.decDigits,dif_neg (by omega)]
theorem decDigits_one (u:Nat)(h:u<10):Lib.decDigits u=[UInt8.ofNat (48+u)]:=by
 rw[Lib.decDigits,dif_pos h]
theorem PM (n:Nat)(w:World)(hn:n≤9000000000000):
 Calls Tryz.prog 99 #[.int .i64 n] w fun e w'=>e= .returned (.string ⟨(Lib.decDigits n).toArray⟩)∧Below w.heap.size w w':=by
 go_enter Tryz.func99,Tryz.ntmps99;go_wp2;go_loopw [0,3] (fun a b wr=>∃(u:Nat) (o:Bs),u≤n∧a= .int .i64 u∧b= .string ⟨o.toArray⟩∧Lib.decDigits n=Lib.decDigits u++o∧Below w.heap.size w wr) (fun a _ _=>(intOf a).toNat)
 case atStart=>exact⟨n,[],Nat.le_refl _,rfl,rfl,by simp,Below.refl _ _⟩
 case round=>
  obtain⟨u,o,hu,rfl,rfl,hd,hb⟩:=hrel;have ho:o.length≤21:=by
   have h1:=Lib.itoa_length_le (n:Int) oo oo;rw[Lib.itoa_nonneg,hd,List.length_append] at h1;omega
  have ho1:1+o.length≤9223372036854775807:=oo;have HD:=Go.Lib.hid hd;clear hd;have hz:=hb.size;by_cases h10:10≤u
  ·have HS:=Go.Lib.hid (lN u h10)
   go_wp2;go_roundw
   case rel=>
    refine⟨u / 10,_,oo,by go_num,rfl,?_,zu⟩;rw[HD.out,HS.out,List.append_assoc];simp
   case measure=>simp [intOf];omega
  ·have HS:=Go.Lib.hid (decDigits_one u oo)
   go_wp2;go_ret;refine⟨?_,zu⟩;rw[HD.out,HS.out];simp
theorem dB (n:Int)(w:World)(h0:0≤n)(hn:n≤9000000000000):
 Calls Tryz.prog 99 #[.int .i64 n] w fun e w'=>e= .returned (.string ⟨(Lib.itoa n).toArray⟩)∧Below w.heap.size w w':=by
 obtain⟨k,rfl⟩:=Int.eq_ofNat_of_zero_le h0;rw[Lib.itoa_nonneg];exact PM k w oo
theorem SG (l:Bs)(w:World):
 Calls Tryz.prog 92 #[.string ⟨l.toArray⟩] w fun e w'=>e= .returned (.string ⟨(wH l).toArray⟩)∧w=w':=by
 go_enter Tryz.func92,Tryz.ntmps92;by_cases h:l=[]
 ·subst h
  go_wp2;go_ret;exact⟨rfl,rfl⟩
 ·have HE:wH l=l:=by rw[wH,if_neg h]
  have HH:=Go.Lib.hid HE;have hd:decide (l=[])=false:=(by simpa using h);clear HE h;go_wp2;go_ret;exact⟨vZ HH.out.symm,rfl⟩
theorem TJ (l:Bs)(w:World):
 Calls Tryz.prog 100 #[.string ⟨l.toArray⟩] w fun e w'=>e= .returned (.string ⟨(wH l).toArray⟩)∧w=w':=by
 go_enter Tryz.func100,Tryz.ntmps100;by_cases h:l=[]
 ·subst h
  go_wp2;go_ret;exact⟨rfl,rfl⟩
 ·have HE:wH l=l:=by rw[wH,if_neg h]
  have HH:=Go.Lib.hid HE;have hd:decide (l=[])=false:=(by simpa using h);clear HE h;go_wp2;go_ret;exact⟨vZ HH.out.symm,rfl⟩
end Go.Proofs.YtfppmajoidkooaaGreatDoor
