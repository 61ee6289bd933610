import Derived.Test.YtfppmajoidkooaaGreatDoorUGA
import Derived.Test.YtfppmajoidkooaaGreatDoorUGZ
import Derived.Test.YtfppmajoidkooaaGreatDoorUGW
import Derived.Deep.DeepCutAuto
set_option linter.unusedVariables false
set_option linter.unusedSimpArgs false
set_option maxHeartbeats 8000000
namespace Go.Proofs.YtfppmajoidkooaaGreatDoor
open Go.RowKit
attribute [local go_sem high] zy zA zB zO zK zY zx zk zl zq zi zo yP zD yt zF
theorem xI (o l m:Int)(w:World)(h0:0≤l)(h1:l≤16):
 Calls Tryz.prog 274 #[.agg #[.int .i64 o,.int .i64 l,.int .i64 m]] w fun e w'=>e= .returned (.int .i64 (pow2 l+1))∧Below w.heap.size w w':=by
 have hp:=yZ l h0 h1;obtain⟨hp0,hp1⟩:=hp;go_enter Tryz.func274,Tryz.ntmps274;go_wp2_with(go_at_call 183;refine(eP _ _ h0 h1).mono ?_;rintro e w' ⟨rfl,rfl⟩);go_ret;exact⟨rfl,zu⟩
theorem qP (o l m:Int)(w:World)(h0:0≤m)(h1:m≤16):
 Calls Tryz.prog 282 #[.agg #[.int .i64 o,.int .i64 l,.int .i64 m]] w fun e w'=>e= .returned (.int .i64 (pow2 m - 1))∧Below w.heap.size w w':=by
 have hp:=yZ m h0 h1;obtain⟨hp0,hp1⟩:=hp;go_enter Tryz.func282,Tryz.ntmps282;go_wp2_with(go_at_call 183;refine(eP _ _ h0 h1).mono ?_;rintro e w' ⟨rfl,rfl⟩);go_ret;exact⟨rfl,zu⟩
theorem XW (n:Nat)(w:World)(hn:n≤1000000):
 Calls Tryz.prog 295 #[.int .i64 n] w fun e w'=>e= .returned (.int .i64 (needed n))∧w=w':=by
 have h0:=qF 19 n oo;obtain⟨h00,h01⟩:=h0;go_enter Tryz.func295,Tryz.ntmps295;go_wp2;go_loop [0,3] (fun a b=>∃u k:Nat,u≤n∧a= .int .i64 u∧b= .int .i64 k∧k+needed u=needed n+1) (fun a _=>(intOf a).toNat)
 case atStart=>exact⟨n,1,Nat.le_refl _,rfl,rfl,oo⟩
 case round=>
  obtain⟨u,k,hu,rfl,rfl,hs⟩:=hrel;have hk:k≤100:=oo;have HS:=Go.Lib.hid hs;clear hs;by_cases h1:1<u
  ·have HN:=Go.Lib.hid (pJ u h1)
   go_wp2;go_round
   case rel=>exact⟨u / 2,k+1,oo,by go_num,by go_num,by have:=HS.out;have:=HN.out;omega⟩
   case measure=>simp [intOf];omega
  ·have HN:=Go.Lib.hid (sJ u oo)
   go_wp2;go_ret;exact⟨yN (by have:=HS.out;have:=HN.out;omega),rfl⟩
theorem kX (a:Nat)(ha:a<9223372036854775808):(BitVec.ofInt 64 (a:Int)).toNat=a:=by
 rw[BitVec.ofInt_natCast,BitVec.toNat_ofNat];exact Nat.mod_eq_of_lt (by omega)
theorem UO (a:Nat)(ha:a<9223372036854775808):bits .and .i64 (a:Int) 1=((a % 2:Nat):Int):=by
 show IntKind.i64.wrap ((BitVec.ofInt 64 (a:Int)&&& BitVec.ofInt 64 ((1:Nat):Int)).toNat:Int)=_;rw[BitVec.toNat_and,kX a ha,kX 1 (by omega),IntKind.wrap_i64,Nat.and_one_is_mod];omega
theorem Zn (o:Int)(c k:Nat)(w:World)(hc:c≤65535)(hk:k≤16):
 Calls Tryz.prog 294 #[.int .i64 o,.int .i64 c,.int .i64 k] w fun e w'=>e= .returned (.string ⟨(zU o c k).toArray⟩)∧Below w.heap.size w w':=by
 go_enter Tryz.func294,Tryz.ntmps294;go_wp2;go_loopw [7,8] (fun a b wr=>∃i:Nat,i≤k∧a= .string ⟨(zU o c i).toArray⟩∧b= .int .i64 i∧Below w.heap.size w wr) (fun _ b _=>k - (intOf b).toNat)
 case atStart=>exact⟨0,by omega,by simp [zU,wJ],rfl,Below.refl _ _⟩
 case round=>
  obtain⟨i,hi,rfl,rfl,hb⟩:=hrel;have hz:=hb.size;by_cases hlt:i<k
  ·obtain⟨q,hq,hq1,hqb⟩:∃q:Nat,bits .and .i64 ((c:Int) / 2 ^ i) 1=(q:Int)∧q≤1∧oz c i=UInt8.ofNat (48+q):=by
    refine⟨c / 2 ^ i % 2,?_,oo,rfl⟩;rw[show(c:Int) / 2 ^ i=((c / 2 ^ i:Nat):Int) by simp];exact UO _ (by have:=Nat.div_le_self c (2 ^ i);omega)
   have HQ:=Go.Lib.hid hqb;clear hqb;have hl:(zU o c i).length≤16:=(by rw[xx];omega);by_cases ho:o=0
   ·have HC:=Go.Lib.hid (WJ o c i ho)
    subst ho;go_wp2;go_roundw
    case rel=>
     refine⟨i+1,oo,?_,by go_num,zu⟩;rw[HC.out,HQ.out];simp
    case measure=>simp [intOf];omega
   ·have HC:=Go.Lib.hid (YL o c i ho)
    have hod:(o==0)=false:=(by simpa using ho);clear ho;go_wp2;go_roundw
    case rel=>
     refine⟨i+1,oo,?_,by go_num,zu⟩;rw[HC.out,HQ.out];simp
    case measure=>simp [intOf];omega
  ·go_wp2
   go_ret;have:i=k:=oo;subst this;exact⟨rfl,hb⟩
def vV (o:Int)(l:Bs):Bs:=if o=0 then l.reverse else l
theorem ag (o:Int)(l:Bs):(vV o l).length=l.length:=by unfold vV;split<;>simp
theorem Vf (o:Int)(l:Bs):numBits o l=yI (vV o l):=by unfold numBits vV;split<;>rfl
theorem YW (o:Int)(l:Bs)(h:yJ l=true):yJ (vV o l)=true:=by
 unfold vV;split
 ·rw[ou];exact h
 ·exact h
theorem Wp (l:Bs)(i:Nat)(h:i<l.length):byteAt l ((l.length:Int) - 1 - i)=byteAt (vV 0 l) i:=by
 rw[show((l.length:Int) - 1 - i)=((l.length - 1 - i:Nat):Int) by omega,zX l _ (by omega)];unfold vV;rw[if_pos rfl,zX _ i (by simpa using h),List.getElem_reverse]
theorem Vj (L:Bs)(i:Nat)(h:i<L.length)(hb:yJ L=true):∃q:Nat,byteAt L i=48+(q:Int)∧q≤1∧yI (L.take (i+1))=2*yI (L.take i)+q:=by
 have h1:=List.all_eq_true.1 hb _ (List.getElem_mem h);have h2:L[i]=48∨L[i]=49:=(by simpa using h1);refine⟨L[i].toNat - 48,?_,?_,?_⟩
 ·rw[zX L i h];rcases h2 with e|e<;>rw[e]<;>decide
 ·rcases h2 with e|e<;>rw[e]<;>decide
 ·rw[List.take_succ_eq_append_getElem h,wW]
theorem jS (l:Bs)(n:Nat)(h:yJ l=true):yJ (l.take n)=true:=by
 unfold yJ at*;rw[List.all_eq_true] at*;exact fun x hx=>h x (List.mem_of_mem_take hx)
theorem au (L:Bs)(i:Nat)(hL:L.length≤16)(hb:yJ L=true):yI (L.take i)≤65535:=by
 have h1:=jY (L.take i) (jS L i hb);have h2:2 ^ (L.take i).length≤2 ^ 16:=Nat.pow_le_pow_right (by omega) (by rw[List.length_take];omega);omega
theorem fP (o:Int)(l:Bs)(w:World)(hl:l.length≤16)(hb:yJ l=true):
 Calls Tryz.prog 273 #[.int .i64 o,.string ⟨l.toArray⟩] w fun e w'=>e= .returned (.int .i64 (numBits o l))∧w=w':=by
 have HB:=Go.Lib.hid (YW o l hb);clear hb;have HL:=Go.Lib.hid (ag o l);go_enter Tryz.func273,Tryz.ntmps273;go_wp2;go_loop [5,6] (fun a b=>∃i:Nat,i≤l.length∧a= .int .i64 (yI ((vV o l).take i))∧b= .int .i64 i) (fun _ b=>l.length - (intOf b).toNat)
 case atStart=>exact⟨0,by omega,by simp [yI],rfl⟩
 case round=>
  obtain⟨i,hi,rfl,rfl⟩:=hrel;by_cases hlt:i<l.length
  ·obtain⟨q,hq,hq1,hs⟩:=Vj (vV o l) i (by rw[HL.out];exact hlt) HB.out
   have hbd:=au (vV o l) i (by rw[HL.out];exact hl) HB.out;have HS:=Go.Lib.hid hs;clear hs;have ha:(i:Int)<l.length:=oo;by_cases ho:o=0
   ·subst ho
    have e1:=Wp l i hlt;rw[hq] at e1;clear hq;go_wp2;go_round
    case rel=>exact⟨i+1,by omega,by rw[HS.out];go_num,by go_num⟩
    case measure=>simp [intOf];omega
   ·have hod:(o==0)=false:=by simpa using ho
    have e1:byteAt l i=48+q:=(by rw[←hq];unfold vV;rw[if_neg ho]);clear hq ho;go_wp2;go_round
    case rel=>exact⟨i+1,by omega,by rw[HS.out];go_num,by go_num⟩
    case measure=>simp [intOf];omega
  ·go_wp2
   go_ret;refine⟨yN ?_,rfl⟩;rw[Vf,List.take_of_length_le (by rw[HL.out];omega)]
def rep (l:Bs)(n:Nat):Bs:=(List.replicate n l).flatten
theorem jJ (l:Bs)(n:Nat):(rep l n).length=n*l.length:=by unfold rep;simp
theorem Yx (l:Bs)(n:Nat):rep (l++l) n=rep l (2*n):=by
 unfold rep
 induction n with
 |zero=>rfl
 |succ n ih=>rw[show 2*(n+1)=2*n+1+1 by omega,List.replicate_succ,List.flatten_cons,ih,List.replicate_succ,List.replicate_succ,List.flatten_cons,List.flatten_cons,List.append_assoc]
theorem LD (l:Bs)(n:Nat):l++rep (l++l) n=rep l (2*n+1):=by
 rw[Yx];unfold rep;rw[List.replicate_succ,List.flatten_cons]
theorem ML (c:UInt8)(n:Nat):rep [c] n=List.replicate n c:=by
 unfold rep
 induction n with
 |zero=>rfl
 |succ n ih=>rw[List.replicate_succ,List.flatten_cons,ih,List.replicate_succ];rfl
theorem Rq (l:Bs)(n:Int)(w:World)(hl:l.length*n.toNat≤1000000)(hl1:l.length≤1000)(hn:n≤1000000):
 Calls Tryz.prog 73 #[.string ⟨l.toArray⟩,.int .i64 n] w fun e w'=>e= .returned (.string ⟨(rep l n.toNat).toArray⟩)∧w=w':=by
 have hk:(l.length:Nat)*n.toNat≤1000000:=hl;clear hl;go_enter Tryz.func73,Tryz.ntmps73;go_wp2;go_loop [0,1,5] (fun a b c=>∃(s o:Bs) (k:Int),a= .string ⟨s.toArray⟩∧b= .int .i64 k∧c= .string ⟨o.toArray⟩∧o++rep s k.toNat=rep l n.toNat∧s.length≤2000000∧k≤1000000∧(k<0→n<0)) (fun _ b _=>(intOf b).toNat)
 case atStart=>exact⟨l,[],n,rfl,rfl,rfl,rfl,oo,hn,fun h=>h⟩
 case round=>
  obtain⟨s,o,k,rfl,rfl,rfl,he,hs,hk1,hk2⟩:=hrel;have hlen:o.length+k.toNat*s.length≤1000000:=by
   have:=congrArg List.length he;rw[List.length_append,jJ,jJ] at this;rw[this,Nat.mul_comm];exact hk
  by_cases h0:0<k
  ·obtain⟨j,hj⟩:=Int.eq_ofNat_of_zero_le (by omega:0≤k)
   subst hj;have hsl:s.length≤1000000:=by
    have h1:1*s.length≤(j:Int).toNat*s.length:=Nat.mul_le_mul_right _ oo;omega
   have hol:o.length≤1000000:=oo;by_cases hodd:j % 2=1
   ·have HE:Hid ((o++s)++rep (s++s) (j / 2)=rep l n.toNat):=by
     rw[List.append_assoc,LD,←he];rw[show 2*(j / 2)+1=(j:Int).toNat by omega];rfl
    clear he;have h2:(((j:Int) % 2)==1)=true:=(by rw[beq_iff_eq];omega);go_wp2;go_round
    case rel=>exact⟨s++s,o++s,((j / 2:Nat):Int),by simp,by go_num,by simp,by rw[Int.toNat_natCast];exact HE.out,by simp;omega,by omega,by omega⟩
    case measure=>simp [intOf];omega
   ·have HE:Hid (o++rep (s++s) (j / 2)=rep l n.toNat):=by
     rw[Yx,←he];rw[show 2*(j / 2)=(j:Int).toNat by omega];rfl
    clear he;have h2:(((j:Int) % 2)==1)=false:=(by rw[beq_eq_false_iff_ne];omega);go_wp2;go_round
    case rel=>exact⟨s++s,o,((j / 2:Nat):Int),by simp,by go_num,rfl,by rw[Int.toNat_natCast];exact HE.out,by simp;omega,by omega,by omega⟩
    case measure=>simp [intOf];omega
  ·have HE:=Go.Lib.hid he
   clear he;go_wp2;go_ret;refine⟨vZ ?_,rfl⟩;have:=HE.out;rw[show k.toNat=0 by omega] at this;simpa [rep] using this
theorem Pg (l:Bs)(w:World)(hl:l.length≤1000000):
 Calls Tryz.prog 301 #[.string ⟨l.toArray⟩] w fun e w'=>e= .returned (.string ⟨(uF l).toArray⟩)∧w=w':=by
 have hm0:0≤ -((l.length:Int) % 8) % 8:=oo;have hm1: -((l.length:Int) % 8) % 8≤7:=oo;have hp:l++rep [48] (-((l.length:Int) % 8) % 8).toNat=uF l:=by
  unfold uF;rw[ML,show(-((l.length:Int) % 8) % 8).toNat=(8 - l.length % 8) % 8 by omega]
 have hr:(rep [48] (-((l.length:Int) % 8) % 8).toNat).length≤7:=(by rw[jJ];simp;omega);have c:=fun w=>Rq [48] (-((l.length:Int) % 8) % 8) w (by simp;omega) (by simp) (by omega);generalize rep [48] (-((l.length:Int) % 8) % 8).toNat=R at*;have HP:=Go.Lib.hid hp;have C:=Go.Lib.hid c;clear hp c;go_enter Tryz.func301,Tryz.ntmps301;go_wp2_with fail;refine(C.out _).mono ?_;rintro e w' ⟨rfl,rfl⟩;go_wp2;go_ret;exact⟨vZ HP.out,rfl⟩
def oh (n:Nat)(f:Nat→UInt8)(i:Nat):List Value:=(List.range n).map fun j=>if j<i then u8v (f j) else .int .u8 0
theorem jq (n:Nat)(f:Nat→UInt8)(i:Nat):(oh n f i).length=n:=by simp [oh]
theorem Ue (n:Nat)(f:Nat→UInt8):oh n f 0=List.replicate n (.int .u8 0):=by
 unfold oh;apply List.ext_getElem?;intro j;by_cases h:j<n<;>simp [h]
theorem Uw (n:Nat)(f:Nat→UInt8):oh n f n=((List.range n).map f).map u8v:=by
 unfold oh;rw[List.map_map];apply List.map_congr_left;intro j hj;rw[List.mem_range] at hj;rw[if_pos hj];rfl
theorem UD (n:Nat)(f:Nat→UInt8)(i:Nat):(oh n f i).set i (u8v (f i))=oh n f (i+1):=by
 apply List.ext_getElem?;intro j;rw[List.getElem?_set,jq];unfold oh;by_cases hj:i=j
 ·subst hj
  by_cases hn:i<n<;>simp [hn]
 ·rw[if_neg hj]
  by_cases hn:j<n
  ·simp only[List.getElem?_map,List.getElem?_range hn,Option.map_some]
   by_cases h1:j<i
   ·rw[if_pos h1,if_pos (by omega)]
   ·rw[if_neg h1,if_neg (by omega)]
  ·simp [hn]
theorem Yb (l:Bs)(n:Nat)(h:yJ l=true):yJ (l.drop n)=true:=by
 unfold yJ at*;rw[List.all_eq_true] at*;exact fun x hx=>h x (List.mem_of_mem_drop hx)
theorem PX (l:Bs)(h:yJ l=true):yJ (uF l)=true:=by
 unfold uF yJ at*;rw[List.all_append,h];simp
def iy (o:Int)(P:Bs)(j:Nat):UInt8:=UInt8.ofNat (numBits o ((P.drop (8*j)).take 8))
theorem SH (o:Int)(P:Bs)(j:Nat)(h:yJ P=true)(hj:8*j+8≤P.length):numBits o ((P.drop (8*j)).take 8)≤255∧((iy o P j).toNat:Int)=numBits o ((P.drop (8*j)).take 8):=by
 have h1:=qW o ((P.drop (8*j)).take 8) (jS _ _ (Yb _ _ h));have h2:((P.drop (8*j)).take 8).length=8:=(by simp;omega);rw[h2] at h1;refine⟨by omega,?_⟩;unfold iy;rw[UInt8.toNat_ofNat'];omega
theorem TU (o:Int)(l:Bs)(w:World)(hl:l.length≤100000)(hb:yJ l=true):
 Calls Tryz.prog 284 #[.int .i64 o,.string ⟨l.toArray⟩] w fun e w'=>e= .returned (.string ⟨(uG o l).toArray⟩)∧Below w.heap.size w w':=by
 obtain⟨i0,hi,hz0,hz1,hz2⟩:=info_parts wI;have c:=fun w=>Pg l w oo;obtain⟨n,hn⟩:∃n:Nat,(uF l).length=8*n:=⟨(l.length+7) / 8,by rw[uY];omega⟩;have hn1:n≤20000:=(by have:=uY l;omega);have HP:Hid (uG o l=(List.range n).map (iy o (uF l))):=by
  show uG o l=_;unfold uG;rw[hn,show 8*n / 8=n by omega];rfl
 have hpb:=PX l hb;generalize uF l=P at*;have HN:=Go.Lib.hid hn;have hl1:P.length≤8*n:=oo;have hl2:8*n≤P.length:=oo;have hlq:(P.length:Int) / 8=n:=oo;have HB:=Go.Lib.hid hpb;have C:=Go.Lib.hid c;clear hn hpb c hb;go_enter Tryz.func284,Tryz.ntmps284;go_wp2_with fail;refine(C.out _).mono ?_;rintro e w' ⟨rfl,rfl⟩;go_wp2_with(at_make;go_must(refine wpList_make_full _ rfl _ _ 22 rfl w.heap.size 5 i0 (.int .u8 0) 1 Tryz.underlying22 hi hz0 hz1 _ _ _ _ n rfl rfl (by omega) (by omega) (by rw[hz2];omega) (by unfold maxLen;omega) (Nat.le_refl _) ?_);intro w1 hown hg1);have g1:Below w.heap.size w w1:=(Below.refl _ _).grown hg1 (Nat.le_refl _) (by simp);clear hg1;have hlt1:w.heap.size<w1.heap.size:=(hown.lt _ rfl).2;go_loopw [7] (fun k wr=>∃i:Nat,i≤n∧k= .int .i64 i∧wr.ownsRow w.heap.size 5 1 (.slice (some ⟨w.heap.size,0,none⟩) n n) n (oh n (iy o P) i)∧Below w.heap.size w wr) (fun k _=>n - (intOf k).toNat)
 case atStart=>
  refine⟨0,oo,rfl,?_,g1⟩;rw[Ue,←toList_madeCells_one];rw[Nat.mul_one] at hown;exact hown
 case round=>
  obtain⟨i,hi',rfl,hown,hb⟩:=hrel;have hz:=hb.size;by_cases hlt:i<n
  ·obtain⟨S,hS,hS1,hS2,hS3⟩:∃S:Bs,(⟨P.toArray⟩:ByteArray).extract (8*i) (8*i+8)=⟨S.toArray⟩∧S.length≤16∧yJ S=true∧(numBits o S≤255∧(numBits o S:Int)=(iy o P i).toNat):=by
    have h8:=SH o P i HB.out oo;refine⟨(P.drop (8*i)).take 8,?_,by simp;omega,jS _ _ (Yb _ _ HB.out),h8.1,h8.2.symm⟩;rw[ByteArray.extract_mk];simp
   obtain⟨hS3,hS4⟩:=hS3;have HV:=Go.Lib.hid hS4;have hcl:=(hown.cellAt i (by omega)).trans (List.getElem?_eq_getElem (by rw[jq];exact hlt));have hfr:=hown.frozenAt i;have hst:=hown.stored i (u8v (iy o P i));rw[UD] at hst;have HST:=Go.Lib.hid hst;have c1:=fun w=>fP o S w hS1 hS2;have C1:=Go.Lib.hid c1;clear hst hS4 c1;have hin:(i:Int)<n:=oo;go_wp2_with fail;refine(C1.out _).mono ?_;rintro e w' ⟨rfl,rfl⟩;go_wp2;go_roundw
   case rel=>exact⟨i+1,by omega,by go_num,by rw[HV.out];exact HST.out.1,hb.setCell (Nat.le_refl _) _⟩
   case measure=>simp [intOf];omega
  ·have hcv:=yH (l:=(List.range n).map (iy o P)) (by
    have e:i=n:=oo;rw[e,Uw] at hown;rw[List.length_map,List.length_range];exact hown)
   go_wp2;go_ret;exact⟨vZ HP.out.symm,hb⟩
def prV (p:Pr):List Value:=[.int .i64 p.1,.int .i64 p.2]
def psV (ps:List Pr):List Value:=ps.flatMap prV
theorem KQ (ps:List Pr):∀(i:Nat) (h:i<ps.length),(psV ps)[i*2]? =some (.int .i64 ps[i].1)∧(psV ps)[i*2+1]? =some (.int .i64 ps[i].2):=by
 unfold psV
 induction ps with
 |nil=>intro i h;cases h
 |cons p ps ih=>
  intro i h
  cases i with
  |zero=>simp [prV]
  |succ i=>
   have:=ih i (by simpa using h);rw[List.flatMap_cons,show(i+1)*2=i*2+1+1 by omega];simpa [prV] using this
theorem Zq (ps:List Pr)(p:Pr):psV (ps++[p])=psV ps++prV p:=by unfold psV;rw[List.flatMap_append];simp
theorem VA (ps:List Pr):∀u ∈ psV ps,u.oneCell'=true:=by
 unfold psV;intro u hu;simp only[List.mem_flatMap,prV] at hu;obtain⟨p,_,hu⟩:=hu;simp at hu;rcases hu with rfl|rfl<;>rfl
theorem Yr (ps:List Pr)(k:Nat):psV (ps.take k)=(psV ps).take (k*2):=by
 unfold psV
 induction ps generalizing k with
 |nil=>simp
 |cons p ps ih=>
  cases k with
  |zero=>simp
  |succ k=>rw[List.take_succ_cons,List.flatMap_cons,ih,List.flatMap_cons,show(k+1)*2=k*2+1+1 by omega];simp [prV]
abbrev knV (K:Kn)(A:Option Addr)(cap:Nat):Value:=.agg #[.int .i64 K.o,.int .i64 K.l,.int .i64 K.m,.slice A K.ps.length cap,.int .i64 K.base,.int .i64 K.last]
abbrev knC (K:Kn)(A:Option Addr)(cap:Nat):Array Value:=#[.int .i64 K.o,.int .i64 K.l,.int .i64 K.m,.slice A K.ps.length cap,.int .i64 K.base,.int .i64 K.last]
theorem Kn.ok.lm {K:Kn}(h:K.ok):0≤K.l∧K.l≤16∧0≤K.m∧K.m≤16:=by
 obtain⟨_,h1,h2,h3,h4⟩:=h.st;omega
theorem ui (K:Kn)(A:Option Addr)(cap:Nat)(w:World)(hk:K.ok):
 Calls Tryz.prog 298 #[knV K A cap] w fun e w'=>e= .returned (.int .i64 K.nx)∧Below w.heap.size w w':=by
 have hb:=hk.bd;have hp:=hk.lm;unfold Kn.cl at hb;obtain⟨hb1,hb2,hb3,hb4,hb5⟩:=hb;obtain⟨hp1,hp2,hp3,hp4⟩:=hp;have HX:Hid (K.nx=pow2 K.l+1+1+K.ps.length):=(by show K.nx=_;unfold Kn.nx;omega);go_enter Tryz.func298,Tryz.ntmps298;go_wp2_with fail;have hG:=zI (yl w (knC K A cap) 130) (by simp);refine wp_region_quiet_below kr kr ?_;repeat(go_big_quiet_step ((go_at_call 274;exact Calls.regrown_of (xI _ _ _ _ hp1 hp2))))
 refine wpQuiet_nil ?_;intro w2 hw2;have hb2:Below _ _ w2:=zh hw2;clear hw2;go_wp2;go_ret;exact⟨yN HX.out.symm,((Below.refl _ _).alloc (Nat.le_refl _) _).trans (hb2.mono (by simp))⟩
theorem pU (K:Kn)(A:Option Addr)(cap:Nat)(w:World)(hk:K.ok):
 Calls Tryz.prog 297 #[knV K A cap] w fun e w'=>e= .returned (.bool K.gr)∧Below w.heap.size w w':=by
 have hp:=hk.lm;obtain⟨hp1,hp2,hp3,hp4⟩:=hp;go_enter Tryz.func297,Tryz.ntmps297;go_wp2_with fail;have hG:=zI (yl w (knC K A cap) 130) (by simp);by_cases h0:0≤K.last
 ·have HX:Hid (decide (K.nx≤pow2 K.m - 1)=K.gr):=by
   show decide (K.nx≤pow2 K.m - 1)=K.gr;unfold Kn.gr Kn.top;rw[Bool.eq_iff_iff];simp;omega
  refine wp_region_quiet_below kr kr ?_;repeat(go_big_quiet_step ((first|(go_at_call 298;exact Calls.regrown_of (ui _ _ _ _ hk))|(go_at_call 282;exact Calls.regrown_of (qP _ _ _ _ hp3 hp4)))))
  refine wpQuiet_nil ?_;intro w2 hw2;have hb2:Below _ _ w2:=zh hw2;clear hw2;go_wp2;go_ret;exact⟨zQ HX.out,((Below.refl _ _).alloc (Nat.le_refl _) _).trans (hb2.mono (by simp))⟩
 ·have HX:Hid (K.gr=false):=by
   show K.gr=false;unfold Kn.gr;simp;omega
  have hd:decide (0≤K.last)=false:=(by simpa using h0);refine wp_region_quiet_below kr kr ?_;repeat(go_big_quiet_step ((first|(go_at_call 298;exact Calls.regrown_of (ui _ _ _ _ hk))|(go_at_call 282;exact Calls.regrown_of (qP _ _ _ _ hp3 hp4)))))
  refine wpQuiet_nil ?_;intro w2 hw2;have hb2:Below _ _ w2:=zh hw2;clear hw2;go_wp2;go_ret;exact⟨zQ HX.out.symm,((Below.refl _ _).alloc (Nat.le_refl _) _).trans (hb2.mono (by simp))⟩
theorem pz (K:Kn)(A:Option Addr)(cap:Nat)(w:World)(hk:K.ok):
 Calls Tryz.prog 296 #[knV K A cap] w fun e w'=>e= .returned (.int .i64 K.great)∧Below w.heap.size w w':=by
 have hnx: -1000≤K.nx:=(by unfold Kn.nx;have:=yZ K.l (hk.lm.1) (hk.lm.2.1);omega);have hnx1:K.nx≤1000000:=(by unfold Kn.nx;have:=yZ K.l (hk.lm.1) (hk.lm.2.1);have:=hk.bd;omega);go_enter Tryz.func296,Tryz.ntmps296;go_wp2_with fail;refine(pU _ _ _ _ hk).mono ?_;rintro e w1 ⟨rfl,hb1⟩;have hz1:=hb1.size;simp only[World.size_alloc] at hz1;have X0_1:=zJ (yl _ _ _) hb1 (by simp);have L0_1:w.heap.size<w1.heap.size:=oo;have g1:Below w.heap.size w w1:=((Below.refl _ _).alloc (Nat.le_refl _) _).trans (hb1.mono (by simp));clear hb1;by_cases hg:K.gr=true
 ·have HX:Hid (K.nx=K.great):=by show K.nx=K.great;unfold Kn.great;rw[if_pos hg]
  go_wp2_with fail;refine(ui _ _ _ _ hk).mono ?_;rintro e w2 ⟨rfl,hb2⟩;have hz2:=hb2.size;have X0_2:=zJ X0_1 hb2 L0_1;have L0_2:w.heap.size<w2.heap.size:=oo;have g2:Below w.heap.size w w2:=g1.trans (hb2.mono oo);clear hb2 X0_1 L0_1 g1;go_wp2;go_ret;exact⟨yN HX.out,g2⟩
 ·have hg':K.gr=false:=by simpa using hg
  have HX:Hid (K.nx - 1=K.great):=(by show K.nx - 1=K.great;unfold Kn.great;rw[if_neg hg]);go_wp2_with fail;refine(ui _ _ _ _ hk).mono ?_;rintro e w2 ⟨rfl,hb2⟩;have hz2:=hb2.size;have X0_2:=zJ X0_1 hb2 L0_1;have L0_2:w.heap.size<w2.heap.size:=oo;have g2:Below w.heap.size w w2:=g1.trans (hb2.mono oo);clear hb2 X0_1 L0_1 g1;go_wp2;go_ret;exact⟨yN HX.out,g2⟩
theorem SC (n:Int)(w:World)(h0:0≤n)(hn:n≤1000000):
 Calls Tryz.prog 295 #[.int .i64 n] w fun e w'=>e= .returned (.int .i64 (needed n.toNat))∧Below w.heap.size w w':=by
 obtain⟨k,rfl⟩:=Int.eq_ofNat_of_zero_le h0;exact(XW k w oo).mono fun e w' ⟨he,hw⟩=>⟨he,by subst hw;exact Below.refl _ _⟩
theorem lM (K:Kn)(A:Option Addr)(cap:Nat)(w:World)(hk:K.ok):
 Calls Tryz.prog 272 #[knV K A cap] w fun e w'=>e= .returned (.int .i64 K.width)∧Below w.heap.size w w':=by
 have hb:=hk.bd;have hg:=K.uJ hk;have hp:=hk.lm;obtain⟨hp1,hp2,hp3,hp4⟩:=hp;have hgr0:0≤K.great:=oo;have hgr1:K.great≤1000000:=oo;have hn:=qF 19 K.great.toNat oo;obtain⟨hn1,hn2⟩:=hn;have HX:Hid ((max (K.l+1) (needed K.great.toNat:Int))=(K.width:Int)):=by
  show _=_;unfold Kn.width;omega
 go_enter Tryz.func272,Tryz.ntmps272;go_wp2_with fail;have hG:=zI (yl w (knC K A cap) 130) (by simp);refine wp_region_quiet_below kr kr ?_;repeat(go_big_quiet_step ((first|(go_at_call 296;exact Calls.regrown_of (pz _ _ _ _ hk))|(go_at_call 295;exact Calls.regrown_of (SC _ _ hgr0 hgr1)))))
 refine wpQuiet_nil ?_;intro w2 hw2;have hb2:Below _ _ w2:=zh hw2;clear hw2;go_wp2
 all_goals
  go_wp2;go_ret;exact⟨yN (by have:=HX.out;omega),((Below.refl _ _).alloc (Nat.le_refl _) _).trans (hb2.mono (by simp))⟩
theorem Rn (a b c:Int)(w:World):
 Calls Tryz.prog 133 #[.int .i64 a,.int .i64 b,.int .i64 c] w fun e w'=>e= .returned (.bool (decide (b≤a∧a≤c)))∧Below w.heap.size w w':=
 (uk a b c w).mono fun e w' ⟨he,hw⟩=>⟨he,by subst hw;exact Below.refl _ _⟩
theorem kV (a b c:Int)(w:World)(h:b≤a∧a≤c):
 Calls Tryz.prog 133 #[.int .i64 a,.int .i64 b,.int .i64 c] w fun e w'=>e= .returned (.bool true)∧Below w.heap.size w w':=
 (Rn a b c w).mono fun e w' ⟨he,hw⟩=>⟨by rw[he,decide_eq_true h],hw⟩
theorem Yp (a b c:Int)(w:World)(h:¬(b≤a∧a≤c)):
 Calls Tryz.prog 133 #[.int .i64 a,.int .i64 b,.int .i64 c] w fun e w'=>e= .returned (.bool false)∧Below w.heap.size w w':=
 (Rn a b c w).mono fun e w' ⟨he,hw⟩=>⟨by rw[he,decide_eq_false h],hw⟩
theorem nT (o l m c:Int)(n:Nat)(w:World)(h0:0≤l)(h1:l≤16)(hn:n≤100000):
 Calls Tryz.prog 283 #[.agg #[.int .i64 o,.int .i64 l,.int .i64 m],.int .i64 c,.int .i64 n] w fun e w'=>e= .returned (.bool (decide (codeOk (pow2 l) n c)))∧Below w.heap.size w w':=by
 have hp:=yZ l h0 h1;obtain⟨hp0,hp1⟩:=hp;go_enter Tryz.func283,Tryz.ntmps283;go_wp2_with fail;have hG:=zI (yl w #[.int .i64 o,.int .i64 l,.int .i64 m] 39) (by simp);by_cases hc:0≤c∧c≤pow2 l - 1
 ·obtain⟨hc0,hc1⟩:=hc
  have HX:Hid (decide (codeOk (pow2 l) n c)=true):=(by show _=_;simp;left;omega);refine wp_region_quiet_below kr kr ?_;repeat(go_big_quiet_step ((first|(go_at_call 152;exact Calls.regrown_of (yG _ _ _ _ h0 h1))|(go_at_call 274;exact Calls.regrown_of (xI _ _ _ _ h0 h1))|(go_at_call 133;exact Calls.regrown_of (kV _ _ _ _ oo)))))
  refine wpQuiet_nil ?_;intro w2 hw2;have hb2:Below _ _ w2:=zh hw2;clear hw2;go_wp2;go_ret;exact⟨zQ HX.out.symm,((Below.refl _ _).alloc (Nat.le_refl _) _).trans (hb2.mono (by simp))⟩
 ·by_cases hc2:pow2 l+1+1≤c∧c≤pow2 l+1+n
  ·have HX:Hid (decide (codeOk (pow2 l) n c)=true):=by show _=_;simp only[decide_eq_true_eq];unfold codeOk;omega
   refine wp_region_quiet_below kr kr ?_;repeat(go_big_quiet_step ((first|(go_at_call 152;exact Calls.regrown_of (yG _ _ _ _ h0 h1))|(go_at_call 274;exact Calls.regrown_of (xI _ _ _ _ h0 h1))|(go_at_call 133;exact Calls.regrown_of (kV _ _ _ _ oo))|(go_at_call 133;exact Calls.regrown_of (Yp _ _ _ _ oo)))))
   refine wpQuiet_nil ?_;intro w2 hw2;have hb2:Below _ _ w2:=zh hw2;clear hw2;go_wp2;go_ret;exact⟨zQ HX.out.symm,((Below.refl _ _).alloc (Nat.le_refl _) _).trans (hb2.mono (by simp))⟩
  ·have HX:Hid (decide (codeOk (pow2 l) n c)=false):=by show _=_;simp only[decide_eq_false_iff_not];unfold codeOk;omega
   refine wp_region_quiet_below kr kr ?_;repeat(go_big_quiet_step ((first|(go_at_call 152;exact Calls.regrown_of (yG _ _ _ _ h0 h1))|(go_at_call 274;exact Calls.regrown_of (xI _ _ _ _ h0 h1))|(go_at_call 133;exact Calls.regrown_of (Yp _ _ _ _ oo)))))
   refine wpQuiet_nil ?_;intro w2 hw2;have hb2:Below _ _ w2:=zh hw2;clear hw2;go_wp2;go_ret;exact⟨zQ HX.out.symm,((Below.refl _ _).alloc (Nat.le_refl _) _).trans (hb2.mono (by simp))⟩
theorem oM (K:Kn)(A:Option Addr)(cap:Nat)(c:Int)(w:World)(hk:K.ok):
 Calls Tryz.prog 275 #[knV K A cap,.int .i64 c] w fun e w'=>e= .returned (.bool (K.fol c))∧Below w.heap.size w w':=by
 have hb:=hk.bd;have hp:=hk.lm;have hps:K.ps.length≤100000:=oo;obtain⟨hp1,hp2,hp3,hp4⟩:=hp;go_enter Tryz.func275,Tryz.ntmps275;go_wp2_with fail;refine(nT _ _ _ _ _ _ hp1 hp2 hps).mono ?_;rintro e w1 ⟨rfl,hb1⟩;have hz1:=hb1.size;simp only[World.size_alloc] at hz1;have X0_1:=zJ (yl _ _ _) hb1 (by simp);have L0_1:w.heap.size<w1.heap.size:=oo;have g1:Below w.heap.size w w1:=((Below.refl _ _).alloc (Nat.le_refl _) _).trans (hb1.mono (by simp));clear hb1;by_cases hc:codeOk (pow2 K.l) K.ps.length c
 ·have hd:decide (codeOk (pow2 K.l) K.ps.length c)=true:=by simpa using hc
  have HX:Hid (K.fol c=true):=(by show _=_;unfold Kn.fol;simp only[decide_eq_true_eq];left;exact hc);clear hc;go_wp2;go_ret;exact⟨zQ HX.out.symm,g1⟩
 ·have hd:decide (codeOk (pow2 K.l) K.ps.length c)=false:=by simpa using hc
  by_cases hg:K.gr=true
  ·have HX:Hid (K.fol c=(c==K.nx)):=by
    show _=_;unfold Kn.fol;rw[Bool.eq_iff_iff];simp only[decide_eq_true_eq,beq_iff_eq];exact⟨fun h=>h.elim (fun h=>absurd h hc) (fun h=>h.2),fun h=>.inr ⟨hg,h⟩⟩
   clear hc;go_wp2_with fail;refine(pU _ _ _ _ hk).mono ?_;rintro e w2 ⟨rfl,hb2⟩;have hz2:=hb2.size;have X0_2:=zJ X0_1 hb2 L0_1;have L0_2:w.heap.size<w2.heap.size:=oo;have g2:Below w.heap.size w w2:=g1.trans (hb2.mono oo);clear hb2 X0_1 L0_1 g1;go_wp2_with fail;refine(ui _ _ _ _ hk).mono ?_;rintro e w3 ⟨rfl,hb3⟩;have hz3:=hb3.size;have X0_3:=zJ X0_2 hb3 L0_2;have L0_3:w.heap.size<w3.heap.size:=oo;have g3:Below w.heap.size w w3:=g2.trans (hb3.mono oo);clear hb3 X0_2 L0_2 g2;go_wp2;go_ret;exact⟨zQ HX.out.symm,g3⟩
  ·have hg':K.gr=false:=by simpa using hg
   have HX:Hid (K.fol c=false):=by
    show _=_;unfold Kn.fol;rw[decide_eq_false_iff_not];rintro(h|h)
    ·exact hc h
    ·exact hg h.1
   clear hc;go_wp2_with fail;refine(pU _ _ _ _ hk).mono ?_;rintro e w2 ⟨rfl,hb2⟩;have hz2:=hb2.size;have X0_2:=zJ X0_1 hb2 L0_1;have L0_2:w.heap.size<w2.heap.size:=oo;have g2:Below w.heap.size w w2:=g1.trans (hb2.mono oo);clear hb2 X0_1 L0_1 g1;go_wp2;go_ret;exact⟨zQ HX.out.symm,g2⟩
theorem fO {w:World}{A:Option Addr}{cap:Nat}{ps:List Pr}(h:Sl w A ps.length cap 2 (psV ps))(i:Nat)(hi:i<ps.length):
 ∃g off,A=some ⟨g,off,none⟩∧g<w.heap.size∧w.cell? ⟨g,off+i*2,none⟩=some (.int .i64 ps[i].1)∧w.cell? ⟨g,off+i*2+1,none⟩=some (.int .i64 ps[i].2):=by
 obtain⟨h1,h2,h3,h4⟩:=h;obtain⟨g,off,hA,hg,hc⟩:=h4 oo;have:=KQ ps i hi;exact⟨g,off,hA,hg,hc _ _ this.1,by rw[Nat.add_assoc];exact hc _ _ this.2⟩
def uf (L:Bs)(i:Nat):Bs:=(List.range L.length).map fun j=>if j<i∨L.length - i≤j then L.getD (L.length - 1 - j) 0 else L.getD j 0
theorem wo (L:Bs)(i:Nat):(uf L i).length=L.length:=by simp [uf]
theorem ZA (L:Bs):uf L 0=L:=by
 apply List.ext_getElem?;intro j;unfold uf;by_cases h:j<L.length
 ·rw[List.getElem?_map,List.getElem?_range h,List.getElem?_eq_getElem h]
  simp [h];omega
 ·rw[List.getElem?_eq_none (by simp;omega),List.getElem?_eq_none (by omega)]
theorem qY (L:Bs)(i j:Nat)(h:j<L.length):(uf L i)[j]? =some (if j<i∨L.length - i≤j then L.getD (L.length - 1 - j) 0 else L.getD j 0):=by
 unfold uf;rw[List.getElem?_map,List.getElem?_range h];rfl
theorem Yl (L:Bs)(i:Nat)(h:i=L.length / 2):uf L i=L.reverse:=by
 apply List.ext_getElem?;intro j;by_cases hj:j<L.length
 ·rw[qY L i j hj,List.getElem?_reverse hj,List.getElem?_eq_getElem (by omega)]
  congr 1;split
  ·rw[List.getD_eq_getElem?_getD,List.getElem?_eq_getElem (by omega)];rfl
  ·have e:j=L.length - 1 - j:=oo
   conv=>lhs;rw[e]
   rw[List.getD_eq_getElem?_getD,List.getElem?_eq_getElem (by omega)];rfl
 ·rw[List.getElem?_eq_none (by rw[wo];omega),List.getElem?_eq_none (by simp;omega)]
theorem ZU (L:Bs)(i:Nat)(h:i<L.length / 2):((uf L i).set i (L.getD (L.length - 1 - i) 0)).set (L.length - 1 - i) (L.getD i 0)=uf L (i+1):=by
 apply List.ext_getElem?;intro j;rw[List.getElem?_set,List.getElem?_set,List.length_set,wo];by_cases hj:j<L.length
 ·rw[qY L (i+1) j hj]
  by_cases h1:L.length - 1 - i=j
  ·rw[if_pos h1,if_pos (by omega),if_pos (by omega)]
   congr 2;omega
  ·rw[if_neg h1]
   by_cases h2:i=j
   ·rw[if_pos h2,if_pos (by omega),if_pos (by omega),h2]
   ·rw[if_neg h2,qY L i j hj]
    congr 1;by_cases h3:j<i∨L.length - i≤j
    ·rw[if_pos h3,if_pos (by omega)]
    ·rw[if_neg h3,if_neg (by omega)]
 ·rw[if_neg (by omega),if_neg (by omega),List.getElem?_eq_none (by rw[wo];omega),List.getElem?_eq_none (by rw[wo];omega)]
theorem iV (L:Bs)(i:Nat)(h:i<L.length):(L.map u8v)[i]? =some (u8v (L.getD i 0)):=by
 rw[List.getElem?_map,List.getElem?_eq_getElem h,List.getD_eq_getElem?_getD,List.getElem?_eq_getElem h];rfl
set_option maxRecDepth 100000 in
theorem ZO (K:Kn)(A:Option Addr)(cap:Nat)(c:Int)(w:World)(hk:K.ok)(hs:Sl w A K.ps.length cap 2 (psV K.ps))(hc:codeOk K.cl K.ps.length c):
 Calls Tryz.prog 299 #[knV K A cap,.int .i64 c] w fun e w'=>e= .returned (.string ⟨(K.word c).toArray⟩)∧Below w.heap.size w w':=by
 obtain⟨i,hi,hz0,hz1,hz2⟩:=info_parts wI;have hbd:=hk.bd;have hp:=hk.lm;obtain⟨hp1,hp2,hp3,hp4⟩:=hp;have hcb:c≤100000:=(by unfold codeOk at hc;omega);go_enter Tryz.func299,Tryz.ntmps299;go_wp2;go_loopw [1,5] (fun x v wr=>∃(c':Int) (out:Bs),x= .int .i64 c'∧codeOk K.cl K.ps.length c'∧K.word c=K.word c'++out.reverse∧out.length+c'.toNat≤c.toNat∧wr.ownsRow (w.heap.size+1) 5 1 v out.length (out.map u8v)∧Below w.heap.size w wr∧w.heap.size+1<wr.heap.size∧∀i,wr.cell? ⟨w.heap.size,i,none⟩=(knC K A cap)[i]?) (fun x _ _=>(intOf x).toNat)
 case atStart=>
  exact⟨c,[],rfl,hc,by simp,by simp,by simpa using World.ownsRow_made (base:=w.heap.size+1) (e:=5) (size:=1) (w.alloc (.cells (knC K A cap) 130)) #[] 0 (by simp) (by unfold maxLen;omega) rfl,zu,by simp,Yq (yl _ _ _) (by simp) _⟩
 case round=>
  obtain⟨c',out,rfl,hc',hw,hl,hown,hb,hz,hX⟩:=hrel;have HW:=Go.Lib.hid hw;clear hw;have hnl:K.ps.length≤100000:=oo;go_wp2_with fail;refine(xI _ _ _ _ hp1 hp2).mono ?_;rintro e w1 ⟨rfl,hb1⟩;have hy1:=hb1.size;have hX1:=zJ hX hb1 oo;have hown1:=zf hown hb1;have g1:Below w.heap.size w w1:=hb.trans (hb1.mono oo);clear hb1 hX hown hb;by_cases hgt:pow2 K.l+1<c'
  ·have hii:(c' - K.cl - 2).toNat<K.ps.length:=by unfold Kn.cl at*;rcases hc' with h|h<;>omega
   obtain⟨hi2,hwp⟩:=fG hk.pairs c' hgt (by rcases hc' with h|h<;>unfold Kn.cl at*<;>omega);obtain⟨g,off,hA,hg,hc0,hc1⟩:=fO (hs.below g1) _ hii;have hpr:=hk.pairs _ hii;obtain⟨hpr1,hpr2,hpr3⟩:=hpr;have HWP:=Go.Lib.hid hwp;have HA:=Go.Lib.hid hA;clear hwp hA;generalize hPi:K.ps[(c' - K.cl - 2).toNat]=pr at*;clear hPi;have hpp:=yZ K.l hp1 hp2;obtain⟨hpp1,hpp2⟩:=hpp;have hcu:c'≤100000:=(by rcases hc' with h|h<;>unfold Kn.cl at*<;>omega);have hpr5:0≤pr.fst∧pr.fst<c':=by
    have hcl:K.cl=pow2 K.l:=rfl;unfold codeOk at hpr1;omega
   obtain⟨hpr5,hpr6⟩:=hpr5;have hidx:((c' - (pow2 K.l+1)).toNat - 1)=(c' - K.cl - 2).toNat:=(by unfold Kn.cl;omega);have hy2:w.heap.size<w1.heap.size:=oo;rw[←hidx] at hc0 hc1;have hi0:0≤c' - (pow2 K.l+1) - 1:=oo;have hi00:1≤c' - (pow2 K.l+1):=oo;have hi1:c' - (pow2 K.l+1) - 1<K.ps.length:=oo;have hA:=HA.out;subst hA;clear hidx HA;have HK:Hid (∀w',Below w1.heap.size w1 w'→(w'.cell? ⟨w.heap.size,0,none⟩=some (.int .i64 K.o)∧w'.cell? ⟨w.heap.size,1,none⟩=some (.int .i64 K.l)∧w'.cell? ⟨w.heap.size,2,none⟩=some (.int .i64 K.m)∧w'.cell? ⟨w.heap.size,3,none⟩=some (.slice (some ⟨g,off,none⟩) K.ps.length cap)∧w'.cell? ⟨g,off+((c' - (pow2 K.l+1)).toNat - 1)*2,none⟩=some (.int .i64 pr.fst)∧w'.cell? ⟨g,off+((c' - (pow2 K.l+1)).toNat - 1)*2+1,none⟩=some (.int .i64 pr.snd)∧Below w1.heap.size w1 w')):=fun w' h=>⟨(h.cell (p:=⟨_,_,_⟩) oB).trans (hX1 0),(h.cell (p:=⟨_,_,_⟩) oB).trans (hX1 1),(h.cell (p:=⟨_,_,_⟩) oB).trans (hX1 2),(h.cell (p:=⟨_,_,_⟩) oB).trans (hX1 3),(h.cell (p:=⟨_,_,_⟩) oB).trans (hc0),(h.cell (p:=⟨_,_,_⟩) oB).trans (hc1),h⟩;clear hc0 hc1;go_wp2_with fail;have hwr1:IntKind.i64.wrap (c' - (pow2 K.l+1))=c' - (pow2 K.l+1):=IntWalk.i64_in _ oo;have hwr2:IntKind.i64.wrap (c' - (pow2 K.l+1) - 1)=c' - (pow2 K.l+1) - 1:=IntWalk.i64_in _ oo;go_cut [6] (fun p wx=>∃gp:Nat,p= .pointer (some ⟨gp,0,none⟩)∧w1.heap.size≤gp∧gp<wx.heap.size∧wx.cell? ⟨gp,0,none⟩=some (.int .i64 pr.1)∧wx.cell? ⟨gp,1,none⟩=some (.int .i64 pr.2)∧Below w1.heap.size w1 wx)
   case first=>
    go_region_held3 (fun w'=>w'.cell? ⟨w.heap.size,0,none⟩=some (.int .i64 K.o)∧w'.cell? ⟨w.heap.size,1,none⟩=some (.int .i64 K.l)∧w'.cell? ⟨w.heap.size,2,none⟩=some (.int .i64 K.m)∧w'.cell? ⟨w.heap.size,3,none⟩=some (.slice (some ⟨g,off,none⟩) K.ps.length cap)∧w'.cell? ⟨g,off+((c' - (pow2 K.l+1)).toNat - 1)*2,none⟩=some (.int .i64 pr.fst)∧w'.cell? ⟨g,off+((c' - (pow2 K.l+1)).toNat - 1)*2+1,none⟩=some (.int .i64 pr.snd)∧Below w1.heap.size w1 w') ((exact HK.out _ yL)) (first|(go_at_call 274;refine(xI _ _ _ _ hp1 hp2).mono ?_;rintro e w2 ⟨rfl,hb2⟩;have hz2:=hb2.size;(try simp at hz2);try(have hb3:=zG hb2;have hxx:=zJ (yl _ _ _) hb3 (by simp);have hff:=fZ (WA _ _ _) hb3 (by simp))))
    all_goals
     go_wp2_with fail;go_meet;refine⟨_,rfl,by first|omega|(simp<;>omega),by first|omega|(simp<;>omega),by first|(simp;done)|go_simp,by first|(simp;done)|go_simp,yL⟩
   case rest=>
    obtain⟨gp,rfl,hgp1,hgp2,hgc0,hgc1,hgb⟩:=hcut;have hown2:=zf hown1 hgb;have hX2:=zJ hX1 hgb hy2;have hlo:out.length≤100000:=oo;have hm1:out.length+1≤maxLen:=(by unfold maxLen;omega);have hm2:(out.length+1)*1≤140737488355328:=oo;have hpr4:pr.snd≤255:=oo;go_wp2_with(at_builtin;go_must(refine wpList_append_own _ rfl _ _ 22 rfl (w.heap.size+1) 5 i _ 1 1 Tryz.underlying22 hi hz0 hz1 hz2 rfl oo _ _ _ rfl (hown2.alloc _) ⟨wc.heap.size,0,none⟩ 1 1 [.int .u8 pr.snd] rfl rfl ?_ ?_ hm1 hm2 ?_ ?_));try(case refine_1=>first|exact cell_one_new _ _ _|omega|(simp<;>omega;done)|(simp [Value.oneCell'];done))
    try(case refine_2=>first|exact cell_one_new _ _ _|omega|(simp<;>omega;done)|(simp [Value.oneCell'];done))
    try(case refine_3=>first|exact cell_one_new _ _ _|omega|(simp<;>omega;done)|(simp [Value.oneCell'];done))
    intro v3 w3 hown3 hg3 _;have hlt:=hown1.lt;have hf1:=Vh hg3 hgp2 (fun k hk=>by have:=hlt k hk;omega) 0;rw[hgc0] at hf1;have hX3:=Vh hg3 (b:=w.heap.size) oo (fun k hk=>by have:=hlt k hk;omega);have hX3:=fun i=>(hX3 i).trans (hX2 i);have hb3:=yw (g1.trans (hgb.mono oo)) hg3 oo (fun k hk=>by have:=hlt k hk;omega);have hs3:=wY hg3;clear hg3 hX2 hown2;go_wp2;go_roundw
    case rel=>
     refine⟨pr.fst,out++[UInt8.ofNat pr.snd.toNat],rfl,kC hpr1 oo,?_,?_,?_,hb3,oo,hX3⟩
     ·rw[HW.out]
      show K.word c'++_=K.word pr.fst++_;unfold Kn.word;rw[HWP.out];simp
     ·simp;omega
     ·have e:u8v (UInt8.ofNat pr.snd.toNat)= .int .u8 pr.snd:=by
       show Value.int .u8 _=_;rw[UInt8.toNat_ofNat'];congr 1;omega
      rw[List.map_append,List.length_append];simp only[List.map_cons,List.map_nil,e];exact hown3
    case measure=>simp [intOf];omega
  ·have hlt':c'<K.cl:=by unfold Kn.cl at*;rcases hc' with h|h<;>omega
   have hc0:0≤c':=(by rcases hc' with h|h<;>omega);have hc255:c'≤255:=oo;have HL:Hid (K.word c=(out++[UInt8.ofNat c'.toNat]).reverse):=by
    show K.word c=_;rw[HW.out];unfold Kn.word;rw[kP _ _ _ hlt'];simp
   have hlo:out.length≤100000:=oo;have hm1:out.length+1≤maxLen:=(by unfold maxLen;omega);have hm2:(out.length+1)*1≤140737488355328:=oo;go_wp2_with(at_builtin;go_must(refine wpList_append_own _ rfl _ _ 22 rfl (w.heap.size+1) 5 i _ 1 1 Tryz.underlying22 hi hz0 hz1 hz2 rfl oo _ _ _ rfl (hown1.alloc _) ⟨w1.heap.size,0,none⟩ 1 1 [.int .u8 c'] rfl rfl ?_ ?_ hm1 hm2 ?_ ?_));try(case refine_1=>first|exact cell_one_new _ _ _|omega|(simp<;>omega;done)|(simp [Value.oneCell'];done))
   try(case refine_2=>first|exact cell_one_new _ _ _|omega|(simp<;>omega;done)|(simp [Value.oneCell'];done))
   try(case refine_3=>first|exact cell_one_new _ _ _|omega|(simp<;>omega;done)|(simp [Value.oneCell'];done))
   intro v3 w3 hown3 hg3 _;have hlt:=hown1.lt;have hb3:=yw g1 hg3 oo (fun k hk=>by have:=hlt k hk;omega);have hs3:=wY hg3;have e:u8v (UInt8.ofNat c'.toNat)= .int .u8 c':=by
    show Value.int .u8 _=_;rw[UInt8.toNat_ofNat'];congr 1;omega
   have hown4:w3.ownsRow (w.heap.size+1) 5 1 v3 (out++[UInt8.ofNat c'.toNat]).length ((out++[UInt8.ofNat c'.toNat]).map u8v):=by
    rw[List.map_append,List.length_append];simp only[List.map_cons,List.map_nil,e];exact hown3
   clear hg3 hown3 e hown1 hX1;have hL1:(out++[UInt8.ofNat c'.toNat]).length≤100001:=(by simp;omega);have hL2:0<(out++[UInt8.ofNat c'.toNat]).length:=(by simp);generalize out++[UInt8.ofNat c'.toNat]=L at*;obtain⟨g,cap3,rfl,hg1,hg2⟩:=hown4.form hL2;rw[←ZA L] at hown4;go_wp2;go_loopw [7,8] (fun x _ wr=>∃i:Nat,i≤L.length / 2∧x= .int .i64 i∧wr.ownsRow (w.heap.size+1) 5 1 (.slice (some ⟨g,0,none⟩) L.length cap3) L.length ((uf L i).map u8v)∧Below w.heap.size w wr) (fun x _ _=>L.length - (intOf x).toNat)
   case atStart=>exact⟨0,by omega,rfl,by rw[wo] at hown4;exact hown4,hb3⟩
   case round=>
    obtain⟨i,hile,rfl,hown,hb⟩:=hrel;by_cases hlt2:i<L.length / 2
    ·have hq0:(i:Int)<(L.length:Int) / 2:=oo
     have hq1:(i:Int)<L.length:=oo;have hq2:0≤(L.length:Int) - 1 - i:=oo;have hq3:(L.length:Int) - 1 - i<L.length:=oo;have hci:=(hown.cellAt i (by omega)).trans (iV (uf L i) i (by rw[wo];omega));have hfi:=hown.frozenAt i;have hcj:=(hown.cellAt (L.length - 1 - i) (by omega)).trans (iV (uf L i) (L.length - 1 - i) (by rw[wo];omega));have hfj:=hown.frozenAt (L.length - 1 - i);go_wp2;go_roundw
     case rel=>
      refine⟨i+1,oo,by go_num,?_,(hb.setCell (by show _≤g;omega) _).setCell (by show _≤g;omega) _⟩;have h2:=((hown.stored i (u8v ((uf L i)[L.length - 1 - i]?.getD 0))).1.stored (L.length - 1 - i) (u8v ((uf L i)[i]?.getD 0))).1;rw[←List.map_set,←List.map_set] at h2;have e1:(uf L i)[L.length - 1 - i]?.getD 0=L.getD (L.length - 1 - i) 0:=by
       rw[qY L i _ (by omega),if_neg (by omega)];rfl
      have e2:(uf L i)[i]?.getD 0=L.getD i 0:=by
       rw[qY L i _ (by omega),if_neg (by omega)];rfl
      rw[e1,e2,ZU L i hlt2] at h2;rw[e1,e2];exact h2
     case measure=>simp [intOf];omega
    ·have hcv:=yH (l:=L.reverse) (by
      have e:i=L.length / 2:=oo;rw[Yl L i e] at hown;rw[List.length_reverse];exact hown)
     go_wp2;go_ret;exact⟨vZ HL.out.symm,hb⟩
theorem oO (l:Bs):wE l=byteAt l 0:=by
 unfold wE byteAt
 cases l<;>rfl
set_option maxRecDepth 100000 in
theorem qG (K:Kn)(A:Option Addr)(cap:Nat)(c:Int)(w:World)(hk:K.ok)(hs:Sl w A K.ps.length cap 2 (psV K.ps))(hc:K.fol c=true):
 Calls Tryz.prog 276 #[knV K A cap,.int .i64 c] w fun e w'=>e= .returned (.string ⟨(K.any c).toArray⟩)∧Below w.heap.size w w':=by
 have hc':=hc;unfold Kn.fol at hc';simp only[decide_eq_true_eq] at hc';go_enter Tryz.func276,Tryz.ntmps276;go_wp2_with fail;refine(ui _ _ _ _ hk).mono ?_;rintro e w1 ⟨rfl,hb1⟩;have hz1:=hb1.size;simp only[World.size_alloc] at hz1;have X0_1:=zJ (yl _ _ _) hb1 (by simp);have L0_1:w.heap.size<w1.heap.size:=oo;have g1:Below w.heap.size w w1:=((Below.refl _ _).alloc (Nat.le_refl _) _).trans (hb1.mono (by simp));clear hb1;by_cases he:c=K.nx
 ·have hg:K.gr=true:=by
   rcases hc' with h|⟨h,_⟩
   ·exfalso;unfold codeOk at h;unfold Kn.nx at he;unfold Kn.cl at h;omega
   ·exact h
  have hl:=K.rq hk hg;have hlen:=fK hk.pairs _ _ (Nat.le_refl _) hl;have hbd:=hk.bd;have hX:K.any c=K.word K.last++(K.word K.last).take 1:=(by unfold Kn.any;rw[if_pos he]);have HX:=Go.Lib.hid hX;have hd:(c==K.nx)=true:=(by simpa using he);clear hX he hc';have hw1:1≤(K.word K.last).length:=hlen.1;have hw2:(K.word K.last).length≤2000:=(by have:=hlen.2;unfold Kn.word;omega);have hw3:((K.word K.last).take 1).length≤1:=(by simp;omega);go_wp2_with fail;refine(ZO K A cap K.last _ hk (hs.below g1) hl).mono ?_;rintro e w2 ⟨rfl,hb2⟩;have hz2:=hb2.size;have X0_2:=zJ X0_1 hb2 L0_1;have L0_2:w.heap.size<w2.heap.size:=oo;have g2:Below w.heap.size w w2:=g1.trans (hb2.mono oo);clear hb2 X0_1 L0_1 g1;generalize K.word K.last=W at*;go_wp2;go_ret;exact⟨vZ (by rw[HX.out,ByteArray.extract_mk];simp),g2⟩
 ·have hcc:codeOk K.cl K.ps.length c:=by
   rcases hc' with h|⟨_,h⟩
   ·exact h
   ·exact absurd h he
  have HX:Hid (K.any c=K.word c):=(by show _=_;unfold Kn.any;rw[if_neg he]);have hd:(c==K.nx)=false:=(by simpa using he);clear he hc';go_wp2_with fail;refine(ZO K A cap c _ hk (hs.below g1) hcc).mono ?_;rintro e w2 ⟨rfl,hb2⟩;have hz2:=hb2.size;have X0_2:=zJ X0_1 hb2 L0_1;have L0_2:w.heap.size<w2.heap.size:=oo;have g2:Below w.heap.size w w2:=g1.trans (hb2.mono oo);clear hb2 X0_1 L0_1 g1;go_wp2;go_ret;exact⟨vZ HX.out.symm,g2⟩
theorem Oe (K:Kn)(i:Nat)(h:i<K.yF.length):K.yF[i]=K.any (K.cl+2+i):=by simp [Kn.yF]
theorem V9 (K:Kn)(data:Bs)(i:Nat)(h:i<K.yF.length)(b:Bs):(K.yF.take (i+1)).foldl (better data) b=better data ((K.yF.take i).foldl (better data) b) (K.any (K.cl+2+i)):=by
 rw[List.take_succ_eq_append_getElem h,List.foldl_append,Oe K i h];rfl
theorem TF {data b x:Bs}(h1:b.length<x.length)(h2:data.take x.length=x):better data b x=x:=by
 unfold better;rw[if_pos ⟨h1,List.isPrefixOf_iff_prefix.2 (List.prefix_iff_eq_take.2 h2.symm)⟩]
theorem Tt {data b x:Bs}(h1:¬b.length<x.length):better data b x=b:=by
 unfold better;rw[if_neg (fun h=>h1 h.1)]
theorem Yk {data b x:Bs}(h2:¬data.take x.length=x):better data b x=b:=by
 unfold better;rw[if_neg (fun h=>h2 (List.prefix_iff_eq_take.1 (List.isPrefixOf_iff_prefix.1 h.2)).symm)]
theorem TC (data:Bs)(ws:List Bs)(b:Bs)(hb:b.length≤data.length):(ws.foldl (better data) b).length≤data.length:=by
 rcases Xp data ws b with h|⟨_,_,h⟩
 ·rw[h];exact hb
 ·exact(List.isPrefixOf_iff_prefix.1 h).length_le
set_option maxRecDepth 100000 in
theorem jI (K:Kn)(A:Option Addr)(cap:Nat)(d:Bs)(w:World)(hk:K.ok)(hs:Sl w A K.ps.length cap 2 (psV K.ps))(hd:d≠[])(hl:d.length≤100000):
 Calls Tryz.prog 291 #[knV K A cap,.string ⟨d.toArray⟩] w fun e w'=>e= .returned (.string ⟨(K.longest d).toArray⟩)∧Below w.heap.size w w':=by
 have hd1:1≤d.length:=(by cases d<;>simp at hd⊢);clear hd;have hbd:=hk.bd;have hgr:=K.uJ hk;have hp:=hk.lm;obtain⟨hp1,hp2,hp3,hp4⟩:=hp;have hpp:=yZ K.l hp1 hp2;obtain⟨hpp1,hpp2⟩:=hpp;have HC:=Go.Lib.hid (K.vP);have HCL:Hid (K.cl=pow2 K.l):=rfl;go_enter Tryz.func291,Tryz.ntmps291;go_wp2_with fail;refine(xI _ _ _ _ hp1 hp2).mono ?_;rintro e w1 ⟨rfl,hb1⟩;have hz1:=hb1.size;simp only[World.size_alloc] at hz1;have X0_1:=zJ (yl _ _ _) hb1 (by simp);have L0_1:w.heap.size<w1.heap.size:=oo;have g1:Below w.heap.size w w1:=((Below.refl _ _).alloc (Nat.le_refl _) _).trans (hb1.mono (by simp));clear hb1;go_wp2;go_loopw [5,6] (fun b x wr=>∃i:Nat,i≤K.yF.length∧b= .string ⟨((K.yF.take i).foldl (better d) (d.take 1)).toArray⟩∧x= .int .i64 (pow2 K.l+2+i)∧Below w.heap.size w wr∧w.heap.size<wr.heap.size∧∀i,wr.cell? ⟨w.heap.size,i,none⟩=(knC K A cap)[i]?) (fun _ x _=>K.yF.length+70000 - (intOf x).toNat)
 case atStart=>exact⟨0,by omega,by rw[ByteArray.extract_mk];simp,by go_num,g1,L0_1,X0_1⟩
 case round=>
  obtain⟨i,hi,rfl,rfl,hb,hz,hX⟩:=hrel;have hi2:i≤5000:=(by have:=HC.out;omega);go_wp2_with fail;refine(pz _ _ _ _ hk).mono ?_;rintro e w2 ⟨rfl,hb2⟩;have hy2:=hb2.size;have hX2:=zJ hX hb2 hz;have g2:=hb.trans (hb2.mono oo);clear hb2 hX hb;by_cases hlt:i<K.yF.length
  ·have hle:pow2 K.l+2+(i:Int)≤K.great:=by have:=HC.out;have:=HCL.out;omega
   have hfol:=K.jd i hlt;rw[HCL.out] at hfol;have hal:=K.rE hk hfol;have HB:=Go.Lib.hid (V9 K d i hlt (d.take 1));rw[HCL.out] at HB;have hbl:=TC d (K.yF.take i) (d.take 1) (by simp;omega);have c:=fun w hs=>qG K A cap (pow2 K.l+2+i) w hk hs hfol;generalize K.any (pow2 K.l+2+i)=x at*;generalize(K.yF.take i).foldl (better d) (d.take 1)=b at*;have C:=Go.Lib.hid c;clear c;go_wp2_with fail;refine(C.out _ (hs.below g2)).mono ?_;rintro e w3 ⟨rfl,hb3⟩;have hy3:=hb3.size;have hX3:=zJ hX2 hb3 oo;have g3:=g2.trans (hb3.mono oo);clear hb3 hX2 g2;obtain⟨hal1,hal2⟩:=hal;by_cases h1:b.length<x.length
   ·by_cases h2:x.length≤d.length
    ·by_cases h3:d.take x.length=x
     ·have HE:=Go.Lib.hid (TF h1 h3)
      have hd3:decide (d.take x.length=x)=true:=(by simpa using h3);clear h3;have h1':(b.length:Int)<x.length:=oo;have h2':(x.length:Int)≤d.length:=oo;go_wp2;go_roundw
      case rel=>exact⟨i+1,by omega,by rw[HB.out,HE.out],by go_num,g3,by omega,hX3⟩
      case measure=>simp [intOf];omega
     ·have HE:=Go.Lib.hid (Yk (b:=b) h3)
      have hd3:decide (d.take x.length=x)=false:=(by simpa using h3);clear h3;have h1':(b.length:Int)<x.length:=oo;have h2':(x.length:Int)≤d.length:=oo;go_wp2;go_roundw
      case rel=>exact⟨i+1,by omega,by rw[HB.out,HE.out],by go_num,g3,by omega,hX3⟩
      case measure=>simp [intOf];omega
    ·have HE:Hid (better d b x=b):=Yk (fun h=>by have:=congrArg List.length h;simp at this;omega)
     go_wp2;go_roundw
     case rel=>exact⟨i+1,by omega,by rw[HB.out,HE.out],by go_num,g3,by omega,hX3⟩
     case measure=>simp [intOf];omega
   ·have HE:Hid (better d b x=b):=Tt h1
    go_wp2;go_roundw
    case rel=>exact⟨i+1,by omega,by rw[HB.out,HE.out],by go_num,g3,by omega,hX3⟩
    case measure=>simp [intOf];omega
  ·have hgt:¬pow2 K.l+2+(i:Int)≤K.great:=by have:=HC.out;have:=HCL.out;omega
   have HT:Hid (K.yF.take i=K.yF):=List.take_of_length_le oo;go_wp2;go_ret;exact⟨vZ (by rw[HT.out];rfl),g2⟩
end Go.Proofs.YtfppmajoidkooaaGreatDoor
