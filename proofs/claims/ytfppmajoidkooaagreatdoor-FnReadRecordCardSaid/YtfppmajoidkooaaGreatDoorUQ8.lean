import Derived.Test.YtfppmajoidkooaaGreatDoorUGJ3
import Derived.Test.YtfppmajoidkooaaGreatDoorUGW
import Derived.Deep.Cut
import Derived.Test.YtfppmajoidkooaaGreatDoorUJ22
import Derived.Test.YtfppmajoidkooaaGreatDoorUGS3
import Derived.Test.YtfppmajoidkooaaGreatDoorUGS4
import Derived.Test.YtfppmajoidkooaaGreatDoorUGP2
set_option linter.unusedVariables false
set_option linter.unusedSimpArgs false
set_option maxHeartbeats 8000000
namespace Go.Proofs.YtfppmajoidkooaaGreatDoor
open Go.RowKit
def SV (o:Int)(l:Bs)(k:Nat):Bs:=(List.range k).map fun i=>UInt8.ofNat (numBits o (((uF l).drop (8*i)).take 8))
theorem PR (o:Int)(l:Bs)(k:Nat):SV o l (k+1)=SV o l k++[UInt8.ofNat (numBits o (((uF l).drop (8*k)).take 8))]:=by unfold SV;rw[List.range_succ,List.map_append];rfl
theorem Ph (o:Int)(l:Bs)(k:Nat)(h0:l.length≤8*k)(h1:8*k<l.length+8):SV o l k=uG o l:=by
 unfold SV uG;rw[uY];congr 2;omega
theorem sumTo_congr (o:Int)(x y:Bs)(w:Nat):∀k,(∀i,i<k→sG x i=sG y i)→sumTo o x w k=sumTo o y w k
 |0,_=>rfl
 |k+1,h=>by
  unfold sumTo;rw[sumTo_congr o x y w k (fun i hi=>h i (by omega)),h k (by omega)]
theorem Zr (o:Int)(x:Bs)(w m:Nat):∀k,m≤k→(∀i,m≤i→i<k→sG x i=0)→sumTo o x w k=sumTo o x w m
 |0,h,_=>by
  have:m=0:=oo;subst this;rfl
 |k+1,h,hz=>by
  by_cases hk:m≤k
  ·have ih:=Zr o x w m k hk (fun i h0 h1=>hz i h0 oo)
   have e:sumTo o x w (k+1)=sumTo o x w k+sG x k*2 ^ vF o k w:=rfl;rw[e,ih,hz k hk (by omega)];simp
  ·have:m=k+1:=oo
   rw[this]
theorem kQ (l:Bs)(f i:Nat):sG (l.drop f) i=sG l (f+i):=by unfold sG;rw[List.getElem?_drop]
theorem XC (l:Bs)(i:Nat)(h:l.length≤i):sG l i=0:=by unfold sG;rw[List.getElem?_eq_none h];rfl
theorem NK (l:Bs)(i:Nat):sG (uF l) i=sG l i:=by
 unfold uF;by_cases h:i<l.length
 ·unfold sG;rw[List.getElem?_append_left h]
 ·rw[XC l i (by omega)]
  unfold sG;rw[List.getElem?_append_right (by omega),List.getElem?_replicate];split<;>rfl
theorem NJ (o:Int)(ho:o=0∨o=1)(l:Bs)(f m:Nat)(hf:f % 8=0)(h0:f<l.length)(hm:m=min 8 (l.length - f)):numBits o (((uF l).drop f).take 8)=sumTo o (l.drop f) 8 m:=by
 have hlen:(((uF l).drop f).take 8).length=8:=(by rw[List.length_take,List.length_drop,uY];omega);rw[←Y9 o ho,hlen];rw[sumTo_congr o _ (l.drop f) 8 8 (fun i hi=>by
  have e:sG (((uF l).drop f).take 8) i=sG ((uF l).drop f) i:=(by unfold sG;rw[List.getElem?_take_of_lt hi]);rw[e,kQ,NK,←kQ])]
 refine Zr o _ 8 m 8 oo (fun i hi h8=> ?_);rw[kQ];exact XC l _ oo
theorem LH (o:Int)(l:Bs)(hb:yJ l=true)(f:Nat):numBits o (((uF l).drop f).take 8)≤255:=by
 have hp:yJ (uF l)=true:=by
  unfold uF yJ at*;rw[List.all_append,hb,List.all_eq_true.2 (fun x hx=>by rw[List.eq_of_mem_replicate hx];rfl)];rfl
 have h:=qW o _ (sQ (uF l) f 8 hp);have h2:2 ^ (((uF l).drop f).take 8).length≤2 ^ 8:=Nat.pow_le_pow_right (by omega) (by rw[List.length_take];omega);omega
theorem KH (o:Int)(l:Bs)(hb:yJ l=true)(m:Nat)(hm:m≤8):sumTo o l 8 m≤m*128:=by
 induction m with
 |zero=>simp [sumTo]
 |succ m ih=>
  have h1:=ih oo;have hp:2 ^ vF o m 8≤2 ^ 7:=Nat.pow_le_pow_right oo (by have:=fE o m 8 oo;omega);have h2:sG l m*2 ^ vF o m 8≤1*2 ^ 7:=Nat.mul_le_mul (by rcases iP l hb m with h|h<;>omega) hp;unfold sumTo;omega
end Go.Proofs.YtfppmajoidkooaaGreatDoor
namespace Go.Proofs.YtfppmajoidkooaaGreatDoor
open Go.RowKit
set_option maxRecDepth 100000
attribute [local go_sem high] zy zA zB zO zK zY zx zk zl zq zi zo yP zD yt zF
theorem YD (l:Bs)(w:World)(hl:l.length≤32000)(hb:yJ l=true):
 Calls Tryz.prog 288 #[sv l] w fun e w'=>e= .returned (.bool true)∧w=w':=by
 have HB:Hid (∀k:Nat,k<l.length→byteAt l (k:Int)=48∨byteAt l (k:Int)=49):=fun k h=>by
  have h1:=iP l hb k;rw[zX l k h];rw[List.getElem?_eq_getElem h] at h1;simp only[Option.getD_some] at h1;rcases h1 with⟨h1,_⟩|⟨h1,_⟩
  ·left;rw[h1];rfl
  ·right;rw[h1];rfl
 have hl2:(l.length:Int)≤32000:=oo;clear hb;go_enter Tryz.func288,Tryz.ntmps288;go_wp2;go_loop [9] (fun c=>∃k:Nat,k≤l.length∧c= .int .i64 (k:Int)) (fun c=>l.length - (intOf c).toNat)
 case atStart=>exact⟨0,oo,rfl⟩
 case round=>
  obtain⟨k,hk,rfl⟩:=hrel;by_cases hlt:k<l.length
  ·have hki:(k:Int)<l.length:=oo
   rcases HB.out k hlt with hb|hb
   all_goals
    go_wp2;go_round
    case rel=>exact⟨k+1,oo,by go_num⟩
    case measure=>simp [intOf];omega
  ·have hki:¬(k:Int)<l.length:=oo
   go_wp2;go_ret;exact⟨rfl,rfl⟩
theorem YP (o:Int)(l:Bs)(w:World)(ho:o=0∨o=1)(hl:l.length≤32000)(hb:yJ l=true):
 Calls Tryz.prog 289 #[.int .i64 o,sv l] w fun e w'=>e= .returned (sv (uG o l))∧Below w.heap.size w w':=by
 obtain⟨i,hi,hz0,hz1,hz2⟩:=info_parts wI;have HBI:Hid (∀k:Nat,k<l.length→(byteAt l (k:Int)=48∧sG l k=0)∨(byteAt l (k:Int)=49∧sG l k=1)):=fun k h=>by
  have h1:=iP l hb k;rw[zX l k h];rw[List.getElem?_eq_getElem h] at h1;simp only[Option.getD_some] at h1;rcases h1 with⟨h1,h2⟩|⟨h1,h2⟩
  ·left;rw[h1];exact⟨rfl,h2⟩
  ·right;rw[h1];exact⟨rfl,h2⟩
 have HSM:Hid (∀f m,f % 8=0→f<l.length→m=min 8 (l.length - f)→numBits o (((uF l).drop f).take 8)=sumTo o (l.drop f) 8 m):=fun f m h0 h1 h2=>NJ o ho l f m h0 h1 h2;have HBD:Hid (∀f,numBits o (((uF l).drop f).take 8)≤255):=fun f=>LH o l hb f;have HS2:Hid (∀f m,m≤8→sumTo o (l.drop f) 8 m≤m*128):=fun f m h=>KH o _ (by
  unfold yJ at*;rw[List.all_eq_true] at*;exact fun x hx=>hb x (List.mem_of_mem_drop hx)) m h
 have cP:Hid (∀(i:Nat) w,i<8→Calls Tryz.prog 280 #[.int .i64 o,.int .i64 (i:Int),.int .i64 8] w fun e w'=>e= .returned (.int .i64 ((2 ^ vF o i 8:Nat):Int))∧w=w'):=fun i w h=>dJ o i 8 w ho h oo;have o0:w.ownsRow w.heap.size 5 1 (.slice none ([]:Bs).length 0) ([]:Bs).length (([]:Bs).map u8v):=⟨by simp,.inl ⟨rfl,rfl⟩⟩;clear hb;go_enter Tryz.func289,Tryz.ntmps289;go_wp2;go_loopw [5,6] (fun a v wr=>∃(k:Nat) (A:Option Addr) (cap:Nat) (P:Bs),8*k<l.length+8∧P.length=k∧a= .slice A P.length cap∧v= .int .i64 ((8*k:Nat):Int)∧Hid (P=SV o l k)∧wr.ownsRow w.heap.size 5 1 (.slice A P.length cap) P.length (P.map u8v)∧Below w.heap.size w wr) (fun _ v _=>l.length+8 - (intOf v).toNat)
 case atStart=>exact⟨0,none,0,[],oo,rfl,rfl,rfl,rfl,o0,Below.refl _ _⟩
 case round=>
  obtain⟨k,A,cap,P,hk,hPk,rfl,rfl,HP,hown,hb⟩:=hrel;have hz:=hb.size;obtain⟨f,hf⟩:∃f,8*k=f:=⟨_,rfl⟩;rw[hf];have HF:=Go.Lib.hid hf;have HPK:=Go.Lib.hid hPk;have hPl:P.length≤5000:=oo;by_cases hlt:f<l.length
  ·have hfi:(f:Int)<l.length:=oo
   have hfl:(l.length:Int)≤32000:=oo;obtain⟨m,hm⟩:∃m,m=min 8 (l.length - f):=⟨_,rfl⟩;have hmi:min (8:Int) ((l.length:Int) - (f:Int))=(m:Int):=oo;have hm8:m≤8:=oo;have hml:f+m≤l.length:=oo;have hSM:=HSM.out f m oo hlt hm;have HSU:=Go.Lib.hid hSM;have hBD:=HBD.out f;rw[hSM] at hBD;have HBD2:=Go.Lib.hid hBD;have H2:Hid (∀j,j≤m→sumTo o (l.drop f) 8 j≤1024):=fun j h=>(by have:=HS2.out f j oo;omega);clear hm hf hPk hSM hBD;go_wp2;go_loop [7,20] (fun a c=>∃j:Nat,j≤m∧a= .int .i64 ((sumTo o (l.drop f) 8 j:Nat):Int)∧c= .int .i64 (j:Int)) (fun _ c=>m - (intOf c).toNat)
   case atStart=>exact⟨0,oo,rfl,rfl⟩
   case round=>
    obtain⟨j,hj,rfl,rfl⟩:=hrel;have hbd:=H2.out j hj;by_cases hjl:j<m
    ·have hji:(j:Int)<m:=oo
     have hpl:=fE o j 8 oo;have hp16:2 ^ vF o j 8≤2 ^ 16:=Nat.pow_le_pow_right oo oo;have hsu:Hid (sumTo o (l.drop f) 8 (j+1)=sumTo o (l.drop f) 8 j+sG l (f+j)*2 ^ vF o j 8):=by
      show _=_;rw[←kQ];rfl
     have cPk:=fun w=>cP.out j w oo;have hfj:(f:Int)+(j:Int)<l.length:=oo;have hb2:=HBI.out (f+j) oo;have e:((f+j:Nat):Int)=(f:Int)+(j:Int):=oo;rw[e] at hb2;generalize sumTo o (l.drop f) 8 j=s at*;generalize 2 ^ vF o j 8=p at*;clear e hmi;rcases hb2 with⟨h1,h2⟩|⟨h1,h2⟩
     ·have H3:=Go.Lib.hid h2
      clear h2;go_wp2;go_round
      case rel=>exact⟨j+1,by omega,by rw[hsu.out,H3.out];simp,by go_num⟩
      case measure=>simp [intOf];omega
     ·have H3:=Go.Lib.hid h2
      clear h2;go_wp2_with(go_at_call 280;refine(cPk _).mono ?_;rintro e w' ⟨rfl,rfl⟩);go_round
      case rel=>exact⟨j+1,by omega,by rw[hsu.out,H3.out];go_num,by go_num⟩
      case measure=>simp [intOf];omega
    ·have hji:¬(j:Int)<m:=oo
     have hje:j=m:=oo;subst hje;have hS:Hid (SV o l (k+1)=P++[UInt8.ofNat (sumTo o (l.drop f) 8 j)]):=by
      show _=_;rw[PR,HF.out,HSU.out,HP.out]
     have hSb:=HBD2.out;clear HSU HBD2 H2 hbd;generalize sumTo o (l.drop f) 8 j=s at*;have hwq:IntKind.u8.wrap (s:Int)=(s:Int):=IntWalk.u8_in _ ⟨by omega,oo⟩;have hm1:P.length+1≤maxLen:=(by unfold maxLen;omega);have hm2:(P.length+1)*1≤140737488355328:=oo;go_wp2_with(at_builtin;go_must(refine zN _ rfl _ _ 22 rfl (w.heap.size) 5 i _ 1 1 Tryz.underlying22 hi hz0 hz1 hz2 rfl (by omega) _ _ _ rfl (hown.alloc _) _ 1 1 [.int .u8 (s:Int)] rfl (Sl.newAt wr #[.int .u8 (s:Int)] _ 1 1 (by first|rfl|simp) (by simp) (by omega)) (by simp [Value.oneCell']) hm1 hm2 ?_ ?_));try(case refine_1=>first|omega|(simp<;>omega;done))
     intro A5 c5 w5 o5 hg5 _;have hVY:(P++[UInt8.ofNat s]).length=P.length+1:=(by simp);have hsn:((UInt8.ofNat s).toNat:Int)=(s:Int):=(by rw[UInt8.toNat_ofNat'];omega);have o5':w5.ownsRow w.heap.size 5 1 (.slice A5 (P++[UInt8.ofNat s]).length c5) (P++[UInt8.ofNat s]).length ((P++[UInt8.ofNat s]).map u8v):=by
      rw[hVY,List.map_append];have:[UInt8.ofNat s].map u8v=[.int .u8 (s:Int)]:=(by rw[List.map_cons,List.map_nil];unfold u8v;rw[hsn]);rw[this];exact o5
     rw[←hVY];have HV2:Hid ((P++[UInt8.ofNat s]).length=k+1):=(by show _=_;rw[hVY,HPK.out]);have hb5:Below w.heap.size w w5:=(hb.alloc hz _).grown hg5 (by simp;omega) (fun q hq=>(hown.lt q hq).1);generalize P++[UInt8.ofNat s]=P2 at*;clear hwq hm1 hm2 o5 hg5 hVY hsn hown;go_wp2;go_roundw
     case rel=>exact⟨k+1,A5,c5,P2,by have:=HF.out;omega,HV2.out,rfl,by have:=HF.out;go_num,hS.out.symm,o5',hb5⟩
     case measure=>have:=HF.out;simp [intOf];omega
  ·have hfi:¬(f:Int)<l.length:=oo
   have hE:P=uG o l:=(by rw[HP.out];exact Ph o l k (by omega) (by omega));have HE:=Go.Lib.hid hE;clear hE hf hPk;have hcv:=yH hown;go_wp2;go_ret;exact⟨by rw[←HE.out];rfl,hb⟩
theorem aV (o:Int)(w:World)(ho:o=0∨o=1):Calls Tryz.prog 151 #[.int .i64 o] w fun e w'=>e= .returned (.bool true)∧w=w':=by
 rcases ho with rfl|rfl
 all_goals
  go_enter Tryz.func151,Tryz.ntmps151;go_wp2;go_ret;exact⟨rfl,rfl⟩
theorem Wi (o:Int)(l:Bs)(w:World)(ho:o=0∨o=1)(hl:l.length≤32000)(hb:yJ l=true):
 Calls Tryz.prog 267 #[.int .i64 o,sv l] w fun e w'=>e= .returned (.tuple #[sv (uG o l),.bool true])∧Below w.heap.size w w':=by
 have c1:=fun w=>aV o w ho;have c2:=fun w=>YD l w hl hb;have c3:=fun w=>YP o l w ho hl hb;generalize uG o l=P at*;clear hb;go_enter Tryz.func267,Tryz.ntmps267;go_wp2_with fail;refine(c1 _).mono ?_;rintro e w' ⟨rfl,rfl⟩;go_wp2_with fail;refine(c2 _).mono ?_;rintro e w' ⟨rfl,rfl⟩;go_wp2_with fail;refine(c3 _).mono ?_;rintro e w3 ⟨rfl,hb3⟩;go_wp2;go_ret2;exact⟨rfl,hb3⟩
theorem YG (K:Kn)(A:Option Addr)(cap:Nat)(C:Option Addr)(cc:Nat)(cs:List Int)(w:World)(hk:K.ok)(hs:Sl w A K.ps.length cap 2 (psV K.ps))(hc:Sl w C cs.length cc 1 (cs.map iv))(hl:cs.length≤3100)(hg:wP K cs 0):
 Calls Tryz.prog 244 #[knV K A cap,.slice C cs.length cc] w fun e w'=>e= .returned (.tuple #[sv (uG K.o (K.bits cs)),.bool true])∧Below w.heap.size w w':=by
 have hgR:=Vb cs K 0 oo hg;have hc0:0<cs.length:=by
  cases cs with
  |nil=>exact absurd hg (by simp [wP])
  |cons c r=>simp
 have hcc:=hc.1;have hcc2:=hc.2.1;have ho:K.o=0∨K.o=1:=hk.st.1;have HCS:Hid (∀wr,Below w.heap.size w wr→Sl wr C cs.length cc 1 (cs.map iv)):=fun wr h=>hc.below h;have HF:=Go.Lib.hid (jW cs K 0 hk hgR);have HL:=Go.Lib.hid (Qg K cs hk hgR);have HWL:=Go.Lib.hid (Qw K cs);have HSU:=Go.Lib.hid (UG K cs);have HEN:=Go.Lib.hid (Qk K cs);have cW:Hid (∀wr,Below w.heap.size w wr→Calls Tryz.prog 266 #[knV K A cap,.slice C cs.length cc] wr (Qn K cs wr)):=fun wr h=>Y1 K A cap C cc cs wr hk (hs.below h) (hc.below h) hl hg;have hbl:=lD hk hgR;have cP:Hid (∀wr,Calls Tryz.prog 267 #[.int .i64 K.o,sv (K.bits cs)] wr fun e w'=>e= .returned (.tuple #[sv (uG K.o (K.bits cs)),.bool true])∧Below wr.heap.size wr w'):=fun wr=>Wi K.o _ wr ho oo (iF _ _);unfold Qn at cW;clear hs hc hg hgR hk hbl;generalize uG K.o (K.bits cs)=R at*;go_enter Tryz.func244,Tryz.ntmps244;have hK0:Bk (w.alloc (.cells (knC K A cap) 130)) w.heap.size 130 (knC K A cap):=tBk;have g0:Below w.heap.size w (w.alloc (.cells (knC K A cap) 130)):=zu;go_upto_region 1 with(fail)
 generalize w.alloc (.cells (knC K A cap) 130)=w0 at*;have hX0:=hK0.cell;have hz0':=hK0.lt;go_wp2_with fail;refine(cW.out _ g0).mono ?_;rintro e w1 ⟨Aw,cw,d,rfl,o1,b1⟩;have z1:=b1.size;have K1:=hK0.below b1 oo;have o2:=zC (B':=w.heap.size+1) o1 oo;have g1:=g0.trans (b1.mono oo);have q1:w1.ownsRow (w.heap.size+1) 5 1 (.slice none ([]:Bs).length 0) ([]:Bs).length (([]:Bs).map u8v):=⟨by simp,.inl ⟨rfl,rfl⟩⟩;obtain⟨gw,hgw',_,_⟩:=WU o1 hc0;have hAw:Aw=some ⟨gw,0,none⟩:=hgw';subst hAw;have hcw:=(Sl.own o1).1;have hcw2:=(Sl.own o1).2.1;clear cW b1 hK0 g0 hX0 o1;generalize(K.walk cs).ws=ws at*;go_wp2;go_loopw [9,23] (fun a i wr=>∃(Ao:Option Addr) (co k:Nat) (P:Bs),a= .slice Ao P.length co∧i= .int .i64 (k:Int)∧k≤cs.length∧Hid (P=pkB K cs k)∧P.length≤31000∧wr.ownsRow (w.heap.size+1) 5 1 (.slice Ao P.length co) P.length (P.map u8v)∧wr.ownsRow (w.heap.size+1) 3 1 (.slice (some ⟨gw,0,none⟩) cs.length cw) cs.length (ws.map ivn)∧Bk wr w.heap.size 130 (knC K A cap)∧Below w.heap.size w wr) (fun _ i _=>cs.length - (intOf i).toNat)
 case atStart=>exact⟨none,0,0,[],rfl,rfl,by omega,rfl,by simp,q1,o2,K1,g1⟩
 case round=>
  obtain⟨Ao,co,k,P,rfl,rfl,hk,HP,hPl,q,o,hK,g⟩:=hrel;have hz:=g.size;clear K1 q1 o2 g1;by_cases hlt:k<cs.length
  ·have hki:(k:Int)<cs.length:=oo
   have hlw:k<ws.length:=(by rw[HWL.out];exact hlt);have hlt1:=hK.lt;obtain⟨gc,oc,u,rfl,hgc,hu,hc⟩:=Sl.at1 (HCS.out w (Below.refl _ _)) hlt;rw[List.getElem?_map,List.getElem?_eq_getElem hlt] at hu;simp at hu;subst hu;have hwl:=(o.cellAt k (by omega)).trans (show(ws.map ivn)[k]? =some (ivn ws[k]) by rw[List.getElem?_map,List.getElem?_eq_getElem hlw];rfl);have hfa:=HF.out (cs[k],ws[k]) (by
    have:k<(cs.zip ws).length:=(by rw[List.length_zip];omega);have e:(cs.zip ws)[k]=(cs[k],ws[k]):=(by simp);rw[←e];exact List.getElem_mem this)
   simp only at hfa;have hsu:=HSU.out k hlt hlw;have hln2:=HL.out (k+1);obtain⟨c,hcc⟩:=Int.eq_ofNat_of_zero_le hfa.1;rw[hcc] at hc hfa hsu;rw[Int.toNat_natCast,←HP.out] at hsu;have HSX:=Go.Lib.hid hsu;rw[hsu] at hln2;generalize ws[k]=wd at*;have cC:Hid (∀w8:World,w8.ownsRow (w.heap.size+1) 5 1 (.slice Ao P.length co) P.length (P.map u8v)→w.heap.size+1≤w8.heap.size→Calls Tryz.prog 261 #[.slice Ao P.length co,.int .i64 K.o,.int .i64 (c:Int),.int .i64 (wd:Int)] w8 (Nj (w.heap.size+1) (.slice Ao P.length co) (P++zU K.o c wd) w8)):=fun w8 hr hB=>kL (w.heap.size+1) Ao co P K.o c wd w8 ho oo oo hr oo hB;unfold Nj at cC;have hP2l:(P++zU K.o c wd).length≤31000:=oo;clear hcc hsu hln2;generalize P++zU K.o c wd=P2 at*;have hX6:=hK.cell;have hcl6:=(g.cell (p:=⟨gc,oc+k,none⟩) hgc).trans hc;have hlw2:gw<wr.heap.size:=(o.lt _ rfl).2;have hgw2:w.heap.size+1≤gw:=(o.lt _ rfl).1;go_wp2_with fail;refine wp_region_held_drew (S:=(fun w'=>w'.cell? ⟨w.heap.size,0,none⟩=some (.int .i64 K.o)∧w'.cell? ⟨gw,k,none⟩=some (.int .i64 (wd:Int)))) kr ?_ (fun hSS=> ?_);focus((refine⟨?_,?_⟩;all_goals first|with_reducible exact hwl8|(simp [hX8];done)|(simp only[World.cell?_drew];exact hwl)|(simp [hX6];done)))
   refine tk 0 ?_;try simp only[Act.put,u2,u3,u4]
   refine tk 1 ?_;try simp only[Act.put,u2,u3,u4]
   refine tk 2 ?_;try simp only[Act.put,u2,u3,u4]
   refine tk 3 ?_;try simp only[Act.put,u2,u3,u4]
   refine tk 4 ?_;try simp only[Act.put,u2,u3,u4]
   refine tk 5 ?_;try simp only[Act.put,u2,u3,u4]
   refine tk 6 ?_;try simp only[Act.put,u2,u3,u4]
   refine tk 7 ?_;try simp only[Act.put,u2,u3,u4]
   refine tk 8 ?_;try simp only[Act.put,u2,u3,u4]
   refine rd1 9 fun KK hKK=> ?_;go_simp
   (go_at_call 261;refine(cC.out _ (wC q) (by first|omega|(simp;omega))).mono ?_;rintro e w8 ⟨A8,c8,rfl,q8,kp8,hq8⟩;have kp8:=Kept.Tn kp8;have hz8:=kp8.size;have o8:=kp8.own o (rP o q (by decide));have hK8:=hK.below (kp8.below oo) oo;have g8:=g.trans ((kp8.below oo).mono oo);have hX8:=hK8.cell;have hwl8:=(o8.cellAt k oo).trans ((o.cellAt k oo).symm.trans hwl))
   refine hKK.out _ _ (by(refine⟨?_,?_⟩;all_goals first|with_reducible exact hwl8|(simp [hX8];done)|(simp only[World.cell?_drew];exact hwl)|(simp [hX6];done))) fun hSS=> ?_;try simp only[Act.put,u2,u3,u4]
   refine tk 10 ?_;try simp only[Act.put,u2,u3,u4]
   refine wpAnyH_done kr ?_ _;simp only[List.getElem_toArray,List.getElem_cons_succ,List.getElem_cons_zero,Act.put,List.setIfInBounds_toArray,List.set_cons_zero,List.set_cons_succ];clear hKK cC;go_wp2;go_roundw
   case rel=>exact⟨A8,c8,k+1,P2,rfl,by go_num,oo,HSX.out.symm,hP2l,q8,o8,hK8,g8⟩
   case measure=>simp [intOf];omega
  ·have hki:¬(k:Int)<cs.length:=oo
   have hkk:k=cs.length:=oo;have hPe:P=K.bits cs:=(by rw[HP.out,hkk,HEN.out]);rw[←hPe] at cP;have hcv:=yH q;have hX:=hK.cell;clear hPe hkk;go_wp2_with fail;refine(cP.out _).mono ?_;rintro e w9 ⟨rfl,b9⟩;have g9:=g.trans (b9.mono oo);go_wp2;go_ret2;exact⟨rfl,g9⟩
theorem Y2 (K:Kn)(A:Option Addr)(cap:Nat)(d:Bs)(w:World)(hk:K.ok)(hs:Sl w A K.ps.length cap 2 (psV K.ps))(hdl:d.length≤9223372036854775807):
 Calls Tryz.prog 215 #[knV K A cap,sv d] w fun e w'=>e=zZ (vG K d)∧Below w.heap.size w w':=by
 by_cases hf:fits K.o K.l K.m d
 ·have hE:zZ (vG K d)= .returned (.tuple #[sv (uG K.o (K.bits (K.yc d))),.bool true]):=by unfold vG;rw[if_pos hf];rfl
  rw[hE];have cG:Hid (∀wr,Below w.heap.size w wr→Calls Tryz.prog 243 #[knV K A cap,sv d] wr (Qv (K.yc d) wr)):=fun wr h=>ak K A cap d wr hk (hs.below h) hf;have cP:Hid (∀wr C cc,Below w.heap.size w wr→Sl wr C (K.yc d).length cc 1 ((K.yc d).map iv)→Calls Tryz.prog 244 #[knV K A cap,.slice C (K.yc d).length cc] wr fun e w'=>e= .returned (.tuple #[sv (uG K.o (K.bits (K.yc d))),.bool true])∧Below wr.heap.size wr w'):=fun wr C cc h hc=>YG K A cap C cc (K.yc d) wr hk (hs.below h) hc (by have:=ZQ K d hk.base0 hf.2.1;omega) (Wq hk hf.2.2 hf.2.1);unfold Qv at cG;clear hs hf hE;generalize uG K.o (K.bits (K.yc d))=R at*;generalize(K.yc d).map iv=gv at*;generalize(K.yc d).length=gl at*;go_enter Tryz.func215,Tryz.ntmps215;have hK0:Bk (w.alloc (.cells (knC K A cap) 130)) w.heap.size 130 (knC K A cap):=tBk;have g0:Below w.heap.size w (w.alloc (.cells (knC K A cap) 130)):=zu;go_upto_region 1 with(fail)
  generalize w.alloc (.cells (knC K A cap) 130)=w0 at*;have hX0:=hK0.cell;have hz0':=hK0.lt;go_wp2_with fail;refine(cG.out _ g0).mono ?_;rintro e w1 ⟨C,rfl,s1,b1⟩;have z1:=b1.size;have K1:=hK0.below b1 oo;have g1:=g0.trans (b1.mono oo);have hX1:=K1.cell;clear hX0 hK0 g0 b1 cG;go_wp2_with fail;refine(cP.out _ _ _ g1 s1).mono ?_;rintro e w2 ⟨rfl,b2⟩;have g2:=g1.trans (b2.mono oo);go_wp2;go_ret2;exact⟨rfl,g2⟩
 ·have hE:zZ (vG K d)= .returned (.tuple #[sv [],.bool false]):=by unfold vG;rw[if_neg hf];rfl
  rw[hE];have cG:Hid (∀wr,Below w.heap.size w wr→Calls Tryz.prog 243 #[knV K A cap,sv d] wr fun e w'=>e= .returned (.tuple #[.slice none 0 0,.bool false])∧Below wr.heap.size wr w'):=fun wr h=>Zz K A cap d wr hk (hs.below h) hf hdl;clear hs hf hE;go_enter Tryz.func215,Tryz.ntmps215;have hK0:Bk (w.alloc (.cells (knC K A cap) 130)) w.heap.size 130 (knC K A cap):=tBk;have g0:Below w.heap.size w (w.alloc (.cells (knC K A cap) 130)):=zu;go_upto_region 1 with(fail)
  generalize w.alloc (.cells (knC K A cap) 130)=w0 at*;have hX0:=hK0.cell;have hz0':=hK0.lt;go_wp2_with fail;refine(cG.out _ g0).mono ?_;rintro e w1 ⟨rfl,b1⟩;have g1:=g0.trans (b1.mono oo);go_wp2;go_ret2;exact⟨rfl,g1⟩
theorem oL (K:Kn)(A:Option Addr)(cap:Nat)(d:Bs)(w:World)(hk:K.ok)(hs:Sl w A K.ps.length cap 2 (psV K.ps))(hdl:d.length≤1000000):
 Calls Tryz.prog 182 #[knV K A cap,sv d] w fun e w'=>e= .returned (bkV (xJ K 0 d))∧Below w.heap.size w w':=by
 have cC:Hid (∀wr,Below w.heap.size w wr→Calls Tryz.prog 215 #[knV K A cap,sv d] wr fun e w'=>e=zZ (vG K d)∧Below wr.heap.size wr w'):=fun wr h=>Y2 K A cap d wr hk (hs.below h) oo;unfold xJ;clear hs hk;generalize vG K d=O at*;go_enter Tryz.func182,Tryz.ntmps182;go_wp2_with fail;have hK0:Bk ((w.alloc (.cells (knC K A cap) 130)).alloc (.cells xB 160)) w.heap.size 130 (knC K A cap):=tBk;have hI:Bk ((w.alloc (.cells (knC K A cap) 130)).alloc (.cells xB 160)) (w.heap.size+1) 160 xB:=tBk;have g0:Below w.heap.size w ((w.alloc (.cells (knC K A cap) 130)).alloc (.cells xB 160)):=zu;refine(cC.out _ g0).mono ?_;generalize(w.alloc (.cells (knC K A cap) 130)).alloc (.cells xB 160)=w0 at*;rintro e w2 ⟨rfl,hb2⟩;have z0:=hI.lt;have hI2:=hI.below hb2 oo;have g2:=g0.trans (hb2.mono oo);have hX:=hI2.cell;have hF:=hI2.free;clear cC hb2 hI hK0 g0
 cases O with
 |none=>
  unfold zZ;go_wp2;have Q:=((((hI2.set 0 (.int .i64 0)).set 1 (.bool true)).set 2 (.int .i64 (d.length:Int))).set 3 (.string ⟨d.toArray⟩)).cell;exact bodyPost_ret (v:=bkV ⟨0,true,d.length,d⟩) (by simp [results,Tryz.results182,go_sem,Q]) rfl ⟨rfl,zu⟩
 |some s=>
  unfold zZ;by_cases hc:s.length<d.length
  ·have hc':(s.length:Int)<d.length:=oo
   simp only[if_pos hc];go_wp2;have Q:=((((hI2.set 0 (.int .i64 0)).set 1 (.bool false)).set 2 (.int .i64 (d.length:Int))).set 3 (.string ⟨s.toArray⟩)).cell;exact bodyPost_ret (v:=bkV ⟨0,false,d.length,s⟩) (by simp [results,Tryz.results182,go_sem,Q]) rfl ⟨rfl,zu⟩
  ·have hc':¬(s.length:Int)<d.length:=oo
   simp only[if_neg hc];go_wp2;have Q:=((((hI2.set 0 (.int .i64 0)).set 1 (.bool true)).set 2 (.int .i64 (d.length:Int))).set 3 (.string ⟨d.toArray⟩)).cell;exact bodyPost_ret (v:=bkV ⟨0,true,d.length,d⟩) (by simp [results,Tryz.results182,go_sem,Q]) rfl ⟨rfl,zu⟩
def BkR (bs:List Blk)(w:World)(e:Ending)(w':World):Prop:=∃A cap,e= .returned (.slice A bs.length cap)∧w'.ownsRow w.heap.size 160 4 (.slice A bs.length cap) bs.length (zS bs)∧Below w.heap.size w w'
theorem lQ (K:Kn)(A:Option Addr)(cap:Nat)(d:Bs)(size:Nat)(w:World)(hk:K.ok)(hs:Sl w A K.ps.length cap 2 (psV K.ps))(hs1:1≤size)(hs2:size≤64)(hdl:d.length≤2000):
 Calls Tryz.prog 178 #[knV K A cap,sv d,.int .i64 (size:Int)] w (BkR (mks K size d.length d) w):=by
 obtain⟨i,hi,hz0,hz1,hz2⟩:=info_parts xW;have cM:Hid (∀(x:Bs) wr,Below w.heap.size w wr→x.length≤2000→Calls Tryz.prog 182 #[knV K A cap,sv x] wr fun e w'=>e= .returned (bkV (xJ K 0 x))∧Below wr.heap.size wr w'):=fun x wr h hx=>oL K A cap x wr hk (hs.below h) oo;have HG0:Hid (mks K size d.length d=[]++mks K size d.length (d.drop 0)):=rfl;generalize mks K size d.length d=ALL at*;unfold BkR;clear hs hk;have o0:w.ownsRow (w.heap.size+1) 160 4 (.slice none ([]:List Blk).length 0) ([]:List Blk).length (zS []):=⟨by simp [zS],.inl ⟨rfl,rfl⟩⟩;go_enter Tryz.func178,Tryz.ntmps178;have hK0:Bk (w.alloc (.cells (knC K A cap) 130)) w.heap.size 130 (knC K A cap):=tBk;have g0:Below w.heap.size w (w.alloc (.cells (knC K A cap) 130)):=zu;have o1:(w.alloc (.cells (knC K A cap) 130)).ownsRow (w.heap.size+1) 160 4 (.slice none ([]:List Blk).length 0) ([]:List Blk).length (zS []):=o0.alloc _;go_upto_region 1 with(fail)
 generalize w.alloc (.cells (knC K A cap) 130)=w0 at*;clear o0;go_wp2;go_loopw [7,8] (fun a v wr=>∃(f j:Nat) (P:List Blk) (Ao:Option Addr) (co:Nat),a= .slice Ao P.length co∧v= .int .i64 (f:Int)∧f≤d.length+64∧P.length≤f∧Hid (ALL=P++mks K size j (d.drop f))∧d.length≤f+j∧wr.ownsRow (w.heap.size+1) 160 4 (.slice Ao P.length co) P.length (zS P)∧Bk wr w.heap.size 130 (knC K A cap)∧Below w.heap.size w wr) (fun _ v _=>d.length+64 - (intOf v).toNat)
 case atStart=>exact⟨0,d.length,[],none,0,rfl,rfl,by omega,by simp,HG0,by omega,o1,hK0,g0⟩
 case round=>
  obtain⟨f,j,P,Ao,co,rfl,rfl,hf,hPf,HG,hj,o,hK,g⟩:=hrel;clear hK0 g0 o1 HG0;have hz:=g.size;have hkl:=hK.lt;by_cases hlt:f<d.length
  ·have hfi:(f:Int)<d.length:=oo
   obtain⟨j',rfl⟩:∃j',j=j'+1:=⟨j - 1,oo⟩;have hne:d.drop f≠[]:=(by intro h;have:=congrArg List.length h;simp at this;omega);obtain⟨e,he⟩:∃e:Nat,e=min (f+size) d.length:=⟨_,rfl⟩;have hmi:min ((f:Int)+(size:Int)) (d.length:Int)=(e:Int):=oo;have hef:f≤e:=oo;have hel:e≤d.length:=oo;have htk:(d.drop f).take (e - f)=(d.drop f).take size:=by
    by_cases h:f+size≤d.length
    ·rw[show e - f=size by omega]
    ·rw[List.take_of_length_le (by simp;omega),List.take_of_length_le (by simp;omega)]
   have HG2:Hid (ALL=(P++[xJ K 0 ((d.drop f).take (e - f))])++mks K size j' (d.drop (f+size))):=by
    show _=_;rw[HG.out,SN _ _ _ hne,List.drop_drop,htk];simp
   have cMx:=fun wr h=>cM.out ((d.drop f).take (e - f)) wr h (by simp;omega);obtain⟨b,hb⟩:∃b,xJ K 0 ((d.drop f).take (e - f))=b:=⟨_,rfl⟩;rw[hb] at HG2 cMx;have hw1:IntKind.i64.wrap ((f:Int)+(size:Int))=(f:Int)+(size:Int):=IntWalk.i64_in _ oo;have hm1:P.length+1≤maxLen:=(by unfold maxLen;omega);have hm2:(P.length+1)*40≤140737488355328:=oo;clear hb htk HG he hne;obtain⟨n2,r,n4,D⟩:=b;have hX6:=hK.cell;go_wp2_with fail;refine wp_region_held_drew (S:=(fun w'=>w'.cell? ⟨w.heap.size,0,none⟩=some (.int .i64 K.o)∧w'.cell? ⟨w.heap.size,1,none⟩=some (.int .i64 K.l)∧w'.cell? ⟨w.heap.size,2,none⟩=some (.int .i64 K.m)∧w'.cell? ⟨w.heap.size,3,none⟩=some (.slice A K.ps.length cap)∧w'.cell? ⟨w.heap.size,4,none⟩=some (.int .i64 K.base)∧w'.cell? ⟨w.heap.size,5,none⟩=some (.int .i64 K.last))) kr ?_ (fun hSS=> ?_);focus((refine⟨?_,?_,?_,?_,?_,?_⟩;all_goals first|(simp [hX10];done)|(simp [hX8];done)|(simp [hX6];done)|exact(hK8.alloc _).cell 0|exact(hK8.alloc _).cell 1|exact(hK8.alloc _).cell 2|exact(hK8.alloc _).cell 3|exact(hK8.alloc _).cell 4|exact(hK8.alloc _).cell 5))
   refine tk 0 ?_;try simp only[Act.put,u2,u3,u4]
   refine tk 1 ?_;try simp only[Act.put,u2,u3,u4]
   refine tk 2 ?_;try simp only[Act.put,u2,u3,u4]
   refine tk 3 ?_;try simp only[Act.put,u2,u3,u4]
   refine tk 4 ?_;try simp only[Act.put,u2,u3,u4]
   refine tk 5 ?_;try simp only[Act.put,u2,u3,u4]
   refine tk 6 ?_;try simp only[Act.put,u2,u3,u4]
   refine tk 7 ?_;try simp only[Act.put,u2,u3,u4]
   refine tk 8 ?_;try simp only[Act.put,u2,u3,u4]
   refine tk 9 ?_;try simp only[Act.put,u2,u3,u4]
   refine tk 10 ?_;try simp only[Act.put,u2,u3,u4]
   refine rd1 11 fun KK hKK=> ?_;go_simp
   (go_at_call 182;refine(cMx _ yL).mono ?_;rintro e8 w8 ⟨rfl,b8⟩;have b8:Below wr.heap.size wr w8:=zG b8;have z8:=b8.size;have hK8:=hK.below b8 hkl;have o8:=zf o b8;have g8:=g.trans (b8.mono oo);have hX8:=hK8.cell)
   refine hKK.out _ _ (by(refine⟨?_,?_,?_,?_,?_,?_⟩;all_goals first|(simp [hX10];done)|(simp [hX8];done)|(simp [hX6];done)|exact(hK8.alloc _).cell 0|exact(hK8.alloc _).cell 1|exact(hK8.alloc _).cell 2|exact(hK8.alloc _).cell 3|exact(hK8.alloc _).cell 4|exact(hK8.alloc _).cell 5)) fun hSS=> ?_;try simp only[Act.put,u2,u3,u4]
   refine rd1 12 fun KK hKK=> ?_;go_simp;refine hKK.out _ _ (by(refine⟨?_,?_,?_,?_,?_,?_⟩;all_goals first|(simp [hX10];done)|(simp [hX8];done)|(simp [hX6];done)|exact(hK8.alloc _).cell 0|exact(hK8.alloc _).cell 1|exact(hK8.alloc _).cell 2|exact(hK8.alloc _).cell 3|exact(hK8.alloc _).cell 4|exact(hK8.alloc _).cell 5)) fun hSS=> ?_;try simp only[Act.put,u2,u3,u4]
   refine rd1 13 fun KK hKK=> ?_
   ((refine uz _ rfl _ _ 133 rfl (w.heap.size+1) 160 i _ 4 40 Tryz.underlying133 hi hz0 hz1 hz2 rfl (by omega) (.slice Ao P.length co) P.length (zS P) rfl (o8.alloc _) (some ⟨_,0,none⟩) 1 1 [.int .i64 n2,.bool r,.int .i64 n4,.string ⟨D.toArray⟩] rfl (Sl.new w8 #[.int .i64 n2,.bool r,.int .i64 n4,.string ⟨D.toArray⟩] _ 1 4 (by simp) (by omega)) (by simp [Value.oneCell']) hm1 hm2 (by first|omega|(simp<;>omega)) ?_);intro A10 c10 w10 o10 hg10 hat10;have hK10:=Bk.grown (hK8.alloc _) hg10 (fun k hk=>by have:=(o8.lt k hk).1;omega);have g10:=(g8.alloc (by omega) _).grown hg10 (by simp;omega) (fun k hk=>by have:=(o8.lt k hk).1;omega);have hX10:=hK10.cell)
   refine hKK.out _ _ (by(refine⟨?_,?_,?_,?_,?_,?_⟩;all_goals first|(simp [hX10];done)|(simp [hX8];done)|(simp [hX6];done)|exact(hK8.alloc _).cell 0|exact(hK8.alloc _).cell 1|exact(hK8.alloc _).cell 2|exact(hK8.alloc _).cell 3|exact(hK8.alloc _).cell 4|exact(hK8.alloc _).cell 5)) fun hSS=> ?_;try simp only[Act.put,u2,u3,u4]
   refine tk 14 ?_;try simp only[Act.put,u2,u3,u4]
   refine wpAnyH_done kr ?_ _;simp only[List.getElem_toArray,List.getElem_cons_succ,List.getElem_cons_zero,Act.put,List.setIfInBounds_toArray,List.set_cons_zero,List.set_cons_succ];have hPl:(P++[(⟨n2,r,n4,D⟩:Blk)]).length=P.length+1:=(by simp);have o11:w10.ownsRow (w.heap.size+1) 160 4 (.slice A10 (P++[(⟨n2,r,n4,D⟩:Blk)]).length c10) (P++[(⟨n2,r,n4,D⟩:Blk)]).length (zS (P++[(⟨n2,r,n4,D⟩:Blk)])):=(by rw[hPl,xE];exact o10);rw[←hPl];have hPf2:(P++[(⟨n2,r,n4,D⟩:Blk)]).length≤f+size:=oo;generalize P++[(⟨n2,r,n4,D⟩:Blk)]=P2 at*;clear hKK hw1 hmi hPl o10 hg10 hat10 cMx;go_wp2;go_roundw
   case rel=>exact⟨f+size,j',P2,A10,c10,rfl,by go_num,oo,hPf2,HG2,oo,o11,hK10,g10⟩
   case measure=>simp [intOf];omega
  ·have hfi:¬(f:Int)<d.length:=oo
   have hE:ALL=P:=(by rw[HG.out,List.drop_eq_nil_of_le (by omega),X9,List.append_nil]);have HE:=Go.Lib.hid hE;clear hE HG;go_wp2;go_ret;exact⟨Ao,co,by rw[HE.out];rfl,by rw[HE.out];exact zC o (by omega),g⟩
end Go.Proofs.YtfppmajoidkooaaGreatDoor
