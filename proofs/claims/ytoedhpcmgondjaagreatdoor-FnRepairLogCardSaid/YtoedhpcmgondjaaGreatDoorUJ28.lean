import Derived.Test.YtoedhpcmgondjaaGreatDoorUJ26
import Derived.Test.YtoedhpcmgondjaaGreatDoorUS24
set_option linter.all false
set_option maxHeartbeats 8000000
namespace Go.Proofs.YtoedhpcmgondjaaGreatDoor
open Go.Lib(hid)
open Go.RowKit Go.Proofs.Tryz
set_option maxRecDepth 100000
attribute [local instance] mU hZ cvZ
attribute [local go_sem high] zA zB zD zS zL yf zC zk zl zt zi zu yR zG yu zH
abbrev Sto.C(S:Sto)(A:Option Addr)(cap:Nat):Array Value:= #[.int .i64 S.o,.int .i64 S.l,.int .i64 S.m,.string ⟨S.dict.toArray⟩,.slice A S.fs.length cap]
abbrev Sto.V(S:Sto)(A:Option Addr)(cap:Nat):Value:=.agg #[.int .i64 S.o,.int .i64 S.l,.int .i64 S.m,.string ⟨S.dict.toArray⟩,.slice A S.fs.length cap]
def WX (O:Option (List Blk))(v:Value)(ok:Bool)(B:Nat)(w':World):Prop:=(O=none∧ok=false)∨∃P A cap,O=some P∧ok=true∧v= .slice A P.length cap∧w'.ownsRow B 122 4 (.slice A P.length cap) P.length (zU P)
def KA (O:Option (List Blk))(w:World)(e:Ending)(w':World):Prop:=∃v ok,e= .returned (.tuple #[v,.bool ok])∧Below w.heap.size w w'∧WX O v ok w.heap.size w'
theorem WX.no {O:Option (List Blk)}{v:Value}{B:Nat}{w':World}(h:O=none):WX O v false B w':=.inl ⟨h,rfl⟩
theorem WX.yes {O:Option (List Blk)}{P:List Blk}{A:Option Addr}{cap B:Nat}{w':World}(h:O=some P)(a:w'.ownsRow B 122 4 (.slice A P.length cap) P.length (zU P)):WX O (.slice A P.length cap) true B w':=.inr ⟨P,A,cap,h,rfl,rfl,a⟩
theorem Yy (K:Kn)(C:Option Addr)(F:Nat)(n:List Blk)(A:Option Addr)(cap:Nat)(f t:Int)(w:World)(c2:K.ok)(c3:Sl w C K.ps.length F 2 (psV K.ps))(hs:Sl w A n.length cap 4 (zU n))(e8:∀b ∈ n,b.ok=true)(hl:n.length≤40)(j9:0≤f)(j':f≤3000)(k0:0≤t)(k1:t≤3000):
 Calls prog 109 #[knV K C F,.slice A n.length cap,f,t] w (KA (wS K f t 0 n) w):=by
 obtain⟨i,hi,c5,c6,c7⟩:=info_parts wo;have cD:Hid (∀b wr,Below w.heap.size w wr→b.ok=true→Calls prog 95 #[knV K C F,bkV b] wr fun e w'=>e=x9 (b.dat K)∧Below wr.heap.size wr w'):=fun b wr h hb=>jy K C F b wr c2 (c3.below h) (by have:=pM hb;omega);have cM:Hid (∀(x:Bs) wr,Below w.heap.size w wr→x.length≤2000→Calls prog 110 #[knV K C F,sv x] wr fun e w'=>e= .returned (bkV (xH K 0 x))∧Below wr.heap.size wr w'):=fun x wr h hx=>oJ K C F x wr c2 (c3.below h) oo;have k3:=hs.1;have k4:=hs.2.1;have e':=hid e8;have h9:Hid (∀wr,Below w.heap.size w wr→Sl wr A n.length cap 4 (zU n)):=fun wr h=>hs.below h;clear hs e8 c3 c2;obtain⟨b9,hR⟩:∃b9,wS K f t 0 n=b9:=⟨_,rfl⟩;rw[hR];have HR:=hid hR;clear hR;have o0:w.ownsRow (w.heap.size+1) 122 4 (.slice none ([]:List Blk).length 0) ([]:List Blk).length (zU []):=⟨by simp [zU],.inl ⟨rfl,rfl⟩⟩;go_enter func109,ntmps109;have f2:Bk (w.alloc (.cells (knC K C F) 94)) w.heap.size 94 (knC K C F):=tBk;have g0:Below w.heap.size w (w.alloc (.cells (knC K C F) 94)):=zx;have o1:=o0.alloc (.cells (knC K C F) 94);go_upto_region 1 with(fail)
 generalize w.alloc (.cells (knC K C F) 94)=w0 at*;clear o0;go_wp2;go_loopw [10,11,21] (fun a b c wr=>∃(k:Nat) (P:List Blk) (Y:Option Addr) (Z:Nat),a= .slice Y P.length Z∧b= .int .i64 (zn (n.take k))∧c= .int .i64 (k:Int)∧k≤n.length∧P.length≤k∧Hid (wS K f t 0 (n.take k)=some P)∧wr.ownsRow (w.heap.size+1) 122 4 (.slice Y P.length Z) P.length (zU P)∧Bk wr w.heap.size 94 (knC K C F)∧Below w.heap.size w wr) (fun _ _ c _=>n.length - (intOf c).toNat)
 case atStart=>exact⟨0,[],none,0,rfl,rfl,rfl,by omega,by simp,rfl,o1,f2,g0⟩
 case round=>
  obtain⟨k,P,Y,Z,rfl,rfl,rfl,hk,hP,HP,ow,hK,g⟩:=hrel;clear f2 g0 o1;have hz:=g.size;have k8:=hK.lt;have h':=vV (n.take k) (fun b hb=>e'.out b (List.mem_of_mem_take hb));have i0:(n.take k).length≤40:=(by simp;omega);obtain⟨k9,i1⟩:=h';have k':zn (n.take k)≤2560:=oo;clear i1 i0;by_cases a5:k<n.length
  ·have i2:(k:Int)<n.length:=oo
   have f5:=h9.out wr g;obtain⟨gb,l0,rfl,hg,hc⟩:=Sl.je f5 a5;have a7:=qo n k a5;have f6:=hc 0 _ a7.1;have f7:=hc 1 _ a7.2.1;have f8:=hc 2 _ a7.2.2.1;have f9:=hc 3 _ a7.2.2.2;have b':=e'.out n[k] (List.getElem_mem a5);have f':=Blk.vz b';have a8:Hid (zn (n.take (k+1))=zn (n.take k)+n[k].size):=(by show _=_;rw[List.take_succ_eq_append_getElem a5,vK]);have M:Hid (∀d2,x8 K (zn (n.take k)) f t n[k]=some d2→wS K f t 0 (n.take (k+1))=some (P++d2)):=fun d2 h=>Xg a5 HP.out h;have N:Hid (x8 K (zn (n.take k)) f t n[k]=none→b9=none):=fun h=>(by rw[←HR.out];exact Y1 a5 h);have c0:Hid (∀wr,Below w.heap.size w wr→Calls prog 95 #[knV K C F,bkV n[k]] wr fun e w'=>e=x9 (n[k].dat K)∧Below wr.heap.size wr w'):=fun wr h=>cD.out n[k] wr h b';have g1:Hid (∀D,n[k].dat K=some D→(D.length:Int)=n[k].size):=fun D h=>tX b' h;generalize n[k]=b at*;generalize zn (n.take k)=S at*;clear hc a7 f5 HP b';obtain⟨B,r,q,T⟩:=b;simp only[Nat.add_zero] at f6 f7 f8 f9 f' a8;obtain⟨l2,l3,l4,l5⟩:=f';obtain⟨L,hL⟩:∃L:Int,max S f=L:=⟨_,rfl⟩;obtain⟨E,hE⟩:∃E:Int,min (S+q) t=E:=⟨_,rfl⟩;have d3:P.length+1≤maxLen:=(by unfold maxLen;omega);have d4:(P.length+1)*40≤140737488355328:=oo;have l6:0≤L∧L≤3000:=oo;have l8:0≤E∧E≤3000:=oo;have hN:=Bk.new wr (bkC ⟨B,r,q,T⟩) 122;have O:=ow.alloc (.cells (bkC ⟨B,r,q,T⟩) 122);have Q:=hK.alloc (.cells (bkC ⟨B,r,q,T⟩) 122);have J:=g.alloc oo (.cells (bkC ⟨B,r,q,T⟩) 122);go_upto_region 6 with(fail)
   generalize wr.alloc (.cells _ 122)=i3 at*;have l':=hN.lt;have d5:=hN.cell;have zz:=J.size;generalize wr.heap.size=m1 at*;clear ow hK g f6 f7 f8 f9;by_cases hA:E≤L
   ·
    have X:=hid (M.out [] (by unfold x8;rw[if_pos (by simp only;omega)]));rw[List.append_nil] at X;have m2:decide (E≤L)=true:=decide_eq_true hA;go_wp2;go_roundw
    case rel=>exact⟨k+1,P,Y,Z,rfl,by rw[a8.out],by go_num,by omega,by omega,X,O,Q,J⟩
    case measure=>simp [intOf];omega
   by_cases hW:L=S∧E=S+q
   ·
    obtain⟨g4,g6⟩:=hW;have X:=hid (M.out [⟨B,r,q,T⟩] (by unfold x8;rw[if_neg (by simp only;omega),if_pos (by simp only;omega)]));have g7:(L==S)=true:=(by simp;omega);have i6:(E==S+q)=true:=(by simp;omega);have m3:=hid g4;have m4:=hid g6;clear g4 g6;go_wp2_with(at_builtin;go_must(refine zQ _ rfl _ _ 97 rfl (w.heap.size+1) 122 i _ 4 40 underlying97 hi c5 c6 c7 rfl (by omega) _ _ _ rfl (O.alloc _) _ 1 1 [.int .i64 B,.bool r,.int .i64 q,.string ⟨T.toArray⟩] rfl (Sl.newAt i3 #[(B:Int),.bool r,q,T] _ 1 4 (by first|rfl|simp) (by simp) (by omega)) (by simp [Value.oneCell']) d3 d4 ?_ ?_));try(case refine_1=>first|omega|(simp<;>omega;done))
    intro A3 g' w3 o3 d6 _;have g3:=yz J d6 (by first|omega|(simp;omega)) (fun k hk=>by have:=(O.lt k hk).1;omega);have i9:=Bk.grown (Q.alloc _) d6 (fun k hk=>by have:=(O.lt k hk).1;omega);have i':w3.ownsRow (w.heap.size+1) 122 4 (.slice A3 (P++[(⟨B,r,q,T⟩:Blk)]).length g') (P++[(⟨B,r,q,T⟩:Blk)]).length (zU (P++[(⟨B,r,q,T⟩:Blk)])):=by
     rw[xJ,List.length_append];exact o3
    have h1:(P++[(⟨B,r,q,T⟩:Blk)]).length=P.length+1:=(by simp);have h2:=hid h1;clear o3 d6 O J h1 Q d5 hN;go_wp2;go_roundw
    case rel=>exact⟨k+1,P++[(⟨B,r,q,T⟩:Blk)],A3,g',(by rw[h2.out]),by rw[a8.out],by go_num,by omega,by rw[h2.out];omega,X,i',i9,g3⟩
    case measure=>simp [intOf];omega
   ·
    obtain⟨p,h3⟩:∃p:Nat,L - S=(p:Int):=⟨(L - S).toNat,oo⟩;obtain⟨u,h4⟩:∃u:Nat,E - S=(u:Int):=⟨(E - S).toNat,oo⟩;have hcut:x8 K S f t ⟨B,r,q,T⟩=((⟨B,r,q,T⟩:Blk).dat K).map fun d=>[xH K 0 ((d.drop p).take (u - p))]:=by
     unfold x8;rw[if_neg (by simp only;omega),if_neg (by simp only;omega)];simp only;rw[show(max S f - S).toNat=p by omega,show(min (S+q) t - max S f).toNat=u - p by omega]
    rw[hcut] at M N;clear hcut;have h5:IntKind.i64.wrap (p:Int)=(p:Int):=IntWalk.i64_in _ oo;have h6:IntKind.i64.wrap (u:Int)=(u:Int):=IntWalk.i64_in _ oo;have h7:u≤q.toNat∧p≤u:=oo;by_cases c1:L=S
    ·have g7:(L==S)=true:=by simpa using c1
     have i6:(E==S+q)=false:=(by simp;omega);have m5:=hid c1;clear c1;have d7:=Q.cell;go_wp2_with fail;refine(c0.out _ J).mono ?_;rintro e w5 ⟨rfl,I⟩;have z5:=I.size;have a0:=Q.below I oo;have d8:=zf O I;have g5:=J.trans (I.mono oo);have R:=a0.cell;have d9:=a0.lt;clear d5 hN d7 Q O J I c0
     cases hD:(⟨B,r,q,T⟩:Blk).dat K with
     |none=>
      rw[hD] at N;have d':=N.out rfl;unfold x9;simp only[Option.getD_none,Option.isSome_none];clear N M;go_wp2;exact bodyPost_ret (v:=.tuple #[.slice none 0 0,.bool false]) (by simp [results,results109,go_sem]) rfl ⟨_,_,rfl,g5,WX.no d'⟩
     |some D=>
      have e0:(D.length:Int)=q:=g1.out D hD;have X:Hid (wS K f t 0 (n.take (k+1))=some (P++[xH K 0 ((D.drop p).take (u - p))])):=M.out _ (by rw[hD];rfl);have b1:=fun wr h=>cM.out ((D.drop p).take (u - p)) wr h (by simp;omega);unfold x9;simp only[Option.getD_some,Option.isSome_some];have j1:p≤u:=h7.2;have j2:u≤D.length:=oo;have j3:(u:Int)≤D.length:=oo;have j4:(p:Int)≤u:=oo;clear e0;generalize xH K 0 ((D.drop p).take (u - p))=c at*;clear N M hD;obtain⟨y,s,z,U⟩:=c;go_upto_region 11 with(fail)
      refine wp_region_held_drew (S:=(fun w'=>w'.cell? ⟨w.heap.size,0,none⟩=some (.int .i64 K.o)∧w'.cell? ⟨w.heap.size,1,none⟩=some (.int .i64 K.l)∧w'.cell? ⟨w.heap.size,2,none⟩=some (.int .i64 K.m)∧w'.cell? ⟨w.heap.size,3,none⟩=some (.slice C K.ps.length F)∧w'.cell? ⟨w.heap.size,4,none⟩=some (.int .i64 K.base)∧w'.cell? ⟨w.heap.size,5,none⟩=some (.int .i64 K.last))) kr ?_ (fun a1=> ?_);focus((refine⟨?_,?_,?_,?_,?_,?_⟩;all_goals first|(simp [V];done)|(simp [W];done)|(simp [R];done)|exact(j.alloc _).cell 0|exact(j.alloc _).cell 1|exact(j.alloc _).cell 2|exact(j.alloc _).cell 3|exact(j.alloc _).cell 4|exact(j.alloc _).cell 5))
      refine tk 0 ?_;refine tk 1 ?_;refine tk 2 ?_;refine tk 3 ?_;refine tk 4 ?_;refine tk 5 ?_;refine tk 6 ?_;refine tk 7 ?_;refine tk 8 ?_;refine tk 9 ?_;try simp only[Act.put,u2,u3,u4]
      refine rd1 10 fun KK G=> ?_;go_simp
      (go_at_call 110;refine(b1 _ y5).mono ?_;rintro j5 w8 ⟨rfl,H⟩;have H:Below w5.heap.size w5 w8:=zK H;have z8:=H.size;have j:=a0.below H d9;have o8:=zf d8 H;have g8:=g5.trans (H.mono oo);have W:=j.cell)
      refine G.out _ _ (by(refine⟨?_,?_,?_,?_,?_,?_⟩;all_goals first|(simp [V];done)|(simp [W];done)|(simp [R];done)|exact(j.alloc _).cell 0|exact(j.alloc _).cell 1|exact(j.alloc _).cell 2|exact(j.alloc _).cell 3|exact(j.alloc _).cell 4|exact(j.alloc _).cell 5)) fun a1=> ?_;try simp only[Act.put,u2,u3,u4]
      refine rd1 11 fun KK G=> ?_;go_simp;refine G.out _ _ (by(refine⟨?_,?_,?_,?_,?_,?_⟩;all_goals first|(simp [V];done)|(simp [W];done)|(simp [R];done)|exact(j.alloc _).cell 0|exact(j.alloc _).cell 1|exact(j.alloc _).cell 2|exact(j.alloc _).cell 3|exact(j.alloc _).cell 4|exact(j.alloc _).cell 5)) fun a1=> ?_;try simp only[Act.put,u2,u3,u4]
      refine rd1 12 fun KK G=> ?_
      ((refine uy _ rfl _ _ 97 rfl (w.heap.size+1) 122 i _ 4 40 underlying97 hi c5 c6 c7 rfl (by omega) (.slice Y P.length Z) P.length (zU P) rfl (o8.alloc _) (some ⟨_,0,none⟩) 1 1 [.int .i64 y,.bool s,.int .i64 z,.string ⟨U.toArray⟩] rfl (Sl.new w8 #[(y:Int),.bool s,z,U] _ 1 4 (by simp) (by omega)) (by simp [Value.oneCell']) d3 d4 (by first|omega|(simp<;>omega)) ?_);intro b4 b5 e2 b6 a3 e3;have b7:=Bk.grown (j.alloc _) a3 (fun k hk=>by have:=(o8.lt k hk).1;omega);have e4:=(g8.alloc (by omega) _).grown a3 (by simp;omega) (fun k hk=>by have:=(o8.lt k hk).1;omega);have V:=b7.cell)
      refine G.out _ _ (by(refine⟨?_,?_,?_,?_,?_,?_⟩;all_goals first|(simp [V];done)|(simp [W];done)|(simp [R];done)|exact(j.alloc _).cell 0|exact(j.alloc _).cell 1|exact(j.alloc _).cell 2|exact(j.alloc _).cell 3|exact(j.alloc _).cell 4|exact(j.alloc _).cell 5)) fun a1=> ?_;try simp only[Act.put,u2,u3,u4]
      refine tk 13 ?_;try simp only[Act.put,u2,u3,u4]
      refine wpAnyH_done kr ?_ _;simp only[List.getElem_toArray,List.getElem_cons_succ,List.getElem_cons_zero,Act.put,List.setIfInBounds_toArray,List.set_cons_zero,List.set_cons_succ];have a4:(P++[(⟨y,s,z,U⟩:Blk)]).length=P.length+1:=(by simp);have e5:e2.ownsRow (w.heap.size+1) 122 4 (.slice b4 (P++[(⟨y,s,z,U⟩:Blk)]).length b5) (P++[(⟨y,s,z,U⟩:Blk)]).length (zU (P++[(⟨y,s,z,U⟩:Blk)])):=(by rw[a4,xJ];exact b6);rw[←a4];have e6:(P++[(⟨y,s,z,U⟩:Blk)]).length≤k+1:=oo;generalize P++[(⟨y,s,z,U⟩:Blk)]=P2 at*;clear G a4 b6 a3 e3 b1 h5 h6 h3 h4 hL hE;go_wp2;go_roundw
      case rel=>exact⟨k+1,P2,b4,b5,rfl,by rw[a8.out],by go_num,by omega,e6,X,e5,b7,e4⟩
      case measure=>simp [intOf];omega
    ·have g7:(L==S)=false:=by simpa using c1
     have d7:=Q.cell;go_wp2_with fail;refine(c0.out _ J).mono ?_;rintro e w5 ⟨rfl,I⟩;have z5:=I.size;have a0:=Q.below I oo;have d8:=zf O I;have g5:=J.trans (I.mono oo);have R:=a0.cell;have d9:=a0.lt;clear d5 hN d7 Q O J I c0
     cases hD:(⟨B,r,q,T⟩:Blk).dat K with
     |none=>
      rw[hD] at N;have d':=N.out rfl;unfold x9;simp only[Option.getD_none,Option.isSome_none];clear N M;go_wp2;exact bodyPost_ret (v:=.tuple #[.slice none 0 0,.bool false]) (by simp [results,results109,go_sem]) rfl ⟨_,_,rfl,g5,WX.no d'⟩
     |some D=>
      have e0:(D.length:Int)=q:=g1.out D hD;have X:Hid (wS K f t 0 (n.take (k+1))=some (P++[xH K 0 ((D.drop p).take (u - p))])):=M.out _ (by rw[hD];rfl);have b1:=fun wr h=>cM.out ((D.drop p).take (u - p)) wr h (by simp;omega);unfold x9;simp only[Option.getD_some,Option.isSome_some];have j1:p≤u:=h7.2;have j2:u≤D.length:=oo;have j3:(u:Int)≤D.length:=oo;have j4:(p:Int)≤u:=oo;clear e0;generalize xH K 0 ((D.drop p).take (u - p))=c at*;clear N M hD;obtain⟨y,s,z,U⟩:=c;go_upto_region 11 with(fail)
      refine wp_region_held_drew (S:=(fun w'=>w'.cell? ⟨w.heap.size,0,none⟩=some (.int .i64 K.o)∧w'.cell? ⟨w.heap.size,1,none⟩=some (.int .i64 K.l)∧w'.cell? ⟨w.heap.size,2,none⟩=some (.int .i64 K.m)∧w'.cell? ⟨w.heap.size,3,none⟩=some (.slice C K.ps.length F)∧w'.cell? ⟨w.heap.size,4,none⟩=some (.int .i64 K.base)∧w'.cell? ⟨w.heap.size,5,none⟩=some (.int .i64 K.last))) kr ?_ (fun a1=> ?_);focus((refine⟨?_,?_,?_,?_,?_,?_⟩;all_goals first|(simp [V];done)|(simp [W];done)|(simp [R];done)|exact(j.alloc _).cell 0|exact(j.alloc _).cell 1|exact(j.alloc _).cell 2|exact(j.alloc _).cell 3|exact(j.alloc _).cell 4|exact(j.alloc _).cell 5))
      refine tk 0 ?_;refine tk 1 ?_;refine tk 2 ?_;refine tk 3 ?_;refine tk 4 ?_;refine tk 5 ?_;refine tk 6 ?_;refine tk 7 ?_;refine tk 8 ?_;refine tk 9 ?_;try simp only[Act.put,u2,u3,u4]
      refine rd1 10 fun KK G=> ?_;go_simp
      (go_at_call 110;refine(b1 _ y5).mono ?_;rintro j5 w8 ⟨rfl,H⟩;have H:Below w5.heap.size w5 w8:=zK H;have z8:=H.size;have j:=a0.below H d9;have o8:=zf d8 H;have g8:=g5.trans (H.mono oo);have W:=j.cell)
      refine G.out _ _ (by(refine⟨?_,?_,?_,?_,?_,?_⟩;all_goals first|(simp [V];done)|(simp [W];done)|(simp [R];done)|exact(j.alloc _).cell 0|exact(j.alloc _).cell 1|exact(j.alloc _).cell 2|exact(j.alloc _).cell 3|exact(j.alloc _).cell 4|exact(j.alloc _).cell 5)) fun a1=> ?_;try simp only[Act.put,u2,u3,u4]
      refine rd1 11 fun KK G=> ?_;go_simp;refine G.out _ _ (by(refine⟨?_,?_,?_,?_,?_,?_⟩;all_goals first|(simp [V];done)|(simp [W];done)|(simp [R];done)|exact(j.alloc _).cell 0|exact(j.alloc _).cell 1|exact(j.alloc _).cell 2|exact(j.alloc _).cell 3|exact(j.alloc _).cell 4|exact(j.alloc _).cell 5)) fun a1=> ?_;try simp only[Act.put,u2,u3,u4]
      refine rd1 12 fun KK G=> ?_
      ((refine uy _ rfl _ _ 97 rfl (w.heap.size+1) 122 i _ 4 40 underlying97 hi c5 c6 c7 rfl (by omega) (.slice Y P.length Z) P.length (zU P) rfl (o8.alloc _) (some ⟨_,0,none⟩) 1 1 [.int .i64 y,.bool s,.int .i64 z,.string ⟨U.toArray⟩] rfl (Sl.new w8 #[(y:Int),.bool s,z,U] _ 1 4 (by simp) (by omega)) (by simp [Value.oneCell']) d3 d4 (by first|omega|(simp<;>omega)) ?_);intro b4 b5 e2 b6 a3 e3;have b7:=Bk.grown (j.alloc _) a3 (fun k hk=>by have:=(o8.lt k hk).1;omega);have e4:=(g8.alloc (by omega) _).grown a3 (by simp;omega) (fun k hk=>by have:=(o8.lt k hk).1;omega);have V:=b7.cell)
      refine G.out _ _ (by(refine⟨?_,?_,?_,?_,?_,?_⟩;all_goals first|(simp [V];done)|(simp [W];done)|(simp [R];done)|exact(j.alloc _).cell 0|exact(j.alloc _).cell 1|exact(j.alloc _).cell 2|exact(j.alloc _).cell 3|exact(j.alloc _).cell 4|exact(j.alloc _).cell 5)) fun a1=> ?_;try simp only[Act.put,u2,u3,u4]
      refine tk 13 ?_;try simp only[Act.put,u2,u3,u4]
      refine wpAnyH_done kr ?_ _;simp only[List.getElem_toArray,List.getElem_cons_succ,List.getElem_cons_zero,Act.put,List.setIfInBounds_toArray,List.set_cons_zero,List.set_cons_succ];have a4:(P++[(⟨y,s,z,U⟩:Blk)]).length=P.length+1:=(by simp);have e5:e2.ownsRow (w.heap.size+1) 122 4 (.slice b4 (P++[(⟨y,s,z,U⟩:Blk)]).length b5) (P++[(⟨y,s,z,U⟩:Blk)]).length (zU (P++[(⟨y,s,z,U⟩:Blk)])):=(by rw[a4,xJ];exact b6);rw[←a4];have e6:(P++[(⟨y,s,z,U⟩:Blk)]).length≤k+1:=oo;generalize P++[(⟨y,s,z,U⟩:Blk)]=P2 at*;clear G a4 b6 a3 e3 b1 h5 h6 h3 h4 hL hE;go_wp2;go_roundw
      case rel=>exact⟨k+1,P2,b4,b5,rfl,by rw[a8.out],by go_num,by omega,e6,X,e5,b7,e4⟩
      case measure=>simp [intOf];omega
  ·have i2:¬(k:Int)<n.length:=oo
   have HE:Hid (b9=some P):=(by show _=_;rw[←HR.out,←HP.out,List.take_of_length_le (by omega)]);go_wp2;exact bodyPost_ret (v:=.tuple #[.slice Y P.length Z,.bool true]) (by simp [results,results109,go_sem]) rfl ⟨_,_,rfl,g,WX.yes HE.out (zF ow (by omega))⟩
theorem dK (o l m:Int)(dict t:Bs)(size:Int)(w:World)(hl:dict.length≤9223372036854775807)(f2:t.length≤1500000)(l6: -1000000≤size)(l8:size≤1000000):
 Calls prog 76 #[.agg #[(o:Int),l,m],sv dict,sv t,size] w fun e w'=>e=yg (mgD o l m dict t size)∧Below w.heap.size w w':=by
 obtain⟨i,hi,f4,f5,f6⟩:=info_parts wo;by_cases b4:fits o l m dict∧(zX t).isSome=true
 case neg=>
  have X:=fun w=>mr o l m dict t w b4 hl f2;have F:mgD o l m dict t size=none:=by
   unfold mgD;split
   ·rename_i N
    cases hb:zX t with
    |none=>rfl
    |some c=>exact absurd ⟨N.1,by rw[hb];rfl⟩ b4
   ·rfl
  rw[F];unfold yg;clear F b4;go_enter func76,ntmps76;have O:Bk (w.alloc (.cells #[(o:Int),l,m] 24)) w.heap.size 24 #[(o:Int),l,m]:=tBk;have g0:Below w.heap.size w (w.alloc (.cells #[(o:Int),l,m] 24)):=zx;go_upto_region 1 with(fail)
  generalize w.alloc (.cells #[(o:Int),l,m] 24)=w0 at*;have f7:=O.cell;have l':=O.lt;go_wp2_with fail;refine(X _).mono ?_;rintro e w1 ⟨rfl,f8⟩;have g1:=g0.trans (f8.mono oo);have m0:=g1.size;go_wp2;exact bodyPost_ret (v:=.tuple #[sv [],.bool false]) (by simp [results,results76,go_sem]) rfl ⟨rfl,zx⟩
 obtain⟨N,Y⟩:=b4;obtain⟨c,Z⟩:=Option.isSome_iff_exists.1 Y;have X:=fun w=>oK o l m dict t c w N Z f2;unfold VO at X;have hk:=xG N;have f9:=xY Z;have m1:=(xO Z).2;have HN:Hid (¬(1≤size∧size≤64)→mgD o l m dict t size=none):=fun h=>(by unfold mgD;rw[if_neg (fun hh=>h hh.2)]);have b':Hid (1≤size∧size≤64→mgD o l m dict t size=(qg (zy o l m dict) size ([],[]) c).bind fun a=>mcO a.1):=fun h=>(by unfold mgD;rw[if_pos ⟨N,h.1,h.2⟩,Z];rfl);obtain⟨R,hR⟩:∃R,mgD o l m dict t size=R:=⟨_,rfl⟩;rw[hR] at HN b'⊢;clear hR N Z Y;have j3:=hid f9;have HK:=hid hk;have cD:Hid (∀A cap b wr,Sl wr A (zy o l m dict).ps.length cap 2 (psV (zy o l m dict).ps)→b.ok=true→Calls prog 95 #[knV (zy o l m dict) A cap,bkV b] wr fun e w'=>e=x9 (b.dat (zy o l m dict))∧Below wr.heap.size wr w'):=fun A cap b wr h hb=>jy _ A cap b wr hk h (by have:=pM hb;omega);have cM:Hid (∀A cap (x:Bs) wr,Sl wr A (zy o l m dict).ps.length cap 2 (psV (zy o l m dict).ps)→x.length≤2000→Calls prog 110 #[knV (zy o l m dict) A cap,sv x] wr fun e w'=>e= .returned (bkV (xH (zy o l m dict) 0 x))∧Below wr.heap.size wr w'):=fun A cap x wr h hx=>oJ _ A cap x wr hk h oo;clear f9 hk;generalize zy o l m dict=K at*;go_enter func76,ntmps76;have O:Bk (w.alloc (.cells #[(o:Int),l,m] 24)) w.heap.size 24 #[(o:Int),l,m]:=tBk;have g0:Below w.heap.size w (w.alloc (.cells #[(o:Int),l,m] 24)):=zx;go_upto_region 1 with(fail)
 generalize w.alloc (.cells #[(o:Int),l,m] 24)=w0 at*;have f7:=O.cell;have m3:=O.lt;go_wp2_with fail;refine(X _).mono ?_;rintro e w1 ⟨B,C,A2,c2,rfl,o1,p1,c'⟩;have z1:=c'.size;have g1:=g0.trans (c'.mono oo);have c0:=Bk.new w1 (knC K B C) 94;have o2:=o1.alloc (.cells (knC K B C) 94);have p2:=p1.alloc (.cells (knC K B C) 94);have p:=g1.alloc oo (.cells (knC K B C) 94);clear c' f7 O g0 o1 p1 g1 X;go_upto_region 2 with(fail)
 unfold knC at c0 o2 p2 p;generalize w1.alloc (.cells #[(K.o:Int),(K.l:Int),(K.m:Int),.slice B K.ps.length C,(K.base:Int),(K.last:Int)] 94)=W at*;generalize w1.heap.size=q1 at*;have j8:=c0.lt;have m5:=p.size;by_cases P:1≤size∧size≤64
 case neg=>
  have F:=HN.out P;subst F;have d2:=decide_eq_false P;clear HN b' P cD cM;go_wp2_with fail;refine(xe _ _).mono ?_;rintro e w' ⟨rfl,rfl⟩;rw[d2];go_wp2;exact bodyPost_ret (v:=.tuple #[sv [],.bool false]) (by simp [results,results76,go_sem]) rfl ⟨rfl,p⟩
 have d2:=decide_eq_true P;have F:=b'.out P;obtain⟨m6,j9⟩:=P;have HR:Hid (∀a,qg K size ([],[]) c=some a→R=mcO a.1):=fun a ha=>(by rw[F,ha];rfl);have g8:Hid (qg K size ([],[]) c=none→R=none):=fun ha=>(by rw[F,ha];rfl);have s2:=Sl.own o2;have t2:=Sl.own p2;have m7:=t2.1;have m8:=t2.2.1;have g':Hid (∀wr,Below W.heap.size W wr→Sl wr B K.ps.length C 2 (psV K.ps)):=fun wr h=>s2.below h;have j':Hid (∀wr,Below W.heap.size W wr→Sl wr A2 c.length c2 4 (zU c)):=fun wr h=>t2.below h;have h0:Hid (∀wr,Below W.heap.size W wr→Below w.heap.size w wr):=fun wr h=>p.trans (h.mono oo);have h3:Hid (∀wr,Below W.heap.size W wr→Bk wr q1 94 #[(K.o:Int),(K.l:Int),(K.m:Int),.slice B K.ps.length C,(K.base:Int),(K.last:Int)]):=fun wr h=>c0.below h j8;have o0:W.ownsRow W.heap.size 122 4 (.slice none ([]:List Blk).length 0) ([]:List Blk).length (zU []):=⟨by simp [zU],.inl ⟨rfl,rfl⟩⟩;have g3:Below W.heap.size W W:=Below.refl _ _;clear F HN b' s2 t2 c0 o2 p2 p;go_wp2_with fail;refine(xe _ _).mono ?_;rintro e w' ⟨rfl,rfl⟩;rw[d2];go_wp2;go_loopw [13,14,37] (fun a b a0 wr=>∃(k:Nat) (q:List Blk) (j y:Bs) (Ao:Option Addr) (J:Nat),a= .slice Ao q.length J∧b= .string ⟨j.toArray⟩∧a0= .int .i64 (k:Int)∧k≤c.length∧j.length≤64∧Hid (qg K size ([],[]) (c.take k)=some (q,j))∧Hid (nS K size (q,j) k y)∧wr.ownsRow W.heap.size 122 4 (.slice Ao q.length J) q.length (zU q)∧Below W.heap.size W wr) (fun _ _ a0 _=>c.length - (intOf a0).toNat)
 case atStart=>exact⟨0,[],[],[],none,0,rfl,rfl,rfl,by omega,by simp,rfl,nS.zero K size,o0,g3⟩
 case round=>
  obtain⟨k,q,j,y,Ao,J,rfl,rfl,rfl,hk,m9,HM,L,ow,g⟩:=hrel;clear o0 g3;have hz:=g.size;have k1:q.length≤k:=L.out.len;by_cases a2:k<c.length
  ·have k2:(k:Int)<c.length:=oo
   have h6:=j'.out wr g;obtain⟨gb,m',rfl,hg,hc⟩:=Sl.je h6 a2;have a4:=qo c k a2;have h7:=hc 0 _ a4.1;have h8:=hc 1 _ a4.2.1;have h9:=hc 2 _ a4.2.2.1;have c3:=hc 3 _ a4.2.2.2;have a5:=j3.out c[k] (List.getElem_mem a2);have Y:=Blk.vz a5;have d5:Hid (∀d,c[k].dat K=some d→qg K size ([],[]) (c.take (k+1))=some (vO K size (q,j) c[k] d)):=fun d hd=>eu a2 HM.out hd;have d6:Hid (c[k].dat K=none→R=none):=fun hd=>g8.out (PQ a2 hd);have d7:Hid (∀d,c[k].dat K=some d→nS K size (vO K size (q,j) c[k] d) (k+1) (y++d)):=fun d hd=>L.out.step HK.out j9 a5 hd;have i0:Hid (∀wr,Below W.heap.size W wr→Calls prog 95 #[knV K B C,bkV c[k]] wr fun e w'=>e=x9 (c[k].dat K)∧Below wr.heap.size wr w'):=fun wr h=>cD.out _ _ c[k] wr (g'.out wr h) a5;have i1:Hid (∀d8,c[k].dat K=some d8→(d8.length:Int)=c[k].size):=fun d8 h=>tX a5 h;generalize c[k]=b at*;clear hc a4 h6 HM a5;obtain⟨n,r,f,T⟩:=b;simp only[Nat.add_zero] at h7 h8 h9 c3 Y;obtain⟨f8,n1,n2,n3⟩:=Y;have hN:=Bk.new wr (bkC ⟨n,r,f,T⟩) 122;have i2:=ow.alloc (.cells (bkC ⟨n,r,f,T⟩) 122);have a7:=g.alloc oo (.cells (bkC ⟨n,r,f,T⟩) 122);go_upto_region 9 with(fail)
   generalize wr.alloc (.cells _ 122)=n4 at*;have k3:=hN.lt;have k4:=hN.cell;have zz:=a7.size;have n6:W.heap.size≤wr.heap.size:=hz;generalize wr.heap.size=n7 at*;have i3:=h3.out _ a7;have k5:=i3.cell;clear ow g h7 h8 h9 c3;go_wp2_with fail;refine(i0.out _ a7).mono ?_;rintro e w5 ⟨rfl,b5⟩;have z5:=b5.size;have c4:=hN.below b5 k3;have D:=zf i2 b5;have E:=a7.trans (b5.mono oo);have c5:=h3.out _ E;have d9:=c5.cell;have d':=c4.cell;clear k4 hN k5 i3 i2 a7 b5 i0
   cases hD:(⟨n,r,f,T⟩:Blk).dat K with
   |none=>
    have k6:=d6.out hD;subst k6;have gw:=h0.out _ E;unfold x9;simp only[Option.getD_none,Option.isSome_none];clear d6 d5 d7 HR g8;go_wp2;exact bodyPost_ret (v:=.tuple #[sv [],.bool false]) (by simp [results,results76,go_sem]) rfl ⟨rfl,gw⟩
   |some d=>
    have k7:(d.length:Int)=f:=i1.out d hD;have Q:=hid (d5.out d hD);have S:=hid (d7.out d hD);unfold x9;simp only[Option.getD_some,Option.isSome_some];clear d6 d5 d7 i1 hD;have i5:d.length≤64:=oo;clear k7;rcases List.eq_nil_or_concat q with rfl|⟨mz,u,i6⟩
    ·
     have z:Hid (vO K size (([]:List Blk),j) ⟨n,r,f,T⟩ d=([⟨n,r,f,T⟩],d)):=(by show _=_;unfold vO;rw[if_neg (fun h=>h.1 rfl)];rfl);have a9:=hid (Q.out.trans (congrArg some z.out));have a':Hid (nS K size ([⟨n,r,f,T⟩],d) (k+1) (y++d)):=(by have:=S.out;rw[z.out] at this;exact this);have e0:(0:Nat)+1≤maxLen:=(by unfold maxLen;omega);have e1:((0:Nat)+1)*40≤140737488355328:=oo;clear Q S z L;go_wp2_with(at_builtin;go_must(refine zQ _ rfl _ _ 97 rfl (W.heap.size) 122 i _ 4 40 underlying97 hi f4 f5 f6 rfl (by omega) _ _ _ rfl (D.alloc _) _ 1 1 [.int .i64 n,.bool r,.int .i64 f,.string ⟨T.toArray⟩] rfl (Sl.newAt w5 #[(n:Int),.bool r,f,T] _ 1 4 (by first|rfl|simp) (by simp) (by omega)) (by simp [Value.oneCell']) e0 e1 ?_ ?_));try(case refine_1=>first|omega|(simp<;>omega;done))
     intro A6 b1 w6 o6 b3 _;have g6:=yz E b3 (by first|omega|(simp;omega)) (fun k hk=>by have:=(D.lt k hk).1;omega);have e4:w6.ownsRow W.heap.size 122 4 (.slice A6 [(⟨n,r,f,T⟩:Blk)].length b1) [(⟨n,r,f,T⟩:Blk)].length (zU [(⟨n,r,f,T⟩:Blk)]):=o6;clear o6 b3 D E d9 d' c4 c5;go_wp2;go_roundw
     case rel=>exact⟨k+1,[(⟨n,r,f,T⟩:Blk)],d,y++d,A6,b1,rfl,rfl,by go_num,oo,i5,a9,a',e4,g6⟩
     case measure=>simp [intOf];omega
    ·
     rw[List.concat_eq_append] at i6;subst i6;have e5:mz++[u]≠[]:=(by simp);simp only[List.length_append,List.length_singleton] at D k1⊢;by_cases hj:(j.length:Int)+d.length≤size
     ·have z:Hid (vO K size (mz++[u],j) ⟨n,r,f,T⟩ d=(mz++[xH K 0 (j++d)],j++d)):=by show _=_;unfold vO;rw[if_pos ⟨e5,hj⟩,List.dropLast_concat]
      have a9:=hid (Q.out.trans (congrArg some z.out));have a':Hid (nS K size (mz++[xH K 0 (j++d)],j++d) (k+1) (y++d)):=(by have:=S.out;rw[z.out] at this;exact this);have i8:Hid (∀wr,Below W.heap.size W wr→Calls prog 110 #[knV K B C,sv (j++d)] wr fun e w'=>e= .returned (bkV (xH K 0 (j++d)))∧Below wr.heap.size wr w'):=fun wr h=>cM.out _ _ (j++d) wr (g'.out wr h) (by rw[List.length_append];omega);have e6:=V4 mz u (xH K 0 (j++d));have k8:(j++d).length≤64:=(by rw[List.length_append];omega);generalize xH K 0 (j++d)=a0 at*;obtain⟨G,s,H,U⟩:=a0;simp only at e6;clear Q S z L e5;have n9:¬9223372036854775807<j.length+d.length:=oo;go_wp2_with fail;refine(i8.out _ E).mono ?_;rintro e V ⟨rfl,b8⟩;have z8:=b8.size;have I:=zf D b8;have o3:=E.trans (b8.mono oo);obtain⟨p,o4,k9⟩:∃g cap,Value.slice Ao (mz.length+1) J= .slice (some ⟨g,0,none⟩) (mz.length+1) cap:=by
       rcases I.2 with⟨h1,h2⟩|⟨g,cap,cur,h1,_⟩
       ·omega
       ·exact⟨g,cap,h1⟩
      injection k9 with hA2 _ hc2
      subst hA2 hc2;have q8:=(I.lt p rfl);have k':=fun l0=>I.frozenAt l0;have G0:∃v,V.cell? ⟨p,mz.length*4,none⟩=some v:=⟨_,(I.cellAt (mz.length*4) (by omega)).trans (List.getElem?_eq_getElem (by rw[xX];first|omega|(simp;done)|(simp;omega)))⟩;have G1:∃v,V.cell? ⟨p,mz.length*4+1,none⟩=some v:=⟨_,(I.cellAt (mz.length*4+1) (by omega)).trans (List.getElem?_eq_getElem (by rw[xX];first|omega|(simp;done)|(simp;omega)))⟩;have G2:∃v,V.cell? ⟨p,mz.length*4+2,none⟩=some v:=⟨_,(I.cellAt (mz.length*4+2) (by omega)).trans (List.getElem?_eq_getElem (by rw[xX];first|omega|(simp;done)|(simp;omega)))⟩;have G3:∃v,V.cell? ⟨p,mz.length*4+3,none⟩=some v:=⟨_,(I.cellAt (mz.length*4+3) (by omega)).trans (List.getElem?_eq_getElem (by rw[xX];first|omega|(simp;done)|(simp;omega)))⟩;obtain⟨v0,G0⟩:=G0;obtain⟨v1,G1⟩:=G1;obtain⟨v2,G2⟩:=G2;obtain⟨v3,G3⟩:=G3;have c8:=((((I.stored (mz.length*4+0) (.int .i64 G)).1.stored (mz.length*4+1) (.bool s)).1.stored (mz.length*4+2) (.int .i64 H)).1.stored (mz.length*4+3) (.string ⟨U.toArray⟩)).1;rw[e6] at c8;have g9:Below W.heap.size W ((((V.setCell ⟨p,mz.length*4+0,none⟩ (.int .i64 G)).setCell ⟨p,mz.length*4+1,none⟩ (.bool s)).setCell ⟨p,mz.length*4+2,none⟩ (.int .i64 H)).setCell ⟨p,mz.length*4+3,none⟩ (.string ⟨U.toArray⟩)):=zx;simp only[Nat.add_zero] at c8 g9;clear D E b8 i8 e6 d9 d' c4 c5;go_upto_region 18 with(fail)
      generalize(((V.setCell ⟨p,mz.length*4,none⟩ (.int .i64 G)).setCell ⟨p,mz.length*4+1,none⟩ (.bool s)).setCell ⟨p,mz.length*4+2,none⟩ (.int .i64 H)).setCell ⟨p,mz.length*4+3,none⟩ (.string ⟨U.toArray⟩)=w9 at*;have M:(mz++[(⟨G,s,H,U⟩:Blk)]).length=mz.length+1:=(by simp);have f0:=hid M;have l2:w9.ownsRow W.heap.size 122 4 (.slice (some ⟨p,0,none⟩) (mz++[(⟨G,s,H,U⟩:Blk)]).length J) (mz++[(⟨G,s,H,U⟩:Blk)]).length (zU (mz++[(⟨G,s,H,U⟩:Blk)])):=(by rw[M];exact c8);clear k' G0 G1 G2 G3 c8 M;go_wp2;go_roundw
      case rel=>exact⟨k+1,mz++[(⟨G,s,H,U⟩:Blk)],j++d,y++d,_,J,(by rw[f0.out]),rfl,by go_num,by omega,k8,a9,a',l2,g9⟩
      case measure=>simp [intOf];omega
     ·have z:Hid (vO K size (mz++[u],j) ⟨n,r,f,T⟩ d=(mz++[u]++[⟨n,r,f,T⟩],d)):=by show _=_;unfold vO;rw[if_neg (fun h=>hj h.2)]
      have a9:=hid (Q.out.trans (congrArg some z.out));have a':Hid (nS K size (mz++[u]++[⟨n,r,f,T⟩],d) (k+1) (y++d)):=(by have:=S.out;rw[z.out] at this;exact this);have e0:mz.length+1+1≤maxLen:=(by unfold maxLen;omega);have e1:(mz.length+1+1)*40≤140737488355328:=oo;clear Q S z L e5;go_wp2_with(at_builtin;go_must(refine zQ _ rfl _ _ 97 rfl (W.heap.size) 122 i _ 4 40 underlying97 hi f4 f5 f6 rfl (by omega) _ _ _ rfl (D.alloc _) _ 1 1 [.int .i64 n,.bool r,.int .i64 f,.string ⟨T.toArray⟩] rfl (Sl.newAt w5 #[(n:Int),.bool r,f,T] _ 1 4 (by first|rfl|simp) (by simp) (by omega)) (by simp [Value.oneCell']) e0 e1 ?_ ?_));try(case refine_1=>first|omega|(simp<;>omega;done))
      intro A6 b1 w6 o6 b3 _;have g6:=yz E b3 (by first|omega|(simp;omega)) (fun k hk=>by have:=(D.lt k hk).1;omega);have M:(mz++[u]++[(⟨n,r,f,T⟩:Blk)]).length=mz.length+1+1:=(by simp);have f0:=hid M;have e4:w6.ownsRow W.heap.size 122 4 (.slice A6 (mz++[u]++[(⟨n,r,f,T⟩:Blk)]).length b1) (mz++[u]++[(⟨n,r,f,T⟩:Blk)]).length (zU (mz++[u]++[(⟨n,r,f,T⟩:Blk)])):=(by rw[M,xJ];exact o6);clear o6 b3 D E d9 d' c4 c5 M;go_wp2;go_roundw
      case rel=>exact⟨k+1,mz++[u]++[(⟨n,r,f,T⟩:Blk)],d,y++d,A6,b1,(by rw[f0.out]),rfl,by go_num,by omega,i5,a9,a',e4,g6⟩
      case measure=>simp [intOf];omega
  ·have k2:¬(k:Int)<c.length:=oo
   have HE:=HR.out (q,j) (by rw[←HM.out,List.take_of_length_le (by omega)]);have l3:=Sl.own ow;have cE:=pJ q Ao J wr l3 L.out.ok oo;have gw:=h0.out wr g;have zw:=gw.size;rw[←HE] at cE;have p3:Hid (R=mcO q):=HE;clear HE L HM;go_wp2_with fail;refine cE.mono ?_;rintro e w7 ⟨rfl,b7⟩;have g7:=gw.trans (b7.mono oo);unfold yg;go_wp2;exact bodyPost_ret (v:=.tuple #[sv (R.getD []),.bool R.isSome]) (by simp [results,results76,go_sem]) rfl ⟨rfl,g7⟩
end Go.Proofs.YtoedhpcmgondjaaGreatDoor
namespace Go.Proofs.YtoedhpcmgondjaaGreatDoor
open Go.Lib(hid)
open Go.RowKit Go.Proofs.Tryz
set_option maxRecDepth 100000
attribute [local instance] mU hZ cvZ
attribute [local go_sem high] zA zB zD zS zL yf zC zk zl zt zi zu yR zG yu zH
attribute [local go_sem high] pF qZ
theorem Sl.fl {w:World}{A:Option Addr}{fs:List Fl}{cap:Nat}(h:Sl w A fs.length cap 2 (yC fs)){k:Nat}(hk:k<fs.length):∃g a,A=some ⟨g,a,none⟩∧g<w.heap.size∧
 w.cell? ⟨g,a+k*2,none⟩=some (.string ⟨fs[k].1.toArray⟩)∧w.cell? ⟨g,a+k*2+1,none⟩=some (.string ⟨fs[k].2.toArray⟩):=by
 obtain⟨g,a,e,d,b⟩:=Sl.je h hk;have c:=XN fs k hk;exact⟨g,a,e,d,b 0 _ c.1,b 1 _ c.2⟩
theorem Sl.prev {w:World}{A:Option Addr}{fs:List Fl}{cap:Nat}(h:Sl w A fs.length cap 2 (yC fs)){j:Nat}(hk:j+1<fs.length){g a:Nat}(b:A=some ⟨g,a,none⟩):
 w.cell? ⟨g,a+j*2,none⟩=some (.string ⟨(cu fs (j+1)).toArray⟩):=by
 obtain⟨d,f,e,_,c,_⟩:=Sl.fl h (show j<fs.length by omega);rw[b] at e;injection e with e
 injection e with e1 e2
 subst e1 e2;unfold cu;rw[Nat.add_sub_cancel,List.getElem?_eq_getElem (by omega)];exact c
theorem bV (S:Sto)(A:Option Addr)(cap:Nat)(w:World)(H:Sl w A S.fs.length cap 2 (yC S.fs))(hd:S.dict.length≤1500000)(hl:S.fs.length≤1500000)(q:∀f ∈ S.fs,f.1.length≤1500000∧f.2.length≤1500000):
 Calls prog 100 #[S.V A cap] w fun e w'=>e= .returned (.bool S.okB)∧Below w.heap.size w w':=by
 have d':=H.1;have e0:=H.2.1;have N:Hid (∀wr,Below w.heap.size w wr→Sl wr A S.fs.length cap 2 (yC S.fs)):=fun wr h=>H.below h;have HB:=hid q;clear H q;have B:=fun w=>rJ S.o S.l S.m S.dict w oo;have O:Hid (¬fits S.o S.l S.m S.dict→S.okB=false):=Sto.Nh;have Q:Hid (¬S.fs.length≤6→S.okB=false):=Sto.MQ;have R:Hid (∀(k:Nat) (hk:k<S.fs.length),¬(uj S.fs[k].1=true∧(cdB S.o S.l S.m S.dict S.fs[k].2).isSome=true∧(k=0∨Op.bytesLess (cu S.fs k) S.fs[k].1=true))→S.okB=false):=fun k hk h=>Sto.MV (hk:=hk) fun h2=>h ((Sto.Ux hk).1 h2);have T:Hid (∀(k:Nat) (hk:k<S.fs.length),(uj S.fs[k].1=true∧(cdB S.o S.l S.m S.dict S.fs[k].2).isSome=true∧(k=0∨Op.bytesLess (cu S.fs k) S.fs[k].1=true))→S.fine k hk):=fun k hk h=>(Sto.Ux hk).2 h;have U:Hid (∀(k:Nat) (hk:k<S.fs.length),(∀(i:Nat) (h:i<S.fs.length),i<k→S.fine i h)→S.fine k hk→∀(i:Nat) (h:i<S.fs.length),i<k+1→S.fine i h):=fun k hk C h=>Sto.Y2 C hk h;have I:Hid (fits S.o S.l S.m S.dict→S.fs.length≤6→(∀(i:Nat) (hi:i<S.fs.length),i<S.fs.length→S.fine i hi)→S.okB=true):=fun h h2 h3=>Sto.N9 h h2 h3;generalize S.okB=e3 at*;generalize Sto.fine S=P at*;obtain⟨o,l,m,dict,fs⟩:=S;simp only at*;go_enter func100,ntmps100;have J:Bk (w.alloc (.cells #[(o:Int),l,m,dict,.slice A fs.length cap] 29)) w.heap.size 29 #[(o:Int),l,m,dict,.slice A fs.length cap]:=tBk;have X:Below w.heap.size w (w.alloc (.cells #[(o:Int),l,m,dict,.slice A fs.length cap] 29)):=zx;go_upto_region 1 with(fail)
 generalize w.alloc (.cells #[(o:Int),l,m,dict,.slice A fs.length cap] 29)=w0 at*;have b5:=J.cell;have b6:=J.lt;by_cases D:fits o l m dict
 case neg=>
  rw[show decide (fits o l m dict)=false by simpa using D] at B;have h:=O.out D;subst h;clear R T U I Q;go_wp2_with fail;refine(B _).mono ?_;rintro e w1 ⟨rfl,r⟩;have E:=X.trans (r.mono oo);clear r;go_wp2;go_ret;exact⟨rfl,E⟩
 rw[show decide (fits o l m dict)=true by simpa using D] at B;go_wp2_with fail;refine(B _).mono ?_;rintro e w1 ⟨rfl,r⟩;have e5:=r.size;have Y:=J.below r b6;have E:=X.trans (r.mono oo);have b8:=Y.cell;clear r J X b5 B;by_cases h6:fs.length≤6
 case neg=>
  have h:=Q.out h6;subst h;have b9:(6:Int)<fs.length:=oo;clear R T U I O;go_wp2;go_ret;exact⟨rfl,E⟩
 have b9:¬(6:Int)<fs.length:=oo;have b':=hid (I.out D h6);have cC:Hid (∀t w,t.length≤1500000→Calls prog 127 #[.agg #[(o:Int),l,m],sv dict,sv t] w fun e w'=>e=x9 (cdB o l m dict t)∧Below w.heap.size w w'):=fun t w h=>qO o l m dict t w oo h;clear I O Q D;go_wp2;go_loopw [3] (fun i wr=>∃k:Nat,i= .int .i64 (k:Int)∧k≤fs.length∧Hid (∀(i:Nat) (h:i<fs.length),i<k→P i h)∧Bk wr w.heap.size 29 #[(o:Int),l,m,dict,.slice A fs.length cap]∧Below w.heap.size w wr) (fun i _=>fs.length - (intOf i).toNat)
 case atStart=>exact⟨0,rfl,oo,fun i h hi=>by omega,Y,E⟩
 case round=>
  obtain⟨k,rfl,hk,HA,F,q⟩:=hrel;clear Y E b8;have hz:=q.size;have a4:=F.lt;have e6:=F.cell;by_cases u:k<fs.length
  ·have c4:(k:Int)<fs.length:=oo
   obtain⟨g,a5,C,hg,c0,c1⟩:=(N.out wr q).fl u;have c6:=HB.out fs[k] (List.getElem_mem u);have v:=hid (R.out k u);have G:Hid (_→∀(i:Nat) (h:i<fs.length),i<k+1→P i h):=fun h=>U.out k u HA.out (T.out k u h);have hP:k=0∨∃j,k=j+1:=by
    cases k with
    |zero=>exact .inl rfl
    |succ j=>exact .inr ⟨j,rfl⟩
   have K:Hid (∀j W,k=j+1→Below w.heap.size w W→W.cell? ⟨g,a5+j*2,none⟩=some (.string ⟨(cu fs k).toArray⟩)):=fun j W e h=>(by subst e;exact(N.out W h).prev u C);have c7:Hid (∀W,Below w.heap.size w W→W.cell? ⟨g,a5+k*2,none⟩=some (.string ⟨fs[k].1.toArray⟩)):=fun W h=>by
    obtain⟨g',e9,e,_,c8,_⟩:=(N.out W h).fl u;rw[C] at e;injection e with e;injection e with e1 e2;subst e1 e2;exact c8
   generalize fs[k].1=s at*;generalize fs[k].2=Z at*;generalize cu fs k=pv at*;subst C;obtain⟨r,e'⟩:=c6;have hX:=F.cell;have hG:=zJ hX a4;have C1:=fun d x=>cell_regrown c1 d x;have cD:=fun w=>cC.out Z w oo;go_wp2_with fail;refine wp_region_quiet_below kr kr ?_;repeat(go_big_quiet_step ((go_at_call 127;exact Calls.regrown_of (cD _))))
   refine wpQuiet_nil ?_;intro L a;have M:Below _ _ L:=zh a;clear a;have z3:=M.size;have y:=F.below M a4;have b:=q.trans (M.mono hz);have c3:=c7.out L b;have d0:=y.cell;have f1:=zJ d0 y.lt;have C3:=fun d x=>cell_regrown c3 d x;clear M F q hX hG c0 c1 C1 cD;have z:∀w,Calls prog 136 #[s] w fun e w'=>e= .returned (.bool (uj s))∧Below w.heap.size w w':=fun w=>(aP s w oo).mono fun e w' h=>⟨h.1,h.2▸Below.refl _ _⟩
   cases hcd:cdB o l m dict Z with
   |none=>
    have h:=v.out (fun h=>by have:=h.2.1;rw[hcd] at this;cases this);subst h;clear v G hcd;go_wp2_with fail;refine wp_region_quiet_below kr kr ?_;repeat(go_big_quiet_step ((fail)))
    refine wpQuiet_nil ?_;intro n a;have c:Below _ _ n:=zh a;clear a;have p:=b.trans (c.mono (by have:=b.size;omega));go_wp2;go_ret;exact⟨rfl,p⟩
   |some d=>
    have d2:(cdB o l m dict Z).isSome=true:=(by rw[hcd];rfl);clear hcd;by_cases h1:uj s=true
    case neg=>
     have h:=v.out (fun h=>h1 h.1);subst h;rw[show uj s=false by simpa using h1] at z;clear v G;go_wp2_with fail;refine wp_region_quiet_below kr kr ?_;repeat(go_big_quiet_step ((go_at_call 136;exact Calls.regrown_of (z _))))
     refine wpQuiet_nil ?_;intro n a;have c:Below _ _ n:=zh a;clear a;have p:=b.trans (c.mono (by have:=b.size;omega));go_wp2;go_ret;exact⟨rfl,p⟩
    rw[h1] at z;by_cases h2:k=0∨Op.bytesLess pv s=true
    case neg=>
     have h:=v.out (fun h=>h2 h.2.2);subst h;obtain⟨d3,b0⟩:=not_or.1 h2;have d4:Op.bytesLess pv s=false:=(by simpa using b0);obtain⟨j,rfl⟩:=hP.resolve_left d3;have cp:=K.out j L rfl b;have CP:=fun d x=>cell_regrown cp d x;have d5:(0:Int)<((j+1:Nat):Int):=oo;have d6:(0:Int)<(j:Int)+1:=oo;have d7:(j:Int)<fs.length:=oo;clear v G h2 b0;go_wp2_with fail;refine wp_region_quiet_below kr kr ?_;repeat(go_big_quiet_step ((go_at_call 136;exact Calls.regrown_of (z _))))
     refine wpQuiet_nil ?_;intro n a;have c:Below _ _ n:=zh a;clear a;have p:=b.trans (c.mono (by have:=b.size;omega));go_wp2;go_ret;exact⟨rfl,p⟩
    have b2:=hid (G.out ⟨h1,d2,h2⟩);clear v G;rcases hP with rfl|⟨j,rfl⟩
    ·clear K
     simp only[Nat.zero_mul,Nat.add_zero] at c3 C3;go_wp2_with fail;refine wp_region_quiet_below kr kr ?_;repeat(go_big_quiet_step ((go_at_call 136;exact Calls.regrown_of (z _))))
     refine wpQuiet_nil ?_;intro n a;have c:Below _ _ n:=zh a;clear a;have a0:=y.below c y.lt;have p:=b.trans (c.mono (by have:=b.size;omega));go_wp2;go_roundw
     case rel=>exact⟨_,(by go_num),oo,b2,a0,p⟩
     case measure=>simp [intOf];omega
    ·have d4:Op.bytesLess pv s=true:=h2.resolve_left oo
     have cp:=K.out j L rfl b;have CP:=fun d x=>cell_regrown cp d x;have d5:(0:Int)<((j+1:Nat):Int):=oo;have d6:(0:Int)<(j:Int)+1:=oo;have d7:(j:Int)<fs.length:=oo;go_wp2_with fail;refine wp_region_quiet_below kr kr ?_;repeat(go_big_quiet_step ((go_at_call 136;exact Calls.regrown_of (z _))))
     refine wpQuiet_nil ?_;intro n a;have c:Below _ _ n:=zh a;clear a;clear cp CP K;have a0:=y.below c y.lt;have p:=b.trans (c.mono (by have:=b.size;omega));go_wp2;go_roundw
     case rel=>exact⟨_,(by go_num),oo,b2,a0,p⟩
     case measure=>simp [intOf];omega
  ·have c4:¬(k:Int)<fs.length:=oo
   have h:=b'.out (fun i h _=>HA.out i h oo);subst h;go_wp2;go_ret;exact⟨rfl,q⟩
end Go.Proofs.YtoedhpcmgondjaaGreatDoor
namespace Go.Proofs.YtoedhpcmgondjaaGreatDoor
open Go.RowKit
set_option maxRecDepth 100000
attribute [local go_sem high] zA zB zD zS zL yf zC zk zl zt zi zu yR zG yu zH
end Go.Proofs.YtoedhpcmgondjaaGreatDoor
namespace Go.Proofs.YtoedhpcmgondjaaGreatDoor
open Go.RowKit Go.Proofs.Tryz
set_option maxRecDepth 100000
attribute [local instance] mU hZ cvZ
attribute [local go_sem high] zA zB zD zS zL yf zC zk zl zt zi zu yR zG yu zH
attribute [local go_sem high] pF qZ
def ixV (o:Option Nat):Int:=match o with
 |some i=>(i:Int)
 |none=> -1
theorem dS (S:Sto)(n:Bs)(A:Option Addr)(cap:Nat)(w:World)(c:Sl w A S.fs.length cap 2 (yC S.fs))(D:S.fs.length≤1500000):
 Calls prog 54 #[S.V A cap,sv n] w fun e w'=>e= .returned (.int .i64 (ixV (xQ S.fs n)))∧Below w.heap.size w w':=by
 have E:=c.1;have F:=c.2.1;have u:Hid (∀wr,Below w.heap.size w wr→Sl wr A S.fs.length cap 2 (yC S.fs)):=fun wr h=>c.below h;have r:Hid (∀(k:Nat) (hk:k<S.fs.length),(∀(j:Nat) (h:j<S.fs.length),j<k→S.fs[j].1≠n)→S.fs[k].1=n→ixV (xQ S.fs n)=(k:Int)):=fun k hk v b=>(by rw[Xv hk b (fun j s=>v j (by omega) s)];rfl);have t:Hid ((∀(j:Nat) (h:j<S.fs.length),S.fs[j].1≠n)→ixV (xQ S.fs n)= -1):=fun h=>(by rw[di h];rfl);clear c;generalize ixV (xQ S.fs n)=R at*;obtain⟨o,l,m,dict,fs⟩:=S;simp only at*;go_enter func54,ntmps54;have x:Bk (w.alloc (.cells #[(o:Int),l,m,dict,.slice A fs.length cap] 29)) w.heap.size 29 #[(o:Int),l,m,dict,.slice A fs.length cap]:=tBk;have d:Below w.heap.size w (w.alloc (.cells #[(o:Int),l,m,dict,.slice A fs.length cap] 29)):=zx;go_upto_region 1 with(fail)
 generalize w.alloc (.cells #[(o:Int),l,m,dict,.slice A fs.length cap] 29)=y at*;have G:=x.cell;go_wp2;go_loopw [5] (fun i wr=>wr=y∧∃k:Nat,i= .int .i64 (k:Int)∧k≤fs.length∧Hid (∀(j:Nat) (h:j<fs.length),j<k→fs[j].1≠n)) (fun i _=>fs.length - (intOf i).toNat)
 case atStart=>exact⟨rfl,0,rfl,oo,fun j h s=>by omega⟩
 case round=>
  obtain⟨rfl,k,rfl,hk,f⟩:=hrel;by_cases p:k<fs.length
  ·have z:(k:Int)<fs.length:=oo
   obtain⟨g,H,rfl,I,J,K⟩:=(u.out _ d).fl p;by_cases b:fs[k].1=n
   ·have q:=r.out k p f.out b
    subst q;have B:decide (fs[k].1=n)=true:=(by simpa using b);clear b r t;generalize fs[k].1=a at*;go_wp2;go_ret;exact⟨rfl,d⟩
   ·have C:=Go.Lib.hid (MB p f.out b)
    have B:decide (fs[k].1=n)=false:=(by simpa using b);clear b;generalize fs[k].1=a at*;go_wp2;go_roundw
    case rel=>exact⟨trivial,k+1,by go_num,oo,C⟩
    case measure=>simp [intOf];omega
  ·have z:¬(k:Int)<fs.length:=oo
   have q:=t.out (fun j h=>f.out j h oo);subst q;go_wp2;go_ret;exact⟨rfl,d⟩
end Go.Proofs.YtoedhpcmgondjaaGreatDoor
namespace Go.Proofs.YtoedhpcmgondjaaGreatDoor
open Go.RowKit Go.Proofs.Tryz
set_option maxRecDepth 100000
attribute [local instance] mU hZ
attribute [local go_sem high] zA zB zD zS zL yf zC zk zl zt zi zu yR zG yu zH
theorem PD {w w':World}{B n s:Nat}{e:TypeId}{v:Value}{xs:List Value}{row:Option Nat}(h:w.ownsRow B e s v n xs)(a:w.grownBy w' row)(b:∀k,v.ownBlock=some k→row≠some k):w'.ownsRow B e s v n xs:=
 h.kept a (by
  cases c:v.ownBlock with
  |none=>exact .inl rfl
  |some k=>exact .inr (fun d=>b k c d.symm))
theorem gZ (o l m:Int)(dict t:Bs)(f g:Int)(d:Bs)(size:Int)(w:World)(hl:dict.length≤9223372036854775807)(d2:t.length≤1500000)(hd:d.length≤9223372036854775807)(i0: -1000000≤size)(i1:size≤1000000)
 (m2: -9223372036854775808≤f) (m3:f≤9223372036854775807) (m4: -9223372036854775808≤g) (m5:g≤9223372036854775807):
 Calls prog 75 #[.agg #[(o:Int),l,m],sv dict,sv t,f,g,sv d,size] w fun e w'=>e=yg (rpD o l m dict t f g d size)∧Below w.heap.size w w':=by
 obtain⟨i,hi,d4,d5,d6⟩:=info_parts wo;by_cases U:fits o l m dict∧(zX t).isSome=true
 case neg=>
  have N:=fun w=>mr o l m dict t w U hl d2;have y:rpD o l m dict t f g d size=none:=by
   unfold rpD;split
   ·rename_i z
    cases hb:zX t with
    |none=>rfl
    |some c=>exact absurd ⟨z,by rw[hb];rfl⟩ U
   ·rfl
  rw[y];unfold yg;clear y U;go_enter func75,ntmps75;have B:Bk (w.alloc (.cells #[(o:Int),l,m] 24)) w.heap.size 24 #[(o:Int),l,m]:=tBk;have V:Below w.heap.size w (w.alloc (.cells #[(o:Int),l,m] 24)):=zx;go_upto_region 1 with(fail)
  generalize w.alloc (.cells #[(o:Int),l,m] 24)=w0 at*;have d7:=B.cell;have m6:=B.lt;go_wp2_with fail;refine(N _).mono ?_;rintro e W ⟨rfl,i2⟩;have X:=V.trans (i2.mono oo);have m7:=X.size;go_wp2;exact bodyPost_ret (v:=.tuple #[sv [],.bool false]) (by simp [results,results75,go_sem]) rfl ⟨rfl,zx⟩
 obtain⟨z,d8⟩:=U;obtain⟨c,C⟩:=Option.isSome_iff_exists.1 d8;have N:=fun w=>oK o l m dict t c w z C d2;unfold VO at N;have hk:=xG z;have O:=xY C;have i3:=(xO C).2;have m8:=vV c O;have m9:=Xp C;have y:rpD o l m dict t f g d size=if 0≤f∧f≤g∧g≤zn c then(nwO (zy o l m dict) d size).bind fun cs=>(wS (zy o l m dict) 0 f 0 c).bind fun a=>(wS (zy o l m dict) g (zn c) 0 c).bind fun e=>mcO (a++cs++e) else none:=by unfold rpD;rw[if_pos z,C];rfl
 have Y:Hid (∀A cap wr,Sl wr A (zy o l m dict).ps.length cap 2 (psV (zy o l m dict).ps)→Calls prog 108 #[knV (zy o l m dict) A cap,sv d,size] wr (NwR (nwO (zy o l m dict) d size) wr)):=fun A cap wr h=>jl _ A cap d size wr hk h hd i0 i1;unfold NwR at Y;have Z:Hid (∀A cap wr,Sl wr A c.length cap 4 (zU c)→Calls prog 94 #[.slice A c.length cap] wr fun e w'=>e= .returned (.int .i64 (zn c))∧Below wr.heap.size wr w'):=fun A cap wr h=>jH c A cap wr h O oo;have D:Hid (∀Ak ck A cap a b wr,Sl wr Ak (zy o l m dict).ps.length ck 2 (psV (zy o l m dict).ps)→Sl wr A c.length cap 4 (zU c)→0≤a→a≤3000→0≤b→b≤3000→Calls prog 109 #[knV (zy o l m dict) Ak ck,.slice A c.length cap,(a:Int),(b:Int)] wr fun e w'=>∃v ok,e= .returned (.tuple #[v,.bool ok])∧Below wr.heap.size wr w'∧WX (wS (zy o l m dict) a b 0 c) v ok wr.heap.size w'):=fun Ak ck A cap a b wr h1 h2 h3 h4 h5 h6=>Yy _ Ak ck c A cap a b wr hk h1 h2 O i3 h3 h4 h5 h6;have q:Hid (∀a b x,wS (zy o l m dict) a b 0 c=some x→(∀i7 ∈ x,i7.ok=true)∧x.length≤c.length):=fun a b x=>kX hk c 0 x O;have a2:Hid (∀cs,nwO (zy o l m dict) d size=some cs→(∀b ∈ cs,b.ok=true)∧cs.length≤40):=fun cs h=>WO hk h;obtain⟨R,hR⟩:∃R,rpD o l m dict t f g d size=R:=⟨_,rfl⟩;rw[hR] at y⊢;have HE:=Go.Lib.hid y;clear y hR z C d8 hk O;generalize nwO (zy o l m dict) d size=d' at*;generalize zy o l m dict=K at*;go_enter func75,ntmps75;have B:Bk (w.alloc (.cells #[(o:Int),l,m] 24)) w.heap.size 24 #[(o:Int),l,m]:=tBk;have V:Below w.heap.size w (w.alloc (.cells #[(o:Int),l,m] 24)):=zx;go_upto_region 1 with(fail)
 generalize w.alloc (.cells #[(o:Int),l,m] 24)=w0 at*;have d7:=B.cell;have m':=B.lt;go_wp2_with fail;refine(N _).mono ?_;rintro e W ⟨F,G,A2,c2,rfl,o1,p1,b8⟩;have z1:=b8.size;have X:=V.trans (b8.mono oo);have a4:=Bk.new W (knC K F G) 94;have o2:=o1.alloc (.cells (knC K F G) 94);have Q:=p1.alloc (.cells (knC K F G) 94);have r:=X.alloc oo (.cells (knC K F G) 94);clear b8 d7 B V o1 p1 X N;go_upto_region 2 with(fail)
 unfold knC at a4 o2 Q r;generalize W.alloc (.cells #[K.o,K.l,K.m,.slice F K.ps.length G,K.base,K.last] 94)=n3 at*;generalize W.heap.size=H at*;have i8:=a4.lt;have n4:=r.size;by_cases I:0≤f∧f≤g∧g≤zn c
 case neg=>
  have s:R=none:=(by rw[HE.out,if_neg I]);subst s;clear HE a2 q Y D;by_cases h1:f<0
  ·clear I
   go_wp2;exact bodyPost_ret (v:=.tuple #[sv [],.bool false]) (by simp [results,results75,go_sem]) rfl ⟨rfl,r⟩
  by_cases h2:g<f
  ·clear I
   go_wp2;exact bodyPost_ret (v:=.tuple #[sv [],.bool false]) (by simp [results,results75,go_sem]) rfl ⟨rfl,r⟩
  have h3:zn c<g:=oo;have s2:=Sl.own Q;go_wp2_with fail;refine(Z.out _ _ _ s2).mono ?_;rintro e w3 ⟨rfl,n⟩;have g3:=r.trans (n.mono oo);clear I;go_wp2;exact bodyPost_ret (v:=.tuple #[sv [],.bool false]) (by simp [results,results75,go_sem]) rfl ⟨rfl,g3⟩
 have h1:¬f<0:=oo;have h2:¬g<f:=oo;have h3:¬zn c<g:=oo;have p:Hid (R=d'.bind fun cs=>(wS K 0 f 0 c).bind fun a=>(wS K g (zn c) 0 c).bind fun e=>mcO (a++cs++e)):=(by show _=_;rw[HE.out,if_pos I]);have i':0≤f∧f≤3000∧0≤g∧g≤3000∧zn c≤3000:=oo;obtain⟨j0,j1,j2,j3,j4⟩:=i';have s2:=Sl.own Q;clear HE I;go_wp2_with fail;refine(Z.out _ _ _ s2).mono ?_;rintro e w3 ⟨rfl,n⟩;have z3:=n.size;have g3:=r.trans (n.mono oo);have a7:=a4.below n i8;have o3:=zf o2 n;have p3:=zf Q n;have t3:=Sl.own o3;have j5:=a7.cell;have j6:=a7.lt;clear n a4 o2 Q r s2;go_wp2_with fail;refine(Y.out _ _ _ t3).mono ?_;rintro e w4 ⟨A4,c4,rfl,o4,J⟩;have z4:=J.size;have g4:=g3.trans (J.mono oo);have a8:=a7.below J j6;have c1:=zf o3 J;have p4:=zf p3 J;have j8:=a8.cell;have j9:=a8.lt;clear J a7 j5 g3 o3 t3 p3 Y
 cases d' with
 |none=>
  have s:R=none:=p.out;subst s;simp only[Option.isSome_none,Option.getD_none];clear p a2 q D;go_wp2;exact bodyPost_ret (v:=.tuple #[sv [],.bool false]) (by simp [results,results75,go_sem]) rfl ⟨rfl,g4⟩
 |some cs=>
  obtain⟨e5,n'⟩:=a2.out cs rfl;have e6:=Go.Lib.hid e5;simp only[Option.isSome_some,Option.getD_some] at o4⊢;have t4:=Sl.own c1;have s4:=Sl.own p4;clear e5 a2;go_wp2_with fail;refine(D.out _ _ _ _ 0 f _ t4 s4 oo oo j0 j1).mono ?_;rintro e w5 ⟨v5,o6,rfl,u,j'⟩;have z5:=u.size;have g5:=g4.trans (u.mono oo);have a9:=a8.below u j9;have f0:=zf c1 u;have p5:=zf p4 u;have o5:=zf o4 u;have a':=a9.cell;have k0:=a9.lt;clear a8 j8 g4 c1 t4 p4 s4 u;rcases j' with⟨L,rfl⟩|⟨P,A5,c5,L,rfl,rfl,r5⟩
  ·have s:R=none:=by rw[p.out,Option.bind_some,L];rfl
   subst s;clear p q D;go_wp2;exact bodyPost_ret (v:=.tuple #[sv [],.bool false]) (by simp [results,results75,go_sem]) rfl ⟨rfl,g5⟩
  have t5:=Sl.own f0;have s5:=Sl.own p5;go_upto_region 10 with(fail)
  refine wp_region_held_drew (S:=(fun w'=>w'.cell? ⟨H,0,none⟩=some (.int .i64 K.o)∧w'.cell? ⟨H,1,none⟩=some (.int .i64 K.l)∧w'.cell? ⟨H,2,none⟩=some (.int .i64 K.m)∧w'.cell? ⟨H,3,none⟩=some (.slice F K.ps.length G)∧w'.cell? ⟨H,4,none⟩=some (.int .i64 K.base)∧w'.cell? ⟨H,5,none⟩=some (.int .i64 K.last))) kr ?_ (fun f4=> ?_);focus((refine⟨?_,?_,?_,?_,?_,?_⟩;all_goals first|(simp [b0];done)|(simp [b1];done)|(simp [a'];done)))
  refine tk 0 ?_;refine tk 1 ?_;refine tk 2 ?_;refine tk 3 ?_;try simp only[Act.put,u2,u3,u4]
  refine rd1 4 fun KK b2=> ?_;go_simp
  (go_at_call 94;refine(Z.out _ _ _ (s5.below y5)).mono ?_;rintro o' w6 ⟨rfl,j⟩;have j:Below w5.heap.size w5 w6:=zK j;have z6:=j.size;have b3:=a9.below j k0;have g6:=g5.trans (j.mono oo);have t6:=t5.below j;have s6:=s5.below j;have b1:=b3.cell;have k5:=b3.lt)
  refine b2.out _ _ (by(refine⟨?_,?_,?_,?_,?_,?_⟩;all_goals first|(simp [b0];done)|(simp [b1];done)|(simp [a'];done))) fun f4=> ?_;try simp only[Act.put,u2,u3,u4]
  refine rd1 5 fun KK b2=> ?_;go_simp
  (go_at_call 109;refine(D.out _ _ _ _ g (zn c) _ t6 s6 j2 j3 oo j4).mono ?_;rintro e7 w7 ⟨v7,k7,rfl,M,k6⟩;have z7:=M.size;have f8:=b3.below M k5;have g7:=g6.trans (M.mono oo);have b0:=f8.cell)
  refine b2.out _ _ (by(refine⟨?_,?_,?_,?_,?_,?_⟩;all_goals first|(simp [b0];done)|(simp [b1];done)|(simp [a'];done))) fun f4=> ?_;try simp only[Act.put,u2,u3,u4]
  refine tk 6 ?_;refine tk 7 ?_;refine tk 8 ?_;refine tk 9 ?_;refine tk 10 ?_;try simp only[Act.put,u2,u3,u4]
  refine wpAnyH_done kr ?_ _;simp only[List.getElem_toArray,List.getElem_cons_succ,List.getElem_cons_zero,Act.put,List.setIfInBounds_toArray,List.set_cons_zero,List.set_cons_succ];have r7:=zf (zf r5 j) M;have n7:=zf (zf o5 j) M;clear b2 a9 b3 f8 g5 g6 a' b1 b0 f0 p5 t5 s5 t6 s6 D Z;rcases k6 with⟨T,rfl⟩|⟨E,A7,c7,T,rfl,rfl,e7⟩
  ·have s:R=none:=by rw[p.out,Option.bind_some,L,T];rfl
   subst s;clear p q;go_wp2;exact bodyPost_ret (v:=.tuple #[sv [],.bool false]) (by simp [results,results75,go_sem]) rfl ⟨rfl,g7⟩
  obtain⟨g0,p9⟩:=q.out 0 f P L;obtain⟨g1,p'⟩:=q.out g (zn c) E T;have g2:R=mcO (P++cs++E):=(by rw[p.out,Option.bind_some,L,T];rfl);have g9:=qG (qG g0 e6.out) g1;have c8:(P++cs++E).length=P.length+cs.length+E.length:=(by simp;omega);have g':zU (P++cs++E)=zU P++zU cs++zU E:=(by unfold zU;rw[List.flatMap_append,List.flatMap_append]);have cE:Hid (∀A cap wr,Sl wr A (P.length+cs.length+E.length) cap 4 (zU P++zU cs++zU E)→Calls prog 105 #[.slice A (P.length+cs.length+E.length) cap] wr fun e w'=>e=yg R∧Below wr.heap.size wr w'):=fun A cap wr hs=>by
   rw[←c8] at hs⊢;rw[←g'] at hs;rw[g2];exact pJ (P++cs++E) A cap wr hs g9 (by rw[c8];omega)
  have k9:P.length+cs.length≤maxLen:=(by unfold maxLen;omega);have k':(P.length+cs.length)*40≤140737488355328:=oo;have l0:P.length+cs.length+E.length≤maxLen:=(by unfold maxLen;omega);have l1:(P.length+cs.length+E.length)*40≤140737488355328:=oo;have l2:∀c' ∈ zU cs,c'.oneCell'=true:=eX cs;have l3:∀c' ∈ zU E,c'.oneCell'=true:=eX E;have h0:∀k,(Value.slice A7 E.length c7).ownBlock=some k→(Value.slice A5 P.length c5).ownBlock≠some k:=fun k hk l4=>by
   have h1:=(r5.lt k l4).2;have h2:=(e7.lt k hk).1;have:=j.size;omega
  have s7:=Sl.own n7;clear q L T g0 g1 p g2 g9 c8 g' e6 j M r5 n7 o5;go_wp2_with(at_builtin;go_must(refine zQ _ rfl _ _ 97 rfl w0.heap.size 122 i _ 4 40 underlying97 hi d4 d5 d6 rfl oo _ _ _ rfl (zF r7 oo) _ cs.length c4 (zU cs) rfl s7 l2 k9 k' ?_ ?_))
  ·omega
  intro A8 q1 w8 o8 b5 _;have q3:=b5.size;have g8:=g7.grown b5 oo (fun k hk=>by have:=(r7.lt k hk).1;omega);have s8:=Sl.own (PD e7 b5 h0);have z8:=g8.size;clear r7 s7 e7 b5 g7 h0;go_wp2_with(at_builtin;go_must(refine zQ _ rfl _ _ 97 rfl w0.heap.size 122 i _ 4 40 underlying97 hi d4 d5 d6 rfl oo _ _ _ rfl o8 _ E.length c7 (zU E) rfl s8 l3 l0 l1 ?_ ?_))
  ·omega
  intro A9 c9 w9 o9 h7 _;have h8:=g8.grown h7 oo (fun k hk=>by have:=(o8.lt k hk).1;omega);have s9:Sl w9 A9 (P.length+cs.length+E.length) c9 4 (zU P++zU cs++zU E):=by
   have:=Sl.own o9
   first|exact this|(rw[List.append_assoc];exact this)
  have z9:=h8.size;clear o8 s8 o9 h7 g8;go_wp2_with fail;refine(cE.out _ _ _ s9).mono ?_;rintro e q6 ⟨rfl,m0⟩;have m1:=h8.trans (m0.mono oo);unfold yg;go_wp2;exact bodyPost_ret (v:=.tuple #[sv (R.getD []),.bool R.isSome]) (by simp [results,results75,go_sem]) rfl ⟨rfl,m1⟩
