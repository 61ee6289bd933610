import Derived.Test.YtoedhpcmgondjaaGreatDoorYJ34
import Derived.Test.YtoedhpcmgondjaaGreatDoorYSs
set_option linter.all false
set_option maxHeartbeats 8000000
namespace Go.Proofs.YtoedhpcmgondjaaGreatDoor
open Go.Lib(hid)
open Go.RowKit Go.Proofs.Tryz
set_option maxRecDepth 100000
attribute [local instance] mU hZ cvZ
attribute [local go_sem high] zG zF zH zV zN yu zD zl zn zt zi zu y9 zK yE zJ
theorem TP {o l m:Int}{dict log:Bs}(k:Nat)(hk:k≤log.length):wU o l m dict log=none∨∃(T:Sto) (b:Nat) (es:List Nat),wU o l m dict log=some (T,(b:Int))∧b≤log.length∧T.fs.length≤6∧(∀e ∈ es,e≤log.length)∧es.length≤100000∧(nS (log.take b)).length=es.length∧((nS (log.take b)).map fun p=>Value.int .i64 p.2)=(es.map fun e:Nat=>Value.int .i64 (e:Int))∧
 yT k 0 es≤k∧∃U,U.fs.length≤6∧wU o l m dict (log.take k)=some (U,(yT k 0 es:Int))∧wU o l m dict (log.take (yT k 0 es))=some (U,(yT k 0 es:Int)):=by
 cases h:wU o l m dict log with
 |none=>exact .inl rfl
 |some p=>
  obtain⟨T,n⟩:=p;obtain⟨b,xs,rfl,a⟩:=nV h;obtain⟨h1,h2⟩:=a.last hk;have c:=UA xs;rw[←a.scan] at c;refine .inr ⟨T,b,wY 0 xs,rfl,a.le,a.ok.1.2.1,fun e d=>Nat.le_trans (a.chain.le e d) a.le,?_,c.1,c.2,h1,h2⟩;rw[rD];have:=a.chain.bd.1;have:=a.le;have:=a.short;omega
theorem OI (O:Bs)(A:Option Addr)(cap:Nat)(F:Bs)(A2:Option Addr)(c1:Nat)(w:World)(E:Ev w)(hs:Sl w A O.length cap 1 (O.map u8v))(e5:Sl w A2 F.length c1 1 (F.map u8v)):
 Calls prog 3 #[.slice A O.length cap,.slice A2 F.length c1] w (rT w (.bool true)):=by
 have K:=(Kp.base w).and (Kp.of fun wr h=>E.on h);clear E;go_enter func3,ntmps3;by_cases e6:1048576<O.length
 ·have e7:(1048576:Int)<O.length:=oo
  go_wp2;go_ret;exact⟨rfl,Below.refl _ _⟩
 have g6:¬(1048576:Int)<O.length:=oo;by_cases g7:1048576<F.length
 ·have e7:(1048576:Int)<F.length:=oo
  go_wp2;go_ret;exact⟨rfl,Below.refl _ _⟩
 have g8:¬(1048576:Int)<F.length:=oo;have cD:=oN O A cap w hs;unfold DrL at cD;clear hs e5 e6;go_wp2_with fail;refine cD.mono ?_;rintro e w1 ⟨⟨o,l,m,dict,log,rfl,g9,g'⟩,b⟩;have K:=K.step b;have K:=K.box #[o,l,m] 24;clear cD b;go_upto_region 4 with(fail)
 generalize w1.alloc (.cells #[o,l,m] 24)=w2 at*;generalize w1.heap.size=u at*;obtain⟨k,hk⟩:∃k,F.length % (log.length+1)=k:=⟨_,rfl⟩;have e8:k≤log.length:=(by have:=Nat.mod_lt F.length (show 0<log.length+1 by omega);omega);have c4:(F.length:Int) % ((log.length:Int)+1)=(k:Int):=(by rw[←hk];push_cast;rfl);clear hk;have G:=fun w h=>wW o l m dict log w h oo oo;have H:=fun w=>uG o l m dict log w oo oo;unfold WW Vs at G;unfold Qb StI at H;have hR:=TP (o:=o) (l:=l) (m:=m) (dict:=dict) (log:=log) k e8;obtain⟨⟨_,E⟩,f⟩:=K.now;have X:=f.cell;rcases hR with hR|⟨T,n,es,hR,hn,h6,c5,h4,c6,c7,c8,b4,e',c9,c'⟩
 ·rw[hR] at G H
  simp only[Option.map_none,Option.getD_none,Option.isSome_none] at G H;generalize y7=T at*;obtain⟨P,Q,R,U,V⟩:=T;go_wp2_with fail;refine(G _ E).mono ?_;rintro e w3 ⟨x,y,rfl,_,_,b⟩;have K:=K.step b;have K:=K.alloc (.cells #[P,Q,R,U,.slice x V.length y] 29);clear b E f G X;go_upto_region 5 with(fail)
  generalize w3.alloc (.cells #[P,Q,R,U,.slice x V.length y] 29)=w4 at*;obtain⟨⟨_,_⟩,f⟩:=K.now;have X:=f.cell;go_wp2_with fail;refine(H _).mono ?_;rintro e w5 ⟨s,C,rfl,_,b⟩;have g:=(K.step b).now.1.1;have z:=g.size;clear b f H X K;go_wp2;go_ret;exact⟨rfl,zy⟩
 rw[hR] at G H;simp only[Option.map_some,Option.getD_some,Option.isSome_some] at G H;obtain⟨P,Q,R,U,V⟩:=T;go_wp2_with fail;refine(G _ E).mono ?_;rintro e w3 ⟨x,y,rfl,_,_,b⟩;have K:=K.step b;have K:=K.alloc (.cells #[P,Q,R,U,.slice x V.length y] 29);clear b E f G X;go_upto_region 5 with(fail)
 generalize w3.alloc (.cells #[P,Q,R,U,.slice x V.length y] 29)=w4 at*;obtain⟨⟨_,_⟩,f⟩:=K.now;have X:=f.cell;go_wp2_with fail;refine(H _).mono ?_;rintro e w5 ⟨s,C,rfl,_,b⟩;have K:=K.step b;have K:=K.alloc (.cells #[P,Q,R,U,.slice s V.length C] 29);clear b f H X;go_upto_region 6 with(fail)
 generalize w5.alloc (.cells #[P,Q,R,U,.slice s V.length C] 29)=w6 at*;have E:=K.now.1.2;have cO:=bP (log.take n);unfold L6 at cO;rw[c6,c7] at cO;have cE:=fun A B ca cb w ha W=>qg b4 A B ca cb w ha W oo;have a7:=fun w h=>wW o l m dict (log.take k) w h (by omega) (by rw[List.length_take];omega);unfold WW Vs at a7;rw[c9] at a7;have d2:Hid (∀w,Ev w→Calls prog 8 #[.agg #[o,l,m],sv dict,sv (log.take (yT k 0 es))] w (Vs b4 (yT k 0 es:Int) true w)):=fun w h=>by
  have h2:=wW o l m dict (log.take (yT k 0 es)) w h (by omega) (by rw[List.length_take];omega);unfold WW at h2;rw[c'] at h2;exact h2
 simp only[Option.map_some,Option.getD_some,Option.isSome_some] at a7;have d3:Hid (∀i (h:i<es.length),yT k 0 (es.take (i+1))=if es[i]≤k then es[i] else yT k 0 (es.take i)):=fun i h=>Yu h;have f4:Hid (yT k 0 (es.take es.length)=yT k 0 es):=(by show _=_;rw[List.take_length]);have d4:=hid c5;clear hR c9 c' h6 c6 c7 c5;have f5:Hid (yT k 0 es≤k):=c8;clear c8;obtain⟨J,L,M,N,v⟩:=b4;simp only at cE e';generalize yT k 0 es=lc at*;go_wp2_with fail;refine(cO _ E (by rw[List.length_take];omega)).mono ?_;rintro e q ⟨A7,h8,B7,h',rfl,_,oB,b⟩;have SB:=Sl.own oB;have K:=(K.step b).and (Kp.sl SB);clear b oB cO E SB;have i0:¬((log.length:Int)+1=0):=oo;go_upto_region 10 with(fail)
 rw[c4];clear c4;go_cut [17,18,19] (fun p a b Y=>∃(Z:Nat) (x:Option Addr) (y:Nat),p= .pointer (some ⟨Z,0,none⟩)∧a= .int .i64 ((lc:Int))∧b= .bool true∧q.heap.size≤Z∧Bk Y Z 29 #[(J:Int),L,M,N,.slice x v.length y]∧Sl Y x v.length y 2 (yz v)∧Below q.heap.size q Y)
 case first=>
  have B0:=Below.refl q.heap.size q;have f7:q.heap.size≤q.heap.size:=Nat.le_refl _;have r:Hid (∀w',Below q.heap.size q w'→w'.cell? ⟨u,0,none⟩=some (.int .i64 o)∧w'.cell? ⟨u,1,none⟩=some (.int .i64 l)∧w'.cell? ⟨u,2,none⟩=some (.int .i64 m)):=fun wr h=>(by have f:=(K wr h).1.2;exact⟨f.cell 0,f.cell 1,f.cell 2⟩);refine wp_region_held_drew (S:=(fun w'=>w'.cell? ⟨u,0,none⟩=some (.int .i64 o)∧w'.cell? ⟨u,1,none⟩=some (.int .i64 l)∧w'.cell? ⟨u,2,none⟩=some (.int .i64 m))) kr ?_ (fun t=> ?_);focus(exact r.out _ yj)
  refine tk 0 ?_;refine tk 1 ?_;refine tk 2 ?_;refine tk 3 ?_;refine tk 4 ?_;try simp only[Act.put,rR]
  refine wpAnyH_ready (rs:=[5,10]) (by kernel_rfl) (by simp) ?_;refine(AllReadyH.cons (o:=_) rfl (fun D c=> ?_) (AllReadyH.cons (o:=_) rfl (fun D c=> ?_) AllReadyH.nil))
  ·
   go_simp
   (go_at_call 8;refine(a7 _ ((K.step (Below.refl _ _).drew).now.1.1.2)).mono ?_;rintro e a0 ⟨s,C,rfl,I,⟨a1,a2⟩,d⟩;have d:Below q.heap.size q a0:=zB d;have z5:=d.size;have s5:=OwC.sl I a1 a2)
   refine c.out _ _ (r.out _ yj) fun t=> ?_;try simp only[Act.put,rR]
   refine tk 6 ?_;refine tk 7 ?_;refine tk 8 ?_;refine tk 9 ?_;try simp only[Act.put,rR]
   refine rd1 10 fun D c=> ?_;go_simp;refine c.out _ _ (r.out _ yj) fun t=> ?_;try simp only[Act.put,rR]
   refine rd1 11 fun D c=> ?_;go_simp;refine c.out _ _ (r.out _ yj) fun t=> ?_;try simp only[Act.put,rR]
   refine tk 12 ?_;refine tk 13 ?_;try simp only[Act.put,rR]
   refine wpAnyH_done kr ?_ _;simp only[Act.put,yW];go_wp2_with fail;go_meet;exact⟨_,s,C,rfl,rfl,rfl,z5,Bk.new _ _ _,s5.alloc _,d.alloc oo _⟩
  ·
   go_simp;refine c.out _ _ (r.out _ yj) fun t=> ?_;try simp only[Act.put,rR]
   refine rd1 5 fun D c=> ?_;go_simp
   (go_at_call 8;refine(a7 _ ((K.step ((Below.refl _ _).alloc (Nat.le_refl _) (.cells yR 29)).drew).now.1.1.2)).mono ?_;rintro e a0 ⟨s,C,rfl,I,⟨a1,a2⟩,d⟩;have d:Below (q.alloc (.cells yR 29)).heap.size (q.alloc (.cells yR 29)) a0:=zB d;have z5:=d.size;simp only[World.size_alloc,World.size_drew] at z5;have q5:=Bk.below (Bk.new q yR 29) d (by simp);have f8:=q5.cell;have f9:=q5.free;have B5:=((Below.refl q.heap.size q).alloc (Nat.le_refl _) (.cells yR 29)).trans (d.mono (by simp));have s5:=OwC.sl I a1 a2;have m5:∀g a8,s=some ⟨g,a8,none⟩→g≠q.heap.size:=fun g a8 hg=>(by have h1:=OwC.lt2 I hg;(try simp only[World.size_alloc,World.size_drew] at h1);omega))
   refine c.out _ _ (r.out _ yj) fun t=> ?_;try simp only[Act.put,rR]
   refine tk 6 ?_;refine tk 7 ?_;refine tk 8 ?_;refine tk 9 ?_;try simp only[Act.put,rR]
   refine rd1 11 fun D c=> ?_;go_simp;refine c.out _ _ (r.out _ yj) fun t=> ?_;try simp only[Act.put,rR]
   refine tk 12 ?_;refine tk 13 ?_;try simp only[Act.put,rR]
   refine wpAnyH_done kr ?_ _;simp only[Act.put,yW];go_wp2_with fail;go_meet;exact⟨_,s,C,rfl,rfl,rfl,Nat.le_refl _,wJ q5 ⟨J,L,M,N,v⟩ _ _,jZ s5 m5 ⟨J,L,M,N,v⟩ _ _,yx B5 (Nat.le_refl _) ⟨J,L,M,N,v⟩ _ _⟩
 case rest=>
 obtain⟨i1,i2,i3,rfl,rfl,rfl,i4,d6,d7,d8⟩:=hcut;generalize wc=w8 at*;have K:=((K.step d8).and (Kp.bk d6)).and (Kp.sl d7);clear d8 d6 d7 a7;go_wp2;go_loopw [20,21] (fun a i wr=>∃j:Nat,a= .int .i64 (yT k 0 (es.take j):Int)∧i= .int .i64 (j:Int)∧j≤es.length∧Below w8.heap.size w8 wr) (fun _ i _=>es.length - (intOf i).toNat)
 case atStart=>exact⟨0,rfl,rfl,oo,Below.refl _ _⟩
 case round=>
  obtain⟨j,rfl,rfl,hj,W⟩:=hrel;by_cases b0:j<es.length
  ·have f':(j:Int)<es.length:=oo
   have sE:=(K wr W).1.1.2;obtain⟨g,a8,i6,rfl,hg,hu,hc⟩:=sE.at1 b0;rw[List.getElem?_map,List.getElem?_eq_getElem b0] at hu;simp only[Option.map_some,Option.some.injEq] at hu;subst hu;have e0:=d3.out j b0;have i8:=d4.out es[j] (List.getElem_mem b0);generalize es[j]=ej at*;have b2:=hid e0;clear e0 sE;by_cases e1:ej≤k
   ·have g0:(ej:Int)≤(k:Int):=oo
    have b':Hid (yT k 0 (es.take (j+1))=ej):=(by show _=_;rw[b2.out,if_pos e1]);clear b2;go_wp2;go_roundw
    case rel=>exact⟨j+1,by rw[b'.out],by go_num,by omega,W⟩
    case measure=>simp [intOf];omega
   ·have g0:¬(ej:Int)≤(k:Int):=oo
    have b':Hid (yT k 0 (es.take (j+1))=yT k 0 (es.take j)):=(by show _=_;rw[b2.out,if_neg e1]);clear b2;go_wp2;go_roundw
    case rel=>exact⟨j+1,by rw[b'.out],by go_num,by omega,W⟩
    case measure=>simp [intOf];omega
  ·have f':¬(j:Int)<es.length:=oo
   have he:j=es.length:=oo;subst he;rw[f4.out];have i9:=f5.out;have i':lc≤log.length:=oo;have K:=K.step W;clear W d3 d4;go_upto_region 17 with(fail)
   go_cut [22,23,24] (fun p a b Y=>∃(Z:Nat) (x:Option Addr) (y:Nat),p= .pointer (some ⟨Z,0,none⟩)∧a= .int .i64 ((lc:Int))∧b= .bool true∧wr.heap.size≤Z∧Bk Y Z 29 #[(J:Int),L,M,N,.slice x v.length y]∧Sl Y x v.length y 2 (yz v)∧Below wr.heap.size wr Y)
   case first=>
    have B0:=Below.refl wr.heap.size wr;have f7:wr.heap.size≤wr.heap.size:=Nat.le_refl _;have r:Hid (∀w',Below wr.heap.size wr w'→w'.cell? ⟨u,0,none⟩=some (.int .i64 o)∧w'.cell? ⟨u,1,none⟩=some (.int .i64 l)∧w'.cell? ⟨u,2,none⟩=some (.int .i64 m)):=fun wr h=>(by have f:=(K wr h).1.1.1.2;exact⟨f.cell 0,f.cell 1,f.cell 2⟩);refine wp_region_held_drew (S:=(fun w'=>w'.cell? ⟨u,0,none⟩=some (.int .i64 o)∧w'.cell? ⟨u,1,none⟩=some (.int .i64 l)∧w'.cell? ⟨u,2,none⟩=some (.int .i64 m))) kr ?_ (fun t=> ?_);focus(exact r.out _ yj)
    refine tk 0 ?_;refine tk 1 ?_;refine tk 2 ?_;refine tk 3 ?_;refine tk 4 ?_;try simp only[Act.put,rR]
    refine wpAnyH_ready (rs:=[5,10]) (by kernel_rfl) (by simp) ?_;refine(AllReadyH.cons (o:=_) rfl (fun D c=> ?_) (AllReadyH.cons (o:=_) rfl (fun D c=> ?_) AllReadyH.nil))
    ·
     go_simp
     (go_at_call 8;refine(d2.out _ ((K.step (Below.refl _ _).drew).now.1.1.1.1.2)).mono ?_;rintro e a0 ⟨s,C,rfl,I,⟨a1,a2⟩,d⟩;have d:Below wr.heap.size wr a0:=zB d;have z5:=d.size;have s5:=OwC.sl I a1 a2)
     refine c.out _ _ (r.out _ yj) fun t=> ?_;try simp only[Act.put,rR]
     refine tk 6 ?_;refine tk 7 ?_;refine tk 8 ?_;refine tk 9 ?_;try simp only[Act.put,rR]
     refine rd1 10 fun D c=> ?_;go_simp;refine c.out _ _ (r.out _ yj) fun t=> ?_;try simp only[Act.put,rR]
     refine rd1 11 fun D c=> ?_;go_simp;refine c.out _ _ (r.out _ yj) fun t=> ?_;try simp only[Act.put,rR]
     refine tk 12 ?_;refine tk 13 ?_;try simp only[Act.put,rR]
     refine wpAnyH_done kr ?_ _;simp only[Act.put,yW];go_wp2_with fail;go_meet;exact⟨_,s,C,rfl,rfl,rfl,z5,Bk.new _ _ _,s5.alloc _,d.alloc oo _⟩
    ·
     go_simp;refine c.out _ _ (r.out _ yj) fun t=> ?_;try simp only[Act.put,rR]
     refine rd1 5 fun D c=> ?_;go_simp
     (go_at_call 8;refine(d2.out _ ((K.step ((Below.refl _ _).alloc (Nat.le_refl _) (.cells yR 29)).drew).now.1.1.1.1.2)).mono ?_;rintro e a0 ⟨s,C,rfl,I,⟨a1,a2⟩,d⟩;have d:Below (wr.alloc (.cells yR 29)).heap.size (wr.alloc (.cells yR 29)) a0:=zB d;have z5:=d.size;simp only[World.size_alloc,World.size_drew] at z5;have q5:=Bk.below (Bk.new wr yR 29) d (by simp);have f8:=q5.cell;have f9:=q5.free;have B5:=((Below.refl wr.heap.size wr).alloc (Nat.le_refl _) (.cells yR 29)).trans (d.mono (by simp));have s5:=OwC.sl I a1 a2;have m5:∀g a8,s=some ⟨g,a8,none⟩→g≠wr.heap.size:=fun g a8 hg=>(by have h1:=OwC.lt2 I hg;(try simp only[World.size_alloc,World.size_drew] at h1);omega))
     refine c.out _ _ (r.out _ yj) fun t=> ?_;try simp only[Act.put,rR]
     refine tk 6 ?_;refine tk 7 ?_;refine tk 8 ?_;refine tk 9 ?_;try simp only[Act.put,rR]
     refine rd1 11 fun D c=> ?_;go_simp;refine c.out _ _ (r.out _ yj) fun t=> ?_;try simp only[Act.put,rR]
     refine tk 12 ?_;refine tk 13 ?_;try simp only[Act.put,rR]
     refine wpAnyH_done kr ?_ _;simp only[Act.put,yW];go_wp2_with fail;go_meet;exact⟨_,s,C,rfl,rfl,rfl,Nat.le_refl _,wJ q5 ⟨J,L,M,N,v⟩ _ _,jZ s5 m5 ⟨J,L,M,N,v⟩ _ _,yx B5 (Nat.le_refl _) ⟨J,L,M,N,v⟩ _ _⟩
   case rest=>
   obtain⟨j0,j1,j2,rfl,rfl,rfl,j3,e2,e3,e4⟩:=hcut;generalize wc=w9 at*;have K:=((K.step e4).and (Kp.bk e2)).and (Kp.sl e3);clear e4 e2 e3;obtain⟨⟨⟨⟨_,k8⟩,s8⟩,k9⟩,s9⟩:=K.now;have X:=k8.cell;have j5:=k9.cell;go_wp2_with fail;refine(cE _ _ _ _ _ s8 s9).mono ?_;rintro e j6 ⟨rfl,b⟩;have g:=(K.step b).now.1.1.1.1.1.1.1;go_wp2;go_ret;exact⟨zS (by first|rfl|simp),g⟩
theorem Vx {o l m:Int}{dict log:Bs} :wU o l m dict log=none∨∃(T:Sto) (n:Int),wU o l m dict log=some (T,n)∧T.ok∧fits o l m dict∧log.length≤30000∧Zn (kz o l m dict) 0 (nS log)=(T,n):=by
 cases h:wU o l m dict log with
 |none=>exact .inl rfl
 |some p=>
  obtain⟨T,n⟩:=p;obtain⟨b,xs,c,a⟩:=nV h;refine .inr ⟨T,n,rfl,a.ok.1,a.fit,a.short,?_⟩;have h2:=h;unfold wU at h2;rw[if_pos ⟨a.fit,a.short⟩,U4] at h2;injection h2
theorem OO {S:Sto}{a:Int}{p:OpR×Int}{L:List (OpR×Int)}(h:apO S p.1=none):Zn S a (p::L)=(S,a):=by obtain⟨x,e⟩:=p;unfold Zn;rw[h]
theorem Na {S U:Sto}{a:Int}{p:OpR×Int}{L:List (OpR×Int)}(h:apO S p.1=some U):Zn S a (p::L)=Zn U p.2 L:=by
 obtain⟨x,e⟩:=p
 conv=>lhs;unfold Zn
 have b:apO S x=some U:=h;rw[b]
theorem Rl (U:Bs)(A:Option Addr)(cap:Nat)(w:World)(P:Ev w)(hs:Sl w A U.length cap 1 (U.map u8v)):
 Calls prog 6 #[.slice A U.length cap] w (rT w (.bool true)):=by
 have K:=(Kp.base w).and (Kp.of fun wr h=>P.on h);clear P;go_enter func6,ntmps6;by_cases l8:1048576<U.length
 ·have p4:(1048576:Int)<U.length:=oo
  go_wp2;go_ret;exact⟨rfl,Below.refl _ _⟩
 have p5:¬(1048576:Int)<U.length:=oo;have cD:=oN U A cap w hs;unfold DrL at cD;clear hs l8;go_wp2_with fail;refine cD.mono ?_;rintro e w1 ⟨⟨o,l,m,dict,log,rfl,p6,p7⟩,b⟩;have K:=K.step b;have K:=K.box #[o,l,m] 24;clear cD b;go_upto_region 4 with(fail)
 generalize w1.alloc (.cells #[o,l,m] 24)=w2 at*;generalize w1.heap.size=sb at*;have cI:=fun w h=>wW o l m dict log w h oo oo;have cS:=fun w=>uG o l m dict log w oo oo;unfold WW Vs at cI;unfold Qb StI at cS;have J:=Vx (o:=o) (l:=l) (m:=m) (dict:=dict) (log:=log);obtain⟨T,Q⟩:∃T,((wU o l m dict log).map fun p:Sto×Int=>p.1).getD y7=T:=⟨_,rfl⟩;obtain⟨tn,d3⟩:∃n,((wU o l m dict log).map fun p:Sto×Int=>p.2).getD 0=n:=⟨_,rfl⟩;obtain⟨tb,b9⟩:∃b,(wU o l m dict log).isSome=b:=⟨_,rfl⟩;rw[Q,d3,b9] at cI cS;have HN:Hid (tb=true→T.ok∧fits o l m dict∧Zn (kz o l m dict) 0 (nS log)=(T,tn)):=fun h=>by
  rcases J with J|⟨a',n,J,h1,h2,_,h3⟩
  ·rw[J] at b9;rw[h] at b9;cases b9
  ·rw[J] at Q d3
   have W:a'=T:=Q;have e2:n=tn:=d3;subst W e2;exact⟨h1,h2,h3⟩
 have l':T.fs.length≤6:=by
  rcases J with J|⟨a',n,J,h1,_⟩
  ·rw[J] at Q;rw[←Q];simp [y7]
  ·rw[J] at Q;have W:a'=T:=Q;subst W;exact h1.2.1
 clear Q d3 b9 J;have cE:Hid (∀A B O cb w,Sl w A T.fs.length O 2 (yz T.fs)→Sl w B T.fs.length cb 2 (yz T.fs)→Calls prog 11 #[T.V A O,T.V B cb] w (rT w (.bool true))):=fun A B O cb w ha hb=>qg T A B O cb w ha hb oo;have cV:Hid (T.ok→∀A O w,Sl w A T.fs.length O 2 (yz T.fs)→Calls prog 18 #[T.V A O] w (rT w (.bool true))):=fun h A O w hs=>by
  have hb:=h.bd;have p':=hb.1;have q0:=hb.2.1;have:=kE T A O w hs oo oo hb.2.2;rw[(Sto.dS T).2 h] at this;exact this
 obtain⟨Y,Z,a0,a1,a2⟩:=T;try simp only at cE cV l'
 obtain⟨⟨_,P⟩,z⟩:=K.now;have X:=z.cell;go_wp2_with fail;refine(cI _ P).mono ?_;rintro e w3 ⟨A3,c3,rfl,o3,⟨m1,m2⟩,b⟩;have K:=(K.step b).and (Kp.sl (OwC.sl o3 m1 m2));have K:=K.box #[(Y:Int),Z,a0,a1,.slice A3 a2.length c3] 29;clear b P z cI X o3;go_upto_region 5 with(fail)
 generalize w3.alloc (.cells #[(Y:Int),Z,a0,a1,.slice A3 a2.length c3] 29)=w4 at*;generalize w3.heap.size=q3 at*;obtain⟨⟨⟨_,z⟩,_⟩,_⟩:=K.now;have X:=z.cell;go_wp2_with fail;refine(cS _).mono ?_;rintro e w5 ⟨A5,c5,rfl,o5,b⟩;try simp only at o5
 have K:=(K.step b).and (Kp.sl (Sl.own o5));have K:=K.box #[(Y:Int),Z,a0,a1,.slice A5 a2.length c5] 29;clear b z cS X o5;go_upto_region 6 with(fail)
 generalize w5.alloc (.cells #[(Y:Int),Z,a0,a1,.slice A5 a2.length c5] 29)=w6 at*;generalize w5.heap.size=q5 at*;obtain⟨⟨⟨⟨_,D⟩,E⟩,H⟩,I⟩:=K.now;have X:=E.cell;have b1:=I.cell;go_wp2_with fail;refine(cE.out _ _ _ _ _ D H).mono ?_;rintro e w7 ⟨rfl,b⟩;have K:=K.step b;clear b D E H I X b1
 cases tb with
 |false=>
  obtain⟨⟨⟨⟨_,D⟩,E⟩,H⟩,I⟩:=K.now;have X:=E.cell;have b1:=I.cell;go_wp2_with fail;refine(cE.out _ _ _ _ _ D H).mono ?_;rintro e F ⟨rfl,b⟩;have g:=(K.step b).now.1.1.1.1.1.1;go_wp2;go_ret;exact⟨zS (by first|rfl|simp),g⟩
 |true=>
 obtain⟨i8,e7,i9⟩:=HN.out rfl;have e8:=hid (cV.out i8);have i':Hid ((kz o l m dict).ok):=Zx e7;have j0:Hid (∀p ∈ nS log,p.1.ok):=fun p hp=>(PR (log.length+1) log 0 p hp).1;have q8:(nS log).length≤1000000:=(by have:=gJ (log.length+1) log 0 oo;unfold nS;omega);have cO:=fun w h=>bP log w h oo;unfold L6 at cO;generalize nS log=L at*;have j1:=hid i9;have cM:=fun w=>kJ o l m dict w oo;unfold rq at cM;rw[if_pos e7] at cM;unfold stV at cM;clear HN cV i8 e7 i9;obtain⟨⟨⟨⟨⟨_,z⟩,D⟩,E⟩,H⟩,I⟩:=K.now;have X:=z.cell;clear D E H I z;go_wp2_with fail;refine(cM _).mono ?_;rintro e F ⟨rfl,b⟩;have K:=K.step b;have Q9:=Bk.new F #[o,l,m,dict,.slice none 0 0] 29;have B9:Below F.heap.size F (F.alloc (.cells #[o,l,m,dict,.slice none 0 0] 29)):=zy;clear b cM X;go_upto_region 9 with(fail)
 generalize F.alloc (.cells #[o,l,m,dict,.slice none 0 0] 29)=w9 at*;have l9:=Q9.lt;have P:=(K _ B9).1.1.1.1.1.2;go_wp2_with fail;refine(cO _ P).mono ?_;rintro e q' ⟨j3,m4,j4,m5,rfl,oA,oB,b⟩;have r0:=b.size;have f1:=Q9.below b l9;have j5:=B9.trans (b.mono oo);have SA:=Sl.own oA;have SB:=Sl.own oB;have j6:∀g f,j3=some ⟨g,f,none⟩→g≠F.heap.size:=fun g f h=>(by subst h;have:=(oA.lt g rfl).1;omega);have j7:∀g f,j4=some ⟨g,f,none⟩→g≠F.heap.size:=fun g f h=>(by subst h;have:=(oB.lt g rfl).1;omega);clear b P cO Q9 B9 oA oB;have f2:=hid j6;have j8:=hid j7;clear j6 j7;obtain⟨c,m7⟩:∃m8,F.heap.size=m8:=⟨_,rfl⟩;rw[m7] at f1 f2 j8 l9;go_wp2;go_loopw [16,17] (fun a i wr=>∃(j:Nat) (n:Int) (S:Sto) (A:Option Addr) (cp:Nat),a= .int .i64 n∧i= .int .i64 (j:Int)∧j≤L.length∧Hid (Zn S n (L.drop j)=(⟨Y,Z,a0,a1,a2⟩,tn))∧Hid (S.ok)∧Bk wr c 29 (S.C A cp)∧Sl wr A S.fs.length cp 2 (yz S.fs)∧Hid (∀g f,A=some ⟨g,f,none⟩→g≠c)∧Sl wr j3 L.length m4 6 (opsV (L.map (·.1)))∧Sl wr j4 L.length m5 1 (L.map fun p=>Value.int .i64 p.2)∧Below F.heap.size F wr) (fun _ i _=>L.length - (intOf i).toNat)
 case atStart=>exact⟨0,0,kz o l m dict,none,0,rfl,rfl,oo,j1.out,i'.out,f1,Sl.nil _ _,fun g f h=>(by cases h),SA,SB,j5⟩
 case round=>
  clear f1 SA SB j5 j1 i';obtain⟨j,n,S,A,cp,rfl,rfl,hj,HG,HS,Qr,sS,HA,SA,SB,Br⟩:=hrel;have zr:=Br.size;have lr:=Qr.lt;by_cases b3:j<L.length
  ·have m9:(j:Int)<L.length:=oo
   have d6:=j0.out L[j] (List.getElem_mem b3);have f3:L.drop j=L[j]::L.drop (j+1):=List.drop_eq_getElem_cons b3;have d7:=HS.out.bd;have f4:=d6.bd;have m':=d7.1;have n0:=d7.2.1;have n1:=f4.2.2.2.2.2.2.1;have n2:=f4.2.2.2.2.2.2.2.1;have cA:=fun A cap w h=>Ua S L[j].1 A cap w h ⟨by omega,oo,d7.2.2⟩ ⟨by omega,oo⟩;rw[Qa HS.out d6] at cA;have f5:Hid ((apO S L[j].1).isSome=false→S=⟨Y,Z,a0,a1,a2⟩∧n=tn):=fun h=>by
    have h2:=HG.out;rw[f3,OO (by simpa using h)] at h2;injection h2 with h3 h4
    exact⟨h3,h4⟩
   have f6:Hid ((apO S L[j].1).isSome=true→((apO S L[j].1).getD y7).ok∧Zn ((apO S L[j].1).getD y7) L[j].2 (L.drop (j+1))=(⟨Y,Z,a0,a1,a2⟩,tn)):=fun h=>by
    obtain⟨a',hU⟩:=Option.isSome_iff_exists.1 h;have h2:=HG.out;rw[f3,Na hU] at h2;rw[hU];exact⟨(dC HS.out d6 hU).ok,h2⟩
   obtain⟨y,G,j',n3,k0⟩:=SA.2.2.2 (show 0<L.length by omega);have k1:Hid (∀c7,Below wr.heap.size wr c7→∀i,(hi:i<6)→c7.cell? ⟨y,G+j*6+i,none⟩=L[j].1.cells[i]?):=fun c7 h i hi=>by
    have k2:=Jt (L.map (·.1)) j (by simpa using b3) i hi;rw[List.getElem_map] at k2;have b4:L[j].1.cells[i]? =some (L[j].1.cells[i]'(by simpa [OpR.cells] using hi)):=Array.getElem?_eq_getElem _;rw[b4,Nat.add_assoc];exact(h.cell (p:=⟨y,_,none⟩) n3).trans (k0 _ _ (k2.trans b4))
   have r4:y≠c:=f2.out _ _ j';obtain⟨gB,n5,uB,n6,n7,d8,k3⟩:=SB.at1 b3;have k4:=d8;rw[List.getElem?_map,List.getElem?_eq_getElem b3] at d8;simp only[Option.map_some,Option.some.injEq] at d8;subst d8;have n8:=hid k4;subst n6;clear d7 m' n0 f4 n1 n2 d6 f3 k0 HG HS k4;generalize(apO S L[j].1).getD y7=a' at*;generalize(apO S L[j].1).isSome=ub at*;generalize L[j].2=ej at*;generalize L[j].1=x at*;obtain⟨xk,xf,xt,xs,xn,xd⟩:=x;obtain⟨s,t,u,v,k⟩:=a';obtain⟨So,Sq,Sm,Sd,SP⟩:=S;unfold StP at cA;have Xq:=Qr.cell;have R:Hid (∀w',Below wr.heap.size wr w'→w'.cell? ⟨c,0,none⟩=some (.int .i64 So)∧w'.cell? ⟨c,1,none⟩=some (.int .i64 Sq)∧w'.cell? ⟨c,2,none⟩=some (.int .i64 Sm)∧w'.cell? ⟨c,3,none⟩=some (.string ⟨Sd.toArray⟩)∧w'.cell? ⟨c,4,none⟩=some (.slice A SP.length cp)∧w'.cell? ⟨y,G+j*6,none⟩=some (.int .i64 xk)∧w'.cell? ⟨y,G+j*6+1,none⟩=some (.string ⟨xn.toArray⟩)∧w'.cell? ⟨y,G+j*6+2,none⟩=some (.int .i64 xf)∧w'.cell? ⟨y,G+j*6+3,none⟩=some (.int .i64 xt)∧w'.cell? ⟨y,G+j*6+4,none⟩=some (.int .i64 xs)∧w'.cell? ⟨y,G+j*6+5,none⟩=some (.string ⟨xd.toArray⟩)):=fun c7 h=>by
    have kq:=(Qr.below h lr).cell;have ko:=k1.out c7 h;exact⟨kq 0,kq 1,kq 2,kq 3,kq 4,ko 0 oo,ko 1 oo,ko 2 oo,ko 3 oo,ko 4 oo,ko 5 oo⟩
   clear k1;subst j';go_upto_region 14 with(fail)
   go_cut [18,19] (fun p b M=>∃(gp:Nat) (d:Option Addr) (q:Nat),p= .pointer (some ⟨gp,0,none⟩)∧b= .bool ub∧wr.heap.size≤gp∧Bk M gp 29 #[(s:Int),t,u,v,.slice d k.length q]∧Sl M d k.length q 2 (yz k)∧Hid (∀g f,d=some ⟨g,f,none⟩→g≠c)∧Below wr.heap.size wr M)
   case first=>
    have B0:=Below.refl wr.heap.size wr;clear Xq;refine wp_region_held_drew (S:=(fun w'=>w'.cell? ⟨c,0,none⟩=some (.int .i64 So)∧w'.cell? ⟨c,1,none⟩=some (.int .i64 Sq)∧w'.cell? ⟨c,2,none⟩=some (.int .i64 Sm)∧w'.cell? ⟨c,3,none⟩=some (.string ⟨Sd.toArray⟩)∧w'.cell? ⟨c,4,none⟩=some (.slice A SP.length cp)∧w'.cell? ⟨y,G+j*6,none⟩=some (.int .i64 xk)∧w'.cell? ⟨y,G+j*6+1,none⟩=some (.string ⟨xn.toArray⟩)∧w'.cell? ⟨y,G+j*6+2,none⟩=some (.int .i64 xf)∧w'.cell? ⟨y,G+j*6+3,none⟩=some (.int .i64 xt)∧w'.cell? ⟨y,G+j*6+4,none⟩=some (.int .i64 xs)∧w'.cell? ⟨y,G+j*6+5,none⟩=some (.string ⟨xd.toArray⟩))) kr ?_ (fun b6=> ?_);focus(exact R.out _ yj)
    refine tk 0 ?_;refine tk 1 ?_;refine tk 2 ?_;refine tk 3 ?_;refine tk 4 ?_;try simp only[Act.put,rR]
    refine wpAnyH_ready (rs:=[5,9]) (by kernel_rfl) (by simp) ?_;refine(AllReadyH.cons (o:=_) rfl (fun KK N=> ?_) (AllReadyH.cons (o:=_) rfl (fun KK N=> ?_) AllReadyH.nil))
    ·
     go_simp
     (go_at_call 17;refine(cA A cp _ (sS.below (Below.refl _ _).drew)).mono ?_;rintro e g3 ⟨d,q,rfl,o6,⟨b4,g4⟩,r⟩;have r7:=r.size;have r:Below wr.heap.size wr g3:=zB r;have z6:=r.size;have s6:=OwC.sl o6 b4 g4;have m6:Hid (∀g f,d=some ⟨g,f,none⟩→g≠c):=fun g f hg=>(by have h1:=OwC.lt2 o6 hg;(try simp only[World.size_drew] at h1);omega))
     refine N.out _ _ (R.out _ yj) fun b6=> ?_;try simp only[Act.put,rR]
     refine tk 6 ?_;refine tk 7 ?_;refine tk 8 ?_;try simp only[Act.put,rR]
     refine rd1 9 fun KK N=> ?_;go_simp;refine N.out _ _ (R.out _ yj) fun b6=> ?_;try simp only[Act.put,rR]
     refine rd1 10 fun KK N=> ?_;go_simp;refine N.out _ _ (R.out _ yj) fun b6=> ?_;try simp only[Act.put,rR]
     refine tk 11 ?_;try simp only[Act.put,rR]
     refine wpAnyH_done kr ?_ _;simp only[Act.put,yW];go_wp2_with fail;go_meet;exact⟨_,d,q,rfl,rfl,z6,Bk.new _ _ _,s6.alloc _,m6,r.alloc oo _⟩
    ·
     go_simp;refine N.out _ _ (R.out _ yj) fun b6=> ?_;try simp only[Act.put,rR]
     refine rd1 5 fun KK N=> ?_;go_simp
     (go_at_call 17;refine(cA A cp _ (sS.below ((Below.refl _ _).alloc (Nat.le_refl _) (.cells yR 29)).drew)).mono ?_;rintro e g3 ⟨d,q,rfl,o6,⟨b4,g4⟩,r⟩;have r:Below (wr.alloc (.cells yR 29)).heap.size (wr.alloc (.cells yR 29)) g3:=zB r;have z6:=r.size;simp only[World.size_alloc,World.size_drew] at z6;have q6:=Bk.below (Bk.new wr yR 29) r (by simp);have r8:=q6.cell;have r9:=q6.free;have B6:=((Below.refl wr.heap.size wr).alloc (Nat.le_refl _) (.cells yR 29)).trans (r.mono (by simp));have s6:=OwC.sl o6 b4 g4;have l1:∀g f,d=some ⟨g,f,none⟩→wr.heap.size<g:=fun g f hg=>(by have h1:=OwC.lt2 o6 hg;(try simp only[World.size_alloc,World.size_drew] at h1);omega);have m6:Hid (∀g f,d=some ⟨g,f,none⟩→g≠c):=fun g f hg=>(by have:=l1 g f hg;omega))
     refine N.out _ _ (R.out _ yj) fun b6=> ?_;try simp only[Act.put,rR]
     refine tk 6 ?_;refine tk 7 ?_;refine tk 8 ?_;try simp only[Act.put,rR]
     refine rd1 10 fun KK N=> ?_;go_simp;refine N.out _ _ (R.out _ yj) fun b6=> ?_;try simp only[Act.put,rR]
     refine tk 11 ?_;try simp only[Act.put,rR]
     refine wpAnyH_done kr ?_ _;simp only[Act.put,yW];go_wp2_with fail;go_meet;exact⟨_,d,q,rfl,rfl,Nat.le_refl _,wJ q6 ⟨s,t,u,v,k⟩ _ _,jZ s6 (fun g f hg=>by have:=l1 g f hg;omega) ⟨s,t,u,v,k⟩ _ _,m6,yx B6 (Nat.le_refl _) ⟨s,t,u,v,k⟩ _ _⟩
   case rest=>
   obtain⟨gp,d,q,rfl,rfl,r',G6,s6,m6,r⟩:=hcut;generalize wc=M at*;have zx:=r.size;have Qx:=Qr.below r lr;have l2:=sS.below r;have g8:=SA.below r;have g9:=SB.below r;have Bx:=Br.trans (r.mono oo);have l3:=(r.cell (p:=⟨gB,n5+j,none⟩) n7).trans k3;clear Qr sS SA SB Br R Xq cA k3
   cases ub with
   |false=>
    obtain⟨h1,h2⟩:=f5.out rfl;injection h1 with W e2 e3 e4 e5
    subst W e2 e3 e4 e5 h2;have BW:=Bx;have QW:=Qx;have SW:=l2;clear f5 f6 G6 s6 m6 r g8 g9 l3;obtain⟨⟨⟨⟨⟨_,z⟩,D⟩,E⟩,H⟩,I⟩:=K _ BW;have X:=QW.cell;have b1:=E.cell;go_wp2_with fail;refine(cE.out _ _ _ _ _ SW D).mono ?_;rintro e o0 ⟨rfl,h6⟩;have a9:=BW.trans (h6.mono BW.size);obtain⟨⟨⟨⟨⟨_,z⟩,D⟩,E⟩,H⟩,I⟩:=K _ a9;have b1:=E.cell;clear X H I z;go_wp2_with fail;refine(e8.out _ _ _ D).mono ?_;rintro e o1 ⟨rfl,h7⟩;have g:=(K _ (a9.trans (h7.mono a9.size))).1.1.1.1.1.1;go_wp2;go_ret;exact⟨zS (by first|rfl|simp),g⟩
   |true=>
    obtain⟨l4,l5⟩:=f6.out rfl;have o2:=hid l4;have o4:=hid l5;clear f5 f6 l4 l5;have lx:=Qx.lt;have XG:=G6.cell;have FX:=Qx.free;have CX:∀i,M.cell? ⟨c,i,none⟩=(#[So,Sq,Sm,Sd,.slice A SP.length cp]:Array Value)[i]? :=Qx.cell;have o':F.heap.size≤c:=oo;clear K cE e8 j0;go_upto_region 17 with(fail)
    have p0:Bk (((((M.setCell ⟨c,0,none⟩ (.int .i64 s)).setCell ⟨c,1,none⟩ (.int .i64 t)).setCell ⟨c,2,none⟩ (.int .i64 u)).setCell ⟨c,3,none⟩ (.string ⟨v.toArray⟩)).setCell ⟨c,4,none⟩ (.slice d k.length q)) c 29 #[(s:Int),t,u,v,.slice d k.length q]:=wJ Qx ⟨s,t,u,v,k⟩ d q;have p1:Sl (((((M.setCell ⟨c,0,none⟩ (.int .i64 s)).setCell ⟨c,1,none⟩ (.int .i64 t)).setCell ⟨c,2,none⟩ (.int .i64 u)).setCell ⟨c,3,none⟩ (.string ⟨v.toArray⟩)).setCell ⟨c,4,none⟩ (.slice d k.length q)) d k.length q 2 (yz k):=jZ s6 m6.out ⟨s,t,u,v,k⟩ d q;have p2:=show Sl (((((M.setCell ⟨c,0,none⟩ (.int .i64 s)).setCell ⟨c,1,none⟩ (.int .i64 t)).setCell ⟨c,2,none⟩ (.int .i64 u)).setCell ⟨c,3,none⟩ (.string ⟨v.toArray⟩)).setCell ⟨c,4,none⟩ (.slice d k.length q)) _ _ _ _ _ from jZ g8 f2.out ⟨s,t,u,v,k⟩ d q
    have l6:=show Sl (((((M.setCell ⟨c,0,none⟩ (.int .i64 s)).setCell ⟨c,1,none⟩ (.int .i64 t)).setCell ⟨c,2,none⟩ (.int .i64 u)).setCell ⟨c,3,none⟩ (.string ⟨v.toArray⟩)).setCell ⟨c,4,none⟩ (.slice d k.length q)) _ _ _ _ _ from jZ g9 j8.out ⟨s,t,u,v,k⟩ d q
    have p3:Below F.heap.size F (((((M.setCell ⟨c,0,none⟩ (.int .i64 s)).setCell ⟨c,1,none⟩ (.int .i64 t)).setCell ⟨c,2,none⟩ (.int .i64 u)).setCell ⟨c,3,none⟩ (.string ⟨v.toArray⟩)).setCell ⟨c,4,none⟩ (.slice d k.length q)):=yx Bx o' ⟨s,t,u,v,k⟩ d q;clear l2 g8 g9 Bx s6 l3 Qx G6 XG FX CX r;generalize((((M.setCell ⟨c,0,none⟩ (.int .i64 s)).setCell ⟨c,1,none⟩ (.int .i64 t)).setCell ⟨c,2,none⟩ (.int .i64 u)).setCell ⟨c,3,none⟩ (.string ⟨v.toArray⟩)).setCell ⟨c,4,none⟩ (.slice d k.length q)=s2 at*;obtain⟨g',s4,u',e',_,d',s7⟩:=l6.at1 b3;injection e' with e'
    injection e' with W e2
    subst W e2;rw[n8.out] at d';injection d' with d'
    subst d';go_wp2;go_roundw
    case rel=>exact⟨j+1,ej,⟨s,t,u,v,k⟩,d,q,rfl,by go_num,oo,o4.out,o2.out,p0,p1,m6,p2,l6,p3⟩
    case measure=>simp [intOf];omega
  ·have m9:¬(j:Int)<L.length:=oo
   have h2:=HG.out;rw[List.drop_of_length_le (by omega)] at h2;injection h2 with h3 h4
   subst h3 h4;have BW:=Br;have QW:=Qr;have SW:=sS;clear SA SB HG HS;obtain⟨⟨⟨⟨⟨_,z⟩,D⟩,E⟩,H⟩,I⟩:=K _ BW;have X:=QW.cell;have b1:=E.cell;go_wp2_with fail;refine(cE.out _ _ _ _ _ SW D).mono ?_;rintro e o0 ⟨rfl,h6⟩;have a9:=BW.trans (h6.mono BW.size);obtain⟨⟨⟨⟨⟨_,z⟩,D⟩,E⟩,H⟩,I⟩:=K _ a9;have b1:=E.cell;clear X H I z;go_wp2_with fail;refine(e8.out _ _ _ D).mono ?_;rintro e o1 ⟨rfl,h7⟩;have g:=(K _ (a9.trans (h7.mono a9.size))).1.1.1.1.1.1;go_wp2;go_ret;exact⟨zS (by first|rfl|simp),g⟩
def ChF (o l m:Int)(dict log:Bs)(b:Nat)(es:List Nat):Prop:=0<b∧b≤log.length∧(∀e ∈ es,e≤log.length)∧es.length≤100000∧(nS (log.take b)).length=es.length∧((nS (log.take b)).map fun p=>Value.int .i64 p.2)=(es.map fun e:Nat=>Value.int .i64 (e:Int))∧
 ∀k,k<b→yT k 0 es≤k∧∃U,U.fs.length≤6∧wU o l m dict (log.take (yT k 0 es))=some (U,(yT k 0 es:Int))∧
  (yT k 0 es+2≤k→∀c d:UInt8,log[k]? =some d→((c.toNat:Int) - d.toNat) % 255≠0→wU o l m dict (log.take k++c::log.drop (k+1))=some (U,(yT k 0 es:Int)))
theorem VB {o l m:Int}{dict log:Bs} :wU o l m dict log=none∨∃(T:Sto) (b:Nat),wU o l m dict log=some (T,(b:Int))∧T.fs.length≤6∧(0<b→∃es,ChF o l m dict log b es):=by
 cases h:wU o l m dict log with
 |none=>exact .inl rfl
 |some p=>
  obtain⟨T,n⟩:=p;obtain⟨b,xs,rfl,a⟩:=nV h;have c:=UA xs;rw[←a.scan] at c;refine .inr ⟨T,b,rfl,a.ok.1.2.1,fun h0=>⟨wY 0 xs,h0,a.le,fun e d=>Nat.le_trans (a.chain.le e d) a.le,?_,c.1,c.2,fun k hk=>a.change hk⟩⟩;rw[rD];have:=a.chain.bd.1;have:=a.le;have:=a.short;omega
theorem ax (bs:Bs)(A:Option Addr)(cap:Nat)(N:Bs)(A2:Option Addr)(e0:Nat)(w:World)(a1:Ev w)(hs:Sl w A bs.length cap 1 (bs.map u8v))(e3:Sl w A2 N.length e0 1 (N.map u8v)):
 Calls prog 5 #[.slice A bs.length cap,.slice A2 N.length e0] w (rT w (.bool true)):=by
 have K:=(Kp.base w).and (Kp.of fun wr h=>a1.on h);clear a1;go_enter func5,ntmps5;by_cases h9:1048576<bs.length
 ·have h':(1048576:Int)<bs.length:=oo
  go_wp2;go_ret;exact⟨rfl,Below.refl _ _⟩
 have k0:¬(1048576:Int)<bs.length:=oo;by_cases k1:1048576<N.length
 ·have h':(1048576:Int)<N.length:=oo
  go_wp2;go_ret;exact⟨rfl,Below.refl _ _⟩
 have k2:¬(1048576:Int)<N.length:=oo;have cD:=dJ bs A cap w hs;unfold Ia at cD;clear hs e3 h9;go_wp2_with fail;refine cD.mono ?_;rintro e w1 ⟨⟨o,l,m,dict,log,x,rfl,k4,k6,hx⟩,b⟩;have K:=K.step b;have K:=K.box #[o,l,m] 24;obtain⟨xk,xf,xt,xs,xn,xd⟩:=x;clear cD b hx;have K:=K.alloc (.cells #[xk,xn,xf,xt,xs,xd] 42);go_upto_region 4 with(fail)
 generalize(w1.alloc (.cells #[o,l,m] 24)).alloc (.cells #[xk,xn,xf,xt,xs,xd] 42)=w2 at*;generalize w1.heap.size=O at*;have cI:=fun w h=>wW o l m dict log w h oo oo;have cS:=fun w=>uG o l m dict log w oo oo;unfold WW Vs at cI;unfold Qb StI at cS;have R:=VB (o:=o) (l:=l) (m:=m) (dict:=dict) (log:=log);obtain⟨T,hT⟩:∃T,((wU o l m dict log).map fun p:Sto×Int=>p.1).getD y7=T:=⟨_,rfl⟩;obtain⟨tn,b9⟩:∃n,((wU o l m dict log).map fun p:Sto×Int=>p.2).getD 0=n:=⟨_,rfl⟩;obtain⟨tb,Y⟩:∃b,(wU o l m dict log).isSome=b:=⟨_,rfl⟩;rw[hT,b9,Y] at cI cS;have HN:Hid (tb=true→∃b:Nat,tn=(b:Int)∧(0<b→∃es,ChF o l m dict log b es)):=fun h=>by
  rcases R with R|⟨U,n,R,h1,h2⟩
  ·rw[R] at Y;rw[h] at Y;cases Y
  ·rw[R] at b9
   exact⟨n,b9.symm,h2⟩
 have i1:T.fs.length≤6:=by
  rcases R with R|⟨U,n,R,h1,_⟩
  ·rw[R] at hT;rw[←hT];simp [y7]
  ·rw[R] at hT;have e1:U=T:=hT;subst e1;exact h1
 clear hT b9 Y R;have cE:Hid (∀A B Z cb w,Sl w A T.fs.length Z 2 (yz T.fs)→Sl w B T.fs.length cb 2 (yz T.fs)→Calls prog 11 #[T.V A Z,T.V B cb] w (rT w (.bool true))):=fun A B Z cb w ha J=>qg T A B Z cb w ha J oo;obtain⟨c1,c2,c4,c5,c6⟩:=T;try simp only at cE i1
 obtain⟨⟨_,a1⟩,L⟩:=K.now;have a2:=L.cell;go_wp2_with fail;refine(cI _ a1).mono ?_;rintro e w3 ⟨A3,c3,rfl,o3,⟨i2,i3⟩,b⟩;have K:=(K.step b).and (Kp.sl (OwC.sl o3 i2 i3));have K:=K.box #[c1,c2,c4,c5,.slice A3 c6.length c3] 29;clear b a1 L cI a2 o3;go_upto_region 5 with(fail)
 generalize w3.alloc (.cells #[c1,c2,c4,c5,.slice A3 c6.length c3] 29)=w4 at*;generalize w3.heap.size=q3 at*;obtain⟨⟨⟨_,L⟩,_⟩,_⟩:=K.now;have a2:=L.cell;go_wp2_with fail;refine(cS _).mono ?_;rintro e w5 ⟨y,E,rfl,u,b⟩;try simp only at u
 have K:=(K.step b).and (Kp.sl (Sl.own u));have K:=K.box #[c1,c2,c4,c5,.slice y c6.length E] 29;clear b L cS a2 u;go_upto_region 6 with(fail)
 generalize w5.alloc (.cells #[c1,c2,c4,c5,.slice y c6.length E] 29)=w6 at*;generalize w5.heap.size=v at*;obtain⟨⟨⟨⟨_,s3⟩,k3⟩,C⟩,k5⟩:=K.now;have a2:=k3.cell;have f3:=k5.cell;go_wp2_with fail;refine(cE.out _ _ _ _ _ s3 C).mono ?_;rintro e w7 ⟨rfl,b⟩;have K:=K.step b;clear b s3 k3 C k5 a2 f3;have J:(tb=false∨tn=0)∨(tb=true∧∃(b:Nat) (es:List Nat),tn=(b:Int)∧ChF o l m dict log b es):=by
  cases Y:tb with
  |false=>exact .inl (.inl rfl)
  |true=>
   obtain⟨b,e1,e2⟩:=HN.out Y;by_cases h0:b=0
   ·exact .inl (.inr (by rw[e1,h0];rfl))
   ·obtain⟨es,i5⟩:=e2 oo
    exact .inr ⟨rfl,b,es,e1,i5⟩
 clear HN;rcases J with J|⟨rfl,b,es,rfl,i6,l3,f4,l4,f5,f6,f7⟩
 ·obtain⟨⟨⟨⟨_,s3⟩,k3⟩,C⟩,k5⟩:=K.now
  have a2:=k3.cell;have f3:=k5.cell;rcases J with rfl|rfl
  ·go_wp2_with fail
   refine(cE.out _ _ _ _ _ s3 C).mono ?_;rintro e w8 ⟨rfl,b⟩;have g:=(K.step b).now.1.1.1.1.1.1;go_wp2;go_ret;exact⟨zS (by first|rfl|simp),g⟩
  ·cases tb<;>
   ·go_wp2_with fail
    refine(cE.out _ _ _ _ _ s3 C).mono ?_;rintro e w8 ⟨rfl,b⟩;have g:=(K.step b).now.1.1.1.1.1.1;go_wp2;go_ret;exact⟨zS (by first|rfl|simp),g⟩
 obtain⟨k,hk⟩:∃k,N.length % b=k:=⟨_,rfl⟩;have i7:k<b:=(by rw[←hk];exact Nat.mod_lt _ i6);have f8:(N.length:Int) % (b:Int)=(k:Int):=(by rw[←hk];push_cast;rfl);have i8:Int.tmod (N.length:Int) (b:Int)=(k:Int):=(by rw[Int.tmod_eq_emod_of_nonneg (by omega)];exact f8);clear hk;have i9:¬(b:Int)=0:=oo;have l5:((b:Int)==0)=false:=(by rw[beq_eq_false_iff_ne];exact i9);have l6:(b:Int)≤log.length:=oo;obtain⟨l8,U,i',f9,f'⟩:=f7 k i7;clear f7;have a1:=K.now.1.1.1.1.1.2;have cO:=bP (log.take b);unfold L6 at cO;rw[f5,f6] at cO;have g0:Hid (∀i (h:i<es.length),yT k 0 (es.take (i+1))=if es[i]≤k then es[i] else yT k 0 (es.take i)):=fun i h=>Yu h;have g1:Hid (yT k 0 (es.take es.length)=yT k 0 es):=(by show _=_;rw[List.take_length]);have g2:=hid f4;clear f5 f6 f4;go_upto_region 9 with(fail)
 clear f8 i8;go_wp2_with fail;refine(cO _ a1 (by rw[List.length_take];omega)).mono ?_;rintro e w8 ⟨A7,c7,B7,m1,rfl,_,oB,b⟩;have SB:=Sl.own oB;have K:=(K.step b).and (Kp.sl SB);clear b oB cO a1 SB;go_wp2;go_loopw [18,19] (fun a i wr=>∃j:Nat,a= .int .i64 (yT k 0 (es.take j):Int)∧i= .int .i64 (j:Int)∧j≤es.length∧Below w8.heap.size w8 wr) (fun _ i _=>es.length - (intOf i).toNat)
 case atStart=>exact⟨0,rfl,rfl,oo,Below.refl _ _⟩
 case round=>
  obtain⟨j,rfl,rfl,hj,J⟩:=hrel;by_cases d0:j<es.length
  ·have j0:(j:Int)<es.length:=oo
   have sE:=(K wr J).2;obtain⟨g,P,m3,rfl,hg,hu,hc⟩:=sE.at1 d0;rw[List.getElem?_map,List.getElem?_eq_getElem d0] at hu;simp only[Option.map_some,Option.some.injEq] at hu;subst hu;have g5:=g0.out j d0;have m6:=g2.out es[j] (List.getElem_mem d0);generalize es[j]=ej at*;have d2:=hid g5;clear g5 sE;by_cases g6:ej≤k
   ·have j1:(ej:Int)≤(k:Int):=oo
    have d7:Hid (yT k 0 (es.take (j+1))=ej):=(by show _=_;rw[d2.out,if_pos g6]);clear d2;go_wp2;go_roundw
    case rel=>exact⟨j+1,by rw[d7.out],by go_num,by omega,J⟩
    case measure=>simp [intOf];omega
   ·have j1:¬(ej:Int)≤(k:Int):=oo
    have d7:Hid (yT k 0 (es.take (j+1))=yT k 0 (es.take j)):=(by show _=_;rw[d2.out,if_neg g6]);clear d2;go_wp2;go_roundw
    case rel=>exact⟨j+1,by rw[d7.out],by go_num,by omega,J⟩
    case measure=>simp [intOf];omega
  ·have j0:¬(j:Int)<es.length:=oo
   have he:j=es.length:=oo;subst he;rw[g1.out];have K:=K.step J;clear J g0 g2 g1;generalize yT k 0 es=lc at*;have j3:k<log.length:=oo;have m7:(k:Int)<log.length:=oo;obtain⟨d,hd⟩:∃d,log[k]? =some d:=⟨_,List.getElem?_eq_getElem j3⟩;go_upto_region 17 with(fail)
   obtain⟨c,g8⟩:∃c:UInt8,wrap64 (wrap64 (byteAt log ↑k+1)+↑N.length / 7 % 254) % 256=(c.toNat:Int):=by
    refine⟨UInt8.ofNat ((wrap64 (wrap64 (byteAt log ↑k+1)+↑N.length / 7 % 254) % 256).toNat),?_⟩;generalize wrap64 (wrap64 (byteAt log ↑k+1)+↑N.length / 7 % 254)=a2;rw[UInt8.toNat_ofNat'];omega
   rw[g8];clear g8;have m8:byteAt log (k:Int)=(d.toNat:Int):=(by unfold byteAt;rw[Int.toNat_natCast,hd];rfl);have m9:=d.toNat_lt;have m':=c.toNat_lt;by_cases h2:k<lc+2
   ·have j4:(k:Int)<(lc:Int)+2:=oo
    have g:=K.now.1.1.1.1.1.1.1;go_wp2;go_ret;exact⟨rfl,g⟩
   have j4:¬(k:Int)<(lc:Int)+2:=oo;by_cases ht:((c.toNat:Int) - d.toNat).tmod 255=0
   ·have Y:(((c.toNat:Int) - d.toNat).tmod 255==0)=true:=by rw[beq_iff_eq];exact ht
    have g:=K.now.1.1.1.1.1.1.1;clear ht;go_wp2;go_ret;exact⟨rfl,g⟩
   have Y:(((c.toNat:Int) - d.toNat).tmod 255==0)=false:=(by rw[beq_eq_false_iff_ne];exact ht);have g9:=f' oo c d hd fun h=>ht (Int.tmod_eq_zero_of_dvd (Int.dvd_of_emod_eq_zero h));clear f' ht;have n0:k≤log.length:=oo;have n1:k+1≤log.length:=oo;have n2:¬9223372036854775807<log.length:=oo;have n3:(0:Int)≤(k:Int)+1:=oo;have n4:lc≤log.length:=oo;have n5:((k:Int)+1).toNat=k+1:=oo;have n6:(k:Int)+1≤log.length:=oo;have n7:=dh log (k+1);have n8:¬9223372036854775807<k+1:=oo;have e3:¬9223372036854775807<k+1+(log.length - (k+1)):=oo;have n9:IntKind.i64.wrap ((k:Int)+1)=(k:Int)+1:=IntWalk.i64_in _ oo;have a7:=fun w h=>wW o l m dict (log.take k++c::log.drop (k+1)) w h (by omega) (by simp;omega);unfold WW Vs at a7;rw[g9] at a7;simp only[Option.map_some,Option.getD_some,Option.isSome_some] at a7;have b3:=fun w h=>wW o l m dict (log.take lc) w h (by omega) (by simp;omega);unfold WW Vs at b3;rw[f9] at b3;simp only[Option.map_some,Option.getD_some,Option.isSome_some] at b3;have cF:Hid (∀A B Z cb w,Sl w A U.fs.length Z 2 (yz U.fs)→Sl w B U.fs.length cb 2 (yz U.fs)→Calls prog 11 #[U.V A Z,U.V B cb] w (rT w (.bool true))):=fun A B Z cb w ha J=>qg U A B Z cb w ha J oo;clear g9 f9;obtain⟨F,G,H,I,z⟩:=U;try simp only at cF i'
   go_upto_region 19 with(fail)
   go_cut [21,22,23] (fun p a b wx=>∃(gp:Nat) (A3:Option Addr) (c3:Nat),p= .pointer (some ⟨gp,0,none⟩)∧a= .int .i64 (lc:Int)∧b= .bool true∧wr.heap.size≤gp∧Bk wx gp 29 #[(F:Int),G,H,I,.slice A3 z.length c3]∧Sl wx A3 z.length c3 2 (yz z)∧Below wr.heap.size wr wx)
   case first=>
    have B0:=Below.refl wr.heap.size wr;have j6:wr.heap.size≤wr.heap.size:=Nat.le_refl _;have r:Hid (∀w',Below wr.heap.size wr w'→w'.cell? ⟨O,0,none⟩=some (.int .i64 o)∧w'.cell? ⟨O,1,none⟩=some (.int .i64 l)∧w'.cell? ⟨O,2,none⟩=some (.int .i64 m)):=fun wr h=>(by have L:=(K wr h).1.1.1.1.1.2;exact⟨L.cell 0,L.cell 1,L.cell 2⟩);refine wp_region_held_drew (S:=(fun w'=>w'.cell? ⟨O,0,none⟩=some (.int .i64 o)∧w'.cell? ⟨O,1,none⟩=some (.int .i64 l)∧w'.cell? ⟨O,2,none⟩=some (.int .i64 m))) kr ?_ (fun s=> ?_);focus(exact r.out _ yj)
    refine tk 0 ?_;refine tk 1 ?_;refine tk 2 ?_;refine tk 3 ?_;refine tk 4 ?_;refine tk 5 ?_;refine tk 9 ?_;refine tk 10 ?_;refine tk 11 ?_;refine tk 12 ?_;try simp only[Act.put,rR]
    refine wpAnyH_ready (rs:=[6,19]) (by kernel_rfl) (by simp) ?_;refine(AllReadyH.cons (o:=_) rfl (fun t f=> ?_) (AllReadyH.cons (o:=_) rfl (fun t f=> ?_) AllReadyH.nil))
    ·
     go_simp;refine f.out _ _ (r.out _ yj) fun s=> ?_;try simp only[Act.put,rR]
     refine wpAnyH_ready (rs:=[7,19]) (by kernel_rfl) (by simp) ?_;refine(AllReadyH.cons (o:=_) rfl (fun t f=> ?_) (AllReadyH.cons (o:=_) rfl (fun t f=> ?_) AllReadyH.nil))
     ·
      go_simp;refine f.out _ _ (r.out _ yj) fun s=> ?_;try simp only[Act.put,rR]
      refine tk 8 ?_;refine tk 13 ?_;try simp only[Act.put,rR]
      refine wpAnyH_ready (rs:=[14,19]) (by kernel_rfl) (by simp) ?_;refine(AllReadyH.cons (o:=_) rfl (fun t f=> ?_) (AllReadyH.cons (o:=_) rfl (fun t f=> ?_) AllReadyH.nil))
      ·
       go_simp
       (go_at_call 8;refine(a7 _ ((K.step yj).now.1.1.1.1.1.1.2)).mono ?_;rintro e Q ⟨y,E,rfl,u,⟨W,X⟩,q⟩;have q:=zB q;have M:=q.size;(try simp only[World.size_alloc,World.size_drew] at M);have C:=OwC.sl u W X;have q:Below wr.heap.size wr Q:=((Below.refl wr.heap.size wr).alloc (Nat.le_refl _) _).trans (q.mono (by simp));have M:wr.heap.size≤Q.heap.size:=by omega)
       refine f.out _ _ (r.out _ yj) fun s=> ?_;try simp only[Act.put,rR]
       refine tk 15 ?_;refine tk 16 ?_;refine tk 17 ?_;refine tk 18 ?_;try simp only[Act.put,rR]
       refine rd1 19 fun t f=> ?_;go_simp;refine f.out _ _ (r.out _ yj) fun s=> ?_;try simp only[Act.put,rR]
       refine rd1 20 fun t f=> ?_;go_simp;refine f.out _ _ (r.out _ yj) fun s=> ?_;try simp only[Act.put,rR]
       refine tk 21 ?_;refine tk 22 ?_;try simp only[Act.put,rR]
       refine wpAnyH_done kr ?_ _;simp only[Act.put,yW];go_wp2_with fail;go_meet;exact⟨_,y,E,rfl,rfl,rfl,M,Bk.new _ _ _,C.alloc _,q.alloc oo _⟩
      ·
       go_simp;refine f.out _ _ (r.out _ yj) fun s=> ?_;try simp only[Act.put,rR]
       refine rd1 14 fun t f=> ?_;go_simp
       (go_at_call 8;refine(a7 _ ((K.step yj).now.1.1.1.1.1.1.2)).mono ?_;rintro e Q ⟨y,E,rfl,u,⟨W,X⟩,q⟩;have q:=zB q;have M:=q.size;(try simp only[World.size_alloc,World.size_drew] at M);have v:=Bk.below (Bk.new (wr.alloc (.cells #[.int .u8 (c.toNat:Int)] 5)) yR 29) q (by first|(simp;done)|(simp;omega));(try simp only[World.size_alloc] at v);have d8:=v.cell;have d9:=v.free;have B5:Below wr.heap.size wr Q:=(((Below.refl wr.heap.size wr).alloc (Nat.le_refl _) _).alloc (by simp) _).trans (q.mono (by simp;omega));have C:=OwC.sl u W X;have m5:∀g P,y=some ⟨g,P,none⟩→g≠(wr.heap.size+1):=fun g P hg=>(by have h1:=OwC.lt2 u hg;(try simp only[World.size_alloc,World.size_drew] at h1);omega))
       refine f.out _ _ (r.out _ yj) fun s=> ?_;try simp only[Act.put,rR]
       refine tk 15 ?_;refine tk 16 ?_;refine tk 17 ?_;refine tk 18 ?_;try simp only[Act.put,rR]
       refine rd1 20 fun t f=> ?_;go_simp;refine f.out _ _ (r.out _ yj) fun s=> ?_;try simp only[Act.put,rR]
       refine tk 21 ?_;refine tk 22 ?_;try simp only[Act.put,rR]
       refine wpAnyH_done kr ?_ _;simp only[Act.put,yW];go_wp2_with fail;go_meet;exact⟨_,y,E,rfl,rfl,rfl,oo,wJ v ⟨F,G,H,I,z⟩ _ _,jZ C m5 ⟨F,G,H,I,z⟩ _ _,yx B5 oo ⟨F,G,H,I,z⟩ _ _⟩
     ·
      go_simp;refine f.out _ _ (r.out _ yj) fun s=> ?_;try simp only[Act.put,rR]
      refine rd1 7 fun t f=> ?_;go_simp;refine f.out _ _ (r.out _ yj) fun s=> ?_;try simp only[Act.put,rR]
      refine tk 8 ?_;refine tk 13 ?_;try simp only[Act.put,rR]
      refine rd1 14 fun t f=> ?_;go_simp
      (go_at_call 8;refine(a7 _ ((K.step yj).now.1.1.1.1.1.1.2)).mono ?_;rintro e Q ⟨y,E,rfl,u,⟨W,X⟩,q⟩;have q:=zB q;have M:=q.size;(try simp only[World.size_alloc,World.size_drew] at M);have v:=Bk.below (Bk.new (wr.alloc (.cells #[.int .u8 (c.toNat:Int)] 5)) yR 29) q (by first|(simp;done)|(simp;omega));(try simp only[World.size_alloc] at v);have d8:=v.cell;have d9:=v.free;have B5:Below wr.heap.size wr Q:=(((Below.refl wr.heap.size wr).alloc (Nat.le_refl _) _).alloc (by simp) _).trans (q.mono (by simp;omega));have C:=OwC.sl u W X;have m5:∀g P,y=some ⟨g,P,none⟩→g≠(wr.heap.size+1):=fun g P hg=>(by have h1:=OwC.lt2 u hg;(try simp only[World.size_alloc,World.size_drew] at h1);omega))
      refine f.out _ _ (r.out _ yj) fun s=> ?_;try simp only[Act.put,rR]
      refine tk 15 ?_;refine tk 16 ?_;refine tk 17 ?_;refine tk 18 ?_;try simp only[Act.put,rR]
      refine rd1 20 fun t f=> ?_;go_simp;refine f.out _ _ (r.out _ yj) fun s=> ?_;try simp only[Act.put,rR]
      refine tk 21 ?_;refine tk 22 ?_;try simp only[Act.put,rR]
      refine wpAnyH_done kr ?_ _;simp only[Act.put,yW];go_wp2_with fail;go_meet;exact⟨_,y,E,rfl,rfl,rfl,oo,wJ v ⟨F,G,H,I,z⟩ _ _,jZ C m5 ⟨F,G,H,I,z⟩ _ _,yx B5 oo ⟨F,G,H,I,z⟩ _ _⟩
    ·
     go_simp;refine f.out _ _ (r.out _ yj) fun s=> ?_;try simp only[Act.put,rR]
     refine rd1 6 fun t f=> ?_;go_simp;refine f.out _ _ (r.out _ yj) fun s=> ?_;try simp only[Act.put,rR]
     refine rd1 7 fun t f=> ?_;go_simp;refine f.out _ _ (r.out _ yj) fun s=> ?_;try simp only[Act.put,rR]
     refine tk 8 ?_;refine tk 13 ?_;try simp only[Act.put,rR]
     refine rd1 14 fun t f=> ?_;go_simp
     (go_at_call 8;refine(a7 _ ((K.step yj).now.1.1.1.1.1.1.2)).mono ?_;rintro e Q ⟨y,E,rfl,u,⟨W,X⟩,q⟩;have q:=zB q;have M:=q.size;(try simp only[World.size_alloc,World.size_drew] at M);have v:=Bk.below ((Bk.new wr yR 29).alloc (.cells #[.int .u8 (c.toNat:Int)] 5)) q (by first|(simp;done)|(simp;omega));(try simp only[World.size_alloc] at v);have d8:=v.cell;have d9:=v.free;have B5:Below wr.heap.size wr Q:=(((Below.refl wr.heap.size wr).alloc (Nat.le_refl _) _).alloc (by simp) _).trans (q.mono (by simp;omega));have C:=OwC.sl u W X;have m5:∀g P,y=some ⟨g,P,none⟩→g≠wr.heap.size:=fun g P hg=>(by have h1:=OwC.lt2 u hg;(try simp only[World.size_alloc,World.size_drew] at h1);omega))
     refine f.out _ _ (r.out _ yj) fun s=> ?_;try simp only[Act.put,rR]
     refine tk 15 ?_;refine tk 16 ?_;refine tk 17 ?_;refine tk 18 ?_;try simp only[Act.put,rR]
     refine rd1 20 fun t f=> ?_;go_simp;refine f.out _ _ (r.out _ yj) fun s=> ?_;try simp only[Act.put,rR]
     refine tk 21 ?_;refine tk 22 ?_;try simp only[Act.put,rR]
     refine wpAnyH_done kr ?_ _;simp only[Act.put,yW];go_wp2_with fail;go_meet;exact⟨_,y,E,rfl,rfl,rfl,oo,wJ v ⟨F,G,H,I,z⟩ _ _,jZ C m5 ⟨F,G,H,I,z⟩ _ _,yx B5 oo ⟨F,G,H,I,z⟩ _ _⟩
   case rest=>
   obtain⟨n',o0,o1,rfl,rfl,rfl,o2,h3,h4,h5⟩:=hcut;generalize wc=D at*;have K:=((K.step h5).and (Kp.bk h3)).and (Kp.sl h4);clear h5 h3 h4 a7;have o4:(lc:Int)≤log.length:=oo;go_upto_region 20 with(fail)
   go_cut [24,25,26] (fun p a b wx=>∃(gp:Nat) (A3:Option Addr) (c3:Nat),p= .pointer (some ⟨gp,0,none⟩)∧a= .int .i64 ((lc:Int))∧b= .bool true∧D.heap.size≤gp∧Bk wx gp 29 #[(F:Int),G,H,I,.slice A3 z.length c3]∧Sl wx A3 z.length c3 2 (yz z)∧Below D.heap.size D wx)
   case first=>
    have B0:=Below.refl D.heap.size D;have j6:D.heap.size≤D.heap.size:=Nat.le_refl _;have r:Hid (∀w',Below D.heap.size D w'→w'.cell? ⟨O,0,none⟩=some (.int .i64 o)∧w'.cell? ⟨O,1,none⟩=some (.int .i64 l)∧w'.cell? ⟨O,2,none⟩=some (.int .i64 m)):=fun wr h=>(by have L:=(K wr h).1.1.1.1.1.1.1.2;exact⟨L.cell 0,L.cell 1,L.cell 2⟩);refine wp_region_held_drew (S:=(fun w'=>w'.cell? ⟨O,0,none⟩=some (.int .i64 o)∧w'.cell? ⟨O,1,none⟩=some (.int .i64 l)∧w'.cell? ⟨O,2,none⟩=some (.int .i64 m))) kr ?_ (fun s=> ?_);focus(exact r.out _ yj)
    refine tk 0 ?_;refine tk 1 ?_;refine tk 2 ?_;refine tk 3 ?_;refine tk 4 ?_;try simp only[Act.put,rR]
    refine wpAnyH_ready (rs:=[5,10]) (by kernel_rfl) (by simp) ?_;refine(AllReadyH.cons (o:=_) rfl (fun t f=> ?_) (AllReadyH.cons (o:=_) rfl (fun t f=> ?_) AllReadyH.nil))
    ·
     go_simp
     (go_at_call 8;refine(b3 _ ((K.step (Below.refl _ _).drew).now.1.1.1.1.1.1.1.1.2)).mono ?_;rintro e Q ⟨y,E,rfl,u,⟨W,X⟩,q⟩;have q:Below D.heap.size D Q:=zB q;have M:=q.size;have C:=OwC.sl u W X)
     refine f.out _ _ (r.out _ yj) fun s=> ?_;try simp only[Act.put,rR]
     refine tk 6 ?_;refine tk 7 ?_;refine tk 8 ?_;refine tk 9 ?_;try simp only[Act.put,rR]
     refine rd1 10 fun t f=> ?_;go_simp;refine f.out _ _ (r.out _ yj) fun s=> ?_;try simp only[Act.put,rR]
     refine rd1 11 fun t f=> ?_;go_simp;refine f.out _ _ (r.out _ yj) fun s=> ?_;try simp only[Act.put,rR]
     refine tk 12 ?_;refine tk 13 ?_;try simp only[Act.put,rR]
     refine wpAnyH_done kr ?_ _;simp only[Act.put,yW];go_wp2_with fail;go_meet;exact⟨_,y,E,rfl,rfl,rfl,M,Bk.new _ _ _,C.alloc _,q.alloc oo _⟩
    ·
     go_simp;refine f.out _ _ (r.out _ yj) fun s=> ?_;try simp only[Act.put,rR]
     refine rd1 5 fun t f=> ?_;go_simp
     (go_at_call 8;refine(b3 _ ((K.step ((Below.refl _ _).alloc (Nat.le_refl _) (.cells yR 29)).drew).now.1.1.1.1.1.1.1.1.2)).mono ?_;rintro e Q ⟨y,E,rfl,u,⟨W,X⟩,q⟩;have q:Below (D.alloc (.cells yR 29)).heap.size (D.alloc (.cells yR 29)) Q:=zB q;have M:=q.size;simp only[World.size_alloc,World.size_drew] at M;have v:=Bk.below (Bk.new D yR 29) q (by simp);have d8:=v.cell;have d9:=v.free;have B5:=((Below.refl D.heap.size D).alloc (Nat.le_refl _) (.cells yR 29)).trans (q.mono (by simp));have C:=OwC.sl u W X;have m5:∀g P,y=some ⟨g,P,none⟩→g≠D.heap.size:=fun g P hg=>(by have h1:=OwC.lt2 u hg;(try simp only[World.size_alloc,World.size_drew] at h1);omega))
     refine f.out _ _ (r.out _ yj) fun s=> ?_;try simp only[Act.put,rR]
     refine tk 6 ?_;refine tk 7 ?_;refine tk 8 ?_;refine tk 9 ?_;try simp only[Act.put,rR]
     refine rd1 11 fun t f=> ?_;go_simp;refine f.out _ _ (r.out _ yj) fun s=> ?_;try simp only[Act.put,rR]
     refine tk 12 ?_;refine tk 13 ?_;try simp only[Act.put,rR]
     refine wpAnyH_done kr ?_ _;simp only[Act.put,yW];go_wp2_with fail;go_meet;exact⟨_,y,E,rfl,rfl,rfl,Nat.le_refl _,wJ v ⟨F,G,H,I,z⟩ _ _,jZ C m5 ⟨F,G,H,I,z⟩ _ _,yx B5 (Nat.le_refl _) ⟨F,G,H,I,z⟩ _ _⟩
   case rest=>
   obtain⟨o5,o6,o7,rfl,rfl,rfl,o8,h6,h7,h8⟩:=hcut;generalize wc=wa at*;have K:=((K.step h8).and (Kp.bk h6)).and (Kp.sl h7);clear h8 h6 h7 b3;obtain⟨⟨⟨⟨_,k8⟩,s8⟩,k9⟩,s9⟩:=K.now;have a2:=k8.cell;have o':=k9.cell;go_wp2_with fail;refine(cF.out _ _ _ _ _ s8 s9).mono ?_;rintro e p0 ⟨rfl,b⟩;have g:=(K.step b).now.1.1.1.1.1.1.1.1.1.1.1;go_wp2;go_ret;exact⟨zS (by first|rfl|simp),g⟩
