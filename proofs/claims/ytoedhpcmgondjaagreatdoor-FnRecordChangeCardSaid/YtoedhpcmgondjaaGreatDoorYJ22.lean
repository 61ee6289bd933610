import Derived.Test.YtoedhpcmgondjaaGreatDoorYGJ4
set_option linter.all false
set_option maxHeartbeats 8000000
namespace Go.Proofs.YtoedhpcmgondjaaGreatDoor
open Go.Lib(hid)
open Go.RowKit Go.Proofs.Tryz
set_option maxRecDepth 100000
attribute [local go_sem high] zG zF zH zV zN yu zD zl zn zt zi zu y9 zK yE zJ
theorem Om {K:Kn}{c:Int}{r:List Int}{n:Nat}(h:vH K (c::r) n)(a:c=K.cl+1):r=[]:=by rw[vH,if_pos a] at h;exact h
theorem TE {K:Kn}{c:Int}{r:List Int}{n:Nat}(h:vH K (c::r) n)(a:c=K.cl):vH K.cleared r n:=by rw[vH,if_neg (by omega),if_pos a] at h;exact h
theorem YC {K:Kn}{c:Int}{r:List Int}{n:Nat}(h:vH K (c::r) n)(h1:c≠K.cl+1)(h2:c≠K.cl):K.fol c=true∧n+(K.any c).length≤2000∧vH (K.after c) r (n+(K.any c).length):=by rw[vH,if_neg h1,if_neg h2] at h;exact h
theorem UC {K:Kn}(hk:K.ok){c:Int}{r:List Int}{n:Nat}(h:vH K (c::r) n):0≤c∧c≤K.great:=by
 have e:=hk.bd;have b:K.nx - 1≤K.great∧(K.gr=true→K.great=K.nx):=(by unfold Kn.great;split<;>simp_all<;>omega);have f:K.nx=K.cl+2+(K.ps.length:Int):=rfl;have g:0≤K.cl:=(by unfold Kn.cl;have:=xu K.l hk.st.lm.1 hk.st.lm.2.1;omega);by_cases h1:c=K.cl+1
 ·omega
 by_cases h2:c=K.cl
 ·omega
 have a:=(YC h h1 h2).1;unfold Kn.fol at a;simp only[decide_eq_true_eq] at a;rcases a with a|⟨d,i⟩
 ·unfold codeOk at a;omega
 ·have:=b.2 d;omega
theorem U0 (a:List Nat)(x:Nat):(a++[x]).map ivn=a.map ivn++[.int .i64 (x:Int)]:=by simp
def P7 (K:Kn)(cs:List Int)(w:World)(e:Ending)(w':World):Prop:=∃W a d,e= .returned (.tuple #[.slice W cs.length a,sv d,.bool true])∧w'.ownsRow w.heap.size 3 1 (.slice W cs.length a) cs.length ((K.walk cs).ws.map ivn)∧Below w.heap.size w w'
theorem qw {w:World}{B:Nat}{e b:TypeId}{s d n f:Nat}{v c:Value}{xs i:List Value}(h:w.ownsRow B e s v n xs)(j:w.ownsRow B b d c f i)(k:e≠b):∀g,v.ownBlock=some g→g<B∨¬(c.ownBlock=some g):=fun g a=>.inr (fun l=>by
 rcases uF h j k with h1|h1
 ·rw[h1] at a;cases a
 ·exact h1 (by rw[a,l]))
theorem Xr (K:Kn)(A:Option Addr)(cap:Nat)(C:Option Addr)(cc:Nat)(cs:List Int)(w:World)(hk:K.ok)(hs:Sl w A K.ps.length cap 2 (psV K.ps))(hc:Sl w C cs.length cc 1 (cs.map iv))(hl:cs.length≤3100)(hg:vH K cs 0):
 Calls prog 203 #[knV K A cap,.slice C cs.length cc] w (P7 K cs w):=by
 obtain⟨i,hi,h',i0,i1⟩:=info_parts tu;obtain⟨j,hj,l6,l8,l9⟩:=info_parts wQ;have d4:=hk.st;have l':K.ps.length≤100000:=(by have:=hk.fine.len;omega);have m0:0<cs.length:=by
  cases cs with
  |nil=>exact absurd hg (by simp [vH])
  |cons c r=>simp
 obtain⟨r8,r9,_,i2⟩:=hc;obtain⟨gc,oc,rfl,m1,f5⟩:=i2 m0;have f5:Hid (∀j,(hj:j<cs.length)→w.cell? ⟨gc,oc+j,none⟩=some (.int .i64 cs[j])):=fun j hj=>f5 j _ (by rw[List.getElem?_map,List.getElem?_eq_getElem hj];rfl);have cV:Hid (∀wr,Below w.heap.size w wr→Calls prog 130 #[knV K A cap] wr (rT wr (.bool true))):=fun wr h=>vK K A cap wr hk (hs.below h);have cC:Hid (∀wr,Below w.heap.size w wr→Calls prog 164 #[knV K A cap] wr (og K wr)):=fun wr h=>nN K A cap wr l' (hs.below h);unfold og at cC;have i6:Hid (cs≠[]→vH K cs ([]:Bs).length):=fun _=>hg;generalize f7:(K.walk cs).ws=WS at*;unfold P7;rw[f7];have m2:=hid f7;clear i2 hs hg f7;go_enter func203,ntmps203;have d6:Bk (w.alloc (.cells (knC K A cap) 94)) w.heap.size 94 (knC K A cap):=tBk;have g0:Below w.heap.size w (w.alloc (.cells (knC K A cap) 94)):=zy;go_upto_region 1 with(fail)
 generalize w.alloc (.cells (knC K A cap) 94)=w0 at*;have m3:=d6.cell;have s0:=d6.lt;go_wp2_with fail;refine(cV.out _ g0).mono ?_;rintro e w1 ⟨rfl,d7⟩;have s2:=d7.size;have f9:=d6.below d7 oo;have g1:=g0.trans (d7.mono oo);have m4:=f9.cell;clear d7 d6 g0 m3 cV;go_wp2_with fail;refine(cC.out _ g1).mono ?_;rintro e w2 ⟨Y,Z,rfl,o2,d8⟩;have s3:=d8.size;have d9:=f9.below d8 oo;have g2:=g1.trans (d8.mono oo);have p2:=zI (B':=w.heap.size+1) o2 oo;have m5:=d9.cell;have m6:=d9.free;have E:=rQ d9 K Y Z;have M:=yC g2 (b:=w.heap.size) oo K Y Z;have N:=yI p2 (b:=w.heap.size) oo K Y Z;have s4:=qQ w2 w.heap.size K Y Z;clear d8 o2 m4 f9 g1 cC;go_upto_region 4 with(fail)
 generalize((((((w2.setCell ⟨w.heap.size,0,none⟩ (.int .i64 K.o)).setCell ⟨w.heap.size,1,none⟩ (.int .i64 K.l)).setCell ⟨w.heap.size,2,none⟩ (.int .i64 K.m)).setCell ⟨w.heap.size,3,none⟩ (.slice Y K.ps.length Z)).setCell ⟨w.heap.size,4,none⟩ (.int .i64 K.base)).setCell ⟨w.heap.size,5,none⟩ (.int .i64 K.last))=a0 at*;clear m5 m6 d9 g2 p2;have hG:=zM E.cell E.lt;refine wp_region_quiet_below kr kr ?_;repeat(go_big_quiet_step ((first|(go_at_call 159;exact Calls.regrown_of (xq _ _ _ _ d4))|(go_at_call 157;exact Calls.regrown_of (wE _ _ _ _ d4)))))
 refine wpQuiet_nil ?_;intro w4 j0;have b4:Below _ _ w4:=zh j0;clear j0;have s5:=b4.size;have j1:=E.below b4 E.lt;have g4:=M.trans (b4.mono oo);have p4:=zf N b4;clear hG b4 E M N;have n4:w4.ownsRow (w.heap.size+1) 3 1 (.slice none ([]:List Nat).length 0) ([]:List Nat).length (([]:List Nat).map ivn):=⟨by simp,.inl ⟨rfl,rfl⟩⟩;have j5:w4.ownsRow (w.heap.size+1) 5 1 (.slice none ([]:Bs).length 0) ([]:Bs).length (([]:Bs).map u8v):=⟨by simp,.inl ⟨rfl,rfl⟩⟩;have m8:=xu K.l (d4.lm.1) (d4.lm.2.1);obtain⟨s6,s7⟩:=m8;go_wp2_with fail;go_loopw [9,10,32] (fun a b c wr=>∃(f:Kn) (t a0 D:Option Addr) (u cw O n:Nat) (rest:List Int) (q:List Nat) (d:Bs),c= .int .i64 (n:Int)∧b= .slice D d.length O∧a= .slice a0 q.length cw∧n≤cs.length∧d.length≤2000∧Hid (cs.drop n=rest)∧f.ok∧Hid (f.o=K.o∧f.l=K.l)∧Hid (rest≠[]→vH f rest d.length)∧Hid (WS=q++(f.walk rest).ws)∧Hid (q.length=n)∧
  wr.ownsRow (w.heap.size+1) 173 2 (.slice t f.ps.length u) f.ps.length (psV f.ps)∧wr.ownsRow (w.heap.size+1) 3 1 (.slice a0 q.length cw) q.length (q.map ivn)∧wr.ownsRow (w.heap.size+1) 5 1 (.slice D d.length O) d.length (d.map u8v)∧Bk wr w.heap.size 94 (knC f t u)∧Below w.heap.size w wr) (fun _ _ c _=>cs.length - (intOf c).toNat)
 case atStart=>exact⟨K,Y,none,none,Z,0,0,0,cs,[],[],rfl,rfl,rfl,by omega,by simp,rfl,hk,⟨rfl,rfl⟩,i6,by show _=_;rw[m2.out];rfl,rfl,p4,n4,j5,j1,g4⟩
 case round=>
  obtain⟨f,t,a0,D,u,cw,O,n,rest,q,d,rfl,rfl,rfl,hn,j6,HD,x,HL,HG,HW,HN,p,o,e1,hK,g⟩:=hrel;clear j1 g4 p4 n4 j5 i6 hk;have hz:=g.size;have s':=hK.lt;by_cases j7:n<cs.length
  ·have m9:(n:Int)<cs.length:=oo
   have e3:∃c r,rest=c::r∧cs[n]=c∧cs.drop (n+1)=r:=by
    have h:=HD.out;rw[List.drop_eq_getElem_cons j7] at h;exact⟨_,_,h.symm,rfl,rfl⟩
   obtain⟨c,r,rfl,e3,hr⟩:=e3;have j8:=(g.cell (p:=⟨gc,oc+n,none⟩) m1).trans (f5.out n j7);rw[e3] at j8;have g7:=hid hr;have j9:r.length+n+1=cs.length:=(by rw[←hr,List.length_drop];omega);have m':=hid j9;have g':=HG.out (by simp);have a2:=hid g';have j':=UC x g';have n0:=f.tJ x;have n1:=x.bd;have t0:decide (0≤c∧c≤f.great)=true:=decide_eq_true j';have n2:=kT x;obtain⟨t1,t2⟩:=n2;have k0:f.cl=pow2 K.l:=(by unfold Kn.cl;rw[HL.out.2]);have e4:=hid k0;have n3:=HN.out;have k1:q.length≤3100:=oo;have e5:q.length+1≤maxLen:=(by unfold maxLen;omega);have e6:(q.length+1)*8≤140737488355328:=oo;have a3:Hid (WS=(q++[f.width])++((f.step c).walk r).ws):=(by show _=_;rw[HW.out,nO];simp);have cF:=ik f t u c wr x;have cW:=hid (fun w=>XO f t u w x);have hX:=hK.cell;have t3:0≤c:=j'.1;have t4:c≤2200:=oo;have t5:f.great≤1000000:=oo;clear hr e3 j9 g' k0 HG HW HD n3 n1 n0;go_wp2_with fail;refine cF.mono ?_;rintro e w3 ⟨rfl,P⟩;have t7:=P.size;have E:=hK.below P oo;have N:=zf p P;have o3:=zf o P;have q3:=zf e1 P;have M:=g.trans (P.mono oo);clear P hK p o e1 g hX cF j8;have k3:=E.cell;by_cases b6:c=f.cl+1
   ·have n6:(c==pow2 K.l+1)=true:=by have h:=e4.out;rw[beq_iff_eq];omega
    have n7:=Om a2.out b6;subst n7;have e':n+1=cs.length:=(by have:=m'.out;simp at this;omega);have t8:¬(n:Int)<cs.length - 1:=oo;go_wp2_with fail;refine(cW.out _).mono ?_;rintro e w5 ⟨rfl,s⟩;have n8:=s.size;have b7:=E.below s oo;have p5:=zf N s;have y:=zf o3 s;have q5:=zf q3 s;have g5:=M.trans (s.mono oo);clear s E N o3 q3 M k3 cW;go_wp2_with(at_builtin;go_must(refine zT _ rfl _ _ 33 rfl (w.heap.size+1) 3 i _ 1 8 underlying33 hi h' i0 i1 rfl (by omega) _ _ _ rfl (y.alloc _) _ 1 1 [.int .i64 (f.width:Int)] rfl (Sl.newAt w5 #[.int .i64 (f.width:Int)] _ 1 1 (by first|rfl|simp) (by simp) (by omega)) (by simp [Value.oneCell']) e5 e6 ?_ ?_));try(case refine_1=>first|omega|(simp<;>omega;done))
    intro W6 a5 w6 o6 F _;have z:(q++[f.width]).length=q.length+1:=(by simp);have Q:w6.ownsRow (w.heap.size+1) 3 1 (.slice W6 (q++[f.width]).length a5) (q++[f.width]).length ((q++[f.width]).map ivn):=(by rw[z,U0];exact o6);rw[←z];have H:=xO (p5.alloc _) (y.alloc _) (by decide) F;have R:=xO (q5.alloc _) (y.alloc _) (by decide) F;have G:=Bk.grown (b7.alloc _) F (fun k hk=>by have:=(y.lt k hk).1;omega);have J:=(g5.alloc (by omega) _).grown F (by simp;omega) (fun k hk=>by have:=(y.lt k hk).1;omega);have f0:Hid ((q++[f.width]).length=n+1):=(by show _=_;rw[z,HN.out]);have n9:(q++[f.width]).length≤3101:=oo;clear b7 p5 y q5 g5 o6 F z e5 e6 k1;generalize q++[f.width]=c2 at*;have n':=J.size;have o0:=G.lt;have o1:Hid (WS=c2++(f.walk []).ws):=(by show _=_;rw[a3.out];rfl);clear a3 a2 b6;go_wp2;go_roundw
    case rel=>exact⟨f,t,W6,D,u,a5,O,n+1,[],c2,d,by go_num,rfl,rfl,oo,j6,g7,x,HL,fun h=>absurd rfl h,o1,f0,H,Q,R,G,J⟩
    case measure=>simp [intOf];omega
   ·have n6:(c==pow2 K.l+1)=false:=by have h:=e4.out;rw[beq_eq_false_iff_ne];omega
    go_wp2_with fail;refine(cW.out _).mono ?_;rintro e w5 ⟨rfl,s⟩;have n8:=s.size;have b7:=E.below s oo;have p5:=zf N s;have y:=zf o3 s;have q5:=zf q3 s;have g5:=M.trans (s.mono oo);clear s E N o3 q3 M k3 cW;go_wp2_with(at_builtin;go_must(refine zT _ rfl _ _ 33 rfl (w.heap.size+1) 3 i _ 1 8 underlying33 hi h' i0 i1 rfl (by omega) _ _ _ rfl (y.alloc _) _ 1 1 [.int .i64 (f.width:Int)] rfl (Sl.newAt w5 #[.int .i64 (f.width:Int)] _ 1 1 (by first|rfl|simp) (by simp) (by omega)) (by simp [Value.oneCell']) e5 e6 ?_ ?_));try(case refine_1=>first|omega|(simp<;>omega;done))
    intro W6 a5 w6 o6 F _;have z:(q++[f.width]).length=q.length+1:=(by simp);have Q:w6.ownsRow (w.heap.size+1) 3 1 (.slice W6 (q++[f.width]).length a5) (q++[f.width]).length ((q++[f.width]).map ivn):=(by rw[z,U0];exact o6);rw[←z];have H:=xO (p5.alloc _) (y.alloc _) (by decide) F;have R:=xO (q5.alloc _) (y.alloc _) (by decide) F;have G:=Bk.grown (b7.alloc _) F (fun k hk=>by have:=(y.lt k hk).1;omega);have J:=(g5.alloc (by omega) _).grown F (by simp;omega) (fun k hk=>by have:=(y.lt k hk).1;omega);have f0:Hid ((q++[f.width]).length=n+1):=(by show _=_;rw[z,HN.out]);have n9:(q++[f.width]).length≤3101:=oo;clear b7 p5 y q5 g5 o6 F z e5 e6 k1;generalize q++[f.width]=c2 at*;have n':=J.size;have o0:=G.lt;by_cases U:c=f.cl
    ·have o4:(c==pow2 K.l)=true:=by have h:=e4.out;rw[beq_iff_eq];omega
     have c3:f.step c=f.cleared:=if_pos U;have c4:=TE a2.out U;have h1:Hid (r≠[]→vH f.cleared r d.length):=fun _=>c4;rw[c3] at a3;have o5:=f.xy x;have cA:=iD (w.heap.size+1) f t u 0 w6 x H oo;rw[←U] at cA;have h2:Hid (f.cleared.o=K.o∧f.cleared.l=K.l):=HL;clear U c3 c4 a2 b6 HL;generalize f.cleared=B at*;have h3:=G.cell;go_wp2_with fail;refine cA.mono ?_;rintro e w8 ⟨A8,c8,rfl,p8,a9,o'⟩;have p0:=a9.size;have V:=G.below (a9.below oo) oo;have o8:=a9.own Q (qw Q H (by decide));have I:=a9.own R (qw R H (by decide));have g8:=J.trans ((a9.below oo).mono oo);have t9:=V.cell;have t':=V.free;have a':=rQ V B A8 c8;have p9:=yI p8 (b:=w.heap.size) oo B A8 c8;have o9:=yI o8 (b:=w.heap.size) oo B A8 c8;have q9:=yI I (b:=w.heap.size) oo B A8 c8;have g9:=yC g8 (b:=w.heap.size) oo B A8 c8;clear h3 G H Q R J a9 o' cA p8 o8 I g8 V;go_wp2_with fail;go_roundw
     case rel=>exact⟨B,A8,W6,D,c8,a5,O,n+1,r,c2,d,by go_num,rfl,rfl,oo,j6,g7,o5,h2,h1,a3,f0,p9,o9,q9,a',g9⟩
     case measure=>simp [intOf];omega
    ·have o4:(c==pow2 K.l)=false:=by have h:=e4.out;rw[beq_eq_false_iff_ne];omega
     have c3:f.step c=f.after c:=if_neg U;obtain⟨hf,p1,c4⟩:=YC a2.out b6 U;rw[c3] at a3;have p3:=f.qh x hf;have p6:=f.uy x hf;have cT:=dH f t u c w6 x (Sl.own H) hf;have cA:Hid (∀w7:World,w7.ownsRow (w.heap.size+1) 173 2 (.slice t f.ps.length u) f.ps.length (psV f.ps)→w.heap.size+1≤w7.heap.size→Calls prog 216 #[knV f t u,.int .i64 c,.int .u8 (byteAt (f.any c) 0)] w7 (PN (w.heap.size+1) (.slice t f.ps.length u) (f.after c) w7)):=fun w7 ho hB=>dB (w.heap.size+1) f t u c _ w7 x ho hB hf (nR _).symm;have h2:Hid ((f.after c).o=K.o∧(f.after c).l=K.l):=(by show _∧_;unfold Kn.after;split<;>exact HL.out);have h1:Hid (r≠[]→vH (f.after c) r (d++f.any c).length):=fun _=>(by rw[List.length_append];exact c4);clear U c3 c4 a2 b6 HL hf;generalize f.any c=T at*;generalize f.after c=B at*;obtain⟨v0,v1⟩:=p3;have h3:=G.cell;go_wp2_with fail;refine cT.mono ?_;rintro e w8 ⟨rfl,W⟩;have p0:=W.size;have V:=G.below W oo;have p8:=zf H W;have o8:=zf Q W;have I:=zf R W;have g8:=J.trans (W.mono oo);clear W h3 G H Q R J cT;have q0:¬(2000:Int)<(d.length:Int)+T.length:=oo;have k5:d.length+T.length≤maxLen:=(by unfold maxLen;omega);have k6:d.length+T.length≤140737488355328:=oo;go_wp2_with(at_builtin;go_must(refine gK rfl (.tmp 68) (.tmp 69) 22 9 rfl (w.heap.size+1) 5 j underlying22 underlying9 hj l6 l8 l9 (.slice D d.length O) d.length (d.map u8v) rfl I T rfl k5 k6 oo ?_));intro D9 k8 w9 q9 d1;have z:(d++T).length=d.length+T.length:=(by simp);have h5:w9.ownsRow (w.heap.size+1) 5 1 (.slice D9 (d++T).length k8) (d++T).length ((d++T).map u8v):=(by rw[z,List.map_append];exact q9);rw[←z];have q1:(d++T).length≤2000:=oo;have v2:(0:Int)<T.length:=oo;have v3:0<T.length:=oo;generalize d++T=q2 at*;have p9:=xO p8 I (by decide) d1;have o9:=xO o8 I (by decide) d1;have a':=V.grown d1 (fun k hk=>by have:=(I.lt k hk).1;omega);have g9:=g8.grown d1 oo (fun k hk=>by have:=(I.lt k hk).1;omega);have v4:=g9.size;clear V p8 o8 I g8 d1 q9 z q0 k5 k6 p1;go_upto_region 18 with(fail)
     have X:=a'.cell;have v5:=a'.lt;have HH:Hid (∀w',Below w9.heap.size w9 w'→(w'.cell? ⟨w.heap.size,0,none⟩=some (.int .i64 f.o)∧w'.cell? ⟨w.heap.size,1,none⟩=some (.int .i64 f.l)∧w'.cell? ⟨w.heap.size,2,none⟩=some (.int .i64 f.m)∧w'.cell? ⟨w.heap.size,3,none⟩=some (.slice t f.ps.length u)∧w'.cell? ⟨w.heap.size,4,none⟩=some (.int .i64 f.base)∧w'.cell? ⟨w.heap.size,5,none⟩=some (.int .i64 f.last))):=fun w' h=>⟨(h.cell (p:=⟨_,_,_⟩) oB).trans (X 0),(h.cell (p:=⟨_,_,_⟩) oB).trans (X 1),(h.cell (p:=⟨_,_,_⟩) oB).trans (X 2),(h.cell (p:=⟨_,_,_⟩) oB).trans (X 3),(h.cell (p:=⟨_,_,_⟩) oB).trans (X 4),(h.cell (p:=⟨_,_,_⟩) oB).trans (X 5)⟩;clear X;refine yV 5 (fun w'=>w'.cell? ⟨w.heap.size,0,none⟩=some (.int .i64 f.o)∧w'.cell? ⟨w.heap.size,1,none⟩=some (.int .i64 f.l)∧w'.cell? ⟨w.heap.size,2,none⟩=some (.int .i64 f.m)∧w'.cell? ⟨w.heap.size,3,none⟩=some (.slice t f.ps.length u)∧w'.cell? ⟨w.heap.size,4,none⟩=some (.int .i64 f.base)∧w'.cell? ⟨w.heap.size,5,none⟩=some (.int .i64 f.last)) kr kr (by first|(exact HH.out _ vC)|go_keep) (fun h7=> ?_);simp only[List.take_succ_cons,List.take_zero];refine tk 0 ?_;refine tk 1 ?_;refine tk 2 ?_;try simp only[Act.put,rR]
     refine rd1 3 fun KK d2=> ?_;go_simp;refine d2.out _ _ (by first|(exact HH.out _ vC)|go_keep) fun h7=> ?_;try simp only[Act.put,rR]
     refine rd1 4 fun KK d2=> ?_;go_simp
     (go_at_call 216;refine(cA.out _ (wZ p9) (by first|omega|(simp;omega))).mono ?_;rintro e v6 ⟨b2,b3,rfl,k',L,q4⟩;have L:=Kept.Q5 L;have f2:=a'.below (L.below oo) oo;have q6:=f2.cell;have q7:=f2.free;have v7:=L.size)
     refine d2.out _ _ (by first|(exact HH.out _ vC)|go_keep) fun h7=> ?_;try simp only[Act.put,rR]
     refine wpAnyH_done kr ?_ _;refine yJ ?_;refine wpOp_step (o:=_) rfl (fun KK d2=> ?_);go_simp;refine d2 _ _ (NoPanic.normal ?_);try simp only[Act.put,rR]
     have l0:=L.own o9 (qw o9 p9 (by decide));have l1:=L.own h5 (qw h5 p9 (by decide));have l2:=g9.trans ((L.below oo).mono oo);have q8:=rQ f2 B b2 b3;have q':=yI k' (b:=w.heap.size) oo B b2 b3;have r0:=yI l0 (b:=w.heap.size) oo B b2 b3;have r1:=yI l1 (b:=w.heap.size) oo B b2 b3;have r2:=yC l2 (b:=w.heap.size) oo B b2 b3;clear a' p9 o9 h5 g9 L q4 cA k' l0 l1 l2 f2 q6 q7;go_wp2_with fail;go_roundw
     case rel=>exact⟨B,b2,W6,D9,b3,a5,k8,n+1,r,c2,q2,by go_num,rfl,rfl,oo,q1,g7,p6,h2,h1,a3,f0,q',r0,r1,q8,r2⟩
     case measure=>simp [intOf];omega
  ·have m9:¬(n:Int)<cs.length:=oo
   have e':n=cs.length:=oo;have l3:rest=[]:=(by rw[←HD.out,e',List.drop_length]);have l4:WS=q:=(by rw[HW.out,l3];simp [Kn.walk]);have r3:q.length=cs.length:=(by rw[HN.out,e']);have r4:=hid l4;clear l3 e' l4 HG HW;rw[r3] at o⊢;have r5:=yL e1;have r6:=yL (wZ e1);go_wp2_with fail;refine wp_region_held_drew (S:=(fun w'=>(convert 22 9 (.slice D d.length O)).run prog w'= .ok (.string ⟨d.toArray⟩) w')) kr ?_ (fun h7=> ?_);focus((first|with_reducible exact r6|with_reducible exact r5))
   refine tk 0 ?_;refine tk 1 ?_;refine tk 2 ?_;refine tk 3 ?_;refine tk 4 ?_;refine tk 5 ?_;try simp only[Act.put,rR]
   refine wpAnyH_done kr ?_ _;simp only[Act.put,yW];go_wp2;exact bodyPost_ret (v:=.tuple #[.slice a0 cs.length cw,sv d,.bool true]) (by simp [results,results203,go_sem]) rfl ⟨a0,cw,d,rfl,by rw[r4.out];exact zI (wZ o) (by omega),g.drew⟩
end Go.Proofs.YtoedhpcmgondjaaGreatDoor
namespace Go.Proofs.YtoedhpcmgondjaaGreatDoor
open Go.RowKit
def S9 (o:Int)(l:Bs)(k:Nat):Bs:=(List.range k).map fun i=>UInt8.ofNat (numBits o (((uZ l).drop (8*i)).take 8))
theorem Nq (o:Int)(l:Bs)(k:Nat):S9 o l (k+1)=S9 o l k++[UInt8.ofNat (numBits o (((uZ l).drop (8*k)).take 8))]:=by unfold S9;rw[List.range_succ,List.map_append];rfl
theorem NI (o:Int)(l:Bs)(k:Nat)(h0:l.length≤8*k)(h1:8*k<l.length+8):S9 o l k=tK o l:=by
 unfold S9 tK;rw[sN];congr 2;omega
theorem sumTo_congr (o:Int)(x y:Bs)(w:Nat):∀k,(∀i,i<k→rH x i=rH y i)→sumTo o x w k=sumTo o y w k
 |0,_=>rfl
 |k+1,h=>by
  unfold sumTo;rw[sumTo_congr o x y w k (fun i a=>h i (by omega)),h k (by omega)]
theorem ZL (o:Int)(x:Bs)(w m:Nat):∀k,m≤k→(∀i,m≤i→i<k→rH x i=0)→sumTo o x w k=sumTo o x w m
 |0,h,_=>by
  have:m=0:=oo;subst this;rfl
 |k+1,h,a=>by
  by_cases hk:m≤k
  ·have b:=ZL o x w m k hk (fun i h0 h1=>a i h0 oo)
   have e:sumTo o x w (k+1)=sumTo o x w k+rH x k*2 ^ vZ o k w:=rfl;rw[e,b,a k hk (by omega)];simp
  ·have:m=k+1:=oo
   rw[this]
theorem jH (l:Bs)(f i:Nat):rH (l.drop f) i=rH l (f+i):=by unfold rH;rw[List.getElem?_drop]
theorem WE (l:Bs)(i:Nat)(h:l.length≤i):rH l i=0:=by unfold rH;rw[List.getElem?_eq_none h];rfl
theorem LH (l:Bs)(i:Nat):rH (uZ l) i=rH l i:=by
 unfold uZ;by_cases h:i<l.length
 ·unfold rH;rw[List.getElem?_append_left h]
 ·rw[WE l i (by omega)]
  unfold rH;rw[List.getElem?_append_right (by omega),List.getElem?_replicate];split<;>rfl
theorem Me (o:Int)(b:o=0∨o=1)(l:Bs)(f m:Nat)(d:f % 8=0)(h0:f<l.length)(g:m=min 8 (l.length - f)):numBits o (((uZ l).drop f).take 8)=sumTo o (l.drop f) 8 m:=by
 have c:(((uZ l).drop f).take 8).length=8:=(by rw[List.length_take,List.length_drop,sN];omega);rw[←XF o b,c];rw[sumTo_congr o _ (l.drop f) 8 8 (fun i a=>by
  have e:rH (((uZ l).drop f).take 8) i=rH ((uZ l).drop f) i:=(by unfold rH;rw[List.getElem?_take_of_lt a]);rw[e,jH,LH,←jH])]
 refine ZL o _ 8 m 8 oo (fun i a h=> ?_);rw[jH];exact WE l _ oo
theorem Jr (o:Int)(l:Bs)(a:yU l=true)(f:Nat):numBits o (((uZ l).drop f).take 8)≤255:=by
 have b:yU (uZ l)=true:=by
  unfold uZ yU at*;rw[List.all_append,a,List.all_eq_true.2 (fun x c=>by rw[List.eq_of_mem_replicate c];rfl)];rfl
 have h:=pY o _ (rY (uZ l) f 8 b);have h2:2 ^ (((uZ l).drop f).take 8).length≤2 ^ 8:=Nat.pow_le_pow_right (by omega) (by rw[List.length_take];omega);omega
theorem JY (o:Int)(l:Bs)(a:yU l=true)(m:Nat)(d:m≤8):sumTo o l 8 m≤m*128:=by
 induction m with
 |zero=>simp [sumTo]
 |succ m b=>
  have h1:=b oo;have c:2 ^ vZ o m 8≤2 ^ 7:=Nat.pow_le_pow_right oo (by have:=di o m 8 oo;omega);have h2:rH l m*2 ^ vZ o m 8≤1*2 ^ 7:=Nat.mul_le_mul (by rcases eX l a m with h|h<;>omega) c;unfold sumTo;omega
end Go.Proofs.YtoedhpcmgondjaaGreatDoor
namespace Go.Proofs.YtoedhpcmgondjaaGreatDoor
open Go.Lib(hid)
open Go.RowKit Go.Proofs.Tryz
set_option maxRecDepth 100000
attribute [local instance] mU hZ cvZ
attribute [local go_sem high] zG zF zH zV zN yu zD zl zn zt zi zu y9 zK yE zJ
theorem XA (l:Bs)(w:World)(g:l.length≤32000)(a:yU l=true):
 Calls prog 229 #[sv l] w fun e w'=>e= .returned (.bool true)∧w=w':=by
 have b:Hid (∀k:Nat,k<l.length→byteAt l (k:Int)=48∨byteAt l (k:Int)=49):=fun k h=>by
  have h1:=eX l a k;rw[yh l k h];rw[List.getElem?_eq_getElem h] at h1;simp only[Option.getD_some] at h1;rcases h1 with⟨h1,_⟩|⟨h1,_⟩
  ·left;rw[h1];rfl
  ·right;rw[h1];rfl
 have i:(l.length:Int)≤32000:=oo;clear a;go_enter func229,ntmps229;go_wp2;go_loop [9] (fun c=>∃k:Nat,k≤l.length∧c= .int .i64 (k:Int)) (fun c=>l.length - (intOf c).toNat)
 case atStart=>exact⟨0,oo,rfl⟩
 case round=>
  obtain⟨k,hk,rfl⟩:=hrel;by_cases d:k<l.length
  ·have f:(k:Int)<l.length:=oo
   rcases b.out k d with a|a
   all_goals
    go_wp2;go_round
    case rel=>exact⟨k+1,oo,by go_num⟩
    case measure=>simp [intOf];omega
  ·have f:¬(k:Int)<l.length:=oo
   go_wp2;go_ret;exact⟨rfl,rfl⟩
theorem Xo (o:Int)(l:Bs)(w:World)(z:o=0∨o=1)(hl:l.length≤32000)(b:yU l=true):
 Calls prog 230 #[o,sv l] w (rT w (sv (tK o l))):=by
 obtain⟨i,S,T,U,V⟩:=info_parts wQ;have W:Hid (∀k:Nat,k<l.length→(byteAt l (k:Int)=48∧rH l k=0)∨(byteAt l (k:Int)=49∧rH l k=1)):=fun k h=>by
  have h1:=eX l b k;rw[yh l k h];rw[List.getElem?_eq_getElem h] at h1;simp only[Option.getD_some] at h1;rcases h1 with⟨h1,h2⟩|⟨h1,h2⟩
  ·left;rw[h1];exact⟨rfl,h2⟩
  ·right;rw[h1];exact⟨rfl,h2⟩
 have X:Hid (∀f m,f % 8=0→f<l.length→m=min 8 (l.length - f)→numBits o (((uZ l).drop f).take 8)=sumTo o (l.drop f) 8 m):=fun f m h0 h1 h2=>Me o z l f m h0 h1 h2;have Y:Hid (∀f,numBits o (((uZ l).drop f).take 8)≤255):=fun f=>Jr o l b f;have Z:Hid (∀f m,m≤8→sumTo o (l.drop f) 8 m≤m*128):=fun f m h=>JY o _ (by
  unfold yU at*;rw[List.all_eq_true] at*;exact fun x hx=>b x (List.mem_of_mem_drop hx)) m h
 have cP:Hid (∀(i:Nat) w,i<8→Calls prog 228 #[o,(i:Int),.int .i64 8] w fun e w'=>e= .returned (.int .i64 ((2 ^ vZ o i 8:Nat):Int))∧w=w'):=fun i w h=>ak o i 8 w z h oo;have o0:w.ownsRow w.heap.size 5 1 (.slice none ([]:Bs).length 0) ([]:Bs).length (([]:Bs).map u8v):=⟨by simp,.inl ⟨rfl,rfl⟩⟩;clear b;go_enter func230,ntmps230;go_wp2;go_loopw [5,6] (fun a v wr=>∃(k:Nat) (A:Option Addr) (cap:Nat) (P:Bs),8*k<l.length+8∧P.length=k∧a= .slice A P.length cap∧v= .int .i64 ((8*k:Nat):Int)∧Hid (P=S9 o l k)∧wr.ownsRow w.heap.size 5 1 (.slice A P.length cap) P.length (P.map u8v)∧Below w.heap.size w wr) (fun _ v _=>l.length+8 - (intOf v).toNat)
 case atStart=>exact⟨0,none,0,[],oo,rfl,rfl,rfl,rfl,o0,Below.refl _ _⟩
 case round=>
  obtain⟨k,A,cap,P,hk,r,rfl,rfl,B,d,b⟩:=hrel;have hz:=b.size;obtain⟨f,g⟩:∃f,8*k=f:=⟨_,rfl⟩;rw[g];have n:=hid g;have a4:=hid r;have c1:P.length≤5000:=oo;by_cases a5:f<l.length
  ·have a6:(f:Int)<l.length:=oo
   have c2:(l.length:Int)≤32000:=oo;obtain⟨m,C⟩:∃m,m=min 8 (l.length - f):=⟨_,rfl⟩;have a7:min (8:Int) ((l.length:Int) - (f:Int))=(m:Int):=oo;have c3:m≤8:=oo;have c4:f+m≤l.length:=oo;have t:=X.out f m oo a5 C;have D:=hid t;have u:=Y.out f;rw[t] at u;have E:=hid u;have F:Hid (∀j,j≤m→sumTo o (l.drop f) 8 j≤1024):=fun j h=>(by have:=Z.out f j oo;omega);clear C g r t u;go_wp2;go_loop [7,20] (fun a c=>∃j:Nat,j≤m∧a= .int .i64 ((sumTo o (l.drop f) 8 j:Nat):Int)∧c= .int .i64 (j:Int)) (fun _ c=>m - (intOf c).toNat)
   case atStart=>exact⟨0,oo,rfl,rfl⟩
   case round=>
    obtain⟨j,hj,rfl,rfl⟩:=hrel;have a9:=F.out j hj;by_cases c5:j<m
    ·have a':(j:Int)<m:=oo
     have c6:=di o j 8 oo;have c7:2 ^ vZ o j 8≤2 ^ 16:=Nat.pow_le_pow_right oo oo;have G:Hid (sumTo o (l.drop f) 8 (j+1)=sumTo o (l.drop f) 8 j+rH l (f+j)*2 ^ vZ o j 8):=by
      show _=_;rw[←jH];rfl
     have b0:=fun w=>cP.out j w oo;have c8:(f:Int)+(j:Int)<l.length:=oo;have H:=W.out (f+j) oo;have e:((f+j:Nat):Int)=(f:Int)+(j:Int):=oo;rw[e] at H;generalize sumTo o (l.drop f) 8 j=s at*;generalize 2 ^ vZ o j 8=p at*;clear e a7;rcases H with⟨h1,h2⟩|⟨h1,h2⟩
     ·have y:=hid h2
      clear h2;go_wp2;go_round
      case rel=>exact⟨j+1,by omega,by rw[G.out,y.out];simp,by go_num⟩
      case measure=>simp [intOf];omega
     ·have y:=hid h2
      clear h2;go_wp2_with(go_at_call 228;refine(b0 _).mono ?_;rintro e w' ⟨rfl,rfl⟩);go_round
      case rel=>exact⟨j+1,by omega,by rw[G.out,y.out];go_num,by go_num⟩
      case measure=>simp [intOf];omega
    ·have a':¬(j:Int)<m:=oo
     have b1:j=m:=oo;subst b1;have hS:Hid (S9 o l (k+1)=P++[UInt8.ofNat (sumTo o (l.drop f) 8 j)]):=by
      show _=_;rw[Nq,n.out,D.out,B.out]
     have c9:=E.out;clear D E F a9;generalize sumTo o (l.drop f) 8 j=s at*;have b3:IntKind.u8.wrap (s:Int)=(s:Int):=IntWalk.u8_in _ ⟨by omega,oo⟩;have I:P.length+1≤maxLen:=(by unfold maxLen;omega);have J:(P.length+1)*1≤140737488355328:=oo;go_wp2_with(at_builtin;go_must(refine zT _ rfl _ _ 22 rfl (w.heap.size) 5 i _ 1 1 underlying22 S T U V rfl (by omega) _ _ _ rfl (d.alloc _) _ 1 1 [.int .u8 (s:Int)] rfl (Sl.newAt wr #[.int .u8 (s:Int)] _ 1 1 (by first|rfl|simp) (by simp) (by omega)) (by simp [Value.oneCell']) I J ?_ ?_));try(case refine_1=>first|omega|(simp<;>omega;done))
     intro K L M N O _;have q:(P++[UInt8.ofNat s]).length=P.length+1:=(by simp);have Q:((UInt8.ofNat s).toNat:Int)=(s:Int):=(by rw[UInt8.toNat_ofNat'];omega);have b4:M.ownsRow w.heap.size 5 1 (.slice K (P++[UInt8.ofNat s]).length L) (P++[UInt8.ofNat s]).length ((P++[UInt8.ofNat s]).map u8v):=by
      rw[q,List.map_append];have:[UInt8.ofNat s].map u8v=[.int .u8 (s:Int)]:=(by rw[List.map_cons,List.map_nil];unfold u8v;rw[Q]);rw[this];exact N
     rw[←q];have b5:Hid ((P++[UInt8.ofNat s]).length=k+1):=(by show _=_;rw[q,a4.out]);have b6:Below w.heap.size w M:=(b.alloc hz _).grown O (by simp;omega) (fun b7 hq=>(d.lt b7 hq).1);generalize P++[UInt8.ofNat s]=P2 at*;clear b3 I J N O q Q d;go_wp2;go_roundw
     case rel=>exact⟨k+1,K,L,P2,by have:=n.out;omega,b5.out,rfl,by have:=n.out;go_num,hS.out.symm,b4,b6⟩
     case measure=>have:=n.out;simp [intOf];omega
  ·have a6:¬(f:Int)<l.length:=oo
   have R:P=tK o l:=(by rw[B.out];exact NI o l k (by omega) (by omega));have HE:=hid R;clear R g r;have c':=yL d;go_wp2;go_ret;exact⟨by rw[←HE.out];rfl,b⟩
theorem ZZ (o:Int)(w:World)(a:o=0∨o=1):Calls prog 90 #[o] w fun e w'=>e= .returned (.bool true)∧w=w':=by
 rcases a with rfl|rfl
 all_goals
  go_enter func90,ntmps90;go_wp2;go_ret;exact⟨rfl,rfl⟩
theorem VL (o:Int)(l:Bs)(w:World)(b:o=0∨o=1)(c:l.length≤32000)(a:yU l=true):
 Calls prog 205 #[o,sv l] w (rT w (.tuple #[sv (tK o l),.bool true])):=by
 have d:=fun w=>ZZ o w b;have f:=fun w=>XA l w c a;have g:=fun w=>Xo o l w b c a;generalize tK o l=P at*;clear a;go_enter func205,ntmps205;go_wp2_with fail;refine(d _).mono ?_;rintro e w' ⟨rfl,rfl⟩;go_wp2_with fail;refine(f _).mono ?_;rintro e w' ⟨rfl,rfl⟩;go_wp2_with fail;refine(g _).mono ?_;rintro e i ⟨rfl,h⟩;go_wp2;go_ret2;exact⟨rfl,h⟩
theorem Xl (K:Kn)(A:Option Addr)(cap:Nat)(C:Option Addr)(r:Nat)(cs:List Int)(w:World)(hk:K.ok)(M:Sl w A K.ps.length cap 2 (psV K.ps))(f:Sl w C cs.length r 1 (cs.map iv))(hl:cs.length≤3100)(v:vH K cs 0):
 Calls prog 177 #[knV K A cap,.slice C cs.length r] w (rT w (.tuple #[sv (tK K.o (K.bits cs)),.bool true])):=by
 have x:=Vf cs K 0 oo v;have a7:0<cs.length:=by
  cases cs with
  |nil=>exact absurd v (by simp [vH])
  |cons c d4=>simp
 have E:=f.1;have d5:=f.2.1;have N:K.o=0∨K.o=1:=hk.st.1;have a8:Hid (∀wr,Below w.heap.size w wr→Sl wr C cs.length r 1 (cs.map iv)):=fun wr h=>f.below h;have HF:=hid (gu cs K 0 hk x);have HL:=hid (Ob K cs hk x);have b0:=hid (Pz K cs);have b1:=hid (UJ K cs);have b2:=hid (Pn K cs);have F:Hid (∀wr,Below w.heap.size w wr→Calls prog 203 #[knV K A cap,.slice C cs.length r] wr (P7 K cs wr)):=fun wr h=>Xr K A cap C r cs wr hk (M.below h) (f.below h) hl v;have b3:=jc hk x;have O:Hid (∀wr,Calls prog 205 #[K.o,sv (K.bits cs)] wr (rT wr (.tuple #[sv (tK K.o (K.bits cs)),.bool true]))):=fun wr=>VL K.o _ wr N oo (iV _ _);unfold P7 at F;clear M f v x hk b3;generalize tK K.o (K.bits cs)=d6 at*;go_enter func177,ntmps177;have y:Bk (w.alloc (.cells (knC K A cap) 94)) w.heap.size 94 (knC K A cap):=tBk;have G:Below w.heap.size w (w.alloc (.cells (knC K A cap) 94)):=zy;go_upto_region 1 with(fail)
 generalize w.alloc (.cells (knC K A cap) 94)=w0 at*;have b4:=y.cell;have d8:=y.lt;go_wp2_with fail;refine(F.out _ G).mono ?_;rintro e w1 ⟨Aw,cw,d,rfl,s,z⟩;have z1:=z.size;have Q:=y.below z oo;have R:=zI (B':=w.heap.size+1) s oo;have T:=G.trans (z.mono oo);have U:w1.ownsRow (w.heap.size+1) 5 1 (.slice none ([]:Bs).length 0) ([]:Bs).length (([]:Bs).map u8v):=⟨by simp,.inl ⟨rfl,rfl⟩⟩;obtain⟨t,b8,_,_⟩:=Zy s a7;have b9:Aw=some ⟨t,0,none⟩:=b8;subst b9;have d':=(Sl.own s).1;have e0:=(Sl.own s).2.1;clear F z y G b4 s;generalize(K.walk cs).ws=b at*;go_wp2;go_loopw [9,23] (fun a i wr=>∃(j:Option Addr) (l k:Nat) (P:Bs),a= .slice j P.length l∧i= .int .i64 (k:Int)∧k≤cs.length∧Hid (P=pkB K cs k)∧P.length≤31000∧wr.ownsRow (w.heap.size+1) 5 1 (.slice j P.length l) P.length (P.map u8v)∧wr.ownsRow (w.heap.size+1) 3 1 (.slice (some ⟨t,0,none⟩) cs.length cw) cs.length (b.map ivn)∧Bk wr w.heap.size 94 (knC K A cap)∧Below w.heap.size w wr) (fun _ i _=>cs.length - (intOf i).toNat)
 case atStart=>exact⟨none,0,0,[],rfl,rfl,by omega,rfl,by simp,U,R,Q,T⟩
 case round=>
  obtain⟨j,l,k,P,rfl,rfl,hk,V,e1,q,o,B,g⟩:=hrel;have hz:=g.size;clear Q U R T;by_cases D:k<cs.length
  ·have b':(k:Int)<cs.length:=oo
   have W:k<b.length:=(by rw[b0.out];exact D);have e3:=B.lt;obtain⟨gc,oc,e4,rfl,c2,H,f⟩:=Sl.at1 (a8.out w (Below.refl _ _)) D;rw[List.getElem?_map,List.getElem?_eq_getElem D] at H;simp at H;subst H;have I:=(o.cellAt k (by omega)).trans (show(b.map ivn)[k]? =some (ivn b[k]) by rw[List.getElem?_map,List.getElem?_eq_getElem W];rfl);have J:=HF.out (cs[k],b[k]) (by
    have:k<(cs.zip b).length:=(by rw[List.length_zip];omega);have e:(cs.zip b)[k]=(cs[k],b[k]):=(by simp);rw[←e];exact List.getElem_mem this)
   simp only at J;have u:=b1.out k D W;have X:=HL.out (k+1);obtain⟨c,E⟩:=Int.eq_ofNat_of_zero_le J.1;rw[E] at f J u;rw[Int.toNat_natCast,←V.out] at u;have c3:=hid u;rw[u] at X;generalize b[k]=wd at*;have L:Hid (∀m:World,m.ownsRow (w.heap.size+1) 5 1 (.slice j P.length l) P.length (P.map u8v)→w.heap.size+1≤m.heap.size→Calls prog 204 #[.slice j P.length l,K.o,(c:Int),(wd:Int)] m (KP (w.heap.size+1) (.slice j P.length l) (P++yg K.o c wd) m)):=fun m hr hB=>kY (w.heap.size+1) j l P K.o c wd m N oo oo hr oo hB;unfold KP at L;have c6:(P++yg K.o c wd).length≤31000:=oo;clear E u X;generalize P++yg K.o c wd=P2 at*;have Y:=B.cell;have e5:=(g.cell (p:=⟨gc,oc+k,none⟩) c2).trans f;have e6:t<wr.heap.size:=(o.lt _ rfl).2;have e7:w.heap.size+1≤t:=(o.lt _ rfl).1;go_wp2_with fail;refine wp_region_held_drew (S:=(fun w'=>w'.cell? ⟨w.heap.size,0,none⟩=some (.int .i64 K.o)∧w'.cell? ⟨t,k,none⟩=some (.int .i64 (wd:Int)))) kr ?_ (fun c8=> ?_);focus((refine⟨?_,?_⟩;all_goals first|with_reducible exact Z|(simp [a0];done)|(simp only[World.cell?_drew];exact I)|(simp [Y];done)))
   refine tk 0 ?_;refine tk 1 ?_;refine tk 2 ?_;refine tk 3 ?_;refine tk 4 ?_;refine tk 5 ?_;refine tk 6 ?_;refine tk 7 ?_;refine tk 8 ?_;try simp only[Act.put,rR]
   refine rd1 9 fun KK a1=> ?_;go_simp
   (go_at_call 204;refine(L.out _ (wZ q) (by first|omega|(simp;omega))).mono ?_;rintro e m ⟨A8,c',rfl,q8,n,e9⟩;have n:=Kept.Q5 n;have e':=n.size;have o8:=n.own o (qw o q (by decide));have a3:=B.below (n.below oo) oo;have g8:=g.trans ((n.below oo).mono oo);have a0:=a3.cell;have Z:=(o8.cellAt k oo).trans ((o.cellAt k oo).symm.trans I))
   refine a1.out _ _ (by(refine⟨?_,?_⟩;all_goals first|with_reducible exact Z|(simp [a0];done)|(simp only[World.cell?_drew];exact I)|(simp [Y];done))) fun c8=> ?_;try simp only[Act.put,rR]
   refine tk 10 ?_;try simp only[Act.put,rR]
   refine wpAnyH_done kr ?_ _;simp only[Act.put,yW];clear a1 L;go_wp2;go_roundw
   case rel=>exact⟨A8,c',k+1,P2,rfl,by go_num,oo,c3.out.symm,c6,q8,o8,a3,g8⟩
   case measure=>simp [intOf];omega
  ·have b':¬(k:Int)<cs.length:=oo
   have a4:k=cs.length:=oo;have a5:P=K.bits cs:=(by rw[V.out,a4,b2.out]);rw[←a5] at O;have f0:=yL q;have hX:=B.cell;clear a5 a4;go_wp2_with fail;refine(O.out _).mono ?_;rintro e w9 ⟨rfl,d2⟩;have g9:=g.trans (d2.mono oo);go_wp2;go_ret2;exact⟨rfl,g9⟩
theorem XC (K:Kn)(A:Option Addr)(cap:Nat)(d:Bs)(w:World)(hk:K.ok)(g:Sl w A K.ps.length cap 2 (psV K.ps))(q:d.length≤9223372036854775807):
 Calls prog 146 #[knV K A cap,sv d] w (rS w (yA (uh K d))):=by
 by_cases a:fits K.o K.l K.m d
 ·have i:yA (uh K d)= .returned (.tuple #[sv (tK K.o (K.bits (K.yw d))),.bool true]):=by unfold uh;rw[if_pos a];rfl
  rw[i];have j:Hid (∀wr,Below w.heap.size w wr→Calls prog 176 #[knV K A cap,sv d] wr (PS (K.yw d) wr)):=fun wr h=>Zr K A cap d wr hk (g.below h) a;have r:Hid (∀wr C k,Below w.heap.size w wr→Sl wr C (K.yw d).length k 1 ((K.yw d).map iv)→Calls prog 177 #[knV K A cap,.slice C (K.yw d).length k] wr (rT wr (.tuple #[sv (tK K.o (K.bits (K.yw d))),.bool true]))):=fun wr C k h s=>Xl K A cap C k (K.yw d) wr hk (g.below h) s (by have:=Z4 K d hk.base0 a.2.1;omega) (WZ hk a.2.2 a.2.1);unfold PS at j;clear g a i;generalize tK K.o (K.bits (K.yw d))=R at*;generalize(K.yw d).map iv=D at*;generalize(K.yw d).length=E at*;go_enter func146,ntmps146;have b:Bk (w.alloc (.cells (knC K A cap) 94)) w.heap.size 94 (knC K A cap):=tBk;have c:Below w.heap.size w (w.alloc (.cells (knC K A cap) 94)):=zy;go_upto_region 1 with(fail)
  generalize w.alloc (.cells (knC K A cap) 94)=t at*;have p:=b.cell;have u:=b.lt;go_wp2_with fail;refine(j.out _ c).mono ?_;rintro e v ⟨C,rfl,x,f⟩;have F:=f.size;have y:=b.below f oo;have n:=c.trans (f.mono oo);have G:=y.cell;clear p b c f j;go_wp2_with fail;refine(r.out _ _ _ n x).mono ?_;rintro e H ⟨rfl,z⟩;have B:=n.trans (z.mono oo);go_wp2;go_ret2;exact⟨rfl,B⟩
 ·have i:yA (uh K d)= .returned (.tuple #[sv [],.bool false]):=by unfold uh;rw[if_neg a];rfl
  rw[i];have j:Hid (∀wr,Below w.heap.size w wr→Calls prog 176 #[knV K A cap,sv d] wr (rT wr (.tuple #[.slice none 0 0,.bool false]))):=fun wr h=>YI K A cap d wr hk (g.below h) a q;clear g a i;go_enter func146,ntmps146;have b:Bk (w.alloc (.cells (knC K A cap) 94)) w.heap.size 94 (knC K A cap):=tBk;have c:Below w.heap.size w (w.alloc (.cells (knC K A cap) 94)):=zy;go_upto_region 1 with(fail)
  generalize w.alloc (.cells (knC K A cap) 94)=t at*;have p:=b.cell;have u:=b.lt;go_wp2_with fail;refine(j.out _ c).mono ?_;rintro e v ⟨rfl,f⟩;have n:=c.trans (f.mono oo);go_wp2;go_ret2;exact⟨rfl,n⟩
theorem ni (K:Kn)(A:Option Addr)(cap:Nat)(d:Bs)(w:World)(hk:K.ok)(g:Sl w A K.ps.length cap 2 (psV K.ps))(m:d.length≤1000000):
 Calls prog 110 #[knV K A cap,sv d] w (rT w (bkV (xY K 0 d))):=by
 have i:Hid (∀wr,Below w.heap.size w wr→Calls prog 146 #[knV K A cap,sv d] wr (rS wr (yA (uh K d)))):=fun wr h=>XC K A cap d wr hk (g.below h) oo;unfold xY;clear g hk;generalize uh K d=O at*;go_enter func110,ntmps110;go_wp2_with fail;have k:Bk ((w.alloc (.cells (knC K A cap) 94)).alloc (.cells xZ 122)) w.heap.size 94 (knC K A cap):=tBk;have b:Bk ((w.alloc (.cells (knC K A cap) 94)).alloc (.cells xZ 122)) (w.heap.size+1) 122 xZ:=tBk;have c:Below w.heap.size w ((w.alloc (.cells (knC K A cap) 94)).alloc (.cells xZ 122)):=zy;refine(i.out _ c).mono ?_;generalize(w.alloc (.cells (knC K A cap) 94)).alloc (.cells xZ 122)=n at*;rintro e o ⟨rfl,f⟩;have p:=b.lt;have a:=b.below f oo;have q:=c.trans (f.mono oo);have r:=a.cell;have t:=a.free;clear i f b k c
 cases O with
 |none=>
  unfold yA;go_wp2;have Q:=((((a.set 0 (.int .i64 0)).set 1 (.bool true)).set 2 (.int .i64 (d.length:Int))).set 3 (.string ⟨d.toArray⟩)).cell;exact bodyPost_ret (v:=bkV ⟨0,true,d.length,d⟩) (by simp [results,results110,go_sem,Q]) rfl ⟨rfl,zy⟩
 |some s=>
  unfold yA;by_cases j:s.length<d.length
  ·have l:(s.length:Int)<d.length:=oo
   simp only[if_pos j];go_wp2;have Q:=((((a.set 0 (.int .i64 0)).set 1 (.bool false)).set 2 (.int .i64 (d.length:Int))).set 3 (.string ⟨s.toArray⟩)).cell;exact bodyPost_ret (v:=bkV ⟨0,false,d.length,s⟩) (by simp [results,results110,go_sem,Q]) rfl ⟨rfl,zy⟩
  ·have l:¬(s.length:Int)<d.length:=oo
   simp only[if_neg j];go_wp2;have Q:=((((a.set 0 (.int .i64 0)).set 1 (.bool true)).set 2 (.int .i64 (d.length:Int))).set 3 (.string ⟨d.toArray⟩)).cell;exact bodyPost_ret (v:=bkV ⟨0,true,d.length,d⟩) (by simp [results,results110,go_sem,Q]) rfl ⟨rfl,zy⟩
def BkR (a:List Blk)(w:World)(e:Ending)(w':World):Prop:=∃A cap,e= .returned (.slice A a.length cap)∧w'.ownsRow w.heap.size 122 4 (.slice A a.length cap) a.length (zY a)∧Below w.heap.size w w'
theorem kW (K:Kn)(A:Option Addr)(cap:Nat)(d:Bs)(size:Nat)(w:World)(hk:K.ok)(N:Sl w A K.ps.length cap 2 (psV K.ps))(c4:1≤size)(c5:size≤64)(c6:d.length≤2000):
 Calls prog 106 #[knV K A cap,sv d,(size:Int)] w (BkR (mks K size d.length d) w):=by
 obtain⟨i,hi,a8,a9,a'⟩:=info_parts wH;have cM:Hid (∀(x:Bs) wr,Below w.heap.size w wr→x.length≤2000→Calls prog 110 #[knV K A cap,sv x] wr (rT wr (bkV (xY K 0 x)))):=fun x wr h hx=>ni K A cap x wr hk (N.below h) oo;have O:Hid (mks K size d.length d=[]++mks K size d.length (d.drop 0)):=rfl;generalize mks K size d.length d=F at*;unfold BkR;clear N hk;have Q:w.ownsRow (w.heap.size+1) 122 4 (.slice none ([]:List Blk).length 0) ([]:List Blk).length (zY []):=⟨by simp [zY],.inl ⟨rfl,rfl⟩⟩;go_enter func106,ntmps106;have R:Bk (w.alloc (.cells (knC K A cap) 94)) w.heap.size 94 (knC K A cap):=tBk;have T:Below w.heap.size w (w.alloc (.cells (knC K A cap) 94)):=zy;have U:(w.alloc (.cells (knC K A cap) 94)).ownsRow (w.heap.size+1) 122 4 (.slice none ([]:List Blk).length 0) ([]:List Blk).length (zY []):=Q.alloc _;go_upto_region 1 with(fail)
 generalize w.alloc (.cells (knC K A cap) 94)=w0 at*;clear Q;go_wp2;go_loopw [7,8] (fun a v wr=>∃(f j:Nat) (P:List Blk) (t:Option Addr) (u:Nat),a= .slice t P.length u∧v= .int .i64 (f:Int)∧f≤d.length+64∧P.length≤f∧Hid (F=P++mks K size j (d.drop f))∧d.length≤f+j∧wr.ownsRow (w.heap.size+1) 122 4 (.slice t P.length u) P.length (zY P)∧Bk wr w.heap.size 94 (knC K A cap)∧Below w.heap.size w wr) (fun _ v _=>d.length+64 - (intOf v).toNat)
 case atStart=>exact⟨0,d.length,[],none,0,rfl,rfl,by omega,by simp,O,by omega,U,R,T⟩
 case round=>
  obtain⟨f,j,P,t,u,rfl,rfl,hf,c',y,hj,o,G,g⟩:=hrel;clear R T U O;have hz:=g.size;have b1:=G.lt;by_cases d2:f<d.length
  ·have b2:(f:Int)<d.length:=oo
   obtain⟨z,rfl⟩:∃z,j=z+1:=⟨j - 1,oo⟩;have V:d.drop f≠[]:=(by intro h;have:=congrArg List.length h;simp at this;omega);obtain⟨e,he⟩:∃e:Nat,e=min (f+size) d.length:=⟨_,rfl⟩;have b4:min ((f:Int)+(size:Int)) (d.length:Int)=(e:Int):=oo;have d3:f≤e:=oo;have d4:e≤d.length:=oo;have W:(d.drop f).take (e - f)=(d.drop f).take size:=by
    by_cases h:f+size≤d.length
    ·rw[show e - f=size by omega]
    ·rw[List.take_of_length_le (by simp;omega),List.take_of_length_le (by simp;omega)]
   have X:Hid (F=(P++[xY K 0 ((d.drop f).take (e - f))])++mks K size z (d.drop (f+size))):=by
    show _=_;rw[y.out,Qi _ _ _ V,List.drop_drop,W];simp
   have H:=fun wr h=>cM.out ((d.drop f).take (e - f)) wr h (by simp;omega);obtain⟨b,Y⟩:∃b,xY K 0 ((d.drop f).take (e - f))=b:=⟨_,rfl⟩;rw[Y] at X H;have b5:IntKind.i64.wrap ((f:Int)+(size:Int))=(f:Int)+(size:Int):=IntWalk.i64_in _ oo;have b6:P.length+1≤maxLen:=(by unfold maxLen;omega);have b7:(P.length+1)*40≤140737488355328:=oo;clear Y W y he V;obtain⟨n,r,p,D⟩:=b;have B:=G.cell;go_wp2_with fail;refine wp_region_held_drew (S:=(fun w'=>w'.cell? ⟨w.heap.size,0,none⟩=some (.int .i64 K.o)∧w'.cell? ⟨w.heap.size,1,none⟩=some (.int .i64 K.l)∧w'.cell? ⟨w.heap.size,2,none⟩=some (.int .i64 K.m)∧w'.cell? ⟨w.heap.size,3,none⟩=some (.slice A K.ps.length cap)∧w'.cell? ⟨w.heap.size,4,none⟩=some (.int .i64 K.base)∧w'.cell? ⟨w.heap.size,5,none⟩=some (.int .i64 K.last))) kr ?_ (fun I=> ?_);focus((refine⟨?_,?_,?_,?_,?_,?_⟩;all_goals first|(simp [C];done)|(simp [E];done)|(simp [B];done)|exact(c.alloc _).cell 0|exact(c.alloc _).cell 1|exact(c.alloc _).cell 2|exact(c.alloc _).cell 3|exact(c.alloc _).cell 4|exact(c.alloc _).cell 5))
   refine tk 0 ?_;refine tk 1 ?_;refine tk 2 ?_;refine tk 3 ?_;refine tk 4 ?_;refine tk 5 ?_;refine tk 6 ?_;refine tk 7 ?_;refine tk 8 ?_;refine tk 9 ?_;refine tk 10 ?_;try simp only[Act.put,rR]
   refine rd1 11 fun Z q=> ?_;go_simp
   (go_at_call 110;refine(H _ yj).mono ?_;rintro e8 w8 ⟨rfl,s⟩;have s:Below wr.heap.size wr w8:=zB s;have z8:=s.size;have c:=G.below s b1;have J:=zf o s;have g8:=g.trans (s.mono oo);have E:=c.cell)
   refine q.out _ _ (by(refine⟨?_,?_,?_,?_,?_,?_⟩;all_goals first|(simp [C];done)|(simp [E];done)|(simp [B];done)|exact(c.alloc _).cell 0|exact(c.alloc _).cell 1|exact(c.alloc _).cell 2|exact(c.alloc _).cell 3|exact(c.alloc _).cell 4|exact(c.alloc _).cell 5)) fun I=> ?_;try simp only[Act.put,rR]
   refine rd1 12 fun Z q=> ?_;go_simp;refine q.out _ _ (by(refine⟨?_,?_,?_,?_,?_,?_⟩;all_goals first|(simp [C];done)|(simp [E];done)|(simp [B];done)|exact(c.alloc _).cell 0|exact(c.alloc _).cell 1|exact(c.alloc _).cell 2|exact(c.alloc _).cell 3|exact(c.alloc _).cell 4|exact(c.alloc _).cell 5)) fun I=> ?_;try simp only[Act.put,rR]
   refine rd1 13 fun Z q=> ?_
   ((refine uQ _ rfl _ _ 97 rfl (w.heap.size+1) 122 i _ 4 40 underlying97 hi a8 a9 a' rfl (by omega) (.slice t P.length u) P.length (zY P) rfl (J.alloc _) (some ⟨_,0,none⟩) 1 1 [.int .i64 n,.bool r,.int .i64 p,.string ⟨D.toArray⟩] rfl (Sl.new w8 #[(n:Int),.bool r,p,D] _ 1 4 (by simp) (by omega)) (by simp [Value.oneCell']) b6 b7 (by first|omega|(simp<;>omega)) ?_);intro a1 a2 b9 a3 L b';have a4:=Bk.grown (c.alloc _) L (fun k hk=>by have:=(J.lt k hk).1;omega);have c0:=(g8.alloc (by omega) _).grown L (by simp;omega) (fun k hk=>by have:=(J.lt k hk).1;omega);have C:=a4.cell)
   refine q.out _ _ (by(refine⟨?_,?_,?_,?_,?_,?_⟩;all_goals first|(simp [C];done)|(simp [E];done)|(simp [B];done)|exact(c.alloc _).cell 0|exact(c.alloc _).cell 1|exact(c.alloc _).cell 2|exact(c.alloc _).cell 3|exact(c.alloc _).cell 4|exact(c.alloc _).cell 5)) fun I=> ?_;try simp only[Act.put,rR]
   refine tk 14 ?_;try simp only[Act.put,rR]
   refine wpAnyH_done kr ?_ _;simp only[Act.put,yW];have M:(P++[(⟨n,r,p,D⟩:Blk)]).length=P.length+1:=(by simp);have c1:b9.ownsRow (w.heap.size+1) 122 4 (.slice a1 (P++[(⟨n,r,p,D⟩:Blk)]).length a2) (P++[(⟨n,r,p,D⟩:Blk)]).length (zY (P++[(⟨n,r,p,D⟩:Blk)])):=(by rw[M,xW];exact a3);rw[←M];have c2:(P++[(⟨n,r,p,D⟩:Blk)]).length≤f+size:=oo;generalize P++[(⟨n,r,p,D⟩:Blk)]=P2 at*;clear q b5 b4 M a3 L b' H;go_wp2;go_roundw
   case rel=>exact⟨f+size,z,P2,a1,a2,rfl,by go_num,oo,c2,X,oo,c1,a4,c0⟩
   case measure=>simp [intOf];omega
  ·have b2:¬(f:Int)<d.length:=oo
   have hE:F=P:=(by rw[y.out,List.drop_eq_nil_of_le (by omega),VG,List.append_nil]);have HE:=hid hE;clear hE y;go_wp2;go_ret;exact⟨t,u,by rw[HE.out];rfl,by rw[HE.out];exact zI o (by omega),g⟩
