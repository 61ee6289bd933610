import Derived.Test.YtoedhpcmgondjaaGreatDoorYW14
import Derived.Test.YtoedhpcmgondjaaGreatDoorYQ15
set_option linter.all false
set_option maxHeartbeats 8000000
namespace Go.Proofs.YtoedhpcmgondjaaGreatDoor
open Go.RowKit Go.Proofs.Tryz
def Et (w:World):Prop:=∃B,B≤w.heap.size∧rU B w
theorem Et.on {w w':World}(h:Et w)(a:Below w.heap.size w w'):Et w':=by
 obtain⟨B,b,c⟩:=h;exact⟨B,by have:=a.size;omega,Lib.TabBelow.on c (a.mono b)⟩
def Ev (w:World):Prop:=Et w∧vN w∧∃m,w.cell? ⟨0,0,none⟩=some (.int .i64 m)
theorem Ev.mk {w:World}{B:Nat}{m:Int}(a:B≤w.heap.size)(b:rU B w)(c:vN w)(d:w.cell? ⟨0,0,none⟩=some (.int .i64 m)):Ev w:=⟨⟨B,a,b⟩,c,m,d⟩
theorem Ev.on {w w':World}(h:Ev w)(a:Below w.heap.size w w'):Ev w':=by
 obtain⟨⟨B,c,d⟩,e,m,b⟩:=h;exact⟨⟨B,by have:=a.size;omega,Lib.TabBelow.on d (a.mono c)⟩,e.on a,m,(a.cell (p:=⟨0,0,none⟩) (lt_of_cell b)).trans b⟩
theorem iw (l:Bs)(a:Int)(w:World)(h:Ev w)(b:l.length≤1500000)(c: -9223372036854775808≤a)(d:a≤9223372036854775807):
 Calls prog 26 #[.string ⟨l.toArray⟩,.int .i64 a] w (rS w (qC (zZ l a))):=by
 obtain⟨⟨B,f,g⟩,i,m,j⟩:=h;exact Xg l a m w B f g i j b c d
end Go.Proofs.YtoedhpcmgondjaaGreatDoor
namespace Go.Proofs.YtoedhpcmgondjaaGreatDoor
open Go.RowKit Go.Proofs.Tryz
set_option maxRecDepth 100000
attribute [local instance] mU hZ cvZ
attribute [local go_sem high] zG zF zH zV zN yu zD zl zn zt zi zu y9 zK yE zJ
theorem WJ {w:World}{B B':Nat}{e c:TypeId}{s f n i:Nat}{v d:Value}{xs j:List Value}(h:w.ownsRow B e s v n xs)(k:w.ownsRow B' c f d i j)(l:e≠c):v.ownBlock=none∨v.ownBlock≠d.ownBlock:=by
 rcases h.2 with⟨rfl,_⟩|⟨g,cap,cur,rfl,_,m,_⟩
 ·exact .inl rfl
 ·right
  rcases k.2 with⟨rfl,_⟩|⟨o,p,q,rfl,_,b,_⟩
  ·intro a;cases a
  ·intro a
   injection a with a
   have a:g=o:=a;subst a;rw[m] at b;injection b with b
   injection b with _ b
   exact l b
theorem MK :(prog.info? 42).map (fun i=>(i.zero,i.size,i.bytes))=some (some (.agg #[.int .i64 0,.string ⟨#[]⟩,.int .i64 0,.int .i64 0,.int .i64 0,.string ⟨#[]⟩]),6,64):=by kernel_rfl
def opsV (xs:List OpR):List Value:=xs.flatMap fun x=>x.cells.toList
theorem NV (xs:List OpR)(x:OpR):opsV (xs++[x])=opsV xs++x.cells.toList:=by unfold opsV;rw[List.flatMap_append];simp
theorem MQ (xs:List OpR):(opsV xs).length=xs.length*6:=by
 induction xs with
 |nil=>rfl
 |cons x xs a=>unfold opsV at a⊢;rw[List.flatMap_cons,List.length_append,a,List.length_cons];simp;omega
theorem Jt (xs:List OpR)(k:Nat)(h:k<xs.length)(j:Nat)(b:j<6):(opsV xs)[k*6+j]? =xs[k].cells[j]? :=by
 have e:opsV xs=opsV (xs.take k)++(xs[k].cells.toList++opsV (xs.drop (k+1))):=by
  conv=>lhs;rw[←List.take_append_drop k xs,List.drop_eq_getElem_cons h]
  unfold opsV;rw[List.flatMap_append,List.flatMap_cons]
 have a:(opsV (xs.take k)).length=k*6:=(by rw[MQ,List.length_take];omega);rw[e,List.getElem?_append_right (by omega),a,Nat.add_sub_cancel_left,List.getElem?_append_left (by simp;omega)];simp
def L6 (L:List (OpR×Int))(w:World)(e:Ending)(w':World):Prop:=∃A c B d,e= .returned (.tuple #[.slice A L.length c,.slice B L.length d])∧w'.ownsRow w.heap.size 42 6 (.slice A L.length c) L.length (opsV (L.map (·.1)))∧w'.ownsRow w.heap.size 3 1 (.slice B L.length d) L.length (L.map fun p=>.int .i64 p.2)∧Below w.heap.size w w'
theorem bP (log:Bs)(w:World)(t:Ev w)(hl:log.length≤1500000):
 Calls prog 10 #[sv log] w (L6 (nS log) w):=by
 have a8:Hid (∀wr,Below w.heap.size w wr→Ev wr):=fun wr h=>t.on h;clear t;obtain⟨L,J⟩:∃L,uO (log.length+1) log 0=L:=⟨_,rfl⟩;have Z:nS log=L:=J;rw[Z];clear Z;have a0:=gJ (log.length+1) log 0 oo;rw[J] at a0;have a1:Hid (L=[]++uO (log.length+1) log 0):=J.symm;have c3:L.length≤1500000:=oo;clear J a0;unfold L6;go_enter func10,ntmps10;go_wp2;go_loopw [4,5,6] (fun a b x wr=>∃(A:Option Addr) (c:Nat) (B:Option Addr) (d:Nat) (n k:Nat) (D:List (OpR×Int)),a= .slice A D.length c∧b= .slice B D.length d∧x= .int .i64 (k:Int)∧k≤log.length∧log.length<k+n∧Hid (L=D++uO n log (k:Int))∧wr.ownsRow w.heap.size 42 6 (.slice A D.length c) D.length (opsV (D.map (·.1)))∧wr.ownsRow w.heap.size 3 1 (.slice B D.length d) D.length (D.map fun p=>.int .i64 p.2)∧Below w.heap.size w wr) (fun _ _ x _=>log.length - (intOf x).toNat)
 case atStart=>exact⟨some ⟨w.heap.size,0,none⟩,0,some ⟨w.heap.size+1,0,none⟩,0,log.length+1,0,[],rfl,rfl,rfl,oo,oo,a1,vS tBk oo,vS tBk oo,zy⟩
 case round=>
  obtain⟨A,c,B,d,n,k,D,rfl,rfl,rfl,hk,hn,u,oA,oB,g⟩:=hrel;clear a1;have z:=g.size;have t:=a8.out _ g;have T:Hid (∀x e,zZ log (k:Int)=some (x,e)→∃j:Nat,e=(j:Int)∧k<j∧j≤log.length):=fun x e h=>by
   obtain⟨r,c6,hx,he,a9,_⟩:=uA h;have:=(pJ x).1;exact⟨r+(wL x).length,oo,oo,a9⟩
  have c9:D.length≤L.length:=(by rw[u.out,List.length_append];omega);go_wp2_with fail;refine(iw log (k:Int) wr t oo oo oo).mono ?_;rintro e y ⟨rfl,C⟩;have z3:=C.size;have K:=zf oA C;have M:=zf oB C;have N:=g.trans (C.mono oo);clear oA oB g C t
  cases hr:zZ log (k:Int) with
  |none=>
   have hG:=u.out;rw[oh hr,List.append_nil] at hG;subst hG;rw[show qC none= .returned (.tuple #[.agg #[.int .i64 0,.string ⟨#[]⟩,.int .i64 0,.int .i64 0,.int .i64 0,.string ⟨#[]⟩],.int .i64 0,.bool false]) from rfl];have s:=World.ownsRow.alloc K (.cells #[.int .i64 0,.string ⟨#[]⟩,.int .i64 0,.int .i64 0,.int .i64 0,.string ⟨#[]⟩] 42);have E:=World.ownsRow.alloc M (.cells #[.int .i64 0,.string ⟨#[]⟩,.int .i64 0,.int .i64 0,.int .i64 0,.string ⟨#[]⟩] 42);have O:=N.alloc oo (.cells #[.int .i64 0,.string ⟨#[]⟩,.int .i64 0,.int .i64 0,.int .i64 0,.string ⟨#[]⟩] 42);clear K M N hr T u;go_upto_region 5 with(fail)
   generalize y.alloc (.cells #[.int .i64 0,.string ⟨#[]⟩,.int .i64 0,.int .i64 0,.int .i64 0,.string ⟨#[]⟩] 42)=w4 at*;go_wp2;exact bodyPost_ret (v:=.tuple #[.slice A L.length c,.slice B L.length d]) (by simp [results,results10,go_sem]) rfl ⟨A,c,B,d,rfl,s,E,O⟩
  |some p=>
   obtain⟨x,e⟩:=p;obtain⟨j,rfl,d0,a'⟩:=T.out x e hr;obtain⟨r,rfl⟩:∃r,n=r+1:=⟨n - 1,oo⟩;have a4:Hid (L=(D++[(x,(j:Int))])++uO r log (j:Int)):=by
    show _=_;have h:=u.out;rw[nP hr] at h;rw[h];simp
   have d1:D.length+1≤L.length:=(by rw[a4.out,List.length_append,List.length_append];simp);have a5:Hid (opsV ((D++[(x,(j:Int))]).map (·.1))=opsV (D.map (·.1))++x.cells.toList):=(by show _=_;rw[List.map_append];exact NV _ _);have b0:Hid (((D++[(x,(j:Int))]).map fun p=>Value.int .i64 p.2)=(D.map fun p=>Value.int .i64 p.2)++[.int .i64 (j:Int)]):=(by show _=_;simp);have U:Hid ((D++[(x,(j:Int))]).length=D.length+1):=(by show _=_;simp);rw[iR];clear hr T u;generalize D++[(x,(j:Int))]=D2 at*;generalize opsV (D.map (·.1))=va at*;generalize(D.map fun p=>Value.int .i64 p.2)=vb at*;generalize D.length=V at*;obtain⟨f,l,m,xs,o,q⟩:=x;simp only[OpR.cells] at a5;have s:=World.ownsRow.alloc K (.cells #[(f:Int),o,l,m,xs,q] 42);have E:=World.ownsRow.alloc M (.cells #[(f:Int),o,l,m,xs,q] 42);have O:=N.alloc oo (.cells #[(f:Int),o,l,m,xs,q] 42);have W:=Bk.new y #[(f:Int),o,l,m,xs,q] 42;clear K M N;go_upto_region 5 with(fail)
   generalize y.alloc (.cells #[(f:Int),o,l,m,xs,q] 42)=w4 at*;have b2:=W.cell;have z4:=W.lt;have d5:w.heap.size≤y.heap.size:=oo;generalize y.heap.size=q3 at*;have a6:V+1≤maxLen:=(by unfold maxLen;omega);have b3:(V+1)*64≤140737488355328:=oo;have b4:(V+1)*8≤140737488355328:=oo;obtain⟨i,F,G,H,I⟩:=info_parts MK;go_wp2_with(at_builtin;go_must(refine zT _ rfl _ _ 32 rfl (w.heap.size) 42 i _ 6 64 underlying32 F G H I rfl (by omega) _ _ _ rfl (s.alloc _) _ 1 1 [.int .i64 f,.string ⟨o.toArray⟩,.int .i64 l,.int .i64 m,.int .i64 xs,.string ⟨q.toArray⟩] rfl (Sl.newAt w4 #[(f:Int),o,l,m,xs,q] _ 1 6 (by first|rfl|simp) (by simp) (by omega)) (by simp [Value.oneCell']) a6 b3 ?_ ?_));try(case refine_1=>first|omega|(simp<;>omega;done))
   intro A5 c5 w5 X P _;have g5:=yD O P oo (fun k hk=>by have:=(s.lt k hk).1;omega);have Q:=(E.alloc _).kept P (WJ E s (by decide));have z5:=ve P;clear P s E O W b2 F G H I i;obtain⟨i,F,G,H,I⟩:=info_parts tu;go_wp2_with(at_builtin;go_must(refine zT _ rfl _ _ 33 rfl (w.heap.size) 3 i _ 1 8 underlying33 F G H I rfl (by omega) _ _ _ rfl (Q.alloc _) _ 1 1 [.int .i64 (j:Int)] rfl (Sl.newAt w5 #[(j:Int)] _ 1 1 (by first|rfl|simp) (by simp) (by omega)) (by simp [Value.oneCell']) a6 b4 ?_ ?_));try(case refine_1=>first|omega|(simp<;>omega;done))
   intro B6 d6 w6 R Y _;have g6:=yD g5 Y oo (fun k hk=>by have:=(Q.lt k hk).1;omega);have S:=(X.alloc _).kept Y (WJ X Q (by decide));clear Y X Q g5 F G H I i;rw[←U.out] at S R;rw[←a5.out] at S;rw[←b0.out] at R;have OA:=Go.Lib.hid S;have OB:=Go.Lib.hid R;clear S R;go_wp2;go_roundw
   case rel=>exact⟨A5,c5,B6,d6,r,j,D2,by rw[U.out],by rw[U.out],rfl,a',by omega,a4,OA.out,OB.out,g6⟩
   case measure=>simp [intOf];omega
