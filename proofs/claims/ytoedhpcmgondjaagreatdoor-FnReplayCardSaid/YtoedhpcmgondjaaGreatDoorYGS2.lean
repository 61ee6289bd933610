import Derived.Test.YtoedhpcmgondjaaGreatDoorYGS1
set_option linter.all false
set_option maxHeartbeats 8000000
namespace Go.Proofs.YtoedhpcmgondjaaGreatDoor
open Go.RowKit Go.Proofs.Tryz
attribute [local instance] mU hZ
attribute [local go_sem high] zG zF zH zV zN yu zD zl zn zt zi zu y9 zK yE zJ
theorem nY :(prog.info? 173).map (fun i=>(i.zero,i.size,i.bytes))=some (some (.agg #[.int .i64 0,.int .i64 0]),2,16):=by kernel_rfl
def og (K:Kn)(w:World)(e:Ending)(w':World):Prop:=∃A cap,e= .returned (knV K A cap)∧w'.ownsRow w.heap.size 173 2 (.slice A K.ps.length cap) K.ps.length (psV K.ps)∧Below w.heap.size w w'
abbrev knZ :Array Value:=#[.int .i64 0,.int .i64 0,.int .i64 0,.slice none 0 0,.int .i64 0,.int .i64 0]
theorem Sl.cut {w:World}{A:Option Addr}{n cap size k:Nat}{cs:List Value}(h:Sl w A n cap size cs)(hk:k≤n):Sl w A k cap size (cs.take (k*size)):=by
 obtain⟨h1,h2,b,c⟩:=h;refine⟨by omega,h2,?_,fun h0=> ?_⟩
 ·rw[List.length_take,b]
  have:k*size≤n*size:=Nat.mul_le_mul_right _ hk;omega
 ·obtain⟨g,d,e,f,i⟩:=c oo
  refine⟨g,d,e,f,fun j u a=>i j u ?_⟩;rw[List.getElem?_take] at a;split at a
  ·exact a
  ·cases a
set_option maxRecDepth 100000 in
theorem qj (K:Kn)(A:Option Addr)(cap:Nat)(w:World)(hk:K.ok)(c:Sl w A K.ps.length cap 2 (psV K.ps)):
 Calls prog 254 #[knV K A cap] w (og K.cleared w):=by
 obtain⟨i,u,x,y,z⟩:=info_parts nY;have C:=hk.base0;have N:=hk.base1;have O:=hk.bd;have P:=c.1;have Q:K.base≤cap:=oo;have d:=(Int.toNat_of_nonneg C);have e:((K.base.toNat:Nat):Int)=K.base:=d;have R:=Go.Lib.hid e;clear d e;go_enter func254,ntmps254;go_wp2_with fail;have a:∀i,((w.alloc (.cells (knC K A cap) 94)).alloc (.cells knZ 94)).cell? ⟨w.heap.size,i,none⟩=(knC K A cap)[i]? :=Y5 (yF _ _ _) (by simp) _;have D:∀i,((w.alloc (.cells (knC K A cap) 94)).alloc (.cells knZ 94)).cell? ⟨w.heap.size+1,i,none⟩=knZ[i]? :=(by simp);have E:∀i,((w.alloc (.cells (knC K A cap) 94)).alloc (.cells knZ 94)).frozen? ⟨w.heap.size+1,i,none⟩=false:=(by simp);have f:w.heap.size+1<((w.alloc (.cells (knC K A cap) 94)).alloc (.cells knZ 94)).heap.size:=(by simp);have g:Below w.heap.size w ((w.alloc (.cells (knC K A cap) 94)).alloc (.cells knZ 94)):=zy;generalize(w.alloc (.cells (knC K A cap) 94)).alloc (.cells knZ 94)=W at*;have S:w.heap.size<W.heap.size:=oo;have j:=(c.below g).cut (k:=K.base.toNat) oo;rw[←ZY] at j;have F:(W.alloc (.cells #[] 173)).drew.ownsRow (w.heap.size+2) 173 2 (.slice (some ⟨W.heap.size,0,none⟩) 0 0) 0 []:=World.ownsRow_made (base:=w.heap.size+2) (size:=2) W #[] 0 oo (by unfold maxLen;omega) rfl;have G:0+K.base.toNat≤maxLen:=(by unfold maxLen;omega);have H:(0+K.base.toNat)*16≤140737488355328:=oo;have I:Hid (∀w',Below W.heap.size W w'→(w'.cell? ⟨w.heap.size,0,none⟩=some (.int .i64 K.o)∧w'.cell? ⟨w.heap.size,1,none⟩=some (.int .i64 K.l)∧w'.cell? ⟨w.heap.size,2,none⟩=some (.int .i64 K.m)∧w'.cell? ⟨w.heap.size,3,none⟩=some (.slice A K.ps.length cap)∧w'.cell? ⟨w.heap.size,4,none⟩=some (.int .i64 K.base))):=fun w' h=>⟨(h.cell (p:=⟨_,_,_⟩) oB).trans (a 0),(h.cell (p:=⟨_,_,_⟩) oB).trans (a 1),(h.cell (p:=⟨_,_,_⟩) oB).trans (a 2),(h.cell (p:=⟨_,_,_⟩) oB).trans (a 3),(h.cell (p:=⟨_,_,_⟩) oB).trans (a 4)⟩;go_region_held3 (fun w'=>w'.cell? ⟨w.heap.size,0,none⟩=some (.int .i64 K.o)∧w'.cell? ⟨w.heap.size,1,none⟩=some (.int .i64 K.l)∧w'.cell? ⟨w.heap.size,2,none⟩=some (.int .i64 K.m)∧w'.cell? ⟨w.heap.size,3,none⟩=some (.slice A K.ps.length cap)∧w'.cell? ⟨w.heap.size,4,none⟩=some (.int .i64 K.base)) ((first|(exact I.out _ vC)|go_keep)) (((refine uQ _ rfl _ _ 92 rfl (w.heap.size+2) 173 i _ 2 16 underlying92 u x y z rfl (by omega) (.slice (some ⟨W.heap.size,0,none⟩) 0 0) 0 [] rfl F A K.base.toNat cap (psV (K.ps.take K.base.toNat)) rfl ((j.alloc _)) (VE _) G H (by simp;omega) ?_;intro n q T J r L;have s:=rE r;have b:=yD (Below.refl W.heap.size W) s (Nat.le_refl _) (by rintro k ⟨⟩;exact Nat.le_refl _);have M:=zU D b f;have U:=eu E b f;clear r s L)))
 all_goals
  have t:Hid (K.cleared.ps.length=0+K.base.toNat):=(by show _=_;simp [Kn.cleared];omega);go_wp2;refine bodyPost_ret (v:=knV K.cleared n q) (by simp [results,results254,go_sem,t.out,M];exact⟨rfl,rfl,rfl,rfl,rfl⟩) rfl ⟨n,q,rfl,?_,?_⟩
  ·rw[t.out]
   refine zI (B:=w.heap.size+2) ?_ oo
   iterate 6 refine ownsRow_setCell_below ?_ (by simp) _
   have h:=J;rw[List.nil_append] at h;exact h
  ·have V:=g.trans (b.mono oo)
   exact zy
set_option linter.unusedSimpArgs false in
set_option maxRecDepth 100000 in
theorem kM (K:Kn)(A:Option Addr)(cap:Nat)(c:Int)(w:World)(hk:K.ok)(y:Sl w A K.ps.length cap 2 (psV K.ps))(hc:K.fol c=true):
 Calls prog 256 #[knV K A cap,c] w (og (K.after c) w):=by
 obtain⟨i,hi,a5,a6,Q⟩:=info_parts nY;have d9:=hk.bd;have d':=y.1;have b':=K.qh hk hc;obtain⟨e0,e1⟩:=b';go_enter func256,ntmps256;go_wp2_with fail;have R:Bk ((w.alloc (.cells (knC K A cap) 94)).alloc (.cells knZ 94)) w.heap.size 94 (knC K A cap):=tBk;have a7:Bk ((w.alloc (.cells (knC K A cap) 94)).alloc (.cells knZ 94)) (w.heap.size+1) 94 knZ:=tBk;have c0:w.heap.size+1<((w.alloc (.cells (knC K A cap) 94)).alloc (.cells knZ 94)).heap.size:=(by simp);have a8:Below w.heap.size w ((w.alloc (.cells (knC K A cap) 94)).alloc (.cells knZ 94)):=zy;generalize(w.alloc (.cells (knC K A cap) 94)).alloc (.cells knZ 94)=W at*;have c1:w.heap.size<W.heap.size:=oo;have a9:=y.below a8;have a:=R.cell;have c2:0+K.ps.length≤maxLen:=(by unfold maxLen;omega);have c3:(0+K.ps.length)*16≤140737488355328:=oo;go_cut [5] (fun p S=>∃(s:Nat) (d:Option Addr) (f:Nat),p= .pointer (some ⟨s,0,none⟩)∧W.heap.size≤s∧Bk S s 94 #[K.o,K.l,K.m,.slice d K.ps.length f,K.base,c]∧S.ownsRow W.heap.size 173 2 (.slice d K.ps.length f) K.ps.length (psV K.ps)∧Below W.heap.size W S)
 case first=>
  have HK:Hid (∀w',Below W.heap.size W w'→(w'.cell? ⟨w.heap.size,0,none⟩=some (.int .i64 K.o)∧w'.cell? ⟨w.heap.size,1,none⟩=some (.int .i64 K.l)∧w'.cell? ⟨w.heap.size,2,none⟩=some (.int .i64 K.m)∧w'.cell? ⟨w.heap.size,3,none⟩=some (.slice A K.ps.length cap)∧w'.cell? ⟨w.heap.size,4,none⟩=some (.int .i64 K.base))):=fun w' h=>⟨(h.cell (p:=⟨_,_,_⟩) oB).trans (a 0),(h.cell (p:=⟨_,_,_⟩) oB).trans (a 1),(h.cell (p:=⟨_,_,_⟩) oB).trans (a 2),(h.cell (p:=⟨_,_,_⟩) oB).trans (a 3),(h.cell (p:=⟨_,_,_⟩) oB).trans (a 4)⟩;go_region_held3 (fun w'=>w'.cell? ⟨w.heap.size,0,none⟩=some (.int .i64 K.o)∧w'.cell? ⟨w.heap.size,1,none⟩=some (.int .i64 K.l)∧w'.cell? ⟨w.heap.size,2,none⟩=some (.int .i64 K.m)∧w'.cell? ⟨w.heap.size,3,none⟩=some (.slice A K.ps.length cap)∧w'.cell? ⟨w.heap.size,4,none⟩=some (.int .i64 K.base)) ((first|(exact HK.out _ vC)|go_keep)) (((refine uQ _ rfl _ _ 92 rfl W.heap.size 173 i _ 2 16 underlying92 hi a5 a6 Q rfl (by omega) (.slice (some ⟨_,0,none⟩) 0 0) 0 [] rfl (vS tBk (by first|omega|(simp<;>omega))) A K.ps.length cap (psV K.ps) rfl (a9.below yj) (VE _) c2 c3 (by first|omega|(simp<;>omega)) ?_;intro d f w2 b0 G c5;have x:Below W.heap.size W w2:=Below.grown yj G (by first|omega|(simp<;>omega)) (by rintro k ⟨⟩;first|omega|(simp<;>omega));have Q:=x.size;(first|(have j:=Bk.grown (Bk.drew (Bk.alloc (Bk.new W knZ 94) (.cells #[] 173))) G (by rintro k ⟨⟩;simp))|(have j:=Bk.grown (Bk.drew (Bk.newAt (W.alloc (.cells #[] 173)) knZ 94 (n:=W.heap.size+1) (by simp))) G (by rintro k ⟨⟩;simp))|skip);try(have e2:=j.cell;have e3:=j.free))))
  all_goals
   have t:w2.ownsRow W.heap.size 173 2 (.slice d K.ps.length f) K.ps.length (psV K.ps):=by
    have h:=b0;rw[Nat.zero_add,List.nil_append] at h;exact h
   clear G c5 b0;go_wp2_with fail;go_meet;refine⟨_,d,f,rfl,by first|omega|(simp<;>omega),?_,?_,yj⟩
   ·first
     |with_reducible exact Bk.new _ _ _
     |exact(((((j.set 0 _).set 1 _).set 2 _).set 3 _).set 4 _).set 5 _
   ·first
     |with_reducible exact World.ownsRow.alloc t _
     |(have u:=own_ne t j (by decide)
       exact zL (zL (zL (zL (zL (zL t u _) u _) u _) u _) u _) u _)
 case rest=>
  obtain⟨s,d,f,rfl,e4,j,b1,x⟩:=hcut;have T:=R.below x c1;have b2:=a7.below x c0;have U:=a8.trans (x.mono oo);have hy:=x.size;have c6:=j.lt;have b3:=y.below U;clear a a9 R a7;have a:=T.cell;have c7:K.ps.length+1≤maxLen:=(by unfold maxLen;omega);have c8:(K.ps.length+1)*16≤140737488355328:=oo;have H:Hid ((K.after c).ps=if K.gr=true then K.ps++[(K.last,byteAt (K.any c) 0)] else K.ps):=by
   show _=_;unfold Kn.after;rw[nR]
  go_wp2_with fail;refine(ou _ _ _ _ hk).mono ?_;rintro e I ⟨rfl,q⟩;have e6:=q.size;have V:=T.below q oo;have J:=b2.below q oo;have Y:=j.below q c6;have t:=zf b1 q;have c9:=b3.below q;have c':=U.trans (q.mono oo);clear q b1 j T b2 U b3 a;by_cases L:K.gr=true
  ·have z:Hid ((K.after c).ps=K.ps++[(K.last,byteAt (K.any c) 0)]):=by
    show _=_;rw[H.out,if_pos L]
   clear H;have cA:=fun w y=>qW K A cap c w hk y hc;generalize K.any c=X at*;have CA:=Go.Lib.hid cA;clear cA;have e7:=zQ X 0;have e8:=yG X 0;have a:=V.cell;have b5:=Y.cell;have C:Hid (∀w',Below I.heap.size I w'→(w'.cell? ⟨w.heap.size,0,none⟩=some (.int .i64 K.o)∧w'.cell? ⟨w.heap.size,1,none⟩=some (.int .i64 K.l)∧w'.cell? ⟨w.heap.size,2,none⟩=some (.int .i64 K.m)∧w'.cell? ⟨w.heap.size,3,none⟩=some (.slice A K.ps.length cap)∧w'.cell? ⟨w.heap.size,4,none⟩=some (.int .i64 K.base)∧w'.cell? ⟨w.heap.size,5,none⟩=some (.int .i64 K.last)∧w'.cell? ⟨s,3,none⟩=some (.slice d K.ps.length f))):=fun w' h=>⟨(h.cell (p:=⟨_,_,_⟩) oB).trans (a 0),(h.cell (p:=⟨_,_,_⟩) oB).trans (a 1),(h.cell (p:=⟨_,_,_⟩) oB).trans (a 2),(h.cell (p:=⟨_,_,_⟩) oB).trans (a 3),(h.cell (p:=⟨_,_,_⟩) oB).trans (a 4),(h.cell (p:=⟨_,_,_⟩) oB).trans (a 5),(h.cell (p:=⟨_,_,_⟩) oB).trans (b5 3)⟩;clear a b5;go_wp2_with fail;have e9:0<X.length:=oo;have e':IntKind.i64.wrap (byteAt X 0)=byteAt X 0:=IntWalk.i64_in _ oo;refine vW 13 (fun w'=>w'.cell? ⟨w.heap.size,0,none⟩=some (.int .i64 K.o)∧w'.cell? ⟨w.heap.size,1,none⟩=some (.int .i64 K.l)∧w'.cell? ⟨w.heap.size,2,none⟩=some (.int .i64 K.m)∧w'.cell? ⟨w.heap.size,3,none⟩=some (.slice A K.ps.length cap)∧w'.cell? ⟨w.heap.size,4,none⟩=some (.int .i64 K.base)∧w'.cell? ⟨w.heap.size,5,none⟩=some (.int .i64 K.last)∧w'.cell? ⟨s,3,none⟩=some (.slice d K.ps.length f)) kr kr (by first|(exact C.out _ vC)|go_keep) (fun M=> ?_);simp only[List.take_succ_cons,List.take_zero];refine tk 0 ?_;refine tk 1 ?_;refine tk 2 ?_;refine tk 3 ?_;refine tk 4 ?_;refine tk 5 ?_;try simp only[Act.put,rR]
   refine rd1 6 fun N g=> ?_;go_simp
   (go_at_call 237;refine(CA.out _ (c9.below yj)).mono ?_;rintro e w4 ⟨rfl,r⟩;have r:Below I.heap.size I w4:=zB r;have f0:=r.size;have b7:=Y.below r oo;have b8:=J.below r oo;have b9:=V.below r oo;have D:=zf t r;have d1:=c'.trans (r.mono oo))
   refine g.out _ _ (by first|(exact C.out _ vC)|go_keep) fun M=> ?_;try simp only[Act.put,rR]
   refine rd1 7 fun N g=> ?_;go_simp;refine g.out _ _ (by first|(exact C.out _ vC)|go_keep) fun M=> ?_;try simp only[Act.put,rR]
   refine tk 8 ?_;refine tk 9 ?_;try simp only[Act.put,rR]
   refine rd1 10 fun N g=> ?_;go_simp;refine g.out _ _ (by first|(exact C.out _ vC)|go_keep) fun M=> ?_;try simp only[Act.put,rR]
   refine rd1 11 fun N g=> ?_
   ((refine uQ _ rfl _ _ 92 rfl W.heap.size 173 i _ 2 16 underlying92 hi a5 a6 Q rfl (by omega) (.slice d K.ps.length f) K.ps.length (psV K.ps) rfl (D.alloc _) (some ⟨_,0,none⟩) 1 1 [.int .i64 K.last,.int .i64 (byteAt X 0)] rfl (Sl.new w4 #[K.last,.int .i64 (byteAt X 0)] _ 1 2 (by simp) (by omega)) (by simp [Value.oneCell']) c7 c8 (by first|omega|(simp<;>omega)) ?_);intro Z a0 w5 a1 E f2;have d2:=Bk.grown (b9.alloc _) E (own_ne D b9 (by decide));have O:=Bk.grown (b8.alloc _) E (own_ne D b8 (by decide));have P:=Bk.grown (b7.alloc _) E (own_ne D b7 (by decide));have d3:=d2.cell;have d4:=P.cell;have d5:=P.free;have f3:=yD d1 E (by omega) (fun k hk=>by have:=(D.lt k hk).1;omega);have f4:=ve E)
   refine g.out _ _ (by first|(exact C.out _ vC)|go_keep) fun M=> ?_;try simp only[Act.put,rR]
   refine tk 12 ?_;try simp only[Act.put,rR]
   refine wpAnyH_done kr ?_ _;refine yJ ?_;refine wpOp_step (o:=_) rfl (fun N g=> ?_);go_simp;refine g _ _ (NoPanic.normal ?_);try simp only[Act.put,rR]
   all_goals
    clear g;have d6:=(P.set 3 (.slice Z (K.ps.length+1) a0)).cell;have d7:=O.free;have a2:=O.cell;have f5:=O.lt;have u:¬w.heap.size+1=s:=oo;clear d3 d4 d5;go_wp2_with fail;have F:Hid ((K.after c).ps.length=K.ps.length+1):=(by show _=_;rw[z.out];simp);refine bodyPost_ret (v:=knV (K.after c) Z a0) (by simp [results,results256,go_sem,F.out,a2];exact⟨rfl,rfl,rfl,rfl,rfl⟩) rfl ⟨Z,a0,rfl,?_,zy⟩;rw[F.out,z.out,Yk];have d8:=own_ne a1 P (by decide);have b:=own_ne a1 O (by decide);exact zI (zL (zL (zL (zL (zL (zL (zL a1 d8 _) b _) b _) b _) b _) b _) b _) oo
  ·have z:Hid ((K.after c).ps=K.ps):=by
    show _=_;rw[H.out,if_neg L]
   clear H;have d6:=Y.cell;have d7:=J.free;have a2:=J.cell;have f6:K.gr=false:=(by simpa using L);have a:=V.cell;clear L;go_wp2_with fail;have F:Hid ((K.after c).ps.length=K.ps.length):=(by show _=_;rw[z.out]);refine bodyPost_ret (v:=knV (K.after c) d f) (by simp [results,results256,go_sem,F.out,a2];exact⟨rfl,rfl,rfl,rfl,rfl⟩) rfl ⟨d,f,rfl,?_,zy⟩;rw[F.out,z.out];have b:=own_ne t J (by decide);exact zI (zL (zL (zL (zL (zL (zL t b _) b _) b _) b _) b _) b _) oo
end Go.Proofs.YtoedhpcmgondjaaGreatDoor
namespace Go.Proofs.YtoedhpcmgondjaaGreatDoor
open Go.RowKit Go.Proofs.Tryz
set_option maxRecDepth 100000
theorem tu :(prog.info? 3).map (fun i=>(i.zero,i.size,i.bytes))=some (some (.int .i64 0),1,8):=by kernel_rfl
def Uw :Value→Nat
 | .string b=>b.data.size
 |_=>0
abbrev iv (c:Int):Value:=.int .i64 c
abbrev ivn (n:Nat):Value:=.int .i64 (n:Int)
section
variable {w w' : World} {B B' : Nat}
theorem Sl.own {e:TypeId}{A:Option Addr}{n cap size:Nat}{cs:List Value}(h:w.ownsRow B e size (.slice A n cap) n cs):Sl w A n cap size cs:=by
 obtain⟨a,b,h1,h2⟩:=Sl.sG h;injection h1 with e1 e2 e3
 subst e1 e3;exact h2
theorem uF {e c:TypeId}{s f n i:Nat}{v d:Value}{xs j:List Value}(h:w.ownsRow B e s v n xs)(k:w.ownsRow B' c f d i j)(l:e≠c):v.ownBlock=none∨v.ownBlock≠d.ownBlock:=by
 rcases h.2 with⟨rfl,_⟩|⟨g,cap,cur,rfl,_,m,_⟩
 ·exact .inl rfl
 ·right
  rcases k.2 with⟨rfl,_⟩|⟨o,p,q,rfl,_,b,_⟩
  ·intro a;cases a
  ·intro a
   injection a with a
   have a:g=o:=a;subst a;rw[m] at b;injection b with b
   injection b with _ b
   exact l b
theorem PW {e:TypeId}{size n:Nat}(w:World)(cs:Array Value)(h:cs.size=n*size)(a:B≤w.heap.size)(b:n≤maxLen):
 (w.alloc (.cells cs e)).ownsRow B e size (.slice (some ⟨w.heap.size,0,none⟩) n n) n cs.toList:=
 ⟨by simpa using h,.inr ⟨w.heap.size,n,cs,rfl,a,heap_alloc_new w _,Nat.le_refl _,b,h,by rw[List.take_of_length_le];simp;omega⟩⟩
theorem wZ {e:TypeId}{s n:Nat}{v:Value}{xs:List Value}(h:w.ownsRow B e s v n xs):w.drew.ownsRow B e s v n xs:=h
theorem rQ {K:Kn}{A:Option Addr}{cap b:Nat}(h:Bk w b 94 (knC K A cap))(a:Kn)(c:Option Addr)(d:Nat):Bk ((((((w.setCell ⟨b,0,none⟩ (.int .i64 a.o)).setCell ⟨b,1,none⟩ (.int .i64 a.l)).setCell ⟨b,2,none⟩ (.int .i64 a.m)).setCell ⟨b,3,none⟩ (.slice c a.ps.length d)).setCell ⟨b,4,none⟩ (.int .i64 a.base)).setCell ⟨b,5,none⟩ (.int .i64 a.last)) b 94 (knC a c d):=
 (((((h.set 0 _).set 1 _).set 2 _).set 3 _).set 4 _).set 5 _
theorem vw {b:Nat}(h:Bk w b 94 knZ)(a:Kn)(c:Option Addr)(d:Nat):Bk ((((((w.setCell ⟨b,0,none⟩ (.int .i64 a.o)).setCell ⟨b,1,none⟩ (.int .i64 a.l)).setCell ⟨b,2,none⟩ (.int .i64 a.m)).setCell ⟨b,3,none⟩ (.slice c a.ps.length d)).setCell ⟨b,4,none⟩ (.int .i64 a.base)).setCell ⟨b,5,none⟩ (.int .i64 a.last)) b 94 (knC a c d):=
 (((((h.set 0 _).set 1 _).set 2 _).set 3 _).set 4 _).set 5 _
theorem yC {b:Nat}(h:Below B w' w)(c:B≤b)(a:Kn)(d:Option Addr)(e:Nat):Below B w' ((((((w.setCell ⟨b,0,none⟩ (.int .i64 a.o)).setCell ⟨b,1,none⟩ (.int .i64 a.l)).setCell ⟨b,2,none⟩ (.int .i64 a.m)).setCell ⟨b,3,none⟩ (.slice d a.ps.length e)).setCell ⟨b,4,none⟩ (.int .i64 a.base)).setCell ⟨b,5,none⟩ (.int .i64 a.last)):=by
 iterate 6 refine Below.setCell ?_ (by simpa using c) _
 exact h
theorem qQ (w:World)(b:Nat)(a:Kn)(c:Option Addr)(d:Nat):((((((w.setCell ⟨b,0,none⟩ (.int .i64 a.o)).setCell ⟨b,1,none⟩ (.int .i64 a.l)).setCell ⟨b,2,none⟩ (.int .i64 a.m)).setCell ⟨b,3,none⟩ (.slice c a.ps.length d)).setCell ⟨b,4,none⟩ (.int .i64 a.base)).setCell ⟨b,5,none⟩ (.int .i64 a.last)).heap.size=w.heap.size:=by simp
theorem yI {b:Nat}{e:TypeId}{s n:Nat}{v:Value}{xs:List Value}(h:w.ownsRow B e s v n xs)(c:b<B)(a:Kn)(d:Option Addr)(f:Nat):((((((w.setCell ⟨b,0,none⟩ (.int .i64 a.o)).setCell ⟨b,1,none⟩ (.int .i64 a.l)).setCell ⟨b,2,none⟩ (.int .i64 a.m)).setCell ⟨b,3,none⟩ (.slice d a.ps.length f)).setCell ⟨b,4,none⟩ (.int .i64 a.base)).setCell ⟨b,5,none⟩ (.int .i64 a.last)).ownsRow B e s v n xs:=by
 iterate 6 refine ownsRow_setCell_below ?_ (by simpa using c) _
 exact h
theorem mZ {b g:Nat}{t:TypeId}{cs:Array Value}(h:Bk w g t cs)(c:g≠b)(a:Kn)(d:Option Addr)(e:Nat):Bk ((((((w.setCell ⟨b,0,none⟩ (.int .i64 a.o)).setCell ⟨b,1,none⟩ (.int .i64 a.l)).setCell ⟨b,2,none⟩ (.int .i64 a.m)).setCell ⟨b,3,none⟩ (.slice d a.ps.length e)).setCell ⟨b,4,none⟩ (.int .i64 a.base)).setCell ⟨b,5,none⟩ (.int .i64 a.last)) g t cs:=by
 iterate 6 refine Bk.far ?_ (by simpa using c) _
 exact h
end
end Go.Proofs.YtoedhpcmgondjaaGreatDoor
namespace Go.Proofs.YtoedhpcmgondjaaGreatDoor
open Go.Lib(hid)
open Go.RowKit Go.Proofs.Tryz
set_option maxRecDepth 100000
attribute [local instance] mU hZ cvZ
attribute [local go_sem high] zG zF zH zV zN yu zD zl zn zt zi zu y9 zK yE zJ
theorem pV (K:Kn)(A:Option Addr)(cap:Nat)(c:Int)(w:World)(hk:K.ok)(t:Sl w A K.ps.length cap 2 (psV K.ps))(m:c≠K.cl→K.fol c=true):
 Calls prog 238 #[knV K A cap,c] w (og (K.step c) w):=by
 have y:=hk.lm;obtain⟨u,x,I,J⟩:=y;by_cases d:c=K.cl
 ·have g:K.step c=K.cleared:=if_pos d
  rw[g];have z:(c==pow2 K.l)=true:=(by simpa [Kn.cl] using d);clear d m g;go_enter func238,ntmps238;go_wp2_with fail;refine(yO _ _ _ _ u x).mono ?_;rintro e b ⟨rfl,a⟩;have n:=a.size;simp only[World.size_alloc] at n;have o:Bk b w.heap.size 94 (knC K A cap):=(Bk.alloc (Bk.new _ _ _) _).below a (by simp;omega);have p:Bk b (w.heap.size+1) 94 knZ:=(Bk.newAt _ _ _ (by simp)).below a (by simp);have h:Below w.heap.size w b:=(zy:Below w.heap.size w ((w.alloc (.cells (knC K A cap) 94)).alloc (.cells knZ 94))).trans (a.mono (by simp;omega));clear a;have q:=o.cell;go_wp2_with fail;refine(qj K A cap _ hk (t.below h)).mono ?_;rintro e C ⟨i,j,rfl,r,f⟩;have D:=f.size;have E:=h.trans (f.mono oo);have k:=p.below f oo;have s:=k.cell;have F:=k.free;clear q;go_wp2_with fail;refine bodyPost_ret (v:=knV K.cleared i j) (by simp [results,results238,go_sem,s]) rfl ⟨i,j,rfl,?_,zy⟩;refine zI (B:=b.heap.size) ?_ oo
  iterate 6 refine ownsRow_setCell_below ?_ (by simp;omega) _
  exact r
 ·have g:K.step c=K.after c:=if_neg d
  rw[g];have G:=m d;have z:(c==pow2 K.l)=false:=(by simpa [Kn.cl] using d);clear d m g;go_enter func238,ntmps238;go_wp2_with fail;refine(yO _ _ _ _ u x).mono ?_;rintro e b ⟨rfl,a⟩;have n:=a.size;simp only[World.size_alloc] at n;have o:Bk b w.heap.size 94 (knC K A cap):=(Bk.alloc (Bk.new _ _ _) _).below a (by simp;omega);have p:Bk b (w.heap.size+1) 94 knZ:=(Bk.newAt _ _ _ (by simp)).below a (by simp);have h:Below w.heap.size w b:=(zy:Below w.heap.size w ((w.alloc (.cells (knC K A cap) 94)).alloc (.cells knZ 94))).trans (a.mono (by simp;omega));clear a;have q:=o.cell;go_wp2_with fail;refine(kM K A cap c _ hk (t.below h) G).mono ?_;generalize K.after c=H at*;rintro e C ⟨i,j,rfl,r,f⟩;have D:=f.size;have E:=h.trans (f.mono oo);have k:=p.below f oo;have s:=k.cell;have F:=k.free;clear q;go_wp2_with fail;refine bodyPost_ret (v:=knV H i j) (by simp [results,results238,go_sem,s]) rfl ⟨i,j,rfl,?_,zy⟩;refine zI (B:=b.heap.size) ?_ oo
  iterate 6 refine ownsRow_setCell_below ?_ (by simp;omega) _
  exact r
theorem RY (K:Kn)(x:Bs)(a:¬(x.length=1∧wV x<K.cl))(i:Nat)(b:i<K.yP.length)(c:∀j,(h:j<i)→K.any (K.cl+2+(j:Int))≠x)(d:K.any (K.cl+2+(i:Int))=x):K.find x=K.cl+2+(i:Int):=by
 unfold Kn.find;rw[if_neg a];have:K.yP.findIdx? (fun y=>decide (y=x))=some i:=by
  rw[List.findIdx?_eq_some_iff_getElem];refine⟨b,by simpa [Kn.yP] using d,fun j e=> ?_⟩;have:=c j e;simpa [Kn.yP] using this
 rw[this]
theorem Ox (K:Kn)(x:Bs)(a:¬(x.length=1∧wV x<K.cl))(b:∀j,(h:j<K.yP.length)→K.any (K.cl+2+(j:Int))≠x):K.find x= -1:=by
 unfold Kn.find;rw[if_neg a];have:K.yP.findIdx? (fun y=>decide (y=x))=none:=by
  rw[List.findIdx?_eq_none_iff];intro y c;obtain⟨j,d,rfl⟩:=List.getElem_of_mem c;have:=b j d;simpa [Kn.yP] using this
 rw[this]
theorem ZN (K:Kn)(A:Option Addr)(cap:Nat)(x:Bs)(w:World)(hk:K.ok)(Q:Sl w A K.ps.length cap 2 (psV K.ps))(hl:x.length≤100000):
 Calls prog 257 #[knV K A cap,x] w (rT w (.int .i64 (K.find x))):=by
 have a8:=hk.bd;have a9:=K.tJ hk;have R:=hk.lm;obtain⟨g,k,a',b0⟩:=R;have S:=xu K.l g k;obtain⟨b1,b2⟩:=S;have q:=hid (K.uo);have r:Hid (K.cl=pow2 K.l):=rfl;have b3:=zQ x 0;have b4:=yG x 0;have b5:IntKind.i64.wrap (byteAt x 0)=byteAt x 0:=IntWalk.i64_in _ oo;by_cases a:x.length=1∧wV x<K.cl
 ·have T:Hid (K.find x=byteAt x 0):=by show _=_;unfold Kn.find;rw[if_pos a,nR]
  rw[nR] at a;obtain⟨h1,h2⟩:=a;have h2:byteAt x 0<pow2 K.l:=h2;have U:0<x.length:=oo;have s:((x.length:Int)==1)=true:=(by simp;omega);clear h1;go_enter func257,ntmps257;go_wp2_with fail;have D:=zM (yF w (knC K A cap) 94) (by simp);refine wp_region_quiet_below kr kr ?_;repeat(go_big_quiet_step ((go_at_call 98;exact Calls.regrown_of (yO _ _ _ _ g k))))
  refine wpQuiet_nil ?_;intro d f;have b:Below _ _ d:=zh f;clear f;go_wp2;go_ret;exact⟨yZ T.out.symm,((Below.refl _ _).alloc (Nat.le_refl _) _).trans (b.mono (by simp))⟩
 ·have E:=hid a
  rw[nR] at a;have V:((x.length:Int)==1)=false∨(((x.length:Int)==1)=true∧¬byteAt x 0<pow2 K.l∧0<x.length):=by
   by_cases h1:x.length=1
   ·right
    refine⟨by simp;omega,fun h=>a ⟨h1,h⟩,by omega⟩
   ·left;simp;omega
  clear a;go_enter func257,ntmps257;rcases V with s|⟨s,h2,U⟩
  all_goals
   go_wp2_with fail;have D:=zM (yF w (knC K A cap) 94) (by simp);refine wp_region_quiet_below kr kr ?_;repeat(go_big_quiet_step ((go_at_call 98;exact Calls.regrown_of (yO _ _ _ _ g k))))
   refine wpQuiet_nil ?_;intro d f;have b:Below _ _ d:=zh f;clear f;have W:=b.size;simp only[World.size_alloc] at W;have F:∀i,d.cell? ⟨w.heap.size,i,none⟩=(knC K A cap)[i]? :=zU (yF _ _ _) b (by simp);have G:Below w.heap.size w d:=((Below.refl _ _).alloc (Nat.le_refl _) _).trans (b.mono (by simp));clear D b s;go_wp2_with fail;refine(xR _ _ _ _ g k).mono ?_;rintro e w3 ⟨rfl,m⟩;have b7:=m.size;have X:=zU F m oo;have g3:=G.trans (m.mono oo);clear m F G;go_wp2;go_loopw [5] (fun v wr=>∃i:Nat,i≤K.yP.length∧v= .int .i64 (pow2 K.l+2+i)∧(∀j,(h:j<i)→K.any (pow2 K.l+2+(j:Int))≠x)∧Below w.heap.size w wr∧w.heap.size<wr.heap.size∧∀i,wr.cell? ⟨w.heap.size,i,none⟩=(knC K A cap)[i]?) (fun v _=>K.yP.length+70000 - (intOf v).toNat)
   case atStart=>exact⟨0,oo,by go_num,fun j h=>by omega,zy,by first|omega|(simp;omega),X⟩
   case round=>
    obtain⟨i,hi,rfl,t,H,Y,I⟩:=hrel;have u:=hid t;clear t;have b':i≤5000:=(by have:=q.out;omega);go_wp2_with fail;refine(pM _ _ _ _ hk).mono ?_;rintro e w4 ⟨rfl,n⟩;have c1:=n.size;have J:=zU I n Y;have o:=H.trans (n.mono oo);clear n I H;by_cases L:i<K.yP.length
    ·have c2:pow2 K.l+2+(i:Int)≤K.great:=by have:=q.out;have:=r.out;omega
     have z:=K.jw i L;rw[r.out] at z;have Z:Hid (K.any (pow2 K.l+2+(i:Int))=x→K.find x=pow2 K.l+2+(i:Int)):=fun he=>RY K x E.out i L (fun j M=>u.out j M) he;have a1:Hid (K.any (pow2 K.l+2+(i:Int))≠x→∀j,(h:j<i+1)→K.any (pow2 K.l+2+(j:Int))≠x):=fun a2 j M=>by
      rcases Nat.lt_or_ge j i with h|h
      ·exact u.out j h
      ·have:j=i:=oo
       subst this;exact a2
     have a3:=K.qh hk z;obtain⟨c3,c4⟩:=a3;go_wp2_with fail;refine(qW K A cap _ _ hk (Q.below o) z).mono ?_;rintro e w5 ⟨rfl,p⟩;have c6:=p.size;have a4:=zU J p oo;have N:=o.trans (p.mono oo);clear p J o;generalize K.any (pow2 K.l+2+(i:Int))=y at*;by_cases c:y=x
     ·have O:=Z.out c
      have C:=hid O;clear O;have hd:decide (y=x)=true:=(by simpa using c);clear c;go_wp2;go_ret;exact⟨yZ C.out.symm,N⟩
     ·have P:=a1.out c
      have a6:=hid P;clear P;have hd:decide (y=x)=false:=(by simpa using c);clear c;go_wp2;go_roundw
      case rel=>exact⟨i+1,oo,by go_num,a6.out,N,oo,a4⟩
      case measure=>simp [intOf];omega
    ·have c7:¬pow2 K.l+2+(i:Int)≤K.great:=by have:=q.out;have:=r.out;omega
     have C:Hid (K.find x= -1):=Ox K x E.out (fun j t=>u.out j oo);go_wp2;go_ret;exact⟨yZ C.out.symm,o⟩
theorem qH :∀(n:Nat) (K:Kn) (t:Bs),(yc n K t).length≤2*t.length
 |0,_,_=>by simp [yc]
 |n+1,K,t=>by
  unfold yc;split
  ·simp
  ·rename_i a
   have h1:=K.xE a;have h2:=(K.yQ t).2;have b:(t.drop (K.longest t).length).length=t.length - (K.longest t).length:=(by simp);simp only;split
   ·have:=qH n (K.after (K.find (K.longest t))).cleared (t.drop (K.longest t).length)
    simp only[List.length_cons];omega
   ·have:=qH n (K.after (K.find (K.longest t))) (t.drop (K.longest t).length)
    simp only[List.length_cons];omega
theorem jU (K:Kn)(t:Bs):(K.yw t).length≤2*t.length+2:=by
 have:=qH t.length K.cleared t;unfold Kn.yw;simp;omega
theorem Ve (n:Nat)(K:Kn):yc n K []=[]:=by cases n<;>simp [yc]
theorem ZT (n:Nat)(K a:Kn)(t r:Bs)(c:Int)(b:t≠[])(d:K.find (K.longest t)=c)(e:K.after c=a)(f:t.drop (K.longest t).length=r)(h:r≠[]∧a.top<a.nx∧a.base<a.ps.length):
 yc (n+1) K t=c::a.cl::yc n a.cleared r:=by
 subst d e f;rw[yc,if_neg b];simp only;rw[if_pos h];rfl
theorem U3 (n:Nat)(K a:Kn)(t r:Bs)(c:Int)(b:t≠[])(d:K.find (K.longest t)=c)(e:K.after c=a)(f:t.drop (K.longest t).length=r)(h:¬(r≠[]∧a.top<a.nx∧a.base<a.ps.length)):
 yc (n+1) K t=c::yc n a r:=by
 subst d e f;rw[yc,if_neg b];simp only;rw[if_neg h]
theorem VD (K:Kn)(A:Option Addr)(cap:Nat)(d:Bs)(w:World)(hk:K.ok)(C:Sl w A K.ps.length cap 2 (psV K.ps))(hl:d.length≤100000)(hf:d.all (uq K.l)=true):
 Calls prog 243 #[knV K A cap,d] w fun e w'=>∃v,e= .returned v∧w'.ownsRow (w.heap.size+1) 3 1 v (K.yw d).length ((K.yw d).map iv)∧Below w.heap.size w w':=by
 obtain⟨i,hi,c1,c2,c3⟩:=info_parts tu;have hp:=hk.lm;obtain⟨e8,e9,m',n0⟩:=hp;have j3:=xu K.l e8 e9;obtain⟨n1,n2⟩:=j3;have e':=K.xy hk;have f0:=jU K d;go_enter func243,ntmps243;go_wp2_with fail;refine(yO _ _ _ _ e8 e9).mono ?_;rintro e J ⟨rfl,a7⟩;have j4:=a7.size;simp only[World.size_alloc] at j4;have c4:Bk J w.heap.size 94 (knC K A cap):=(Bk.new _ _ _).below a7 (by simp);have g1:Below w.heap.size w J:=(zy:Below w.heap.size w (w.alloc (.cells (knC K A cap) 94))).trans (a7.mono (by simp));clear a7;have p:=(c4.alloc (.cells #[.int .i64 (pow2 K.l)] 3)).cell;go_wp2_with fail;have f2:=(C.below g1).alloc (.cells #[.int .i64 (pow2 K.l)] 3);have o1:(J.alloc (.cells #[.int .i64 (pow2 K.l)] 3)).ownsRow (w.heap.size+1) 3 1 (.slice (some ⟨J.heap.size,0,none⟩) 1 1) 1 [.int .i64 (pow2 K.l)]:=PW J #[.int .i64 (pow2 K.l)] rfl oo (by unfold maxLen;omega);refine(qj K A cap _ hk f2).mono ?_;rintro e w2 ⟨H,I,rfl,f4,U⟩;have j5:=U.size;simp only[World.size_alloc] at j5;have a8:=(c4.alloc _).below U (by simp;omega);have o2:=zf o1 U;have p2:=zI (B':=w.heap.size+1) f4 (by simp;omega);have g2:Below w.heap.size w w2:=(g1.alloc (by omega) _).trans (U.mono (by simp;omega));clear U f4 p c4 o1 f2;have p:=a8.cell;have hF:=a8.free;go_wp2_with fail;have f8:=rQ a8 K.cleared H I;have g3:=yC g2 (Nat.le_refl _) K.cleared H I;have o3:=yI o2 (Nat.lt_succ_self _) K.cleared H I;have p3:=yI p2 (Nat.lt_succ_self _) K.cleared H I;have n3:=qQ w2 w.heap.size K.cleared H I;clear p hF a8 o2 p2 g2;generalize((((((w2.setCell ⟨w.heap.size,0,none⟩ (.int .i64 K.cleared.o)).setCell ⟨w.heap.size,1,none⟩ (.int .i64 K.cleared.l)).setCell ⟨w.heap.size,2,none⟩ (.int .i64 K.cleared.m)).setCell ⟨w.heap.size,3,none⟩ (.slice H K.cleared.ps.length I)).setCell ⟨w.heap.size,4,none⟩ (.int .i64 K.cleared.base)).setCell ⟨w.heap.size,5,none⟩ (.int .i64 K.cleared.last))=w3 at*;have g0:K.cleared.l=K.l:=rfl;have j7:K.cleared.m=K.m:=rfl;have g4:Hid (K.yw d=[pow2 K.l]++(yc d.length K.cleared d++[pow2 K.l+1])):=rfl;have j8:Hid ((K.yw d).length≤2*d.length+2):=f0;clear f0 C hk;have o3:w3.ownsRow (w.heap.size+1) 3 1 (.slice (some ⟨J.heap.size,0,none⟩) 1 1) [pow2 K.l].length ([pow2 K.l].map iv):=o3;generalize g7:K.yw d=G at*;have j9:=hid g7;clear g7;generalize K.cleared=K0 at*;go_loopw [1,5,6,7] (fun a b _ _ wr=>∃(f:Kn) (s:Option Addr) (t n:Nat) (out:List Int) (g:Bs),a= .string ⟨g.toArray⟩∧f.ok∧Hid (f.l=K.l)∧g.all (uq K.l)=true∧g.length≤d.length∧g.length≤n∧Hid (G=out++(yc n f g++[pow2 K.l+1]))∧
  wr.ownsRow (w.heap.size+1) 3 1 b out.length (out.map iv)∧wr.ownsRow (w.heap.size+1) 173 2 (.slice s f.ps.length t) f.ps.length (psV f.ps)∧Bk wr w.heap.size 94 (knC f s t)∧Below w.heap.size w wr) (fun a _ _ _ _=>Uw a)
 case atStart=>exact⟨K0,H,I,d.length,[pow2 K.l],d,rfl,e',g0,hf,Nat.le_refl _,Nat.le_refl _,g4,o3,p3,f8,g3⟩
 case round=>
  obtain⟨f,s,t,n,out,g,rfl,L,c6,g8,n4,k0,HG,o4,p4,b1,V⟩:=hrel;clear e' g0 j7 g4 o3 p3 f8 g3 hf;have n5:out.length≤2*d.length+2:=(by have h1:=congrArg List.length HG.out;have h2:=j8.out;simp at h1;omega);have g':out.length+1≤maxLen:=(by unfold maxLen;omega);have h0:(out.length+1)*8≤140737488355328:=oo;have p:=b1.cell;have n6:w.heap.size+1≤wr.heap.size:=(by have:=b1.lt;omega);by_cases u:g=[]
  ·have k1:decide (g=[])=true:=by simpa using u
   have M:Hid (G=out++[pow2 K.l+1]):=by
    have h:=HG.out;rw[u,Ve,List.nil_append] at h;exact h
   have hq:=L.lm;obtain⟨c',d0,d1,d2⟩:=hq;clear u;go_wp2_with fail;refine(xR _ _ _ _ c' d0).mono ?_;rintro e w5 ⟨rfl,z⟩;have k2:=z.size;have W:=zf o4 z;have g5:=V.trans (z.mono (by have:=V.size;omega));go_wp2_with(at_builtin;go_must(refine wpList_append_own _ rfl _ _ 33 rfl (w.heap.size+1) 3 i _ 1 8 underlying33 hi c1 c2 c3 rfl oo _ _ _ rfl (W.alloc _) ⟨w5.heap.size,0,none⟩ 1 1 [.int .i64 (pow2 f.l+1)] rfl rfl ?_ ?_ g' h0 ?_ ?_));try(case refine_1=>first|exact cell_one_new _ _ _|omega|(simp<;>omega;done)|(simp [Value.oneCell'];done))
   try(case refine_2=>first|exact cell_one_new _ _ _|omega|(simp<;>omega;done)|(simp [Value.oneCell'];done))
   try(case refine_3=>first|exact cell_one_new _ _ _|omega|(simp<;>omega;done)|(simp [Value.oneCell'];done))
   intro v6 w6 D k3 _;have g6:=yD g5 k3 (by have:=V.size;omega) (fun k hk=>by have:=(W.lt k hk).1;omega);go_wp2;go_ret;refine⟨_,rfl,?_,g6⟩;have h1:G.length=out.length+1:=(by rw[M.out];simp);rw[j9.out,h1,M.out,List.map_append];rw[c6.out] at D;exact D
  ·obtain⟨m,hm⟩:∃m,n=m+1:=⟨n - 1,by cases g with
    |nil=>exact absurd rfl u
    |cons x r=>simp at k0;omega⟩
   subst hm;have h5:g.all (uq f.l)=true:=(by rw[c6.out];exact g8);have X:=f.rC L u h5;obtain⟨X,_,n8⟩:=X;have n9:=(f.yQ g).2;have n':=f.xE u;have N:=f.uy L X;have HL:Hid (∀w,Sl w s f.ps.length t 2 (psV f.ps)→Calls prog 255 #[knV f s t,g] w (rT w (.string ⟨(f.longest g).toArray⟩))):=fun w C=>jV f s t g w L C u oo;have k6:(f.longest g).length≤100000:=oo;have HF:Hid (∀w,Sl w s f.ps.length t 2 (psV f.ps)→Calls prog 257 #[knV f s t,.string ⟨(f.longest g).toArray⟩] w (rT w (.int .i64 (f.find (f.longest g))))):=fun w C=>ZN f s t _ w L C k6;have HA:Hid (∀w,Sl w s f.ps.length t 2 (psV f.ps)→Calls prog 256 #[knV f s t,.int .i64 (f.find (f.longest g))] w (og (f.after (f.find (f.longest g))) w)):=fun w C=>kM f s t _ w L C X;have HC:Hid (g.drop (f.longest g).length≠[]∧(f.after (f.find (f.longest g))).top<(f.after (f.find (f.longest g))).nx∧(f.after (f.find (f.longest g))).base<(f.after (f.find (f.longest g))).ps.length→yc (m+1) f g=f.find (f.longest g)::(f.after (f.find (f.longest g))).cl::yc m (f.after (f.find (f.longest g))).cleared (g.drop (f.longest g).length)):=fun h=>ZT m f _ g _ _ u rfl rfl rfl h;have HN:Hid (¬(g.drop (f.longest g).length≠[]∧(f.after (f.find (f.longest g))).top<(f.after (f.find (f.longest g))).nx∧(f.after (f.find (f.longest g))).base<(f.after (f.find (f.longest g))).ps.length)→yc (m+1) f g=f.find (f.longest g)::yc m (f.after (f.find (f.longest g))) (g.drop (f.longest g).length)):=fun h=>U3 m f _ g _ _ u rfl rfl rfl h;have h6:Hid ((f.after (f.find (f.longest g))).l=K.l):=c6.out;have k1:decide (g=[])=false:=(by simpa using u);have h7:(g.drop (f.longest g).length).length=g.length - (f.longest g).length:=(by simp);have h8:(g.drop (f.longest g).length).all (uq K.l)=true:=qB _ _ _ g8;clear u X h5;generalize f.after (f.find (f.longest g))=j at*;generalize f.find (f.longest g)=c at*;have k9:∀x:Bs,g.drop x.length=g.drop x.length:=fun _=>rfl;generalize f.longest g=x at*;have O:=hid h7;clear h7 k9;have o0:(x.length:Int)≤g.length:=oo;go_wp2_with fail;refine(HL.out _ (Sl.own p4)).mono ?_;rintro e w5 ⟨rfl,z⟩;have k2:=z.size;have W:=zf o4 z;have p5:=zf p4 z;have d6:=b1.below z oo;have g5:=V.trans (z.mono oo);clear p z o4 p4 b1 V;have p:=d6.cell;go_wp2_with fail;refine(HF.out _ (Sl.own p5)).mono ?_;rintro e w6 ⟨rfl,P⟩;have o5:=P.size;have D:=zf W P;have p6:=zf p5 P;have d8:=d6.below P oo;have g6:=g5.trans (P.mono oo);clear p P W p5 d6 g5;go_wp2_with(at_builtin;go_must(refine wpList_append_own _ rfl _ _ 33 rfl (w.heap.size+1) 3 i _ 1 8 underlying33 hi c1 c2 c3 rfl oo _ _ _ rfl (D.alloc _) ⟨w6.heap.size,0,none⟩ 1 1 [.int .i64 c] rfl rfl ?_ ?_ g' h0 ?_ ?_));try(case refine_1=>first|exact cell_one_new _ _ _|omega|(simp<;>omega;done)|(simp [Value.oneCell'];done))
   try(case refine_2=>first|exact cell_one_new _ _ _|omega|(simp<;>omega;done)|(simp [Value.oneCell'];done))
   try(case refine_3=>first|exact cell_one_new _ _ _|omega|(simp<;>omega;done)|(simp [Value.oneCell'];done))
   intro v7 w7 o7 Y _;have h':=yD g6 Y oo (fun k hk=>by have:=(D.lt k hk).1;omega);have d9:=(d8.alloc (.cells #[c] 3)).grown Y (own_ne D d8 (by decide));have p7:=(p6.alloc (.cells #[c] 3)).kept Y (uF p6 D (by decide));have o9:=ve Y;clear Y D p6 d8 g6;have p:=d9.cell;go_wp2_with fail;refine(HA.out _ (Sl.own p7)).mono ?_;rintro e w8 ⟨E,F,rfl,i2,Z⟩;have o':=Z.size;have o8:=zf o7 Z;have p8:=zI (B':=w.heap.size+1) i2 oo;have b4:=d9.below Z oo;have i5:=h'.trans (Z.mono oo);clear p Z o7 p7 d9 h' i2;have p:=b4.cell;have hF:=b4.free;go_wp2_with fail;generalize g.drop x.length=r at*;have a0:=rQ b4 j E F;have g9:=yC i5 (Nat.le_refl _) j E F;have Q:=yI o8 (Nat.lt_succ_self _) j E F;have p9:=yI p8 (Nat.lt_succ_self _) j E F;have p0:=qQ w8 w.heap.size j E F;clear p hF b4 o8 p8 i5;generalize((((((w8.setCell ⟨w.heap.size,0,none⟩ (.int .i64 j.o)).setCell ⟨w.heap.size,1,none⟩ (.int .i64 j.l)).setCell ⟨w.heap.size,2,none⟩ (.int .i64 j.m)).setCell ⟨w.heap.size,3,none⟩ (.slice E j.ps.length F)).setCell ⟨w.heap.size,4,none⟩ (.int .i64 j.base)).setCell ⟨w.heap.size,5,none⟩ (.int .i64 j.last))=w9 at*;have hG:=zM a0.cell oo;have hq:=N.lm;obtain⟨c',d0,d1,d2⟩:=hq;have l1:out.length+2≤maxLen:=(by unfold maxLen;omega);have p1:Hid (j.top=pow2 j.m - 1):=rfl;have Q:w9.ownsRow (w.heap.size+1) 3 1 v7 (out++[c]).length ((out++[c]).map iv):=by
    rw[List.map_append,List.length_append];exact Q
   by_cases a1:r≠[]∧j.top<j.nx∧j.base<j.ps.length
   ·have M:=hid (HC.out a1)
    have d':Hid (G=(out++[c,pow2 j.l])++(yc m j.cleared r++[pow2 K.l+1])):=by
     show _=_;rw[HG.out,M.out];simp [Kn.cl]
    obtain⟨h1,b7,l2⟩:=a1;have e0:decide (r=[])=false:=(by simpa using h1);have b7:pow2 j.m - 1<j.nx:=b7;have l3:=j.xy N;have l4:Hid (j.cleared.l=K.l):=h6.out;clear h1 HC HN;refine wp_region_quiet_below kr kr ?_;repeat(go_big_quiet_step ((first|(go_at_call 262;exact Calls.regrown_of (uN _ _ _ _ N))|(go_at_call 239;exact Calls.regrown_of (pR _ _ _ _ d1 d2)))))
    refine wpQuiet_nil ?_;intro e1 a2;have q:Below _ _ e1:=zh a2;clear a2;have l5:=q.size;have b8:=zf Q q;have b9:=zf p9 q;have a3:=a0.below q oo;have b':=g9.trans (q.mono oo);clear q Q p9 a0 g9 hG;have p:=a3.cell;go_wp2_with fail;refine(yO _ _ _ _ c' d0).mono ?_;rintro e l6 ⟨rfl,R⟩;have p':=R.size;have a4:=zf b8 R;have e2:=zf b9 R;have e3:=a3.below R oo;have i7:=b'.trans (R.mono oo);clear R p b8 b9 a3 b';have l8:(out++[c]).length+1≤maxLen:=(by rw[List.length_append];exact l1);have l9:((out++[c]).length+1)*8≤140737488355328:=(by rw[List.length_append];simp;omega);go_wp2_with(at_builtin;go_must(refine wpList_append_own _ rfl _ _ 33 rfl (w.heap.size+1) 3 i _ 1 8 underlying33 hi c1 c2 c3 rfl oo _ _ _ rfl (a4.alloc _) ⟨l6.heap.size,0,none⟩ 1 1 [.int .i64 (pow2 j.l)] rfl rfl ?_ ?_ l8 l9 ?_ ?_));try(case refine_1=>first|exact cell_one_new _ _ _|omega|(simp<;>omega;done)|(simp [Value.oneCell'];done))
    try(case refine_2=>first|exact cell_one_new _ _ _|omega|(simp<;>omega;done)|(simp [Value.oneCell'];done))
    try(case refine_3=>first|exact cell_one_new _ _ _|omega|(simp<;>omega;done)|(simp [Value.oneCell'];done))
    intro l' q0 i8 a5 _;have i9:=yD i7 a5 oo (fun k hk=>by have:=(a4.lt k hk).1;omega);have e4:=(e3.alloc (.cells #[.int .i64 (pow2 j.l)] 3)).grown a5 (own_ne a4 e3 (by decide));have i':=(e2.alloc (.cells #[.int .i64 (pow2 j.l)] 3)).kept a5 (uF e2 a4 (by decide));have q1:=ve a5;clear a5 a4 e2 e3 i7;have p:=e4.cell;go_wp2_with fail;refine(qj j E F _ N (Sl.own i')).mono ?_;rintro e m0 ⟨S,T,rfl,j0,a6⟩;have q2:=a6.size;have m1:=zf i8 a6;have m2:=zI (B':=w.heap.size+1) j0 oo;have e5:=e4.below a6 oo;have m3:=i9.trans (a6.mono oo);clear p a6 i8 i' e4 i9 j0;have p:=e5.cell;have hF:=e5.free;generalize j.cleared=y at*;go_wp2;have m4:=rQ e5 y S T;have m5:=yC m3 (Nat.le_refl _) y S T;have e6:=yI m1 (Nat.lt_succ_self _) y S T;have m6:=yI m2 (Nat.lt_succ_self _) y S T;have e6:(((((((m0.setCell ⟨w.heap.size,0,none⟩ (.int .i64 y.o)).setCell ⟨w.heap.size,1,none⟩ (.int .i64 y.l)).setCell ⟨w.heap.size,2,none⟩ (.int .i64 y.m)).setCell ⟨w.heap.size,3,none⟩ (.slice S y.ps.length T)).setCell ⟨w.heap.size,4,none⟩ (.int .i64 y.base)).setCell ⟨w.heap.size,5,none⟩ (.int .i64 y.last))).ownsRow (w.heap.size+1) 3 1 l' (out++[c,pow2 j.l]).length ((out++[c,pow2 j.l]).map iv):=by
     rw[List.length_append,List.map_append];exact e6
    go_roundw
    case rel=>exact⟨y,S,T,m,out++[c,pow2 j.l],r,rfl,l3,l4,h8,by have:=O.out;omega,by have:=O.out;omega,d',e6,m6,m4,m5⟩
    case measure=>have:=O.out;simp [Uw];omega
   ·have M:=hid (HN.out a1)
    have d':Hid (G=(out++[c])++(yc m j r++[pow2 K.l+1])):=by
     show _=_;rw[HG.out,M.out];simp
    have m7:decide (r=[])=true∨(decide (r=[])=false∧¬pow2 j.m - 1<j.nx)∨(decide (r=[])=false∧pow2 j.m - 1<j.nx∧¬j.base<j.ps.length):=by
     by_cases h1:r=[]
     ·left;simpa using h1
     ·right
      have j1:decide (r=[])=false:=(by simpa using h1);by_cases h2:j.top<j.nx
      ·right;exact⟨j1,h2,fun h3=>a1 ⟨h1,h2,h3⟩⟩
      ·left;exact⟨j1,h2⟩
    clear a1 HC HN;rcases m7 with e0|⟨e0,b7⟩|⟨e0,b7,l2⟩
    all_goals
     refine wp_region_quiet_below kr kr ?_;repeat(go_big_quiet_step ((first|(go_at_call 262;exact Calls.regrown_of (uN _ _ _ _ N))|(go_at_call 239;exact Calls.regrown_of (pR _ _ _ _ d1 d2)))))
     refine wpQuiet_nil ?_;intro e1 a2;have q:Below _ _ e1:=zh a2;clear a2;have l5:=q.size;have b8:=zf Q q;have b9:=zf p9 q;have a3:=a0.below q oo;have b':=g9.trans (q.mono oo);clear q Q p9 a0 g9 hG;go_wp2;go_roundw
     case rel=>exact⟨j,E,F,m,out++[c],r,rfl,N,h6,h8,by have:=O.out;omega,by have:=O.out;omega,d',b8,b9,a3,b'⟩
     case measure=>have:=O.out;simp [Uw];omega
theorem aW (n:Nat)(K:Kn):wO n K []=K:=by cases n<;>simp [wO]
theorem Yn (n:Nat)(K:Kn)(t:Bs)(a:t≠[]):wO (n+1) K t=wO n (K.after (K.find (K.longest t))) (t.drop (K.longest t).length):=by rw[wO,if_neg a]
def Kn.rest (K:Kn):Kn:= { K with base:=K.ps.length,last:= -1 }
theorem Si (K:Kn)(A:Option Addr)(cap:Nat)(d:Bs)(w:World)(hk:K.ok)(r:Sl w A K.ps.length cap 2 (psV K.ps))(hl:d.length≤100000)(W:d.all (uq K.l)=true):
 Calls prog 231 #[knV K A cap,d] w (og (K.learn d) w):=by
 have X:=K.xy hk;go_enter func231,ntmps231;go_wp2_with fail;have Y:Sl ((w.alloc (.cells (knC K A cap) 94)).alloc (.cells knZ 94)) A K.ps.length cap 2 (psV K.ps):=(r.alloc _).alloc _;refine(qj K A cap _ hk Y).mono ?_;rintro e F ⟨s,t,rfl,Z,H⟩;have c5:=H.size;simp only[World.size_alloc] at c5;have M:Bk F w.heap.size 94 (knC K A cap):=(Bk.alloc (Bk.new _ _ _) _).below H (by simp;omega);have a0:Bk F (w.heap.size+1) 94 knZ:=(Bk.newAt _ _ _ (by simp)).below H (by simp);have p2:=zI (B':=w.heap.size+2) Z (by simp);have g2:Below w.heap.size w F:=(zy:Below w.heap.size w ((w.alloc (.cells (knC K A cap) 94)).alloc (.cells knZ 94))).trans (H.mono (by simp;omega));clear H Z Y;have R:=M.cell;have hF:=M.free;go_wp2_with fail;have a4:=rQ M K.cleared s t;have a5:=mZ a0 oo K.cleared s t (b:=w.heap.size);have g3:=yC g2 (Nat.le_refl _) K.cleared s t;have p3:=yI p2 (b:=w.heap.size) oo K.cleared s t;have e':=qQ F w.heap.size K.cleared s t;clear R hF M a0 p2 g2;generalize((((((F.setCell ⟨w.heap.size,0,none⟩ (.int .i64 K.cleared.o)).setCell ⟨w.heap.size,1,none⟩ (.int .i64 K.cleared.l)).setCell ⟨w.heap.size,2,none⟩ (.int .i64 K.cleared.m)).setCell ⟨w.heap.size,3,none⟩ (.slice s K.cleared.ps.length t)).setCell ⟨w.heap.size,4,none⟩ (.int .i64 K.cleared.base)).setCell ⟨w.heap.size,5,none⟩ (.int .i64 K.cleared.last))=w3 at*;have a8:K.cleared.l=K.l:=rfl;have a9:Hid (K.learn d=(wO d.length K.cleared d).rest):=rfl;clear r hk;generalize a':K.learn d=G at*;have f1:=hid a';clear a';generalize K.cleared=K0 at*;go_loopw [1,5] (fun a _ wr=>∃(f:Kn) (i:Option Addr) (j n:Nat) (g:Bs),a= .string ⟨g.toArray⟩∧f.ok∧Hid (f.l=K.l)∧g.all (uq K.l)=true∧g.length≤d.length∧g.length≤n∧Hid (G=(wO n f g).rest)∧
  wr.ownsRow (w.heap.size+2) 173 2 (.slice i f.ps.length j) f.ps.length (psV f.ps)∧Bk wr w.heap.size 94 (knC f i j)∧Bk wr (w.heap.size+1) 94 knZ∧Below w.heap.size w wr) (fun a _ _=>Uw a)
 case atStart=>exact⟨K0,s,t,d.length,d,rfl,X,a8,W,Nat.le_refl _,Nat.le_refl _,a9,p3,a4,a5,g3⟩
 case round=>
  obtain⟨f,i,j,n,g,rfl,I,b0,b1,f2,c7,S,N,T,J,g4⟩:=hrel;clear X a8 a9 p3 a4 a5 g3 W;have R:=T.cell;have f3:w.heap.size+2≤wr.heap.size:=(by have:=J.lt;omega);by_cases q:g=[]
  ·have c8:decide (g=[])=true:=by simpa using q
   have HE:Hid (G=f.rest):=by
    have h:=S.out;rw[q,aW] at h;exact h
   clear q;have hF:=J.free;have hQ:=J.cell;go_wp2_with fail;have hG:=HE.out;clear S HE;subst hG;refine bodyPost_ret (v:=knV f.rest i j) (by simp [results,results231,go_sem,hQ,Kn.rest]) rfl ⟨i,j,rfl,?_,zy⟩;refine zI (B:=w.heap.size+2) ?_ oo
   iterate 6 refine ownsRow_setCell_below ?_ (by simp) _
   exact N
  ·obtain⟨m,hm⟩:∃m,n=m+1:=⟨n - 1,by cases g with
    |nil=>exact absurd rfl q
    |cons x b4=>simp at c7;omega⟩
   subst hm;have b5:g.all (uq f.l)=true:=(by rw[b0.out];exact b1);have L:=f.rC I q b5;obtain⟨L,_,f4⟩:=L;have f5:=(f.yQ g).2;have f6:=f.xE q;have d1:=f.uy I L;have HL:Hid (∀w,Sl w i f.ps.length j 2 (psV f.ps)→Calls prog 255 #[knV f i j,g] w (rT w (.string ⟨(f.longest g).toArray⟩))):=fun w r=>jV f i j g w I r q oo;have d3:(f.longest g).length≤100000:=oo;have HF:Hid (∀w,Sl w i f.ps.length j 2 (psV f.ps)→Calls prog 257 #[knV f i j,.string ⟨(f.longest g).toArray⟩] w (rT w (.int .i64 (f.find (f.longest g))))):=fun w r=>ZN f i j _ w I r d3;have HA:Hid (∀w,Sl w i f.ps.length j 2 (psV f.ps)→Calls prog 256 #[knV f i j,.int .i64 (f.find (f.longest g))] w (og (f.after (f.find (f.longest g))) w)):=fun w r=>kM f i j _ w I r L;have HN:Hid (G=(wO m (f.after (f.find (f.longest g))) (g.drop (f.longest g).length)).rest):=(by show _=_;rw[S.out,Yn m f g q]);have d7:Hid ((f.after (f.find (f.longest g))).l=K.l):=b0.out;have c8:decide (g=[])=false:=(by simpa using q);have b6:(g.drop (f.longest g).length).length=g.length - (f.longest g).length:=(by simp);have d8:(g.drop (f.longest g).length).all (uq K.l)=true:=qB _ _ _ b1;clear q L b5;generalize f.after (f.find (f.longest g))=k at*;generalize f.find (f.longest g)=c at*;generalize f.longest g=x at*;have U:=hid b6;clear b6;have f7:(x.length:Int)≤g.length:=oo;go_wp2_with fail;refine(HL.out _ (Sl.own N)).mono ?_;rintro e O ⟨rfl,C⟩;have f8:=C.size;have p5:=zf N C;have b7:=T.below C oo;have d':=J.below C oo;have g5:=g4.trans (C.mono oo);clear R C N T g4 J;have u:=b7.cell;have V:Hid (∀w',Below O.heap.size O w'→(w'.cell? ⟨w.heap.size,0,none⟩=some (.int .i64 f.o)∧w'.cell? ⟨w.heap.size,1,none⟩=some (.int .i64 f.l)∧w'.cell? ⟨w.heap.size,2,none⟩=some (.int .i64 f.m)∧w'.cell? ⟨w.heap.size,3,none⟩=some (.slice i f.ps.length j)∧w'.cell? ⟨w.heap.size,4,none⟩=some (.int .i64 f.base)∧w'.cell? ⟨w.heap.size,5,none⟩=some (.int .i64 f.last))):=fun w' h=>⟨(h.cell (p:=⟨_,_,_⟩) oB).trans (u 0),(h.cell (p:=⟨_,_,_⟩) oB).trans (u 1),(h.cell (p:=⟨_,_,_⟩) oB).trans (u 2),(h.cell (p:=⟨_,_,_⟩) oB).trans (u 3),(h.cell (p:=⟨_,_,_⟩) oB).trans (u 4),(h.cell (p:=⟨_,_,_⟩) oB).trans (u 5)⟩;have b8:=Sl.own p5;clear u;go_wp2_with fail;refine vW 5 (fun w'=>w'.cell? ⟨w.heap.size,0,none⟩=some (.int .i64 f.o)∧w'.cell? ⟨w.heap.size,1,none⟩=some (.int .i64 f.l)∧w'.cell? ⟨w.heap.size,2,none⟩=some (.int .i64 f.m)∧w'.cell? ⟨w.heap.size,3,none⟩=some (.slice i f.ps.length j)∧w'.cell? ⟨w.heap.size,4,none⟩=some (.int .i64 f.base)∧w'.cell? ⟨w.heap.size,5,none⟩=some (.int .i64 f.last)) kr kr (by first|(exact V.out _ vC)|go_keep) (fun b9=> ?_);simp only[List.take_succ_cons,List.take_zero];refine tk 0 ?_;refine tk 1 ?_;refine tk 2 ?_;try simp only[Act.put,rR]
   refine rd1 3 fun KK D=> ?_;go_simp
   (go_at_call 257;refine(HF.out _ (b8.below yj)).mono ?_;rintro e w6 ⟨rfl,E⟩;have E:Below O.heap.size O w6:=zB E;have f9:=E.size;have g6:=g5.trans (E.mono oo))
   refine D.out _ _ (by first|(exact V.out _ vC)|go_keep) fun b9=> ?_;try simp only[Act.put,rR]
   refine rd1 4 fun KK D=> ?_;go_simp
   (go_at_call 256;refine(HA.out _ (b8.below yj)).mono ?_;rintro e w7 ⟨y,z,rfl,c1,P⟩;have f':=P.size;have p7:=zI (B':=w.heap.size+2) c1 oo;have Q:=(b7.below E oo).below P oo;have c3:=(d'.below E oo).below P oo;have g7:=g6.trans (P.mono oo);have e3:=Q.cell;have e4:=Q.free)
   refine D.out _ _ (by first|(exact V.out _ vC)|go_keep) fun b9=> ?_;try simp only[Act.put,rR]
   refine wpAnyH_done kr ?_ _;refine yJ ?_;refine wpOp_step (o:=_) rfl (fun KK D=> ?_);go_simp;refine D _ _ (NoPanic.normal ?_);try simp only[Act.put,rR]
   all_goals
    clear D;have e5:=rQ Q k y z;have e6:=mZ c3 oo k y z (b:=w.heap.size);have g8:=yC g7 (Nat.le_refl _) k y z;have p8:=yI p7 (b:=w.heap.size) oo k y z;have g0:=qQ w7 w.heap.size k y z;clear e3 e4 Q c3 p7 g7 c1;generalize((((((w7.setCell ⟨w.heap.size,0,none⟩ (.int .i64 k.o)).setCell ⟨w.heap.size,1,none⟩ (.int .i64 k.l)).setCell ⟨w.heap.size,2,none⟩ (.int .i64 k.m)).setCell ⟨w.heap.size,3,none⟩ (.slice y k.ps.length z)).setCell ⟨w.heap.size,4,none⟩ (.int .i64 k.base)).setCell ⟨w.heap.size,5,none⟩ (.int .i64 k.last))=w8 at*;go_wp2;generalize g.drop x.length=b4 at*;go_roundw
    case rel=>exact⟨k,y,z,m,b4,rfl,d1,d7,d8,by have:=U.out;omega,by have:=U.out;omega,HN,p8,e5,e6,g8⟩
    case measure=>have:=U.out;simp [Uw];omega
