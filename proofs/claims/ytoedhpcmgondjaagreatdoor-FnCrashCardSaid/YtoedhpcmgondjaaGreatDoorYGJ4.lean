import Derived.Test.YtoedhpcmgondjaaGreatDoorYGJ3
set_option linter.all false
set_option maxHeartbeats 8000000
namespace Go.Proofs.YtoedhpcmgondjaaGreatDoor
open Go.Lib(hid)
open Go.RowKit Go.Proofs.Tryz
set_option maxRecDepth 100000
attribute [local instance] mU hZ
attribute [local go_sem high] zG zF zH zV zN yu zD zl zn zt zi zu y9 zK yE zJ
def rdC (K:Kn)(cs:List Int)(d:Bs)(fin:Int)(n:Nat)(A C D:Option Addr)(cap cc cd:Nat):Array Value:=#[K.o,K.l,K.m,.slice A K.ps.length cap,K.base,K.last,.slice C cs.length cc,.slice D d.length cd,fin,(n:Int)]
abbrev rdZ :Array Value:=#[.int .i64 0,.int .i64 0,.int .i64 0,.slice none 0 0,.int .i64 0,.int .i64 0,.slice none 0 0,.slice none 0 0,.int .i64 0,.int .i64 0]
structure sO (w : World) (B b : Nat) (K : Kn) (cs : List Int) (d : Bs) (fin : Int) (n : Nat) (A C D : Option Addr) (cap cc cd : Nat) : Prop where
 bB : B ≤ b
 box : Bk w b 183 (rdC K cs d fin n A C D cap cc cd)
 prs : w.ownsRow B 173 2 (.slice A K.ps.length cap) K.ps.length (psV K.ps)
 cds : w.ownsRow B 3 1 (.slice C cs.length cc) cs.length (cs.map iv)
 dat : w.ownsRow B 5 1 (.slice D d.length cd) d.length (d.map u8v)
section
variable {w w' : World} {B b : Nat} {K : Kn} {cs : List Int} {d : Bs} {fin : Int} {n : Nat} {A C D : Option Addr} {cap cc cd : Nat}
theorem sO.keep (h:sO w B b K cs d fin n A C D cap cc cd)(a:Below w.heap.size w w'):sO w' B b K cs d fin n A C D cap cc cd:=
 ⟨h.bB,h.box.below a h.box.lt,zf h.prs a,zf h.cds a,zf h.dat a⟩
theorem sO.ny (h:sO w B b K cs d fin n A C D cap cc cd)(x:Int):sO (w.setCell ⟨b,8,none⟩ (.int .i64 x)) B b K cs d x n A C D cap cc cd:=
 ⟨h.bB,h.box.set 8 _,zL h.prs (p:=⟨b,8,none⟩) (own_ne h.prs h.box (by decide)) _,zL h.cds (p:=⟨b,8,none⟩) (own_ne h.cds h.box (by decide)) _,zL h.dat (p:=⟨b,8,none⟩) (own_ne h.dat h.box (by decide)) _⟩
theorem sO.setAt (h:sO w B b K cs d fin n A C D cap cc cd)(m:Nat):sO (w.setCell ⟨b,9,none⟩ (.int .i64 (m:Int))) B b K cs d fin m A C D cap cc cd:=
 ⟨h.bB,h.box.set 9 _,zL h.prs (p:=⟨b,9,none⟩) (own_ne h.prs h.box (by decide)) _,zL h.cds (p:=⟨b,9,none⟩) (own_ne h.cds h.box (by decide)) _,zL h.dat (p:=⟨b,9,none⟩) (own_ne h.dat h.box (by decide)) _⟩
theorem nz {cs0:Array Value}(h:Bk w b 183 rdZ)(K:Kn)(cs:List Int)(d:Bs)(fin:Int)(n:Nat)(A C D:Option Addr)(cap cc cd:Nat):Bk ((((((((((w.setCell ⟨b,0,none⟩ (.int .i64 K.o)).setCell ⟨b,1,none⟩ (.int .i64 K.l)).setCell ⟨b,2,none⟩ (.int .i64 K.m)).setCell ⟨b,3,none⟩ (.slice A K.ps.length cap)).setCell ⟨b,4,none⟩ (.int .i64 K.base)).setCell ⟨b,5,none⟩ (.int .i64 K.last)).setCell ⟨b,6,none⟩ (.slice C cs.length cc)).setCell ⟨b,7,none⟩ (.slice D d.length cd)).setCell ⟨b,8,none⟩ (.int .i64 fin)).setCell ⟨b,9,none⟩ (.int .i64 (n:Int))) b 183 (rdC K cs d fin n A C D cap cc cd):=by
 have a:=(((((((((h.set 0 (.int .i64 K.o)).set 1 (.int .i64 K.l)).set 2 (.int .i64 K.m)).set 3 (.slice A K.ps.length cap)).set 4 (.int .i64 K.base)).set 5 (.int .i64 K.last)).set 6 (.slice C cs.length cc)).set 7 (.slice D d.length cd)).set 8 (.int .i64 fin)).set 9 (.int .i64 (n:Int));simp only[List.setIfInBounds_toArray,List.set_cons_zero,List.set_cons_succ] at a;exact a
theorem tC {a:World}(h:Below B a w)(c:B≤b)(K:Kn)(cs:List Int)(d:Bs)(fin:Int)(n:Nat)(A C D:Option Addr)(cap cc cd:Nat):Below B a ((((((((((w.setCell ⟨b,0,none⟩ (.int .i64 K.o)).setCell ⟨b,1,none⟩ (.int .i64 K.l)).setCell ⟨b,2,none⟩ (.int .i64 K.m)).setCell ⟨b,3,none⟩ (.slice A K.ps.length cap)).setCell ⟨b,4,none⟩ (.int .i64 K.base)).setCell ⟨b,5,none⟩ (.int .i64 K.last)).setCell ⟨b,6,none⟩ (.slice C cs.length cc)).setCell ⟨b,7,none⟩ (.slice D d.length cd)).setCell ⟨b,8,none⟩ (.int .i64 fin)).setCell ⟨b,9,none⟩ (.int .i64 (n:Int))):=by
 iterate 10 refine Below.setCell ?_ (by simpa using c) _
 exact h
theorem gY {e:TypeId}{s m:Nat}{v:Value}{xs:List Value}(h:w.ownsRow B e s v m xs)(a:b<B)(K:Kn)(cs:List Int)(d:Bs)(fin:Int)(n:Nat)(A C D:Option Addr)(cap cc cd:Nat):((((((((((w.setCell ⟨b,0,none⟩ (.int .i64 K.o)).setCell ⟨b,1,none⟩ (.int .i64 K.l)).setCell ⟨b,2,none⟩ (.int .i64 K.m)).setCell ⟨b,3,none⟩ (.slice A K.ps.length cap)).setCell ⟨b,4,none⟩ (.int .i64 K.base)).setCell ⟨b,5,none⟩ (.int .i64 K.last)).setCell ⟨b,6,none⟩ (.slice C cs.length cc)).setCell ⟨b,7,none⟩ (.slice D d.length cd)).setCell ⟨b,8,none⟩ (.int .i64 fin)).setCell ⟨b,9,none⟩ (.int .i64 (n:Int))).ownsRow B e s v m xs:=by
 iterate 10 refine ownsRow_setCell_below ?_ (by simpa using a) _
 exact h
theorem sO.code {e:World}{X:Obj}{a:List Int}{f:Option Addr}{g:Nat}(h:sO w B b K cs d fin n A C D cap cc cd)(i:(w.alloc X).grownBy e (Value.slice C cs.length cc).ownBlock)(o:e.ownsRow B 3 1 (.slice f a.length g) a.length (a.map iv)):sO (e.setCell ⟨b,6,none⟩ (.slice f a.length g)) B b K a d fin n A f D cap g cd:=by
 have c:=Bk.grown (h.box.alloc X) i (own_ne h.cds h.box (by decide));have h1:=xO (h.prs.alloc X) (h.cds.alloc X) (by decide) i;have h2:=xO (h.dat.alloc X) (h.cds.alloc X) (by decide) i;exact⟨h.bB,c.set 6 _,zL h1 (p:=⟨b,6,none⟩) (own_ne h1 c (by decide)) _,zL o (p:=⟨b,6,none⟩) (own_ne o c (by decide)) _,zL h2 (p:=⟨b,6,none⟩) (own_ne h2 c (by decide)) _⟩
theorem sO.PU {a:World}{X:Obj}(h:sO w B b K cs d fin n A C D cap cc cd)(c:(w.alloc X).grownBy a (Value.slice C cs.length cc).ownBlock):Bk a b 183 (rdC K cs d fin n A C D cap cc cd):=Bk.grown (h.box.alloc X) c (own_ne h.cds h.box (by decide))
theorem sO.text {e:World}{a:Bs}{f:Option Addr}{g:Nat}(h:sO w B b K cs d fin n A C D cap cc cd)(i:w.grownBy e (Value.slice D d.length cd).ownBlock)(o:e.ownsRow B 5 1 (.slice f a.length g) a.length (a.map u8v)):sO (e.setCell ⟨b,7,none⟩ (.slice f a.length g)) B b K cs a fin n A C f cap cc g:=by
 have c:=Bk.grown h.box i (own_ne h.dat h.box (by decide));have h1:=xO h.prs h.dat (by decide) i;have h2:=xO h.cds h.dat (by decide) i;exact⟨h.bB,c.set 7 _,zL h1 (p:=⟨b,7,none⟩) (own_ne h1 c (by decide)) _,zL h2 (p:=⟨b,7,none⟩) (own_ne h2 c (by decide)) _,zL o (p:=⟨b,7,none⟩) (own_ne o c (by decide)) _⟩
theorem sO.Jd {a:World}(h:sO w B b K cs d fin n A C D cap cc cd)(c:w.grownBy a (Value.slice D d.length cd).ownBlock):Bk a b 183 (rdC K cs d fin n A C D cap cc cd):=Bk.grown h.box c (own_ne h.dat h.box (by decide))
theorem sO.Ub {a:World}(h:sO w B b K cs d fin n A C D cap cc cd)(c:Kept B (fun g=>(Value.slice A K.ps.length cap).ownBlock=some g) w a):Bk a b 183 (rdC K cs d fin n A C D cap cc cd):=
 c.bk h.box (.inr (fun e=>own_ne h.prs h.box (by decide) b e rfl))
theorem sO.know {k:World}{a:Kn}{f:Option Addr}{i:Nat}(h:sO w B b K cs d fin n A C D cap cc cd)(p:Kept B (fun g=>(Value.slice A K.ps.length cap).ownBlock=some g) w k)(o:k.ownsRow B 173 2 (.slice f a.ps.length i) a.ps.length (psV a.ps)):sO ((((((k.setCell ⟨b,0,none⟩ (.int .i64 a.o)).setCell ⟨b,1,none⟩ (.int .i64 a.l)).setCell ⟨b,2,none⟩ (.int .i64 a.m)).setCell ⟨b,3,none⟩ (.slice f a.ps.length i)).setCell ⟨b,4,none⟩ (.int .i64 a.base)).setCell ⟨b,5,none⟩ (.int .i64 a.last)) B b a cs d fin n f C D i cc cd:=by
 have j:=h.Ub p;have h1:=p.own h.cds (fun g c=>.inr (fun e=>by
  rcases uF h.cds h.prs (by decide) with h1|h1
  ·rw[h1] at c;cases c
  ·exact h1 (by rw[c,e])))
 have h2:=p.own h.dat (fun g c=>.inr (fun e=>by
  rcases uF h.dat h.prs (by decide) with h1|h1
  ·rw[h1] at c;cases c
  ·exact h1 (by rw[c,e])))
 have r:=own_ne o j (by decide);have s:=own_ne h1 j (by decide);have t:=own_ne h2 j (by decide);have q:=(((((j.set 0 (.int .i64 a.o)).set 1 (.int .i64 a.l)).set 2 (.int .i64 a.m)).set 3 (.slice f a.ps.length i)).set 4 (.int .i64 a.base)).set 5 (.int .i64 a.last);unfold rdC at q;simp only[List.setIfInBounds_toArray,List.set_cons_zero,List.set_cons_succ] at q;refine⟨h.bB,q,?_,?_,?_⟩
 ·iterate 6 refine zL ?_ r _
  exact o
 ·iterate 6 refine zL ?_ s _
  exact h1
 ·iterate 6 refine zL ?_ t _
  exact h2
theorem Px {c:World}{g:Nat}{t:TypeId}{xs:Array Value}(h:Bk c g t xs)(e:g≠b)(a:Kn)(f:Option Addr)(i:Nat):Bk ((((((c.setCell ⟨b,0,none⟩ (.int .i64 a.o)).setCell ⟨b,1,none⟩ (.int .i64 a.l)).setCell ⟨b,2,none⟩ (.int .i64 a.m)).setCell ⟨b,3,none⟩ (.slice f a.ps.length i)).setCell ⟨b,4,none⟩ (.int .i64 a.base)).setCell ⟨b,5,none⟩ (.int .i64 a.last)) g t xs:=by
 iterate 6 refine Bk.far ?_ e _
 exact h
end
def JF (r:Rg)(w:World)(e:Ending)(w':World):Prop:=∃K cs n A C D cap cc cd,e= .returned (.agg (rdC K cs r.d r.fin n A C D cap cc cd))∧n=r.use∧cs=r.cs∧w'.ownsRow w.heap.size 5 1 (.slice D r.d.length cd) r.d.length (r.d.map u8v)∧Below w.heap.size w w'
def XW (w:World)(b a:Nat):Nat:=match w.cell? ⟨b,a,none⟩ with
 |some (.slice _ n _)=>n
 |_=>0
theorem sO.XW {w:World}{B b:Nat}{K:Kn}{cs:List Int}{d:Bs}{fin:Int}{n:Nat}{A C D:Option Addr}{cap cc cd:Nat}(h:sO w B b K cs d fin n A C D cap cc cd):XW w b 6=cs.length:=by
 unfold Go.Proofs.YtoedhpcmgondjaaGreatDoor.XW;rw[h.box.cell 6];rfl
theorem KY (p:Bs)(n k:Nat):(⟨p.toArray⟩:ByteArray).extract n (n+k)=⟨((p.drop n).take k).toArray⟩:=by
 rw[ByteArray.extract_mk];simp [Nat.add_sub_cancel_left]
theorem Xt (K:Kn)(A:Option Addr)(cap:Nat)(j:Bs)(w:World)(hk:K.ok)(hs:Sl w A K.ps.length cap 2 (psV K.ps))(hb:yU j=true)(hl:j.length≤32000):
 Calls prog 188 #[knV K A cap,sv j,.int .i64 0,.int .i64 0] w (JF (yB 3099 K j 0) w):=by
 have g3:=hk.st;have q1:K.ps.length≤100000:=(by have:=hk.fine.len;omega);have i6:Hid (yB 3099 K j 0=Rg.pre [] [] 0 (yB 3099 K (j.drop 0) ([]:Bs).length)):=by
  show _=_;simp [Rg.pre]
 have HO:Hid (K.o=0∨K.o=1):=hk.st.1;have HB:=hid hb;clear hb;have q3:=hk;obtain⟨R0,l9⟩:∃q4,yB 3099 K j 0=q4:=⟨_,rfl⟩;rw[l9] at i6⊢;clear l9;go_enter func188,ntmps188;have i7:Bk ((w.alloc (.cells (knC K A cap) 94)).alloc (.cells rdZ 183)) w.heap.size 94 (knC K A cap):=tBk;have i8:Bk ((w.alloc (.cells (knC K A cap) 94)).alloc (.cells rdZ 183)) (w.heap.size+1) 183 rdZ:=tBk;have i9:Below w.heap.size w ((w.alloc (.cells (knC K A cap) 94)).alloc (.cells rdZ 183)):=zy;go_upto_region 1 with(fail)
 generalize(w.alloc (.cells (knC K A cap) 94)).alloc (.cells rdZ 183)=w0 at*;have q5:=i7.cell;have v9:=i8.lt;have l':=hs.below i9;go_wp2_with fail;refine(nN K A cap _ q1 l').mono ?_;rintro e w1 ⟨P,Q,rfl,o1,e6⟩;have v':=e6.size;have d2:=(i7.below e6 oo).alloc (.cells (rdC K [] [] 1 0 P none none Q 0 0) 183);have e7:=(i8.below e6 oo).alloc (.cells (rdC K [] [] 1 0 P none none Q 0 0) 183);have m1:=Bk.new w1 (rdC K [] [] 1 0 P none none Q 0 0) 183;have o2:=(zI (B':=w.heap.size+2) o1 oo).alloc (.cells (rdC K [] [] 1 0 P none none Q 0 0) 183);have g4:=(i9.trans (e6.mono oo)).alloc oo (.cells (rdC K [] [] 1 0 P none none Q 0 0) 183);have m3:w1.heap.size+1=(w1.alloc (.cells (rdC K [] [] 1 0 P none none Q 0 0) 183)).heap.size:=(by simp);have g5:sO (w1.alloc (.cells (rdC K [] [] 1 0 P none none Q 0 0) 183)) (w.heap.size+2) w1.heap.size K [] [] 1 0 P none none Q 0 0:=⟨by omega,m1,o2,⟨by simp,.inl ⟨rfl,rfl⟩⟩,⟨by simp,.inl ⟨rfl,rfl⟩⟩⟩;clear e6 i7 i8 i9 q5 l' o1 o2 m1;go_upto_region 2 with(fail)
 have q6:w1.alloc (.cells (rdC K [] [] 1 0 P none none Q 0 0) 183)=w1.alloc (.cells (rdC K [] [] 1 0 P none none Q 0 0) 183):=rfl;clear q6;unfold rdC at d2 e7 g5 g4 m3;simp only[List.length_nil,Int.natCast_zero,Int.ofNat_zero] at d2 e7 g5 g4 m3;generalize w1.alloc (.cells #[K.o,K.l,K.m,.slice P K.ps.length Q,K.base,K.last,.slice none 0 0,.slice none 0 0,.int .i64 1,.int .i64 0] 183)=w3 at*;have hG:=zM d2.cell d2.lt;have x0:=e7.lt;refine wp_region_quiet_below kr kr ?_;repeat(go_big_quiet_step ((first|(go_at_call 159;exact Calls.regrown_of (xq _ _ _ _ g3))|(go_at_call 157;exact Calls.regrown_of (wE _ _ _ _ g3)))))
 refine wpQuiet_nil ?_;intro w2 e8;have d3:Below _ _ w2:=zh e8;clear e8;have x1:=d3.size;have m4:=d2.below d3 oo;have m5:=e7.below d3 oo;have m6:=g5.keep d3;have g2:=g4.trans (d3.mono oo);clear hG d3 d2 e7 g5 g4 hs;have x2:w.heap.size+2≤w1.heap.size:=oo;generalize w1.heap.size=g at*;have x3:=hid (show K.cl=pow2 K.l from rfl);have q8:=xu K.l (g3.lm.1) (g3.lm.2.1);obtain⟨x4,x5⟩:=q8;go_wp2_with fail;go_loopw [12] (fun _ wr=>∃(a:Kn) (cs:List Int) (d:Bs) (n f:Nat) (q F s:Option Addr) (r G t:Nat),a.ok∧Hid (a.o=K.o∧a.l=K.l)∧n≤j.length∧d.length≤2000∧cs.length+f=3099∧Hid (R0=Rg.pre cs d n (yB f a (j.drop n) d.length))∧
  sO wr (w.heap.size+2) g a cs d 1 n q F s r G t∧Bk wr w.heap.size 94 (knC K A cap)∧Bk wr (w.heap.size+1) 183 rdZ∧Below w.heap.size w wr) (fun _ wr=>3100 - XW wr g 6)
 case atStart=>exact⟨K,[],[],0,3099,P,none,none,Q,0,0,hk,⟨rfl,rfl⟩,by omega,by simp,by simp,i6,m6,m4,m5,g2⟩
 case round=>
  obtain⟨a,cs,d,n,f,q,F,s,r,G,t,V,j0,hn,x7,x',HG,L,hK,hR,hg⟩:=hrel;clear m6 m4 m5 g2 i6 hk q3;have m8:=L.XW;have q9:=hid m8;clear m8;have y0:=V.st;have q':=kT V;have y1:=a.tJ V;have y2:=V.bd;obtain⟨r0,r1⟩:=q';have y3:=hR.lt;have y4:=L.box.lt;have hX:=L.box.cell;unfold rdC at hX;have cW:=hid (fun w=>XO a q r w V);have b3:Hid (∀j1,xg a (j.drop n) d.length= .error j1→R0=Rg.pre cs d n j1):=fun j1 h=>(by rw[HG.out,sD h]);have b4:Hid (∀c,xg a (j.drop n) d.length= .ok c→f=0→R0=Rg.pre cs d n ⟨[c],a.wd c,3,a.width⟩):=fun c h h0=>(by rw[HG.out,h0,lI h]);have b5:Hid (∀c M,xg a (j.drop n) d.length= .ok c→f=M+1→R0=Rg.pre (cs++[c]) (d++a.wd c) (n+a.width) (yB M (a.step c) (j.drop (n+a.width)) (d++a.wd c).length)):=fun c M h h0=>by
   rw[HG.out,h0,nU h,Rg.P5,List.drop_drop,List.length_append]
  have W:Hid (xg a (j.drop n) d.length=if(j.drop n).length<a.width then .error ⟨[],[],1,0⟩ else
 if(numBits a.o ((j.drop n).take a.width):Int)=a.cl+1 then .error ⟨[(numBits a.o ((j.drop n).take a.width):Int)],[],0,a.width⟩ else
 if(numBits a.o ((j.drop n).take a.width):Int)≠a.cl∧a.fol (numBits a.o ((j.drop n).take a.width):Int)=false then .error ⟨[],[],2,a.width⟩ else
 if 2000<d.length+(a.wd (numBits a.o ((j.drop n).take a.width):Int)).length then .error ⟨[],[],3,a.width⟩ else .ok (numBits a.o ((j.drop n).take a.width):Int)):=rfl
  clear HG;obtain⟨N,hN⟩:∃N,a.width=N:=⟨_,rfl⟩;have cB:Hid (n+N≤j.length→∀w,Calls prog 214 #[K.o,.string ((⟨j.toArray⟩:ByteArray).extract n (n+N))] w (rT w (.int .i64 (numBits a.o ((j.drop n).take N))))):=fun h w=>by
   have hb:=HB.out;rw[KY,j0.out.1];exact(YN K.o _ w HO.out (by rw[List.length_take];omega) (rY j n N hb)).mono fun e w' ⟨h1,h2⟩=>⟨h1,by subst h2;exact Below.refl _ _⟩
  have j3:((numBits a.o ((j.drop n).take N):Nat):Int)≤65535:=by
   have:=pY a.o _ (rY j n N HB.out);have h2:2 ^ ((j.drop n).take N).length≤2 ^ 16:=Nat.pow_le_pow_right (by omega) (by rw[List.length_take];omega);omega
  rw[hN] at W b4 b5 r0 r1;have m':a.cl=pow2 K.l:=(by unfold Kn.cl;rw[j0.out.2]);have e':=hid m';clear m';simp only[hN] at cW;clear hN;go_wp2_with fail;refine(cW.out _).mono ?_;rintro e y6 ⟨rfl,d6⟩;have y':=d6.size;have c5:=L.keep d6;have g':=hK.below d6 oo;have f0:=hR.below d6 oo;have j4:=hg.trans (d6.mono oo);clear d6 hX L hK hR hg cW;by_cases r2:j.length - n<N
  ·have H:R0=⟨cs,d,1,n⟩:=by
    rw[b3.out ⟨[],[],1,0⟩ (by rw[W.out,if_pos (by simpa using r2)])];simp [Rg.pre]
   have X:=hid H;have r3:(j.length:Int) - n<N:=oo;clear W b3 b4 b5 cB H;have h3:=c5.box.cell;have z0:=f0.free;have z1:=f0.cell;unfold rdC at h3;go_wp2;have x:=(nz (cs0:=#[]) f0 a cs d 1 n q F s r G t).cell;have gQ:=tC j4 (b:=w.heap.size+1) oo a cs d 1 n q F s r G t;have oQ:=gY c5.dat (b:=w.heap.size+1) oo a cs d 1 n q F s r G t;unfold rdC at x;try simp only[Int.natCast_add] at x
   try simp only[Exit.inBlock,Exit.then]
   refine bodyPost_ret (v:=.agg (rdC a cs d 1 n q F s r G t)) (by simp [results,results188,go_sem,x,rdC]) rfl ?_;clear x;have H:=X.out;rw[H];exact⟨a,cs,n,q,F,s,r,G,t,rfl,rfl,rfl,zI oQ oo,gQ⟩
  ·have r4:n+N≤j.length:=oo
   have r3:¬(j.length:Int) - n<N:=oo;have z2:(n:Int)+N≤j.length:=oo;have j5:IntKind.i64.wrap ((n:Int)+N)=(n:Int)+N:=IntWalk.i64_in _ oo;have j6:((n:Int)+(N:Int)).toNat=n+N:=oo;have hG:=zM g'.cell g'.lt;have n0:=zM c5.box.cell c5.box.lt;have h3:=c5.box.cell;unfold rdC at n0 h3;obtain⟨c,hc⟩:∃c:Nat,numBits a.o ((j.drop n).take N)=c:=⟨_,rfl⟩;rw[hc] at W cB j3;have n2:=cB.out r4;clear cB hc;go_wp2_with fail;refine wp_region_quiet_below kr kr ?_;repeat(go_big_quiet_step ((go_at_call 214;exact Calls.regrown_of (n2 _))))
   refine wpQuiet_nil ?_;intro w4 e8;have d7:Below _ _ w4:=zh e8;clear e8;have z3:=d7.size;have f1:=c5.keep d7;have n3:=g'.below d7 oo;have n4:=f0.below d7 oo;have n5:=j4.trans (d7.mono oo);clear d7 h3 c5 g' f0 j4 hG n0 n2;have n6:=f1.box.cell;have r5:=f1.box.free;unfold rdC at n6;have z4:=f1.bB;have h4:sO (w4.setCell ⟨g,9,none⟩ (.int .i64 ((n:Int)+N))) (w.heap.size+2) g a cs d 1 (n+N) q F s r G t:=by
    have h:=f1.setAt (n+N)
    rwa [show((n+N:Nat):Int)=(n:Int)+N by omega] at h
   have n7:=n3.far (p:=⟨g,9,none⟩) (by show w.heap.size≠g;omega) (.int .i64 ((n:Int)+N));have n8:=n4.far (p:=⟨g,9,none⟩) (by show w.heap.size+1≠g;omega) (.int .i64 ((n:Int)+N));have n9:=n5.setCell (p:=⟨g,9,none⟩) (by show w.heap.size≤g;omega) (.int .i64 ((n:Int)+N));go_upto_region 8 with(fail)
   generalize w4.setCell ⟨g,9,none⟩ (.int .i64 ((n:Int)+N))=w5 at*;clear n6 r5 f1 n3 n4 n5;have n':=h4.box.cell;unfold rdC at n';have z5:=h4.box.lt;have o0:=ik a q r (c:Int) w5 V;go_wp2_with fail;refine o0.mono ?_;rintro e w6 ⟨rfl,d8⟩;have z6:=d8.size;have I:=h4.keep d8;have a':=n7.below d8 oo;have b0:=n8.below d8 oo;have g6:=n9.trans (d8.mono oo);clear d8 n' h4 n7 n8 n9 o0;have d9:=I.box.cell;have f2:=I.box.free;unfold rdC at d9;have c6:¬(j.drop n).length<N:=(by simp;omega);by_cases Y:(c:Int)≤a.great
   ·have hd:decide (0≤(c:Int)∧(c:Int)≤a.great)=true:=decide_eq_true ⟨by omega,Y⟩
    obtain⟨i,hi,o4,o5,o6⟩:=info_parts tu;have o7:cs.length+1≤maxLen:=(by unfold maxLen;omega);have o9:(cs.length+1)*8≤140737488355328:=oo;by_cases f3:(c:Int)=a.cl+1
    ·have H:R0=⟨cs++[(c:Int)],d,0,n+N⟩:=by
      rw[b3.out ⟨[(c:Int)],[],0,N⟩ (by rw[W.out,if_neg c6,if_pos f3])];simp [Rg.pre]
     have X:=hid H;have o':((c:Int)==pow2 K.l+1)=true:=(by have h:=e'.out;rw[beq_iff_eq];omega);have oC:=I.cds;clear W b3 b4 b5 H c6 j5 j6 f3;go_upto_region 19 with(fail)
     go_wp2_with(at_builtin;go_must(refine zT _ rfl _ _ 33 rfl (w.heap.size+2) 3 i _ 1 8 underlying33 hi o4 o5 o6 rfl (by omega) _ _ _ rfl (oC.alloc _) _ 1 1 [.int .i64 (c:Int)] rfl (Sl.newAt w6 #[(c:Int)] _ 1 1 (by first|rfl|simp) (by simp) (by omega)) (by simp [Value.oneCell']) o7 o9 ?_ ?_));try(case refine_1=>first|omega|(simp<;>omega;done))
     intro y z w8 o8 O _;have R:(cs++[(c:Int)]).length=cs.length+1:=(by simp);have f4:w8.ownsRow (w.heap.size+2) 3 1 (.slice y (cs++[(c:Int)]).length z) (cs++[(c:Int)]).length ((cs++[(c:Int)]).map iv):=(by rw[R,List.map_append];exact o8);rw[←R];generalize cs++[(c:Int)]=u at*;have E:=I.code O f4;have Z:=I.PU O;have a0:=Z.cell;have c7:=Z.free;unfold rdC at a0;have a1:=(Bk.grown (a'.alloc _) O (fun k hk=>by have:=(oC.lt k hk).1;omega)).far (p:=⟨g,6,none⟩) (by show w.heap.size≠g;omega) (.slice y u.length z);have a2:=(Bk.grown (b0.alloc _) O (fun k hk=>by have:=(oC.lt k hk).1;omega)).far (p:=⟨g,6,none⟩) (by show w.heap.size+1≠g;omega) (.slice y u.length z);have g8:=((g6.alloc (by omega) _).grown O (by simp;omega) (fun k hk=>by have:=(oC.lt k hk).1;omega)).setCell (p:=⟨g,6,none⟩) (by show w.heap.size≤g;omega) (.slice y u.length z);clear d9 f2 I a' b0 g6 oC o8 f4 O R Z;go_upto_region 20 with(fail)
     generalize w8.setCell ⟨g,6,none⟩ (.slice y u.length z)=w9 at*;clear a0 c7;have b8:=E.box.cell;have f5:=E.box.free;unfold rdC at b8;have f6:=E.ny 0;have r7:=a1.far (p:=⟨g,8,none⟩) (by show w.heap.size≠g;omega) (.int .i64 0);have c8:=a2.far (p:=⟨g,8,none⟩) (by show w.heap.size+1≠g;omega) (.int .i64 0);have j9:=g8.setCell (p:=⟨g,8,none⟩) (by show w.heap.size≤g;omega) (.int .i64 0);go_upto_region 21 with(fail)
     generalize w9.setCell ⟨g,8,none⟩ (.int .i64 0)=h6 at*;clear b8 f5 E a1 a2 g8;have S:=f6.box.cell;have r8:=c8.free;have r9:=c8.cell;unfold rdC at S;go_wp2;have x:=(nz (cs0:=#[]) c8 a u d 0 (n+N) q y s r z t).cell;have gQ:=tC j9 (b:=w.heap.size+1) oo a u d 0 (n+N) q y s r z t;have oQ:=gY f6.dat (b:=w.heap.size+1) oo a u d 0 (n+N) q y s r z t;unfold rdC at x;try simp only[Int.natCast_add] at x
     try simp only[Exit.inBlock,Exit.then]
     refine bodyPost_ret (v:=.agg (rdC a u d 0 (n+N) q y s r z t)) (by simp [results,results188,go_sem,x,rdC]) rfl ?_;clear x;have H:=X.out;rw[H];exact⟨a,u,(n+N),q,y,s,r,z,t,rfl,rfl,rfl,zI oQ oo,gQ⟩
    ·have o':((c:Int)==pow2 K.l+1)=false:=by have h:=e'.out;rw[beq_eq_false_iff_ne];omega
     have r':a.nx=a.cl+2+(a.ps.length:Int):=rfl;have f7:(c:Int)≠a.cl→a.fol (c:Int)=true:=fun h=>by
      unfold Kn.fol;rw[decide_eq_true_eq];by_cases hg:a.gr=true
      ·unfold Kn.great at Y
       rw[if_pos hg] at Y;by_cases hx:(c:Int)=a.nx
       ·exact .inr ⟨hg,hx⟩
       ·left;unfold codeOk;omega
      ·unfold Kn.great at Y
       rw[if_neg hg] at Y;left;unfold codeOk;omega
     have h7:=hid f7;have j':=step_ok V f7;have k0:Hid ((a.step (c:Int)).o=a.o∧(a.step (c:Int)).l=a.l):=by
      show _∧_;unfold Kn.step;split
      ·exact⟨rfl,rfl⟩
      ·unfold Kn.after;split<;>exact⟨rfl,rfl⟩
     have e0:Hid (2000<d.length+(a.wd (c:Int)).length→R0=⟨cs,d,3,n+N⟩):=fun h=>by
      rw[b3.out ⟨[],[],3,N⟩ (by rw[W.out,if_neg c6,if_neg f3,if_neg (fun hh=>by rw[f7 hh.1] at hh;cases hh.2),if_pos h])];simp [Rg.pre]
     have f8:Hid (¬2000<d.length+(a.wd (c:Int)).length→xg a (j.drop n) d.length= .ok (c:Int)):=fun h=>by
      rw[W.out,if_neg c6,if_neg f3,if_neg (fun hh=>by rw[f7 hh.1] at hh;cases hh.2),if_neg h]
     have p0:((c:Int)==pow2 K.l)=decide ((c:Int)=a.cl):=(by have h:=e'.out;rw[h];rfl);have k1:=hid p0;clear W b3 c6 j5 j6 f3 f7 p0 r';go_upto_block 2 with(fail)
     go_cut [13] (fun v wx=>v= .int .i64 (c:Int)∧∃A2 D2 c0 c1,d.length+(a.wd (c:Int)).length≤2000∧sO wx (w.heap.size+2) g (a.step (c:Int)) cs (d++a.wd (c:Int)) 1 (n+N) A2 F D2 c0 G c1∧Bk wx w.heap.size 94 (knC K A cap)∧Bk wx (w.heap.size+1) 183 rdZ∧Below w.heap.size w wx)
     case first=>
      clear Y hd;by_cases c2:(c:Int)=a.cl
      ·have j3:((c:Int)==pow2 K.l)=true:=by have h:=e'.out;rw[beq_iff_eq];omega
       have e1:a.wd (c:Int)=[]:=if_pos c2;have c':a.step (c:Int)=a.cleared:=if_pos c2;have k2:=hid e1;have k3:=hid c';rw[c'] at j';have k4:=iD (w.heap.size+2) a q r 0 w6 V I.prs oo;rw[←c2] at k4;clear e0 f8 h7 k1 e1 c' c2 b4 b5;generalize a.cleared=J at*;go_wp2_with fail;refine k4.mono ?_;rintro e w8 ⟨A8,h',rfl,o8,d0,s1⟩;have s2:=d0.size;have Z:=I.Ub d0;have a0:=Z.cell;have c7:=Z.free;unfold rdC at a0;have c3:=I.know d0 o8;have i0:=Px (b:=g) (a'.below (d0.below oo) oo) oo J A8 h';have i1:=Px (b:=g) (b0.below (d0.below oo) oo) oo J A8 h';have g9:=yC (b:=g) (g6.trans ((d0.below oo).mono oo)) oo J A8 h';clear d9 f2 I a' b0 g6 d0 o8 s1 Z k4;go_wp2_with fail;go_meet;rw[k2.out,k3.out];exact⟨rfl,A8,s,h',t,by simp;omega,by rw[List.append_nil];exact c3,i0,i1,g9⟩
      ·have j3:((c:Int)==pow2 K.l)=false:=by have h:=e'.out;rw[beq_eq_false_iff_ne];omega
       have hf:=h7.out c2;have e1:a.wd (c:Int)=a.any (c:Int):=if_neg c2;have c':a.step (c:Int)=a.after (c:Int):=if_neg c2;rw[e1] at e0 f8;have k2:=hid e1;have k3:=hid c';rw[c'] at j';have s3:=a.qh V hf;have cW:=dH a q r (c:Int) w6 V (Sl.own I.prs) hf;have cA:Hid (∀w7:World,w7.ownsRow (w.heap.size+2) 173 2 (.slice q a.ps.length r) a.ps.length (psV a.ps)→w.heap.size+2≤w7.heap.size→Calls prog 216 #[knV a q r,(c:Int),.int .u8 (byteAt (a.any (c:Int)) 0)] w7 (PN (w.heap.size+2) (.slice q a.ps.length r) (a.after (c:Int)) w7)):=fun w7 ho hB=>dB (w.heap.size+2) a q r (c:Int) _ w7 V ho hB hf (nR _).symm;clear f8 h7 k1 e1 c' c2 hf b4 b5;generalize a.any (c:Int)=T at*;generalize a.after (c:Int)=J at*;obtain⟨z7,z8⟩:=s3;go_wp2_with fail;refine cW.mono ?_;rintro e w8 ⟨rfl,e2⟩;have s2:=e2.size;have E:=I.keep e2;have a1:=a'.below e2 oo;have a2:=b0.below e2 oo;have g8:=g6.trans (e2.mono oo);clear e2 d9 f2 I a' b0 g6 cW;have a0:=E.box.cell;have c7:=E.box.free;unfold rdC at a0;have z9:=E.box.lt;by_cases p1:2000<d.length+T.length
       ·have p2:(2000:Int)<(d.length:Int)+T.length:=oo
        have X:=hid (e0.out p1);have f9:=E.ny 3;have s6:=a1.far (p:=⟨g,8,none⟩) (by show w.heap.size≠g;omega) (.int .i64 3);have d1:=a2.far (p:=⟨g,8,none⟩) (by show w.heap.size+1≠g;omega) (.int .i64 3);have g7:=g8.setCell (p:=⟨g,8,none⟩) (by show w.heap.size≤g;omega) (.int .i64 3);clear e0 cA;go_upto_region 15 with(fail)
        generalize w8.setCell ⟨g,8,none⟩ (.int .i64 3)=w7 at*;clear a0 c7 E a1 a2 g8;have k7:=f9.box.cell;have s7:=d1.free;have s8:=d1.cell;unfold rdC at k7;go_wp2;have x:=(nz (cs0:=#[]) d1 a cs d 3 (n+N) q F s r G t).cell;have gQ:=tC g7 (b:=w.heap.size+1) oo a cs d 3 (n+N) q F s r G t;have oQ:=gY f9.dat (b:=w.heap.size+1) oo a cs d 3 (n+N) q F s r G t;unfold rdC at x;try simp only[Int.natCast_add] at x
        try simp only[Exit.inBlock,Exit.then]
        refine bodyPost_ret (v:=.agg (rdC a cs d 3 (n+N) q F s r G t)) (by simp [results,results188,go_sem,x,rdC]) rfl ?_;clear x;have H:=X.out;rw[H];exact⟨a,cs,(n+N),q,F,s,r,G,t,rfl,rfl,rfl,zI oQ oo,gQ⟩
       ·have p2:¬(2000:Int)<(d.length:Int)+T.length:=oo
        obtain⟨s9,hj,t0,t1,t2⟩:=info_parts wQ;have oD:=E.dat;have p3:d.length+T.length≤maxLen:=(by unfold maxLen;omega);have p4:d.length+T.length≤140737488355328:=oo;clear e0;go_wp2_with(at_builtin;go_must(refine gK rfl (.tmp 76) (.tmp 77) 22 9 rfl (w.heap.size+2) 5 s9 underlying22 underlying9 hj t0 t1 t2 (.slice s d.length t) d.length (d.map u8v) rfl oD T rfl p3 p4 oo ?_));intro D9 e4 w9 p5 e5;have R:(d++T).length=d.length+T.length:=(by simp);have k8:w9.ownsRow (w.heap.size+2) 5 1 (.slice D9 (d++T).length e4) (d++T).length ((d++T).map u8v):=(by rw[R,List.map_append];exact p5);rw[←R];have t3:=hid (show d.length+T.length≤2000 by omega);have z':(0:Int)<T.length:=oo;have A0:0<T.length:=oo;obtain⟨U,i3⟩:∃U,d++T=U:=⟨_,rfl⟩;rw[i3] at k8⊢;have t4:=hid i3;clear i3 R p5 p1 p2 p3 p4;have c3:=E.text e5 k8;have k9:=E.Jd e5;have b8:=k9.cell;have f5:=k9.free;unfold rdC at b8;have i0:=(a1.grown e5 (fun k hk=>by have:=(oD.lt k hk).1;omega)).far (p:=⟨g,7,none⟩) (by show w.heap.size≠g;omega) (.slice D9 U.length e4);have i1:=(a2.grown e5 (fun k hk=>by have:=(oD.lt k hk).1;omega)).far (p:=⟨g,7,none⟩) (by show w.heap.size+1≠g;omega) (.slice D9 U.length e4);have g9:=(g8.grown e5 oo (fun k hk=>by have:=(oD.lt k hk).1;omega)).setCell (p:=⟨g,7,none⟩) (by show w.heap.size≤g;omega) (.slice D9 U.length e4);clear a0 c7 E a1 a2 g8 oD k8 e5 k9;go_upto_region 17 with(fail)
        generalize w9.setCell ⟨g,7,none⟩ (.slice D9 U.length e4)=h6 at*;clear b8 f5;have S:=c3.box.cell;unfold rdC at S;have A1:=c3.box.lt;have HL:Hid (∀w',Below h6.heap.size h6 w'→(w'.cell? ⟨g,0,none⟩=some (.int .i64 a.o)∧w'.cell? ⟨g,1,none⟩=some (.int .i64 a.l)∧w'.cell? ⟨g,2,none⟩=some (.int .i64 a.m)∧w'.cell? ⟨g,3,none⟩=some (.slice q a.ps.length r)∧w'.cell? ⟨g,4,none⟩=some (.int .i64 a.base)∧w'.cell? ⟨g,5,none⟩=some (.int .i64 a.last))):=fun w' h=>⟨(h.cell (p:=⟨_,_,_⟩) oB).trans (S 0),(h.cell (p:=⟨_,_,_⟩) oB).trans (S 1),(h.cell (p:=⟨_,_,_⟩) oB).trans (S 2),(h.cell (p:=⟨_,_,_⟩) oB).trans (S 3),(h.cell (p:=⟨_,_,_⟩) oB).trans (S 4),(h.cell (p:=⟨_,_,_⟩) oB).trans (S 5)⟩;clear S;refine yV 7 (fun w'=>w'.cell? ⟨g,0,none⟩=some (.int .i64 a.o)∧w'.cell? ⟨g,1,none⟩=some (.int .i64 a.l)∧w'.cell? ⟨g,2,none⟩=some (.int .i64 a.m)∧w'.cell? ⟨g,3,none⟩=some (.slice q a.ps.length r)∧w'.cell? ⟨g,4,none⟩=some (.int .i64 a.base)∧w'.cell? ⟨g,5,none⟩=some (.int .i64 a.last)) kr kr (by first|(exact HL.out _ vC)|go_keep) (fun p6=> ?_);simp only[List.take_succ_cons,List.take_zero];refine tk 0 ?_;refine tk 1 ?_;refine tk 2 ?_;refine tk 3 ?_;try simp only[Act.put,rR]
        refine rd1 4 fun KK g0=> ?_;go_simp;refine g0.out _ _ (by first|(exact HL.out _ vC)|go_keep) fun p6=> ?_;try simp only[Act.put,rR]
        refine rd1 5 fun KK g0=> ?_;go_simp
        (go_at_call 216;refine(cA.out _ (c3.keep yj).prs (by first|omega|(simp;omega))).mono ?_;rintro e A3 ⟨i4,i5,rfl,p8,b2,t5⟩;have b2:=Kept.Q5 b2;have l0:=c3.Ub b2;have p9:=l0.cell;have t6:=l0.free;have A4:=b2.size;unfold rdC at p9)
        refine g0.out _ _ (by first|(exact HL.out _ vC)|go_keep) fun p6=> ?_;try simp only[Act.put,rR]
        refine tk 6 ?_;try simp only[Act.put,rR]
        refine wpAnyH_done kr ?_ _;refine yJ ?_;refine wpOp_step (o:=_) rfl (fun KK g0=> ?_);go_simp;refine g0 _ _ (NoPanic.normal ?_);try simp only[Act.put,rR]
        have t7:=c3.know b2 p8;have t8:=Px (b:=g) (i0.below (b2.below oo) oo) oo J i4 i5;have t9:=Px (b:=g) (i1.below (b2.below oo) oo) oo J i4 i5;have t':=yC (b:=g) (g9.trans ((b2.below oo).mono oo)) oo J i4 i5;clear c3 i0 i1 g9 b2 p8 t5 l0 p9 t6 cA;go_wp2_with fail;go_meet;rw[k2.out,k3.out,t4.out];exact⟨rfl,i4,D9,i5,e4,t3.out,t7,t8,t9,t'⟩
     case rest=>
      obtain⟨rfl,A2,D2,c0,c1,v0,L,hK,hR,hg⟩:=hcut;have l1:=f8.out oo;have v1:(d++a.wd (c:Int)).length≤2000:=(by simp;omega);have l2:Hid (f=0→R0=⟨cs++[(c:Int)],d++a.wd (c:Int),3,n+N⟩):=fun h=>by
       rw[b4.out _ l1 h];simp [Rg.pre]
      have l3:Hid (∀M,f=M+1→R0=Rg.pre (cs++[(c:Int)]) (d++a.wd (c:Int)) (n+N) (yB M (a.step (c:Int)) (j.drop (n+N)) (d++a.wd (c:Int)).length)):=fun M h=>b5.out _ M l1 h;have v2:Hid ((a.step (c:Int)).o=K.o∧(a.step (c:Int)).l=K.l):=by
       show _∧_;rw[k0.out.1,k0.out.2];exact j0.out
      clear l1 b4 b5 e0 f8 k0 h7 k1 v0 d9 f2 I a' b0 g6 Y hd o';generalize a.step (c:Int)=J at*;generalize d++a.wd (c:Int)=U at*;have oC:=L.cds;have p':=L.box.cell;have v3:=L.box.free;unfold rdC at p';have A5:=L.box.lt;go_wp2_with(at_builtin;go_must(refine zT _ rfl _ _ 33 rfl (w.heap.size+2) 3 i _ 1 8 underlying33 hi o4 o5 o6 rfl (by omega) _ _ _ rfl (oC.alloc _) _ 1 1 [.int .i64 (c:Int)] rfl (Sl.newAt wc #[(c:Int)] _ 1 1 (by first|rfl|simp) (by simp) (by omega)) (by simp [Value.oneCell']) o7 o9 ?_ ?_));try(case refine_1=>first|omega|(simp<;>omega;done))
      intro y z w8 o8 O _;have R:(cs++[(c:Int)]).length=cs.length+1:=(by simp);have f4:w8.ownsRow (w.heap.size+2) 3 1 (.slice y (cs++[(c:Int)]).length z) (cs++[(c:Int)]).length ((cs++[(c:Int)]).map iv):=(by rw[R,List.map_append];exact o8);rw[←R];generalize cs++[(c:Int)]=u at*;have g1:=hid R;have E:=L.code O f4;have Z:=L.PU O;have a0:=Z.cell;have c7:=Z.free;unfold rdC at a0;have a1:=(Bk.grown (hK.alloc _) O (fun k hk=>by have:=(oC.lt k hk).1;omega)).far (p:=⟨g,6,none⟩) (by show w.heap.size≠g;omega) (.slice y u.length z);have a2:=(Bk.grown (hR.alloc _) O (fun k hk=>by have:=(oC.lt k hk).1;omega)).far (p:=⟨g,6,none⟩) (by show w.heap.size+1≠g;omega) (.slice y u.length z);have g8:=((hg.alloc (by omega) _).grown O (by simp;omega) (fun k hk=>by have:=(oC.lt k hk).1;omega)).setCell (p:=⟨g,6,none⟩) (by show w.heap.size≤g;omega) (.slice y u.length z);clear p' v3 L hK hR hg oC o8 f4 O R Z;go_upto_region 25 with(fail)
      generalize w8.setCell ⟨g,6,none⟩ (.slice y u.length z)=w9 at*;clear a0 c7;have b8:=E.box.cell;have f5:=E.box.free;have A6:=E.box.lt;unfold rdC at b8;by_cases l4:f=0
      ·have v4:(3100:Int)≤u.length:=by have:=g1.out;omega
       have v5:3100≤u.length:=oo;have A7:(u.length:Int)≤3100:=(by have:=g1.out;omega);have X:=hid (l2.out l4);have f6:=E.ny 3;have r7:=a1.far (p:=⟨g,8,none⟩) (by show w.heap.size≠g;omega) (.int .i64 3);have c8:=a2.far (p:=⟨g,8,none⟩) (by show w.heap.size+1≠g;omega) (.int .i64 3);have j9:=g8.setCell (p:=⟨g,8,none⟩) (by show w.heap.size≤g;omega) (.int .i64 3);clear l2 l3 l4;go_upto_region 27 with(fail)
       generalize w9.setCell ⟨g,8,none⟩ (.int .i64 3)=h6 at*;clear b8 f5 E a1 a2 g8;have S:=f6.box.cell;have r8:=c8.free;have r9:=c8.cell;unfold rdC at S;go_wp2;have x:=(nz (cs0:=#[]) c8 J u U 3 (n+N) A2 y D2 c0 z c1).cell;have gQ:=tC j9 (b:=w.heap.size+1) oo J u U 3 (n+N) A2 y D2 c0 z c1;have oQ:=gY f6.dat (b:=w.heap.size+1) oo J u U 3 (n+N) A2 y D2 c0 z c1;unfold rdC at x;try simp only[Int.natCast_add] at x
       try simp only[Exit.inBlock,Exit.then]
       refine bodyPost_ret (v:=.agg (rdC J u U 3 (n+N) A2 y D2 c0 z c1)) (by simp [results,results188,go_sem,x,rdC]) rfl ?_;clear x;have H:=X.out;rw[H];exact⟨J,u,(n+N),A2,y,D2,c0,z,c1,rfl,rfl,rfl,zI oQ oo,gQ⟩
      ·obtain⟨M,l5⟩:∃M,f=M+1:=⟨f - 1,oo⟩
       have v4:¬(3100:Int)≤u.length:=(by have:=g1.out;omega);have v5:¬3100≤u.length:=oo;have X:=hid (l3.out M l5);have HF:=hid l5;clear l2 l3 l5 l4;go_wp2_with fail;go_roundw
       case rel=>exact⟨J,u,U,n+N,M,A2,y,D2,c0,z,c1,j',v2,oo,v1,by have:=g1.out;have:=HF.out;omega,X,E,a1,a2,g8⟩
       case measure=>rw[q9.out,E.XW];have:=g1.out;have:=HF.out;omega
   ·have hd:decide (0≤(c:Int)∧(c:Int)≤a.great)=false:=decide_eq_false (fun h=>Y h.2)
    have i3:decide ((c:Int)≤a.great)=false:=decide_eq_false Y;have H:R0=⟨cs,d,2,n+N⟩:=by
     have v6:a.fol (c:Int)=false:=by
      cases hf:a.fol (c:Int) with
      |false=>rfl
      |true=>
       exfalso;unfold Kn.fol at hf;simp only[decide_eq_true_eq] at hf;rcases hf with hf|⟨h1,h2⟩
       ·unfold codeOk at hf;omega
       ·unfold Kn.great at Y;rw[if_pos h1] at Y;omega
     rw[b3.out ⟨[],[],2,N⟩ (by rw[W.out,if_neg c6,if_neg (by omega),if_pos ⟨by omega,v6⟩])];simp [Rg.pre]
    have X:=hid H;have f9:=I.ny 2;have s6:=a'.far (p:=⟨g,8,none⟩) (by show w.heap.size≠g;omega) (.int .i64 2);have d1:=b0.far (p:=⟨g,8,none⟩) (by show w.heap.size+1≠g;omega) (.int .i64 2);have g7:=g6.setCell (p:=⟨g,8,none⟩) (by show w.heap.size≤g;omega) (.int .i64 2);clear W b3 b4 b5 H c6 j5 j6;go_upto_region 10 with(fail)
    generalize w6.setCell ⟨g,8,none⟩ (.int .i64 2)=w7 at*;clear d9 f2 I a' b0 g6;have k7:=f9.box.cell;have s7:=d1.free;have s8:=d1.cell;unfold rdC at k7;go_wp2;have x:=(nz (cs0:=#[]) d1 a cs d 2 (n+N) q F s r G t).cell;have gQ:=tC g7 (b:=w.heap.size+1) oo a cs d 2 (n+N) q F s r G t;have oQ:=gY f9.dat (b:=w.heap.size+1) oo a cs d 2 (n+N) q F s r G t;unfold rdC at x;try simp only[Int.natCast_add] at x
    try simp only[Exit.inBlock,Exit.then]
    refine bodyPost_ret (v:=.agg (rdC a cs d 2 (n+N) q F s r G t)) (by simp [results,results188,go_sem,x,rdC]) rfl ?_;clear x;have H:=X.out;rw[H];exact⟨a,cs,(n+N),q,F,s,r,G,t,rfl,rfl,rfl,zI oQ oo,gQ⟩
def JM (x:Bs×Int×Int)(w:World)(e:Ending)(w':World):Prop:=∃K cs n A C D cap cc cd,e= .returned (.tuple #[.agg (rdC K cs x.1 x.2.1 n A C D cap cc cd),x.2.2])∧w'.ownsRow w.heap.size 5 1 (.slice D x.1.length cd) x.1.length (x.1.map u8v)∧Below w.heap.size w w'
theorem LW {w:World}{B b:Nat}{e:TypeId}{s m:Nat}{v:Value}{xs:List Value}(h:w.ownsRow B e s v m xs)(a:∀k,v.ownBlock=some k→k≠b)(K:Kn)(cs:List Int)(d:Bs)(fin:Int)(n:Nat)(A C D:Option Addr)(cap cc cd:Nat):((((((((((w.setCell ⟨b,0,none⟩ (.int .i64 K.o)).setCell ⟨b,1,none⟩ (.int .i64 K.l)).setCell ⟨b,2,none⟩ (.int .i64 K.m)).setCell ⟨b,3,none⟩ (.slice A K.ps.length cap)).setCell ⟨b,4,none⟩ (.int .i64 K.base)).setCell ⟨b,5,none⟩ (.int .i64 K.last)).setCell ⟨b,6,none⟩ (.slice C cs.length cc)).setCell ⟨b,7,none⟩ (.slice D d.length cd)).setCell ⟨b,8,none⟩ (.int .i64 fin)).setCell ⟨b,9,none⟩ (.int .i64 (n:Int))).ownsRow B e s v m xs:=by
 iterate 10 refine zL ?_ a _
 exact h
theorem QN (K:Kn)(A:Option Addr)(cap:Nat)(l:Bs)(w:World)(hk:K.ok)(Q:Sl w A K.ps.length cap 2 (psV K.ps))(d7:l.length≤1000000):
 Calls prog 165 #[knV K A cap,sv l] w (JM (sF K l) w):=by
 have d8:=hk.st;have HO:Hid (K.o=0∨K.o=1):=hk.st.1;have b4:=fun w Q=>vK K A cap w hk Q;obtain⟨R,a2⟩:∃R,sF K l=R:=⟨_,rfl⟩;rw[a2];have V:=hid a2;clear a2;go_enter func165,ntmps165;have a3:Bk ((w.alloc (.cells (knC K A cap) 94)).alloc (.cells rdZ 183)) w.heap.size 94 (knC K A cap):=tBk;have a4:Bk ((w.alloc (.cells (knC K A cap) 94)).alloc (.cells rdZ 183)) (w.heap.size+1) 183 rdZ:=tBk;have g0:Below w.heap.size w ((w.alloc (.cells (knC K A cap) 94)).alloc (.cells rdZ 183)):=zy;go_upto_region 1 with(fail)
 generalize(w.alloc (.cells (knC K A cap) 94)).alloc (.cells rdZ 183)=w0 at*;have c4:=a3.cell;have d':=a4.lt;have a6:=Q.below g0;go_wp2_with fail;refine(b4 _ a6).mono ?_;rintro e s ⟨rfl,T⟩;have e0:=T.size;have b5:=a3.below T oo;have M:=a4.below T oo;have W:=a6.below T;have g1:=g0.trans (T.mono oo);clear T a3 a4 c4 a6 Q g0 b4;by_cases b6:4000<l.length
 ·have c5:(4000:Int)<l.length:=oo
  have hE:R=([],4,0):=by
   rw[←V.out];unfold sF;rw[if_pos b6]
  clear V;subst hE;have J:=M.cell;have e1:=M.free;have G:=(nz (cs0:=#[]) M ⟨0,0,0,[],0,0⟩ [] [] 4 0 none none none 0 0 0).cell;have N:=tC g1 (b:=w.heap.size+1) oo ⟨0,0,0,[],0,0⟩ [] [] 4 0 none none none 0 0 0;unfold rdC at G;simp only[List.length_nil,Int.natCast_zero,Int.ofNat_zero] at G N;go_wp2;try simp only[Exit.inBlock,Exit.then]
  refine bodyPost_ret (v:=.tuple #[.agg (rdC ⟨0,0,0,[],0,0⟩ [] [] 4 0 none none none 0 0 0),.int .i64 0]) (by simp [results,results165,go_sem,G,rdC]) rfl ?_;exact⟨⟨0,0,0,[],0,0⟩,[],0,none,none,none,0,0,0,rfl,⟨by simp,.inl ⟨rfl,rfl⟩⟩,N⟩
 ·have c5:¬(4000:Int)<l.length:=oo
  have c7:=rf K.o l;have b7:=fZ K.o l;have cU:=hid (fun w=>Zi K.o l w HO.out oo);have U:=hid (fun w Q=>Xt K A cap (zO K.o l) w hk Q b7 oo);have a9:Hid (R.1=(yB 3099 K (zO K.o l) 0).d∧R.2.1=(yB 3099 K (zO K.o l) 0).fin∧R.2.2=if(yB 3099 K (zO K.o l) 0).fin=1 then(l.length:Int) else(((yB 3099 K (zO K.o l) 0).use+7) / 8:Nat)):=by
   show _∧_∧_;rw[←V.out];unfold sF;rw[if_neg b6];exact⟨rfl,rfl,rfl⟩
  have b8:(yB 3099 K (zO K.o l) 0).d.length≤2000∧(yB 3099 K (zO K.o l) 0).use≤32000∧0≤(yB 3099 K (zO K.o l) 0).fin∧(yB 3099 K (zO K.o l) 0).fin≤3:=by
   have h:=bH 3099 K (zO K.o l) 0 oo;exact⟨by omega,oo,h.2.2.2.1,h.2.2.2.2⟩
  have b9:=hid b8;clear V b7 c7 b8;unfold JF at U;generalize yB 3099 K (zO K.o l) 0=r at*;generalize zO K.o l=e2 at*;obtain⟨x,L,us⟩:=R;simp only at a9;have J:=b5.cell;have c8:=M.cell;have e4:=M.lt;have y:Hid (∀w',Below s.heap.size s w'→(w'.cell? ⟨w.heap.size,0,none⟩=some (.int .i64 K.o)∧w'.cell? ⟨w.heap.size,1,none⟩=some (.int .i64 K.l)∧w'.cell? ⟨w.heap.size,2,none⟩=some (.int .i64 K.m)∧w'.cell? ⟨w.heap.size,3,none⟩=some (.slice A K.ps.length cap)∧w'.cell? ⟨w.heap.size,4,none⟩=some (.int .i64 K.base)∧w'.cell? ⟨w.heap.size,5,none⟩=some (.int .i64 K.last)∧Below s.heap.size s w')):=fun w' h=>⟨(h.cell (p:=⟨_,_,_⟩) oB).trans (J 0),(h.cell (p:=⟨_,_,_⟩) oB).trans (J 1),(h.cell (p:=⟨_,_,_⟩) oB).trans (J 2),(h.cell (p:=⟨_,_,_⟩) oB).trans (J 3),(h.cell (p:=⟨_,_,_⟩) oB).trans (J 4),(h.cell (p:=⟨_,_,_⟩) oB).trans (J 5),h⟩;clear J c8;go_upto_region 3 with(fail)
  go_cut [6] (fun v wx=>∃gb a z i j f k q g,v= .pointer (some ⟨gb,0,none⟩)∧w.heap.size+2≤gb∧Bk wx gb 183 (rdC a z r.d r.fin r.use i j f k q g)∧wx.ownsRow w.heap.size 5 1 (.slice f r.d.length g) r.d.length (r.d.map u8v)∧Below s.heap.size s wx)
  case first=>
   refine wp_region_held_drew (S:=(fun w'=>w'.cell? ⟨w.heap.size,0,none⟩=some (.int .i64 K.o)∧w'.cell? ⟨w.heap.size,1,none⟩=some (.int .i64 K.l)∧w'.cell? ⟨w.heap.size,2,none⟩=some (.int .i64 K.m)∧w'.cell? ⟨w.heap.size,3,none⟩=some (.slice A K.ps.length cap)∧w'.cell? ⟨w.heap.size,4,none⟩=some (.int .i64 K.base)∧w'.cell? ⟨w.heap.size,5,none⟩=some (.int .i64 K.last)∧Below s.heap.size s w')) kr ?_ (fun E=> ?_);focus(exact y.out _ yj)
   refine tk 0 ?_;refine tk 1 ?_;refine tk 2 ?_;refine tk 3 ?_;refine tk 4 ?_;try simp only[Act.put,rR]
   refine wpAnyH_ready (rs:=[5,7]) (by kernel_rfl) (by simp) ?_;refine(AllReadyH.cons (o:=_) rfl (fun H c=> ?_) (AllReadyH.cons (o:=_) rfl (fun H c=> ?_) AllReadyH.nil))
   ·
    go_simp
    (go_at_call 189;refine(cU.out _).mono ?_;rintro e X ⟨rfl,t⟩;have t:Below s.heap.size s X:=zB t;have Y:=t.size)
    refine c.out _ _ (y.out _ yj) fun E=> ?_;try simp only[Act.put,rR]
    refine wpAnyH_ready (rs:=[6,7]) (by kernel_rfl) (by simp) ?_;refine(AllReadyH.cons (o:=_) rfl (fun H c=> ?_) (AllReadyH.cons (o:=_) rfl (fun H c=> ?_) AllReadyH.nil))
    ·
     go_simp
     (go_at_call 188;refine(U.out _ (W.below t)).mono ?_;rintro e w3 ⟨a,_,_,i,j,f,k,q,g,rfl,rfl,rfl,F,I⟩;have b0:=I.size;have Z:=t.trans (I.mono Y);unfold rdC)
     refine c.out _ _ (y.out _ yj) fun E=> ?_;try simp only[Act.put,rR]
     refine rd1 7 fun H c=> ?_;go_simp;refine c.out _ _ (y.out _ yj) fun E=> ?_;try simp only[Act.put,rR]
     refine rd1 8 fun H c=> ?_;go_simp;refine c.out _ _ (y.out _ yj) fun E=> ?_;try simp only[Act.put,rR]
     refine wpAnyH_done kr ?_ _;go_wp2_with fail;go_meet;exact⟨_,a,_,i,j,f,k,q,g,rfl,oo,Bk.new _ _ _,zI (F.alloc _) oo,yj⟩
    ·
     go_simp;refine c.out _ _ (y.out _ yj) fun E=> ?_;try simp only[Act.put,rR]
     refine rd1 6 fun H c=> ?_;go_simp
     (go_at_call 188;refine(U.out _ ((W.below t).alloc _)).mono ?_;rintro e w3 ⟨a,_,_,i,j,f,k,q,g,rfl,rfl,rfl,F,I⟩;have b0:=I.size;simp only[World.size_alloc] at b0;have O:=Bk.below (Bk.new X rdZ 183) I (by simp);have c9:=O.cell;have c':=O.free;have Z:=(t.alloc Y (.cells rdZ 183)).trans (I.mono (by simp;omega));unfold rdC)
     refine c.out _ _ (y.out _ yj) fun E=> ?_;try simp only[Act.put,rR]
     refine rd1 8 fun H c=> ?_;go_simp;refine c.out _ _ (y.out _ yj) fun E=> ?_;try simp only[Act.put,rR]
     refine wpAnyH_done kr ?_ _;go_wp2_with fail;go_meet;exact⟨_,a,_,i,j,f,k,q,g,rfl,by omega,nz (cs0:=#[]) O _ _ _ _ _ _ _ _ _ _ _,zI (gY F (by simp) _ _ _ _ _ _ _ _ _ _ _) (by simp;omega),tC Z (by omega) _ _ _ _ _ _ _ _ _ _ _⟩
   ·
    go_simp;refine c.out _ _ (y.out _ yj) fun E=> ?_;try simp only[Act.put,rR]
    refine rd1 5 fun H c=> ?_;go_simp
    (go_at_call 189;refine(cU.out _).mono ?_;rintro e X ⟨rfl,t⟩;have c0:=Bk.below (Bk.new s rdZ 183) (zB t) (by simp);have t:Below s.heap.size s X:=((Below.refl _ s).alloc (Nat.le_refl _) (.cells rdZ 183)).trans ((zB t).mono (by simp));have Y:=t.size;have c1:=c0.lt)
    refine c.out _ _ (y.out _ yj) fun E=> ?_;try simp only[Act.put,rR]
    refine rd1 6 fun H c=> ?_;go_simp
    (go_at_call 188;refine(U.out _ (W.below t)).mono ?_;rintro e w3 ⟨a,_,_,i,j,f,k,q,g,rfl,rfl,rfl,F,I⟩;have b0:=I.size;have O:=c0.below I c1;have c9:=O.cell;have c':=O.free;have Z:=t.trans (I.mono Y);unfold rdC)
    refine c.out _ _ (y.out _ yj) fun E=> ?_;try simp only[Act.put,rR]
    refine rd1 8 fun H c=> ?_;go_simp;refine c.out _ _ (y.out _ yj) fun E=> ?_;try simp only[Act.put,rR]
    refine wpAnyH_done kr ?_ _;go_wp2_with fail;go_meet;exact⟨_,a,_,i,j,f,k,q,g,rfl,oo,nz (cs0:=#[]) O _ _ _ _ _ _ _ _ _ _ _,zI (gY F c1 _ _ _ _ _ _ _ _ _ _ _) oo,tC Z oo _ _ _ _ _ _ _ _ _ _ _⟩
  case rest=>
   obtain⟨gb,a,z,i,j,f,k,q,g,rfl,e5,hB,F,hb⟩:=hcut;have P:=M.below hb oo;have hg:=g1.trans (hb.mono oo);clear hb M b5 W g1 cU U y;have hF:=P.free;have hY:=P.cell;have e8:=P.lt;obtain⟨d0,d1,d2,d3⟩:=b9.out;obtain⟨d4,d5,d6⟩:=a9.out;subst d4 d5 d6;clear b9 a9;obtain⟨e9,d,L,u⟩:=r;simp only at hB F d0 d1 d2 d3⊢;by_cases hf:L=1
   ·subst hf
    have hX:=hB.cell;unfold rdC at hX;have G:=(nz (cs0:=#[]) P a z d 1 u i j f k q g).cell;have N:=tC hg (b:=w.heap.size+1) oo a z d 1 u i j f k q g;have oQ:=LW F (own_ne F P (by decide)) a z d 1 u i j f k q g;unfold rdC at G;go_wp2;refine bodyPost_ret (v:=.tuple #[.agg (rdC a z d 1 u i j f k q g),(l.length:Int)]) (by simp [results,results165,go_sem,G,rdC]) rfl ?_;exact⟨a,z,u,i,j,f,k,q,g,by simp,oQ,N⟩
   ·have e':(L==1)=false:=by simpa using hf
    have HF:=hid hf;clear hf;have hX:=hB.cell;unfold rdC at hX;have G:=(nz (cs0:=#[]) P a z d L u i j f k q g).cell;have N:=tC hg (b:=w.heap.size+1) oo a z d L u i j f k q g;have oQ:=LW F (own_ne F P (by decide)) a z d L u i j f k q g;unfold rdC at G;have hq:((u:Int)+7).tdiv 8=(((u+7) / 8:Nat):Int):=by
     rw[Int.tdiv_eq_ediv_of_nonneg (by omega)];omega
    go_upto_region 6 with(fail)
    go_region
    all_goals go_wp2
    generalize(((((((((wc.setCell ⟨w.heap.size+1,0,none⟩ (.int .i64 a.o)).setCell ⟨w.heap.size+1,1,none⟩ (.int .i64 a.l)).setCell ⟨w.heap.size+1,2,none⟩ (.int .i64 a.m)).setCell ⟨w.heap.size+1,3,none⟩ (.slice i a.ps.length k)).setCell ⟨w.heap.size+1,4,none⟩ (.int .i64 a.base)).setCell ⟨w.heap.size+1,5,none⟩ (.int .i64 a.last)).setCell ⟨w.heap.size+1,6,none⟩ (.slice j z.length q)).setCell ⟨w.heap.size+1,7,none⟩ (.slice f d.length g)).setCell ⟨w.heap.size+1,8,none⟩ (.int .i64 L)).setCell ⟨w.heap.size+1,9,none⟩ (.int .i64 (u:Int))=W5 at G N oQ⊢;refine bodyPost_ret (v:=.tuple #[.agg (rdC a z d L u i j f k q g),.int .i64 (((u:Int)+7) / 8)]) (by simp [results,results165,go_sem,G,rdC]) rfl ?_;exact⟨a,z,u,i,j,f,k,q,g,rfl,oQ.drew,N.drew⟩
theorem YS (K:Kn)(A:Option Addr)(cap:Nat)(l:Bs)(w:World)(hk:K.ok)(h:Sl w A K.ps.length cap 2 (psV K.ps))(J:l.length≤1000000):
 Calls prog 133 #[knV K A cap,sv l] w (rT w (.tuple #[sv (sF K l).1,.int .i64 (sF K l).2.1,.int .i64 (sF K l).2.2])):=by
 have t:=fun w h=>QN K A cap l w hk h J;have L:=YO K l;unfold JM at t;generalize sF K l=R at*;obtain⟨d,c,M⟩:=R;simp only at t L;go_enter func133,ntmps133;have u:Bk (w.alloc (.cells (knC K A cap) 94)) w.heap.size 94 (knC K A cap):=tBk;have y:Below w.heap.size w (w.alloc (.cells (knC K A cap) 94)):=zy;go_upto_region 1 with(fail)
 generalize w.alloc (.cells (knC K A cap) 94)=Q at*;have N:=u.cell;have T:=u.lt;have z:=h.below y;go_wp2_with fail;refine(t _ z).mono ?_;rintro e i ⟨a,j,k,p,q,f,r,s,g,rfl,E,x⟩;have U:=x.size;have F:=y.trans (x.mono oo);have G:=Bk.new i (rdC a j d c k p q f r s g) 183;have H:=E.alloc (.cells (rdC a j d c k p q f r s g) 183);have I:=F.alloc oo (.cells (rdC a j d c k p q f r s g) 183);clear N z h u E x F;unfold rdC at G H I⊢;go_upto_region 2 with(fail)
 generalize i.alloc (.cells #[(a.o:Int),(a.l:Int),(a.m:Int),.slice p a.ps.length r,(a.base:Int),(a.last:Int),.slice q j.length s,.slice f d.length g,c,(k:Int)] 183)=W at*;have O:=G.cell;have P:=yL (wZ H);refine wp_region_held_drew (S:=(fun w'=>w'.cell? ⟨i.heap.size,7,none⟩=some (.slice f d.length g)∧w'.cell? ⟨i.heap.size,8,none⟩=some (.int .i64 c)∧(convert 22 9 (.slice f d.length g)).run prog w'= .ok (.string ⟨d.toArray⟩) w')) kr ?_ (fun V=> ?_);focus((refine⟨?_,?_,?_⟩;all_goals first|with_reducible exact P|(simp [O];done)))
 refine tk 0 ?_;refine tk 1 ?_;refine tk 2 ?_;refine tk 3 ?_;refine tk 4 ?_;refine tk 5 ?_;refine tk 6 ?_;refine tk 7 ?_;refine tk 8 ?_;try simp only[Act.put,rR]
 refine wpAnyH_done kr ?_ _;simp only[Act.put,yW];go_wp2;exact bodyPost_ret (v:=.tuple #[sv d,c,M]) (by simp [results,results133,go_sem]) rfl ⟨rfl,I.drew⟩
theorem nG (K:Kn)(A:Option Addr)(cap:Nat)(b:Blk)(w:World)(hk:K.ok)(q:Sl w A K.ps.length cap 2 (psV K.ps))(u:b.body.length≤1000000):
 Calls prog 95 #[knV K A cap,bkV b] w (rS w (xw (b.dat K))):=by
 have s:=fun w q=>YS K A cap b.body w hk q u;have y:=YO K b.body;obtain⟨R,t⟩:∃R,b.dat K=R:=⟨_,rfl⟩;rw[t];have a:=hid t;clear t;unfold Blk.dat at a;generalize sF K b.body=D at*;obtain⟨d,h,i⟩:=D;obtain⟨j,r,c,T⟩:=b;simp only at s y a u;unfold xw;go_enter func95,ntmps95;have x:Bk ((w.alloc (.cells (knC K A cap) 94)).alloc (.cells (bkC ⟨j,r,c,T⟩) 122)) w.heap.size 94 (knC K A cap):=tBk;have l:Bk ((w.alloc (.cells (knC K A cap) 94)).alloc (.cells (bkC ⟨j,r,c,T⟩) 122)) (w.heap.size+1) 122 (bkC ⟨j,r,c,T⟩):=tBk;have m:Below w.heap.size w ((w.alloc (.cells (knC K A cap) 94)).alloc (.cells (bkC ⟨j,r,c,T⟩) 122)):=zy;go_upto_region 1 with(fail)
 generalize(w.alloc (.cells (knC K A cap) 94)).alloc (.cells (bkC ⟨j,r,c,T⟩) 122)=M at*;have z:=x.cell;have E:=l.cell;have F:=l.lt;have G:=q.below m
 cases r with
 |true=>
  have k:R=some T:=(by rw[←a.out];simp);subst k;clear a;go_wp2;exact bodyPost_ret (v:=.tuple #[sv T,.bool true]) (by simp [results,results95,go_sem]) rfl ⟨rfl,m⟩
 |false=>
  go_wp2_with fail;refine(s _ G).mono ?_;rintro e N ⟨rfl,o⟩;have O:=o.size;have H:=l.below o F;have p:=m.trans (o.mono oo);have P:=H.cell;clear o l x z E m s;by_cases h1:h≠0∨i≠T.length∨(d.length:Int)≠c
  ·have k:R=none:=by rw[←a.out,if_neg (by simp),if_pos h1]
   subst k;clear a;by_cases f:h=0
   ·have I:(h != 0)=false:=by simpa using f
    by_cases g:i=T.length
    ·have J:(i != (T.length:Int))=false:=by simpa using g
     have L:((d.length:Int) != c)=true:=by
      rcases h1 with h1|h1|h1
      ·exact absurd f h1
      ·exact absurd g h1
      ·simpa using h1
     clear f g h1;go_wp2;exact bodyPost_ret (v:=.tuple #[sv [],.bool false]) (by simp [results,results95,go_sem]) rfl ⟨rfl,p⟩
    ·have J:(i != (T.length:Int))=true:=by simpa using g
     clear f g h1;go_wp2;exact bodyPost_ret (v:=.tuple #[sv [],.bool false]) (by simp [results,results95,go_sem]) rfl ⟨rfl,p⟩
   ·have I:(h != 0)=true:=by simpa using f
    clear f h1;go_wp2;exact bodyPost_ret (v:=.tuple #[sv [],.bool false]) (by simp [results,results95,go_sem]) rfl ⟨rfl,p⟩
  ·have k:R=some d:=by rw[←a.out,if_neg (by simp),if_neg h1]
   subst k;clear a;have f:(h != 0)=false:=(by simp only[not_or,Classical.not_not] at h1;simpa using h1.1);have g:(i != (T.length:Int))=false:=(by simp only[not_or,Classical.not_not] at h1;simpa using h1.2.1);have L:((d.length:Int) != c)=false:=(by simp only[not_or,Classical.not_not] at h1;simpa using h1.2.2);clear h1;go_wp2;exact bodyPost_ret (v:=.tuple #[sv d,.bool true]) (by simp [results,results95,go_sem]) rfl ⟨rfl,p⟩
