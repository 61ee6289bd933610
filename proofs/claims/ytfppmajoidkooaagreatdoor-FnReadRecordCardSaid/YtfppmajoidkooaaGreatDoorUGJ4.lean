import Derived.Test.YtfppmajoidkooaaGreatDoorUGJ3
import Derived.Test.YtfppmajoidkooaaGreatDoorUGJ2
import Derived.Test.YtfppmajoidkooaaGreatDoorUGP2
set_option linter.unusedVariables false
set_option linter.unusedSimpArgs false
set_option maxHeartbeats 8000000
namespace Go.Proofs.YtfppmajoidkooaaGreatDoor
open Go.RowKit
set_option maxRecDepth 100000
attribute [local go_sem high] zy zA zB zO zK zY zx zk zl zq zi zo yP zD yt zF
def rdC (K:Kn)(cs:List Int)(d:Bs)(fin:Int)(n:Nat)(A C D:Option Addr)(cap cc cd:Nat):Array Value:=#[.int .i64 K.o,.int .i64 K.l,.int .i64 K.m,.slice A K.ps.length cap,.int .i64 K.base,.int .i64 K.last,.slice C cs.length cc,.slice D d.length cd,.int .i64 fin,.int .i64 (n:Int)]
abbrev rdZ :Array Value:=#[.int .i64 0,.int .i64 0,.int .i64 0,.slice none 0 0,.int .i64 0,.int .i64 0,.slice none 0 0,.slice none 0 0,.int .i64 0,.int .i64 0]
structure uZ (w : World) (B b : Nat) (K : Kn) (cs : List Int) (d : Bs) (fin : Int) (n : Nat) (A C D : Option Addr) (cap cc cd : Nat) : Prop where
 bB : B ≤ b
 box : Bk w b 217 (rdC K cs d fin n A C D cap cc cd)
 prs : w.ownsRow B 207 2 (.slice A K.ps.length cap) K.ps.length (psV K.ps)
 cds : w.ownsRow B 3 1 (.slice C cs.length cc) cs.length (cs.map iv)
 dat : w.ownsRow B 5 1 (.slice D d.length cd) d.length (d.map u8v)
section
variable {w w' : World} {B b : Nat} {K : Kn} {cs : List Int} {d : Bs} {fin : Int} {n : Nat} {A C D : Option Addr} {cap cc cd : Nat}
theorem uZ.keep (h:uZ w B b K cs d fin n A C D cap cc cd)(hb:Below w.heap.size w w'):uZ w' B b K cs d fin n A C D cap cc cd:=
 ⟨h.bB,h.box.below hb h.box.lt,zf h.prs hb,zf h.cds hb,zf h.dat hb⟩
theorem uZ.oN (h:uZ w B b K cs d fin n A C D cap cc cd)(x:Int):uZ (w.setCell ⟨b,8,none⟩ (.int .i64 x)) B b K cs d x n A C D cap cc cd:=
 ⟨h.bB,h.box.set 8 _,zH h.prs (p:=⟨b,8,none⟩) (own_ne h.prs h.box (by decide)) _,zH h.cds (p:=⟨b,8,none⟩) (own_ne h.cds h.box (by decide)) _,zH h.dat (p:=⟨b,8,none⟩) (own_ne h.dat h.box (by decide)) _⟩
theorem uZ.setAt (h:uZ w B b K cs d fin n A C D cap cc cd)(m:Nat):uZ (w.setCell ⟨b,9,none⟩ (.int .i64 (m:Int))) B b K cs d fin m A C D cap cc cd:=
 ⟨h.bB,h.box.set 9 _,zH h.prs (p:=⟨b,9,none⟩) (own_ne h.prs h.box (by decide)) _,zH h.cds (p:=⟨b,9,none⟩) (own_ne h.cds h.box (by decide)) _,zH h.dat (p:=⟨b,9,none⟩) (own_ne h.dat h.box (by decide)) _⟩
theorem oI {cs0:Array Value}(h:Bk w b 217 rdZ)(K:Kn)(cs:List Int)(d:Bs)(fin:Int)(n:Nat)(A C D:Option Addr)(cap cc cd:Nat):Bk ((((((((((w.setCell ⟨b,0,none⟩ (.int .i64 K.o)).setCell ⟨b,1,none⟩ (.int .i64 K.l)).setCell ⟨b,2,none⟩ (.int .i64 K.m)).setCell ⟨b,3,none⟩ (.slice A K.ps.length cap)).setCell ⟨b,4,none⟩ (.int .i64 K.base)).setCell ⟨b,5,none⟩ (.int .i64 K.last)).setCell ⟨b,6,none⟩ (.slice C cs.length cc)).setCell ⟨b,7,none⟩ (.slice D d.length cd)).setCell ⟨b,8,none⟩ (.int .i64 fin)).setCell ⟨b,9,none⟩ (.int .i64 (n:Int))) b 217 (rdC K cs d fin n A C D cap cc cd):=by
 have h10:=(((((((((h.set 0 (.int .i64 K.o)).set 1 (.int .i64 K.l)).set 2 (.int .i64 K.m)).set 3 (.slice A K.ps.length cap)).set 4 (.int .i64 K.base)).set 5 (.int .i64 K.last)).set 6 (.slice C cs.length cc)).set 7 (.slice D d.length cd)).set 8 (.int .i64 fin)).set 9 (.int .i64 (n:Int));simp only[List.setIfInBounds_toArray,List.set_cons_zero,List.set_cons_succ] at h10;exact h10
theorem uI {w0:World}(h:Below B w0 w)(hb:B≤b)(K:Kn)(cs:List Int)(d:Bs)(fin:Int)(n:Nat)(A C D:Option Addr)(cap cc cd:Nat):Below B w0 ((((((((((w.setCell ⟨b,0,none⟩ (.int .i64 K.o)).setCell ⟨b,1,none⟩ (.int .i64 K.l)).setCell ⟨b,2,none⟩ (.int .i64 K.m)).setCell ⟨b,3,none⟩ (.slice A K.ps.length cap)).setCell ⟨b,4,none⟩ (.int .i64 K.base)).setCell ⟨b,5,none⟩ (.int .i64 K.last)).setCell ⟨b,6,none⟩ (.slice C cs.length cc)).setCell ⟨b,7,none⟩ (.slice D d.length cd)).setCell ⟨b,8,none⟩ (.int .i64 fin)).setCell ⟨b,9,none⟩ (.int .i64 (n:Int))):=by
 iterate 10 refine Below.setCell ?_ (by simpa using hb) _
 exact h
theorem jR {e:TypeId}{s m:Nat}{v:Value}{xs:List Value}(h:w.ownsRow B e s v m xs)(hb:b<B)(K:Kn)(cs:List Int)(d:Bs)(fin:Int)(n:Nat)(A C D:Option Addr)(cap cc cd:Nat):((((((((((w.setCell ⟨b,0,none⟩ (.int .i64 K.o)).setCell ⟨b,1,none⟩ (.int .i64 K.l)).setCell ⟨b,2,none⟩ (.int .i64 K.m)).setCell ⟨b,3,none⟩ (.slice A K.ps.length cap)).setCell ⟨b,4,none⟩ (.int .i64 K.base)).setCell ⟨b,5,none⟩ (.int .i64 K.last)).setCell ⟨b,6,none⟩ (.slice C cs.length cc)).setCell ⟨b,7,none⟩ (.slice D d.length cd)).setCell ⟨b,8,none⟩ (.int .i64 fin)).setCell ⟨b,9,none⟩ (.int .i64 (n:Int))).ownsRow B e s v m xs:=by
 iterate 10 refine ownsRow_setCell_below ?_ (by simpa using hb) _
 exact h
theorem uZ.code {w5:World}{X:Obj}{cs2:List Int}{C5:Option Addr}{cc5:Nat}(h:uZ w B b K cs d fin n A C D cap cc cd)(hg:(w.alloc X).grownBy w5 (Value.slice C cs.length cc).ownBlock)(o:w5.ownsRow B 3 1 (.slice C5 cs2.length cc5) cs2.length (cs2.map iv)):uZ (w5.setCell ⟨b,6,none⟩ (.slice C5 cs2.length cc5)) B b K cs2 d fin n A C5 D cap cc5 cd:=by
 have hB:=Bk.grown (h.box.alloc X) hg (own_ne h.cds h.box (by decide));have h1:=xw (h.prs.alloc X) (h.cds.alloc X) (by decide) hg;have h2:=xw (h.dat.alloc X) (h.cds.alloc X) (by decide) hg;exact⟨h.bB,hB.set 6 _,zH h1 (p:=⟨b,6,none⟩) (own_ne h1 hB (by decide)) _,zH o (p:=⟨b,6,none⟩) (own_ne o hB (by decide)) _,zH h2 (p:=⟨b,6,none⟩) (own_ne h2 hB (by decide)) _⟩
theorem uZ.RZ {w5:World}{X:Obj}(h:uZ w B b K cs d fin n A C D cap cc cd)(hg:(w.alloc X).grownBy w5 (Value.slice C cs.length cc).ownBlock):Bk w5 b 217 (rdC K cs d fin n A C D cap cc cd):=Bk.grown (h.box.alloc X) hg (own_ne h.cds h.box (by decide))
theorem uZ.text {w5:World}{d2:Bs}{D5:Option Addr}{cd5:Nat}(h:uZ w B b K cs d fin n A C D cap cc cd)(hg:w.grownBy w5 (Value.slice D d.length cd).ownBlock)(o:w5.ownsRow B 5 1 (.slice D5 d2.length cd5) d2.length (d2.map u8v)):uZ (w5.setCell ⟨b,7,none⟩ (.slice D5 d2.length cd5)) B b K cs d2 fin n A C D5 cap cc cd5:=by
 have hB:=Bk.grown h.box hg (own_ne h.dat h.box (by decide));have h1:=xw h.prs h.dat (by decide) hg;have h2:=xw h.cds h.dat (by decide) hg;exact⟨h.bB,hB.set 7 _,zH h1 (p:=⟨b,7,none⟩) (own_ne h1 hB (by decide)) _,zH h2 (p:=⟨b,7,none⟩) (own_ne h2 hB (by decide)) _,zH o (p:=⟨b,7,none⟩) (own_ne o hB (by decide)) _⟩
theorem uZ.LW {w5:World}(h:uZ w B b K cs d fin n A C D cap cc cd)(hg:w.grownBy w5 (Value.slice D d.length cd).ownBlock):Bk w5 b 217 (rdC K cs d fin n A C D cap cc cd):=Bk.grown h.box hg (own_ne h.dat h.box (by decide))
theorem uZ.Wj {w2:World}(h:uZ w B b K cs d fin n A C D cap cc cd)(kp:Kept B (fun g=>(Value.slice A K.ps.length cap).ownBlock=some g) w w2):Bk w2 b 217 (rdC K cs d fin n A C D cap cc cd):=
 kp.bk h.box (.inr (fun e=>own_ne h.prs h.box (by decide) b e rfl))
theorem uZ.know {w2:World}{K2:Kn}{A2:Option Addr}{cap2:Nat}(h:uZ w B b K cs d fin n A C D cap cc cd)(kp:Kept B (fun g=>(Value.slice A K.ps.length cap).ownBlock=some g) w w2)(o:w2.ownsRow B 207 2 (.slice A2 K2.ps.length cap2) K2.ps.length (psV K2.ps)):uZ ((((((w2.setCell ⟨b,0,none⟩ (.int .i64 K2.o)).setCell ⟨b,1,none⟩ (.int .i64 K2.l)).setCell ⟨b,2,none⟩ (.int .i64 K2.m)).setCell ⟨b,3,none⟩ (.slice A2 K2.ps.length cap2)).setCell ⟨b,4,none⟩ (.int .i64 K2.base)).setCell ⟨b,5,none⟩ (.int .i64 K2.last)) B b K2 cs d fin n A2 C D cap2 cc cd:=by
 have hB:=h.Wj kp;have h1:=kp.own h.cds (fun g hg=>.inr (fun e=>by
  rcases ug h.cds h.prs (by decide) with h1|h1
  ·rw[h1] at hg;cases hg
  ·exact h1 (by rw[hg,e])))
 have h2:=kp.own h.dat (fun g hg=>.inr (fun e=>by
  rcases ug h.dat h.prs (by decide) with h1|h1
  ·rw[h1] at hg;cases hg
  ·exact h1 (by rw[hg,e])))
 have n0:=own_ne o hB (by decide);have n1:=own_ne h1 hB (by decide);have n2:=own_ne h2 hB (by decide);have h6:=(((((hB.set 0 (.int .i64 K2.o)).set 1 (.int .i64 K2.l)).set 2 (.int .i64 K2.m)).set 3 (.slice A2 K2.ps.length cap2)).set 4 (.int .i64 K2.base)).set 5 (.int .i64 K2.last);unfold rdC at h6;simp only[List.setIfInBounds_toArray,List.set_cons_zero,List.set_cons_succ] at h6;refine⟨h.bB,h6,?_,?_,?_⟩
 ·iterate 6 refine zH ?_ n0 _
  exact o
 ·iterate 6 refine zH ?_ n1 _
  exact h1
 ·iterate 6 refine zH ?_ n2 _
  exact h2
theorem Qb {w2:World}{g:Nat}{t:TypeId}{xs:Array Value}(h:Bk w2 g t xs)(hne:g≠b)(K2:Kn)(A2:Option Addr)(cap2:Nat):Bk ((((((w2.setCell ⟨b,0,none⟩ (.int .i64 K2.o)).setCell ⟨b,1,none⟩ (.int .i64 K2.l)).setCell ⟨b,2,none⟩ (.int .i64 K2.m)).setCell ⟨b,3,none⟩ (.slice A2 K2.ps.length cap2)).setCell ⟨b,4,none⟩ (.int .i64 K2.base)).setCell ⟨b,5,none⟩ (.int .i64 K2.last)) g t xs:=by
 iterate 6 refine Bk.far ?_ hne _
 exact h
end
def Kq (r:Rg)(w:World)(e:Ending)(w':World):Prop:=∃K cs n A C D cap cc cd,e= .returned (.agg (rdC K cs r.d r.fin n A C D cap cc cd))∧n=r.use∧cs=r.cs∧w'.ownsRow w.heap.size 5 1 (.slice D r.d.length cd) r.d.length (r.d.map u8v)∧Below w.heap.size w w'
def Xk (w:World)(b off:Nat):Nat:=match w.cell? ⟨b,off,none⟩ with
 |some (.slice _ n _)=>n
 |_=>0
theorem uZ.Xk {w:World}{B b:Nat}{K:Kn}{cs:List Int}{d:Bs}{fin:Int}{n:Nat}{A C D:Option Addr}{cap cc cd:Nat}(h:uZ w B b K cs d fin n A C D cap cc cd):Xk w b 6=cs.length:=by
 unfold Go.Proofs.YtfppmajoidkooaaGreatDoor.Xk;rw[h.box.cell 6];rfl
theorem MS (p:Bs)(n k:Nat):(⟨p.toArray⟩:ByteArray).extract n (n+k)=⟨((p.drop n).take k).toArray⟩:=by
 rw[ByteArray.extract_mk];simp [Nat.add_sub_cancel_left]
theorem YR (K:Kn)(A:Option Addr)(cap:Nat)(bs:Bs)(w:World)(hk:K.ok)(hs:Sl w A K.ps.length cap 2 (psV K.ps))(hb:yJ bs=true)(hl:bs.length≤32000):
 Calls Tryz.prog 240 #[knV K A cap,sv bs,.int .i64 0,.int .i64 0] w (Kq (yg 3099 K bs 0) w):=by
 have hst:=hk.st;have hlk:K.ps.length≤100000:=(by have:=hk.fine.len;omega);have HG0:Hid (yg 3099 K bs 0=Rg.pre [] [] 0 (yg 3099 K (bs.drop 0) ([]:Bs).length)):=by
  show _=_;simp [Rg.pre]
 have HO:Hid (K.o=0∨K.o=1):=hk.st.1;have HB:=Go.Lib.hid hb;clear hb;have hk0:=hk;obtain⟨R0,hR0e⟩:∃R,yg 3099 K bs 0=R:=⟨_,rfl⟩;rw[hR0e] at HG0⊢;clear hR0e;go_enter Tryz.func240,Tryz.ntmps240;have hK0:Bk ((w.alloc (.cells (knC K A cap) 130)).alloc (.cells rdZ 217)) w.heap.size 130 (knC K A cap):=tBk;have hR0:Bk ((w.alloc (.cells (knC K A cap) 130)).alloc (.cells rdZ 217)) (w.heap.size+1) 217 rdZ:=tBk;have g0:Below w.heap.size w ((w.alloc (.cells (knC K A cap) 130)).alloc (.cells rdZ 217)):=zu;go_upto_region 1 with(fail)
 generalize(w.alloc (.cells (knC K A cap) 130)).alloc (.cells rdZ 217)=w0 at*;have hX0:=hK0.cell;have hz0':=hR0.lt;have hs0:=hs.below g0;go_wp2_with fail;refine(oK K A cap _ hlk hs0).mono ?_;rintro e w1 ⟨A1,cap1,rfl,o1,hb1⟩;have hz1':=hb1.size;have hK1:=(hK0.below hb1 oo).alloc (.cells (rdC K [] [] 1 0 A1 none none cap1 0 0) 217);have hR1:=(hR0.below hb1 oo).alloc (.cells (rdC K [] [] 1 0 A1 none none cap1 0 0) 217);have hN1:=Bk.new w1 (rdC K [] [] 1 0 A1 none none cap1 0 0) 217;have o2:=(zC (B':=w.heap.size+2) o1 oo).alloc (.cells (rdC K [] [] 1 0 A1 none none cap1 0 0) 217);have g1:=(g0.trans (hb1.mono oo)).alloc oo (.cells (rdC K [] [] 1 0 A1 none none cap1 0 0) 217);have hzW:w1.heap.size+1=(w1.alloc (.cells (rdC K [] [] 1 0 A1 none none cap1 0 0) 217)).heap.size:=(by simp);have hD1:uZ (w1.alloc (.cells (rdC K [] [] 1 0 A1 none none cap1 0 0) 217)) (w.heap.size+2) w1.heap.size K [] [] 1 0 A1 none none cap1 0 0:=⟨by omega,hN1,o2,⟨by simp,.inl ⟨rfl,rfl⟩⟩,⟨by simp,.inl ⟨rfl,rfl⟩⟩⟩;clear hb1 hK0 hR0 g0 hX0 hs0 o1 o2 hN1;go_upto_region 2 with(fail)
 have hfold:w1.alloc (.cells (rdC K [] [] 1 0 A1 none none cap1 0 0) 217)=w1.alloc (.cells (rdC K [] [] 1 0 A1 none none cap1 0 0) 217):=rfl;clear hfold;unfold rdC at hK1 hR1 hD1 g1 hzW;simp only[List.length_nil,Int.natCast_zero,Int.ofNat_zero] at hK1 hR1 hD1 g1 hzW;generalize w1.alloc (.cells #[.int .i64 K.o,.int .i64 K.l,.int .i64 K.m,.slice A1 K.ps.length cap1,.int .i64 K.base,.int .i64 K.last,.slice none 0 0,.slice none 0 0,.int .i64 1,.int .i64 0] 217)=W at*;have hG:=zI hK1.cell hK1.lt;have hRl:=hR1.lt;refine wp_region_quiet_below kr kr ?_;repeat(go_big_quiet_step ((first|(go_at_call 202;exact Calls.regrown_of (yX _ _ _ _ hst))|(go_at_call 200;exact Calls.regrown_of (xP _ _ _ _ hst)))))
 refine wpQuiet_nil ?_;intro w2 hw2;have hb2:Below _ _ w2:=zh hw2;clear hw2;have hz2':=hb2.size;have hK2:=hK1.below hb2 oo;have hR2:=hR1.below hb2 oo;have hD2:=hD1.keep hb2;have g2:=g1.trans (hb2.mono oo);clear hG hb2 hK1 hR1 hD1 g1 hs;have hrb1:w.heap.size+2≤w1.heap.size:=oo;generalize w1.heap.size=rb at*;have HST:=Go.Lib.hid (show K.cl=pow2 K.l from rfl);have hpw:=yZ K.l (hst.lm.1) (hst.lm.2.1);obtain⟨hpw1,hpw2⟩:=hpw;go_wp2_with fail;go_loopw [12] (fun _ wr=>∃(K':Kn) (cs:List Int) (d:Bs) (n f:Nat) (A' C' D':Option Addr) (cap' cc' cd':Nat),K'.ok∧Hid (K'.o=K.o∧K'.l=K.l)∧n≤bs.length∧d.length≤2000∧cs.length+f=3099∧Hid (R0=Rg.pre cs d n (yg f K' (bs.drop n) d.length))∧
  uZ wr (w.heap.size+2) rb K' cs d 1 n A' C' D' cap' cc' cd'∧Bk wr w.heap.size 130 (knC K A cap)∧Bk wr (w.heap.size+1) 217 rdZ∧Below w.heap.size w wr) (fun _ wr=>3100 - Xk wr rb 6)
 case atStart=>exact⟨K,[],[],0,3099,A1,none,none,cap1,0,0,hk,⟨rfl,rfl⟩,by omega,by simp,by simp,HG0,hD2,hK2,hR2,g2⟩
 case round=>
  obtain⟨K',cs,d,n,f,A',C',D',cap',cc',cd',hk',HKK,hn,hdl,hcf,HG,hD,hK,hR,hg⟩:=hrel;clear hD2 hK2 hR2 g2 HG0 hk hk0;have hmeas:=hD.Xk;have HMS:=Go.Lib.hid hmeas;clear hmeas;have hst':=hk'.st;have hwb:=lu hk';have hgb:=K'.uJ hk';have hbd':=hk'.bd;obtain⟨hwb1,hwb2⟩:=hwb;have hrl:=hR.lt;have hrbl:=hD.box.lt;have hX:=hD.box.cell;unfold rdC at hX;have cW:=Go.Lib.hid (fun w=>Y8 K' A' cap' w hk');have HR1:Hid (∀r,yR K' (bs.drop n) d.length= .error r→R0=Rg.pre cs d n r):=fun r h=>(by rw[HG.out,uU h]);have HR2:Hid (∀c,yR K' (bs.drop n) d.length= .ok c→f=0→R0=Rg.pre cs d n ⟨[c],K'.wd c,3,K'.width⟩):=fun c h h0=>(by rw[HG.out,h0,nY h]);have HR3:Hid (∀c f',yR K' (bs.drop n) d.length= .ok c→f=f'+1→R0=Rg.pre (cs++[c]) (d++K'.wd c) (n+K'.width) (yg f' (K'.step c) (bs.drop (n+K'.width)) (d++K'.wd c).length)):=fun c f' h h0=>by
   rw[HG.out,h0,oW h,Rg.QI,List.drop_drop,List.length_append]
  have HR0:Hid (yR K' (bs.drop n) d.length=if(bs.drop n).length<K'.width then .error ⟨[],[],1,0⟩ else
 if(numBits K'.o ((bs.drop n).take K'.width):Int)=K'.cl+1 then .error ⟨[(numBits K'.o ((bs.drop n).take K'.width):Int)],[],0,K'.width⟩ else
 if(numBits K'.o ((bs.drop n).take K'.width):Int)≠K'.cl∧K'.fol (numBits K'.o ((bs.drop n).take K'.width):Int)=false then .error ⟨[],[],2,K'.width⟩ else
 if 2000<d.length+(K'.wd (numBits K'.o ((bs.drop n).take K'.width):Int)).length then .error ⟨[],[],3,K'.width⟩ else .ok (numBits K'.o ((bs.drop n).take K'.width):Int)):=rfl
  clear HG;obtain⟨N,hN⟩:∃N,K'.width=N:=⟨_,rfl⟩;have cB:Hid (n+N≤bs.length→∀w,Calls Tryz.prog 257 #[.int .i64 K.o,.string ((⟨bs.toArray⟩:ByteArray).extract n (n+N))] w fun e w'=>e= .returned (.int .i64 (numBits K'.o ((bs.drop n).take N)))∧Below w.heap.size w w'):=fun h w=>by
   have hb:=HB.out;rw[MS,HKK.out.1];exact(Zg K.o _ w HO.out (by rw[List.length_take];omega) (sQ bs n N hb)).mono fun e w' ⟨h1,h2⟩=>⟨h1,by subst h2;exact Below.refl _ _⟩
  have hcb:((numBits K'.o ((bs.drop n).take N):Nat):Int)≤65535:=by
   have:=qW K'.o _ (sQ bs n N HB.out);have h2:2 ^ ((bs.drop n).take N).length≤2 ^ 16:=Nat.pow_le_pow_right (by omega) (by rw[List.length_take];omega);omega
  rw[hN] at HR0 HR2 HR3 hwb1 hwb2;have hcl':K'.cl=pow2 K.l:=(by unfold Kn.cl;rw[HKK.out.2]);have HCL':=Go.Lib.hid hcl';clear hcl';simp only[hN] at cW;clear hN;go_wp2_with fail;refine(cW.out _).mono ?_;rintro e w3 ⟨rfl,hb3⟩;have hz3:=hb3.size;have hD3:=hD.keep hb3;have hK3:=hK.below hb3 oo;have hR3:=hR.below hb3 oo;have g3:=hg.trans (hb3.mono oo);clear hb3 hX hD hK hR hg cW;by_cases hshort:bs.length - n<N
  ·have hE:R0=⟨cs,d,1,n⟩:=by
    rw[HR1.out ⟨[],[],1,0⟩ (by rw[HR0.out,if_pos (by simpa using hshort)])];simp [Rg.pre]
   have HE:=Go.Lib.hid hE;have hsi:(bs.length:Int) - n<N:=oo;clear HR0 HR1 HR2 HR3 cB hE;have hX3:=hD3.box.cell;have hF3:=hR3.free;have hY3:=hR3.cell;unfold rdC at hX3;go_wp2;have hQ:=(oI (cs0:=#[]) hR3 K' cs d 1 n A' C' D' cap' cc' cd').cell;have gQ:=uI g3 (b:=w.heap.size+1) oo K' cs d 1 n A' C' D' cap' cc' cd';have oQ:=jR hD3.dat (b:=w.heap.size+1) oo K' cs d 1 n A' C' D' cap' cc' cd';unfold rdC at hQ;try simp only[Int.natCast_add] at hQ
   try simp only[Exit.inBlock,Exit.then]
   refine bodyPost_ret (v:=.agg (rdC K' cs d 1 n A' C' D' cap' cc' cd')) (by simp [results,Tryz.results240,go_sem,hQ,rdC]) rfl ?_;clear hQ;have hE:=HE.out;rw[hE];exact⟨K',cs,n,A',C',D',cap',cc',cd',rfl,rfl,rfl,zC oQ oo,gQ⟩
  ·have hle:n+N≤bs.length:=oo
   have hsi:¬(bs.length:Int) - n<N:=oo;have hni0:(n:Int)+N≤bs.length:=oo;have hwn:IntKind.i64.wrap ((n:Int)+N)=(n:Int)+N:=IntWalk.i64_in _ oo;have htn:((n:Int)+(N:Int)).toNat=n+N:=oo;have hG:=zI hK3.cell hK3.lt;have hG2:=zI hD3.box.cell hD3.box.lt;have hX3:=hD3.box.cell;unfold rdC at hG2 hX3;obtain⟨c,hc⟩:∃c:Nat,numBits K'.o ((bs.drop n).take N)=c:=⟨_,rfl⟩;rw[hc] at HR0 cB hcb;have cB2:=cB.out hle;clear cB hc;go_wp2_with fail;refine wp_region_quiet_below kr kr ?_;repeat(go_big_quiet_step ((go_at_call 257;exact Calls.regrown_of (cB2 _))))
   refine wpQuiet_nil ?_;intro w4 hw2;have hb4:Below _ _ w4:=zh hw2;clear hw2;have hz4:=hb4.size;have hD4:=hD3.keep hb4;have hK4:=hK3.below hb4 oo;have hR4:=hR3.below hb4 oo;have g4:=g3.trans (hb4.mono oo);clear hb4 hX3 hD3 hK3 hR3 g3 hG hG2 cB2;have hX4:=hD4.box.cell;have hF4:=hD4.box.free;unfold rdC at hX4;have hrb4:=hD4.bB;have hD5:uZ (w4.setCell ⟨rb,9,none⟩ (.int .i64 ((n:Int)+N))) (w.heap.size+2) rb K' cs d 1 (n+N) A' C' D' cap' cc' cd':=by
    have h:=hD4.setAt (n+N)
    rwa [show((n+N:Nat):Int)=(n:Int)+N by omega] at h
   have hK5:=hK4.far (p:=⟨rb,9,none⟩) (by show w.heap.size≠rb;omega) (.int .i64 ((n:Int)+N));have hR5:=hR4.far (p:=⟨rb,9,none⟩) (by show w.heap.size+1≠rb;omega) (.int .i64 ((n:Int)+N));have g5:=g4.setCell (p:=⟨rb,9,none⟩) (by show w.heap.size≤rb;omega) (.int .i64 ((n:Int)+N));go_upto_region 8 with(fail)
   generalize w4.setCell ⟨rb,9,none⟩ (.int .i64 ((n:Int)+N))=w5 at*;clear hX4 hF4 hD4 hK4 hR4 g4;have hX5:=hD5.box.cell;unfold rdC at hX5;have hrb5:=hD5.box.lt;have cCF:=jl K' A' cap' (c:Int) w5 hk';go_wp2_with fail;refine cCF.mono ?_;rintro e w6 ⟨rfl,hb6⟩;have hz6:=hb6.size;have hD6:=hD5.keep hb6;have hK6:=hK5.below hb6 oo;have hR6:=hR5.below hb6 oo;have g6:=g5.trans (hb6.mono oo);clear hb6 hX5 hD5 hK5 hR5 g5 cCF;have hX6:=hD6.box.cell;have hF6:=hD6.box.free;unfold rdC at hX6;have hdrop:¬(bs.drop n).length<N:=(by simp;omega);by_cases hcf2:(c:Int)≤K'.great
   ·have hd:decide (0≤(c:Int)∧(c:Int)≤K'.great)=true:=decide_eq_true ⟨by omega,hcf2⟩
    obtain⟨i,hi,hz0,hz1,hz2⟩:=info_parts tK;have hm1:cs.length+1≤maxLen:=(by unfold maxLen;omega);have hm2:(cs.length+1)*8≤140737488355328:=oo;by_cases hend:(c:Int)=K'.cl+1
    ·have hE:R0=⟨cs++[(c:Int)],d,0,n+N⟩:=by
      rw[HR1.out ⟨[(c:Int)],[],0,N⟩ (by rw[HR0.out,if_neg hdrop,if_pos hend])];simp [Rg.pre]
     have HE:=Go.Lib.hid hE;have hec:((c:Int)==pow2 K.l+1)=true:=(by have h:=HCL'.out;rw[beq_iff_eq];omega);have oC:=hD6.cds;clear HR0 HR1 HR2 HR3 hE hdrop hwn htn hend;go_upto_region 19 with(fail)
     go_wp2_with(at_builtin;go_must(refine zN _ rfl _ _ 60 rfl (w.heap.size+2) 3 i _ 1 8 Tryz.underlying60 hi hz0 hz1 hz2 rfl (by omega) _ _ _ rfl (oC.alloc _) _ 1 1 [.int .i64 (c:Int)] rfl (Sl.newAt w6 #[.int .i64 (c:Int)] _ 1 1 (by first|rfl|simp) (by simp) (by omega)) (by simp [Value.oneCell']) hm1 hm2 ?_ ?_));try(case refine_1=>first|omega|(simp<;>omega;done))
     intro C8 cc8 w8 o8 hg8 _;have HVY:(cs++[(c:Int)]).length=cs.length+1:=(by simp);have o8':w8.ownsRow (w.heap.size+2) 3 1 (.slice C8 (cs++[(c:Int)]).length cc8) (cs++[(c:Int)]).length ((cs++[(c:Int)]).map iv):=(by rw[HVY,List.map_append];exact o8);rw[←HVY];generalize cs++[(c:Int)]=cs2 at*;have hD8:=hD6.code hg8 o8';have hB8:=hD6.RZ hg8;have hX8:=hB8.cell;have hF8:=hB8.free;unfold rdC at hX8;have hK8:=(Bk.grown (hK6.alloc _) hg8 (fun k hk=>by have:=(oC.lt k hk).1;omega)).far (p:=⟨rb,6,none⟩) (by show w.heap.size≠rb;omega) (.slice C8 cs2.length cc8);have hR8:=(Bk.grown (hR6.alloc _) hg8 (fun k hk=>by have:=(oC.lt k hk).1;omega)).far (p:=⟨rb,6,none⟩) (by show w.heap.size+1≠rb;omega) (.slice C8 cs2.length cc8);have g8:=((g6.alloc (by omega) _).grown hg8 (by simp;omega) (fun k hk=>by have:=(oC.lt k hk).1;omega)).setCell (p:=⟨rb,6,none⟩) (by show w.heap.size≤rb;omega) (.slice C8 cs2.length cc8);clear hX6 hF6 hD6 hK6 hR6 g6 oC o8 o8' hg8 HVY hB8;go_upto_region 20 with(fail)
     generalize w8.setCell ⟨rb,6,none⟩ (.slice C8 cs2.length cc8)=w9 at*;clear hX8 hF8;have hX9:=hD8.box.cell;have hF9:=hD8.box.free;unfold rdC at hX9;have hD10:=hD8.oN 0;have hK10:=hK8.far (p:=⟨rb,8,none⟩) (by show w.heap.size≠rb;omega) (.int .i64 0);have hR10:=hR8.far (p:=⟨rb,8,none⟩) (by show w.heap.size+1≠rb;omega) (.int .i64 0);have g10:=g8.setCell (p:=⟨rb,8,none⟩) (by show w.heap.size≤rb;omega) (.int .i64 0);go_upto_region 21 with(fail)
     generalize w9.setCell ⟨rb,8,none⟩ (.int .i64 0)=w10 at*;clear hX9 hF9 hD8 hK8 hR8 g8;have hX10:=hD10.box.cell;have hF10:=hR10.free;have hY10:=hR10.cell;unfold rdC at hX10;go_wp2;have hQ:=(oI (cs0:=#[]) hR10 K' cs2 d 0 (n+N) A' C8 D' cap' cc8 cd').cell;have gQ:=uI g10 (b:=w.heap.size+1) oo K' cs2 d 0 (n+N) A' C8 D' cap' cc8 cd';have oQ:=jR hD10.dat (b:=w.heap.size+1) oo K' cs2 d 0 (n+N) A' C8 D' cap' cc8 cd';unfold rdC at hQ;try simp only[Int.natCast_add] at hQ
     try simp only[Exit.inBlock,Exit.then]
     refine bodyPost_ret (v:=.agg (rdC K' cs2 d 0 (n+N) A' C8 D' cap' cc8 cd')) (by simp [results,Tryz.results240,go_sem,hQ,rdC]) rfl ?_;clear hQ;have hE:=HE.out;rw[hE];exact⟨K',cs2,(n+N),A',C8,D',cap',cc8,cd',rfl,rfl,rfl,zC oQ oo,gQ⟩
    ·have hec:((c:Int)==pow2 K.l+1)=false:=by have h:=HCL'.out;rw[beq_eq_false_iff_ne];omega
     have hnx:K'.nx=K'.cl+2+(K'.ps.length:Int):=rfl;have hfol:(c:Int)≠K'.cl→K'.fol (c:Int)=true:=fun h=>by
      unfold Kn.fol;rw[decide_eq_true_eq];by_cases hg:K'.gr=true
      ·unfold Kn.great at hcf2
       rw[if_pos hg] at hcf2;by_cases hx:(c:Int)=K'.nx
       ·exact .inr ⟨hg,hx⟩
       ·left;unfold codeOk;omega
      ·unfold Kn.great at hcf2
       rw[if_neg hg] at hcf2;left;unfold codeOk;omega
     have HFO:=Go.Lib.hid hfol;have hk2:=step_ok hk' hfol;have HK2:Hid ((K'.step (c:Int)).o=K'.o∧(K'.step (c:Int)).l=K'.l):=by
      show _∧_;unfold Kn.step;split
      ·exact⟨rfl,rfl⟩
      ·unfold Kn.after;split<;>exact⟨rfl,rfl⟩
     have HZ1:Hid (2000<d.length+(K'.wd (c:Int)).length→R0=⟨cs,d,3,n+N⟩):=fun h=>by
      rw[HR1.out ⟨[],[],3,N⟩ (by rw[HR0.out,if_neg hdrop,if_neg hend,if_neg (fun hh=>by rw[hfol hh.1] at hh;cases hh.2),if_pos h])];simp [Rg.pre]
     have HZ2:Hid (¬2000<d.length+(K'.wd (c:Int)).length→yR K' (bs.drop n) d.length= .ok (c:Int)):=fun h=>by
      rw[HR0.out,if_neg hdrop,if_neg hend,if_neg (fun hh=>by rw[hfol hh.1] at hh;cases hh.2),if_neg h]
     have hcl2:((c:Int)==pow2 K.l)=decide ((c:Int)=K'.cl):=(by have h:=HCL'.out;rw[h];rfl);have HC2:=Go.Lib.hid hcl2;clear HR0 HR1 hdrop hwn htn hend hfol hcl2 hnx;go_upto_block 2 with(fail)
     go_cut [13] (fun v wx=>v= .int .i64 (c:Int)∧∃A2 D2 cap2 cd2,d.length+(K'.wd (c:Int)).length≤2000∧uZ wx (w.heap.size+2) rb (K'.step (c:Int)) cs (d++K'.wd (c:Int)) 1 (n+N) A2 C' D2 cap2 cc' cd2∧Bk wx w.heap.size 130 (knC K A cap)∧Bk wx (w.heap.size+1) 217 rdZ∧Below w.heap.size w wx)
     case first=>
      clear hcf2 hd;by_cases hcc:(c:Int)=K'.cl
      ·have hcb:((c:Int)==pow2 K.l)=true:=by have h:=HCL'.out;rw[beq_iff_eq];omega
       have hwd:K'.wd (c:Int)=[]:=if_pos hcc;have hst2:K'.step (c:Int)=K'.cleared:=if_pos hcc;have HWD:=Go.Lib.hid hwd;have HST2:=Go.Lib.hid hst2;rw[hst2] at hk2;have cA2:=jo (w.heap.size+2) K' A' cap' 0 w6 hk' hD6.prs oo;rw[←hcc] at cA2;clear HZ1 HZ2 HFO HC2 hwd hst2 hcc HR2 HR3;generalize K'.cleared=K2 at*;go_wp2_with fail;refine cA2.mono ?_;rintro e w8 ⟨A8,c8,rfl,o8,kp8,hq8⟩;have hz8:=kp8.size;have hB8:=hD6.Wj kp8;have hX8:=hB8.cell;have hF8:=hB8.free;unfold rdC at hX8;have hD9:=hD6.know kp8 o8;have hK9:=Qb (b:=rb) (hK6.below (kp8.below oo) oo) oo K2 A8 c8;have hR9:=Qb (b:=rb) (hR6.below (kp8.below oo) oo) oo K2 A8 c8;have g9:=yj (b:=rb) (g6.trans ((kp8.below oo).mono oo)) oo K2 A8 c8;clear hX6 hF6 hD6 hK6 hR6 g6 kp8 o8 hq8 hB8 cA2;go_wp2_with fail;go_meet;rw[HWD.out,HST2.out];exact⟨rfl,A8,D',c8,cd',by simp;omega,by rw[List.append_nil];exact hD9,hK9,hR9,g9⟩
      ·have hcb:((c:Int)==pow2 K.l)=false:=by have h:=HCL'.out;rw[beq_eq_false_iff_ne];omega
       have hf:=HFO.out hcc;have hwd:K'.wd (c:Int)=K'.any (c:Int):=if_neg hcc;have hst2:K'.step (c:Int)=K'.after (c:Int):=if_neg hcc;rw[hwd] at HZ1 HZ2;have HWD:=Go.Lib.hid hwd;have HST2:=Go.Lib.hid hst2;rw[hst2] at hk2;have hal:=K'.rE hk' hf;have cW:=iQ K' A' cap' (c:Int) w6 hk' (Sl.own hD6.prs) hf;have cA:Hid (∀w7:World,w7.ownsRow (w.heap.size+2) 207 2 (.slice A' K'.ps.length cap') K'.ps.length (psV K'.ps)→w.heap.size+2≤w7.heap.size→Calls Tryz.prog 259 #[knV K' A' cap',.int .i64 (c:Int),.int .u8 (byteAt (K'.any (c:Int)) 0)] w7 (Qi (w.heap.size+2) (.slice A' K'.ps.length cap') (K'.after (c:Int)) w7)):=fun w7 ho hB=>iJ (w.heap.size+2) K' A' cap' (c:Int) _ w7 hk' ho hB hf (oO _).symm;clear HZ2 HFO HC2 hwd hst2 hcc hf HR2 HR3;generalize K'.any (c:Int)=T at*;generalize K'.after (c:Int)=K2 at*;obtain⟨hal1,hal2⟩:=hal;go_wp2_with fail;refine cW.mono ?_;rintro e w8 ⟨rfl,hb8⟩;have hz8:=hb8.size;have hD8:=hD6.keep hb8;have hK8:=hK6.below hb8 oo;have hR8:=hR6.below hb8 oo;have g8:=g6.trans (hb8.mono oo);clear hb8 hX6 hF6 hD6 hK6 hR6 g6 cW;have hX8:=hD8.box.cell;have hF8:=hD8.box.free;unfold rdC at hX8;have hrb8:=hD8.box.lt;by_cases hbig:2000<d.length+T.length
       ·have hbi:(2000:Int)<(d.length:Int)+T.length:=oo
        have HE:=Go.Lib.hid (HZ1.out hbig);have hD7:=hD8.oN 3;have hK7:=hK8.far (p:=⟨rb,8,none⟩) (by show w.heap.size≠rb;omega) (.int .i64 3);have hR7:=hR8.far (p:=⟨rb,8,none⟩) (by show w.heap.size+1≠rb;omega) (.int .i64 3);have g7:=g8.setCell (p:=⟨rb,8,none⟩) (by show w.heap.size≤rb;omega) (.int .i64 3);clear HZ1 cA;go_upto_region 15 with(fail)
        generalize w8.setCell ⟨rb,8,none⟩ (.int .i64 3)=w7 at*;clear hX8 hF8 hD8 hK8 hR8 g8;have hX7:=hD7.box.cell;have hF7:=hR7.free;have hY7:=hR7.cell;unfold rdC at hX7;go_wp2;have hQ:=(oI (cs0:=#[]) hR7 K' cs d 3 (n+N) A' C' D' cap' cc' cd').cell;have gQ:=uI g7 (b:=w.heap.size+1) oo K' cs d 3 (n+N) A' C' D' cap' cc' cd';have oQ:=jR hD7.dat (b:=w.heap.size+1) oo K' cs d 3 (n+N) A' C' D' cap' cc' cd';unfold rdC at hQ;try simp only[Int.natCast_add] at hQ
        try simp only[Exit.inBlock,Exit.then]
        refine bodyPost_ret (v:=.agg (rdC K' cs d 3 (n+N) A' C' D' cap' cc' cd')) (by simp [results,Tryz.results240,go_sem,hQ,rdC]) rfl ?_;clear hQ;have hE:=HE.out;rw[hE];exact⟨K',cs,(n+N),A',C',D',cap',cc',cd',rfl,rfl,rfl,zC oQ oo,gQ⟩
       ·have hbi:¬(2000:Int)<(d.length:Int)+T.length:=oo
        obtain⟨j,hj,jz0,jz1,jz2⟩:=info_parts wI;have oD:=hD8.dat;have ht1:d.length+T.length≤maxLen:=(by unfold maxLen;omega);have ht2:d.length+T.length≤140737488355328:=oo;clear HZ1;go_wp2_with(at_builtin;go_must(refine jZ rfl (.tmp 76) (.tmp 77) 22 9 rfl (w.heap.size+2) 5 j Tryz.underlying22 Tryz.underlying9 hj jz0 jz1 jz2 (.slice D' d.length cd') d.length (d.map u8v) rfl oD T rfl ht1 ht2 oo ?_));intro D9 cd9 w9 o9 hg9;have HVY:(d++T).length=d.length+T.length:=(by simp);have o9':w9.ownsRow (w.heap.size+2) 5 1 (.slice D9 (d++T).length cd9) (d++T).length ((d++T).map u8v):=(by rw[HVY,List.map_append];exact o9);rw[←HVY];have HTL:=Go.Lib.hid (show d.length+T.length≤2000 by omega);have hT0:(0:Int)<T.length:=oo;have hT0n:0<T.length:=oo;obtain⟨d2,hd2⟩:∃d2,d++T=d2:=⟨_,rfl⟩;rw[hd2] at o9'⊢;have HDD:=Go.Lib.hid hd2;clear hd2 HVY o9 hbig hbi ht1 ht2;have hD9:=hD8.text hg9 o9';have hB9:=hD8.LW hg9;have hX9:=hB9.cell;have hF9:=hB9.free;unfold rdC at hX9;have hK9:=(hK8.grown hg9 (fun k hk=>by have:=(oD.lt k hk).1;omega)).far (p:=⟨rb,7,none⟩) (by show w.heap.size≠rb;omega) (.slice D9 d2.length cd9);have hR9:=(hR8.grown hg9 (fun k hk=>by have:=(oD.lt k hk).1;omega)).far (p:=⟨rb,7,none⟩) (by show w.heap.size+1≠rb;omega) (.slice D9 d2.length cd9);have g9:=(g8.grown hg9 oo (fun k hk=>by have:=(oD.lt k hk).1;omega)).setCell (p:=⟨rb,7,none⟩) (by show w.heap.size≤rb;omega) (.slice D9 d2.length cd9);clear hX8 hF8 hD8 hK8 hR8 g8 oD o9' hg9 hB9;go_upto_region 17 with(fail)
        generalize w9.setCell ⟨rb,7,none⟩ (.slice D9 d2.length cd9)=w10 at*;clear hX9 hF9;have hX10:=hD9.box.cell;unfold rdC at hX10;have hrb10:=hD9.box.lt;have HL:Hid (∀w',Below w10.heap.size w10 w'→(w'.cell? ⟨rb,0,none⟩=some (.int .i64 K'.o)∧w'.cell? ⟨rb,1,none⟩=some (.int .i64 K'.l)∧w'.cell? ⟨rb,2,none⟩=some (.int .i64 K'.m)∧w'.cell? ⟨rb,3,none⟩=some (.slice A' K'.ps.length cap')∧w'.cell? ⟨rb,4,none⟩=some (.int .i64 K'.base)∧w'.cell? ⟨rb,5,none⟩=some (.int .i64 K'.last))):=fun w' h=>⟨(h.cell (p:=⟨_,_,_⟩) oB).trans (hX10 0),(h.cell (p:=⟨_,_,_⟩) oB).trans (hX10 1),(h.cell (p:=⟨_,_,_⟩) oB).trans (hX10 2),(h.cell (p:=⟨_,_,_⟩) oB).trans (hX10 3),(h.cell (p:=⟨_,_,_⟩) oB).trans (hX10 4),(h.cell (p:=⟨_,_,_⟩) oB).trans (hX10 5)⟩;clear hX10;refine yY 7 (fun w'=>w'.cell? ⟨rb,0,none⟩=some (.int .i64 K'.o)∧w'.cell? ⟨rb,1,none⟩=some (.int .i64 K'.l)∧w'.cell? ⟨rb,2,none⟩=some (.int .i64 K'.m)∧w'.cell? ⟨rb,3,none⟩=some (.slice A' K'.ps.length cap')∧w'.cell? ⟨rb,4,none⟩=some (.int .i64 K'.base)∧w'.cell? ⟨rb,5,none⟩=some (.int .i64 K'.last)) kr kr (by first|(exact HL.out _ wL)|go_keep) (fun hSS=> ?_);simp only[List.take_succ_cons,List.take_zero];refine tk 0 ?_;try simp only[Act.put,u2,u3,u4]
        refine tk 1 ?_;try simp only[Act.put,u2,u3,u4]
        refine tk 2 ?_;try simp only[Act.put,u2,u3,u4]
        refine tk 3 ?_;try simp only[Act.put,u2,u3,u4]
        refine rd1 4 fun KK hKK=> ?_;go_simp;refine hKK.out _ _ (by first|(exact HL.out _ wL)|go_keep) fun hSS=> ?_;try simp only[Act.put,u2,u3,u4]
        refine rd1 5 fun KK hKK=> ?_;go_simp
        (go_at_call 259;refine(cA.out _ (hD9.keep yL).prs (by first|omega|(simp;omega))).mono ?_;rintro e w11 ⟨A11,c11,rfl,o11,kp11,hq11⟩;have kp11:=Kept.Tn kp11;have hB11:=hD9.Wj kp11;have hX11:=hB11.cell;have hF11:=hB11.free;have hs11:=kp11.size;unfold rdC at hX11)
        refine hKK.out _ _ (by first|(exact HL.out _ wL)|go_keep) fun hSS=> ?_;try simp only[Act.put,u2,u3,u4]
        refine tk 6 ?_;try simp only[Act.put,u2,u3,u4]
        refine wpAnyH_done kr ?_ _;refine yD ?_;refine wpOp_step (o:=_) rfl (fun KK hKK=> ?_);go_simp;refine hKK _ _ (NoPanic.normal ?_);try simp only[Act.put,u2,u3,u4]
        have hD12:=hD9.know kp11 o11;have hK12:=Qb (b:=rb) (hK9.below (kp11.below oo) oo) oo K2 A11 c11;have hR12:=Qb (b:=rb) (hR9.below (kp11.below oo) oo) oo K2 A11 c11;have g12:=yj (b:=rb) (g9.trans ((kp11.below oo).mono oo)) oo K2 A11 c11;clear hD9 hK9 hR9 g9 kp11 o11 hq11 hB11 hX11 hF11 cA;go_wp2_with fail;go_meet;rw[HWD.out,HST2.out,HDD.out];exact⟨rfl,A11,D9,c11,cd9,HTL.out,hD12,hK12,hR12,g12⟩
     case rest=>
      obtain⟨rfl,A2,D2,cap2,cd2,hdl2,hD,hK,hR,hg⟩:=hcut;have HOK:=HZ2.out oo;have hdl3:(d++K'.wd (c:Int)).length≤2000:=(by simp;omega);have HE0:Hid (f=0→R0=⟨cs++[(c:Int)],d++K'.wd (c:Int),3,n+N⟩):=fun h=>by
       rw[HR2.out _ HOK h];simp [Rg.pre]
      have HE1:Hid (∀f',f=f'+1→R0=Rg.pre (cs++[(c:Int)]) (d++K'.wd (c:Int)) (n+N) (yg f' (K'.step (c:Int)) (bs.drop (n+N)) (d++K'.wd (c:Int)).length)):=fun f' h=>HR3.out _ f' HOK h;have HKK2:Hid ((K'.step (c:Int)).o=K.o∧(K'.step (c:Int)).l=K.l):=by
       show _∧_;rw[HK2.out.1,HK2.out.2];exact HKK.out
      clear HOK HR2 HR3 HZ1 HZ2 HK2 HFO HC2 hdl2 hX6 hF6 hD6 hK6 hR6 g6 hcf2 hd hec;generalize K'.step (c:Int)=K2 at*;generalize d++K'.wd (c:Int)=d2 at*;have oC:=hD.cds;have hXc:=hD.box.cell;have hFc:=hD.box.free;unfold rdC at hXc;have hrbc:=hD.box.lt;go_wp2_with(at_builtin;go_must(refine zN _ rfl _ _ 60 rfl (w.heap.size+2) 3 i _ 1 8 Tryz.underlying60 hi hz0 hz1 hz2 rfl (by omega) _ _ _ rfl (oC.alloc _) _ 1 1 [.int .i64 (c:Int)] rfl (Sl.newAt wc #[.int .i64 (c:Int)] _ 1 1 (by first|rfl|simp) (by simp) (by omega)) (by simp [Value.oneCell']) hm1 hm2 ?_ ?_));try(case refine_1=>first|omega|(simp<;>omega;done))
      intro C8 cc8 w8 o8 hg8 _;have HVY:(cs++[(c:Int)]).length=cs.length+1:=(by simp);have o8':w8.ownsRow (w.heap.size+2) 3 1 (.slice C8 (cs++[(c:Int)]).length cc8) (cs++[(c:Int)]).length ((cs++[(c:Int)]).map iv):=(by rw[HVY,List.map_append];exact o8);rw[←HVY];generalize cs++[(c:Int)]=cs2 at*;have HVH:=Go.Lib.hid HVY;have hD8:=hD.code hg8 o8';have hB8:=hD.RZ hg8;have hX8:=hB8.cell;have hF8:=hB8.free;unfold rdC at hX8;have hK8:=(Bk.grown (hK.alloc _) hg8 (fun k hk=>by have:=(oC.lt k hk).1;omega)).far (p:=⟨rb,6,none⟩) (by show w.heap.size≠rb;omega) (.slice C8 cs2.length cc8);have hR8:=(Bk.grown (hR.alloc _) hg8 (fun k hk=>by have:=(oC.lt k hk).1;omega)).far (p:=⟨rb,6,none⟩) (by show w.heap.size+1≠rb;omega) (.slice C8 cs2.length cc8);have g8:=((hg.alloc (by omega) _).grown hg8 (by simp;omega) (fun k hk=>by have:=(oC.lt k hk).1;omega)).setCell (p:=⟨rb,6,none⟩) (by show w.heap.size≤rb;omega) (.slice C8 cs2.length cc8);clear hXc hFc hD hK hR hg oC o8 o8' hg8 HVY hB8;go_upto_region 25 with(fail)
      generalize w8.setCell ⟨rb,6,none⟩ (.slice C8 cs2.length cc8)=w9 at*;clear hX8 hF8;have hX9:=hD8.box.cell;have hF9:=hD8.box.free;have hrb9:=hD8.box.lt;unfold rdC at hX9;by_cases hf0:f=0
      ·have hci:(3100:Int)≤cs2.length:=by have:=HVH.out;omega
       have hcn:3100≤cs2.length:=oo;have hcu:(cs2.length:Int)≤3100:=(by have:=HVH.out;omega);have HE:=Go.Lib.hid (HE0.out hf0);have hD10:=hD8.oN 3;have hK10:=hK8.far (p:=⟨rb,8,none⟩) (by show w.heap.size≠rb;omega) (.int .i64 3);have hR10:=hR8.far (p:=⟨rb,8,none⟩) (by show w.heap.size+1≠rb;omega) (.int .i64 3);have g10:=g8.setCell (p:=⟨rb,8,none⟩) (by show w.heap.size≤rb;omega) (.int .i64 3);clear HE0 HE1 hf0;go_upto_region 27 with(fail)
       generalize w9.setCell ⟨rb,8,none⟩ (.int .i64 3)=w10 at*;clear hX9 hF9 hD8 hK8 hR8 g8;have hX10:=hD10.box.cell;have hF10:=hR10.free;have hY10:=hR10.cell;unfold rdC at hX10;go_wp2;have hQ:=(oI (cs0:=#[]) hR10 K2 cs2 d2 3 (n+N) A2 C8 D2 cap2 cc8 cd2).cell;have gQ:=uI g10 (b:=w.heap.size+1) oo K2 cs2 d2 3 (n+N) A2 C8 D2 cap2 cc8 cd2;have oQ:=jR hD10.dat (b:=w.heap.size+1) oo K2 cs2 d2 3 (n+N) A2 C8 D2 cap2 cc8 cd2;unfold rdC at hQ;try simp only[Int.natCast_add] at hQ
       try simp only[Exit.inBlock,Exit.then]
       refine bodyPost_ret (v:=.agg (rdC K2 cs2 d2 3 (n+N) A2 C8 D2 cap2 cc8 cd2)) (by simp [results,Tryz.results240,go_sem,hQ,rdC]) rfl ?_;clear hQ;have hE:=HE.out;rw[hE];exact⟨K2,cs2,(n+N),A2,C8,D2,cap2,cc8,cd2,rfl,rfl,rfl,zC oQ oo,gQ⟩
      ·obtain⟨f',hff⟩:∃f',f=f'+1:=⟨f - 1,oo⟩
       have hci:¬(3100:Int)≤cs2.length:=(by have:=HVH.out;omega);have hcn:¬3100≤cs2.length:=oo;have HE:=Go.Lib.hid (HE1.out f' hff);have HF:=Go.Lib.hid hff;clear HE0 HE1 hff hf0;go_wp2_with fail;go_roundw
       case rel=>exact⟨K2,cs2,d2,n+N,f',A2,C8,D2,cap2,cc8,cd2,hk2,HKK2,oo,hdl3,by have:=HVH.out;have:=HF.out;omega,HE,hD8,hK8,hR8,g8⟩
       case measure=>rw[HMS.out,hD8.Xk];have:=HVH.out;have:=HF.out;omega
   ·have hd:decide (0≤(c:Int)∧(c:Int)≤K'.great)=false:=decide_eq_false (fun h=>hcf2 h.2)
    have hd2:decide ((c:Int)≤K'.great)=false:=decide_eq_false hcf2;have hE:R0=⟨cs,d,2,n+N⟩:=by
     have hfo:K'.fol (c:Int)=false:=by
      cases hf:K'.fol (c:Int) with
      |false=>rfl
      |true=>
       exfalso;unfold Kn.fol at hf;simp only[decide_eq_true_eq] at hf;rcases hf with hf|⟨h1,h2⟩
       ·unfold codeOk at hf;omega
       ·unfold Kn.great at hcf2;rw[if_pos h1] at hcf2;omega
     rw[HR1.out ⟨[],[],2,N⟩ (by rw[HR0.out,if_neg hdrop,if_neg (by omega),if_pos ⟨by omega,hfo⟩])];simp [Rg.pre]
    have HE:=Go.Lib.hid hE;have hD7:=hD6.oN 2;have hK7:=hK6.far (p:=⟨rb,8,none⟩) (by show w.heap.size≠rb;omega) (.int .i64 2);have hR7:=hR6.far (p:=⟨rb,8,none⟩) (by show w.heap.size+1≠rb;omega) (.int .i64 2);have g7:=g6.setCell (p:=⟨rb,8,none⟩) (by show w.heap.size≤rb;omega) (.int .i64 2);clear HR0 HR1 HR2 HR3 hE hdrop hwn htn;go_upto_region 10 with(fail)
    generalize w6.setCell ⟨rb,8,none⟩ (.int .i64 2)=w7 at*;clear hX6 hF6 hD6 hK6 hR6 g6;have hX7:=hD7.box.cell;have hF7:=hR7.free;have hY7:=hR7.cell;unfold rdC at hX7;go_wp2;have hQ:=(oI (cs0:=#[]) hR7 K' cs d 2 (n+N) A' C' D' cap' cc' cd').cell;have gQ:=uI g7 (b:=w.heap.size+1) oo K' cs d 2 (n+N) A' C' D' cap' cc' cd';have oQ:=jR hD7.dat (b:=w.heap.size+1) oo K' cs d 2 (n+N) A' C' D' cap' cc' cd';unfold rdC at hQ;try simp only[Int.natCast_add] at hQ
    try simp only[Exit.inBlock,Exit.then]
    refine bodyPost_ret (v:=.agg (rdC K' cs d 2 (n+N) A' C' D' cap' cc' cd')) (by simp [results,Tryz.results240,go_sem,hQ,rdC]) rfl ?_;clear hQ;have hE:=HE.out;rw[hE];exact⟨K',cs,(n+N),A',C',D',cap',cc',cd',rfl,rfl,rfl,zC oQ oo,gQ⟩
def L6 (x:Bs×Int×Int)(w:World)(e:Ending)(w':World):Prop:=∃K cs n A C D cap cc cd,e= .returned (.tuple #[.agg (rdC K cs x.1 x.2.1 n A C D cap cc cd),.int .i64 x.2.2])∧w'.ownsRow w.heap.size 5 1 (.slice D x.1.length cd) x.1.length (x.1.map u8v)∧Below w.heap.size w w'
theorem Mc {w:World}{B b:Nat}{e:TypeId}{s m:Nat}{v:Value}{xs:List Value}(h:w.ownsRow B e s v m xs)(n0:∀k,v.ownBlock=some k→k≠b)(K:Kn)(cs:List Int)(d:Bs)(fin:Int)(n:Nat)(A C D:Option Addr)(cap cc cd:Nat):((((((((((w.setCell ⟨b,0,none⟩ (.int .i64 K.o)).setCell ⟨b,1,none⟩ (.int .i64 K.l)).setCell ⟨b,2,none⟩ (.int .i64 K.m)).setCell ⟨b,3,none⟩ (.slice A K.ps.length cap)).setCell ⟨b,4,none⟩ (.int .i64 K.base)).setCell ⟨b,5,none⟩ (.int .i64 K.last)).setCell ⟨b,6,none⟩ (.slice C cs.length cc)).setCell ⟨b,7,none⟩ (.slice D d.length cd)).setCell ⟨b,8,none⟩ (.int .i64 fin)).setCell ⟨b,9,none⟩ (.int .i64 (n:Int))).ownsRow B e s v m xs:=by
 iterate 10 refine zH ?_ n0 _
 exact h
theorem TZ (K:Kn)(A:Option Addr)(cap:Nat)(l:Bs)(w:World)(hk:K.ok)(hs:Sl w A K.ps.length cap 2 (psV K.ps))(hll:l.length≤1000000):
 Calls Tryz.prog 208 #[knV K A cap,sv l] w (L6 (uP K l) w):=by
 have hst:=hk.st;have HO:Hid (K.o=0∨K.o=1):=hk.st.1;have cKV:=fun w hs=>wU K A cap w hk hs;obtain⟨R,hRe⟩:∃R,uP K l=R:=⟨_,rfl⟩;rw[hRe];have HR:=Go.Lib.hid hRe;clear hRe;go_enter Tryz.func208,Tryz.ntmps208;have hK0:Bk ((w.alloc (.cells (knC K A cap) 130)).alloc (.cells rdZ 217)) w.heap.size 130 (knC K A cap):=tBk;have hR0:Bk ((w.alloc (.cells (knC K A cap) 130)).alloc (.cells rdZ 217)) (w.heap.size+1) 217 rdZ:=tBk;have g0:Below w.heap.size w ((w.alloc (.cells (knC K A cap) 130)).alloc (.cells rdZ 217)):=zu;go_upto_region 1 with(fail)
 generalize(w.alloc (.cells (knC K A cap) 130)).alloc (.cells rdZ 217)=w0 at*;have hX0:=hK0.cell;have hz0:=hR0.lt;have hs0:=hs.below g0;go_wp2_with fail;refine(cKV _ hs0).mono ?_;rintro e w1 ⟨rfl,hb1⟩;have hz1:=hb1.size;have hK1:=hK0.below hb1 oo;have hR1:=hR0.below hb1 oo;have hs1:=hs0.below hb1;have g1:=g0.trans (hb1.mono oo);clear hb1 hK0 hR0 hX0 hs0 hs g0 cKV;by_cases hbig:4000<l.length
 ·have hbi:(4000:Int)<l.length:=oo
  have hE:R=([],4,0):=by
   rw[←HR.out];unfold uP;rw[if_pos hbig]
  clear HR;subst hE;have hX1:=hR1.cell;have hF1:=hR1.free;have hQ:=(oI (cs0:=#[]) hR1 ⟨0,0,0,[],0,0⟩ [] [] 4 0 none none none 0 0 0).cell;have gQ:=uI g1 (b:=w.heap.size+1) oo ⟨0,0,0,[],0,0⟩ [] [] 4 0 none none none 0 0 0;unfold rdC at hQ;simp only[List.length_nil,Int.natCast_zero,Int.ofNat_zero] at hQ gQ;go_wp2;try simp only[Exit.inBlock,Exit.then]
  refine bodyPost_ret (v:=.tuple #[.agg (rdC ⟨0,0,0,[],0,0⟩ [] [] 4 0 none none none 0 0 0),.int .i64 0]) (by simp [results,Tryz.results208,go_sem,hQ,rdC]) rfl ?_;exact⟨⟨0,0,0,[],0,0⟩,[],0,none,none,none,0,0,0,rfl,⟨by simp,.inl ⟨rfl,rfl⟩⟩,gQ⟩
 ·have hbi:¬(4000:Int)<l.length:=oo
  have hlb:=tN K.o l;have hbb:=fJ K.o l;have cU:=Go.Lib.hid (fun w=>ah K.o l w HO.out oo);have cR:=Go.Lib.hid (fun w hs=>YR K A cap (zM K.o l) w hk hs hbb oo);have HR2:Hid (R.1=(yg 3099 K (zM K.o l) 0).d∧R.2.1=(yg 3099 K (zM K.o l) 0).fin∧R.2.2=if(yg 3099 K (zM K.o l) 0).fin=1 then(l.length:Int) else(((yg 3099 K (zM K.o l) 0).use+7) / 8:Nat)):=by
   show _∧_∧_;rw[←HR.out];unfold uP;rw[if_neg hbig];exact⟨rfl,rfl,rfl⟩
  have hrb:(yg 3099 K (zM K.o l) 0).d.length≤2000∧(yg 3099 K (zM K.o l) 0).use≤32000∧0≤(yg 3099 K (zM K.o l) 0).fin∧(yg 3099 K (zM K.o l) 0).fin≤3:=by
   have h:=dL 3099 K (zM K.o l) 0 oo;exact⟨by omega,oo,h.2.2.2.1,h.2.2.2.2⟩
  have HRB:=Go.Lib.hid hrb;clear HR hbb hlb hrb;unfold Kq at cR;generalize yg 3099 K (zM K.o l) 0=r at*;generalize zM K.o l=u at*;obtain⟨x,fi,us⟩:=R;simp only at HR2;have hX1:=hK1.cell;have hY1:=hR1.cell;have hz1':=hR1.lt;have HL:Hid (∀w',Below w1.heap.size w1 w'→(w'.cell? ⟨w.heap.size,0,none⟩=some (.int .i64 K.o)∧w'.cell? ⟨w.heap.size,1,none⟩=some (.int .i64 K.l)∧w'.cell? ⟨w.heap.size,2,none⟩=some (.int .i64 K.m)∧w'.cell? ⟨w.heap.size,3,none⟩=some (.slice A K.ps.length cap)∧w'.cell? ⟨w.heap.size,4,none⟩=some (.int .i64 K.base)∧w'.cell? ⟨w.heap.size,5,none⟩=some (.int .i64 K.last)∧Below w1.heap.size w1 w')):=fun w' h=>⟨(h.cell (p:=⟨_,_,_⟩) oB).trans (hX1 0),(h.cell (p:=⟨_,_,_⟩) oB).trans (hX1 1),(h.cell (p:=⟨_,_,_⟩) oB).trans (hX1 2),(h.cell (p:=⟨_,_,_⟩) oB).trans (hX1 3),(h.cell (p:=⟨_,_,_⟩) oB).trans (hX1 4),(h.cell (p:=⟨_,_,_⟩) oB).trans (hX1 5),h⟩;clear hX1 hY1;go_upto_region 3 with(fail)
  go_cut [6] (fun v wx=>∃gb K3 cs3 A3 C3 D3 p3 q3 r3,v= .pointer (some ⟨gb,0,none⟩)∧w.heap.size+2≤gb∧Bk wx gb 217 (rdC K3 cs3 r.d r.fin r.use A3 C3 D3 p3 q3 r3)∧wx.ownsRow w.heap.size 5 1 (.slice D3 r.d.length r3) r.d.length (r.d.map u8v)∧Below w1.heap.size w1 wx)
  case first=>
   refine wp_region_held_drew (S:=(fun w'=>w'.cell? ⟨w.heap.size,0,none⟩=some (.int .i64 K.o)∧w'.cell? ⟨w.heap.size,1,none⟩=some (.int .i64 K.l)∧w'.cell? ⟨w.heap.size,2,none⟩=some (.int .i64 K.m)∧w'.cell? ⟨w.heap.size,3,none⟩=some (.slice A K.ps.length cap)∧w'.cell? ⟨w.heap.size,4,none⟩=some (.int .i64 K.base)∧w'.cell? ⟨w.heap.size,5,none⟩=some (.int .i64 K.last)∧Below w1.heap.size w1 w')) kr ?_ (fun hSS=> ?_);focus(exact HL.out _ yL)
   refine tk 0 ?_;try simp only[Act.put,u2,u3,u4]
   refine tk 1 ?_;try simp only[Act.put,u2,u3,u4]
   refine tk 2 ?_;try simp only[Act.put,u2,u3,u4]
   refine tk 3 ?_;try simp only[Act.put,u2,u3,u4]
   refine tk 4 ?_;try simp only[Act.put,u2,u3,u4]
   refine wpAnyH_ready (rs:=[5,7]) (by kernel_rfl) (by simp) ?_;refine(AllReadyH.cons (o:=_) rfl (fun KK hKK=> ?_) (AllReadyH.cons (o:=_) rfl (fun KK hKK=> ?_) AllReadyH.nil))
   ·
    go_simp
    (go_at_call 241;refine(cU.out _).mono ?_;rintro e w2 ⟨rfl,hb2⟩;have hb2:Below w1.heap.size w1 w2:=zG hb2;have hz2:=hb2.size)
    refine hKK.out _ _ (HL.out _ yL) fun hSS=> ?_;try simp only[Act.put,u2,u3,u4]
    refine wpAnyH_ready (rs:=[6,7]) (by kernel_rfl) (by simp) ?_;refine(AllReadyH.cons (o:=_) rfl (fun KK hKK=> ?_) (AllReadyH.cons (o:=_) rfl (fun KK hKK=> ?_) AllReadyH.nil))
    ·
     go_simp
     (go_at_call 240;refine(cR.out _ (hs1.below hb2)).mono ?_;rintro e w3 ⟨K3,_,_,A3,C3,D3,p3,q3,r3,rfl,rfl,rfl,o3,hb3⟩;have hz3:=hb3.size;have hb4:=hb2.trans (hb3.mono hz2);unfold rdC)
     refine hKK.out _ _ (HL.out _ yL) fun hSS=> ?_;try simp only[Act.put,u2,u3,u4]
     refine rd1 7 fun KK hKK=> ?_;go_simp;refine hKK.out _ _ (HL.out _ yL) fun hSS=> ?_;try simp only[Act.put,u2,u3,u4]
     refine rd1 8 fun KK hKK=> ?_;go_simp;refine hKK.out _ _ (HL.out _ yL) fun hSS=> ?_;try simp only[Act.put,u2,u3,u4]
     refine wpAnyH_done kr ?_ _;go_wp2_with fail;go_meet;exact⟨_,K3,_,A3,C3,D3,p3,q3,r3,rfl,oo,Bk.new _ _ _,zC (o3.alloc _) oo,yL⟩
    ·
     go_simp;refine hKK.out _ _ (HL.out _ yL) fun hSS=> ?_;try simp only[Act.put,u2,u3,u4]
     refine rd1 6 fun KK hKK=> ?_;go_simp
     (go_at_call 240;refine(cR.out _ ((hs1.below hb2).alloc _)).mono ?_;rintro e w3 ⟨K3,_,_,A3,C3,D3,p3,q3,r3,rfl,rfl,rfl,o3,hb3⟩;have hz3:=hb3.size;simp only[World.size_alloc] at hz3;have hB3:=Bk.below (Bk.new w2 rdZ 217) hb3 (by simp);have hX3:=hB3.cell;have hF3:=hB3.free;have hb4:=(hb2.alloc hz2 (.cells rdZ 217)).trans (hb3.mono (by simp;omega));unfold rdC)
     refine hKK.out _ _ (HL.out _ yL) fun hSS=> ?_;try simp only[Act.put,u2,u3,u4]
     refine rd1 8 fun KK hKK=> ?_;go_simp;refine hKK.out _ _ (HL.out _ yL) fun hSS=> ?_;try simp only[Act.put,u2,u3,u4]
     refine wpAnyH_done kr ?_ _;go_wp2_with fail;go_meet;exact⟨_,K3,_,A3,C3,D3,p3,q3,r3,rfl,by omega,oI (cs0:=#[]) hB3 _ _ _ _ _ _ _ _ _ _ _,zC (jR o3 (by simp) _ _ _ _ _ _ _ _ _ _ _) (by simp;omega),uI hb4 (by omega) _ _ _ _ _ _ _ _ _ _ _⟩
   ·
    go_simp;refine hKK.out _ _ (HL.out _ yL) fun hSS=> ?_;try simp only[Act.put,u2,u3,u4]
    refine rd1 5 fun KK hKK=> ?_;go_simp
    (go_at_call 241;refine(cU.out _).mono ?_;rintro e w2 ⟨rfl,hb2⟩;have hB2:=Bk.below (Bk.new w1 rdZ 217) (zG hb2) (by simp);have hb2:Below w1.heap.size w1 w2:=((Below.refl _ w1).alloc (Nat.le_refl _) (.cells rdZ 217)).trans ((zG hb2).mono (by simp));have hz2:=hb2.size;have hl2:=hB2.lt)
    refine hKK.out _ _ (HL.out _ yL) fun hSS=> ?_;try simp only[Act.put,u2,u3,u4]
    refine rd1 6 fun KK hKK=> ?_;go_simp
    (go_at_call 240;refine(cR.out _ (hs1.below hb2)).mono ?_;rintro e w3 ⟨K3,_,_,A3,C3,D3,p3,q3,r3,rfl,rfl,rfl,o3,hb3⟩;have hz3:=hb3.size;have hB3:=hB2.below hb3 hl2;have hX3:=hB3.cell;have hF3:=hB3.free;have hb4:=hb2.trans (hb3.mono hz2);unfold rdC)
    refine hKK.out _ _ (HL.out _ yL) fun hSS=> ?_;try simp only[Act.put,u2,u3,u4]
    refine rd1 8 fun KK hKK=> ?_;go_simp;refine hKK.out _ _ (HL.out _ yL) fun hSS=> ?_;try simp only[Act.put,u2,u3,u4]
    refine wpAnyH_done kr ?_ _;go_wp2_with fail;go_meet;exact⟨_,K3,_,A3,C3,D3,p3,q3,r3,rfl,oo,oI (cs0:=#[]) hB3 _ _ _ _ _ _ _ _ _ _ _,zC (jR o3 hl2 _ _ _ _ _ _ _ _ _ _ _) oo,uI hb4 oo _ _ _ _ _ _ _ _ _ _ _⟩
  case rest=>
   obtain⟨gb,K3,cs3,A3,C3,D3,p3,q3,r3,rfl,hgb,hB,o3,hb⟩:=hcut;have hR:=hR1.below hb oo;have hg:=g1.trans (hb.mono oo);clear hb hR1 hK1 hs1 g1 cU cR HL;have hF:=hR.free;have hY:=hR.cell;have hrl:=hR.lt;obtain⟨hru1,hru2,hru3,hru4⟩:=HRB.out;obtain⟨hr1,hr2,hr3⟩:=HR2.out;subst hr1 hr2 hr3;clear HRB HR2;obtain⟨rcs,d,fi,use⟩:=r;simp only at hB o3 hru1 hru2 hru3 hru4⊢;by_cases hf:fi=1
   ·subst hf
    have hX:=hB.cell;unfold rdC at hX;have hQ:=(oI (cs0:=#[]) hR K3 cs3 d 1 use A3 C3 D3 p3 q3 r3).cell;have gQ:=uI hg (b:=w.heap.size+1) oo K3 cs3 d 1 use A3 C3 D3 p3 q3 r3;have oQ:=Mc o3 (own_ne o3 hR (by decide)) K3 cs3 d 1 use A3 C3 D3 p3 q3 r3;unfold rdC at hQ;go_wp2;refine bodyPost_ret (v:=.tuple #[.agg (rdC K3 cs3 d 1 use A3 C3 D3 p3 q3 r3),.int .i64 (l.length:Int)]) (by simp [results,Tryz.results208,go_sem,hQ,rdC]) rfl ?_;exact⟨K3,cs3,use,A3,C3,D3,p3,q3,r3,by simp,oQ,gQ⟩
   ·have hfb:(fi==1)=false:=by simpa using hf
    have HF:=Go.Lib.hid hf;clear hf;have hX:=hB.cell;unfold rdC at hX;have hQ:=(oI (cs0:=#[]) hR K3 cs3 d fi use A3 C3 D3 p3 q3 r3).cell;have gQ:=uI hg (b:=w.heap.size+1) oo K3 cs3 d fi use A3 C3 D3 p3 q3 r3;have oQ:=Mc o3 (own_ne o3 hR (by decide)) K3 cs3 d fi use A3 C3 D3 p3 q3 r3;unfold rdC at hQ;have hq:((use:Int)+7).tdiv 8=(((use+7) / 8:Nat):Int):=by
     rw[Int.tdiv_eq_ediv_of_nonneg (by omega)];omega
    go_upto_region 6 with(fail)
    go_region
    all_goals go_wp2
    generalize(((((((((wc.setCell ⟨w.heap.size+1,0,none⟩ (.int .i64 K3.o)).setCell ⟨w.heap.size+1,1,none⟩ (.int .i64 K3.l)).setCell ⟨w.heap.size+1,2,none⟩ (.int .i64 K3.m)).setCell ⟨w.heap.size+1,3,none⟩ (.slice A3 K3.ps.length p3)).setCell ⟨w.heap.size+1,4,none⟩ (.int .i64 K3.base)).setCell ⟨w.heap.size+1,5,none⟩ (.int .i64 K3.last)).setCell ⟨w.heap.size+1,6,none⟩ (.slice C3 cs3.length q3)).setCell ⟨w.heap.size+1,7,none⟩ (.slice D3 d.length r3)).setCell ⟨w.heap.size+1,8,none⟩ (.int .i64 fi)).setCell ⟨w.heap.size+1,9,none⟩ (.int .i64 (use:Int))=W5 at hQ gQ oQ⊢;refine bodyPost_ret (v:=.tuple #[.agg (rdC K3 cs3 d fi use A3 C3 D3 p3 q3 r3),.int .i64 (((use:Int)+7) / 8)]) (by simp [results,Tryz.results208,go_sem,hQ,rdC]) rfl ?_;exact⟨K3,cs3,use,A3,C3,D3,p3,q3,r3,rfl,oQ.drew,gQ.drew⟩
theorem Za (K:Kn)(A:Option Addr)(cap:Nat)(l:Bs)(w:World)(hk:K.ok)(hs:Sl w A K.ps.length cap 2 (psV K.ps))(hll:l.length≤1000000):
 Calls Tryz.prog 167 #[knV K A cap,sv l] w fun e w'=>e= .returned (.tuple #[sv (uP K l).1,.int .i64 (uP K l).2.1,.int .i64 (uP K l).2.2])∧Below w.heap.size w w':=by
 have cU:=fun w hs=>TZ K A cap l w hk hs hll;have hdl:=ZP K l;unfold L6 at cU;generalize uP K l=R at*;obtain⟨d,fi,us⟩:=R;simp only at cU hdl;go_enter Tryz.func167,Tryz.ntmps167;have hK0:Bk (w.alloc (.cells (knC K A cap) 130)) w.heap.size 130 (knC K A cap):=tBk;have g0:Below w.heap.size w (w.alloc (.cells (knC K A cap) 130)):=zu;go_upto_region 1 with(fail)
 generalize w.alloc (.cells (knC K A cap) 130)=w0 at*;have hX0:=hK0.cell;have hz0:=hK0.lt;have hs0:=hs.below g0;go_wp2_with fail;refine(cU _ hs0).mono ?_;rintro e w1 ⟨K3,cs3,n3,A3,C3,D3,p3,q3,r3,rfl,o3,hb1⟩;have hz1:=hb1.size;have g1:=g0.trans (hb1.mono oo);have hB2:=Bk.new w1 (rdC K3 cs3 d fi n3 A3 C3 D3 p3 q3 r3) 217;have o4:=o3.alloc (.cells (rdC K3 cs3 d fi n3 A3 C3 D3 p3 q3 r3) 217);have g4:=g1.alloc oo (.cells (rdC K3 cs3 d fi n3 A3 C3 D3 p3 q3 r3) 217);clear hX0 hs0 hs hK0 o3 hb1 g1;unfold rdC at hB2 o4 g4⊢;go_upto_region 2 with(fail)
 generalize w1.alloc (.cells #[.int .i64 K3.o,.int .i64 K3.l,.int .i64 K3.m,.slice A3 K3.ps.length p3,.int .i64 K3.base,.int .i64 K3.last,.slice C3 cs3.length q3,.slice D3 d.length r3,.int .i64 fi,.int .i64 (n3:Int)] 217)=W at*;have hX2:=hB2.cell;have hcv:=yH (wC o4);refine wp_region_held_drew (S:=(fun w'=>w'.cell? ⟨w1.heap.size,7,none⟩=some (.slice D3 d.length r3)∧w'.cell? ⟨w1.heap.size,8,none⟩=some (.int .i64 fi)∧(convert 22 9 (.slice D3 d.length r3)).run Tryz.prog w'= .ok (.string ⟨d.toArray⟩) w')) kr ?_ (fun hSS=> ?_);focus((refine⟨?_,?_,?_⟩;all_goals first|with_reducible exact hcv|(simp [hX2];done)))
 refine tk 0 ?_;try simp only[Act.put,u2,u3,u4]
 refine tk 1 ?_;try simp only[Act.put,u2,u3,u4]
 refine tk 2 ?_;try simp only[Act.put,u2,u3,u4]
 refine tk 3 ?_;try simp only[Act.put,u2,u3,u4]
 refine tk 4 ?_;try simp only[Act.put,u2,u3,u4]
 refine tk 5 ?_;try simp only[Act.put,u2,u3,u4]
 refine tk 6 ?_;try simp only[Act.put,u2,u3,u4]
 refine tk 7 ?_;try simp only[Act.put,u2,u3,u4]
 refine tk 8 ?_;try simp only[Act.put,u2,u3,u4]
 refine wpAnyH_done kr ?_ _;simp only[List.getElem_toArray,List.getElem_cons_succ,List.getElem_cons_zero,Act.put,List.setIfInBounds_toArray,List.set_cons_zero,List.set_cons_succ];go_wp2;exact bodyPost_ret (v:=.tuple #[sv d,.int .i64 fi,.int .i64 us]) (by simp [results,Tryz.results167,go_sem]) rfl ⟨rfl,g4.drew⟩
theorem jk (K:Kn)(A:Option Addr)(cap:Nat)(b:Blk)(w:World)(hk:K.ok)(hs:Sl w A K.ps.length cap 2 (psV K.ps))(hll:b.body.length≤1000000):
 Calls Tryz.prog 139 #[knV K A cap,bkV b] w fun e w'=>e=xY (b.dat K)∧Below w.heap.size w w':=by
 have cD:=fun w hs=>Za K A cap b.body w hk hs hll;have hdl:=ZP K b.body;obtain⟨R,hR⟩:∃R,b.dat K=R:=⟨_,rfl⟩;rw[hR];have HR:=Go.Lib.hid hR;clear hR;unfold Blk.dat at HR;generalize uP K b.body=D at*;obtain⟨d,fi,us⟩:=D;obtain⟨n2,r,n4,T⟩:=b;simp only at cD hdl HR hll;unfold xY;go_enter Tryz.func139,Tryz.ntmps139;have hK0:Bk ((w.alloc (.cells (knC K A cap) 130)).alloc (.cells (bkC ⟨n2,r,n4,T⟩) 160)) w.heap.size 130 (knC K A cap):=tBk;have hB0:Bk ((w.alloc (.cells (knC K A cap) 130)).alloc (.cells (bkC ⟨n2,r,n4,T⟩) 160)) (w.heap.size+1) 160 (bkC ⟨n2,r,n4,T⟩):=tBk;have g0:Below w.heap.size w ((w.alloc (.cells (knC K A cap) 130)).alloc (.cells (bkC ⟨n2,r,n4,T⟩) 160)):=zu;go_upto_region 1 with(fail)
 generalize(w.alloc (.cells (knC K A cap) 130)).alloc (.cells (bkC ⟨n2,r,n4,T⟩) 160)=w0 at*;have hX0:=hK0.cell;have hY0:=hB0.cell;have hz0:=hB0.lt;have hs0:=hs.below g0
 cases r with
 |true=>
  have hE:R=some T:=(by rw[←HR.out];simp);subst hE;clear HR;go_wp2;exact bodyPost_ret (v:=.tuple #[sv T,.bool true]) (by simp [results,Tryz.results139,go_sem]) rfl ⟨rfl,g0⟩
 |false=>
  go_wp2_with fail;refine(cD _ hs0).mono ?_;rintro e w1 ⟨rfl,hb1⟩;have hz1:=hb1.size;have hB1:=hB0.below hb1 hz0;have g1:=g0.trans (hb1.mono oo);have hY1:=hB1.cell;clear hb1 hB0 hK0 hX0 hY0 g0 cD;by_cases h1:fi≠0∨us≠T.length∨(d.length:Int)≠n4
  ·have hE:R=none:=by rw[←HR.out,if_neg (by simp),if_pos h1]
   subst hE;clear HR;by_cases ha:fi=0
   ·have hab:(fi != 0)=false:=by simpa using ha
    by_cases hc:us=T.length
    ·have hcb:(us != (T.length:Int))=false:=by simpa using hc
     have hd:((d.length:Int) != n4)=true:=by
      rcases h1 with h1|h1|h1
      ·exact absurd ha h1
      ·exact absurd hc h1
      ·simpa using h1
     clear ha hc h1;go_wp2;exact bodyPost_ret (v:=.tuple #[sv [],.bool false]) (by simp [results,Tryz.results139,go_sem]) rfl ⟨rfl,g1⟩
    ·have hcb:(us != (T.length:Int))=true:=by simpa using hc
     clear ha hc h1;go_wp2;exact bodyPost_ret (v:=.tuple #[sv [],.bool false]) (by simp [results,Tryz.results139,go_sem]) rfl ⟨rfl,g1⟩
   ·have hab:(fi != 0)=true:=by simpa using ha
    clear ha h1;go_wp2;exact bodyPost_ret (v:=.tuple #[sv [],.bool false]) (by simp [results,Tryz.results139,go_sem]) rfl ⟨rfl,g1⟩
  ·have hE:R=some d:=by rw[←HR.out,if_neg (by simp),if_neg h1]
   subst hE;clear HR;have ha:(fi != 0)=false:=(by simp only[not_or,Classical.not_not] at h1;simpa using h1.1);have hc:(us != (T.length:Int))=false:=(by simp only[not_or,Classical.not_not] at h1;simpa using h1.2.1);have hd:((d.length:Int) != n4)=false:=(by simp only[not_or,Classical.not_not] at h1;simpa using h1.2.2);clear h1;go_wp2;exact bodyPost_ret (v:=.tuple #[sv d,.bool true]) (by simp [results,Tryz.results139,go_sem]) rfl ⟨rfl,g1⟩
end Go.Proofs.YtfppmajoidkooaaGreatDoor
