import Derived.Test.YtfppmajoidkooaaGreatDoorUJ34
import Derived.Test.YtfppmajoidkooaaGreatDoorUQ15
import Derived.Test.YtfppmajoidkooaaGreatDoorUGS4
import Derived.Deep.Cut
import Derived.Test.YtfppmajoidkooaaGreatDoorUS29
import Derived.Test.YtfppmajoidkooaaGreatDoorUGW
set_option linter.unusedVariables false
set_option linter.unusedSimpArgs false
set_option maxHeartbeats 8000000
namespace Go.Proofs.YtfppmajoidkooaaGreatDoor
open Go.RowKit
set_option maxRecDepth 100000
attribute [local go_sem high] zy zA zB zO zK zY zx zk zl zq zi zo yP zD yt zF
def lgO (S:Sto)(log:Bs)(x:OpR):Option (Sto×Bs):=if x.ok∧log.length+(vg x).length≤30000 then(apO S x).map fun T=>(T,log++vg x) else none
def Si (T:Sto)(L:Bs)(b:Bool)(w:World)(e:Ending)(w':World):Prop:=∃A cap,e= .returned (.tuple #[T.V A cap,sv L,.bool b])∧OwC w' w.heap.size 87 2 A T.fs.length (yf T.fs)∧(T.fs.length≤cap∧cap≤9223372036854775807)∧Below w.heap.size w w'
def lgR (R:Option (Sto×Bs)):World→Ending→World→Prop:=Si ((R.map (·.1)).getD yQ) ((R.map (·.2)).getD []) R.isSome
theorem Si.not {w w':World}(h:Below w.heap.size w w'):Si (((none:Option (Sto×Bs)).map (·.1)).getD yQ) (((none:Option (Sto×Bs)).map (·.2)).getD []) (none:Option (Sto×Bs)).isSome w (.returned (.tuple #[Sto.V yQ none 0,sv [],.bool false])) w':=⟨none,0,rfl,⟨rfl,.inl ⟨rfl,rfl⟩⟩,⟨by simp [yQ],by omega⟩,h⟩
theorem RU (S:Sto)(log:Bs)(x:OpR)(A:Option Addr)(cap:Nat)(w:World)(hev:Ev w)(hs:Sl w A S.fs.length cap 2 (yf S.fs))(hS:S.ok)(hlg:log.length≤1500000)(hx:x.nm.length≤1500000∧x.d.length≤1500000):
 Calls Tryz.prog 72 #[S.V A cap,sv log,x.val] w (lgR (lgO S log x) w):=by
 have HEV:Hid (∀wr,Below w.heap.size w wr→Ev wr):=fun wr h=>hev.on h;have cL:=fun w h=>WH x w h oo oo;have cA:Hid (x.ok→∀wr,Below w.heap.size w wr→Calls Tryz.prog 67 #[S.V A cap,x.val] wr (StP ((apO S x).getD yQ) (apO S x).isSome wr)):=fun h wr hb=>XL S x A cap wr (hs.below hb) hS h;have hcl:=(lh x).2;unfold lgR Si;have HNO:Hid (¬x.ok→YZ x=none∧lgO S log x=none):=fun h=>⟨by unfold YZ;rw[if_neg h],by unfold lgO;rw[if_neg (fun h2=>h h2.1)]⟩;have HYE:Hid (x.ok→YZ x=some (vg x)∧(30000<log.length+(vg x).length→lgO S log x=none)∧(log.length+(vg x).length≤30000→lgO S log x=(apO S x).map fun T=>(T,log++vg x))):=fun h=>⟨by unfold YZ;rw[if_pos h],fun h2=>by unfold lgO;rw[if_neg (fun h3=>by omega)],fun h2=>by unfold lgO;rw[if_pos ⟨h,h2⟩]⟩;clear hs hS hx hev;generalize hok:x.ok=OK at*;clear hok;generalize lgO S log x=R at*;generalize YZ x=C at*;generalize vg x=rc at*;generalize apO S x=G at*;obtain⟨o,l,m,dict,fs⟩:=S;obtain⟨k,f,t,s,nm,d⟩:=x;try simp only at*
 go_enter Tryz.func72,Tryz.ntmps72;have hA:Bk (((w.alloc (.cells (Sto.C ⟨o,l,m,dict,fs⟩ A cap) 42)).alloc (.cells (OpR.cells ⟨k,f,t,s,nm,d⟩) 26)).alloc (.cells xy 42)) w.heap.size 42 (Sto.C ⟨o,l,m,dict,fs⟩ A cap):=tBk;have hO:Bk (((w.alloc (.cells (Sto.C ⟨o,l,m,dict,fs⟩ A cap) 42)).alloc (.cells (OpR.cells ⟨k,f,t,s,nm,d⟩) 26)).alloc (.cells xy 42)) (w.heap.size+1) 26 (OpR.cells ⟨k,f,t,s,nm,d⟩):=tBk;have hB:Bk (((w.alloc (.cells (Sto.C ⟨o,l,m,dict,fs⟩ A cap) 42)).alloc (.cells (OpR.cells ⟨k,f,t,s,nm,d⟩) 26)).alloc (.cells xy 42)) (w.heap.size+1+1) 42 xy:=tBk;have g0:Below w.heap.size w (((w.alloc (.cells (Sto.C ⟨o,l,m,dict,fs⟩ A cap) 42)).alloc (.cells (OpR.cells ⟨k,f,t,s,nm,d⟩) 26)).alloc (.cells xy 42)):=zu;simp only[Sto.C,OpR.cells] at hA hO hB g0;go_upto_region 1 with(fail)
 generalize((w.alloc (.cells #[.int .i64 o,.int .i64 l,.int .i64 m,.string ⟨dict.toArray⟩,.slice A fs.length cap] 42)).alloc (.cells #[.int .i64 k,.string ⟨nm.toArray⟩,.int .i64 f,.int .i64 t,.int .i64 s,.string ⟨d.toArray⟩] 26)).alloc (.cells xy 42)=w0 at*;have z0:=g0.size;have la:=hA.lt;have lo:=hO.lt;have lb:=hB.lt;have hXO:=hO.cell;go_wp2_with fail;refine(cL _ (HEV.out _ g0).1).mono ?_;rintro e w1 ⟨rfl,b1⟩;have z1:=b1.size;have hA1:=hA.below b1 la;have hO1:=hO.below b1 lo;have hB1:=hB.below b1 lb;have g1:=g0.trans (b1.mono oo);have hXA1:=hA1.cell;have hXO1:=hO1.cell;have hXB1:=hB1.cell;have hFB1:=hB1.free;clear hA hO hB hXO b1 g0 cL;by_cases hok:OK
 case neg=>
  obtain⟨h1,h2⟩:=HNO.out hok;subst h1 h2;clear HNO HYE cA hok;simp only[Option.getD_none,Option.isSome_none];go_wp2;have Q:=(uA hB1).cell;have gg:=yA g1 (b:=w.heap.size+1+1) oo yQ none 0;exact bodyPost_ret (v:=.tuple #[Sto.V yQ none 0,sv [],.bool false]) (by simp [results,Tryz.results72,go_sem,Q,Sto.V,yQ]) rfl (Si.not gg)
 obtain⟨h1,h2,h3⟩:=HYE.out hok;subst h1;simp only[Option.getD_some,Option.isSome_some];by_cases hlen:log.length+rc.length≤30000
 case neg=>
  have h2:=h2 oo;subst h2;have hli:(30000:Int)<(log.length:Int)+rc.length:=oo;clear HNO HYE cA hok h3 hlen;go_wp2;have Q:=(uA hB1).cell;have gg:=yA g1 (b:=w.heap.size+1+1) oo yQ none 0;exact bodyPost_ret (v:=.tuple #[Sto.V yQ none 0,sv [],.bool false]) (by simp [results,Tryz.results72,go_sem,Q,Sto.V,yQ]) rfl (Si.not gg)
 have h3:=h3 hlen;have hli:¬(30000:Int)<(log.length:Int)+rc.length:=oo;have cA2:=cA.out hok;have HR:=Go.Lib.hid h3;have HGN:Hid (G.isSome=false→R=none):=fun h=>(by rw[HR.out];cases G with|none=>rfl|some _=>cases h);have HGS:Hid (G.isSome=true→R=some (G.getD yQ,log++rc)):=fun h=>(by rw[HR.out];cases G with|none=>cases h|some _=>rfl);clear HNO HYE cA hok h2 h3 HR;generalize G.getD yQ=T at*;generalize G.isSome=tb at*;obtain⟨To,Tl,Tm,Td,P⟩:=T;go_wp2_with fail;refine(cA2 _ g1).mono ?_;rintro e w3 ⟨A3,c3,rfl,o3,hc3,b3⟩;obtain⟨hc3a,hc3b⟩:=hc3;have z3:=b3.size;have o3:=OwC.mono (B':=w.heap.size+3) o3 oo;have hB3:=hB1.below b3 oo;have g3:=g1.trans (b3.mono oo);simp only at o3 hc3a;clear hA1 hO1 hB1 hXA1 hXO1 hXB1 hFB1 b3 g1 cA2;have hB4:=hB3.alloc (.cells #[.int .i64 To,.int .i64 Tl,.int .i64 Tm,.string ⟨Td.toArray⟩,.slice A3 P.length c3] 42);have o4:=OwC.alloc o3 (.cells #[.int .i64 To,.int .i64 Tl,.int .i64 Tm,.string ⟨Td.toArray⟩,.slice A3 P.length c3] 42);have g4:=g3.alloc oo (.cells #[.int .i64 To,.int .i64 Tl,.int .i64 Tm,.string ⟨Td.toArray⟩,.slice A3 P.length c3] 42);have hD4:=Bk.new w3 #[.int .i64 To,.int .i64 Tl,.int .i64 Tm,.string ⟨Td.toArray⟩,.slice A3 P.length c3] 42;go_upto_region 5 with(fail)
 generalize w3.alloc (.cells #[.int .i64 To,.int .i64 Tl,.int .i64 Tm,.string ⟨Td.toArray⟩,.slice A3 P.length c3] 42)=w4 at*;generalize w3.heap.size=q at*;have hXB4:=hB4.cell;have hFB4:=hB4.free;have hXD4:=hD4.cell;clear hB3 o3 g3
 cases tb with
 |false=>
  have hR:=HGN.out rfl;subst hR;clear HGN HGS hXD4 hD4;go_wp2;have Q:=(uA hB4).cell;have gg:=yA g4 (b:=w.heap.size+1+1) oo yQ none 0;exact bodyPost_ret (v:=.tuple #[Sto.V yQ none 0,sv [],.bool false]) (by simp [results,Tryz.results72,go_sem,Q,Sto.V,yQ]) rfl (Si.not gg)
 |true=>
  have hR:=HGS.out rfl;subst hR;clear HGN HGS;try simp only[Option.map_some,Option.getD_some,Option.isSome_some]
  go_wp2;have Q:=(uo hB4 ⟨To,Tl,Tm,Td,P⟩ A3 c3).cell;have o9:=OwC.mono (B':=w.heap.size) (OwC.stW o4 (b:=w.heap.size+1+1) oo ⟨To,Tl,Tm,Td,P⟩ A3 c3) oo;have gg:=yA g4 (b:=w.heap.size+1+1) oo ⟨To,Tl,Tm,Td,P⟩ A3 c3;exact bodyPost_ret (v:=.tuple #[Sto.V ⟨To,Tl,Tm,Td,P⟩ A3 c3,sv (log++rc),.bool true]) (by simp [results,Tryz.results72,go_sem,Q]) rfl ⟨A3,c3,rfl,o9,⟨hc3a,hc3b⟩,gg⟩
theorem aQ (o l m:Int)(dict log:Bs)(x:OpR)(w:World)(hev:Ev w)(hd:dict.length≤1500000)(hlg:log.length≤1500000)(hxn:x.nm.length≤1500000)(hxd:x.d.length≤1500000):
 Calls Tryz.prog 31 #[.agg #[.int .i64 o,.int .i64 l,.int .i64 m],sv dict,sv log,x.val] w fun e w'=>e=zZ (apL o l m dict log x)∧Below w.heap.size w w':=by
 have HEV:Hid (∀wr,Below w.heap.size w wr→Ev wr):=fun wr h=>hev.on h;obtain⟨G,hG⟩:∃G,apL o l m dict log x=G:=⟨_,rfl⟩;rw[hG];obtain⟨R,hR⟩:∃R,qj o l m dict log=R:=⟨_,rfl⟩;have cR:=fun w h=>qV o l m dict log w h hd hlg;rw[hR] at cR;have HOK:Hid (∀T n,R=some (T,n)→T.ok∧0≤n∧n≤30000):=fun T n h=>by
  rw[h] at hR;obtain⟨b,xs,rfl,hF⟩:=kR hR;have h1:=hF.le;have h2:=hF.short;exact⟨hF.ok.1,oo,oo⟩
 have cA:Hid (∀(T:Sto) A cap w,Ev w→T.ok→Sl w A T.fs.length cap 2 (yf T.fs)→Calls Tryz.prog 72 #[T.V A cap,sv log,x.val] w (lgR (lgO T log x) w)):=fun T A cap w h1 h2 h3=>RU T log x A cap w h1 h3 h2 hlg ⟨hxn,hxd⟩;have HG:Hid (∀T n,R=some (T,n)→G=if n=(log.length:Int) then(lgO T log x).map (·.2) else none):=fun T n h=>by
  rw[h] at hR;rw[←hG];unfold apL;rw[hR,Option.bind_some];unfold lgO;by_cases h1:n=(log.length:Int)
  ·rw[if_pos h1]
   by_cases h2:x.ok∧log.length+(vg x).length≤30000
   ·rw[if_pos h2]
    cases apO T x with
    |none=>rw[if_neg (fun h=>by cases h.2.2.2)];rfl
    |some U=>rw[if_pos ⟨h1,h2.1,h2.2,rfl⟩];rfl
   ·rw[if_neg h2,if_neg (fun h=>h2 ⟨h.2.1,h.2.2.1⟩)];rfl
  ·rw[if_neg h1,if_neg (fun h=>h1 h.1)]
 have HGN:Hid (R=none→G=none):=fun h=>by
  rw[h] at hR;rw[←hG];unfold apL;rw[hR];rfl
 clear hR hG hev;obtain⟨T,tn,tb,h1,h2,h3⟩:∃T tn tb,(R.map (·.1)).getD yQ=T∧(R.map (·.2)).getD 0=tn∧R.isSome=tb:=⟨_,_,_,rfl,rfl,rfl⟩;unfold O9 at cR;rw[h1,h2,h3] at cR;have HN:Hid (tb=false→R=none):=fun h=>(by rw[h] at h3;cases R with|none=>rfl|some _=>cases h3);have HS:Hid (tb=true→R=some (T,tn)):=fun h=>by
  rw[h] at h3
  cases R with
  |none=>cases h3
  |some p=>rw[←h1,←h2];rfl
 clear h1 h2 h3;obtain⟨Uo,Ul,Um,Ud,P⟩:=T;obtain⟨xk,xf,xt,xs,xn,xd⟩:=x;go_enter Tryz.func31,Tryz.ntmps31;have hA:Bk ((w.alloc (.cells #[.int .i64 o,.int .i64 l,.int .i64 m] 39)).alloc (.cells #[.int .i64 xk,.string ⟨xn.toArray⟩,.int .i64 xf,.int .i64 xt,.int .i64 xs,.string ⟨xd.toArray⟩] 26)) w.heap.size 39 #[.int .i64 o,.int .i64 l,.int .i64 m]:=tBk;have hO:Bk ((w.alloc (.cells #[.int .i64 o,.int .i64 l,.int .i64 m] 39)).alloc (.cells #[.int .i64 xk,.string ⟨xn.toArray⟩,.int .i64 xf,.int .i64 xt,.int .i64 xs,.string ⟨xd.toArray⟩] 26)) (w.heap.size+1) 26 #[.int .i64 xk,.string ⟨xn.toArray⟩,.int .i64 xf,.int .i64 xt,.int .i64 xs,.string ⟨xd.toArray⟩]:=tBk;have g0:Below w.heap.size w ((w.alloc (.cells #[.int .i64 o,.int .i64 l,.int .i64 m] 39)).alloc (.cells #[.int .i64 xk,.string ⟨xn.toArray⟩,.int .i64 xf,.int .i64 xt,.int .i64 xs,.string ⟨xd.toArray⟩] 26)):=zu;go_upto_region 1 with(fail)
 generalize(w.alloc (.cells #[.int .i64 o,.int .i64 l,.int .i64 m] 39)).alloc (.cells #[.int .i64 xk,.string ⟨xn.toArray⟩,.int .i64 xf,.int .i64 xt,.int .i64 xs,.string ⟨xd.toArray⟩] 26)=w0 at*;have z0:=g0.size;have la:=hA.lt;have lo:=hO.lt;have hXA:=hA.cell;go_wp2_with fail;refine(cR _ (HEV.out _ g0)).mono ?_;rintro e w1 ⟨A1,c1,rfl,o1,⟨hc1,hc1b⟩,b1⟩;have z1:=b1.size;have hO1:=hO.below b1 lo;have o1:=OwC.mono (B':=w.heap.size+2) o1 oo;have g1:=g0.trans (b1.mono oo);simp only at o1 hc1;clear hA hO hXA b1 g0 cR;have hO2:=hO1.alloc (.cells #[.int .i64 Uo,.int .i64 Ul,.int .i64 Um,.string ⟨Ud.toArray⟩,.slice A1 P.length c1] 42);have hD2:Bk (w1.alloc (.cells #[.int .i64 Uo,.int .i64 Ul,.int .i64 Um,.string ⟨Ud.toArray⟩,.slice A1 P.length c1] 42)) w1.heap.size 42 #[.int .i64 Uo,.int .i64 Ul,.int .i64 Um,.string ⟨Ud.toArray⟩,.slice A1 P.length c1]:=Bk.new w1 #[.int .i64 Uo,.int .i64 Ul,.int .i64 Um,.string ⟨Ud.toArray⟩,.slice A1 P.length c1] 42;have o2:=OwC.alloc o1 (.cells #[.int .i64 Uo,.int .i64 Ul,.int .i64 Um,.string ⟨Ud.toArray⟩,.slice A1 P.length c1] 42);have g2:=g1.alloc oo (.cells #[.int .i64 Uo,.int .i64 Ul,.int .i64 Um,.string ⟨Ud.toArray⟩,.slice A1 P.length c1] 42);have hXO2:=hO2.cell;go_upto_region 2 with(fail)
 clear hO1 o1 g1;generalize w1.alloc (.cells #[.int .i64 Uo,.int .i64 Ul,.int .i64 Um,.string ⟨Ud.toArray⟩,.slice A1 P.length c1] 42)=w2 at*;have l2:=hD2.lt;have lo2:=hO2.lt;generalize w1.heap.size=q at*
 cases tb with
 |false=>
  have hR:=HN.out rfl;subst hR;have hG2:=HGN.out rfl;subst hG2;clear HG HN HS HOK cA HGN;go_wp2;exact bodyPost_ret (v:=.tuple #[sv [],.bool false]) (by simp [results,Tryz.results31,go_sem]) rfl ⟨rfl,g2⟩
 |true=>
 have hR:=HS.out rfl;subst hR;obtain⟨hTok,hn0,hn1⟩:=HOK.out _ _ rfl;have hG2:=HG.out _ _ rfl;have HTOK:=Go.Lib.hid hTok;clear HG HN HS HOK HGN hTok;by_cases hn:tn=(log.length:Int)
 case neg=>
  rw[if_neg hn] at hG2;subst hG2;have hnb:(tn != (log.length:Int))=true:=(by simpa using hn);clear cA HTOK;go_wp2;exact bodyPost_ret (v:=.tuple #[sv [],.bool false]) (by simp [results,Tryz.results31,go_sem]) rfl ⟨rfl,g2⟩
 case pos=>
  rw[if_pos hn] at hG2;subst hn;have cA2:=cA.out ⟨Uo,Ul,Um,Ud,P⟩ A1 c1 w2 (HEV.out _ g2) HTOK.out (OwC.sl o2 hc1 hc1b);generalize lgO ⟨Uo,Ul,Um,Ud,P⟩ log ⟨xk,xf,xt,xs,xn,xd⟩=Z at*;have hXD2:=hD2.cell;have hvs:zZ G= .returned (.tuple #[sv ((Z.map (·.2)).getD []),.bool Z.isSome]):=(by rw[hG2];cases Z<;>rfl);have HVS:=Go.Lib.hid hvs;unfold lgR at cA2;clear cA HTOK hG2 hvs;generalize(Z.map (·.1)).getD yQ=V at*;generalize(Z.map (·.2)).getD []=L at*;generalize Z.isSome=zb at*;obtain⟨Vo,Vl,Vm,Vd,VP⟩:=V;go_wp2_with fail;refine cA2.mono ?_;rintro e w3 ⟨A3,c3,rfl,o3,hc3,b3⟩;have g3:=g2.trans (b3.mono oo);have z3:=g3.size;clear cA2 o3 hc3 b3 hXD2 hXO2;go_wp2;exact bodyPost_ret (v:=.tuple #[sv L,.bool zb]) (by simp [results,Tryz.results31,go_sem]) rfl ⟨HVS.out.symm,zu⟩
theorem XP {o l m:Int}{dict log:Bs}{R:Option (Sto×Int)}(hR:qj o l m dict log=R):(R.isSome=false→rpL o l m dict log=none)∧(R.isSome=true→0≤(R.map fun p:Sto×Int=>p.2).getD 0∧(R.map fun p:Sto×Int=>p.2).getD 0≤log.length∧rpL o l m dict log=some (log.take ((R.map fun p:Sto×Int=>p.2).getD 0).toNat)):=by
 unfold rpL;rw[hR]
 cases R with
 |none=>exact⟨fun _=>rfl,fun h=>(by cases h)⟩
 |some p=>
  obtain⟨T,n⟩:=p;obtain⟨b,xs,rfl,hF⟩:=kR hR;have:=hF.le;exact⟨fun h=>(by cases h),fun _=>⟨by simp,by simp;omega,rfl⟩⟩
theorem Z7 (o l m:Int)(dict log:Bs)(w:World)(hd:dict.length≤1500000)(hlg:log.length≤1500000):
 Calls Tryz.prog 21 #[.agg #[.int .i64 o,.int .i64 l,.int .i64 m],sv dict,sv log] w fun e w'=>e=zZ (rpL o l m dict log)∧Below w.heap.size w w':=by
 obtain⟨R,hR⟩:∃R,qj o l m dict log=R:=⟨_,rfl⟩;have cR:=fun w=>qM o l m dict log w hd hlg;obtain⟨HF1,HF2⟩:=XP hR;unfold OY at cR;rw[hR] at cR;clear hR;generalize rpL o l m dict log=Y at*;generalize(R.map fun p:Sto×Int=>p.1).getD yQ=T at*;generalize(R.map fun p:Sto×Int=>p.2).getD 0=tn at*;generalize R.isSome=tb at*;obtain⟨To,Tl,Tm,Td,P⟩:=T;go_enter Tryz.func21,Tryz.ntmps21;have hK0:=Bk.new w #[.int .i64 o,.int .i64 l,.int .i64 m] 39;have g0:Below w.heap.size w (w.alloc (.cells #[.int .i64 o,.int .i64 l,.int .i64 m] 39)):=zu;go_upto_region 1 with(fail)
 generalize w.alloc (.cells #[.int .i64 o,.int .i64 l,.int .i64 m] 39)=w0 at*;have hX0:=hK0.cell;have hz0:=hK0.lt;go_wp2_with fail;refine(cR _).mono ?_;rintro e w1 ⟨A1,c1,rfl,o1,b1⟩;have g1:=g0.trans (b1.mono oo);have hz1:=g1.size;clear hX0 hK0 g0 o1 b1 cR
 cases tb with
 |false=>
  have hY:=HF1 rfl;subst hY;clear HF1 HF2;go_wp2;exact bodyPost_ret (v:=.tuple #[sv [],.bool false]) (by simp [results,Tryz.results21,go_sem]) rfl ⟨rfl,zu⟩
 |true=>
  obtain⟨h0,h1,hY⟩:=HF2 rfl;obtain⟨n,rfl⟩:=Int.eq_ofNat_of_zero_le h0;have hnl:n≤log.length:=oo;rw[Int.toNat_natCast] at hY;subst hY;clear HF1 HF2 h0 h1;go_wp2;exact bodyPost_ret (v:=.tuple #[sv (log.take n),.bool true]) (by simp [results,Tryz.results21,go_sem]) rfl ⟨rfl,zu⟩
theorem Yw (o l m:Int)(dict log:Bs)(w:World)(hev:Ev w)(hd:dict.length≤1500000)(hlg:log.length≤1500000):
 Calls Tryz.prog 23 #[.agg #[.int .i64 o,.int .i64 l,.int .i64 m],sv dict,sv log] w fun e w'=>e=zZ (rpL o l m dict log)∧Below w.heap.size w w':=by
 obtain⟨R,hR⟩:∃R,qj o l m dict log=R:=⟨_,rfl⟩;have cR:=fun w h=>qV o l m dict log w h hd hlg;obtain⟨HF1,HF2⟩:=XP hR;unfold O9 at cR;rw[hR] at cR;clear hR;generalize rpL o l m dict log=Y at*;generalize(R.map fun p:Sto×Int=>p.1).getD yQ=T at*;generalize(R.map fun p:Sto×Int=>p.2).getD 0=tn at*;generalize R.isSome=tb at*;obtain⟨To,Tl,Tm,Td,P⟩:=T;go_enter Tryz.func23,Tryz.ntmps23;have hK0:=Bk.new w #[.int .i64 o,.int .i64 l,.int .i64 m] 39;have g0:Below w.heap.size w (w.alloc (.cells #[.int .i64 o,.int .i64 l,.int .i64 m] 39)):=zu;have hev0:=hev.on g0;go_upto_region 1 with(fail)
 generalize w.alloc (.cells #[.int .i64 o,.int .i64 l,.int .i64 m] 39)=w0 at*;have hX0:=hK0.cell;have hz0:=hK0.lt;go_wp2_with fail;refine(cR _ hev0).mono ?_;rintro e w1 ⟨A1,c1,rfl,o1,hc1,b1⟩;have g1:=g0.trans (b1.mono oo);have hz1:=g1.size;clear hX0 hK0 g0 o1 b1 cR hc1
 cases tb with
 |false=>
  have hY:=HF1 rfl;subst hY;clear HF1 HF2;go_wp2;exact bodyPost_ret (v:=.tuple #[sv [],.bool false]) (by simp [results,Tryz.results23,go_sem]) rfl ⟨rfl,zu⟩
 |true=>
  obtain⟨h0,h1,hY⟩:=HF2 rfl;obtain⟨n,rfl⟩:=Int.eq_ofNat_of_zero_le h0;have hnl:n≤log.length:=oo;rw[Int.toNat_natCast] at hY;subst hY;clear HF1 HF2 h0 h1;go_wp2;exact bodyPost_ret (v:=.tuple #[sv (log.take n),.bool true]) (by simp [results,Tryz.results23,go_sem]) rfl ⟨rfl,zu⟩
theorem MQ {o l m:Int}{dict log:Bs} :(((qj o l m dict log).map fun p:Sto×Int=>p.1).getD yQ).fs.length≤6:=by
 cases h:qj o l m dict log with
 |none=>simp [yQ]
 |some p=>
  obtain⟨T,n⟩:=p;obtain⟨b,xs,_,hF⟩:=kR h;exact hF.ok.1.2.1
theorem iD (o l m:Int)(dict log:Bs)(w:World)(hev:Ev w):
 Calls Tryz.prog 6 #[.agg #[.int .i64 o,.int .i64 l,.int .i64 m],sv dict,sv log] w fun e w'=>e= .returned (.bool true)∧Below w.heap.size w w':=by
 have K:=(Kp.base w).and (Kp.of fun wr h=>hev.on h);clear hev;go_enter Tryz.func6,Tryz.ntmps6;have K:=K.box #[.int .i64 o,.int .i64 l,.int .i64 m] 33;go_upto_region 1 with(fail)
 generalize w.alloc (.cells #[.int .i64 o,.int .i64 l,.int .i64 m] 33)=w0 at*;obtain⟨⟨g,_⟩,kb⟩:=K.now;have X:=kb.cell;by_cases hd:1048576<dict.length
 ·have hdi:(1048576:Int)<dict.length:=oo
  go_wp2;go_ret;exact⟨rfl,g⟩
 have hdi:¬(1048576:Int)<dict.length:=oo;by_cases hl:1048576<log.length
 ·have hli:(1048576:Int)<log.length:=oo
  go_wp2;go_ret;exact⟨rfl,g⟩
 have hli:¬(1048576:Int)<log.length:=oo;have cS:=fun w=>qM o l m dict log w oo oo;have cI:=fun w h=>qV o l m dict log w h oo oo;have hT6:=MQ (o:=o) (l:=l) (m:=m) (dict:=dict) (log:=log);unfold OY StI at cS;unfold O9 KE at cI;generalize((qj o l m dict log).map fun p:Sto×Int=>p.1).getD yQ=T at*;generalize((qj o l m dict log).map fun p:Sto×Int=>p.2).getD 0=tn at*;generalize(qj o l m dict log).isSome=tb at*;have cE:Hid (∀A B ca cb w,Sl w A T.fs.length ca 2 (yf T.fs)→Sl w B T.fs.length cb 2 (yf T.fs)→Calls Tryz.prog 20 #[T.V A ca,T.V B cb] w fun e w'=>e= .returned (.bool true)∧Below w.heap.size w w'):=fun A B ca cb w h1 h2=>Wv T A B ca cb w h1 h2 oo;obtain⟨To,Tl,Tm,Td,P⟩:=T;try simp only at cE hT6
 have CI:=Go.Lib.hid cI;have t1:(tn != tn)=false:=(by simp);have t2:(tb != tb)=false:=(by simp);clear g kb hd hl cI;go_wp2_with fail;refine(wZ o l m _).mono ?_;rintro e w1 ⟨rfl,b⟩;have K:=K.step b;clear b X;go_wp2_with fail;refine(cS _).mono ?_;rintro e w2 ⟨A2,c2,rfl,o2,b⟩;try simp only at o2
 have K:=(K.step b).and (Kp.sl (Sl.own o2));have K:=K.box #[.int .i64 To,.int .i64 Tl,.int .i64 Tm,.string ⟨Td.toArray⟩,.slice A2 P.length c2] 42;clear b cS o2;go_upto_region 6 with(fail)
 generalize w2.alloc (.cells #[.int .i64 To,.int .i64 Tl,.int .i64 Tm,.string ⟨Td.toArray⟩,.slice A2 P.length c2] 42)=w4 at*;generalize w2.heap.size=q2 at*;obtain⟨⟨⟨_,kb⟩,_⟩,_⟩:=K.now;have X:=kb.cell;go_wp2_with fail;refine(wZ o l m _).mono ?_;rintro e w5 ⟨rfl,b5⟩;have z5:=b5.size;have hev:=(K _ b5).1.1.1.2;clear kb X;go_wp2_with fail;refine(CI.out _ hev).mono ?_;rintro e w6 ⟨A6,c6,rfl,o6,⟨hc6,hc6b⟩,b6⟩;have z6:=b6.size;try simp only at o6 hc6
 have B6:=b5.trans (b6.mono z5);have hm6:∀k,(Value.slice A6 P.length c6).ownBlock=some k→w4.heap.size≤k∧k<w6.heap.size:=fun k hk=>by
  rcases o6.2 with⟨h1,_⟩|⟨g,cur,h1,h2,_⟩
  ·rw[h1] at hk;cases hk
  ·have h3:=OwC.lt3 o6 h1
   rw[h1] at hk;injection hk with hk;subst hk;exact⟨(by show w4.heap.size≤g;omega),h3⟩
 have o7:=(OwC.mono (B':=w4.heap.size) o6 oo).alloc (.cells #[.int .i64 To,.int .i64 Tl,.int .i64 Tm,.string ⟨Td.toArray⟩,.slice A6 P.length c6] 42);have G7:=Bk.new w6 #[.int .i64 To,.int .i64 Tl,.int .i64 Tm,.string ⟨Td.toArray⟩,.slice A6 P.length c6] 42;have B7:=B6.alloc oo (.cells #[.int .i64 To,.int .i64 Tl,.int .i64 Tm,.string ⟨Td.toArray⟩,.slice A6 P.length c6] 42);clear b5 b6 hev o6 B6;go_upto_region 7 with(fail)
 generalize w6.alloc (.cells #[.int .i64 To,.int .i64 Tl,.int .i64 Tm,.string ⟨Td.toArray⟩,.slice A6 P.length c6] 42)=w7 at*;have l7:=G7.lt;have hq6:w4.heap.size≤w6.heap.size:=oo;generalize w6.heap.size=q6 at*;obtain⟨⟨_,s2⟩,k2⟩:=K _ B7;have s7:=OwC.sl o7 hc6 hc6b;have X:=G7.cell;have Y:=k2.cell;go_wp2_with fail;refine(cE.out _ _ _ _ _ s7 s2).mono ?_;rintro e w8 ⟨rfl,b8⟩;have z8:=b8.size;have G8:=G7.below b8 l7;have o8:=o7.below b8;have B8:=B7.trans (b8.mono oo);have l8:=G8.lt;clear s2 k2 s7 X Y G7 o7 B7 b8;have cMG:=fun wr ho=>YH To Tl Tm Td P 1 A6 c6 w4.heap.size wr ho hc6 hc6b oo oo;have cHG:=fun wr h=>YK To Tl Tm Td P.length 1 A6 c6 wr h oo oo;obtain⟨n2,hn2⟩:∃n2:Nat,1+2*P.length=n2:=⟨_,rfl⟩;rw[hn2] at cMG cHG;have hn20:¬(n2:Int)<0:=oo;have hn21:((n2:Int) != (n2:Int))=false:=(by simp);have CHG:=Go.Lib.hid cHG;clear hn2 cHG;have X:=G8.cell;have z48:=B8.size;go_wp2_with fail;refine(cMG _ o8).mono ?_;rintro e w9 ⟨rfl,o9,gr⟩;have z9:=gr.size;have G9:=G8.grown gr (fun k hk=>by have:=hm6 k hk;omega);have B9:=B8.trans (grown_below gr (fun k hk=>(hm6 k hk).1) z48);have s9:=OwC.sl o9 hc6 hc6b;have l9:=G9.lt;have X:=G9.cell;clear G8 o8 gr cMG o9 B8;go_wp2_with fail;refine(CHG.out _ s9).mono ?_;rintro e w10 ⟨rfl,b⟩;have z10:=b.size;have G10:=G9.below b l9;have s10:=s9.below b;have B10:=B9.trans (b.mono (by have:=B9.size;omega));have l10:=G10.lt;have H:=(Kp.of fun wr (h:Below w10.heap.size w10 wr)=>K wr (B10.trans (h.mono (by have:=B10.size;omega)))).and ((Kp.bk G10).and (Kp.sl s10));clear b X G9 s9 B9 G10 s10 B10 hm6 K;obtain⟨⟨⟨⟨_,kb⟩,_⟩,_⟩,_⟩:=H.now;have X:=kb.cell;go_wp2_with fail;refine(wZ o l m _).mono ?_;rintro e w11 ⟨rfl,b⟩;have H:=H.step b;have hev:=H.now.1.1.1.1.2;clear kb X b;go_wp2_with fail;refine(CI.out _ hev).mono ?_;rintro e w12 ⟨A12,c12,rfl,o12,⟨hc12,hc12b⟩,b⟩;try simp only at o12 hc12
 have H:=(H.step b).and (Kp.sl (OwC.sl o12 hc12 hc12b));have H:=H.box #[.int .i64 To,.int .i64 Tl,.int .i64 Tm,.string ⟨Td.toArray⟩,.slice A12 P.length c12] 42;clear hev o12 b CI;go_upto_region 18 with(fail)
 generalize w12.alloc (.cells #[.int .i64 To,.int .i64 Tl,.int .i64 Tm,.string ⟨Td.toArray⟩,.slice A12 P.length c12] 42)=w13 at*;generalize w12.heap.size=q12 at*;obtain⟨⟨⟨⟨⟨_,s2⟩,k2⟩,_⟩,s12⟩,k12⟩:=H.now;have X:=k12.cell;have Y:=k2.cell;go_wp2_with fail;refine(cE.out _ _ _ _ _ s12 s2).mono ?_;rintro e w14 ⟨rfl,b⟩;have H:=H.step b;obtain⟨⟨⟨_,k6,s6⟩,_⟩,_⟩:=H.now;have X:=k6.cell;clear b s2 k2 s12 k12 Y;go_wp2_with fail;refine(CHG.out _ s6).mono ?_;rintro e w15 ⟨rfl,b⟩;have g:=(H.step b).now.1.1.1.1.1.1.1;clear b X k6 s6 CHG;go_wp2;go_ret;exact⟨rfl,g⟩
theorem iw (o l m:Int)(dict log:Bs)(w:World)(hev:Ev w):
 Calls Tryz.prog 5 #[.agg #[.int .i64 o,.int .i64 l,.int .i64 m],sv dict,sv log] w fun e w'=>e= .returned (.bool true)∧Below w.heap.size w w':=by
 have K:=(Kp.base w).and (Kp.of fun wr h=>hev.on h);clear hev;go_enter Tryz.func5,Tryz.ntmps5;have K:=K.box #[.int .i64 o,.int .i64 l,.int .i64 m] 33;go_upto_region 1 with(fail)
 generalize w.alloc (.cells #[.int .i64 o,.int .i64 l,.int .i64 m] 33)=w0 at*;obtain⟨⟨g,_⟩,kb⟩:=K.now;have X:=kb.cell;by_cases hd:1048576<dict.length
 ·have hdi:(1048576:Int)<dict.length:=oo
  go_wp2;go_ret;exact⟨rfl,g⟩
 have hdi:¬(1048576:Int)<dict.length:=oo;by_cases hl:1048576<log.length
 ·have hli:(1048576:Int)<log.length:=oo
  go_wp2;go_ret;exact⟨rfl,g⟩
 have hli:¬(1048576:Int)<log.length:=oo;have cS:=fun w=>Z7 o l m dict log w oo oo;have cI:=fun w h=>Yw o l m dict log w h oo oo;unfold zZ at cS cI;generalize rpL o l m dict log=R at*;generalize R.getD []=rd at*;generalize R.isSome=rb at*;clear g kb hd hl;go_wp2_with fail;refine(wZ o l m _).mono ?_;rintro e w1 ⟨rfl,b⟩;have K:=K.step b;clear b X;go_wp2_with fail;refine(cS _).mono ?_;rintro e w2 ⟨rfl,b⟩;have K:=K.step b;have X:=K.now.2.cell;clear b cS;go_wp2_with fail;refine(wZ o l m _).mono ?_;rintro e w3 ⟨rfl,b⟩;have K:=K.step b;have hev:=K.now.1.2;clear b X;go_wp2_with fail;refine(cI _ hev).mono ?_;rintro e w4 ⟨rfl,b⟩;have K:=K.step b;have g:=K.now.1.1;clear b cI hev;have t1:(rd != rd)=false:=(by simp);have t2:(rb != rb)=false:=(by simp);go_wp2;go_ret;exact⟨rfl,g⟩
theorem jK (o l m:Int)(dict log:Bs)(k f t s:Int)(nm d:Bs)(w:World)(hev:Ev w)(hnm:nm.length≤9223372036854775807)(hdd:d.length≤9223372036854775807):
 Calls Tryz.prog 7 #[.agg #[.int .i64 o,.int .i64 l,.int .i64 m],sv dict,sv log,.agg #[.int .i64 k,.string ⟨nm.toArray⟩,.int .i64 f,.int .i64 t,.int .i64 s,.string ⟨d.toArray⟩]] w fun e w'=>e= .returned (.bool true)∧Below w.heap.size w w':=by
 have K:=(Kp.base w).and (Kp.of fun wr h=>hev.on h);clear hev;go_enter Tryz.func7,Tryz.ntmps7;have K:=(K.box #[.int .i64 o,.int .i64 l,.int .i64 m] 33).box #[.int .i64 k,.string ⟨nm.toArray⟩,.int .i64 f,.int .i64 t,.int .i64 s,.string ⟨d.toArray⟩] 52;go_upto_region 1 with(fail)
 rw[World.size_alloc] at K;generalize(w.alloc (.cells #[.int .i64 o,.int .i64 l,.int .i64 m] 33)).alloc (.cells #[.int .i64 k,.string ⟨nm.toArray⟩,.int .i64 f,.int .i64 t,.int .i64 s,.string ⟨d.toArray⟩] 52)=w0 at*;obtain⟨⟨⟨g,_⟩,kb⟩,kc⟩:=K.now;have X:=kb.cell;have Y:=kc.cell;by_cases hd:1048576<dict.length
 ·have hdi:(1048576:Int)<dict.length:=oo
  go_wp2;go_ret;exact⟨rfl,g⟩
 have hdi:¬(1048576:Int)<dict.length:=oo;by_cases hl:1048576<log.length
 ·have hli:(1048576:Int)<log.length:=oo
  go_wp2;go_ret;exact⟨rfl,g⟩
 have hli:¬(1048576:Int)<log.length:=oo;have cZ:=fun w=>Pj k f t s nm d 1048576 w oo hnm hdd;clear hnm hdd;go_wp2_with fail;refine(cZ _).mono ?_;rintro e w1 ⟨⟨r,rfl,hr⟩,b⟩;have K:=K.step b;obtain⟨⟨⟨g,_⟩,kb⟩,kc⟩:=K.now;have X:=kb.cell;have Y:=kc.cell;clear b cZ;by_cases hr0:r<0
 ·clear hr
  go_wp2;go_ret;exact⟨rfl,g⟩
 obtain⟨hn,hd2⟩:=hr oo;have cS:=fun w=>Ze o l m dict log ⟨k,f,t,s,nm,d⟩ w oo oo (by show nm.length≤_;omega) (by show d.length≤_;omega);have cI:=fun w h=>aQ o l m dict log ⟨k,f,t,s,nm,d⟩ w h oo oo (by show nm.length≤_;omega) (by show d.length≤_;omega);unfold zZ at cS cI;generalize apL o l m dict log ⟨k,f,t,s,nm,d⟩=R at*;generalize R.getD []=rd at*;generalize R.isSome=rb at*;have cO:=fun w=>O8 k f t s nm d w;clear g kb kc hd hl hr hn hd2;have HC:Hid (∀w',Below w1.heap.size w1 w'→w'.cell? ⟨w.heap.size,0,none⟩=some (.int .i64 o)∧w'.cell? ⟨w.heap.size,1,none⟩=some (.int .i64 l)∧w'.cell? ⟨w.heap.size,2,none⟩=some (.int .i64 m)∧w'.cell? ⟨w.heap.size+1,0,none⟩=some (.int .i64 k)∧w'.cell? ⟨w.heap.size+1,1,none⟩=some (.string ⟨nm.toArray⟩)∧w'.cell? ⟨w.heap.size+1,2,none⟩=some (.int .i64 f)∧w'.cell? ⟨w.heap.size+1,3,none⟩=some (.int .i64 t)∧w'.cell? ⟨w.heap.size+1,4,none⟩=some (.int .i64 s)∧w'.cell? ⟨w.heap.size+1,5,none⟩=some (.string ⟨d.toArray⟩)):=fun wr h=>by
  obtain⟨⟨_,kb⟩,kc⟩:=K wr h;exact⟨kb.cell 0,kb.cell 1,kb.cell 2,kc.cell 0,kc.cell 1,kc.cell 2,kc.cell 3,kc.cell 4,kc.cell 5⟩
 clear X Y;go_wp2_with fail;refine wp_region_held_drew (S:=(fun w'=>w'.cell? ⟨w.heap.size,0,none⟩=some (.int .i64 o)∧w'.cell? ⟨w.heap.size,1,none⟩=some (.int .i64 l)∧w'.cell? ⟨w.heap.size,2,none⟩=some (.int .i64 m)∧w'.cell? ⟨w.heap.size+1,0,none⟩=some (.int .i64 k)∧w'.cell? ⟨w.heap.size+1,1,none⟩=some (.string ⟨nm.toArray⟩)∧w'.cell? ⟨w.heap.size+1,2,none⟩=some (.int .i64 f)∧w'.cell? ⟨w.heap.size+1,3,none⟩=some (.int .i64 t)∧w'.cell? ⟨w.heap.size+1,4,none⟩=some (.int .i64 s)∧w'.cell? ⟨w.heap.size+1,5,none⟩=some (.string ⟨d.toArray⟩))) kr ?_ (fun hSS=> ?_);focus(exact HC.out _ yL)
 refine tk 0 ?_;try simp only[Act.put,u2,u3,u4]
 refine tk 2 ?_;try simp only[Act.put,u2,u3,u4]
 refine tk 3 ?_;try simp only[Act.put,u2,u3,u4]
 refine tk 4 ?_;try simp only[Act.put,u2,u3,u4]
 refine rd1 1 fun KK hKK=> ?_;go_simp
 (go_at_call 22;refine(wZ o l m _).mono ?_;rintro e w2 ⟨rfl,bw2⟩;have bw2:Below w1.heap.size w1 w2:=zG bw2)
 refine hKK.out _ _ (by exact HC.out _ yL) fun hSS=> ?_;try simp only[Act.put,u2,u3,u4]
 refine rd1 5 fun KK hKK=> ?_;go_simp
 (go_at_call 30;refine(cO _).mono ?_;rintro e w3 ⟨rfl,bw3⟩;have bw3:=bw2.trans (bw3.mono bw2.size))
 refine hKK.out _ _ (by exact HC.out _ yL) fun hSS=> ?_;try simp only[Act.put,u2,u3,u4]
 refine rd1 6 fun KK hKK=> ?_;go_simp
 (go_at_call 29;refine(cS _).mono ?_;rintro e w4 ⟨rfl,bw4⟩;have bw4:=bw3.trans (bw4.mono bw3.size))
 refine hKK.out _ _ (by exact HC.out _ yL) fun hSS=> ?_;try simp only[Act.put,u2,u3,u4]
 refine tk 7 ?_;try simp only[Act.put,u2,u3,u4]
 refine tk 8 ?_;try simp only[Act.put,u2,u3,u4]
 refine tk 9 ?_;try simp only[Act.put,u2,u3,u4]
 refine tk 10 ?_;try simp only[Act.put,u2,u3,u4]
 refine tk 11 ?_;try simp only[Act.put,u2,u3,u4]
 refine wpAnyH_done kr ?_ _;have K:=K.step bw4;have HC:Hid (∀w',Below w4.heap.size w4 w'→w'.cell? ⟨w.heap.size,0,none⟩=some (.int .i64 o)∧w'.cell? ⟨w.heap.size,1,none⟩=some (.int .i64 l)∧w'.cell? ⟨w.heap.size,2,none⟩=some (.int .i64 m)∧w'.cell? ⟨w.heap.size+1,0,none⟩=some (.int .i64 k)∧w'.cell? ⟨w.heap.size+1,1,none⟩=some (.string ⟨nm.toArray⟩)∧w'.cell? ⟨w.heap.size+1,2,none⟩=some (.int .i64 f)∧w'.cell? ⟨w.heap.size+1,3,none⟩=some (.int .i64 t)∧w'.cell? ⟨w.heap.size+1,4,none⟩=some (.int .i64 s)∧w'.cell? ⟨w.heap.size+1,5,none⟩=some (.string ⟨d.toArray⟩)):=fun wr h=>HC.out wr (bw4.trans (h.mono bw4.size));clear bw2 bw3 bw4 cS hKK;simp only[List.getElem_toArray,List.getElem_cons_succ,List.getElem_cons_zero,Act.put,List.setIfInBounds_toArray,List.set_cons_zero,List.set_cons_succ];go_wp2_with fail;refine wp_region_held_drew (S:=(fun w'=>w'.cell? ⟨w.heap.size,0,none⟩=some (.int .i64 o)∧w'.cell? ⟨w.heap.size,1,none⟩=some (.int .i64 l)∧w'.cell? ⟨w.heap.size,2,none⟩=some (.int .i64 m)∧w'.cell? ⟨w.heap.size+1,0,none⟩=some (.int .i64 k)∧w'.cell? ⟨w.heap.size+1,1,none⟩=some (.string ⟨nm.toArray⟩)∧w'.cell? ⟨w.heap.size+1,2,none⟩=some (.int .i64 f)∧w'.cell? ⟨w.heap.size+1,3,none⟩=some (.int .i64 t)∧w'.cell? ⟨w.heap.size+1,4,none⟩=some (.int .i64 s)∧w'.cell? ⟨w.heap.size+1,5,none⟩=some (.string ⟨d.toArray⟩))) kr ?_ (fun hSS=> ?_);focus(exact HC.out _ yL)
 refine tk 0 ?_;try simp only[Act.put,u2,u3,u4]
 refine tk 2 ?_;try simp only[Act.put,u2,u3,u4]
 refine tk 3 ?_;try simp only[Act.put,u2,u3,u4]
 refine tk 4 ?_;try simp only[Act.put,u2,u3,u4]
 refine rd1 1 fun KK hKK=> ?_;go_simp
 (go_at_call 22;refine(wZ o l m _).mono ?_;rintro e w5 ⟨rfl,bw5⟩;have bw5:Below w4.heap.size w4 w5:=zG bw5)
 refine hKK.out _ _ (by exact HC.out _ yL) fun hSS=> ?_;try simp only[Act.put,u2,u3,u4]
 refine rd1 5 fun KK hKK=> ?_;go_simp
 (go_at_call 30;refine(cO _).mono ?_;rintro e w6 ⟨rfl,bw6⟩;have bw6:=bw5.trans (bw6.mono bw5.size);have hev:=(K.step bw6).now.1.1.2)
 refine hKK.out _ _ (by exact HC.out _ yL) fun hSS=> ?_;try simp only[Act.put,u2,u3,u4]
 refine rd1 6 fun KK hKK=> ?_;go_simp
 (go_at_call 31;refine(cI _ hev).mono ?_;rintro e w7 ⟨rfl,bw7⟩;have bw7:=bw6.trans (bw7.mono bw6.size))
 refine hKK.out _ _ (by exact HC.out _ yL) fun hSS=> ?_;try simp only[Act.put,u2,u3,u4]
 refine tk 7 ?_;try simp only[Act.put,u2,u3,u4]
 refine tk 8 ?_;try simp only[Act.put,u2,u3,u4]
 refine tk 9 ?_;try simp only[Act.put,u2,u3,u4]
 refine tk 10 ?_;try simp only[Act.put,u2,u3,u4]
 refine tk 11 ?_;try simp only[Act.put,u2,u3,u4]
 refine wpAnyH_done kr ?_ _;have g:=(K.step bw7).now.1.1.1;clear bw5 bw6 bw7 cI hKK;have t1:(rd != rd)=false:=(by simp);have t2:(rb != rb)=false:=(by simp);go_wp2;go_ret;exact⟨rfl,g⟩
end Go.Proofs.YtfppmajoidkooaaGreatDoor
