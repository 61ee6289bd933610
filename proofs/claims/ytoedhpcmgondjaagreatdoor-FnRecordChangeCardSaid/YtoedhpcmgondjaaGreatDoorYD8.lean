import Derived.Test.YtoedhpcmgondjaaGreatDoorYS28
import Derived.Test.YtoedhpcmgondjaaGreatDoorYD4
set_option linter.all false
set_option maxHeartbeats 8000000
namespace Go.Proofs.YtoedhpcmgondjaaGreatDoor
open Go.RowKit Go.Proofs.Tryz
set_option maxRecDepth 100000
attribute [local instance] mU hZ
attribute [local go_sem high] zG zF zH zV zN yu zD zl zn zt zi zu y9 zK yE zJ
theorem OV {o l m:Int}{dict log L:Bs}{x:OpR}(h:apL o l m dict log x=some L):L.length≤30000:=by
 unfold apL at h
 cases hR:wU o l m dict log with
 |none=>rw[hR] at h;cases h
 |some p=>
  rw[hR,Option.bind_some] at h;split at h
  ·rename_i a;injection h with h;rw[←h,List.length_append];exact a.2.2.1
  ·cases h
theorem XH (r M:Nat)(w:World)(G:Rd w r M)(hM:M≤10000000):
 Calls prog 20 #[.pointer (some ⟨r,0,none⟩)] w fun e w'=>(∃(o l m:Int) (dict log:Bs),e= .returned (.tuple #[.agg #[(o:Int),l,m],sv dict,sv log])∧vk o l m∧dict.length≤40∧log.length≤30000)∧Rd w' r (M+1000)∧zk w.heap.size r w w':=by
 have u:=G.lt;have H:=Bk.new w #[.int .i64 0,.int .i64 0,.int .i64 0] 24;have R0:=G.alloc (.cells #[.int .i64 0,.int .i64 0,.int .i64 0] 24);have I:zk w.heap.size r w (w.alloc (.cells #[.int .i64 0,.int .i64 0,.int .i64 0] 24)):=y8 zy r;go_enter func20,ntmps20;go_wp2_with fail;refine(UH r M _ R0 oo).mono ?_;rintro e g ⟨⟨o,l,m,dict,rfl,J,a8⟩,K,h⟩;have z1:=h.size;try simp only[World.size_alloc,World.size_setCell,World.size_drew] at z1
 have y:=H.zC h oA oo;have N:=I.trans (h.mono oA);clear h I H;have z:=Bk.new g #[(o:Int),l,m] 24;have A:=y.alloc (.cells #[(o:Int),l,m] 24);have O:=K.alloc (.cells #[(o:Int),l,m] 24);have P:=N.alloc oo (.cells #[(o:Int),l,m] 24);have c3:w.heap.size<g.heap.size:=y.lt;have l1:=z.lt;have l0:=A.lt;go_upto_region 3 with(fail)
 clear K N y;generalize g.alloc (.cells #[(o:Int),l,m] 24)=w2 at*;generalize g.heap.size=i at*;go_wp2_with fail;refine(pick_any r _ 7 _ O oo oo oo).mono ?_;rintro e w3 ⟨⟨n0,rfl,Q,b1⟩,R,d⟩;have z3:=d.size;have T:=z.zC d l1 oo;have U:=A.zC d l0 oo;have V:=P.trans (d.mono oo);obtain⟨n,rfl⟩:=Int.eq_ofNat_of_zero_le Q;have c8:n≤6:=oo;clear Q b1 z A O P d;go_wp2;go_loopw [7,8] (fun x a wr=>∃(k c:Nat) (log:Bs),x= .string ⟨log.toArray⟩∧a= .int .i64 (k:Int)∧c+k=n∧log.length≤30000∧Rd wr r (M+120+100*c)∧zk w.heap.size r w wr∧Bk wr w.heap.size 24 #[.int .i64 0,.int .i64 0,.int .i64 0]∧Bk wr i 24 #[(o:Int),l,m]) (fun _ a _=>(intOf a).toNat)
 case atStart=>exact⟨n,0,[],rfl,rfl,by omega,by simp,R.mono (by omega),V,U,T⟩
 case round=>
  obtain⟨k,c,log,rfl,rfl,c9,W,B,C,j,D⟩:=hrel;clear R V U T;have z4:=C.size;have b2:=D.lt;have p:=D.cell;by_cases hk:0<k
  ·have b3:(0:Int)<k:=oo
   go_upto_region 6 with(fail)
   refine wp_region_held_drew (S:=(fun w'=>w'.cell? ⟨i,0,none⟩=some (.int .i64 o)∧w'.cell? ⟨i,1,none⟩=some (.int .i64 l)∧w'.cell? ⟨i,2,none⟩=some (.int .i64 m))) kr ?_ (fun X=> ?_);focus((refine⟨?_,?_,?_⟩;all_goals first|(simp [q];done)|(simp [s];done)|(simp [p];done)))
   refine tk 0 ?_;refine tk 1 ?_;refine tk 2 ?_;refine tk 3 ?_;refine tk 4 ?_;try simp only[Act.put,rR]
   refine rd1 5 fun KK t=> ?_;go_simp
   (go_at_call 31;refine(KL r _ o l m _ B.drew oo J).mono ?_;rintro e w7 ⟨⟨x,rfl,Y⟩,Z,f⟩;have z7:wr.heap.size≤w7.heap.size:=f.size;have E:=D.drew.zC f b2 oo;have a0:=j.drew.zC f (by show _<wr.heap.size;omega) oo;have g7:=C.drew.trans (f.mono (by show _≤wr.heap.size;omega));have s:=E.cell;have d1:=Y.1;have d2:=Y.2)
   refine t.out _ _ (by(refine⟨?_,?_,?_⟩;all_goals first|(simp [q];done)|(simp [s];done)|(simp [p];done))) fun X=> ?_;try simp only[Act.put,rR]
   refine rd1 6 fun KK t=> ?_;go_simp
   (go_at_call 38;refine(Yv o l m dict log x _ oo oo oo oo).mono ?_;rintro e w8 ⟨rfl,b⟩;have z8:=b.size;have F:=E.below b oo;have a2:=a0.below b oo;have R8:=Z.keep b;have g8:=g7.trans (y8 (b.mono oo) r);have q:=F.cell;(have a5:=fun L b6=>OV (o:=o) (l:=l) (m:=m) (dict:=dict) (log:=log) (x:=x) (L:=L) b6);generalize apL o l m dict log x=b7 at*;have b8:=Go.Lib.hid a5;clear a5;unfold yA)
   refine t.out _ _ (by(refine⟨?_,?_,?_⟩;all_goals first|(simp [q];done)|(simp [s];done)|(simp [p];done))) fun X=> ?_;try simp only[Act.put,rR]
   refine tk 7 ?_;refine tk 8 ?_;refine tk 9 ?_;refine tk 10 ?_;refine tk 11 ?_;try simp only[Act.put,rR]
   refine wpAnyH_done kr ?_ _;have a6:=R8.mono (show _≤M+120+100*(c+1) by omega);clear t p s q B Z R8 E a0 g7 b f
   cases b7 with
   |none=>
    simp only[Option.isSome_none];go_wp2;go_roundw
    case rel=>exact⟨k - 1,c+1,log,rfl,by go_num,oo,W,a6,g8,a2,F⟩
    case measure=>simp [intOf];omega
   |some L=>
    have hL:=b8.out L rfl;simp only[Option.isSome_some,Option.getD_some];go_wp2;go_roundw
    case rel=>exact⟨k - 1,c+1,L,rfl,by go_num,oo,hL,a6,g8,a2,F⟩
    case measure=>simp [intOf];omega
  ·have b3:¬(0:Int)<k:=oo
   have hF:=j.free;have hY:=j.cell;go_wp2;have b':=(((j.set 0 (.int .i64 o)).set 1 (.int .i64 l)).set 2 (.int .i64 m)).cell;have R9:Rd (((wr.setCell ⟨w.heap.size,0,none⟩ (.int .i64 o)).setCell ⟨w.heap.size,1,none⟩ (.int .i64 l)).setCell ⟨w.heap.size,2,none⟩ (.int .i64 m)) r (M+1000):=Rd.far (Rd.far (Rd.far (B.mono oo) u _) u _) u _;have g9:zk w.heap.size r w (((wr.setCell ⟨w.heap.size,0,none⟩ (.int .i64 o)).setCell ⟨w.heap.size,1,none⟩ (.int .i64 l)).setCell ⟨w.heap.size,2,none⟩ (.int .i64 m)):=zk.setCell (zk.setCell (zk.setCell C (.inr (Nat.le_refl _)) _) (.inr (Nat.le_refl _)) _) (.inr (Nat.le_refl _)) _;exact bodyPost_ret (v:=.tuple #[.agg #[(o:Int),l,m],sv dict,sv log]) (by simp [results,results20,go_sem,b']) rfl ⟨⟨o,l,m,dict,log,rfl,J,a8,W⟩,R9,g9⟩
end Go.Proofs.YtoedhpcmgondjaaGreatDoor
namespace Go.Proofs.YtoedhpcmgondjaaGreatDoor
open Go.RowKit Go.Proofs.Tryz
set_option maxRecDepth 100000
attribute [local instance] mU hZ cvZ
attribute [local go_sem high] zG zF zH zV zN yu zD zl zn zt zi zu y9 zK yE zJ
attribute [local go_sem high] oO oJ
theorem WX (S:Sto)(n:Bs)(A:Option Addr)(cap:Nat)(w:World)(x:S.ok)(s:Sl w A S.fs.length cap 2 (yz S.fs)):
 Calls prog 44 #[S.V A cap,sv n] w (rT w (.tuple #[.int .i64 (tN S.fs n:Int),.bool (wB S.fs n).isSome])):=by
 have U:=s.1;have W:=s.2.1;have Y:=x.2.1;have K:Hid (∀wr,Below w.heap.size w wr→Sl wr A S.fs.length cap 2 (yz S.fs)):=fun wr h=>s.below h;have E:Hid (∀(k:Nat) (hk:k<S.fs.length),(∀(j:Nat) (h:j<S.fs.length),j<k→Op.bytesLess S.fs[j].1 n=true)→Op.bytesLess S.fs[k].1 n=false→wB S.fs n=(if S.fs[k].1=n then some k else none)∧tN S.fs n=k):=fun k hk p h=>⟨Nl x hk p h,VX oo (fun j t=>p j oo t) (fun _=>h)⟩;have F:Hid (∀k,S.fs.length≤k→(∀(j:Nat) (h:j<S.fs.length),j<k→Op.bytesLess S.fs[j].1 n=true)→wB S.fs n=none∧tN S.fs n=S.fs.length):=fun k hk p=>⟨KQ hk p,VX (Nat.le_refl _) (fun j t=>p j t oo) (fun h=>by omega)⟩;clear s x;generalize wB S.fs n=R at*;generalize tN S.fs n=X at*;obtain⟨o,l,m,dict,fs⟩:=S;simp only at*;go_enter func44,ntmps44;have y:Bk (w.alloc (.cells #[(o:Int),l,m,dict,.slice A fs.length cap] 29)) w.heap.size 29 #[(o:Int),l,m,dict,.slice A fs.length cap]:=tBk;have G:Below w.heap.size w (w.alloc (.cells #[(o:Int),l,m,dict,.slice A fs.length cap] 29)):=zy;go_upto_region 1 with(fail)
 generalize w.alloc (.cells #[(o:Int),l,m,dict,.slice A fs.length cap] 29)=Z at*;have L:=y.cell;go_wp2;go_loopw [11] (fun i wr=>∃k:Nat,i= .int .i64 (k:Int)∧k≤fs.length∧Hid (∀(j:Nat) (h:j<fs.length),j<k→Op.bytesLess fs[j].1 n=true)∧Bk wr w.heap.size 29 #[(o:Int),l,m,dict,.slice A fs.length cap]∧Below w.heap.size w wr) (fun i _=>fs.length - (intOf i).toNat)
 case atStart=>exact⟨0,rfl,oo,fun j h t=>by omega,y,G⟩
 case round=>
  obtain⟨k,rfl,hk,u,H,q⟩:=hrel;clear y G L;have I:=q.size;by_cases z:k<fs.length
  ·have M:(k:Int)<fs.length:=oo
   obtain⟨g,a0,rfl,hg,c0,c1⟩:=(K.out _ q).fl z;by_cases B:Op.bytesLess fs[k].1 n=true
   ·have N:=Go.Lib.hid (O6 z u.out B)
    have O:=H.alloc (.cells #[.string ⟨fs[k].1.toArray⟩,.string ⟨fs[k].2.toArray⟩] 60);generalize fs[k].1=a at*;generalize fs[k].2=b at*;go_wp2;go_roundw
    case rel=>exact⟨k+1,by go_num,oo,N,O,zy⟩
    case measure=>simp [intOf];omega
   ·have P:Op.bytesLess fs[k].1 n=false:=by simpa using B
    obtain⟨c,d⟩:=E.out k z u.out P;have d:=d.symm;subst d;have J:=(Bk.new wr #[.string ⟨fs[k].1.toArray⟩,.string ⟨fs[k].2.toArray⟩] 60);have Q:=J.cell;have hG:=zM Q J.lt;clear E F B u;generalize fs[k].1=a at*;generalize fs[k].2=b at*;by_cases f:a=n
    ·have T:decide (a=n)=true:=by simpa using f
     rw[if_pos f] at c;subst c;clear f;go_wp2_with fail;refine wp_region_quiet_below kr kr ?_;repeat(go_big_quiet_step ((fail)))
     refine wpQuiet_nil ?_;intro C r;have D:Below _ _ C:=zh r;clear r;go_wp2;exact bodyPost_ret (v:=.tuple #[(k:Int),.bool true]) (by simp [results,results44,go_sem]) rfl ⟨rfl,(q.alloc I _).trans (D.mono (by simp;omega))⟩
    ·have T:decide (a=n)=false:=by simpa using f
     rw[if_neg f] at c;subst c;clear f;go_wp2_with fail;refine wp_region_quiet_below kr kr ?_;repeat(go_big_quiet_step ((fail)))
     refine wpQuiet_nil ?_;intro C r;have D:Below _ _ C:=zh r;clear r;go_wp2;exact bodyPost_ret (v:=.tuple #[(k:Int),.bool false]) (by simp [results,results44,go_sem]) rfl ⟨rfl,(q.alloc I _).trans (D.mono (by simp;omega))⟩
  ·have M:¬(k:Int)<fs.length:=oo
   obtain⟨c,d⟩:=F.out k oo u.out;subst c d;have d:=H.cell;go_wp2;exact bodyPost_ret (v:=.tuple #[(fs.length:Int),.bool false]) (by simp [results,results44,go_sem]) rfl ⟨rfl,q⟩
theorem bz (S:Sto)(x:OpR)(X:Bs)(A:Option Addr)(cap:Nat)(w:World)(B:S.dict.length≤1500000)(y:OpB x)(D:X.length≤1500000):
 Calls prog 47 #[S.V A cap,x.val,sv X] w (rS w (yA (chO S x X))):=by
 obtain⟨E,F,G,H,I,J,K,L,M,N⟩:=y;obtain⟨o,l,m,dict,fs⟩:=S;obtain⟨k,f,t,s,i,d⟩:=x;obtain⟨R,n⟩:∃R,chO ⟨o,l,m,dict,fs⟩ ⟨k,f,t,s,i,d⟩ X=R:=⟨_,rfl⟩;rw[n];unfold chO at n;simp only at*;have c:=Go.Lib.hid n;clear n;go_enter func47,ntmps47;have r:Bk ((w.alloc (.cells (Sto.C ⟨o,l,m,dict,fs⟩ A cap) 29)).alloc (.cells (OpR.cells ⟨k,f,t,s,i,d⟩) 42)) w.heap.size 29 (Sto.C ⟨o,l,m,dict,fs⟩ A cap):=tBk;have p:Bk ((w.alloc (.cells (Sto.C ⟨o,l,m,dict,fs⟩ A cap) 29)).alloc (.cells (OpR.cells ⟨k,f,t,s,i,d⟩) 42)) (w.heap.size+1) 42 (OpR.cells ⟨k,f,t,s,i,d⟩):=tBk;have j:Below w.heap.size w ((w.alloc (.cells (Sto.C ⟨o,l,m,dict,fs⟩ A cap) 29)).alloc (.cells (OpR.cells ⟨k,f,t,s,i,d⟩) 42)):=zy;simp only[Sto.C,OpR.cells] at r p j;go_upto_region 1 with(fail)
 generalize(w.alloc (.cells #[o,l,m,dict,.slice A fs.length cap] 29)).alloc (.cells #[k,i,f,t,s,d] 42)=O at*;have P:=r.cell;have Q:=p.cell;have T:=p.lt;by_cases h0:k=0
 ·have a:mkC o l m dict d s=R:=by rw[←c.out,if_pos h0]
  have b:=fun w=>fE o l m dict d s w oo oo oo oo;rw[a] at b;clear a c;subst h0;go_wp2_with fail;refine(b _).mono ?_;rintro e q ⟨rfl,g⟩;have h:=j.trans (g.mono oo);unfold yA;go_wp2;exact bodyPost_ret (v:=.tuple #[sv (R.getD []),.bool R.isSome]) (by simp [results,results47,go_sem]) rfl ⟨rfl,h⟩
 have u:(k==0)=false:=(by simpa using h0);by_cases h1:k=1
 ·have a:apD o l m dict X d s=R:=by rw[←c.out,if_neg h0,if_pos h1]
  have b:=fun w=>Zo o l m dict X d s w oo oo oo oo oo;rw[a] at b;clear a c h0 u;subst h1;go_wp2_with fail;refine(b _).mono ?_;rintro e q ⟨rfl,g⟩;have h:=j.trans (g.mono oo);unfold yA;go_wp2;exact bodyPost_ret (v:=.tuple #[sv (R.getD []),.bool R.isSome]) (by simp [results,results47,go_sem]) rfl ⟨rfl,h⟩
 have z:(k==1)=false:=(by simpa using h1);by_cases h2:k=2
 ·have a:rpD o l m dict X f t d s=R:=by rw[←c.out,if_neg h0,if_neg h1,if_pos h2]
  have b:=fun w=>dL o l m dict X f t d s w oo oo oo oo oo oo oo oo oo;rw[a] at b;clear a c h0 u h1 z;subst h2;go_wp2_with fail;refine(b _).mono ?_;rintro e q ⟨rfl,g⟩;have h:=j.trans (g.mono oo);unfold yA;go_wp2;exact bodyPost_ret (v:=.tuple #[sv (R.getD []),.bool R.isSome]) (by simp [results,results47,go_sem]) rfl ⟨rfl,h⟩
 have U:(k==2)=false:=(by simpa using h2);have a:mgD o l m dict X s=R:=(by rw[←c.out,if_neg h0,if_neg h1,if_neg h2]);have b:=fun w=>bM o l m dict X s w oo oo oo oo;rw[a] at b;clear a c h0 h1 h2;go_wp2_with fail;refine(b _).mono ?_;rintro e q ⟨rfl,g⟩;have h:=j.trans (g.mono oo);unfold yA;go_wp2;exact bodyPost_ret (v:=.tuple #[sv (R.getD []),.bool R.isSome]) (by simp [results,results47,go_sem]) rfl ⟨rfl,h⟩
end Go.Proofs.YtoedhpcmgondjaaGreatDoor
namespace Go.Proofs.YtoedhpcmgondjaaGreatDoor
open Go.RowKit Go.Proofs.Tryz
set_option maxRecDepth 100000
attribute [local instance] mU hZ cvZ
attribute [local go_sem high] zG zF zH zV zN yu zD zl zn zt zi zu y9 zK yE zJ
theorem fP (r M:Nat)(l:Bs)(w:World)(o:Rd w r M)(C:M≤30000000)(D:l.length≤100000):
 Calls prog 25 #[.pointer (some ⟨r,0,none⟩),sv l] w fun e w'=>(∃x:Bs,e= .returned (sv x)∧x.length≤l.length+10)∧Rd w' r (M+20)∧zk w.heap.size r w w':=by
 have E:=o.lt;have t:=o;have p:=zk.refl w.heap.size r w;go_enter func25,ntmps25;go_wp2_with fail;refine(pick_any r M (l.length+1) _ t oo oo oo).mono ?_;rintro e F ⟨⟨v,rfl,f,q⟩,u,g⟩;have y:=g.size;try simp only[World.size_alloc,World.size_setCell,World.size_drew] at y
 have s:=p.trans (g.mono oA);clear g p;obtain⟨n,rfl⟩:=Int.eq_ofNat_of_zero_le f;have G:n≤l.length:=oo;have H:(n:Int)≤l.length:=oo;clear f q;go_wp2_with fail;refine(pick_any r _ 5 _ u oo oo oo).mono ?_;rintro e I ⟨⟨k,rfl,J,K⟩,c,h⟩;have z:=h.size;try simp only[World.size_alloc,World.size_setCell,World.size_drew] at z
 have a:=s.trans (h.mono oA);clear h s;by_cases h0:k=0
 ·subst h0
  go_wp2;go_ret;exact⟨⟨l.take n,(by simp [sv]),by simp;omega⟩,c.mono (by omega),a⟩
 have L:(k==0)=false:=(by rw[beq_eq_false_iff_ne];exact h0);by_cases h1:k=1
 ·subst h1
  by_cases N:n<l.length
  ·have A:(n:Int)<l.length:=oo
   have O:(l.take n).length≤100000:=(by simp;omega);have P:(l.drop (n+1)).length≤100000:=(by simp;omega);have Q:((n:Int)+1).toNat=n+1:=oo;have R:=dh l (n+1);have S:¬9223372036854775807<n+1:=oo;have T:¬9223372036854775807<n+1+(l.length - (n+1)):=oo;have U:IntKind.i64.wrap ((n:Int)+1)=(n:Int)+1:=IntWalk.i64_in _ oo;go_wp2_with fail;go_region_with(go_at_call 21;refine(pick_any r _ 256 _ (Rd.drew c) (by omega) (by omega) (by omega)).mono ?_;rintro e B ⟨⟨v,rfl,f,q⟩,i,b⟩;have j:=b.size;simp only[World.size_drew] at j;have m:=(zk.drew a).trans (b.mono (by simp;omega)))
   all_goals
    go_wp2;go_ret;refine⟨⟨_,rfl,?_⟩,(i.alloc _).mono oo,m.alloc oo _⟩;simp;omega
  ·have A:¬(n:Int)<l.length:=oo
   go_wp2;go_ret;exact⟨⟨l,rfl,oo⟩,c.mono oo,a⟩
 have V:(k==1)=false:=(by rw[beq_eq_false_iff_ne];exact h1);by_cases h2:k=2
 ·subst h2
  go_wp2_with fail;refine(aU r _ 8 _ c oo oo).mono ?_;rintro e B ⟨⟨d,rfl,W⟩,i,b⟩;have j:=b.size;try simp only[World.size_alloc,World.size_setCell,World.size_drew] at j
  have m:=a.trans (b.mono oA);clear b a;have X:¬9223372036854775807<l.length+d.length:=oo;go_wp2;go_ret;exact⟨⟨l++d,(by simp [sv]),by simp;omega⟩,i.mono (by omega),m⟩
 have Y:(k==2)=false:=(by rw[beq_eq_false_iff_ne];exact h2);go_wp2;go_ret;exact⟨⟨l,rfl,oo⟩,c.mono oo,a⟩
def DrL (w:World)(e:Ending)(w':World):Prop:=(∃(o l m:Int) (dict log:Bs),e= .returned (.tuple #[.agg #[o,l,m],sv dict,sv log])∧dict.length≤40∧log.length≤30100)∧Below w.heap.size w w'
theorem N9 (x:UInt8)(n:Nat):(rep [x] n).length=n:=by simp [rep]
theorem oN (h:Bs)(A:Option Addr)(cap:Nat)(w:World)(M:Sl w A h.length cap 1 (h.map u8v)):
 Calls prog 7 #[.slice A h.length cap] w (DrL w):=by
 unfold DrL;go_enter func7,ntmps7;have E:=Bk.new w #[.int .i64 0,.int .i64 0,.int .i64 0] 24;have F:Below w.heap.size w (w.alloc (.cells #[.int .i64 0,.int .i64 0,.int .i64 0] 24)):=zy;have N:=M.below F;go_upto_region 1 with(fail)
 generalize w.alloc (.cells #[.int .i64 0,.int .i64 0,.int .i64 0] 24)=O at*;have z0:=E.lt;go_wp2_with fail;refine(Yc h A cap _ N).mono ?_;rintro e w1 ⟨rfl,P,i⟩;have z1:=i.size;have Q:=E.below i z0;have R:zk w.heap.size O.heap.size w w1:=y8 (F.trans (i.mono oo)) _;clear i M N E F;generalize b':O.heap.size=r at*;have c0:=P.lt;go_wp2_with fail;refine(XH r _ _ P oo).mono ?_;rintro e j ⟨⟨o,l,m,dict,log,rfl,a5,a6,c1⟩,S,k⟩;have z2:=k.size;try simp only[World.size_alloc,World.size_setCell,World.size_drew] at z2
 have T:=Q.zC k oA oo;have U:=R.trans (k.mono oA);clear k R Q;have G:=Bk.new j #[(o:Int),l,m] 24;have R3:=S.alloc (.cells #[(o:Int),l,m] 24);have V:=T.alloc (.cells #[(o:Int),l,m] 24);have W:=U.alloc oo (.cells #[(o:Int),l,m] 24);clear S U T;go_upto_region 3 with(fail)
 generalize j.alloc (.cells #[(o:Int),l,m] 24)=w3 at*;have z3:=G.lt;have zq:r<j.heap.size:=oo;generalize j.heap.size=bb at*;go_wp2_with fail;refine(pick_any r _ 40 _ R3 oo oo oo).mono ?_;rintro e H ⟨⟨v,rfl,c5,c6⟩,I,a⟩;have z4:=a.size;try simp only[World.size_alloc,World.size_setCell,World.size_drew] at z4
 have n:=V.zC a oA oo;have p:=G.zC a oA oo;have q:=W.trans (a.mono oA);clear a W V G;go_upto_if 19 with(fail)
 go_cut [8] (fun x s=>∃t:Bs,x=sv t∧t.length≤30001∧Rd s r 1010∧zk w.heap.size r w s∧Bk s w.heap.size 24 #[.int .i64 0,.int .i64 0,.int .i64 0]∧Bk s bb 24 #[(o:Int),l,m])
 case first=>
  by_cases X:v=0
  ·subst X
   have Y:=Sl.list H [.int .i64 30000,.int .i64 30001] 3 H.heap.size 2 rfl rfl oo;go_wp2_with fail;refine(sZ r _ [30000,30001] (some ⟨H.heap.size,0,none⟩) 2 _ (I.alloc _) (by omega) Y (by simp) (by simp) (by rintro g c7 ⟨⟩;omega)).mono ?_;rintro e w5 ⟨⟨y,J,rfl⟩,u,b⟩;have Z:=b.size;try simp only[World.size_alloc,World.size_setCell,World.size_drew] at Z
   have c:=(n.alloc _).zC b oA oo;have d:=(p.alloc _).zC b oA oo;have f:=(q.alloc oC _).trans (b.mono oA);clear b q n p;have c8:0≤y∧y≤30001:=by
    simp only[List.mem_cons,List.not_mem_nil,or_false] at J;rcases J with b1|b1<;>omega
   clear J Y;have cM:=fun w=>Yj [120] y w (by simp;omega) (by simp) (by omega);have c9:=N9 120 y.toNat;generalize rep [120] y.toNat=b3 at*;go_wp2_with fail;refine(cM _).mono ?_;rintro e w' ⟨rfl,rfl⟩;go_wp2;go_meet;exact⟨b3,rfl,oo,u.mono oo,f,c,d⟩
  ·have c':(v==0)=false:=by rw[beq_eq_false_iff_ne];exact X
   go_wp2;go_meet;exact⟨log,rfl,oo,I.mono oo,q,n,p⟩
 obtain⟨t,rfl,d0,u,f,c,d⟩:=hcut;generalize wc=w5 at*;clear I q n p;have b4:=d.cell;have Z:=f.size;have d1:=c.lt;have d2:=d.lt;go_wp2_with fail;refine(WI r _ o l m _ u oo a5).mono ?_;rintro e w6 ⟨⟨z,B,C,rfl⟩,R6,D⟩;have z6:=D.size;have g6:=f.trans (D.mono oo);have a2:=c.zC D oo oo;clear D u f c d b4;go_wp2_with fail;refine(fP r _ t _ R6 oo oo).mono ?_;rintro e w7 ⟨⟨x,rfl,hx⟩,R7,K⟩;have g7:=g6.trans (K.mono oo);have L:=a2.zC K oo oo;have hF:=L.free;have hY:=L.cell;clear K R6 g6 a2;go_wp2;have b7:=(((L.set 0 (.int .i64 z)).set 1 (.int .i64 B)).set 2 (.int .i64 C)).cell;have g9:zk w.heap.size r w (((w7.setCell ⟨w.heap.size,0,none⟩ (.int .i64 z)).setCell ⟨w.heap.size,1,none⟩ (.int .i64 B)).setCell ⟨w.heap.size,2,none⟩ (.int .i64 C)):=zk.setCell (zk.setCell (zk.setCell g7 (.inr (Nat.le_refl _)) _) (.inr (Nat.le_refl _)) _) (.inr (Nat.le_refl _)) _;exact bodyPost_ret (v:=.tuple #[.agg #[(z:Int),B,C],sv dict,sv x]) (by simp [results,results7,go_sem,b7]) rfl ⟨⟨z,B,C,dict,x,rfl,a6,by omega⟩,g9.below (by omega)⟩
theorem Qd {c w:World}{r B b:Nat}(h:zk B r c w)(a:B≤b)(x:OpR):zk B r c (opW w b x):=
 (((((h.setCell (p:=⟨b,0,none⟩) (.inr a) _).setCell (p:=⟨b,1,none⟩) (.inr a) _).setCell (p:=⟨b,2,none⟩) (.inr a) _).setCell (p:=⟨b,3,none⟩) (.inr a) _).setCell (p:=⟨b,4,none⟩) (.inr a) _).setCell (p:=⟨b,5,none⟩) (.inr a) _
theorem Jk {o l m:Int}{dict log:Bs} :((wU o l m dict log).map (·.1)).getD y7=y7∨(((wU o l m dict log).map (·.1)).getD y7).ok:=by
 cases h:wU o l m dict log with
 |none=>exact .inl rfl
 |some p=>
  obtain⟨T,n⟩:=p;obtain⟨b,xs,_,a⟩:=nV h;exact .inr a.ok.1
theorem NG {T:Sto}(h:T=y7∨T.ok):T.fs.length≤6∧∀f ∈ T.fs,f.1.length≤100:=by
 rcases h with rfl|h
 ·exact⟨by simp [y7],fun f a=>by simp [y7] at a⟩
 ·refine⟨h.2.1,fun f a=> ?_⟩
  obtain⟨i,b,rfl⟩:=List.mem_iff_getElem.1 a;obtain⟨h1,h2,_⟩:=h.2.2 i b;have:=qY h1;omega
def Ia (w:World)(e:Ending)(w':World):Prop:=(∃(o l m:Int) (dict log:Bs) (x:OpR),e= .returned (.tuple #[.agg #[o,l,m],sv dict,sv log,x.val])∧dict.length≤40∧log.length≤30100∧bJ x)∧Below w.heap.size w w'
theorem dJ (bs:Bs)(A:Option Addr)(cap:Nat)(w:World)(hs:Sl w A bs.length cap 1 (bs.map u8v)):
 Calls prog 15 #[.slice A bs.length cap] w (Ia w):=by
 unfold Ia;go_enter func15,ntmps15;have e8:Bk ((w.alloc (.cells #[.int .i64 0,.int .i64 0,.int .i64 0] 24)).alloc (.cells #[.int .i64 0,.string ⟨#[]⟩,.int .i64 0,.int .i64 0,.int .i64 0,.string ⟨#[]⟩] 42)) w.heap.size 24 #[.int .i64 0,.int .i64 0,.int .i64 0]:=tBk;have e9:Bk ((w.alloc (.cells #[.int .i64 0,.int .i64 0,.int .i64 0] 24)).alloc (.cells #[.int .i64 0,.string ⟨#[]⟩,.int .i64 0,.int .i64 0,.int .i64 0,.string ⟨#[]⟩] 42)) (w.heap.size+1) 42 #[.int .i64 0,.string ⟨#[]⟩,.int .i64 0,.int .i64 0,.int .i64 0,.string ⟨#[]⟩]:=tBk;have gz:Below w.heap.size w ((w.alloc (.cells #[.int .i64 0,.int .i64 0,.int .i64 0] 24)).alloc (.cells #[.int .i64 0,.string ⟨#[]⟩,.int .i64 0,.int .i64 0,.int .i64 0,.string ⟨#[]⟩] 42)):=zy;have h6:=hs.below gz;go_upto_region 1 with(fail)
 generalize(w.alloc (.cells #[.int .i64 0,.int .i64 0,.int .i64 0] 24)).alloc (.cells #[.int .i64 0,.string ⟨#[]⟩,.int .i64 0,.int .i64 0,.int .i64 0,.string ⟨#[]⟩] 42)=w0 at*;have z0:=e9.lt;have k9:=e8.lt;go_wp2_with fail;refine(Yc bs A cap _ h6).mono ?_;rintro e w1 ⟨rfl,R1,c1⟩;have z1:=c1.size;have h8:=e8.below c1 k9;have h9:=e9.below c1 z0;have g1:zk w.heap.size w0.heap.size w w1:=y8 (gz.trans (c1.mono oo)) _;clear c1 hs h6 e8 e9 gz;generalize o9:w0.heap.size=r at*;have o':=R1.lt;go_wp2_with fail;refine(XH r _ _ R1 oo).mono ?_;rintro e w2 ⟨⟨o,l,m,dict,log,rfl,f1,k',p0⟩,R2,c2⟩;have z2:=c2.size;have i0:=(h8.zC c2 oo oo).alloc (.cells #[(o:Int),l,m] 24);have i1:=(h9.zC c2 oo oo).alloc (.cells #[(o:Int),l,m] 24);have i2:=(g1.trans (c2.mono oo)).alloc oo (.cells #[(o:Int),l,m] 24);have R2:=R2.alloc (.cells #[(o:Int),l,m] 24);have d7:=Bk.new w2 #[(o:Int),l,m] 24;clear c2 h8 h9 R1 g1;go_upto_region 3 with(fail)
 generalize w2.alloc (.cells #[(o:Int),l,m] 24)=w3 at*;have l2:=d7.lt;have p1:w1.heap.size≤w2.heap.size:=z2;generalize w2.heap.size=C at*;have cR:=uG o l m dict log w3 oo oo;obtain⟨t1,t3⟩:=NG (Jk (o:=o) (l:=l) (m:=m) (dict:=dict) (log:=log));unfold Qb StI at cR;generalize((wU o l m dict log).map fun p:Sto×Int=>p.1).getD y7=T at*;generalize((wU o l m dict log).map fun p:Sto×Int=>p.2).getD 0=tn at*;generalize(wU o l m dict log).isSome=p3 at*;obtain⟨F,G,H,I,P⟩:=T;try simp only at t1 t3
 have hX:=d7.cell;go_wp2_with fail;refine cR.mono ?_;rintro e w4 ⟨z,f,rfl,o4,X⟩;try simp only at o4
 have z4:=X.size;have f4:=(d7.below X l2).alloc (.cells #[F,G,H,I,.slice z P.length f] 29);have i4:=(i0.below X oo).alloc (.cells #[F,G,H,I,.slice z P.length f] 29);have i5:=(i1.below X oo).alloc (.cells #[F,G,H,I,.slice z P.length f] 29);have R4:=(R2.keep X).alloc (.cells #[F,G,H,I,.slice z P.length f] 29);have l4:∀k,(Value.slice z P.length f).ownBlock=some k→C<k∧k<w4.heap.size:=fun k hk=>(by have:=o4.lt k hk;omega);have o4:=World.ownsRow.alloc (zI (B':=w1.heap.size) o4 oo) (.cells #[F,G,H,I,.slice z P.length f] 29);have g4:=(i2.trans (y8 (X.mono oo) r)).alloc oo (.cells #[F,G,H,I,.slice z P.length f] 29);have f6:=Bk.new w4 #[F,G,H,I,.slice z P.length f] 29;clear cR X d7 i0 i1 R2 i2 hX;go_upto_region 4 with(fail)
 generalize w4.alloc (.cells #[F,G,H,I,.slice z P.length f] 29)=p5 at*;have l5:=f6.lt;have p6:=g4.size;have p7:C<w4.heap.size:=oo;generalize w4.heap.size=bb at*;have hX:=f4.cell;go_wp2_with fail;refine(Lm r _ o l m _ R4 oo ⟨f1.2.1|>fun h=>by omega,f1.2.2.1⟩).mono ?_;rintro e d8 ⟨⟨x,rfl,hx⟩,R5,N⟩;have z5:=N.size;obtain⟨ok,of,q,s,D,y⟩:=x;obtain⟨i7,i8⟩:=hx;simp only at i7 i8;have d9:=(f4.zC N oo oo).alloc (.cells #[ok,D,of,q,s,y] 42);have c4:=(f6.zC N l5 oo).alloc (.cells #[ok,D,of,q,s,y] 42);have d':=(i4.zC N oo oo).alloc (.cells #[ok,D,of,q,s,y] 42);have e0:=(i5.zC N oo oo).alloc (.cells #[ok,D,of,q,s,y] 42);have o5:=World.ownsRow.alloc (yY o4 N oo) (.cells #[ok,D,of,q,s,y] 42);have g5:=(g4.trans (N.mono oo)).alloc oo (.cells #[ok,D,of,q,s,y] 42);have R5:=R5.alloc (.cells #[ok,D,of,q,s,y] 42);have c6:=Bk.new d8 #[ok,D,of,q,s,y] 42;clear N f4 f6 i4 i5 R4 o4 g4 hX;go_upto_region 5 with(fail)
 generalize d8.alloc (.cells #[ok,D,of,q,s,y] 42)=w5 at*;have l9:=c6.lt;have z5:=g5.size;have p8:bb<d8.heap.size:=oo;generalize d8.heap.size=c at*;have i':=c4.cell;go_cut [41] (fun v a=>∃tb:Bool,v= .bool tb∧Hid (tb=true→0<P.length)∧Rd a r 1200∧Bk a C 24 #[(o:Int),l,m]∧Bk a bb 29 #[F,G,H,I,.slice z P.length f]∧Bk a c 42 #[ok,D,of,q,s,y]∧Bk a w.heap.size 24 #[.int .i64 0,.int .i64 0,.int .i64 0]∧Bk a (w.heap.size+1) 42 #[.int .i64 0,.string ⟨#[]⟩,.int .i64 0,.int .i64 0,.int .i64 0,.string ⟨#[]⟩]∧a.ownsRow w1.heap.size 60 2 (.slice z P.length f) P.length (yz P)∧zk w.heap.size r w a∧w5.heap.size≤a.heap.size)
 case first=>
  by_cases j0:P.length=0
  ·have j1:¬(0:Int)<P.length:=oo
   have a8:Hid (false=true→0<P.length):=fun h=>(by cases h);clear j0;go_wp2;go_meet;exact⟨false,rfl,a8,R5.mono oo,d9,c4,c6,d',e0,o5,g5,Nat.le_refl _⟩
  have j1:(0:Int)<P.length:=oo;have a8:∀b:Bool,Hid (b=true→0<P.length):=fun b _=>(by omega);go_wp2_with fail;refine(pick_any r _ 4 _ R5 oo oo oo).mono ?_;rintro e w6 ⟨⟨v,rfl,l',m0⟩,O,J⟩;have z6:=J.size;have Q:=d9.zC J oo oo;have K:=c4.zC J oo oo;have L:=c6.zC J l9 oo;have R:=d'.zC J oo oo;have U:=e0.zC J oo oo;have M:=yY o5 J oo;have V:=g5.trans (J.mono oo);clear J d9 c4 c6 d' e0 R5 o5 g5 i';go_wp2;go_meet;exact⟨_,rfl,a8 _,O.mono oo,Q,K,L,R,U,M,V,z6⟩
 obtain⟨tb,rfl,a8,O,Q,K,L,R,U,M,V,z6⟩:=hcut;generalize wc=w6 at*;clear d9 c4 c6 d' e0 R5 o5 g5 i';have m1:=K.lt;go_upto_if 41 with(fail)
 go_cut [13] (fun v a=>∃n:Bs,v= .pointer (some ⟨c,0,none⟩)∧n.length≤100∧Rd a r 1300∧Bk a C 24 #[(o:Int),l,m]∧Bk a bb 29 #[F,G,H,I,.slice z P.length f]∧Bk a c 42 #[ok,n,of,q,s,y]∧Bk a w.heap.size 24 #[.int .i64 0,.int .i64 0,.int .i64 0]∧Bk a (w.heap.size+1) 42 #[.int .i64 0,.string ⟨#[]⟩,.int .i64 0,.int .i64 0,.int .i64 0,.string ⟨#[]⟩]∧a.ownsRow w1.heap.size 60 2 (.slice z P.length f) P.length (yz P)∧zk w.heap.size r w a∧w5.heap.size≤a.heap.size)
 case first=>
  cases tb with
  |false=>
   go_wp2;go_meet;exact⟨D,rfl,i7,O.mono oo,Q,K,L,R,U,M,V,z6⟩
  |true=>
  have j0:=a8.out rfl;have j1:(0:Int)<P.length:=oo;clear a8;have m2:=K.cell;obtain⟨g,rfl,p9,m3⟩:=Zy M oo;have p':C<g∧g<bb:=l4 g rfl;have j2:∀j u,(yz P)[j]? =some u→w6.cell? ⟨g,j,none⟩=some u:=fun j u hu=>by
   rw[M.cellAt j (by have:=(List.getElem?_eq_some_iff.1 hu).1;rw[ui] at this;exact this)];exact hu
  go_upto_region 6 with(fail)
  refine yV 11 (fun w'=>w'.cell? ⟨bb,4,none⟩=some (.slice (some ⟨g,0,none⟩) P.length f)∧(∀j u,(yz P)[j]? =some u→w'.cell? ⟨g,j,none⟩=some u)) kr kr (by exact⟨m2 4,j2⟩) (fun a'=> ?_);simp only[List.take_succ_cons,List.take_zero];refine tk 0 ?_;refine tk 1 ?_;refine tk 2 ?_;refine tk 3 ?_;refine tk 4 ?_;refine tk 5 ?_;try simp only[Act.put,rR]
  refine rd1 6 fun KK E=> ?_;go_simp
  (go_at_call 21;refine(pick_any r _ P.length _ O.drew oo oo oo).mono ?_;rintro e w7 ⟨⟨p,rfl,j3,m4⟩,R7,d⟩;have d:zk w6.heap.size r w6 w7:=⟨d.os,d.tape,d.output,d.size,d.block⟩;have z7:=d.size;have b1:=Q.zC d oo oo;have j4:=K.zC d oo oo;have W:=L.zC d oo oo;have b2:=R.zC d oo oo;have b3:=U.zC d oo oo;have o7:=yY M d oo;have g7:=V.trans (d.mono oo);have m7:=j4.cell;have q0:=W.cell;have q1:=W.free;have m8:∀j u,(yz P)[j]? =some u→w7.cell? ⟨g,j,none⟩=some u:=(fun j u hu=>(d.cell (p:=⟨g,j,none⟩) m3 (by show g≠r;omega)).trans (j2 j u hu)))
  refine E.out _ _ (by exact⟨m7 4,m8⟩) fun a'=> ?_;try simp only[Act.put,rR]
  obtain⟨e5,rfl⟩:=Int.eq_ofNat_of_zero_le j3;have hq:e5<P.length:=oo;have q2:(e5:Int)<P.length:=oo;have j6:=(ZJ P e5 hq).1;have f7:=t3 _ (List.getElem_mem hq);simp only[Nat.add_zero] at j6;generalize P[e5].1=j7 at*;clear j3 m4;refine tk 7 ?_;refine tk 8 ?_;try simp only[Act.put,rR]
  refine wpAnyH_take (i:=9) (v:= ?_) rfl kr kr kr (fun _ _ _ h=>h) (Or.inl ⟨by rfl,?_⟩) (by assumption) ?_
  rotate_left
  focus(intro w f8;(try dsimp only at f8);have q3:=f8.2 _ _ j6;clear f8;go_simp;try with_reducible rfl)
  try simp only[Act.put,rR]
  refine tk 10 ?_;try simp only[Act.put,rR]
  refine wpAnyH_done kr ?_ _;refine yJ ?_;refine wpOp_step (o:=_) rfl (fun KK E=> ?_);go_simp;refine E _ _ (NoPanic.normal ?_);try simp only[Act.put,rR]
  have j8:=W.set 1 (.string ⟨j7.toArray⟩);simp only[List.setIfInBounds_toArray,List.set_cons_zero,List.set_cons_succ] at j8;go_wp2;go_meet;exact⟨j7,rfl,f7,(Rd.far R7 (p:=⟨c,1,none⟩) (by show r<c;omega) _).mono (by omega),b1.far (p:=⟨c,1,none⟩) (by show C≠c;omega) _,j4.far (p:=⟨c,1,none⟩) (by show bb≠c;omega) _,j8,b2.far (p:=⟨c,1,none⟩) (by show w.heap.size≠c;omega) _,b3.far (p:=⟨c,1,none⟩) (by show w.heap.size+1≠c;omega) _,zL o7 (p:=⟨c,1,none⟩) (fun k hk=>by have h:g=k:=(by injection hk);show k≠c;omega) _,zk.setCell g7 (p:=⟨c,1,none⟩) (.inr (by show w.heap.size≤c;omega)) _,by simp;omega⟩
 case rest=>
  clear Q K L R U O M V z6 m1;obtain⟨n,rfl,f7,O,Q,K,L,R,U,M,V,z6⟩:=hcut;clear w6 K M;generalize wc=w6 at*;have lO:=L.lt;go_wp2_with fail;refine(pick_any r _ 8 _ O oo oo oo).mono ?_;rintro e w7 ⟨⟨v,rfl,l',m0⟩,R7,d⟩;have z7:=d.size;have b1:=Q.zC d oo oo;have W:=L.zC d lO oo;have b2:=R.zC d oo oo;have b3:=U.zC d oo oo;have g7:=V.trans (d.mono oo);clear d O Q L R U V;go_upto_if 55 with(fail)
  go_cut [9] (fun x a=>∃lg:Bs,x=sv lg∧lg.length≤30100∧Rd a r 1400∧Bk a C 24 #[(o:Int),l,m]∧Bk a c 42 #[ok,n,of,q,s,y]∧Bk a w.heap.size 24 #[.int .i64 0,.int .i64 0,.int .i64 0]∧Bk a (w.heap.size+1) 42 #[.int .i64 0,.string ⟨#[]⟩,.int .i64 0,.int .i64 0,.int .i64 0,.string ⟨#[]⟩]∧zk w.heap.size r w a∧w7.heap.size≤a.heap.size)
  case first=>
   by_cases hv:v=0
   ·subst hv
    go_wp2_with fail;refine(fP r _ log _ R7 oo oo).mono ?_;rintro e w8 ⟨⟨x,rfl,q4⟩,R8,Y⟩;have z8:=Y.size;have c':=b1.zC Y oo oo;have d0:=W.zC Y oo oo;have f':=b2.zC Y oo oo;have g0:=b3.zC Y oo oo;have g8:=g7.trans (Y.mono oo);clear Y R7 b1 W b2 b3 g7;go_wp2;go_meet;exact⟨x,rfl,oo,R8.mono oo,c',d0,f',g0,g8,z8⟩
   ·have q5:(v==0)=false:=by rw[beq_eq_false_iff_ne];exact hv
    go_wp2;go_meet;exact⟨log,rfl,oo,R7.mono oo,b1,W,b2,b3,g7,Nat.le_refl _⟩
  obtain⟨lg,rfl,m9,R8,c',d0,f',g0,g8,z8⟩:=hcut;generalize wc=w8 at*;clear R7 b1 W b2 b3 g7;have g2:=c'.cell;have b5:=d0.cell;have lS:=c'.lt;have lO:=d0.lt;go_upto_region 9 with(fail)
  refine wp_region_held_drew (S:=(fun w'=>w'.cell? ⟨C,0,none⟩=some (.int .i64 o)∧w'.cell? ⟨C,1,none⟩=some (.int .i64 l)∧w'.cell? ⟨C,2,none⟩=some (.int .i64 m)∧w'.cell? ⟨c,0,none⟩=some (.int .i64 ok)∧w'.cell? ⟨c,1,none⟩=some (.string ⟨n.toArray⟩)∧w'.cell? ⟨c,2,none⟩=some (.int .i64 of)∧w'.cell? ⟨c,3,none⟩=some (.int .i64 q)∧w'.cell? ⟨c,4,none⟩=some (.int .i64 s)∧w'.cell? ⟨c,5,none⟩=some (.string ⟨y.toArray⟩))) kr ?_ (fun a'=> ?_);focus(exact⟨g2 0,g2 1,g2 2,b5 0,b5 1,b5 2,b5 3,b5 4,b5 5⟩)
  refine tk 0 ?_;refine tk 1 ?_;refine tk 3 ?_;refine tk 4 ?_;refine tk 5 ?_;refine tk 6 ?_;try simp only[Act.put,rR]
  refine rd1 2 fun KK E=> ?_;go_simp
  (go_at_call 24;refine(WI r _ o l m _ R8.drew oo f1).mono ?_;rintro e w9 ⟨⟨yo,yl,ym,rfl⟩,R9,B⟩;have z9:w8.heap.size≤w9.heap.size:=B.size;have B:zk w8.heap.size r w8 w9:=⟨B.os,B.tape,B.output,B.size,B.block⟩;have k2:=c'.zC B oo oo;have k3:=d0.zC B oo oo;have n0:=f'.zC B oo oo;have n1:=g0.zC B oo oo;have n2:=g8.trans (B.mono oo);have g3:=k2.cell;have b6:=k3.cell)
  refine E.out _ _ (by exact⟨g3 0,g3 1,g3 2,b6 0,b6 1,b6 2,b6 3,b6 4,b6 5⟩) fun a'=> ?_;try simp only[Act.put,rR]
  refine rd1 7 fun KK E=> ?_;go_simp
  (go_at_call 32;refine(U7 r _ ok of q s n y _ R9 oo f7 i8).mono ?_;rintro e g6 ⟨⟨n3,rfl,hy⟩,q8,b7⟩;have q9:=b7.size;have k4:=k2.zC b7 oo oo;have k5:=k3.zC b7 oo oo;have g9:=n0.zC b7 oo oo;have n5:=n1.zC b7 oo oo;have n6:=n2.trans (b7.mono oo);have g':=k4.cell;have b8:=k5.cell;have q':=g9.cell;have r0:=g9.free;obtain⟨Z,yf,yt,ys,yn,yd⟩:=n3)
  refine E.out _ _ (by exact⟨g' 0,g' 1,g' 2,b8 0,b8 1,b8 2,b8 3,b8 4,b8 5⟩) fun a'=> ?_;try simp only[Act.put,rR]
  have h0:∀e7,e7≠w.heap.size→∀ {t cs},Bk g6 e7 t cs→Bk (((g6.setCell ⟨w.heap.size,0,none⟩ (.int .i64 yo)).setCell ⟨w.heap.size,1,none⟩ (.int .i64 yl)).setCell ⟨w.heap.size,2,none⟩ (.int .i64 ym)) e7 t cs:=fun e7 h1 t cs h=>((h.far (p:=⟨w.heap.size,0,none⟩) h1 _).far (p:=⟨w.heap.size,1,none⟩) h1 _).far (p:=⟨w.heap.size,2,none⟩) h1 _;have k6:=h0 C oo k4;have k7:=h0 c oo k5;have h2:=h0 (w.heap.size+1) oo n5;have n7:=((g9.set 0 (.int .i64 yo)).set 1 (.int .i64 yl)).set 2 (.int .i64 ym);have n8:zk w.heap.size r w (((g6.setCell ⟨w.heap.size,0,none⟩ (.int .i64 yo)).setCell ⟨w.heap.size,1,none⟩ (.int .i64 yl)).setCell ⟨w.heap.size,2,none⟩ (.int .i64 ym)):=zk.setCell (zk.setCell (zk.setCell n6 (.inr (Nat.le_refl _)) _) (.inr (Nat.le_refl _)) _) (.inr (Nat.le_refl _)) _;have h3:=k6.cell;have b9:=k7.cell;have r1:=h2.cell;have r2:=h2.free;refine rd1 8 fun KK E=> ?_;go_simp;refine E.out _ _ (by exact⟨h3 0,h3 1,h3 2,b9 0,b9 1,b9 2,b9 3,b9 4,b9 5⟩) fun a'=> ?_;try simp only[Act.put,rR]
  refine tk 9 ?_;refine tk 10 ?_;try simp only[Act.put,rR]
  have n9:=Qo k6 (b:=w.heap.size+1) oo ⟨Z,yf,yt,ys,yn,yd⟩;have n':=Qo k7 (b:=w.heap.size+1) oo ⟨Z,yf,yt,ys,yn,yd⟩;have o0:=Qo n7 (b:=w.heap.size+1) oo ⟨Z,yf,yt,ys,yn,yd⟩;have o1:=J8 h2 ⟨Z,yf,yt,ys,yn,yd⟩;have o2:=Qd n8 (b:=w.heap.size+1) oo ⟨Z,yf,yt,ys,yn,yd⟩;have h4:=n9.cell;have b':=n'.cell;refine rd1 11 fun KK E=> ?_;go_simp;refine E.out _ _ (by exact⟨h4 0,h4 1,h4 2,b' 0,b' 1,b' 2,b' 3,b' 4,b' 5⟩) fun a'=> ?_;try simp only[Act.put,rR]
  refine wpAnyH_done kr ?_ _;have Q1:=o0.cell;have Q2:=o1.cell;go_wp2;exact bodyPost_ret (v:=.tuple #[.agg #[(yo:Int),yl,ym],sv dict,sv lg,OpR.val ⟨Z,yf,yt,ys,yn,yd⟩]) (by simp [results,results15,go_sem,Q1,Q2]) rfl ⟨⟨yo,yl,ym,dict,lg,⟨Z,yf,yt,ys,yn,yd⟩,rfl,k',m9,hy⟩,o2.below (by omega)⟩
