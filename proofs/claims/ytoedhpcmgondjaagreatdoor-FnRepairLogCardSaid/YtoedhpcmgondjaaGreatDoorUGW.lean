import Derived.Test.YtoedhpcmgondjaaGreatDoorUGB
set_option linter.all false
set_option maxHeartbeats 8000000
namespace Go.Proofs.YtoedhpcmgondjaaGreatDoor
open Go.Lib(hid)
open Go.RowKit Go.Proofs.Tryz
attribute [local instance] mU hZ cvZ
attribute [local go_sem high] zA zB zD zS zL yf zC zk zl zt zi zu yR zG yu zH
theorem Yw (l:Bs)(w:World)(j:l.length≤9223372036854775807):
 Calls prog 35 #[l] w fun e w'=>e= .returned (.bool (uj l))∧w=w':=by
 go_enter func35,ntmps35;go_wp2
 ·go_ret
  refine⟨zT ?_,rfl⟩;rw[eq_comm,uj,Bool.and_eq_false_iff];left;simp;omega
 ·go_loop [14] (fun k=>∃n:Nat,n≤l.length∧k= .int .i64 n∧(l.take n).all nameB=true) (fun k=>l.length - (intOf k).toNat)
  case atStart=>exact⟨0,Nat.zero_le _,rfl,rfl⟩
  case round=>
   obtain⟨k,hk,rfl,b⟩:=hrel;have c:=hid b;clear b;by_cases a:k<l.length
   ·have d:=hid (Xf l k a)
    have g:=hid (rD nameB l k a);have m:=zN l k;have o:=yx l k;by_cases h:97≤byteAt l k∧byteAt l k≤122
    ·obtain⟨i,p⟩:=h
     go_wp2;go_round
     case rel=>exact⟨k+1,by omega,by go_num,by rw[g.out,c.out,d.out];simp;omega⟩
     case measure=>simp [intOf];omega
    ·by_cases i:byteAt l k<97
     all_goals
      go_wp2;go_ret;refine⟨zT ?_,rfl⟩;rw[eq_comm,uj,Bool.and_eq_false_iff];right;exact qf nameB l k a (by rw[d.out];simp;omega)
   ·go_wp2
    go_ret;refine⟨zT ?_,rfl⟩;have e:l.take k=l:=List.take_of_length_le oo;have f:=c.out;rw[e] at f;rw[eq_comm,uj,f];simp;omega
 ·go_ret
  refine⟨zT ?_,rfl⟩;rw[eq_comm,uj,Bool.and_eq_false_iff];left;simp;omega
theorem uk (a b c:Int)(w:World):
 Calls prog 117 #[a,b,c] w fun e w'=>e= .returned (.bool (decide (b≤a∧a≤c)))∧w=w':=by
 go_enter func117,ntmps117;by_cases h:b≤a
 all_goals
  go_wp2
  all_goals
   go_ret;exact⟨zT (by rw[Bool.eq_iff_iff];simp;omega),rfl⟩
theorem aP (l:Bs)(w:World)(j:l.length≤9223372036854775807):
 Calls prog 136 #[l] w fun e w'=>e= .returned (.bool (uj l))∧w=w':=by
 go_enter func136,ntmps136;go_wp2;go_loop [3] (fun k=>∃n:Nat,n≤l.length∧k= .int .i64 n∧(l.take n).all nameB=true) (fun k=>l.length - (intOf k).toNat)
 case atStart=>exact⟨0,Nat.zero_le _,rfl,rfl⟩
 case round=>
  obtain⟨k,hk,rfl,b⟩:=hrel;have c:=hid b;clear b;by_cases a:k<l.length
  ·have d:=hid (Xf l k a)
   have g:=hid (rD nameB l k a);have m:=zN l k;have o:=yx l k;by_cases h:97≤byteAt l k∧byteAt l k≤122
   ·obtain⟨i,p⟩:=h
    go_wp2;go_round
    case rel=>exact⟨k+1,by omega,by go_num,by rw[g.out,c.out,d.out];simp;omega⟩
    case measure=>simp [intOf];omega
   ·by_cases i:byteAt l k<97
    all_goals
     go_wp2;go_ret;refine⟨zT ?_,rfl⟩;rw[eq_comm,uj,Bool.and_eq_false_iff];right;exact qf nameB l k a (by rw[d.out];simp;omega)
  ·go_wp2_with(go_at_call 117;refine(uk _ _ _ _).mono ?_;rintro e w' ⟨rfl,rfl⟩)
   go_ret;refine⟨zT ?_,rfl⟩;have e:l.take k=l:=List.take_of_length_le oo;have f:=c.out;rw[e] at f;rw[eq_comm,uj,f,Bool.eq_iff_iff];simp;omega
theorem dN (a b c:Int)(w:World):
 Calls prog 124 #[a,b,c] w fun e w'=>e= .returned (.bool (decide (0≤a∧a≤b∧b≤c)))∧w=w':=by
 go_enter func124,ntmps124;by_cases h:0≤b∧b≤c
 all_goals
  go_wp2_with(go_at_call 117;refine(uk _ _ _ _).mono ?_;rintro e w' ⟨rfl,rfl⟩)
  all_goals
   go_ret;exact⟨zT (by rw[Bool.eq_iff_iff];simp;omega),rfl⟩
theorem xe (a:Int)(w:World):
 Calls prog 60 #[a] w fun e w'=>e= .returned (.bool (decide (1≤a∧a≤64)))∧w=w':=by
 go_enter func60,ntmps60;by_cases h:1≤a
 all_goals
  go_wp2
  all_goals
   go_ret;exact⟨zT (by rw[Bool.eq_iff_iff];simp;omega),rfl⟩
theorem dE (n:Int)(w:World)(h0:0≤n)(h1:n≤16):
 Calls prog 135 #[n] w fun e w'=>e= .returned (.int .i64 (pow2 n))∧w=w':=by
 go_enter func135,ntmps135;go_wp2;go_ret;exact⟨yP (rP n h0 h1),rfl⟩
theorem yF (o l m:Int)(w:World)(h0:0≤l)(h1:l≤16):
 Calls prog 98 #[.agg #[o,l,m]] w fun e w'=>e= .returned (.int .i64 (pow2 l))∧Below w.heap.size w w':=by
 go_enter func98,ntmps98;go_wp2_with(go_at_call 135;refine(dE _ _ h0 h1).mono ?_;rintro e w' ⟨rfl,rfl⟩);go_ret;exact⟨rfl,zx⟩
theorem xK (o l m:Int)(w:World):
 Calls prog 59 #[.agg #[o,l,m]] w fun e w'=>e= .returned (.bool (decide (wM o l m)))∧Below w.heap.size w w':=by
 go_enter func59,ntmps59;go_wp2_with(go_in)
 all_goals go_ret
 all_goals refine⟨zT ?_,(Below.refl _ _).alloc (Nat.le_refl _) _⟩
 all_goals (rw[Bool.eq_iff_iff];simp only[decide_eq_true_eq];grind [wM])
theorem tN (o l m:Int)(w:World):
 Calls prog 111 #[.agg #[o,l,m]] w fun e w'=>e= .returned (.bool (decide (wM o l m)))∧Below w.heap.size w w':=by
 go_enter func111,ntmps111;go_wp2_with(first|(go_at_call 117;refine(uk _ _ _ _).mono ?_;rintro e w' ⟨rfl,rfl⟩)|go_in)
 all_goals go_ret
 all_goals refine⟨zT ?_,(Below.refl _ _).alloc (Nat.le_refl _) _⟩
 all_goals (rw[Bool.eq_iff_iff];simp only[decide_eq_true_eq];grind [wM])
theorem tH (o l m:Int)(d:Bs)(w:World)(y:d.length≤9223372036854775807):
 Calls prog 33 #[.agg #[o,l,m],d] w fun e w'=>e= .returned (.bool (decide (fits o l m d)))∧Below w.heap.size w w':=by
 go_enter func33,ntmps33;go_wp2_with fail;refine(xK _ _ _ _).mono ?_;rintro e i ⟨rfl,c⟩;have z:=zO (yw _ _ _) c (by simp);have b:Below w.heap.size w i:=((Below.refl _ _).alloc (Nat.le_refl _) _).trans (c.mono (by simp));clear c;by_cases a:wM o l m
 ·by_cases v:d.length≤2000
  ·have f:=hid a
   have A:1≤l:=a.2.1;have B:l≤8:=a.2.2.1;have j:decide (wM o l m)=true:=(by simpa using a);clear a;go_wp2;go_loopw [16] (fun k wr=>∃n:Nat,n≤d.length∧k= .int .i64 n∧(d.take n).all (vU l)=true∧∃q,wr=i.drewN q) (fun k _=>d.length - (intOf k).toNat)
   case atStart=>exact⟨0,Nat.zero_le _,rfl,rfl,0,rfl⟩
   case round=>
    obtain⟨k,hk,rfl,p,q,rfl⟩:=hrel;have r:=hid p;clear p;by_cases g:k<d.length
    ·have s:=hid (Uy l d k g)
     have x:=hid (rD (vU l) d k g);have C:=zN d k;have D:=yx d k;have E:=rP l oo oo;have F:(k:Int)<d.length:=oo;have G:0≤l:=oo;have H:l<64:=oo;by_cases t:byteAt d k<pow2 l
     ·go_wp2
      go_quiet(fail);go_wp2;go_roundw
      case rel=>exact⟨k+1,by omega,by go_num,by rw[x.out,r.out,s.out];simpa using t,_,rfl⟩
      case measure=>simp [intOf];omega
     ·go_wp2
      go_quiet(fail);go_wp2;go_ret;refine⟨zT ?_,dI (dI b _) _⟩;rw[eq_comm,decide_eq_false_iff_not];rintro⟨_,_,h⟩;rw[qf (vU l) d k g (by rw[s.out];simpa using t)] at h
      cases h
    ·go_wp2
     go_ret;refine⟨zT ?_,dI b _⟩;have e:d.take k=d:=List.take_of_length_le oo;have u:=r.out;rw[e] at u;rw[eq_comm,decide_eq_true_eq];exact⟨f.out,v,u⟩
  ·have j:decide (wM o l m)=true:=by simpa using a
   have I:2000<d.length:=oo;clear a;go_wp2;go_ret;refine⟨zT ?_,b⟩;rw[eq_comm,decide_eq_false_iff_not];rintro⟨_,h,_⟩;omega
 ·have j:decide (wM o l m)=false:=by simpa using a
  have f:=hid a;clear a;go_wp2;go_ret;refine⟨zT ?_,b⟩;rw[eq_comm,decide_eq_false_iff_not];rintro⟨h,_,_⟩;exact f.out h
theorem TP (o l m:Int)(d:Bs)(w:World)(h:0≤l)(j:l≤16)(z:d.length≤9223372036854775807):
 Calls prog 112 #[.agg #[o,l,m],d] w fun e w'=>e= .returned (.bool (d.all (vU l)))∧Below w.heap.size w w':=by
 go_enter func112,ntmps112;go_wp2;go_loopw [5] (fun k wr=>∃n:Nat,n≤d.length∧k= .int .i64 n∧(d.take n).all (vU l)=true∧Below w.heap.size w wr∧w.heap.size<wr.heap.size∧∀i,wr.cell? ⟨w.heap.size,i,none⟩=(#[o,l,m]:Array Value)[i]?) (fun k _=>d.length - (intOf k).toNat)
 case atStart=>exact⟨0,Nat.zero_le _,rfl,rfl,zx,by simp,yw _ _ _⟩
 case round=>
  obtain⟨k,hk,rfl,p,c,q,r⟩:=hrel;have s:=hid p;clear p;by_cases f:k<d.length
  ·have t:=hid (Uy l d k f)
   have x:=hid (rD (vU l) d k f);have A:=zN d k;have B:=yx d k;have C:(k:Int)<d.length:=oo;have D:=zJ r q;go_wp2_with fail;by_cases u:byteAt d k<pow2 l
   ·
    refine wp_region_quiet_below kr kr ?_;repeat(go_big_quiet_step ((go_at_call 98;exact Calls.regrown_of (yF _ _ _ _ h j))))
    refine wpQuiet_nil ?_;intro g b;have a:Below _ _ g:=zh b;clear b;have y:=a.size;go_wp2;go_roundw
    case rel=>exact⟨k+1,by omega,by go_num,by rw[x.out,s.out,t.out];simpa using u,c.trans (a.mono (by omega)),by omega,zO r a q⟩
    case measure=>simp [intOf];omega
   ·
    refine wp_region_quiet_below kr kr ?_;repeat(go_big_quiet_step ((go_at_call 98;exact Calls.regrown_of (yF _ _ _ _ h j))))
    refine wpQuiet_nil ?_;intro g b;have a:Below _ _ g:=zh b;clear b;have y:=a.size;go_wp2;go_ret;exact⟨zT (qf (vU l) d k f (by rw[t.out];simpa using u)).symm,c.trans (a.mono (by omega))⟩
  ·go_wp2
   go_ret;refine⟨zT ?_,c⟩;have e:d.take k=d:=List.take_of_length_le oo;have v:=s.out;rw[e] at v;exact v.symm
theorem rC (o l m:Int)(d:Bs)(w:World)(g:d.length≤9223372036854775807):
 Calls prog 77 #[.agg #[o,l,m],d] w fun e w'=>e= .returned (.bool (decide (fits o l m d)))∧Below w.heap.size w w':=by
 go_enter func77,ntmps77;go_wp2_with fail;refine(tN _ _ _ _).mono ?_;rintro e i ⟨rfl,b⟩;have s:=zO (yw _ _ _) b (by simp);have j:=b.size;simp only[World.size_alloc] at j;have c:Below w.heap.size w i:=((Below.refl _ _).alloc (Nat.le_refl _) _).trans (b.mono (by simp));clear b;by_cases a:wM o l m
 ·have k:decide (wM o l m)=true:=by simpa using a
  have n:0≤l:=(by have:=a.2.1;omega);have p:l≤16:=(by have:=a.2.2.1;omega);have f:=hid a;clear a;by_cases q:d.length≤2000
  ·go_wp2_with(go_at_call 112;refine(TP _ _ _ _ _ n p g).mono ?_;rintro e t ⟨rfl,r⟩)
   go_ret;refine⟨zT ?_,c.trans (r.mono oo)⟩;rw[Bool.eq_iff_iff,decide_eq_true_eq];exact⟨fun h=>⟨f.out,q,by simpa using h⟩,fun h=>by simpa using h.2.2⟩
  ·go_wp2
   go_ret;refine⟨zT ?_,c⟩;rw[eq_comm,decide_eq_false_iff_not];rintro⟨_,h,_⟩;omega
 ·have k:decide (wM o l m)=false:=by simpa using a
  have f:=hid a;clear a;go_wp2;go_ret;refine⟨zT ?_,c⟩;rw[eq_comm,decide_eq_false_iff_not];rintro⟨h,_,_⟩;exact f.out h
theorem rJ (o l m:Int)(d:Bs)(w:World)(a:d.length≤9223372036854775807):
 Calls prog 49 #[.agg #[o,l,m],d] w fun e w'=>e= .returned (.bool (decide (fits o l m d)))∧Below w.heap.size w w':=by
 go_enter func49,ntmps49;go_wp2_with(go_at_call 77;refine(rC _ _ _ _ _ a).mono ?_;rintro e c ⟨rfl,b⟩);go_ret;exact⟨rfl,((Below.refl _ _).alloc (Nat.le_refl _) _).trans (b.mono (by simp))⟩
theorem ni (l:Bs)(w:World)(h:l.length≤9223372036854775807):
 Calls prog 42 #[l] w fun e w'=>e= .returned (.int .i64 (sumOf l))∧w=w':=by
 go_enter func42,ntmps42;go_wp2;go_loop [3,4,8] (fun a b k=>∃n:Nat,n≤l.length∧k= .int .i64 n∧a= .int .i64 (sumP (l.take n)).1∧b= .int .i64 (sumP (l.take n)).2) (fun _ _ k=>l.length - (intOf k).toNat)
 case atStart=>exact⟨0,Nat.zero_le _,rfl,rfl,rfl⟩
 case round=>
  obtain⟨k,hk,rfl,rfl,rfl⟩:=hrel;have g:=WB (l.take k);obtain⟨i,j,m,o⟩:=g;by_cases c:k<l.length
  ·have d:=hid (sumP_snoc l k c)
   have f:=hid (yc l k c);have p:=zN l k;have q:=yx l k;go_wp2;go_round
   case rel=>
    refine⟨k+1,oo,by go_num,?_,?_⟩
    ·rw[d.out];simp [su,←f.out]
    ·rw[d.out];simp [su,←f.out]
   case measure=>simp [intOf];omega
  ·go_wp2
   go_ret;have:k=l.length:=oo;subst this;exact⟨by simp [sumOf],rfl⟩
theorem Ya (l:Bs)(w:World)(h:l.length≤9223372036854775807):
 Calls prog 85 #[l] w fun e w'=>e= .returned (.int .i64 (sumOf l))∧w=w':=by
 go_enter func85,ntmps85;go_wp2;go_loop [3,4,5] (fun a b k=>∃n:Nat,n≤l.length∧k= .int .i64 n∧a= .int .i64 (sumP (l.take n)).1∧b= .int .i64 (sumP (l.take n)).2) (fun _ _ k=>l.length - (intOf k).toNat)
 case atStart=>exact⟨0,Nat.zero_le _,rfl,rfl,rfl⟩
 case round=>
  obtain⟨k,hk,rfl,rfl,rfl⟩:=hrel;have g:=WB (l.take k);obtain⟨i,j,m,o⟩:=g;by_cases c:k<l.length
  ·have d:=hid (sumP_snoc l k c)
   have f:=hid (yc l k c);have p:=zN l k;have q:=yx l k;go_wp2;go_round
   case rel=>
    refine⟨k+1,oo,by go_num,?_,?_⟩
    ·rw[d.out];simp [su,←f.out]
    ·rw[d.out];simp [su,←f.out]
   case measure=>simp [intOf];omega
  ·go_wp2
   go_ret;have:k=l.length:=oo;subst this;exact⟨by simp [sumOf],rfl⟩
set_option maxRecDepth 100000 in
theorem two_any (n:Int)(w:World)(h0:0≤n)(h1:n≤9000000):
 Calls prog 175 #[n] w fun e w'=>e= .returned (.string ⟨(two n).toArray⟩)∧Below w.heap.size w w':=by
 go_enter func175,ntmps175;go_wp2;go_ret;exact⟨rfl,(Below.refl _ _).alloc (Nat.le_refl _) _⟩
set_option maxRecDepth 100000 in
theorem kU (n:Int)(w:World)(h0:0≤n)(h1:n≤9000000):
 Calls prog 84 #[n] w fun e w'=>e= .returned (.string ⟨(two n).toArray⟩)∧Below w.heap.size w w':=by
 go_enter func84,ntmps84;go_wp2;go_ret;exact⟨rfl,(Below.refl _ _).alloc (Nat.le_refl _) _⟩
end Go.Proofs.YtoedhpcmgondjaaGreatDoor
namespace Go.Proofs.YtoedhpcmgondjaaGreatDoor
open Go.RowKit
def Kp (P:World→Prop)(w:World):Prop:=∀wr,Below w.heap.size w wr→P wr
section
variable {P Q : World → Prop} {w w' : World}
theorem Kp.now (h:Kp P w):P w:=h w (Below.refl _ _)
theorem Kp.step (h:Kp P w)(b:Below w.heap.size w w'):Kp P w':=fun wr a=>h wr (b.trans (a.mono b.size))
theorem Kp.alloc (h:Kp P w)(o:Obj):Kp P (w.alloc o):=h.step ((Below.refl _ _).alloc (Nat.le_refl _) o)
theorem Kp.and (h:Kp P w)(h2:Kp Q w):Kp (fun w=>P w∧Q w) w:=fun wr b=>⟨h wr b,h2 wr b⟩
theorem Kp.of (h:∀wr,Below w.heap.size w wr→Q wr):Kp Q w:=h
theorem Kp.bk {g:Nat}{t:TypeId}{cs:Array Value}(h:Bk w g t cs):Kp (fun wr=>Bk wr g t cs) w:=fun wr b=>h.below b h.lt
theorem Kp.sl {A:Option Addr}{n c s:Nat}{cs:List Value}(h:Sl w A n c s cs):Kp (fun wr=>Sl wr A n c s cs) w:=fun wr b=>h.below b
theorem Kp.box (h:Kp P w)(cs:Array Value)(t:TypeId):Kp (fun wr=>P wr∧Bk wr w.heap.size t cs) (w.alloc (.cells cs t)):=(h.alloc _).and (Kp.bk (Bk.new w cs t))
theorem Kp.base (w:World):Kp (fun wr=>Below w.heap.size w wr) w:=fun _ h=>h
end
end Go.Proofs.YtoedhpcmgondjaaGreatDoor
namespace Go.Proofs.YtoedhpcmgondjaaGreatDoor
open Go.RowKit Go.Proofs.Tryz
attribute [local instance] mU hZ cvZ
attribute [local go_sem high] zA zB zD zS zL yf zC zk zl zt zi zu yR zG yu zH
theorem VZ (k f t s:Int)(a d:Bs)(w:World)(b:a.length≤9223372036854775807)(c:d.length≤9223372036854775807):
 Calls prog 34 #[.agg #[k,a,f,t,s,d]] w fun e w'=>e= .returned (.bool (decide (ql k a f t s d)))∧Below w.heap.size w w':=by
 go_enter func34,ntmps34;go_wp2_with(first|(go_at_call 35;refine(Yw _ _ b).mono ?_;rintro e w' ⟨rfl,rfl⟩)|(go_at_call 60;refine(xe _ _).mono ?_;rintro e w' ⟨rfl,rfl⟩))
 all_goals go_ret
 all_goals refine⟨zT ?_,(Below.refl _ _).alloc (Nat.le_refl _) _⟩
 all_goals (rw[Bool.eq_iff_iff];simp only[decide_eq_true_eq];grind [ql])
theorem nH (k f t s:Int)(a d:Bs)(w:World)(b:a.length≤9223372036854775807)(c:d.length≤9223372036854775807):
 Calls prog 99 #[.agg #[k,a,f,t,s,d]] w fun e w'=>e= .returned (.bool (decide (ql k a f t s d)))∧Below w.heap.size w w':=by
 go_enter func99,ntmps99;go_wp2_with(first|(go_at_call 136;refine(aP _ _ b).mono ?_;rintro e w' ⟨rfl,rfl⟩)|(go_at_call 117;refine(uk _ _ _ _).mono ?_;rintro e w' ⟨rfl,rfl⟩)|(go_at_call 124;refine(dN _ _ _ _).mono ?_;rintro e w' ⟨rfl,rfl⟩))
 all_goals go_ret
 all_goals refine⟨zT ?_,(Below.refl _ _).alloc (Nat.le_refl _) _⟩
 all_goals (rw[Bool.eq_iff_iff];simp only[decide_eq_true_eq];grind [ql])
end Go.Proofs.YtoedhpcmgondjaaGreatDoor
namespace Go.Proofs.YtoedhpcmgondjaaGreatDoor
open Go.RowKit
def Kn.full (K:Kn):Bool:=decide (K.top<K.nx∧K.base<K.ps.length)
theorem iJ {K:Kn}(h:0≤K.base):K.cleared.full=false:=by
 unfold Kn.full Kn.cleared;simp only[decide_eq_false_iff_not,List.length_take];omega
def xN :Nat→Kn→Bs→List Int
 |0,_,_=>[]
 |n+1,K,t=>if t=[] then[] else
  (if K.full=true then[K.cl] else[])++(if K.full=true then K.cleared else K).find ((if K.full=true then K.cleared else K).longest t)::
    xN n ((if K.full=true then K.cleared else K).after ((if K.full=true then K.cleared else K).find ((if K.full=true then K.cleared else K).longest t))) (t.drop ((if K.full=true then K.cleared else K).longest t).length)
theorem Zh :∀(n:Nat) (K:Kn) (t:Bs),0≤K.base→t.length≤n→xN n K t=if t≠[]∧K.full=true then K.cl::zZ n K.cleared t else zZ n K t
 |0,K,t,_,b=>by
  have e:t=[]:=List.length_eq_zero_iff.1 oo;subst e;simp [xN,zZ]
 |n+1,K,t,h,k=>by
  by_cases b:t=[]
  ·subst b;simp [xN,zZ]
  ·unfold xN
   rw[if_neg b];have d:∀a:Kn,0≤a.base→a.full=false→a.find (a.longest t)::xN n (a.after (a.find (a.longest t))) (t.drop (a.longest t).length)=zZ (n+1) a t:=by
    intro a i f;have l:=a.xq b;rw[Zh n (a.after (a.find (a.longest t))) _ i (by simp;omega)];rw[zZ,if_neg b];simp only;have e:(a.after (a.find (a.longest t))).cl=a.cl:=rfl;by_cases c:t.drop (a.longest t).length≠[]∧(a.after (a.find (a.longest t))).top<(a.after (a.find (a.longest t))).nx∧(a.after (a.find (a.longest t))).base<(a.after (a.find (a.longest t))).ps.length
    ·rw[if_pos c,e]
     have j:(a.after (a.find (a.longest t))).full=true:=(by unfold Kn.full;simpa using c.2);rw[if_pos ⟨c.1,j⟩]
    ·rw[if_neg c]
     rw[if_neg];intro g;exact c ⟨g.1,by have:=g.2;unfold Kn.full at this;simpa using this⟩
   cases f:K.full with
   |true=>
    simp only[if_true];rw[List.cons_append,List.nil_append,d K.cleared h (iJ h),if_pos ⟨b,trivial⟩]
   |false=>
    simp only[Bool.false_eq_true,if_false,List.nil_append,and_false];exact d K h f
theorem VN {K:Kn}{t:Bs}(h:0≤K.base):K.yh t=K.cl::(xN t.length K.cleared t++[K.cl+1]):=by
 unfold Kn.yh;rw[Zh _ _ _ (by exact h) (Nat.le_refl _),iJ h];simp
theorem XA {n:Nat}{K:Kn}{t:Bs}(a:t≠[])(b:K.full=true):xN (n+1) K t=[K.cl]++K.cleared.find (K.cleared.longest t)::xN n (K.cleared.after (K.cleared.find (K.cleared.longest t))) (t.drop (K.cleared.longest t).length):=by
 rw[xN,if_neg a,b];simp
theorem XQ {n:Nat}{K:Kn}{t:Bs}(a:t≠[])(b:K.full=false):xN (n+1) K t=K.find (K.longest t)::xN n (K.after (K.find (K.longest t))) (t.drop (K.longest t).length):=by
 rw[xN,if_neg a,b];simp
theorem Ug (n:Nat)(K:Kn):xN n K []=[]:=by cases n<;>simp [xN]
def wV :Kn→List Int→Nat→Prop
 |_,[],_=>False
 |K,c::r,n=>if c=K.cl+1 then r=[] else if c=K.cl then wV K.cleared r n else K.fol c=true∧n+(K.any c).length≤2000∧wV (K.after c) r (n+(K.any c).length)
theorem WG :∀(cs:List Int) (K:Kn) (n:Nat),n≤2000→wV K cs n→wU K cs n
 |[],_,_,_,h=>by simp [wV] at h
 |c::r,K,n,a,h=>by
  rw[wV] at h;rw[wU];split
  ·rename_i h1;rw[if_pos h1] at h;exact h
  ·rename_i h1
   rw[if_neg h1] at h;split
   ·rename_i h2;rw[if_pos h2] at h;exact WG r _ n a h
   ·rename_i h2;rw[if_neg h2] at h;exact⟨h.1,by omega,WG r _ _ (by omega) h.2.2⟩
theorem qF :∀(n:Nat) (K:Kn) (t:Bs) (m:Nat),K.ok→t.all (vU K.l)=true→t.length≤n→m+t.length≤2000→wV K (zZ n K t++[K.cl+1]) m
 |0,K,t,m,_,_,h,_=>by simp [zZ,wV]
 |n+1,K,t,m,hk,c,h,k=>by
  unfold zZ;split
  ·simp [wV]
  ·rename_i d
   have i:=K.tC hk d c;have o:=(K.yI t).2;have p:=K.xq d;obtain⟨a,e,q⟩:=i;have b:=dC hk a;have f:=K.vW hk a;have r:(t.drop (K.longest t).length).length=t.length - (K.longest t).length:=(by simp);have g:(t.drop (K.longest t).length).all (vU K.l)=true:=rU _ _ _ c;simp only;split
   ·rw[List.cons_append,wV,if_neg b.2.2.2,if_neg b.2.2.1,e,List.cons_append,wV]
    refine⟨a,oo,?_⟩;have j:(K.after (K.find (K.longest t))).cl=K.cl:=rfl;rw[j,if_neg (by omega),if_pos rfl];exact qF n _ _ _ (Kn.y8 f) g oo oo
   ·rw[List.cons_append,wV,if_neg b.2.2.2,if_neg b.2.2.1,e]
    exact⟨a,oo,qF n _ _ _ f g oo oo⟩
theorem XI {K:Kn}(hk:K.ok){t:Bs}(a:t.all (vU K.l)=true)(b:t.length≤2000):wV K (K.yh t) 0:=by
 unfold Kn.yh;rw[wV,if_neg (by omega),if_pos rfl];exact qF _ _ _ _ (Kn.y8 hk) a (Nat.le_refl _) oo
theorem nR :∀(n:Nat) (K:Kn) (t:Bs),0≤K.base→t.length≤n→2*(zZ n K t).length≤3*t.length+1∧(K.last<0→(K.ps.length:Int)≤K.base→2*(zZ n K t).length≤3*t.length)
 |0,K,t,_,_=>by simp [zZ]
 |n+1,K,t,a,g=>by
  unfold zZ;split
  ·simp
  ·rename_i b
   have h:=K.xq b;have i:=(K.yI t).2;have j:(t.drop (K.longest t).length).length=t.length - (K.longest t).length:=(by simp);have k:0<t.length:=List.length_pos_iff.2 b;simp only;have h1:=nR n (K.after (K.find (K.longest t))) (t.drop (K.longest t).length) a oo;have h2:=nR n (K.after (K.find (K.longest t))).cleared (t.drop (K.longest t).length) a oo;constructor
   ·split
    ·have c:=h2.2 (by show(-1:Int)<0;omega) (by
      show(((K.after (K.find (K.longest t))).ps.take K.base.toNat).length:Int)≤K.base;have:=List.length_take_le K.base.toNat (K.after (K.find (K.longest t))).ps;omega)
     simp only[List.length_cons];omega
    ·simp only[List.length_cons]
     omega
   ·intro c l
    have d:K.gr=false:=(by unfold Kn.gr;simp;omega);have e:(K.after (K.find (K.longest t))).ps=K.ps:=(by unfold Kn.after;simp [d]);have f:(K.after (K.find (K.longest t))).base=K.base:=rfl;rw[if_neg (by rw[e,f];omega)];simp only[List.length_cons];omega
theorem Yd (K:Kn)(t:Bs)(a:0≤K.base)(b:t.length≤2000):(K.yh t).length≤3002:=by
 have h:=(nR t.length K.cleared t a (Nat.le_refl _)).2 (by show(-1:Int)<0;omega) (by
  show((K.ps.take K.base.toNat).length:Int)≤K.base;have:=List.length_take_le K.base.toNat K.ps;omega)
 unfold Kn.yh;simp only[List.length_cons,List.length_append,List.length_nil];omega
end Go.Proofs.YtoedhpcmgondjaaGreatDoor
namespace Go.Proofs.YtoedhpcmgondjaaGreatDoor
open Go.Lib(hid)
open Go.RowKit Go.Proofs.Tryz
attribute [local instance] mU hZ cvZ
attribute [local go_sem high] zA zB zD zS zL yf zC zk zl zt zi zu yR zG yu zH
abbrev stV (o l m:Int)(d:Bs)(f:Value):Value:=.agg #[o,l,m,d,f]
abbrev stZ :Value:=.agg #[.int .i64 0,.int .i64 0,.int .i64 0,.string ⟨#[]⟩,.slice none 0 0]
def rH (o l m:Int)(d:Bs):Value:=if fits o l m d then .tuple #[stV o l m d (.slice none 0 0),.bool true] else .tuple #[stZ,.bool false]
theorem aG (o l m:Int)(d:Bs)(w:World)(h:d.length≤9223372036854775807):
 Calls prog 16 #[.agg #[o,l,m],d] w fun e w'=>e= .returned (rH o l m d)∧Below w.heap.size w w':=by
 go_enter func16,ntmps16;go_wp2_with fail;refine(tH _ _ _ _ _ h).mono ?_;rintro e c ⟨rfl,a⟩;have j:=a.size;simp only[World.size_alloc] at j;have n:∀i,c.cell? ⟨w.heap.size,i,none⟩=(#[o,l,m]:Array Value)[i]? :=zO (by simp) a (by simp;omega);have g:∀i,c.cell? ⟨w.heap.size+1,i,none⟩=(#[.int .i64 0,.int .i64 0,.int .i64 0,.string ⟨#[]⟩,.slice none 0 0]:Array Value)[i]? :=zO (by simp) a (by simp);have p:∀i,c.frozen? ⟨w.heap.size+1,i,none⟩=false:=iQ (by simp) a (by simp);have q:Below w.heap.size w c:=(((Below.refl _ _).alloc (Nat.le_refl _) _).alloc (by simp) _).trans (a.mono (by simp;omega));clear a;by_cases b:fits o l m d
 ·have k:decide (fits o l m d)=true:=by simpa using b
  have f:=hid b;clear b;go_wp2;exact bodyPost_ret (v:=.tuple #[stV o l m d (.slice none 0 0),.bool true]) (by simp [results,results16,go_sem,g]) rfl ⟨by rw[rH,if_pos f.out],zx⟩
 ·have k:decide (fits o l m d)=false:=by simpa using b
  have f:=hid b;clear b;go_wp2;exact bodyPost_ret (v:=.tuple #[stZ,.bool false]) (by simp [results,results16,go_sem,g]) rfl ⟨by rw[rH,if_neg f.out],zx⟩
theorem bI (o l m:Int)(d:Bs)(w:World)(h:d.length≤9223372036854775807):
 Calls prog 28 #[.agg #[o,l,m],d] w fun e w'=>e= .returned (rH o l m d)∧Below w.heap.size w w':=by
 go_enter func28,ntmps28;go_wp2_with fail;refine(rJ _ _ _ _ _ h).mono ?_;rintro e c ⟨rfl,a⟩;have j:=a.size;simp only[World.size_alloc] at j;have n:∀i,c.cell? ⟨w.heap.size,i,none⟩=(#[o,l,m]:Array Value)[i]? :=zO (by simp) a (by simp;omega);have g:∀i,c.cell? ⟨w.heap.size+1,i,none⟩=(#[.int .i64 0,.int .i64 0,.int .i64 0,.string ⟨#[]⟩,.slice none 0 0]:Array Value)[i]? :=zO (by simp) a (by simp);have p:∀i,c.frozen? ⟨w.heap.size+1,i,none⟩=false:=iQ (by simp) a (by simp);have q:Below w.heap.size w c:=(((Below.refl _ _).alloc (Nat.le_refl _) _).alloc (by simp) _).trans (a.mono (by simp;omega));clear a;by_cases b:fits o l m d
 ·have k:decide (fits o l m d)=true:=by simpa using b
  have f:=hid b;clear b;go_wp2;exact bodyPost_ret (v:=.tuple #[stV o l m d (.slice none 0 0),.bool true]) (by simp [results,results28,go_sem,g]) rfl ⟨by rw[rH,if_pos f.out],zx⟩
 ·have k:decide (fits o l m d)=false:=by simpa using b
  have f:=hid b;clear b;go_wp2;exact bodyPost_ret (v:=.tuple #[stZ,.bool false]) (by simp [results,results28,go_sem,g]) rfl ⟨by rw[rH,if_neg f.out],zx⟩
