import Derived.Test.YtoedhpcmgondjaaGreatDoorYGB
set_option linter.all false
set_option maxHeartbeats 8000000
namespace Go.Proofs.YtoedhpcmgondjaaGreatDoor
open Go.Lib(hid)
open Go.RowKit Go.Proofs.Tryz
attribute [local instance] mU hZ cvZ
attribute [local go_sem high] zG zF zH zV zN yu zD zl zn zt zi zu y9 zK yE zJ
theorem iG (l:Bs)(w:World)(j:l.length≤9223372036854775807):
 Calls prog 35 #[l] w fun e w'=>e= .returned (.bool (vV l))∧w=w':=by
 go_enter func35,ntmps35;go_wp2
 ·go_ret
  refine⟨zS ?_,rfl⟩;rw[eq_comm,vV,Bool.and_eq_false_iff];left;simp;omega
 ·go_loop [14] (fun k=>∃n:Nat,n≤l.length∧k= .int .i64 n∧(l.take n).all nameB=true) (fun k=>l.length - (intOf k).toNat)
  case atStart=>exact⟨0,Nat.zero_le _,rfl,rfl⟩
  case round=>
   obtain⟨k,hk,rfl,b⟩:=hrel;have c:=hid b;clear b;by_cases a:k<l.length
   ·have d:=hid (Wj l k a)
    have g:=hid (qo nameB l k a);have m:=zQ l k;have o:=yG l k;by_cases h:97≤byteAt l k∧byteAt l k≤122
    ·obtain⟨i,p⟩:=h
     go_wp2;go_round
     case rel=>exact⟨k+1,by omega,by go_num,by rw[g.out,c.out,d.out];simp;omega⟩
     case measure=>simp [intOf];omega
    ·by_cases i:byteAt l k<97
     all_goals
      go_wp2;go_ret;refine⟨zS ?_,rfl⟩;rw[eq_comm,vV,Bool.and_eq_false_iff];right;exact qK nameB l k a (by rw[d.out];simp;omega)
   ·go_wp2
    go_ret;refine⟨zS ?_,rfl⟩;have e:l.take k=l:=List.take_of_length_le oo;have f:=c.out;rw[e] at f;rw[eq_comm,vV,f];simp;omega
 ·go_ret
  refine⟨zS ?_,rfl⟩;rw[eq_comm,vV,Bool.and_eq_false_iff];left;simp;omega
theorem uI (a b c:Int)(w:World):
 Calls prog 117 #[a,b,c] w fun e w'=>e= .returned (.bool (decide (b≤a∧a≤c)))∧w=w':=by
 go_enter func117,ntmps117;by_cases h:b≤a
 all_goals
  go_wp2
  all_goals
   go_ret;exact⟨zS (by rw[Bool.eq_iff_iff];simp;omega),rfl⟩
theorem YF (l:Bs)(w:World)(j:l.length≤9223372036854775807):
 Calls prog 136 #[l] w fun e w'=>e= .returned (.bool (vV l))∧w=w':=by
 go_enter func136,ntmps136;go_wp2;go_loop [3] (fun k=>∃n:Nat,n≤l.length∧k= .int .i64 n∧(l.take n).all nameB=true) (fun k=>l.length - (intOf k).toNat)
 case atStart=>exact⟨0,Nat.zero_le _,rfl,rfl⟩
 case round=>
  obtain⟨k,hk,rfl,b⟩:=hrel;have c:=hid b;clear b;by_cases a:k<l.length
  ·have d:=hid (Wj l k a)
   have g:=hid (qo nameB l k a);have m:=zQ l k;have o:=yG l k;by_cases h:97≤byteAt l k∧byteAt l k≤122
   ·obtain⟨i,p⟩:=h
    go_wp2;go_round
    case rel=>exact⟨k+1,by omega,by go_num,by rw[g.out,c.out,d.out];simp;omega⟩
    case measure=>simp [intOf];omega
   ·by_cases i:byteAt l k<97
    all_goals
     go_wp2;go_ret;refine⟨zS ?_,rfl⟩;rw[eq_comm,vV,Bool.and_eq_false_iff];right;exact qK nameB l k a (by rw[d.out];simp;omega)
  ·go_wp2_with(go_at_call 117;refine(uI _ _ _ _).mono ?_;rintro e w' ⟨rfl,rfl⟩)
   go_ret;refine⟨zS ?_,rfl⟩;have e:l.take k=l:=List.take_of_length_le oo;have f:=c.out;rw[e] at f;rw[eq_comm,vV,f,Bool.eq_iff_iff];simp;omega
theorem aN (a b c:Int)(w:World):
 Calls prog 124 #[a,b,c] w fun e w'=>e= .returned (.bool (decide (0≤a∧a≤b∧b≤c)))∧w=w':=by
 go_enter func124,ntmps124;by_cases h:0≤b∧b≤c
 all_goals
  go_wp2_with(go_at_call 117;refine(uI _ _ _ _).mono ?_;rintro e w' ⟨rfl,rfl⟩)
  all_goals
   go_ret;exact⟨zS (by rw[Bool.eq_iff_iff];simp;omega),rfl⟩
theorem xB (a:Int)(w:World):
 Calls prog 60 #[a] w fun e w'=>e= .returned (.bool (decide (1≤a∧a≤64)))∧w=w':=by
 go_enter func60,ntmps60;by_cases h:1≤a
 all_goals
  go_wp2
  all_goals
   go_ret;exact⟨zS (by rw[Bool.eq_iff_iff];simp;omega),rfl⟩
theorem bY (n:Int)(w:World)(h0:0≤n)(h1:n≤16):
 Calls prog 135 #[n] w fun e w'=>e= .returned (.int .i64 (pow2 n))∧w=w':=by
 go_enter func135,ntmps135;go_wp2;go_ret;exact⟨yZ (qE n h0 h1),rfl⟩
theorem yO (o l m:Int)(w:World)(h0:0≤l)(h1:l≤16):
 Calls prog 98 #[.agg #[o,l,m]] w (rT w (.int .i64 (pow2 l))):=by
 go_enter func98,ntmps98;go_wp2_with(go_at_call 135;refine(bY _ _ h0 h1).mono ?_;rintro e w' ⟨rfl,rfl⟩);go_ret;exact⟨rfl,zy⟩
theorem xX (o l m:Int)(w:World):
 Calls prog 59 #[.agg #[o,l,m]] w (rT w (.bool (decide (vk o l m)))):=by
 go_enter func59,ntmps59;go_wp2_with(go_in)
 all_goals go_ret
 all_goals refine⟨zS ?_,(Below.refl _ _).alloc (Nat.le_refl _) _⟩
 all_goals (rw[Bool.eq_iff_iff];simp only[decide_eq_true_eq];grind [vk])
theorem sQ (o l m:Int)(w:World):
 Calls prog 111 #[.agg #[o,l,m]] w (rT w (.bool (decide (vk o l m)))):=by
 go_enter func111,ntmps111;go_wp2_with(first|(go_at_call 117;refine(uI _ _ _ _).mono ?_;rintro e w' ⟨rfl,rfl⟩)|go_in)
 all_goals go_ret
 all_goals refine⟨zS ?_,(Below.refl _ _).alloc (Nat.le_refl _) _⟩
 all_goals (rw[Bool.eq_iff_iff];simp only[decide_eq_true_eq];grind [vk])
theorem uT (o l m:Int)(d:Bs)(w:World)(y:d.length≤9223372036854775807):
 Calls prog 33 #[.agg #[o,l,m],d] w (rT w (.bool (decide (fits o l m d)))):=by
 go_enter func33,ntmps33;go_wp2_with fail;refine(xX _ _ _ _).mono ?_;rintro e i ⟨rfl,c⟩;have z:=zU (yF _ _ _) c (by simp);have b:Below w.heap.size w i:=((Below.refl _ _).alloc (Nat.le_refl _) _).trans (c.mono (by simp));clear c;by_cases a:vk o l m
 ·by_cases v:d.length≤2000
  ·have f:=hid a
   have A:1≤l:=a.2.1;have B:l≤8:=a.2.2.1;have j:decide (vk o l m)=true:=(by simpa using a);clear a;go_wp2;go_loopw [16] (fun k wr=>∃n:Nat,n≤d.length∧k= .int .i64 n∧(d.take n).all (uq l)=true∧∃q,wr=i.drewN q) (fun k _=>d.length - (intOf k).toNat)
   case atStart=>exact⟨0,Nat.zero_le _,rfl,rfl,0,rfl⟩
   case round=>
    obtain⟨k,hk,rfl,p,q,rfl⟩:=hrel;have r:=hid p;clear p;by_cases g:k<d.length
    ·have s:=hid (UE l d k g)
     have x:=hid (qo (uq l) d k g);have C:=zQ d k;have D:=yG d k;have E:=qE l oo oo;have F:(k:Int)<d.length:=oo;have G:0≤l:=oo;have H:l<64:=oo;by_cases t:byteAt d k<pow2 l
     ·go_wp2
      go_quiet(fail);go_wp2;go_roundw
      case rel=>exact⟨k+1,by omega,by go_num,by rw[x.out,r.out,s.out];simpa using t,_,rfl⟩
      case measure=>simp [intOf];omega
     ·go_wp2
      go_quiet(fail);go_wp2;go_ret;refine⟨zS ?_,aj (aj b _) _⟩;rw[eq_comm,decide_eq_false_iff_not];rintro⟨_,_,h⟩;rw[qK (uq l) d k g (by rw[s.out];simpa using t)] at h
      cases h
    ·go_wp2
     go_ret;refine⟨zS ?_,aj b _⟩;have e:d.take k=d:=List.take_of_length_le oo;have u:=r.out;rw[e] at u;rw[eq_comm,decide_eq_true_eq];exact⟨f.out,v,u⟩
  ·have j:decide (vk o l m)=true:=by simpa using a
   have I:2000<d.length:=oo;clear a;go_wp2;go_ret;refine⟨zS ?_,b⟩;rw[eq_comm,decide_eq_false_iff_not];rintro⟨_,h,_⟩;omega
 ·have j:decide (vk o l m)=false:=by simpa using a
  have f:=hid a;clear a;go_wp2;go_ret;refine⟨zS ?_,b⟩;rw[eq_comm,decide_eq_false_iff_not];rintro⟨h,_,_⟩;exact f.out h
theorem QR (o l m:Int)(d:Bs)(w:World)(h:0≤l)(j:l≤16)(z:d.length≤9223372036854775807):
 Calls prog 112 #[.agg #[o,l,m],d] w (rT w (.bool (d.all (uq l)))):=by
 go_enter func112,ntmps112;go_wp2;go_loopw [5] (fun k wr=>∃n:Nat,n≤d.length∧k= .int .i64 n∧(d.take n).all (uq l)=true∧Below w.heap.size w wr∧w.heap.size<wr.heap.size∧∀i,wr.cell? ⟨w.heap.size,i,none⟩=(#[o,l,m]:Array Value)[i]?) (fun k _=>d.length - (intOf k).toNat)
 case atStart=>exact⟨0,Nat.zero_le _,rfl,rfl,zy,by simp,yF _ _ _⟩
 case round=>
  obtain⟨k,hk,rfl,p,c,q,r⟩:=hrel;have s:=hid p;clear p;by_cases f:k<d.length
  ·have t:=hid (UE l d k f)
   have x:=hid (qo (uq l) d k f);have A:=zQ d k;have B:=yG d k;have C:(k:Int)<d.length:=oo;have D:=zM r q;go_wp2_with fail;by_cases u:byteAt d k<pow2 l
   ·
    refine wp_region_quiet_below kr kr ?_;repeat(go_big_quiet_step ((go_at_call 98;exact Calls.regrown_of (yO _ _ _ _ h j))))
    refine wpQuiet_nil ?_;intro g b;have a:Below _ _ g:=zh b;clear b;have y:=a.size;go_wp2;go_roundw
    case rel=>exact⟨k+1,by omega,by go_num,by rw[x.out,s.out,t.out];simpa using u,c.trans (a.mono (by omega)),by omega,zU r a q⟩
    case measure=>simp [intOf];omega
   ·
    refine wp_region_quiet_below kr kr ?_;repeat(go_big_quiet_step ((go_at_call 98;exact Calls.regrown_of (yO _ _ _ _ h j))))
    refine wpQuiet_nil ?_;intro g b;have a:Below _ _ g:=zh b;clear b;have y:=a.size;go_wp2;go_ret;exact⟨zS (qK (uq l) d k f (by rw[t.out];simpa using u)).symm,c.trans (a.mono (by omega))⟩
  ·go_wp2
   go_ret;refine⟨zS ?_,c⟩;have e:d.take k=d:=List.take_of_length_le oo;have v:=s.out;rw[e] at v;exact v.symm
theorem qm (o l m:Int)(d:Bs)(w:World)(g:d.length≤9223372036854775807):
 Calls prog 77 #[.agg #[o,l,m],d] w (rT w (.bool (decide (fits o l m d)))):=by
 go_enter func77,ntmps77;go_wp2_with fail;refine(sQ _ _ _ _).mono ?_;rintro e i ⟨rfl,b⟩;have s:=zU (yF _ _ _) b (by simp);have j:=b.size;simp only[World.size_alloc] at j;have c:Below w.heap.size w i:=((Below.refl _ _).alloc (Nat.le_refl _) _).trans (b.mono (by simp));clear b;by_cases a:vk o l m
 ·have k:decide (vk o l m)=true:=by simpa using a
  have n:0≤l:=(by have:=a.2.1;omega);have p:l≤16:=(by have:=a.2.2.1;omega);have f:=hid a;clear a;by_cases q:d.length≤2000
  ·go_wp2_with(go_at_call 112;refine(QR _ _ _ _ _ n p g).mono ?_;rintro e t ⟨rfl,r⟩)
   go_ret;refine⟨zS ?_,c.trans (r.mono oo)⟩;rw[Bool.eq_iff_iff,decide_eq_true_eq];exact⟨fun h=>⟨f.out,q,by simpa using h⟩,fun h=>by simpa using h.2.2⟩
  ·go_wp2
   go_ret;refine⟨zS ?_,c⟩;rw[eq_comm,decide_eq_false_iff_not];rintro⟨_,h,_⟩;omega
 ·have k:decide (vk o l m)=false:=by simpa using a
  have f:=hid a;clear a;go_wp2;go_ret;refine⟨zS ?_,c⟩;rw[eq_comm,decide_eq_false_iff_not];rintro⟨h,_,_⟩;exact f.out h
theorem qy (o l m:Int)(d:Bs)(w:World)(a:d.length≤9223372036854775807):
 Calls prog 49 #[.agg #[o,l,m],d] w (rT w (.bool (decide (fits o l m d)))):=by
 go_enter func49,ntmps49;go_wp2_with(go_at_call 77;refine(qm _ _ _ _ _ a).mono ?_;rintro e c ⟨rfl,b⟩);go_ret;exact⟨rfl,((Below.refl _ _).alloc (Nat.le_refl _) _).trans (b.mono (by simp))⟩
theorem nX (l:Bs)(w:World)(h:l.length≤9223372036854775807):
 Calls prog 42 #[l] w fun e w'=>e= .returned (.int .i64 (sumOf l))∧w=w':=by
 go_enter func42,ntmps42;go_wp2;go_loop [3,4,8] (fun a b k=>∃n:Nat,n≤l.length∧k= .int .i64 n∧a= .int .i64 (sumP (l.take n)).1∧b= .int .i64 (sumP (l.take n)).2) (fun _ _ k=>l.length - (intOf k).toNat)
 case atStart=>exact⟨0,Nat.zero_le _,rfl,rfl,rfl⟩
 case round=>
  obtain⟨k,hk,rfl,rfl,rfl⟩:=hrel;have g:=eY (l.take k);obtain⟨i,j,m,o⟩:=g;by_cases c:k<l.length
  ·have d:=hid (sumP_snoc l k c)
   have f:=hid (yh l k c);have p:=zQ l k;have q:=yG l k;go_wp2;go_round
   case rel=>
    refine⟨k+1,oo,by go_num,?_,?_⟩
    ·rw[d.out];simp [uV,←f.out]
    ·rw[d.out];simp [uV,←f.out]
   case measure=>simp [intOf];omega
  ·go_wp2
   go_ret;have:k=l.length:=oo;subst this;exact⟨by simp [sumOf],rfl⟩
theorem Xh (l:Bs)(w:World)(h:l.length≤9223372036854775807):
 Calls prog 85 #[l] w fun e w'=>e= .returned (.int .i64 (sumOf l))∧w=w':=by
 go_enter func85,ntmps85;go_wp2;go_loop [3,4,5] (fun a b k=>∃n:Nat,n≤l.length∧k= .int .i64 n∧a= .int .i64 (sumP (l.take n)).1∧b= .int .i64 (sumP (l.take n)).2) (fun _ _ k=>l.length - (intOf k).toNat)
 case atStart=>exact⟨0,Nat.zero_le _,rfl,rfl,rfl⟩
 case round=>
  obtain⟨k,hk,rfl,rfl,rfl⟩:=hrel;have g:=eY (l.take k);obtain⟨i,j,m,o⟩:=g;by_cases c:k<l.length
  ·have d:=hid (sumP_snoc l k c)
   have f:=hid (yh l k c);have p:=zQ l k;have q:=yG l k;go_wp2;go_round
   case rel=>
    refine⟨k+1,oo,by go_num,?_,?_⟩
    ·rw[d.out];simp [uV,←f.out]
    ·rw[d.out];simp [uV,←f.out]
   case measure=>simp [intOf];omega
  ·go_wp2
   go_ret;have:k=l.length:=oo;subst this;exact⟨by simp [sumOf],rfl⟩
set_option maxRecDepth 100000 in
theorem two_any (n:Int)(w:World)(h0:0≤n)(h1:n≤9000000):
 Calls prog 175 #[n] w (rT w (.string ⟨(two n).toArray⟩)):=by
 go_enter func175,ntmps175;go_wp2;go_ret;exact⟨rfl,(Below.refl _ _).alloc (Nat.le_refl _) _⟩
set_option maxRecDepth 100000 in
theorem jL (n:Int)(w:World)(h0:0≤n)(h1:n≤9000000):
 Calls prog 84 #[n] w (rT w (.string ⟨(two n).toArray⟩)):=by
 go_enter func84,ntmps84;go_wp2;go_ret;exact⟨rfl,(Below.refl _ _).alloc (Nat.le_refl _) _⟩
end Go.Proofs.YtoedhpcmgondjaaGreatDoor
namespace Go.Proofs.YtoedhpcmgondjaaGreatDoor
open Go.RowKit
def Kp (P:World→Prop)(w:World):Prop:=∀wr,Below w.heap.size w wr→P wr
section
variable {P Q : World → Prop} {w w' : World}
theorem Kp.now (h:Kp P w):P w:=h w (Below.refl _ _)
theorem Kp.step (h:Kp P w)(b:Below w.heap.size w w'):Kp P w':=fun wr a=>h wr (b.trans (a.mono b.size))
theorem Kp.alloc (h:Kp P w)(o:Obj):Kp P (w.alloc o):=h.step ((Below.refl _ _).alloc (Nat.le_refl _) o)
theorem Kp.and (h:Kp P w)(h2:Kp Q w):Kp (fun w=>P w∧Q w) w:=fun wr b=>⟨h wr b,h2 wr b⟩
theorem Kp.of (h:∀wr,Below w.heap.size w wr→Q wr):Kp Q w:=h
theorem Kp.bk {g:Nat}{t:TypeId}{cs:Array Value}(h:Bk w g t cs):Kp (fun wr=>Bk wr g t cs) w:=fun wr b=>h.below b h.lt
theorem Kp.sl {A:Option Addr}{n c s:Nat}{cs:List Value}(h:Sl w A n c s cs):Kp (fun wr=>Sl wr A n c s cs) w:=fun wr b=>h.below b
theorem Kp.box (h:Kp P w)(cs:Array Value)(t:TypeId):Kp (fun wr=>P wr∧Bk wr w.heap.size t cs) (w.alloc (.cells cs t)):=(h.alloc _).and (Kp.bk (Bk.new w cs t))
theorem Kp.base (w:World):Kp (fun wr=>Below w.heap.size w wr) w:=fun _ h=>h
end
end Go.Proofs.YtoedhpcmgondjaaGreatDoor
namespace Go.Proofs.YtoedhpcmgondjaaGreatDoor
open Go.RowKit Go.Proofs.Tryz
attribute [local instance] mU hZ cvZ
attribute [local go_sem high] zG zF zH zV zN yu zD zl zn zt zi zu y9 zK yE zJ
theorem aJ (k f t s:Int)(a d:Bs)(w:World)(b:a.length≤9223372036854775807)(c:d.length≤9223372036854775807):
 Calls prog 34 #[.agg #[k,a,f,t,s,d]] w (rT w (.bool (decide (rM k a f t s d)))):=by
 go_enter func34,ntmps34;go_wp2_with(first|(go_at_call 35;refine(iG _ _ b).mono ?_;rintro e w' ⟨rfl,rfl⟩)|(go_at_call 60;refine(xB _ _).mono ?_;rintro e w' ⟨rfl,rfl⟩))
 all_goals go_ret
 all_goals refine⟨zS ?_,(Below.refl _ _).alloc (Nat.le_refl _) _⟩
 all_goals (rw[Bool.eq_iff_iff];simp only[decide_eq_true_eq];grind [rM])
theorem lH (k f t s:Int)(a d:Bs)(w:World)(b:a.length≤9223372036854775807)(c:d.length≤9223372036854775807):
 Calls prog 99 #[.agg #[k,a,f,t,s,d]] w (rT w (.bool (decide (rM k a f t s d)))):=by
 go_enter func99,ntmps99;go_wp2_with(first|(go_at_call 136;refine(YF _ _ b).mono ?_;rintro e w' ⟨rfl,rfl⟩)|(go_at_call 117;refine(uI _ _ _ _).mono ?_;rintro e w' ⟨rfl,rfl⟩)|(go_at_call 124;refine(aN _ _ _ _).mono ?_;rintro e w' ⟨rfl,rfl⟩))
 all_goals go_ret
 all_goals refine⟨zS ?_,(Below.refl _ _).alloc (Nat.le_refl _) _⟩
 all_goals (rw[Bool.eq_iff_iff];simp only[decide_eq_true_eq];grind [rM])
end Go.Proofs.YtoedhpcmgondjaaGreatDoor
namespace Go.Proofs.YtoedhpcmgondjaaGreatDoor
open Go.RowKit
def Kn.full (K:Kn):Bool:=decide (K.top<K.nx∧K.base<K.ps.length)
theorem fG {K:Kn}(h:0≤K.base):K.cleared.full=false:=by
 unfold Kn.full Kn.cleared;simp only[decide_eq_false_iff_not,List.length_take];omega
def x9 :Nat→Kn→Bs→List Int
 |0,_,_=>[]
 |n+1,K,t=>if t=[] then[] else
  (if K.full=true then[K.cl] else[])++(if K.full=true then K.cleared else K).find ((if K.full=true then K.cleared else K).longest t)::
    x9 n ((if K.full=true then K.cleared else K).after ((if K.full=true then K.cleared else K).find ((if K.full=true then K.cleared else K).longest t))) (t.drop ((if K.full=true then K.cleared else K).longest t).length)
theorem ZQ :∀(n:Nat) (K:Kn) (t:Bs),0≤K.base→t.length≤n→x9 n K t=if t≠[]∧K.full=true then K.cl::yc n K.cleared t else yc n K t
 |0,K,t,_,b=>by
  have e:t=[]:=List.length_eq_zero_iff.1 oo;subst e;simp [x9,yc]
 |n+1,K,t,h,k=>by
  by_cases b:t=[]
  ·subst b;simp [x9,yc]
  ·unfold x9
   rw[if_neg b];have d:∀a:Kn,0≤a.base→a.full=false→a.find (a.longest t)::x9 n (a.after (a.find (a.longest t))) (t.drop (a.longest t).length)=yc (n+1) a t:=by
    intro a i f;have l:=a.xE b;rw[ZQ n (a.after (a.find (a.longest t))) _ i (by simp;omega)];rw[yc,if_neg b];simp only;have e:(a.after (a.find (a.longest t))).cl=a.cl:=rfl;by_cases c:t.drop (a.longest t).length≠[]∧(a.after (a.find (a.longest t))).top<(a.after (a.find (a.longest t))).nx∧(a.after (a.find (a.longest t))).base<(a.after (a.find (a.longest t))).ps.length
    ·rw[if_pos c,e]
     have j:(a.after (a.find (a.longest t))).full=true:=(by unfold Kn.full;simpa using c.2);rw[if_pos ⟨c.1,j⟩]
    ·rw[if_neg c]
     rw[if_neg];intro g;exact c ⟨g.1,by have:=g.2;unfold Kn.full at this;simpa using this⟩
   cases f:K.full with
   |true=>
    simp only[if_true];rw[List.cons_append,List.nil_append,d K.cleared h (fG h),if_pos ⟨b,trivial⟩]
   |false=>
    simp only[Bool.false_eq_true,if_false,List.nil_append,and_false];exact d K h f
theorem UO {K:Kn}{t:Bs}(h:0≤K.base):K.yw t=K.cl::(x9 t.length K.cleared t++[K.cl+1]):=by
 unfold Kn.yw;rw[ZQ _ _ _ (by exact h) (Nat.le_refl _),fG h];simp
theorem WV {n:Nat}{K:Kn}{t:Bs}(a:t≠[])(b:K.full=true):x9 (n+1) K t=[K.cl]++K.cleared.find (K.cleared.longest t)::x9 n (K.cleared.after (K.cleared.find (K.cleared.longest t))) (t.drop (K.cleared.longest t).length):=by
 rw[x9,if_neg a,b];simp
theorem VJ {n:Nat}{K:Kn}{t:Bs}(a:t≠[])(b:K.full=false):x9 (n+1) K t=K.find (K.longest t)::x9 n (K.after (K.find (K.longest t))) (t.drop (K.longest t).length):=by
 rw[x9,if_neg a,b];simp
theorem Uz (n:Nat)(K:Kn):x9 n K []=[]:=by cases n<;>simp [x9]
def vH :Kn→List Int→Nat→Prop
 |_,[],_=>False
 |K,c::r,n=>if c=K.cl+1 then r=[] else if c=K.cl then vH K.cleared r n else K.fol c=true∧n+(K.any c).length≤2000∧vH (K.after c) r (n+(K.any c).length)
theorem Vf :∀(cs:List Int) (K:Kn) (n:Nat),n≤2000→vH K cs n→vG K cs n
 |[],_,_,_,h=>by simp [vH] at h
 |c::r,K,n,a,h=>by
  rw[vH] at h;rw[vG];split
  ·rename_i h1;rw[if_pos h1] at h;exact h
  ·rename_i h1
   rw[if_neg h1] at h;split
   ·rename_i h2;rw[if_pos h2] at h;exact Vf r _ n a h
   ·rename_i h2;rw[if_neg h2] at h;exact⟨h.1,by omega,Vf r _ _ (by omega) h.2.2⟩
theorem pz :∀(n:Nat) (K:Kn) (t:Bs) (m:Nat),K.ok→t.all (uq K.l)=true→t.length≤n→m+t.length≤2000→vH K (yc n K t++[K.cl+1]) m
 |0,K,t,m,_,_,h,_=>by simp [yc,vH]
 |n+1,K,t,m,hk,c,h,k=>by
  unfold yc;split
  ·simp [vH]
  ·rename_i d
   have i:=K.rC hk d c;have o:=(K.yQ t).2;have p:=K.xE d;obtain⟨a,e,q⟩:=i;have b:=aF hk a;have f:=K.uy hk a;have r:(t.drop (K.longest t).length).length=t.length - (K.longest t).length:=(by simp);have g:(t.drop (K.longest t).length).all (uq K.l)=true:=qB _ _ _ c;simp only;split
   ·rw[List.cons_append,vH,if_neg b.2.2.2,if_neg b.2.2.1,e,List.cons_append,vH]
    refine⟨a,oo,?_⟩;have j:(K.after (K.find (K.longest t))).cl=K.cl:=rfl;rw[j,if_neg (by omega),if_pos rfl];exact pz n _ _ _ (Kn.xy f) g oo oo
   ·rw[List.cons_append,vH,if_neg b.2.2.2,if_neg b.2.2.1,e]
    exact⟨a,oo,pz n _ _ _ f g oo oo⟩
theorem WZ {K:Kn}(hk:K.ok){t:Bs}(a:t.all (uq K.l)=true)(b:t.length≤2000):vH K (K.yw t) 0:=by
 unfold Kn.yw;rw[vH,if_neg (by omega),if_pos rfl];exact pz _ _ _ _ (Kn.xy hk) a (Nat.le_refl _) oo
theorem lJ :∀(n:Nat) (K:Kn) (t:Bs),0≤K.base→t.length≤n→2*(yc n K t).length≤3*t.length+1∧(K.last<0→(K.ps.length:Int)≤K.base→2*(yc n K t).length≤3*t.length)
 |0,K,t,_,_=>by simp [yc]
 |n+1,K,t,a,g=>by
  unfold yc;split
  ·simp
  ·rename_i b
   have h:=K.xE b;have i:=(K.yQ t).2;have j:(t.drop (K.longest t).length).length=t.length - (K.longest t).length:=(by simp);have k:0<t.length:=List.length_pos_iff.2 b;simp only;have h1:=lJ n (K.after (K.find (K.longest t))) (t.drop (K.longest t).length) a oo;have h2:=lJ n (K.after (K.find (K.longest t))).cleared (t.drop (K.longest t).length) a oo;constructor
   ·split
    ·have c:=h2.2 (by show(-1:Int)<0;omega) (by
      show(((K.after (K.find (K.longest t))).ps.take K.base.toNat).length:Int)≤K.base;have:=List.length_take_le K.base.toNat (K.after (K.find (K.longest t))).ps;omega)
     simp only[List.length_cons];omega
    ·simp only[List.length_cons]
     omega
   ·intro c l
    have d:K.gr=false:=(by unfold Kn.gr;simp;omega);have e:(K.after (K.find (K.longest t))).ps=K.ps:=(by unfold Kn.after;simp [d]);have f:(K.after (K.find (K.longest t))).base=K.base:=rfl;rw[if_neg (by rw[e,f];omega)];simp only[List.length_cons];omega
theorem Z4 (K:Kn)(t:Bs)(a:0≤K.base)(b:t.length≤2000):(K.yw t).length≤3002:=by
 have h:=(lJ t.length K.cleared t a (Nat.le_refl _)).2 (by show(-1:Int)<0;omega) (by
  show((K.ps.take K.base.toNat).length:Int)≤K.base;have:=List.length_take_le K.base.toNat K.ps;omega)
 unfold Kn.yw;simp only[List.length_cons,List.length_append,List.length_nil];omega
end Go.Proofs.YtoedhpcmgondjaaGreatDoor
namespace Go.Proofs.YtoedhpcmgondjaaGreatDoor
open Go.Lib(hid)
open Go.RowKit Go.Proofs.Tryz
attribute [local instance] mU hZ cvZ
attribute [local go_sem high] zG zF zH zV zN yu zD zl zn zt zi zu y9 zK yE zJ
abbrev stV (o l m:Int)(d:Bs)(f:Value):Value:=.agg #[o,l,m,d,f]
abbrev stZ :Value:=.agg #[.int .i64 0,.int .i64 0,.int .i64 0,.string ⟨#[]⟩,.slice none 0 0]
def rq (o l m:Int)(d:Bs):Value:=if fits o l m d then .tuple #[stV o l m d (.slice none 0 0),.bool true] else .tuple #[stZ,.bool false]
theorem kJ (o l m:Int)(d:Bs)(w:World)(h:d.length≤9223372036854775807):
 Calls prog 16 #[.agg #[o,l,m],d] w (rT w (rq o l m d)):=by
 go_enter func16,ntmps16;go_wp2_with fail;refine(uT _ _ _ _ _ h).mono ?_;rintro e c ⟨rfl,a⟩;have j:=a.size;simp only[World.size_alloc] at j;have n:∀i,c.cell? ⟨w.heap.size,i,none⟩=(#[o,l,m]:Array Value)[i]? :=zU (by simp) a (by simp;omega);have g:∀i,c.cell? ⟨w.heap.size+1,i,none⟩=(#[.int .i64 0,.int .i64 0,.int .i64 0,.string ⟨#[]⟩,.slice none 0 0]:Array Value)[i]? :=zU (by simp) a (by simp);have p:∀i,c.frozen? ⟨w.heap.size+1,i,none⟩=false:=eu (by simp) a (by simp);have q:Below w.heap.size w c:=(((Below.refl _ _).alloc (Nat.le_refl _) _).alloc (by simp) _).trans (a.mono (by simp;omega));clear a;by_cases b:fits o l m d
 ·have k:decide (fits o l m d)=true:=by simpa using b
  have f:=hid b;clear b;go_wp2;exact bodyPost_ret (v:=.tuple #[stV o l m d (.slice none 0 0),.bool true]) (by simp [results,results16,go_sem,g]) rfl ⟨by rw[rq,if_pos f.out],zy⟩
 ·have k:decide (fits o l m d)=false:=by simpa using b
  have f:=hid b;clear b;go_wp2;exact bodyPost_ret (v:=.tuple #[stZ,.bool false]) (by simp [results,results16,go_sem,g]) rfl ⟨by rw[rq,if_neg f.out],zy⟩
theorem Zh (o l m:Int)(d:Bs)(w:World)(h:d.length≤9223372036854775807):
 Calls prog 28 #[.agg #[o,l,m],d] w (rT w (rq o l m d)):=by
 go_enter func28,ntmps28;go_wp2_with fail;refine(qy _ _ _ _ _ h).mono ?_;rintro e c ⟨rfl,a⟩;have j:=a.size;simp only[World.size_alloc] at j;have n:∀i,c.cell? ⟨w.heap.size,i,none⟩=(#[o,l,m]:Array Value)[i]? :=zU (by simp) a (by simp;omega);have g:∀i,c.cell? ⟨w.heap.size+1,i,none⟩=(#[.int .i64 0,.int .i64 0,.int .i64 0,.string ⟨#[]⟩,.slice none 0 0]:Array Value)[i]? :=zU (by simp) a (by simp);have p:∀i,c.frozen? ⟨w.heap.size+1,i,none⟩=false:=eu (by simp) a (by simp);have q:Below w.heap.size w c:=(((Below.refl _ _).alloc (Nat.le_refl _) _).alloc (by simp) _).trans (a.mono (by simp;omega));clear a;by_cases b:fits o l m d
 ·have k:decide (fits o l m d)=true:=by simpa using b
  have f:=hid b;clear b;go_wp2;exact bodyPost_ret (v:=.tuple #[stV o l m d (.slice none 0 0),.bool true]) (by simp [results,results28,go_sem,g]) rfl ⟨by rw[rq,if_pos f.out],zy⟩
 ·have k:decide (fits o l m d)=false:=by simpa using b
  have f:=hid b;clear b;go_wp2;exact bodyPost_ret (v:=.tuple #[stZ,.bool false]) (by simp [results,results28,go_sem,g]) rfl ⟨by rw[rq,if_neg f.out],zy⟩
