import Derived.Test.YtfppmajoidkooaaGreatDoorUGA
import Derived.Test.YtfppmajoidkooaaGreatDoorUGZ
set_option linter.unusedVariables false
set_option linter.unusedSimpArgs false
set_option maxHeartbeats 8000000
namespace Go.Proofs.YtfppmajoidkooaaGreatDoor
open Go.RowKit
attribute [local go_sem high] zy zA zB zO zK zY zx zk zl zq zi zo yP zD yt zF
theorem YF (l:Bs)(w:World)(hs:l.length≤9223372036854775807):
 Calls Tryz.prog 78 #[.string ⟨l.toArray⟩] w fun e w'=>e= .returned (.bool (um l))∧w=w':=by
 go_enter Tryz.func78,Tryz.ntmps78;go_wp2
 ·go_ret
  refine⟨zQ ?_,rfl⟩;rw[eq_comm,um,Bool.and_eq_false_iff];left;simp;omega
 ·go_loop [14] (fun k=>∃n:Nat,n≤l.length∧k= .int .i64 n∧(l.take n).all nameB=true) (fun k=>l.length - (intOf k).toNat)
  case atStart=>exact⟨0,Nat.zero_le _,rfl,rfl⟩
  case round=>
   obtain⟨k,hk,rfl,hx⟩:=hrel;have HX:=Go.Lib.hid hx;clear hx;by_cases hlt:k<l.length
   ·have HN:=Go.Lib.hid (Xv l k hlt)
    have HS:=Go.Lib.hid (ry nameB l k hlt);have hc1:=zL l k;have hc2:=yu l k;by_cases hb:97≤byteAt l k∧byteAt l k≤122
    ·obtain⟨hb1,hb2⟩:=hb
     go_wp2;go_round
     case rel=>exact⟨k+1,by omega,by go_num,by rw[HS.out,HX.out,HN.out];simp;omega⟩
     case measure=>simp [intOf];omega
    ·by_cases hb1:byteAt l k<97
     all_goals
      go_wp2;go_ret;refine⟨zQ ?_,rfl⟩;rw[eq_comm,um,Bool.and_eq_false_iff];right;exact qw nameB l k hlt (by rw[HN.out];simp;omega)
   ·go_wp2
    go_ret;refine⟨zQ ?_,rfl⟩;have e:l.take k=l:=List.take_of_length_le oo;have HX2:=HX.out;rw[e] at HX2;rw[eq_comm,um,HX2];simp;omega
 ·go_ret
  refine⟨zQ ?_,rfl⟩;rw[eq_comm,um,Bool.and_eq_false_iff];left;simp;omega
theorem uk (a b c:Int)(w:World):
 Calls Tryz.prog 133 #[.int .i64 a,.int .i64 b,.int .i64 c] w fun e w'=>e= .returned (.bool (decide (b≤a∧a≤c)))∧w=w':=by
 go_enter Tryz.func133,Tryz.ntmps133;by_cases h:b≤a
 all_goals
  go_wp2
  all_goals
   go_ret;exact⟨zQ (by rw[Bool.eq_iff_iff];simp;omega),rfl⟩
theorem Z8 (l:Bs)(w:World)(hs:l.length≤9223372036854775807):
 Calls Tryz.prog 97 #[.string ⟨l.toArray⟩] w fun e w'=>e= .returned (.bool (um l))∧w=w':=by
 go_enter Tryz.func97,Tryz.ntmps97;go_wp2;go_loop [3] (fun k=>∃n:Nat,n≤l.length∧k= .int .i64 n∧(l.take n).all nameB=true) (fun k=>l.length - (intOf k).toNat)
 case atStart=>exact⟨0,Nat.zero_le _,rfl,rfl⟩
 case round=>
  obtain⟨k,hk,rfl,hx⟩:=hrel;have HX:=Go.Lib.hid hx;clear hx;by_cases hlt:k<l.length
  ·have HN:=Go.Lib.hid (Xv l k hlt)
   have HS:=Go.Lib.hid (ry nameB l k hlt);have hc1:=zL l k;have hc2:=yu l k;by_cases hb:97≤byteAt l k∧byteAt l k≤122
   ·obtain⟨hb1,hb2⟩:=hb
    go_wp2;go_round
    case rel=>exact⟨k+1,by omega,by go_num,by rw[HS.out,HX.out,HN.out];simp;omega⟩
    case measure=>simp [intOf];omega
   ·by_cases hb1:byteAt l k<97
    all_goals
     go_wp2;go_ret;refine⟨zQ ?_,rfl⟩;rw[eq_comm,um,Bool.and_eq_false_iff];right;exact qw nameB l k hlt (by rw[HN.out];simp;omega)
  ·go_wp2_with(go_at_call 133;refine(uk _ _ _ _).mono ?_;rintro e w' ⟨rfl,rfl⟩)
   go_ret;refine⟨zQ ?_,rfl⟩;have e:l.take k=l:=List.take_of_length_le oo;have HX2:=HX.out;rw[e] at HX2;rw[eq_comm,um,HX2,Bool.eq_iff_iff];simp;omega
theorem bM (a b c:Int)(w:World):
 Calls Tryz.prog 134 #[.int .i64 a,.int .i64 b,.int .i64 c] w fun e w'=>e= .returned (.bool (decide (0≤a∧a≤b∧b≤c)))∧w=w':=by
 go_enter Tryz.func134,Tryz.ntmps134;by_cases h:0≤b∧b≤c
 all_goals
  go_wp2_with(go_at_call 133;refine(uk _ _ _ _).mono ?_;rintro e w' ⟨rfl,rfl⟩)
  all_goals
   go_ret;exact⟨zQ (by rw[Bool.eq_iff_iff];simp;omega),rfl⟩
theorem y9 (a:Int)(w:World):
 Calls Tryz.prog 90 #[.int .i64 a] w fun e w'=>e= .returned (.bool (decide (1≤a∧a≤64)))∧w=w':=by
 go_enter Tryz.func90,Tryz.ntmps90;by_cases h:1≤a
 all_goals
  go_wp2
  all_goals
   go_ret;exact⟨zQ (by rw[Bool.eq_iff_iff];simp;omega),rfl⟩
theorem eP (n:Int)(w:World)(h0:0≤n)(h1:n≤16):
 Calls Tryz.prog 183 #[.int .i64 n] w fun e w'=>e= .returned (.int .i64 (pow2 n))∧w=w':=by
 go_enter Tryz.func183,Tryz.ntmps183;go_wp2;go_ret;exact⟨yN (rQ n h0 h1),rfl⟩
theorem yG (o l m:Int)(w:World)(h0:0≤l)(h1:l≤16):
 Calls Tryz.prog 152 #[.agg #[.int .i64 o,.int .i64 l,.int .i64 m]] w fun e w'=>e= .returned (.int .i64 (pow2 l))∧Below w.heap.size w w':=by
 go_enter Tryz.func152,Tryz.ntmps152;go_wp2_with(go_at_call 183;refine(eP _ _ h0 h1).mono ?_;rintro e w' ⟨rfl,rfl⟩);go_ret;exact⟨rfl,zu⟩
theorem xH (o l m:Int)(w:World):
 Calls Tryz.prog 121 #[.agg #[.int .i64 o,.int .i64 l,.int .i64 m]] w fun e w'=>e= .returned (.bool (decide (vW o l m)))∧Below w.heap.size w w':=by
 go_enter Tryz.func121,Tryz.ntmps121;go_wp2_with(go_in)
 all_goals go_ret
 all_goals refine⟨zQ ?_,(Below.refl _ _).alloc (Nat.le_refl _) _⟩
 all_goals (rw[Bool.eq_iff_iff];simp only[decide_eq_true_eq];grind [vW])
theorem tu (o l m:Int)(w:World):
 Calls Tryz.prog 160 #[.agg #[.int .i64 o,.int .i64 l,.int .i64 m]] w fun e w'=>e= .returned (.bool (decide (vW o l m)))∧Below w.heap.size w w':=by
 go_enter Tryz.func160,Tryz.ntmps160;go_wp2_with(first|(go_at_call 133;refine(uk _ _ _ _).mono ?_;rintro e w' ⟨rfl,rfl⟩)|go_in)
 all_goals go_ret
 all_goals refine⟨zQ ?_,(Below.refl _ _).alloc (Nat.le_refl _) _⟩
 all_goals (rw[Bool.eq_iff_iff];simp only[decide_eq_true_eq];grind [vW])
theorem tY (o l m:Int)(d:Bs)(w:World)(hs:d.length≤9223372036854775807):
 Calls Tryz.prog 77 #[.agg #[.int .i64 o,.int .i64 l,.int .i64 m],.string ⟨d.toArray⟩] w fun e w'=>e= .returned (.bool (decide (fits o l m d)))∧Below w.heap.size w w':=by
 go_enter Tryz.func77,Tryz.ntmps77;go_wp2_with fail;refine(xH _ _ _ _).mono ?_;rintro e w1 ⟨rfl,hb1⟩;have hB1:=zJ (yl _ _ _) hb1 (by simp);have g1:Below w.heap.size w w1:=((Below.refl _ _).alloc (Nat.le_refl _) _).trans (hb1.mono (by simp));clear hb1;by_cases hv:vW o l m
 ·by_cases hl:d.length≤2000
  ·have HV:=Go.Lib.hid hv
   have hl1:1≤l:=hv.2.1;have hl2:l≤8:=hv.2.2.1;have hd:decide (vW o l m)=true:=(by simpa using hv);clear hv;go_wp2;go_loopw [16] (fun k wr=>∃n:Nat,n≤d.length∧k= .int .i64 n∧(d.take n).all (vI l)=true∧∃q,wr=w1.drewN q) (fun k _=>d.length - (intOf k).toNat)
   case atStart=>exact⟨0,Nat.zero_le _,rfl,rfl,0,rfl⟩
   case round=>
    obtain⟨k,hk,rfl,hx,q,rfl⟩:=hrel;have HX:=Go.Lib.hid hx;clear hx;by_cases hlt:k<d.length
    ·have HN:=Go.Lib.hid (U3 l d k hlt)
     have HS:=Go.Lib.hid (ry (vI l) d k hlt);have hc1:=zL d k;have hc2:=yu d k;have hw:=rQ l oo oo;have ha:(k:Int)<d.length:=oo;have hl0:0≤l:=oo;have hl64:l<64:=oo;by_cases hb:byteAt d k<pow2 l
     ·go_wp2
      go_quiet(fail);go_wp2;go_roundw
      case rel=>exact⟨k+1,by omega,by go_num,by rw[HS.out,HX.out,HN.out];simpa using hb,_,rfl⟩
      case measure=>simp [intOf];omega
     ·go_wp2
      go_quiet(fail);go_wp2;go_ret;refine⟨zQ ?_,dh (dh g1 _) _⟩;rw[eq_comm,decide_eq_false_iff_not];rintro⟨_,_,h⟩;rw[qw (vI l) d k hlt (by rw[HN.out];simpa using hb)] at h
      cases h
    ·go_wp2
     go_ret;refine⟨zQ ?_,dh g1 _⟩;have e:d.take k=d:=List.take_of_length_le oo;have HX2:=HX.out;rw[e] at HX2;rw[eq_comm,decide_eq_true_eq];exact⟨HV.out,hl,HX2⟩
  ·have hd:decide (vW o l m)=true:=by simpa using hv
   have hl':2000<d.length:=oo;clear hv;go_wp2;go_ret;refine⟨zQ ?_,g1⟩;rw[eq_comm,decide_eq_false_iff_not];rintro⟨_,h,_⟩;omega
 ·have hd:decide (vW o l m)=false:=by simpa using hv
  have HV:=Go.Lib.hid hv;clear hv;go_wp2;go_ret;refine⟨zQ ?_,g1⟩;rw[eq_comm,decide_eq_false_iff_not];rintro⟨h,_,_⟩;exact HV.out h
theorem RI (o l m:Int)(d:Bs)(w:World)(hl1:0≤l)(hl2:l≤16)(hs:d.length≤9223372036854775807):
 Calls Tryz.prog 161 #[.agg #[.int .i64 o,.int .i64 l,.int .i64 m],.string ⟨d.toArray⟩] w fun e w'=>e= .returned (.bool (d.all (vI l)))∧Below w.heap.size w w':=by
 go_enter Tryz.func161,Tryz.ntmps161;go_wp2;go_loopw [5] (fun k wr=>∃n:Nat,n≤d.length∧k= .int .i64 n∧(d.take n).all (vI l)=true∧Below w.heap.size w wr∧w.heap.size<wr.heap.size∧∀i,wr.cell? ⟨w.heap.size,i,none⟩=(#[.int .i64 o,.int .i64 l,.int .i64 m]:Array Value)[i]?) (fun k _=>d.length - (intOf k).toNat)
 case atStart=>exact⟨0,Nat.zero_le _,rfl,rfl,zu,by simp,yl _ _ _⟩
 case round=>
  obtain⟨k,hk,rfl,hx,hbl,hsz,hB⟩:=hrel;have HX:=Go.Lib.hid hx;clear hx;by_cases hlt:k<d.length
  ·have HN:=Go.Lib.hid (U3 l d k hlt)
   have HS:=Go.Lib.hid (ry (vI l) d k hlt);have hc1:=zL d k;have hc2:=yu d k;have ha:(k:Int)<d.length:=oo;have hG:=zI hB hsz;go_wp2_with fail;by_cases hb:byteAt d k<pow2 l
   ·
    refine wp_region_quiet_below kr kr ?_;repeat(go_big_quiet_step ((go_at_call 152;exact Calls.regrown_of (yG _ _ _ _ hl1 hl2))))
    refine wpQuiet_nil ?_;intro w2 hw2;have hb2:Below _ _ w2:=zh hw2;clear hw2;have hz2:=hb2.size;go_wp2;go_roundw
    case rel=>exact⟨k+1,by omega,by go_num,by rw[HS.out,HX.out,HN.out];simpa using hb,hbl.trans (hb2.mono (by omega)),by omega,zJ hB hb2 hsz⟩
    case measure=>simp [intOf];omega
   ·
    refine wp_region_quiet_below kr kr ?_;repeat(go_big_quiet_step ((go_at_call 152;exact Calls.regrown_of (yG _ _ _ _ hl1 hl2))))
    refine wpQuiet_nil ?_;intro w2 hw2;have hb2:Below _ _ w2:=zh hw2;clear hw2;have hz2:=hb2.size;go_wp2;go_ret;exact⟨zQ (qw (vI l) d k hlt (by rw[HN.out];simpa using hb)).symm,hbl.trans (hb2.mono (by omega))⟩
  ·go_wp2
   go_ret;refine⟨zQ ?_,hbl⟩;have e:d.take k=d:=List.take_of_length_le oo;have HX2:=HX.out;rw[e] at HX2;exact HX2.symm
theorem rC (o l m:Int)(d:Bs)(w:World)(hs:d.length≤9223372036854775807):
 Calls Tryz.prog 130 #[.agg #[.int .i64 o,.int .i64 l,.int .i64 m],.string ⟨d.toArray⟩] w fun e w'=>e= .returned (.bool (decide (fits o l m d)))∧Below w.heap.size w w':=by
 go_enter Tryz.func130,Tryz.ntmps130;go_wp2_with fail;refine(tu _ _ _ _).mono ?_;rintro e w1 ⟨rfl,hb1⟩;have hB1:=zJ (yl _ _ _) hb1 (by simp);have hz1:=hb1.size;simp only[World.size_alloc] at hz1;have g1:Below w.heap.size w w1:=((Below.refl _ _).alloc (Nat.le_refl _) _).trans (hb1.mono (by simp));clear hb1;by_cases hv:vW o l m
 ·have hd:decide (vW o l m)=true:=by simpa using hv
  have hl1:0≤l:=(by have:=hv.2.1;omega);have hl2:l≤16:=(by have:=hv.2.2.1;omega);have HV:=Go.Lib.hid hv;clear hv;by_cases hl:d.length≤2000
  ·go_wp2_with(go_at_call 161;refine(RI _ _ _ _ _ hl1 hl2 hs).mono ?_;rintro e w2 ⟨rfl,hb2⟩)
   go_ret;refine⟨zQ ?_,g1.trans (hb2.mono oo)⟩;rw[Bool.eq_iff_iff,decide_eq_true_eq];exact⟨fun h=>⟨HV.out,hl,by simpa using h⟩,fun h=>by simpa using h.2.2⟩
  ·go_wp2
   go_ret;refine⟨zQ ?_,g1⟩;rw[eq_comm,decide_eq_false_iff_not];rintro⟨_,h,_⟩;omega
 ·have hd:decide (vW o l m)=false:=by simpa using hv
  have HV:=Go.Lib.hid hv;clear hv;go_wp2;go_ret;refine⟨zQ ?_,g1⟩;rw[eq_comm,decide_eq_false_iff_not];rintro⟨h,_,_⟩;exact HV.out h
theorem rW (o l m:Int)(d:Bs)(w:World)(hs:d.length≤9223372036854775807):
 Calls Tryz.prog 95 #[.agg #[.int .i64 o,.int .i64 l,.int .i64 m],.string ⟨d.toArray⟩] w fun e w'=>e= .returned (.bool (decide (fits o l m d)))∧Below w.heap.size w w':=by
 go_enter Tryz.func95,Tryz.ntmps95;go_wp2_with(go_at_call 130;refine(rC _ _ _ _ _ hs).mono ?_;rintro e w2 ⟨rfl,hb2⟩);go_ret;exact⟨rfl,((Below.refl _ _).alloc (Nat.le_refl _) _).trans (hb2.mono (by simp))⟩
theorem qE (l:Bs)(w:World)(hs:l.length≤9223372036854775807):
 Calls Tryz.prog 47 #[.string ⟨l.toArray⟩] w fun e w'=>e= .returned (.int .i64 (sumOf l))∧w=w':=by
 go_enter Tryz.func47,Tryz.ntmps47;go_wp2;go_loop [3,4,8] (fun a b k=>∃n:Nat,n≤l.length∧k= .int .i64 n∧a= .int .i64 (sumP (l.take n)).1∧b= .int .i64 (sumP (l.take n)).2) (fun _ _ k=>l.length - (intOf k).toNat)
 case atStart=>exact⟨0,Nat.zero_le _,rfl,rfl,rfl⟩
 case round=>
  obtain⟨k,hk,rfl,rfl,rfl⟩:=hrel;have hb:=WT (l.take k);obtain⟨hb1,hb2,hb3,hb4⟩:=hb;by_cases hlt:k<l.length
  ·have HS:=Go.Lib.hid (sumP_snoc l k hlt)
   have HB:=Go.Lib.hid (zX l k hlt);have hc1:=zL l k;have hc2:=yu l k;go_wp2;go_round
   case rel=>
    refine⟨k+1,oo,by go_num,?_,?_⟩
    ·rw[HS.out];simp [tV,←HB.out]
    ·rw[HS.out];simp [tV,←HB.out]
   case measure=>simp [intOf];omega
  ·go_wp2
   go_ret;have:k=l.length:=oo;subst this;exact⟨by simp [sumOf],rfl⟩
theorem ZB (l:Bs)(w:World)(hs:l.length≤9223372036854775807):
 Calls Tryz.prog 89 #[.string ⟨l.toArray⟩] w fun e w'=>e= .returned (.int .i64 (sumOf l))∧w=w':=by
 go_enter Tryz.func89,Tryz.ntmps89;go_wp2;go_loop [3,4,5] (fun a b k=>∃n:Nat,n≤l.length∧k= .int .i64 n∧a= .int .i64 (sumP (l.take n)).1∧b= .int .i64 (sumP (l.take n)).2) (fun _ _ k=>l.length - (intOf k).toNat)
 case atStart=>exact⟨0,Nat.zero_le _,rfl,rfl,rfl⟩
 case round=>
  obtain⟨k,hk,rfl,rfl,rfl⟩:=hrel;have hb:=WT (l.take k);obtain⟨hb1,hb2,hb3,hb4⟩:=hb;by_cases hlt:k<l.length
  ·have HS:=Go.Lib.hid (sumP_snoc l k hlt)
   have HB:=Go.Lib.hid (zX l k hlt);have hc1:=zL l k;have hc2:=yu l k;go_wp2;go_round
   case rel=>
    refine⟨k+1,oo,by go_num,?_,?_⟩
    ·rw[HS.out];simp [tV,←HB.out]
    ·rw[HS.out];simp [tV,←HB.out]
   case measure=>simp [intOf];omega
  ·go_wp2
   go_ret;have:k=l.length:=oo;subst this;exact⟨by simp [sumOf],rfl⟩
set_option maxRecDepth 100000 in
theorem two_any (n:Int)(w:World)(h0:0≤n)(h1:n≤9000000):
 Calls Tryz.prog 53 #[.int .i64 n] w fun e w'=>e= .returned (.string ⟨(two n).toArray⟩)∧Below w.heap.size w w':=by
 go_enter Tryz.func53,Tryz.ntmps53;go_wp2;go_ret;exact⟨rfl,(Below.refl _ _).alloc (Nat.le_refl _) _⟩
set_option maxRecDepth 100000 in
theorem jc (n:Int)(w:World)(h0:0≤n)(h1:n≤9000000):
 Calls Tryz.prog 88 #[.int .i64 n] w fun e w'=>e= .returned (.string ⟨(two n).toArray⟩)∧Below w.heap.size w w':=by
 go_enter Tryz.func88,Tryz.ntmps88;go_wp2;go_ret;exact⟨rfl,(Below.refl _ _).alloc (Nat.le_refl _) _⟩
end Go.Proofs.YtfppmajoidkooaaGreatDoor
namespace Go.Proofs.YtfppmajoidkooaaGreatDoor
open Go.RowKit
def Kp (P:World→Prop)(w:World):Prop:=∀wr,Below w.heap.size w wr→P wr
section
variable {P Q : World → Prop} {w w' : World}
theorem Kp.now (h:Kp P w):P w:=h w (Below.refl _ _)
theorem Kp.step (h:Kp P w)(b:Below w.heap.size w w'):Kp P w':=fun wr h'=>h wr (b.trans (h'.mono b.size))
theorem Kp.alloc (h:Kp P w)(o:Obj):Kp P (w.alloc o):=h.step ((Below.refl _ _).alloc (Nat.le_refl _) o)
theorem Kp.and (h:Kp P w)(h2:Kp Q w):Kp (fun w=>P w∧Q w) w:=fun wr b=>⟨h wr b,h2 wr b⟩
theorem Kp.of (h:∀wr,Below w.heap.size w wr→Q wr):Kp Q w:=h
theorem Kp.bk {g:Nat}{t:TypeId}{cs:Array Value}(h:Bk w g t cs):Kp (fun wr=>Bk wr g t cs) w:=fun wr b=>h.below b h.lt
theorem Kp.sl {A:Option Addr}{n c s:Nat}{cs:List Value}(h:Sl w A n c s cs):Kp (fun wr=>Sl wr A n c s cs) w:=fun wr b=>h.below b
theorem Kp.box (h:Kp P w)(cs:Array Value)(t:TypeId):Kp (fun wr=>P wr∧Bk wr w.heap.size t cs) (w.alloc (.cells cs t)):=(h.alloc _).and (Kp.bk (Bk.new w cs t))
theorem Kp.base (w:World):Kp (fun wr=>Below w.heap.size w wr) w:=fun _ h=>h
end
end Go.Proofs.YtfppmajoidkooaaGreatDoor
namespace Go.Proofs.YtfppmajoidkooaaGreatDoor
open Go.RowKit
attribute [local go_sem high] zy zA zB zO zK zY zx zk zl zq zi zo yP zD yt zF
theorem lY (k f t s:Int)(nm d:Bs)(w:World)(hn:nm.length≤9223372036854775807)(hd:d.length≤9223372036854775807):
 Calls Tryz.prog 51 #[.agg #[.int .i64 k,.string ⟨nm.toArray⟩,.int .i64 f,.int .i64 t,.int .i64 s,.string ⟨d.toArray⟩]] w fun e w'=>e= .returned (.bool (decide (uM k nm f t s d)))∧Below w.heap.size w w':=by
 go_enter Tryz.func51,Tryz.ntmps51;go_wp2_with(first|(go_at_call 78;refine(YF _ _ hn).mono ?_;rintro e w' ⟨rfl,rfl⟩)|(go_at_call 90;refine(y9 _ _).mono ?_;rintro e w' ⟨rfl,rfl⟩))
 all_goals go_ret
 all_goals refine⟨zQ ?_,(Below.refl _ _).alloc (Nat.le_refl _) _⟩
 all_goals (rw[Bool.eq_iff_iff];simp only[decide_eq_true_eq];grind [uM])
theorem mi (k f t s:Int)(nm d:Bs)(w:World)(hn:nm.length≤9223372036854775807)(hd:d.length≤9223372036854775807):
 Calls Tryz.prog 98 #[.agg #[.int .i64 k,.string ⟨nm.toArray⟩,.int .i64 f,.int .i64 t,.int .i64 s,.string ⟨d.toArray⟩]] w fun e w'=>e= .returned (.bool (decide (uM k nm f t s d)))∧Below w.heap.size w w':=by
 go_enter Tryz.func98,Tryz.ntmps98;go_wp2_with(first|(go_at_call 97;refine(Z8 _ _ hn).mono ?_;rintro e w' ⟨rfl,rfl⟩)|(go_at_call 133;refine(uk _ _ _ _).mono ?_;rintro e w' ⟨rfl,rfl⟩)|(go_at_call 134;refine(bM _ _ _ _).mono ?_;rintro e w' ⟨rfl,rfl⟩))
 all_goals go_ret
 all_goals refine⟨zQ ?_,(Below.refl _ _).alloc (Nat.le_refl _) _⟩
 all_goals (rw[Bool.eq_iff_iff];simp only[decide_eq_true_eq];grind [uM])
theorem O8 (k f t s:Int)(nm d:Bs)(w:World):
 Calls Tryz.prog 30 #[.agg #[.int .i64 k,.string ⟨nm.toArray⟩,.int .i64 f,.int .i64 t,.int .i64 s,.string ⟨d.toArray⟩]] w fun e w'=>e= .returned (.agg #[.int .i64 k,.string ⟨nm.toArray⟩,.int .i64 f,.int .i64 t,.int .i64 s,.string ⟨d.toArray⟩])∧Below w.heap.size w w':=by
 go_enter Tryz.func30,Tryz.ntmps30;go_wp2;exact bodyPost_ret (v:=.agg #[.int .i64 k,.string ⟨nm.toArray⟩,.int .i64 f,.int .i64 t,.int .i64 s,.string ⟨d.toArray⟩]) (by simp [results,Tryz.results30,go_sem]) rfl ⟨rfl,zu⟩
end Go.Proofs.YtfppmajoidkooaaGreatDoor
namespace Go.Proofs.YtfppmajoidkooaaGreatDoor
open Go.RowKit
def Kn.full (K:Kn):Bool:=decide (K.top<K.nx∧K.base<K.ps.length)
theorem iI {K:Kn}(h:0≤K.base):K.cleared.full=false:=by
 unfold Kn.full Kn.cleared;simp only[decide_eq_false_iff_not,List.length_take];omega
def xM :Nat→Kn→Bs→List Int
 |0,_,_=>[]
 |n+1,K,t=>if t=[] then[] else
  (if K.full=true then[K.cl] else[])++(if K.full=true then K.cleared else K).find ((if K.full=true then K.cleared else K).longest t)::
    xM n ((if K.full=true then K.cleared else K).after ((if K.full=true then K.cleared else K).find ((if K.full=true then K.cleared else K).longest t))) (t.drop ((if K.full=true then K.cleared else K).longest t).length)
theorem Zw :∀(n:Nat) (K:Kn) (t:Bs),0≤K.base→t.length≤n→xM n K t=if t≠[]∧K.full=true then K.cl::zV n K.cleared t else zV n K t
 |0,K,t,_,ht=>by
  have e:t=[]:=List.length_eq_zero_iff.1 oo;subst e;simp [xM,zV]
 |n+1,K,t,h,htl=>by
  by_cases ht:t=[]
  ·subst ht;simp [xM,zV]
  ·unfold xM
   rw[if_neg ht];have key:∀K1:Kn,0≤K1.base→K1.full=false→K1.find (K1.longest t)::xM n (K1.after (K1.find (K1.longest t))) (t.drop (K1.longest t).length)=zV (n+1) K1 t:=by
    intro K1 hb hf;have hp:=K1.xg ht;rw[Zw n (K1.after (K1.find (K1.longest t))) _ hb (by simp;omega)];rw[zV,if_neg ht];simp only;have e:(K1.after (K1.find (K1.longest t))).cl=K1.cl:=rfl;by_cases hr:t.drop (K1.longest t).length≠[]∧(K1.after (K1.find (K1.longest t))).top<(K1.after (K1.find (K1.longest t))).nx∧(K1.after (K1.find (K1.longest t))).base<(K1.after (K1.find (K1.longest t))).ps.length
    ·rw[if_pos hr,e]
     have hfull:(K1.after (K1.find (K1.longest t))).full=true:=(by unfold Kn.full;simpa using hr.2);rw[if_pos ⟨hr.1,hfull⟩]
    ·rw[if_neg hr]
     rw[if_neg];intro hc;exact hr ⟨hc.1,by have:=hc.2;unfold Kn.full at this;simpa using this⟩
   cases hf:K.full with
   |true=>
    simp only[if_true];rw[List.cons_append,List.nil_append,key K.cleared h (iI h),if_pos ⟨ht,trivial⟩]
   |false=>
    simp only[Bool.false_eq_true,if_false,List.nil_append,and_false];exact key K h hf
theorem Ux {K:Kn}{t:Bs}(h:0≤K.base):K.yc t=K.cl::(xM t.length K.cleared t++[K.cl+1]):=by
 unfold Kn.yc;rw[Zw _ _ _ (by exact h) (Nat.le_refl _),iI h];simp
theorem W9 {n:Nat}{K:Kn}{t:Bs}(ht:t≠[])(hf:K.full=true):xM (n+1) K t=[K.cl]++K.cleared.find (K.cleared.longest t)::xM n (K.cleared.after (K.cleared.find (K.cleared.longest t))) (t.drop (K.cleared.longest t).length):=by
 rw[xM,if_neg ht,hf];simp
theorem We {n:Nat}{K:Kn}{t:Bs}(ht:t≠[])(hf:K.full=false):xM (n+1) K t=K.find (K.longest t)::xM n (K.after (K.find (K.longest t))) (t.drop (K.longest t).length):=by
 rw[xM,if_neg ht,hf];simp
theorem U1 (n:Nat)(K:Kn):xM n K []=[]:=by cases n<;>simp [xM]
def wP :Kn→List Int→Nat→Prop
 |_,[],_=>False
 |K,c::r,n=>if c=K.cl+1 then r=[] else if c=K.cl then wP K.cleared r n else K.fol c=true∧n+(K.any c).length≤2000∧wP (K.after c) r (n+(K.any c).length)
theorem Vb :∀(cs:List Int) (K:Kn) (n:Nat),n≤2000→wP K cs n→wO K cs n
 |[],_,_,_,h=>by simp [wP] at h
 |c::r,K,n,hn,h=>by
  rw[wP] at h;rw[wO];split
  ·rename_i h1;rw[if_pos h1] at h;exact h
  ·rename_i h1
   rw[if_neg h1] at h;split
   ·rename_i h2;rw[if_pos h2] at h;exact Vb r _ n hn h
   ·rename_i h2;rw[if_neg h2] at h;exact⟨h.1,by omega,Vb r _ _ (by omega) h.2.2⟩
theorem qK :∀(n:Nat) (K:Kn) (t:Bs) (m:Nat),K.ok→t.all (vI K.l)=true→t.length≤n→m+t.length≤2000→wP K (zV n K t++[K.cl+1]) m
 |0,K,t,m,_,_,ht,_=>by simp [zV,wP]
 |n+1,K,t,m,hk,hl,ht,hm=>by
  unfold zV;split
  ·simp [wP]
  ·rename_i hne
   have hf:=K.sF hk hne hl;have hlp:=(K.yE t).2;have hlq:=K.xg hne;obtain⟨hf1,hf2,hf3⟩:=hf;have hb:=dU hk hf1;have hao:=K.vU hk hf1;have hd:(t.drop (K.longest t).length).length=t.length - (K.longest t).length:=(by simp);have hrl:(t.drop (K.longest t).length).all (vI K.l)=true:=rJ _ _ _ hl;simp only;split
   ·rw[List.cons_append,wP,if_neg hb.2.2.2,if_neg hb.2.2.1,hf2,List.cons_append,wP]
    refine⟨hf1,oo,?_⟩;have e1:(K.after (K.find (K.longest t))).cl=K.cl:=rfl;rw[e1,if_neg (by omega),if_pos rfl];exact qK n _ _ _ (Kn.y7 hao) hrl oo oo
   ·rw[List.cons_append,wP,if_neg hb.2.2.2,if_neg hb.2.2.1,hf2]
    exact⟨hf1,oo,qK n _ _ _ hao hrl oo oo⟩
theorem Wq {K:Kn}(hk:K.ok){t:Bs}(hl:t.all (vI K.l)=true)(ht:t.length≤2000):wP K (K.yc t) 0:=by
 unfold Kn.yc;rw[wP,if_neg (by omega),if_pos rfl];exact qK _ _ _ _ (Kn.y7 hk) hl (Nat.le_refl _) oo
theorem nM :∀(n:Nat) (K:Kn) (t:Bs),0≤K.base→t.length≤n→2*(zV n K t).length≤3*t.length+1∧(K.last<0→(K.ps.length:Int)≤K.base→2*(zV n K t).length≤3*t.length)
 |0,K,t,_,_=>by simp [zV]
 |n+1,K,t,hb0,ht=>by
  unfold zV;split
  ·simp
  ·rename_i hne
   have hlq:=K.xg hne;have hlp:=(K.yE t).2;have hd:(t.drop (K.longest t).length).length=t.length - (K.longest t).length:=(by simp);have hp:0<t.length:=List.length_pos_iff.2 hne;simp only;have h1:=nM n (K.after (K.find (K.longest t))) (t.drop (K.longest t).length) hb0 oo;have h2:=nM n (K.after (K.find (K.longest t))).cleared (t.drop (K.longest t).length) hb0 oo;constructor
   ·split
    ·have h3:=h2.2 (by show(-1:Int)<0;omega) (by
      show(((K.after (K.find (K.longest t))).ps.take K.base.toNat).length:Int)≤K.base;have:=List.length_take_le K.base.toNat (K.after (K.find (K.longest t))).ps;omega)
     simp only[List.length_cons];omega
    ·simp only[List.length_cons]
     omega
   ·intro h3 h4
    have hg:K.gr=false:=(by unfold Kn.gr;simp;omega);have e:(K.after (K.find (K.longest t))).ps=K.ps:=(by unfold Kn.after;simp [hg]);have e2:(K.after (K.find (K.longest t))).base=K.base:=rfl;rw[if_neg (by rw[e,e2];omega)];simp only[List.length_cons];omega
theorem ZQ (K:Kn)(t:Bs)(hb:0≤K.base)(ht:t.length≤2000):(K.yc t).length≤3002:=by
 have h:=(nM t.length K.cleared t hb (Nat.le_refl _)).2 (by show(-1:Int)<0;omega) (by
  show((K.ps.take K.base.toNat).length:Int)≤K.base;have:=List.length_take_le K.base.toNat K.ps;omega)
 unfold Kn.yc;simp only[List.length_cons,List.length_append,List.length_nil];omega
end Go.Proofs.YtfppmajoidkooaaGreatDoor
namespace Go.Proofs.YtfppmajoidkooaaGreatDoor
open Go.RowKit
attribute [local go_sem high] zy zA zB zO zK zY zx zk zl zq zi zo yP zD yt zF
abbrev stV (o l m:Int)(d:Bs)(f:Value):Value:=.agg #[.int .i64 o,.int .i64 l,.int .i64 m,.string ⟨d.toArray⟩,f]
abbrev stZ :Value:=.agg #[.int .i64 0,.int .i64 0,.int .i64 0,.string ⟨#[]⟩,.slice none 0 0]
def rG (o l m:Int)(d:Bs):Value:=if fits o l m d then .tuple #[stV o l m d (.slice none 0 0),.bool true] else .tuple #[stZ,.bool false]
theorem wZ (o l m:Int)(w:World):
 Calls Tryz.prog 22 #[.agg #[.int .i64 o,.int .i64 l,.int .i64 m]] w fun e w'=>e= .returned (.agg #[.int .i64 o,.int .i64 l,.int .i64 m])∧Below w.heap.size w w':=by
 go_enter Tryz.func22,Tryz.ntmps22;go_wp2;exact bodyPost_ret (v:=.agg #[.int .i64 o,.int .i64 l,.int .i64 m]) (by simp [results,Tryz.results22,go_sem]) rfl ⟨rfl,zu⟩
theorem YB (o l m:Int)(w:World):
 Calls Tryz.prog 63 #[.agg #[.int .i64 o,.int .i64 l,.int .i64 m],.agg #[.int .i64 o,.int .i64 l,.int .i64 m]] w fun e w'=>e= .returned (.bool true)∧Below w.heap.size w w':=by
 go_enter Tryz.func63,Tryz.ntmps63;go_wp2;go_ret;exact⟨rfl,zu⟩
theorem ZH (o l m:Int)(d:Bs)(w:World)(hs:d.length≤9223372036854775807):
 Calls Tryz.prog 37 #[.agg #[.int .i64 o,.int .i64 l,.int .i64 m],.string ⟨d.toArray⟩] w fun e w'=>e= .returned (rG o l m d)∧Below w.heap.size w w':=by
 go_enter Tryz.func37,Tryz.ntmps37;go_wp2_with fail;refine(tY _ _ _ _ _ hs).mono ?_;rintro e w1 ⟨rfl,hb1⟩;have hz1:=hb1.size;simp only[World.size_alloc] at hz1;have hB1:∀i,w1.cell? ⟨w.heap.size,i,none⟩=(#[.int .i64 o,.int .i64 l,.int .i64 m]:Array Value)[i]? :=zJ (by simp) hb1 (by simp;omega);have hR1:∀i,w1.cell? ⟨w.heap.size+1,i,none⟩=(#[.int .i64 0,.int .i64 0,.int .i64 0,.string ⟨#[]⟩,.slice none 0 0]:Array Value)[i]? :=zJ (by simp) hb1 (by simp);have hF1:∀i,w1.frozen? ⟨w.heap.size+1,i,none⟩=false:=fZ (by simp) hb1 (by simp);have g1:Below w.heap.size w w1:=(((Below.refl _ _).alloc (Nat.le_refl _) _).alloc (by simp) _).trans (hb1.mono (by simp;omega));clear hb1;by_cases hv:fits o l m d
 ·have hd:decide (fits o l m d)=true:=by simpa using hv
  have HV:=Go.Lib.hid hv;clear hv;go_wp2;exact bodyPost_ret (v:=.tuple #[stV o l m d (.slice none 0 0),.bool true]) (by simp [results,Tryz.results37,go_sem,hR1]) rfl ⟨by rw[rG,if_pos HV.out],zu⟩
 ·have hd:decide (fits o l m d)=false:=by simpa using hv
  have HV:=Go.Lib.hid hv;clear hv;go_wp2;exact bodyPost_ret (v:=.tuple #[stZ,.bool false]) (by simp [results,Tryz.results37,go_sem,hR1]) rfl ⟨by rw[rG,if_neg HV.out],zu⟩
theorem aA (o l m:Int)(d:Bs)(w:World)(hs:d.length≤9223372036854775807):
 Calls Tryz.prog 65 #[.agg #[.int .i64 o,.int .i64 l,.int .i64 m],.string ⟨d.toArray⟩] w fun e w'=>e= .returned (rG o l m d)∧Below w.heap.size w w':=by
 go_enter Tryz.func65,Tryz.ntmps65;go_wp2_with fail;refine(rW _ _ _ _ _ hs).mono ?_;rintro e w1 ⟨rfl,hb1⟩;have hz1:=hb1.size;simp only[World.size_alloc] at hz1;have hB1:∀i,w1.cell? ⟨w.heap.size,i,none⟩=(#[.int .i64 o,.int .i64 l,.int .i64 m]:Array Value)[i]? :=zJ (by simp) hb1 (by simp;omega);have hR1:∀i,w1.cell? ⟨w.heap.size+1,i,none⟩=(#[.int .i64 0,.int .i64 0,.int .i64 0,.string ⟨#[]⟩,.slice none 0 0]:Array Value)[i]? :=zJ (by simp) hb1 (by simp);have hF1:∀i,w1.frozen? ⟨w.heap.size+1,i,none⟩=false:=fZ (by simp) hb1 (by simp);have g1:Below w.heap.size w w1:=(((Below.refl _ _).alloc (Nat.le_refl _) _).alloc (by simp) _).trans (hb1.mono (by simp;omega));clear hb1;by_cases hv:fits o l m d
 ·have hd:decide (fits o l m d)=true:=by simpa using hv
  have HV:=Go.Lib.hid hv;clear hv;go_wp2;exact bodyPost_ret (v:=.tuple #[stV o l m d (.slice none 0 0),.bool true]) (by simp [results,Tryz.results65,go_sem,hR1]) rfl ⟨by rw[rG,if_pos HV.out],zu⟩
 ·have hd:decide (fits o l m d)=false:=by simpa using hv
  have HV:=Go.Lib.hid hv;clear hv;go_wp2;exact bodyPost_ret (v:=.tuple #[stZ,.bool false]) (by simp [results,Tryz.results65,go_sem,hR1]) rfl ⟨by rw[rG,if_neg HV.out],zu⟩
end Go.Proofs.YtfppmajoidkooaaGreatDoor
