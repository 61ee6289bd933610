import Derived.Test.YtfppmajoidkooaaGreatDoorUGA
import Derived.Test.YtfppmajoidkooaaGreatDoorUGQ
import Derived.Test.YtfppmajoidkooaaGreatDoorUShelf
set_option linter.unusedVariables false
set_option linter.unusedSimpArgs false
set_option maxHeartbeats 8000000
namespace Go.Proofs.YtfppmajoidkooaaGreatDoor
open Go.RowKit
set_option maxRecDepth 100000
attribute [local go_sem high] zy zA zB zO zK zY zx zk zl zq zi zo yP zD yt zF
theorem dZ (l:Bs)(i:Int):byteAt l i=((l.getD i.toNat 0).toNat:Int):=by unfold byteAt;rw[List.getD_eq_getElem?_getD]
theorem LV (c:UInt8):((c.toNat:Int)).toNat.toUInt8=c:=by simp
def uC (l:Bs):Ending:=.returned (.tuple #[.string ⟨((unhex l).getD []).toArray⟩,.bool (unhex l).isSome])
theorem Jb (d e:Int)(h0:0≤d)(h1:d<16)(h2:0≤e)(h3:e<16):bits .or .i64 (d*16) e=d*16+e:=by
 have key:∀x y:Fin 16,bits .or .i64 (((x.val:Nat):Int)*16) ((y.val:Nat):Int)=((x.val:Nat):Int)*16+((y.val:Nat):Int):=(by decide+kernel);have:=key ⟨d.toNat,oo⟩ ⟨e.toNat,oo⟩;simp only at this;rw[Int.toNat_of_nonneg h0,Int.toNat_of_nonneg h2] at this;exact this
def dAt (l:Bs)(i:Int):Int:=vz (l.getD i.toNat 0)
theorem Wy (l:Bs)(i:Int):dAt l i<16∧ -1≤dAt l i:=by
 have:=SX (l.getD i.toNat 0);unfold dAt;by_cases h:0≤vz (l.getD i.toNat 0)
 ·exact⟨(this.1 h).1,this.2⟩
 ·exact⟨by omega,this.2⟩
theorem UH {l r:Bs}{k:Nat}(h:2*k<l.length)(he:l.length % 2=0)(hr:unhexL (l.take (2*k))=some r)(h1:0≤dAt l (2*(k:Int)))(h2:0≤dAt l (2*(k:Int)+1)):
 unhexL (l.take (2*(k+1)))=some (r++[UInt8.ofNat (16*dAt l (2*(k:Int))+dAt l (2*(k:Int)+1)).toNat]):=by
 have e1:dAt l (2*(k:Int))=vz (l.getD (2*k) 0):=(by unfold dAt;rw[show(2*(k:Int)).toNat=2*k by omega]);have e2:dAt l (2*(k:Int)+1)=vz (l.getD (2*k+1) 0):=(by unfold dAt;rw[show(2*(k:Int)+1).toNat=2*k+1 by omega]);rw[e1] at h1⊢;rw[e2] at h2⊢;rw[UL (by omega) he hr h1 h2];congr 4;omega
theorem Qe {l:Bs}{k:Nat}(h:2*k<l.length)(he:l.length % 2=0)(hb:¬(0≤dAt l (2*(k:Int))∧0≤dAt l (2*(k:Int)+1))):unhexL l=none:=by
 have e1:dAt l (2*(k:Int))=vz (l.getD (2*k) 0):=(by unfold dAt;rw[show(2*(k:Int)).toNat=2*k by omega]);have e2:dAt l (2*(k:Int)+1)=vz (l.getD (2*k+1) 0):=(by unfold dAt;rw[show(2*(k:Int)+1).toNat=2*k+1 by omega]);rw[e1,e2] at hb;exact Su l k oo hb
theorem OA (x:Int)(h0:0≤x)(h1:x<256):u8v (UInt8.ofNat x.toNat)= .int .u8 x:=by
 show Value.int .u8 _=_;rw[UInt8.toNat_ofNat'];congr 1;omega
theorem qU (l:Bs)(i:Int)(w:World):
 Calls Tryz.prog 186 #[.string ⟨hexL.toArray⟩,.int .u8 (byteAt l i)] w fun e w'=>e= .returned (.int .i64 (dAt l i))∧w=w':=
 (Tryz.strings_IndexByte ⟨hexL.toArray⟩ (byteAt l i) w).mono fun e w' ⟨he,hw⟩=>⟨by rw[he,dZ,LV];rfl,hw.symm⟩
theorem WR (l:Bs)(c:UInt8)(k:Nat)(h:k<l.length)(ha:∀x ∈ l.take k,x≠c)(hb:l[k]≠c):∀x ∈ l.take (k+1),x≠c:=by
 intro x hx;rw[List.take_succ_eq_append_getElem h] at hx;rcases List.mem_append.1 hx with hx|hx
 ·exact ha x hx
 ·simp at hx;rw[hx];exact hb
theorem TY (l:Bs)(c:UInt8)(w:World)(hl:l.length≤4000000):
 Calls Tryz.prog 128 #[.string ⟨l.toArray⟩,.int .u8 (c.toNat:Int)] w fun e w'=>e= .returned (.int .i64 (Lib.indexByte l c))∧w=w':=by
 go_enter Tryz.func128,Tryz.ntmps128;go_wp2;go_loop [5] (fun a=>∃k:Nat,k≤l.length∧a= .int .i64 k∧Hid (∀x ∈ l.take k,x≠c)) (fun a=>l.length - (intOf a).toNat)
 case atStart=>exact⟨0,by omega,rfl,by show ∀x ∈ l.take 0,x≠c;simp⟩
 case round=>
  obtain⟨k,hk,rfl,hn⟩:=hrel;by_cases hlt:k<l.length
  ·have ha:(k:Int)<l.length:=oo
   by_cases hc:l[k]=c
   ·have hb:(byteAt l k==(c.toNat:Int))=true:=by rw[zX l k hlt,hc];simp
    have HR:=Go.Lib.hid (Nk c l k hlt hn.out hc);clear hc;go_wp2;go_ret;exact⟨yN HR.out.symm,rfl⟩
   ·have hb:(byteAt l k==(c.toNat:Int))=false:=by
     rw[zX l k hlt,beq_eq_false_iff_ne];intro e;exact hc (UInt8.toNat_inj.1 oo)
    have HS:=Go.Lib.hid (WR l c k hlt hn.out hc);clear hc;go_wp2;go_round
    case rel=>exact⟨k+1,oo,by go_num,HS⟩
    case measure=>simp [intOf];omega
  ·have HR:Hid (Lib.indexByte l c= -1):=by
    have e:l.take k=l:=List.take_of_length_le oo;have:=hn.out;rw[e] at this;exact QJ c l this
   go_wp2;go_ret;exact⟨yN HR.out.symm,rfl⟩
theorem rV (l:Bs)(i:Int)(w:World):
 Calls Tryz.prog 128 #[.string ⟨hexL.toArray⟩,.int .u8 (byteAt l i)] w fun e w'=>e= .returned (.int .i64 (dAt l i))∧w=w':=by
 rw[dZ];exact TY hexL _ w (by decide)
set_option maxRecDepth 100000 in
theorem Ve (l:Bs)(w:World)(hl:l.length≤4000000):
 Calls Tryz.prog 155 #[.string ⟨l.toArray⟩] w fun e w'=>e=uC l∧Below w.heap.size w w':=by
 obtain⟨i,hi,hz0,hz1,hz2⟩:=info_parts wI;by_cases hok:l.length % 2=0∧l.length≤8000
 ·have HU:Hid (unhex l=unhexL l):=by show _=_;unfold unhex;rw[if_pos hok]
  obtain⟨hok1,hok2⟩:=hok;go_enter Tryz.func155,Tryz.ntmps155;have ho1:((l.length:Int) % 2 != 0)=false:=(by simp;omega);have ho2:(l.length:Int)≤8000:=oo;have hmk:(0:Nat)≤1:=oo;go_wp2_with(at_make;go_must(refine wpList_make_own _ rfl _ _ 22 rfl w.heap.size 5 i (.int .u8 0) 1 Tryz.underlying22 hi hz0 hz1 _ _ _ (l.length / 2) rfl rfl (by omega) (by rw[hz2];omega) (by unfold maxLen;omega) (Nat.le_refl _) ?_);intro w1 hown hg1);have g1:Below w.heap.size w w1:=(Below.refl _ _).grown hg1 (Nat.le_refl _) (by simp);clear hg1;go_loopw [4,5] (fun v k wr=>∃(n:Nat) (r:Bs),2*n≤l.length∧k= .int .i64 ((2*n:Nat):Int)∧Hid (unhexL (l.take (2*n))=some r)∧r.length≤n∧wr.ownsRow w.heap.size 5 1 v r.length (r.map u8v)∧Below w.heap.size w wr) (fun _ k _=>l.length - (intOf k).toNat)
  case atStart=>exact⟨0,[],by omega,rfl,by show unhexL (l.take 0)=_;simp [unhexL],by simp,by simpa using hown,g1⟩
  case round=>
   obtain⟨n,r,hn,rfl,hr,hrn,hown,hb⟩:=hrel;have hz:=hb.size;by_cases hlt:2*n<l.length
   ·have ha:((2*n:Nat):Int)<l.length:=oo
    have ha2:((2*n:Nat):Int)+1<l.length:=oo;have hd1:=Wy l (2*(n:Int));have hd2:=Wy l (2*(n:Int)+1);obtain⟨hd1a,hd1b⟩:=hd1;obtain⟨hd2a,hd2b⟩:=hd2;by_cases h1:0≤dAt l (2*(n:Int))∧0≤dAt l (2*(n:Int)+1)
    ·have HS:=Go.Lib.hid (UH hlt hok1 hr.out h1.1 h1.2)
     obtain⟨h1a,h1b⟩:=h1;have hor:=Jb _ _ h1a hd1a h1b hd2a;have hm1:r.length+1≤maxLen:=(by unfold maxLen;omega);have hm2:(r.length+1)*1≤140737488355328:=oo;go_wp2_with fail;refine(qU l _ _).mono ?_;rintro e w' ⟨rfl,rfl⟩;go_wp2_with fail;refine(qU l _ _).mono ?_;rintro e w' ⟨rfl,rfl⟩;go_wp2_with(at_builtin;go_must(refine wpList_append_own _ rfl _ _ 22 rfl (w.heap.size) 5 i _ 1 1 Tryz.underlying22 hi hz0 hz1 hz2 rfl oo _ _ _ rfl (hown.alloc _) ⟨wr.heap.size,0,none⟩ 1 1 [.int .u8 (dAt l (2*(n:Int))*16+dAt l (2*(n:Int)+1))] rfl rfl ?_ ?_ hm1 hm2 ?_ ?_));try(case refine_1=>first|exact cell_one_new _ _ _|omega|(simp<;>omega;done)|(simp [Value.oneCell'];done))
     try(case refine_2=>first|exact cell_one_new _ _ _|omega|(simp<;>omega;done)|(simp [Value.oneCell'];done))
     try(case refine_3=>first|exact cell_one_new _ _ _|omega|(simp<;>omega;done)|(simp [Value.oneCell'];done))
     intro v2 w2 hown2 hg2 _;go_wp2;go_roundw
     case rel=>
      refine⟨n+1,r++[UInt8.ofNat (16*dAt l (2*(n:Int))+dAt l (2*(n:Int)+1)).toNat],by omega,by go_num,HS,by simp;omega,?_,?_⟩
      ·rw[List.map_append,List.length_append]
       simp only[List.map_cons,List.map_nil];rw[OA _ (by omega) (by omega),Int.mul_comm 16];exact hown2
      ·exact hb.trans (((Below.refl w.heap.size wr).alloc hz _).grown hg2 (by simp;omega) (by intro q hq;have:=(hown.lt q hq);omega))
     case measure=>simp [intOf];omega
    ·have HB:Hid (uC l= .returned (.tuple #[.string ⟨#[]⟩,.bool false])):=by
      show _=_;have:unhex l=none:=(by rw[HU.out];exact Qe hlt hok1 h1);unfold uC;rw[this];rfl
     go_wp2_with fail;refine(qU l _ _).mono ?_;rintro e w' ⟨rfl,rfl⟩;by_cases h2:0≤dAt l (2*(n:Int))
     ·have h3:¬0≤dAt l (2*(n:Int)+1):=fun h=>h1 ⟨h2,h⟩
      go_wp2_with fail;refine(qU l _ _).mono ?_;rintro e w' ⟨rfl,rfl⟩;go_wp2;exact bodyPost_ret (by simp [results,Tryz.results155,go_sem]) rfl ⟨HB.out.symm,hb⟩
     ·go_wp2_with fail
      refine(qU l _ _).mono ?_;rintro e w' ⟨rfl,rfl⟩;go_wp2;exact bodyPost_ret (by simp [results,Tryz.results155,go_sem]) rfl ⟨HB.out.symm,hb⟩
   ·have hcv:=yH hown
    have HB:Hid (uC l= .returned (.tuple #[.string ⟨r.toArray⟩,.bool true])):=by
     show _=_;have:unhex l=some r:=by
      have:=hr.out;rw[HU.out];rw[List.take_of_length_le (by omega)] at this;exact this
     unfold uC;rw[this];rfl
    go_wp2;exact bodyPost_ret (by simp [results,Tryz.results155,go_sem]) rfl ⟨HB.out.symm,hb⟩
 ·have HB:Hid (uC l= .returned (.tuple #[.string ⟨#[]⟩,.bool false])):=by
   show _=_;have:unhex l=none:=(by unfold unhex;rw[if_neg hok]);unfold uC;rw[this];rfl
  go_enter Tryz.func155,Tryz.ntmps155;by_cases h1:l.length % 2=0
  ·have h2:(8000:Int)<l.length:=oo
   have h3:((l.length:Int) % 2 != 0)=false:=(by simp;omega);go_wp2;exact bodyPost_ret (by simp [results,Tryz.results155,go_sem]) rfl ⟨HB.out.symm,zu⟩
  ·have h3:((l.length:Int) % 2 != 0)=true:=by simp;omega
   go_wp2;exact bodyPost_ret (by simp [results,Tryz.results155,go_sem]) rfl ⟨HB.out.symm,zu⟩
set_option maxRecDepth 100000 in
theorem jE (l:Bs)(w:World)(hl:l.length≤4000000):
 Calls Tryz.prog 86 #[.string ⟨l.toArray⟩] w fun e w'=>e=uC l∧Below w.heap.size w w':=by
 obtain⟨i,hi,hz0,hz1,hz2⟩:=info_parts wI;by_cases hok:l.length % 2=0∧l.length≤8000
 ·have HU:Hid (unhex l=unhexL l):=by show _=_;unfold unhex;rw[if_pos hok]
  obtain⟨hok1,hok2⟩:=hok;go_enter Tryz.func86,Tryz.ntmps86;have ho1:((l.length:Int) % 2 != 0)=false:=(by simp;omega);have ho2:(l.length:Int)≤8000:=oo;have hmk:(0:Nat)≤1:=oo;go_wp2_with(at_make;go_must(refine wpList_make_own _ rfl _ _ 22 rfl w.heap.size 5 i (.int .u8 0) 1 Tryz.underlying22 hi hz0 hz1 _ _ _ (l.length / 2) rfl rfl (by omega) (by rw[hz2];omega) (by unfold maxLen;omega) (Nat.le_refl _) ?_);intro w1 hown hg1);have g1:Below w.heap.size w w1:=(Below.refl _ _).grown hg1 (Nat.le_refl _) (by simp);clear hg1;go_loopw [4,5] (fun v k wr=>∃(n:Nat) (r:Bs),2*n≤l.length∧k= .int .i64 ((2*n:Nat):Int)∧Hid (unhexL (l.take (2*n))=some r)∧r.length≤n∧wr.ownsRow w.heap.size 5 1 v r.length (r.map u8v)∧Below w.heap.size w wr) (fun _ k _=>l.length - (intOf k).toNat)
  case atStart=>exact⟨0,[],by omega,rfl,by show unhexL (l.take 0)=_;simp [unhexL],by simp,by simpa using hown,g1⟩
  case round=>
   obtain⟨n,r,hn,rfl,hr,hrn,hown,hb⟩:=hrel;have hz:=hb.size;by_cases hlt:2*n<l.length
   ·have ha:((2*n:Nat):Int)<l.length:=oo
    have ha2:((2*n:Nat):Int)+1<l.length:=oo;have hd1:=Wy l (2*(n:Int));have hd2:=Wy l (2*(n:Int)+1);obtain⟨hd1a,hd1b⟩:=hd1;obtain⟨hd2a,hd2b⟩:=hd2;by_cases h1:0≤dAt l (2*(n:Int))∧0≤dAt l (2*(n:Int)+1)
    ·have HS:=Go.Lib.hid (UH hlt hok1 hr.out h1.1 h1.2)
     obtain⟨h1a,h1b⟩:=h1;have hm1:r.length+1≤maxLen:=(by unfold maxLen;omega);have hm2:(r.length+1)*1≤140737488355328:=oo;go_wp2_with fail;refine(rV l _ _).mono ?_;rintro e w' ⟨rfl,rfl⟩;go_wp2_with fail;refine(rV l _ _).mono ?_;rintro e w' ⟨rfl,rfl⟩;go_wp2_with(at_builtin;go_must(refine wpList_append_own _ rfl _ _ 22 rfl (w.heap.size) 5 i _ 1 1 Tryz.underlying22 hi hz0 hz1 hz2 rfl oo _ _ _ rfl (hown.alloc _) ⟨wr.heap.size,0,none⟩ 1 1 [.int .u8 (16*dAt l (2*(n:Int))+dAt l (2*(n:Int)+1))] rfl rfl ?_ ?_ hm1 hm2 ?_ ?_));try(case refine_1=>first|exact cell_one_new _ _ _|omega|(simp<;>omega;done)|(simp [Value.oneCell'];done))
     try(case refine_2=>first|exact cell_one_new _ _ _|omega|(simp<;>omega;done)|(simp [Value.oneCell'];done))
     try(case refine_3=>first|exact cell_one_new _ _ _|omega|(simp<;>omega;done)|(simp [Value.oneCell'];done))
     intro v2 w2 hown2 hg2 _;go_wp2;go_roundw
     case rel=>
      refine⟨n+1,r++[UInt8.ofNat (16*dAt l (2*(n:Int))+dAt l (2*(n:Int)+1)).toNat],by omega,by go_num,HS,by simp;omega,?_,?_⟩
      ·rw[List.map_append,List.length_append]
       simp only[List.map_cons,List.map_nil];rw[OA _ (by omega) (by omega)];exact hown2
      ·exact hb.trans (((Below.refl w.heap.size wr).alloc hz _).grown hg2 (by simp;omega) (by intro q hq;have:=(hown.lt q hq);omega))
     case measure=>simp [intOf];omega
    ·have HB:Hid (uC l= .returned (.tuple #[.string ⟨#[]⟩,.bool false])):=by
      show _=_;have:unhex l=none:=(by rw[HU.out];exact Qe hlt hok1 h1);unfold uC;rw[this];rfl
     go_wp2_with fail;refine(rV l _ _).mono ?_;rintro e w' ⟨rfl,rfl⟩;by_cases h2:0≤dAt l (2*(n:Int))
     ·have h3:¬0≤dAt l (2*(n:Int)+1):=fun h=>h1 ⟨h2,h⟩
      go_wp2_with fail;refine(rV l _ _).mono ?_;rintro e w' ⟨rfl,rfl⟩;go_wp2;exact bodyPost_ret (by simp [results,Tryz.results86,go_sem]) rfl ⟨HB.out.symm,hb⟩
     ·go_wp2_with fail
      refine(rV l _ _).mono ?_;rintro e w' ⟨rfl,rfl⟩;go_wp2;exact bodyPost_ret (by simp [results,Tryz.results86,go_sem]) rfl ⟨HB.out.symm,hb⟩
   ·have hcv:=yH hown
    have HB:Hid (uC l= .returned (.tuple #[.string ⟨r.toArray⟩,.bool true])):=by
     show _=_;have:unhex l=some r:=by
      have:=hr.out;rw[HU.out];rw[List.take_of_length_le (by omega)] at this;exact this
     unfold uC;rw[this];rfl
    go_wp2;exact bodyPost_ret (by simp [results,Tryz.results86,go_sem]) rfl ⟨HB.out.symm,hb⟩
 ·have HB:Hid (uC l= .returned (.tuple #[.string ⟨#[]⟩,.bool false])):=by
   show _=_;have:unhex l=none:=(by unfold unhex;rw[if_neg hok]);unfold uC;rw[this];rfl
  go_enter Tryz.func86,Tryz.ntmps86;by_cases h1:l.length % 2=0
  ·have h2:(8000:Int)<l.length:=oo
   have h3:((l.length:Int) % 2 != 0)=false:=(by simp;omega);go_wp2_with(at_make;go_must(refine wpList_make_own _ rfl _ _ 22 rfl w.heap.size 5 i (.int .u8 0) 1 Tryz.underlying22 hi hz0 hz1 _ _ _ (l.length / 2) rfl rfl (by omega) (by rw[hz2];omega) (by unfold maxLen;omega) (Nat.le_refl _) ?_);intro w1 hown hg1);have g1:Below w.heap.size w w1:=(Below.refl _ _).grown hg1 (Nat.le_refl _) (by simp);exact bodyPost_ret (by simp [results,Tryz.results86,go_sem]) rfl ⟨HB.out.symm,g1⟩
  ·have h3:((l.length:Int) % 2 != 0)=true:=by simp;omega
   go_wp2_with(at_make;go_must(refine wpList_make_own _ rfl _ _ 22 rfl w.heap.size 5 i (.int .u8 0) 1 Tryz.underlying22 hi hz0 hz1 _ _ _ (l.length / 2) rfl rfl (by omega) (by rw[hz2];omega) (by unfold maxLen;omega) (Nat.le_refl _) ?_);intro w1 hown hg1);have g1:Below w.heap.size w w1:=(Below.refl _ _).grown hg1 (Nat.le_refl _) (by simp);exact bodyPost_ret (by simp [results,Tryz.results86,go_sem]) rfl ⟨HB.out.symm,g1⟩
end Go.Proofs.YtfppmajoidkooaaGreatDoor
