import Derived.Test.YtoedhpcmgondjaaGreatDoorYGQ
import Derived.Test.YtoedhpcmgondjaaGreatDoorYShelf
set_option linter.all false
set_option maxHeartbeats 8000000
namespace Go.Proofs.YtoedhpcmgondjaaGreatDoor
open Go.Lib(hid)
open Go.RowKit Go.Proofs.Tryz
set_option maxRecDepth 100000
attribute [local instance] cvZ
attribute [local go_sem high] zG zF zH zV zN yu zD zl zn zt zi zu y9 zK yE zJ
theorem Zf (l:Bs)(i:Int):byteAt l i=((l.getD i.toNat 0).toNat:Int):=by unfold byteAt;rw[List.getD_eq_getElem?_getD]
theorem Jz (c:UInt8):((c.toNat:Int)).toNat.toUInt8=c:=by simp
def uX (l:Bs):Ending:=.returned (.tuple #[.string ⟨((unhex l).getD []).toArray⟩,.bool (unhex l).isSome])
theorem Il (d e:Int)(h0:0≤d)(h1:d<16)(h2:0≤e)(b:e<16):bits .or .i64 (d*16) e=d*16+e:=by
 have a:∀x y:Fin 16,bits .or .i64 (((x.val:Nat):Int)*16) ((y.val:Nat):Int)=((x.val:Nat):Int)*16+((y.val:Nat):Int):=(by decide+kernel);have:=a ⟨d.toNat,oo⟩ ⟨e.toNat,oo⟩;simp only at this;rw[Int.toNat_of_nonneg h0,Int.toNat_of_nonneg h2] at this;exact this
def dAt (l:Bs)(i:Int):Int:=vY (l.getD i.toNat 0)
theorem V6 (l:Bs)(i:Int):dAt l i<16∧ -1≤dAt l i:=by
 have:=RF (l.getD i.toNat 0);unfold dAt;by_cases h:0≤vY (l.getD i.toNat 0)
 ·exact⟨(this.1 h).1,this.2⟩
 ·exact⟨by omega,this.2⟩
theorem Tz {l r:Bs}{k:Nat}(h:2*k<l.length)(a:l.length % 2=0)(b:unhexL (l.take (2*k))=some r)(h1:0≤dAt l (2*(k:Int)))(h2:0≤dAt l (2*(k:Int)+1)):
 unhexL (l.take (2*(k+1)))=some (r++[UInt8.ofNat (16*dAt l (2*(k:Int))+dAt l (2*(k:Int)+1)).toNat]):=by
 have c:dAt l (2*(k:Int))=vY (l.getD (2*k) 0):=(by unfold dAt;rw[show(2*(k:Int)).toNat=2*k by omega]);have d:dAt l (2*(k:Int)+1)=vY (l.getD (2*k+1) 0):=(by unfold dAt;rw[show(2*(k:Int)+1).toNat=2*k+1 by omega]);rw[c] at h1⊢;rw[d] at h2⊢;rw[Ur (by omega) a b h1 h2];congr 4;omega
theorem P9 {l:Bs}{k:Nat}(h:2*k<l.length)(d:l.length % 2=0)(a:¬(0≤dAt l (2*(k:Int))∧0≤dAt l (2*(k:Int)+1))):unhexL l=none:=by
 have b:dAt l (2*(k:Int))=vY (l.getD (2*k) 0):=(by unfold dAt;rw[show(2*(k:Int)).toNat=2*k by omega]);have c:dAt l (2*(k:Int)+1)=vY (l.getD (2*k+1) 0):=(by unfold dAt;rw[show(2*(k:Int)+1).toNat=2*k+1 by omega]);rw[b,c] at a;exact QQ l k oo a
theorem LC (x:Int)(h0:0≤x)(h1:x<256):u8v (UInt8.ofNat x.toNat)= .int .u8 x:=by
 show Value.int .u8 _=_;rw[UInt8.toNat_ofNat'];congr 1;omega
theorem pU (l:Bs)(i:Int)(w:World):
 Calls prog 170 #[hexL,.int .u8 (byteAt l i)] w fun e w'=>e= .returned (.int .i64 (dAt l i))∧w=w':=
 (Tryz.strings_IndexByte ⟨hexL.toArray⟩ (byteAt l i) w).mono fun e w' ⟨a,b⟩=>⟨by rw[a,Zf,Jz];rfl,b.symm⟩
theorem Vp (l:Bs)(c:UInt8)(k:Nat)(h:k<l.length)(b:∀x ∈ l.take k,x≠c)(d:l[k]≠c):∀x ∈ l.take (k+1),x≠c:=by
 intro x a;rw[List.take_succ_eq_append_getElem h] at a;rcases List.mem_append.1 a with a|a
 ·exact b x a
 ·simp at a;rw[a];exact d
theorem Qp (l:Bs)(c:UInt8)(w:World)(j:l.length≤4000000):
 Calls prog 113 #[l,.int .u8 (c.toNat:Int)] w fun e w'=>e= .returned (.int .i64 (Lib.indexByte l c))∧w=w':=by
 go_enter func113,ntmps113;go_wp2;go_loop [5] (fun a=>∃k:Nat,k≤l.length∧a= .int .i64 k∧Hid (∀x ∈ l.take k,x≠c)) (fun a=>l.length - (intOf a).toNat)
 case atStart=>exact⟨0,by omega,rfl,by show ∀x ∈ l.take 0,x≠c;simp⟩
 case round=>
  obtain⟨k,hk,rfl,f⟩:=hrel;by_cases d:k<l.length
  ·have m:(k:Int)<l.length:=oo
   by_cases b:l[k]=c
   ·have h:(byteAt l k==(c.toNat:Int))=true:=by rw[yh l k d,b];simp
    have g:=hid (L9 c l k d f.out b);clear b;go_wp2;go_ret;exact⟨yZ g.out.symm,rfl⟩
   ·have h:(byteAt l k==(c.toNat:Int))=false:=by
     rw[yh l k d,beq_eq_false_iff_ne];intro e;exact b (UInt8.toNat_inj.1 oo)
    have i:=hid (Vp l c k d f.out b);clear b;go_wp2;go_round
    case rel=>exact⟨k+1,oo,by go_num,i⟩
    case measure=>simp [intOf];omega
  ·have g:Hid (Lib.indexByte l c= -1):=by
    have e:l.take k=l:=List.take_of_length_le oo;have:=f.out;rw[e] at this;exact P8 c l this
   go_wp2;go_ret;exact⟨yZ g.out.symm,rfl⟩
theorem qG (l:Bs)(i:Int)(w:World):
 Calls prog 113 #[hexL,.int .u8 (byteAt l i)] w fun e w'=>e= .returned (.int .i64 (dAt l i))∧w=w':=by
 rw[Zf];exact Qp hexL _ w (by decide)
set_option maxRecDepth 100000 in
theorem VQ (l:Bs)(w:World)(N:l.length≤4000000):
 Calls prog 140 #[l] w (rS w (uX l)):=by
 obtain⟨i,f,g,j,m⟩:=info_parts wQ;by_cases d:l.length % 2=0∧l.length≤8000
 ·have o:Hid (unhex l=unhexL l):=by show _=_;unfold unhex;rw[if_pos d]
  obtain⟨p,O⟩:=d;go_enter func140,ntmps140;have P:((l.length:Int) % 2 != 0)=false:=(by simp;omega);have Q:(l.length:Int)≤8000:=oo;have R:(0:Nat)≤1:=oo;go_wp2_with(at_make;go_must(refine wpList_make_own _ rfl _ _ 22 rfl w.heap.size 5 i (.int .u8 0) 1 underlying22 f g j _ _ _ (l.length / 2) rfl rfl (by omega) (by rw[m];omega) (by unfold maxLen;omega) (Nat.le_refl _) ?_);intro y b s);have z:Below w.heap.size w y:=(Below.refl _ _).grown s (Nat.le_refl _) (by simp);clear s;go_loopw [4,5] (fun v k wr=>∃(n:Nat) (r:Bs),2*n≤l.length∧k= .int .i64 ((2*n:Nat):Int)∧Hid (unhexL (l.take (2*n))=some r)∧r.length≤n∧wr.ownsRow w.heap.size 5 1 v r.length (r.map u8v)∧Below w.heap.size w wr) (fun _ k _=>l.length - (intOf k).toNat)
  case atStart=>exact⟨0,[],by omega,rfl,by show unhexL (l.take 0)=_;simp [unhexL],by simp,by simpa using b,z⟩
  case round=>
   obtain⟨n,r,S,rfl,t,T,b,c⟩:=hrel;have A:=c.size;by_cases u:2*n<l.length
   ·have U:((2*n:Nat):Int)<l.length:=oo
    have V:((2*n:Nat):Int)+1<l.length:=oo;have B:=V6 l (2*(n:Int));have C:=V6 l (2*(n:Int)+1);obtain⟨D,W⟩:=B;obtain⟨E,X⟩:=C;by_cases h1:0≤dAt l (2*(n:Int))∧0≤dAt l (2*(n:Int)+1)
    ·have F:=hid (Tz u p t.out h1.1 h1.2)
     obtain⟨G,H⟩:=h1;have Y:=Il _ _ G D H E;have I:r.length+1≤maxLen:=(by unfold maxLen;omega);have J:(r.length+1)*1≤140737488355328:=oo;go_wp2_with fail;refine(pU l _ _).mono ?_;rintro e w' ⟨rfl,rfl⟩;go_wp2_with fail;refine(pU l _ _).mono ?_;rintro e w' ⟨rfl,rfl⟩;go_wp2_with(at_builtin;go_must(refine wpList_append_own _ rfl _ _ 22 rfl (w.heap.size) 5 i _ 1 1 underlying22 f g j m rfl oo _ _ _ rfl (b.alloc _) ⟨wr.heap.size,0,none⟩ 1 1 [.int .u8 (dAt l (2*(n:Int))*16+dAt l (2*(n:Int)+1))] rfl rfl ?_ ?_ I J ?_ ?_));try(case refine_1=>first|exact cell_one_new _ _ _|omega|(simp<;>omega;done)|(simp [Value.oneCell'];done))
     try(case refine_2=>first|exact cell_one_new _ _ _|omega|(simp<;>omega;done)|(simp [Value.oneCell'];done))
     try(case refine_3=>first|exact cell_one_new _ _ _|omega|(simp<;>omega;done)|(simp [Value.oneCell'];done))
     intro Z w2 K L _;go_wp2;go_roundw
     case rel=>
      refine⟨n+1,r++[UInt8.ofNat (16*dAt l (2*(n:Int))+dAt l (2*(n:Int)+1)).toNat],by omega,by go_num,F,by simp;omega,?_,?_⟩
      ·rw[List.map_append,List.length_append]
       simp only[List.map_cons,List.map_nil];rw[LC _ (by omega) (by omega),Int.mul_comm 16];exact K
      ·exact c.trans (((Below.refl w.heap.size wr).alloc A _).grown L (by simp;omega) (by intro q M;have:=(b.lt q M);omega))
     case measure=>simp [intOf];omega
    ·have a:Hid (uX l= .returned (.tuple #[.string ⟨#[]⟩,.bool false])):=by
      show _=_;have:unhex l=none:=(by rw[o.out];exact P9 u p h1);unfold uX;rw[this];rfl
     go_wp2_with fail;refine(pU l _ _).mono ?_;rintro e w' ⟨rfl,rfl⟩;by_cases h2:0≤dAt l (2*(n:Int))
     ·have x:¬0≤dAt l (2*(n:Int)+1):=fun h=>h1 ⟨h2,h⟩
      go_wp2_with fail;refine(pU l _ _).mono ?_;rintro e w' ⟨rfl,rfl⟩;go_wp2;exact bodyPost_ret (by simp [results,results140,go_sem]) rfl ⟨a.out.symm,c⟩
     ·go_wp2_with fail
      refine(pU l _ _).mono ?_;rintro e w' ⟨rfl,rfl⟩;go_wp2;exact bodyPost_ret (by simp [results,results140,go_sem]) rfl ⟨a.out.symm,c⟩
   ·have a1:=yL b
    have a:Hid (uX l= .returned (.tuple #[r,.bool true])):=by
     show _=_;have:unhex l=some r:=by
      have:=t.out;rw[o.out];rw[List.take_of_length_le (by omega)] at this;exact this
     unfold uX;rw[this];rfl
    go_wp2;exact bodyPost_ret (by simp [results,results140,go_sem]) rfl ⟨a.out.symm,c⟩
 ·have a:Hid (uX l= .returned (.tuple #[.string ⟨#[]⟩,.bool false])):=by
   show _=_;have:unhex l=none:=(by unfold unhex;rw[if_neg d]);unfold uX;rw[this];rfl
  go_enter func140,ntmps140;by_cases h1:l.length % 2=0
  ·have h2:(8000:Int)<l.length:=oo
   have x:((l.length:Int) % 2 != 0)=false:=(by simp;omega);go_wp2;exact bodyPost_ret (by simp [results,results140,go_sem]) rfl ⟨a.out.symm,zy⟩
  ·have x:((l.length:Int) % 2 != 0)=true:=by simp;omega
   go_wp2;exact bodyPost_ret (by simp [results,results140,go_sem]) rfl ⟨a.out.symm,zy⟩
set_option maxRecDepth 100000 in
theorem iH (l:Bs)(w:World)(J:l.length≤4000000):
 Calls prog 81 #[l] w (rS w (uX l)):=by
 obtain⟨i,j,m,o,p⟩:=info_parts wQ;by_cases s:l.length % 2=0∧l.length≤8000
 ·have t:Hid (unhex l=unhexL l):=by show _=_;unfold unhex;rw[if_pos s]
  obtain⟨u,K⟩:=s;go_enter func81,ntmps81;have L:((l.length:Int) % 2 != 0)=false:=(by simp;omega);have M:(l.length:Int)≤8000:=oo;have N:(0:Nat)≤1:=oo;go_wp2_with(at_make;go_must(refine wpList_make_own _ rfl _ _ 22 rfl w.heap.size 5 i (.int .u8 0) 1 underlying22 j m o _ _ _ (l.length / 2) rfl rfl (by omega) (by rw[p];omega) (by unfold maxLen;omega) (Nat.le_refl _) ?_);intro d a c);have f:Below w.heap.size w d:=(Below.refl _ _).grown c (Nat.le_refl _) (by simp);clear c;go_loopw [4,5] (fun v k wr=>∃(n:Nat) (r:Bs),2*n≤l.length∧k= .int .i64 ((2*n:Nat):Int)∧Hid (unhexL (l.take (2*n))=some r)∧r.length≤n∧wr.ownsRow w.heap.size 5 1 v r.length (r.map u8v)∧Below w.heap.size w wr) (fun _ k _=>l.length - (intOf k).toNat)
  case atStart=>exact⟨0,[],by omega,rfl,by show unhexL (l.take 0)=_;simp [unhexL],by simp,by simpa using a,f⟩
  case round=>
   obtain⟨n,r,O,rfl,x,P,a,g⟩:=hrel;have A:=g.size;by_cases y:2*n<l.length
   ·have Q:((2*n:Nat):Int)<l.length:=oo
    have R:((2*n:Nat):Int)+1<l.length:=oo;have B:=V6 l (2*(n:Int));have C:=V6 l (2*(n:Int)+1);obtain⟨S,T⟩:=B;obtain⟨U,V⟩:=C;by_cases h1:0≤dAt l (2*(n:Int))∧0≤dAt l (2*(n:Int)+1)
    ·have D:=hid (Tz y u x.out h1.1 h1.2)
     obtain⟨W,X⟩:=h1;have E:r.length+1≤maxLen:=(by unfold maxLen;omega);have F:(r.length+1)*1≤140737488355328:=oo;go_wp2_with fail;refine(qG l _ _).mono ?_;rintro e w' ⟨rfl,rfl⟩;go_wp2_with fail;refine(qG l _ _).mono ?_;rintro e w' ⟨rfl,rfl⟩;go_wp2_with(at_builtin;go_must(refine wpList_append_own _ rfl _ _ 22 rfl (w.heap.size) 5 i _ 1 1 underlying22 j m o p rfl oo _ _ _ rfl (a.alloc _) ⟨wr.heap.size,0,none⟩ 1 1 [.int .u8 (16*dAt l (2*(n:Int))+dAt l (2*(n:Int)+1))] rfl rfl ?_ ?_ E F ?_ ?_));try(case refine_1=>first|exact cell_one_new _ _ _|omega|(simp<;>omega;done)|(simp [Value.oneCell'];done))
     try(case refine_2=>first|exact cell_one_new _ _ _|omega|(simp<;>omega;done)|(simp [Value.oneCell'];done))
     try(case refine_3=>first|exact cell_one_new _ _ _|omega|(simp<;>omega;done)|(simp [Value.oneCell'];done))
     intro Y Z G H _;go_wp2;go_roundw
     case rel=>
      refine⟨n+1,r++[UInt8.ofNat (16*dAt l (2*(n:Int))+dAt l (2*(n:Int)+1)).toNat],by omega,by go_num,D,by simp;omega,?_,?_⟩
      ·rw[List.map_append,List.length_append]
       simp only[List.map_cons,List.map_nil];rw[LC _ (by omega) (by omega)];exact G
      ·exact g.trans (((Below.refl w.heap.size wr).alloc A _).grown H (by simp;omega) (by intro q I;have:=(a.lt q I);omega))
     case measure=>simp [intOf];omega
    ·have b:Hid (uX l= .returned (.tuple #[.string ⟨#[]⟩,.bool false])):=by
      show _=_;have:unhex l=none:=(by rw[t.out];exact P9 y u h1);unfold uX;rw[this];rfl
     go_wp2_with fail;refine(qG l _ _).mono ?_;rintro e w' ⟨rfl,rfl⟩;by_cases h2:0≤dAt l (2*(n:Int))
     ·have z:¬0≤dAt l (2*(n:Int)+1):=fun h=>h1 ⟨h2,h⟩
      go_wp2_with fail;refine(qG l _ _).mono ?_;rintro e w' ⟨rfl,rfl⟩;go_wp2;exact bodyPost_ret (by simp [results,results81,go_sem]) rfl ⟨b.out.symm,g⟩
     ·go_wp2_with fail
      refine(qG l _ _).mono ?_;rintro e w' ⟨rfl,rfl⟩;go_wp2;exact bodyPost_ret (by simp [results,results81,go_sem]) rfl ⟨b.out.symm,g⟩
   ·have a0:=yL a
    have b:Hid (uX l= .returned (.tuple #[r,.bool true])):=by
     show _=_;have:unhex l=some r:=by
      have:=x.out;rw[t.out];rw[List.take_of_length_le (by omega)] at this;exact this
     unfold uX;rw[this];rfl
    go_wp2;exact bodyPost_ret (by simp [results,results81,go_sem]) rfl ⟨b.out.symm,g⟩
 ·have b:Hid (uX l= .returned (.tuple #[.string ⟨#[]⟩,.bool false])):=by
   show _=_;have:unhex l=none:=(by unfold unhex;rw[if_neg s]);unfold uX;rw[this];rfl
  go_enter func81,ntmps81;by_cases h1:l.length % 2=0
  ·have h2:(8000:Int)<l.length:=oo
   have z:((l.length:Int) % 2 != 0)=false:=(by simp;omega);go_wp2_with(at_make;go_must(refine wpList_make_own _ rfl _ _ 22 rfl w.heap.size 5 i (.int .u8 0) 1 underlying22 j m o _ _ _ (l.length / 2) rfl rfl (by omega) (by rw[p];omega) (by unfold maxLen;omega) (Nat.le_refl _) ?_);intro d a c);have f:Below w.heap.size w d:=(Below.refl _ _).grown c (Nat.le_refl _) (by simp);exact bodyPost_ret (by simp [results,results81,go_sem]) rfl ⟨b.out.symm,f⟩
  ·have z:((l.length:Int) % 2 != 0)=true:=by simp;omega
   go_wp2_with(at_make;go_must(refine wpList_make_own _ rfl _ _ 22 rfl w.heap.size 5 i (.int .u8 0) 1 underlying22 j m o _ _ _ (l.length / 2) rfl rfl (by omega) (by rw[p];omega) (by unfold maxLen;omega) (Nat.le_refl _) ?_);intro d a c);have f:Below w.heap.size w d:=(Below.refl _ _).grown c (Nat.le_refl _) (by simp);exact bodyPost_ret (by simp [results,results81,go_sem]) rfl ⟨b.out.symm,f⟩
