import Derived.Test.YtoedhpcmgondjaaGreatDoorYGW
import Derived.Deep.DeepCutAuto
set_option linter.all false
set_option maxHeartbeats 8000000
namespace Go.Proofs.YtoedhpcmgondjaaGreatDoor
open Go.Lib(hid)
open Go.RowKit Go.Proofs.Tryz
attribute [local instance] mU hZ cvZ
attribute [local go_sem high] zG zF zH zV zN yu zD zl zn zt zi zu y9 zK yE zJ
theorem xR (o l m:Int)(w:World)(h0:0≤l)(h1:l≤16):
 Calls prog 235 #[.agg #[o,l,m]] w (rT w (.int .i64 (pow2 l+1))):=by
 have a:=xu l h0 h1;obtain⟨b,c⟩:=a;go_enter func235,ntmps235;go_wp2_with(go_at_call 135;refine(bY _ _ h0 h1).mono ?_;rintro e w' ⟨rfl,rfl⟩);go_ret;exact⟨rfl,zy⟩
theorem pR (o l m:Int)(w:World)(h0:0≤m)(h1:m≤16):
 Calls prog 239 #[.agg #[o,l,m]] w (rT w (.int .i64 (pow2 m - 1))):=by
 have a:=xu m h0 h1;obtain⟨b,c⟩:=a;go_enter func239,ntmps239;go_wp2_with(go_at_call 135;refine(bY _ _ h0 h1).mono ?_;rintro e w' ⟨rfl,rfl⟩);go_ret;exact⟨rfl,zy⟩
theorem WU (n:Nat)(w:World)(g:n≤1000000):
 Calls prog 259 #[n] w fun e w'=>e= .returned (.int .i64 (needed n))∧w=w':=by
 have h0:=qR 19 n oo;obtain⟨h,i⟩:=h0;go_enter func259,ntmps259;go_wp2;go_loop [0,3] (fun a b=>∃u k:Nat,u≤n∧a= .int .i64 u∧b= .int .i64 k∧k+needed u=needed n+1) (fun a _=>(intOf a).toNat)
 case atStart=>exact⟨n,1,Nat.le_refl _,rfl,rfl,oo⟩
 case round=>
  obtain⟨u,k,j,rfl,rfl,d⟩:=hrel;have hk:k≤100:=oo;have f:=hid d;clear d;by_cases h1:1<u
  ·have c:=hid (oU u h1)
   go_wp2;go_round
   case rel=>exact⟨u / 2,k+1,oo,by go_num,by go_num,by have:=f.out;have:=c.out;omega⟩
   case measure=>simp [intOf];omega
  ·have c:=hid (rW u oo)
   go_wp2;go_ret;exact⟨yZ (by have:=f.out;have:=c.out;omega),rfl⟩
theorem jF (a:Nat)(b:a<9223372036854775808):(BitVec.ofInt 64 (a:Int)).toNat=a:=by
 rw[BitVec.ofInt_natCast,BitVec.toNat_ofNat];exact Nat.mod_eq_of_lt (by omega)
theorem Tu (a:Nat)(b:a<9223372036854775808):bits .and .i64 (a:Int) 1=((a % 2:Nat):Int):=by
 show IntKind.i64.wrap ((BitVec.ofInt 64 (a:Int)&&& BitVec.ofInt 64 ((1:Nat):Int)).toNat:Int)=_;rw[BitVec.toNat_and,jF a b,jF 1 (by omega),IntKind.wrap_i64,Nat.and_one_is_mod];omega
theorem Yw (o:Int)(c k:Nat)(w:World)(l:c≤65535)(hk:k≤16):
 Calls prog 258 #[o,c,k] w (rT w (.string ⟨(yg o c k).toArray⟩)):=by
 go_enter func258,ntmps258;go_wp2;go_loopw [7,8] (fun a b wr=>∃i:Nat,i≤k∧a= .string ⟨(yg o c i).toArray⟩∧b= .int .i64 i∧Below w.heap.size w wr) (fun _ b _=>k - (intOf b).toNat)
 case atStart=>exact⟨0,by omega,by simp [yg,vz],rfl,Below.refl _ _⟩
 case round=>
  obtain⟨i,m,rfl,rfl,g⟩:=hrel;have n:=g.size;by_cases p:i<k
  ·obtain⟨q,r,s,h⟩:∃q:Nat,bits .and .i64 ((c:Int) / 2 ^ i) 1=(q:Int)∧q≤1∧nK c i=UInt8.ofNat (48+q):=by
    refine⟨c / 2 ^ i % 2,?_,oo,rfl⟩;rw[show(c:Int) / 2 ^ i=((c / 2 ^ i:Nat):Int) by simp];exact Tu _ (by have:=Nat.div_le_self c (2 ^ i);omega)
   have j:=hid h;clear h;have t:(yg o c i).length≤16:=(by rw[xP];omega);by_cases d:o=0
   ·have f:=hid (VN o c i d)
    subst d;go_wp2;go_roundw
    case rel=>
     refine⟨i+1,oo,?_,by go_num,zy⟩;rw[f.out,j.out];simp
    case measure=>simp [intOf];omega
   ·have f:=hid (Xx o c i d)
    have u:(o==0)=false:=(by simpa using d);clear d;go_wp2;go_roundw
    case rel=>
     refine⟨i+1,oo,?_,by go_num,zy⟩;rw[f.out,j.out];simp
    case measure=>simp [intOf];omega
  ·go_wp2
   go_ret;have:i=k:=oo;subst this;exact⟨rfl,g⟩
def uz (o:Int)(l:Bs):Bs:=if o=0 then l.reverse else l
theorem Zw (o:Int)(l:Bs):(uz o l).length=l.length:=by unfold uz;split<;>simp
theorem Vb (o:Int)(l:Bs):numBits o l=yS (uz o l):=by unfold numBits uz;split<;>rfl
theorem Xn (o:Int)(l:Bs)(h:yU l=true):yU (uz o l)=true:=by
 unfold uz;split
 ·rw[nH];exact h
 ·exact h
theorem VZ (l:Bs)(i:Nat)(h:i<l.length):byteAt l ((l.length:Int) - 1 - i)=byteAt (uz 0 l) i:=by
 rw[show((l.length:Int) - 1 - i)=((l.length - 1 - i:Nat):Int) by omega,yh l _ (by omega)];unfold uz;rw[if_pos rfl,yh _ i (by simpa using h),List.getElem_reverse]
theorem VA (L:Bs)(i:Nat)(h:i<L.length)(a:yU L=true):∃q:Nat,byteAt L i=48+(q:Int)∧q≤1∧yS (L.take (i+1))=2*yS (L.take i)+q:=by
 have h1:=List.all_eq_true.1 a _ (List.getElem_mem h);have h2:L[i]=48∨L[i]=49:=(by simpa using h1);refine⟨L[i].toNat - 48,?_,?_,?_⟩
 ·rw[yh L i h];rcases h2 with e|e<;>rw[e]<;>decide
 ·rcases h2 with e|e<;>rw[e]<;>decide
 ·rw[List.take_succ_eq_append_getElem h,vO]
theorem gX (l:Bs)(n:Nat)(h:yU l=true):yU (l.take n)=true:=by
 unfold yU at*;rw[List.all_eq_true] at*;exact fun x a=>h x (List.mem_of_mem_take a)
theorem Zk (L:Bs)(i:Nat)(b:L.length≤16)(a:yU L=true):yS (L.take i)≤65535:=by
 have h1:=gW (L.take i) (gX L i a);have h2:2 ^ (L.take i).length≤2 ^ 16:=Nat.pow_le_pow_right (by omega) (by rw[List.length_take];omega);omega
theorem dY (o:Int)(l:Bs)(w:World)(p:l.length≤16)(g:yU l=true):
 Calls prog 234 #[o,l] w fun e w'=>e= .returned (.int .i64 (numBits o l))∧w=w':=by
 have h:=hid (Xn o l g);clear g;have f:=hid (Zw o l);go_enter func234,ntmps234;go_wp2;go_loop [5,6] (fun a b=>∃i:Nat,i≤l.length∧a= .int .i64 (yS ((uz o l).take i))∧b= .int .i64 i) (fun _ b=>l.length - (intOf b).toNat)
 case atStart=>exact⟨0,by omega,by simp [yS],rfl⟩
 case round=>
  obtain⟨i,r,rfl,rfl⟩:=hrel;by_cases j:i<l.length
  ·obtain⟨q,c,s,k⟩:=VA (uz o l) i (by rw[f.out];exact j) h.out
   have t:=Zk (uz o l) i (by rw[f.out];exact p) h.out;have m:=hid k;clear k;have u:(i:Int)<l.length:=oo;by_cases d:o=0
   ·subst d
    have n:=VZ l i j;rw[c] at n;clear c;go_wp2;go_round
    case rel=>exact⟨i+1,by omega,by rw[m.out];go_num,by go_num⟩
    case measure=>simp [intOf];omega
   ·have v:(o==0)=false:=by simpa using d
    have n:byteAt l i=48+q:=(by rw[←c];unfold uz;rw[if_neg d]);clear c d;go_wp2;go_round
    case rel=>exact⟨i+1,by omega,by rw[m.out];go_num,by go_num⟩
    case measure=>simp [intOf];omega
  ·go_wp2
   go_ret;refine⟨yZ ?_,rfl⟩;rw[Vb,List.take_of_length_le (by rw[f.out];omega)]
def rep (l:Bs)(n:Nat):Bs:=(List.replicate n l).flatten
theorem iJ (l:Bs)(n:Nat):(rep l n).length=n*l.length:=by unfold rep;simp
theorem YA (l:Bs)(n:Nat):rep (l++l) n=rep l (2*n):=by
 unfold rep
 induction n with
 |zero=>rfl
 |succ n a=>rw[show 2*(n+1)=2*n+1+1 by omega,List.replicate_succ,List.flatten_cons,a,List.replicate_succ,List.replicate_succ,List.flatten_cons,List.flatten_cons,List.append_assoc]
theorem Js (l:Bs)(n:Nat):l++rep (l++l) n=rep l (2*n+1):=by
 rw[YA];unfold rep;rw[List.replicate_succ,List.flatten_cons]
theorem JB (c:UInt8)(n:Nat):rep [c] n=List.replicate n c:=by
 unfold rep
 induction n with
 |zero=>rfl
 |succ n a=>rw[List.replicate_succ,List.flatten_cons,a,List.replicate_succ];rfl
theorem Yj (l:Bs)(n:Int)(w:World)(g:l.length*n.toNat≤1000000)(p:l.length≤1000)(i:n≤1000000):
 Calls prog 22 #[l,n] w fun e w'=>e= .returned (.string ⟨(rep l n.toNat).toArray⟩)∧w=w':=by
 have hk:(l.length:Nat)*n.toNat≤1000000:=g;clear g;go_enter func22,ntmps22;go_wp2;go_loop [0,1,5] (fun a b c=>∃(s o:Bs) (k:Int),a= .string ⟨s.toArray⟩∧b= .int .i64 k∧c= .string ⟨o.toArray⟩∧o++rep s k.toNat=rep l n.toNat∧s.length≤2000000∧k≤1000000∧(k<0→n<0)) (fun _ b _=>(intOf b).toNat)
 case atStart=>exact⟨l,[],n,rfl,rfl,rfl,rfl,oo,i,fun h=>h⟩
 case round=>
  obtain⟨s,o,k,rfl,rfl,rfl,d,q,r,t⟩:=hrel;have u:o.length+k.toNat*s.length≤1000000:=by
   have:=congrArg List.length d;rw[List.length_append,iJ,iJ] at this;rw[this,Nat.mul_comm];exact hk
  by_cases h0:0<k
  ·obtain⟨j,m⟩:=Int.eq_ofNat_of_zero_le (by omega:0≤k)
   subst m;have v:s.length≤1000000:=by
    have h1:1*s.length≤(j:Int).toNat*s.length:=Nat.mul_le_mul_right _ oo;omega
   have x:o.length≤1000000:=oo;by_cases y:j % 2=1
   ·have f:Hid ((o++s)++rep (s++s) (j / 2)=rep l n.toNat):=by
     rw[List.append_assoc,Js,←d];rw[show 2*(j / 2)+1=(j:Int).toNat by omega];rfl
    clear d;have h2:(((j:Int) % 2)==1)=true:=(by rw[beq_iff_eq];omega);go_wp2;go_round
    case rel=>exact⟨s++s,o++s,((j / 2:Nat):Int),by simp,by go_num,by simp,by rw[Int.toNat_natCast];exact f.out,by simp;omega,by omega,by omega⟩
    case measure=>simp [intOf];omega
   ·have f:Hid (o++rep (s++s) (j / 2)=rep l n.toNat):=by
     rw[YA,←d];rw[show 2*(j / 2)=(j:Int).toNat by omega];rfl
    clear d;have h2:(((j:Int) % 2)==1)=false:=(by rw[beq_eq_false_iff_ne];omega);go_wp2;go_round
    case rel=>exact⟨s++s,o,((j / 2:Nat):Int),by simp,by go_num,rfl,by rw[Int.toNat_natCast];exact f.out,by simp;omega,by omega,by omega⟩
    case measure=>simp [intOf];omega
  ·have f:=hid d
   clear d;go_wp2;go_ret;refine⟨rO ?_,rfl⟩;have:=f.out;rw[show k.toNat=0 by omega] at this;simpa [rep] using this
theorem Ns (l:Bs)(w:World)(d:l.length≤1000000):
 Calls prog 264 #[l] w fun e w'=>e= .returned (.string ⟨(uZ l).toArray⟩)∧w=w':=by
 have f:0≤ -((l.length:Int) % 8) % 8:=oo;have g: -((l.length:Int) % 8) % 8≤7:=oo;have a:l++rep [48] (-((l.length:Int) % 8) % 8).toNat=uZ l:=by
  unfold uZ;rw[JB,show(-((l.length:Int) % 8) % 8).toNat=(8 - l.length % 8) % 8 by omega]
 have h:(rep [48] (-((l.length:Int) % 8) % 8).toNat).length≤7:=(by rw[iJ];simp;omega);have c:=fun w=>Yj [48] (-((l.length:Int) % 8) % 8) w (by simp;omega) (by simp) (by omega);generalize rep [48] (-((l.length:Int) % 8) % 8).toNat=R at*;have b:=hid a;have C:=hid c;clear a c;go_enter func264,ntmps264;go_wp2_with fail;refine(C.out _).mono ?_;rintro e w' ⟨rfl,rfl⟩;go_wp2;go_ret;exact⟨rO b.out,rfl⟩
def nI (n:Nat)(f:Nat→UInt8)(i:Nat):List Value:=(List.range n).map fun j=>if j<i then u8v (f j) else .int .u8 0
theorem iF (n:Nat)(f:Nat→UInt8)(i:Nat):(nI n f i).length=n:=by simp [nI]
theorem U8 (n:Nat)(f:Nat→UInt8):nI n f 0=List.replicate n (.int .u8 0):=by
 unfold nI;apply List.ext_getElem?;intro j;by_cases h:j<n<;>simp [h]
theorem TR (n:Nat)(f:Nat→UInt8):nI n f n=((List.range n).map f).map u8v:=by
 unfold nI;rw[List.map_map];apply List.map_congr_left;intro j a;rw[List.mem_range] at a;rw[if_pos a];rfl
theorem TB (n:Nat)(f:Nat→UInt8)(i:Nat):(nI n f i).set i (u8v (f i))=nI n f (i+1):=by
 apply List.ext_getElem?;intro j;rw[List.getElem?_set,iF];unfold nI;by_cases b:i=j
 ·subst b
  by_cases a:i<n<;>simp [a]
 ·rw[if_neg b]
  by_cases a:j<n
  ·simp only[List.getElem?_map,List.getElem?_range a,Option.map_some]
   by_cases h1:j<i
   ·rw[if_pos h1,if_pos (by omega)]
   ·rw[if_neg h1,if_neg (by omega)]
  ·simp [a]
theorem Yr (l:Bs)(n:Nat)(h:yU l=true):yU (l.drop n)=true:=by
 unfold yU at*;rw[List.all_eq_true] at*;exact fun x a=>h x (List.mem_of_mem_drop a)
theorem NP (l:Bs)(h:yU l=true):yU (uZ l)=true:=by
 unfold uZ yU at*;rw[List.all_append,h];simp
def gG (o:Int)(P:Bs)(j:Nat):UInt8:=UInt8.ofNat (numBits o ((P.drop (8*j)).take 8))
theorem Qw (o:Int)(P:Bs)(j:Nat)(h:yU P=true)(a:8*j+8≤P.length):numBits o ((P.drop (8*j)).take 8)≤255∧((gG o P j).toNat:Int)=numBits o ((P.drop (8*j)).take 8):=by
 have h1:=pY o ((P.drop (8*j)).take 8) (gX _ _ (Yr _ _ h));have h2:((P.drop (8*j)).take 8).length=8:=(by simp;omega);rw[h2] at h1;refine⟨by omega,?_⟩;unfold gG;rw[UInt8.toNat_ofNat'];omega
theorem RN (o:Int)(l:Bs)(w:World)(I:l.length≤100000)(b:yU l=true):
 Calls prog 241 #[o,l] w (rT w (.string ⟨(tK o l).toArray⟩)):=by
 obtain⟨t,u,v,x,y⟩:=info_parts wQ;have c:=fun w=>Ns l w oo;obtain⟨n,d⟩:∃n:Nat,(uZ l).length=8*n:=⟨(l.length+7) / 8,by rw[sN];omega⟩;have J:n≤20000:=(by have:=sN l;omega);have z:Hid (tK o l=(List.range n).map (gG o (uZ l))):=by
  show tK o l=_;unfold tK;rw[d,show 8*n / 8=n by omega];rfl
 have g:=NP l b;generalize uZ l=P at*;have K:=hid d;have L:P.length≤8*n:=oo;have M:8*n≤P.length:=oo;have N:(P.length:Int) / 8=n:=oo;have h:=hid g;have C:=hid c;clear d g c b;go_enter func241,ntmps241;go_wp2_with fail;refine(C.out _).mono ?_;rintro e w' ⟨rfl,rfl⟩;go_wp2_with(at_make;go_must(refine wpList_make_full _ rfl _ _ 22 rfl w.heap.size 5 t (.int .u8 0) 1 underlying22 u v x _ _ _ _ n rfl rfl (by omega) (by omega) (by rw[y];omega) (by unfold maxLen;omega) (Nat.le_refl _) ?_);intro j a m);have A:Below w.heap.size w j:=(Below.refl _ _).grown m (Nat.le_refl _) (by simp);clear m;have O:w.heap.size<j.heap.size:=(a.lt _ rfl).2;go_loopw [7] (fun k wr=>∃i:Nat,i≤n∧k= .int .i64 i∧wr.ownsRow w.heap.size 5 1 (.slice (some ⟨w.heap.size,0,none⟩) n n) n (nI n (gG o P) i)∧Below w.heap.size w wr) (fun k _=>n - (intOf k).toNat)
 case atStart=>
  refine⟨0,oo,rfl,?_,A⟩;rw[U8,←toList_madeCells_one];rw[Nat.mul_one] at a;exact a
 case round=>
  obtain⟨i,Q,rfl,a,b⟩:=hrel;have R:=b.size;by_cases B:i<n
  ·obtain⟨S,T,D,E,p⟩:∃S:Bs,(⟨P.toArray⟩:ByteArray).extract (8*i) (8*i+8)=⟨S.toArray⟩∧S.length≤16∧yU S=true∧(numBits o S≤255∧(numBits o S:Int)=(gG o P i).toNat):=by
    have q:=Qw o P i h.out oo;refine⟨(P.drop (8*i)).take 8,?_,by simp;omega,gX _ _ (Yr _ _ h.out),q.1,q.2.symm⟩;rw[ByteArray.extract_mk];simp
   obtain⟨p,r⟩:=p;have F:=hid r;have U:=(a.cellAt i (by omega)).trans (List.getElem?_eq_getElem (by rw[iF];exact B));have V:=a.frozenAt i;have f:=a.stored i (u8v (gG o P i));rw[TB] at f;have G:=hid f;have s:=fun w=>dY o S w D E;have H:=hid s;clear f r s;have W:(i:Int)<n:=oo;go_wp2_with fail;refine(H.out _).mono ?_;rintro e w' ⟨rfl,rfl⟩;go_wp2;go_roundw
   case rel=>exact⟨i+1,by omega,by go_num,by rw[F.out];exact G.out.1,b.setCell (Nat.le_refl _) _⟩
   case measure=>simp [intOf];omega
  ·have X:=yL (l:=(List.range n).map (gG o P)) (by
    have e:i=n:=oo;rw[e,TR] at a;rw[List.length_map,List.length_range];exact a)
   go_wp2;go_ret;exact⟨rO z.out.symm,b⟩
def prV (p:Pr):List Value:=[.int .i64 p.1,.int .i64 p.2]
def psV (ps:List Pr):List Value:=ps.flatMap prV
theorem J7 (ps:List Pr):∀(i:Nat) (h:i<ps.length),(psV ps)[i*2]? =some (.int .i64 ps[i].1)∧(psV ps)[i*2+1]? =some (.int .i64 ps[i].2):=by
 unfold psV
 induction ps with
 |nil=>intro i h;cases h
 |cons p ps a=>
  intro i h
  cases i with
  |zero=>simp [prV]
  |succ i=>
   have:=a i (by simpa using h);rw[List.flatMap_cons,show(i+1)*2=i*2+1+1 by omega];simpa [prV] using this
theorem Yk (ps:List Pr)(p:Pr):psV (ps++[p])=psV ps++prV p:=by unfold psV;rw[List.flatMap_append];simp
theorem VE (ps:List Pr):∀u ∈ psV ps,u.oneCell'=true:=by
 unfold psV;intro u a;simp only[List.mem_flatMap,prV] at a;obtain⟨p,_,a⟩:=a;simp at a;rcases a with rfl|rfl<;>rfl
theorem ZY (ps:List Pr)(k:Nat):psV (ps.take k)=(psV ps).take (k*2):=by
 unfold psV
 induction ps generalizing k with
 |nil=>simp
 |cons p ps a=>
  cases k with
  |zero=>simp
  |succ k=>rw[List.take_succ_cons,List.flatMap_cons,a,List.flatMap_cons,show(k+1)*2=k*2+1+1 by omega];simp [prV]
abbrev knV (K:Kn)(A:Option Addr)(cap:Nat):Value:=.agg #[K.o,K.l,K.m,.slice A K.ps.length cap,K.base,K.last]
abbrev knC (K:Kn)(A:Option Addr)(cap:Nat):Array Value:=#[K.o,K.l,K.m,.slice A K.ps.length cap,K.base,K.last]
theorem Kn.ok.lm {K:Kn}(h:K.ok):0≤K.l∧K.l≤16∧0≤K.m∧K.m≤16:=by
 obtain⟨_,h1,h2,a,b⟩:=h.st;omega
theorem uN (K:Kn)(A:Option Addr)(cap:Nat)(w:World)(hk:K.ok):
 Calls prog 262 #[knV K A cap] w (rT w (.int .i64 K.nx)):=by
 have a:=hk.bd;have d:=hk.lm;unfold Kn.cl at a;obtain⟨j,b,k,m,n⟩:=a;obtain⟨f,g,o,p⟩:=d;have h:Hid (K.nx=pow2 K.l+1+1+K.ps.length):=(by show K.nx=_;unfold Kn.nx;omega);go_enter func262,ntmps262;go_wp2_with fail;have q:=zM (yF w (knC K A cap) 94) (by simp);refine wp_region_quiet_below kr kr ?_;repeat(go_big_quiet_step ((go_at_call 235;exact Calls.regrown_of (xR _ _ _ _ f g))))
 refine wpQuiet_nil ?_;intro i c;have b:Below _ _ i:=zh c;clear c;go_wp2;go_ret;exact⟨yZ h.out.symm,((Below.refl _ _).alloc (Nat.le_refl _) _).trans (b.mono (by simp))⟩
theorem ou (K:Kn)(A:Option Addr)(cap:Nat)(w:World)(hk:K.ok):
 Calls prog 261 #[knV K A cap] w (rT w (.bool K.gr)):=by
 have h:=hk.lm;obtain⟨i,j,f,g⟩:=h;go_enter func261,ntmps261;go_wp2_with fail;have k:=zM (yF w (knC K A cap) 94) (by simp);by_cases h0:0≤K.last
 ·have b:Hid (decide (K.nx≤pow2 K.m - 1)=K.gr):=by
   show decide (K.nx≤pow2 K.m - 1)=K.gr;unfold Kn.gr Kn.top;rw[Bool.eq_iff_iff];simp;omega
  refine wp_region_quiet_below kr kr ?_;repeat(go_big_quiet_step ((first|(go_at_call 262;exact Calls.regrown_of (uN _ _ _ _ hk))|(go_at_call 239;exact Calls.regrown_of (pR _ _ _ _ f g)))))
  refine wpQuiet_nil ?_;intro c a;have d:Below _ _ c:=zh a;clear a;go_wp2;go_ret;exact⟨zS b.out,((Below.refl _ _).alloc (Nat.le_refl _) _).trans (d.mono (by simp))⟩
 ·have b:Hid (K.gr=false):=by
   show K.gr=false;unfold Kn.gr;simp;omega
  have l:decide (0≤K.last)=false:=(by simpa using h0);refine wp_region_quiet_below kr kr ?_;repeat(go_big_quiet_step ((first|(go_at_call 262;exact Calls.regrown_of (uN _ _ _ _ hk))|(go_at_call 239;exact Calls.regrown_of (pR _ _ _ _ f g)))))
  refine wpQuiet_nil ?_;intro c a;have d:Below _ _ c:=zh a;clear a;go_wp2;go_ret;exact⟨zS b.out.symm,((Below.refl _ _).alloc (Nat.le_refl _) _).trans (d.mono (by simp))⟩
theorem pM (K:Kn)(A:Option Addr)(cap:Nat)(w:World)(hk:K.ok):
 Calls prog 260 #[knV K A cap] w (rT w (.int .i64 K.great)):=by
 have q: -1000≤K.nx:=(by unfold Kn.nx;have:=xu K.l (hk.lm.1) (hk.lm.2.1);omega);have r:K.nx≤1000000:=(by unfold Kn.nx;have:=xu K.l (hk.lm.1) (hk.lm.2.1);have:=hk.bd;omega);go_enter func260,ntmps260;go_wp2_with fail;refine(ou _ _ _ _ hk).mono ?_;rintro e k ⟨rfl,c⟩;have m:=c.size;simp only[World.size_alloc] at m;have d:=zU (yF _ _ _) c (by simp);have f:w.heap.size<k.heap.size:=oo;have g:Below w.heap.size w k:=((Below.refl _ _).alloc (Nat.le_refl _) _).trans (c.mono (by simp));clear c;by_cases h:K.gr=true
 ·have i:Hid (K.nx=K.great):=by show K.nx=K.great;unfold Kn.great;rw[if_pos h]
  go_wp2_with fail;refine(uN _ _ _ _ hk).mono ?_;rintro e b ⟨rfl,a⟩;have n:=a.size;have o:=zU d a f;have p:w.heap.size<b.heap.size:=oo;have j:Below w.heap.size w b:=g.trans (a.mono oo);clear a d f g;go_wp2;go_ret;exact⟨yZ i.out,j⟩
 ·have s:K.gr=false:=by simpa using h
  have i:Hid (K.nx - 1=K.great):=(by show K.nx - 1=K.great;unfold Kn.great;rw[if_neg h]);go_wp2_with fail;refine(uN _ _ _ _ hk).mono ?_;rintro e b ⟨rfl,a⟩;have n:=a.size;have o:=zU d a f;have p:w.heap.size<b.heap.size:=oo;have j:Below w.heap.size w b:=g.trans (a.mono oo);clear a d f g;go_wp2;go_ret;exact⟨yZ i.out,j⟩
theorem SK (n:Int)(w:World)(h0:0≤n)(c:n≤1000000):
 Calls prog 259 #[n] w (rT w (.int .i64 (needed n.toNat))):=by
 obtain⟨k,rfl⟩:=Int.eq_ofNat_of_zero_le h0;exact(WU k w oo).mono fun e w' ⟨a,b⟩=>⟨a,by subst b;exact Below.refl _ _⟩
theorem jo (K:Kn)(A:Option Addr)(cap:Nat)(w:World)(hk:K.ok):
 Calls prog 233 #[knV K A cap] w (rT w (.int .i64 K.width)):=by
 have j:=hk.bd;have k:=K.tJ hk;have b:=hk.lm;obtain⟨m,n,o,p⟩:=b;have c:0≤K.great:=oo;have d:K.great≤1000000:=oo;have f:=qR 19 K.great.toNat oo;obtain⟨q,r⟩:=f;have g:Hid ((max (K.l+1) (needed K.great.toNat:Int))=(K.width:Int)):=by
  show _=_;unfold Kn.width;omega
 go_enter func233,ntmps233;go_wp2_with fail;have s:=zM (yF w (knC K A cap) 94) (by simp);refine wp_region_quiet_below kr kr ?_;repeat(go_big_quiet_step ((first|(go_at_call 260;exact Calls.regrown_of (pM _ _ _ _ hk))|(go_at_call 259;exact Calls.regrown_of (SK _ _ c d)))))
 refine wpQuiet_nil ?_;intro h a;have i:Below _ _ h:=zh a;clear a;go_wp2
 all_goals
  go_wp2;go_ret;exact⟨yZ (by have:=g.out;omega),((Below.refl _ _).alloc (Nat.le_refl _) _).trans (i.mono (by simp))⟩
theorem QA (a b c:Int)(w:World):
 Calls prog 117 #[a,b,c] w (rT w (.bool (decide (b≤a∧a≤c)))):=
 (uI a b c w).mono fun e w' ⟨d,f⟩=>⟨d,by subst f;exact Below.refl _ _⟩
theorem jI (a b c:Int)(w:World)(h:b≤a∧a≤c):
 Calls prog 117 #[a,b,c] w (rT w (.bool true)):=
 (QA a b c w).mono fun e w' ⟨d,f⟩=>⟨by rw[d,decide_eq_true h],f⟩
theorem Yp (a b c:Int)(w:World)(h:¬(b≤a∧a≤c)):
 Calls prog 117 #[a,b,c] w (rT w (.bool false)):=
 (QA a b c w).mono fun e w' ⟨d,f⟩=>⟨by rw[d,decide_eq_false h],f⟩
theorem mQ (o l m c:Int)(n:Nat)(w:World)(h0:0≤l)(h1:l≤16)(i:n≤100000):
 Calls prog 240 #[.agg #[o,l,m],c,n] w (rT w (.bool (decide (codeOk (pow2 l) n c)))):=by
 have g:=xu l h0 h1;obtain⟨j,k⟩:=g;go_enter func240,ntmps240;go_wp2_with fail;have p:=zM (yF w #[o,l,m] 24) (by simp);by_cases h:0≤c∧c≤pow2 l - 1
 ·obtain⟨q,r⟩:=h
  have b:Hid (decide (codeOk (pow2 l) n c)=true):=(by show _=_;simp;left;omega);refine wp_region_quiet_below kr kr ?_;repeat(go_big_quiet_step ((first|(go_at_call 98;exact Calls.regrown_of (yO _ _ _ _ h0 h1))|(go_at_call 235;exact Calls.regrown_of (xR _ _ _ _ h0 h1))|(go_at_call 117;exact Calls.regrown_of (jI _ _ _ _ oo)))))
  refine wpQuiet_nil ?_;intro d a;have f:Below _ _ d:=zh a;clear a;go_wp2;go_ret;exact⟨zS b.out.symm,((Below.refl _ _).alloc (Nat.le_refl _) _).trans (f.mono (by simp))⟩
 ·by_cases s:pow2 l+1+1≤c∧c≤pow2 l+1+n
  ·have b:Hid (decide (codeOk (pow2 l) n c)=true):=by show _=_;simp only[decide_eq_true_eq];unfold codeOk;omega
   refine wp_region_quiet_below kr kr ?_;repeat(go_big_quiet_step ((first|(go_at_call 98;exact Calls.regrown_of (yO _ _ _ _ h0 h1))|(go_at_call 235;exact Calls.regrown_of (xR _ _ _ _ h0 h1))|(go_at_call 117;exact Calls.regrown_of (jI _ _ _ _ oo))|(go_at_call 117;exact Calls.regrown_of (Yp _ _ _ _ oo)))))
   refine wpQuiet_nil ?_;intro d a;have f:Below _ _ d:=zh a;clear a;go_wp2;go_ret;exact⟨zS b.out.symm,((Below.refl _ _).alloc (Nat.le_refl _) _).trans (f.mono (by simp))⟩
  ·have b:Hid (decide (codeOk (pow2 l) n c)=false):=by show _=_;simp only[decide_eq_false_iff_not];unfold codeOk;omega
   refine wp_region_quiet_below kr kr ?_;repeat(go_big_quiet_step ((first|(go_at_call 98;exact Calls.regrown_of (yO _ _ _ _ h0 h1))|(go_at_call 235;exact Calls.regrown_of (xR _ _ _ _ h0 h1))|(go_at_call 117;exact Calls.regrown_of (Yp _ _ _ _ oo)))))
   refine wpQuiet_nil ?_;intro d a;have f:Below _ _ d:=zh a;clear a;go_wp2;go_ret;exact⟨zS b.out.symm,((Below.refl _ _).alloc (Nat.le_refl _) _).trans (f.mono (by simp))⟩
theorem nM (K:Kn)(A:Option Addr)(cap:Nat)(c:Int)(w:World)(hk:K.ok):
 Calls prog 236 #[knV K A cap,c] w (rT w (.bool (K.fol c))):=by
 have D:=hk.bd;have t:=hk.lm;have u:K.ps.length≤100000:=oo;obtain⟨v,x,E,F⟩:=t;go_enter func236,ntmps236;go_wp2_with fail;refine(mQ _ _ _ _ _ _ v x u).mono ?_;rintro e r ⟨rfl,i⟩;have y:=i.size;simp only[World.size_alloc] at y;have j:=zU (yF _ _ _) i (by simp);have k:w.heap.size<r.heap.size:=oo;have d:Below w.heap.size w r:=((Below.refl _ _).alloc (Nat.le_refl _) _).trans (i.mono (by simp));clear i;by_cases b:codeOk (pow2 K.l) K.ps.length c
 ·have z:decide (codeOk (pow2 K.l) K.ps.length c)=true:=by simpa using b
  have f:Hid (K.fol c=true):=(by show _=_;unfold Kn.fol;simp only[decide_eq_true_eq];left;exact b);clear b;go_wp2;go_ret;exact⟨zS f.out.symm,d⟩
 ·have z:decide (codeOk (pow2 K.l) K.ps.length c)=false:=by simpa using b
  by_cases o:K.gr=true
  ·have f:Hid (K.fol c=(c==K.nx)):=by
    show _=_;unfold Kn.fol;rw[Bool.eq_iff_iff];simp only[decide_eq_true_eq,beq_iff_eq];exact⟨fun h=>h.elim (fun h=>absurd h b) (fun h=>h.2),fun h=>.inr ⟨o,h⟩⟩
   clear b;go_wp2_with fail;refine(ou _ _ _ _ hk).mono ?_;rintro e g ⟨rfl,a⟩;have B:=a.size;have p:=zU j a k;have q:w.heap.size<g.heap.size:=oo;have m:Below w.heap.size w g:=d.trans (a.mono oo);clear a j k d;go_wp2_with fail;refine(uN _ _ _ _ hk).mono ?_;rintro e s ⟨rfl,n⟩;have G:=n.size;have H:=zU p n q;have I:w.heap.size<s.heap.size:=oo;have C:Below w.heap.size w s:=m.trans (n.mono oo);clear n p q m;go_wp2;go_ret;exact⟨zS f.out.symm,C⟩
  ·have J:K.gr=false:=by simpa using o
   have f:Hid (K.fol c=false):=by
    show _=_;unfold Kn.fol;rw[decide_eq_false_iff_not];rintro(h|h)
    ·exact b h
    ·exact o h.1
   clear b;go_wp2_with fail;refine(ou _ _ _ _ hk).mono ?_;rintro e g ⟨rfl,a⟩;have B:=a.size;have p:=zU j a k;have q:w.heap.size<g.heap.size:=oo;have m:Below w.heap.size w g:=d.trans (a.mono oo);clear a j k d;go_wp2;go_ret;exact⟨zS f.out.symm,m⟩
theorem dX {w:World}{A:Option Addr}{cap:Nat}{ps:List Pr}(h:Sl w A ps.length cap 2 (psV ps))(i:Nat)(c:i<ps.length):
 ∃g a,A=some ⟨g,a,none⟩∧g<w.heap.size∧w.cell? ⟨g,a+i*2,none⟩=some (.int .i64 ps[i].1)∧w.cell? ⟨g,a+i*2+1,none⟩=some (.int .i64 ps[i].2):=by
 obtain⟨h1,h2,j,d⟩:=h;obtain⟨g,a,e,f,b⟩:=d oo;have:=J7 ps i c;exact⟨g,a,e,f,b _ _ this.1,by rw[Nat.add_assoc];exact b _ _ this.2⟩
def uD (L:Bs)(i:Nat):Bs:=(List.range L.length).map fun j=>if j<i∨L.length - i≤j then L.getD (L.length - 1 - j) 0 else L.getD j 0
theorem wP (L:Bs)(i:Nat):(uD L i).length=L.length:=by simp [uD]
theorem Xi (L:Bs):uD L 0=L:=by
 apply List.ext_getElem?;intro j;unfold uD;by_cases h:j<L.length
 ·rw[List.getElem?_map,List.getElem?_range h,List.getElem?_eq_getElem h]
  simp [h];omega
 ·rw[List.getElem?_eq_none (by simp;omega),List.getElem?_eq_none (by omega)]
theorem oq (L:Bs)(i j:Nat)(h:j<L.length):(uD L i)[j]? =some (if j<i∨L.length - i≤j then L.getD (L.length - 1 - j) 0 else L.getD j 0):=by
 unfold uD;rw[List.getElem?_map,List.getElem?_range h];rfl
theorem YH (L:Bs)(i:Nat)(h:i=L.length / 2):uD L i=L.reverse:=by
 apply List.ext_getElem?;intro j;by_cases a:j<L.length
 ·rw[oq L i j a,List.getElem?_reverse a,List.getElem?_eq_getElem (by omega)]
  congr 1;split
  ·rw[List.getD_eq_getElem?_getD,List.getElem?_eq_getElem (by omega)];rfl
  ·have e:j=L.length - 1 - j:=oo
   conv=>lhs;rw[e]
   rw[List.getD_eq_getElem?_getD,List.getElem?_eq_getElem (by omega)];rfl
 ·rw[List.getElem?_eq_none (by rw[wP];omega),List.getElem?_eq_none (by simp;omega)]
theorem Yd (L:Bs)(i:Nat)(h:i<L.length / 2):((uD L i).set i (L.getD (L.length - 1 - i) 0)).set (L.length - 1 - i) (L.getD i 0)=uD L (i+1):=by
 apply List.ext_getElem?;intro j;rw[List.getElem?_set,List.getElem?_set,List.length_set,wP];by_cases a:j<L.length
 ·rw[oq L (i+1) j a]
  by_cases h1:L.length - 1 - i=j
  ·rw[if_pos h1,if_pos (by omega),if_pos (by omega)]
   congr 2;omega
  ·rw[if_neg h1]
   by_cases h2:i=j
   ·rw[if_pos h2,if_pos (by omega),if_pos (by omega),h2]
   ·rw[if_neg h2,oq L i j a]
    congr 1;by_cases b:j<i∨L.length - i≤j
    ·rw[if_pos b,if_pos (by omega)]
    ·rw[if_neg b,if_neg (by omega)]
 ·rw[if_neg (by omega),if_neg (by omega),List.getElem?_eq_none (by rw[wP];omega),List.getElem?_eq_none (by rw[wP];omega)]
theorem dZ (L:Bs)(i:Nat)(h:i<L.length):(L.map u8v)[i]? =some (u8v (L.getD i 0)):=by
 rw[List.getElem?_map,List.getElem?_eq_getElem h,List.getD_eq_getElem?_getD,List.getElem?_eq_getElem h];rfl
set_option maxRecDepth 100000 in
theorem YK (K:Kn)(A:Option Addr)(cap:Nat)(c:Int)(w:World)(hk:K.ok)(hs:Sl w A K.ps.length cap 2 (psV K.ps))(T:codeOk K.cl K.ps.length c):
 Calls prog 263 #[knV K A cap,c] w (rT w (.string ⟨(K.word c).toArray⟩)):=by
 obtain⟨i,U,V,W,D⟩:=info_parts wQ;have c':=hk.bd;have hp:=hk.lm;obtain⟨J,M,d0,d1⟩:=hp;have d2:c≤100000:=(by unfold codeOk at T;omega);go_enter func263,ntmps263;go_wp2;go_loopw [1,5] (fun x v wr=>∃(a:Int) (out:Bs),x= .int .i64 a∧codeOk K.cl K.ps.length a∧K.word c=K.word a++out.reverse∧out.length+a.toNat≤c.toNat∧wr.ownsRow (w.heap.size+1) 5 1 v out.length (out.map u8v)∧Below w.heap.size w wr∧w.heap.size+1<wr.heap.size∧∀i,wr.cell? ⟨w.heap.size,i,none⟩=(knC K A cap)[i]?) (fun x _ _=>(intOf x).toNat)
 case atStart=>
  exact⟨c,[],rfl,T,by simp,by simp,by simpa using World.ownsRow_made (base:=w.heap.size+1) (e:=5) (size:=1) (w.alloc (.cells (knC K A cap) 94)) #[] 0 (by simp) (by unfold maxLen;omega) rfl,zy,by simp,Y5 (yF _ _ _) (by simp) _⟩
 case round=>
  obtain⟨a,out,rfl,u,X,hl,j,y,hz,Y⟩:=hrel;have Z:=hid X;clear X;have d5:K.ps.length≤100000:=oo;go_wp2_with fail;refine(xR _ _ _ _ J M).mono ?_;rintro e f ⟨rfl,z⟩;have d6:=z.size;have q:=zU Y z oo;have B:=zf j z;have N:Below w.heap.size w f:=y.trans (z.mono oo);clear z Y j y;by_cases b4:pow2 K.l+1<a
  ·have a0:(a - K.cl - 2).toNat<K.ps.length:=by unfold Kn.cl at*;rcases u with h|h<;>omega
   obtain⟨d7,a1⟩:=eP hk.pairs a b4 (by rcases u with h|h<;>unfold Kn.cl at*<;>omega);obtain⟨g,r,E,hg,F,O⟩:=dX (hs.below N) _ a0;have b5:=hk.pairs _ a0;obtain⟨a2,d9,d'⟩:=b5;have b6:=hid a1;have HA:=hid E;clear a1 E;generalize b7:K.ps[(a - K.cl - 2).toNat]=d at*;clear b7;have b8:=xu K.l J M;obtain⟨e0,e3⟩:=b8;have e4:a≤100000:=(by rcases u with h|h<;>unfold Kn.cl at*<;>omega);have a4:0≤d.fst∧d.fst<a:=by
    have e5:K.cl=pow2 K.l:=rfl;unfold codeOk at a2;omega
   obtain⟨a4,e6⟩:=a4;have a5:((a - (pow2 K.l+1)).toNat - 1)=(a - K.cl - 2).toNat:=(by unfold Kn.cl;omega);have b9:w.heap.size<f.heap.size:=oo;rw[←a5] at F O;have e7:0≤a - (pow2 K.l+1) - 1:=oo;have e8:1≤a - (pow2 K.l+1):=oo;have e9:a - (pow2 K.l+1) - 1<K.ps.length:=oo;have E:=HA.out;subst E;clear a5 HA;have HK:Hid (∀w',Below f.heap.size f w'→(w'.cell? ⟨w.heap.size,0,none⟩=some (.int .i64 K.o)∧w'.cell? ⟨w.heap.size,1,none⟩=some (.int .i64 K.l)∧w'.cell? ⟨w.heap.size,2,none⟩=some (.int .i64 K.m)∧w'.cell? ⟨w.heap.size,3,none⟩=some (.slice (some ⟨g,r,none⟩) K.ps.length cap)∧w'.cell? ⟨g,r+((a - (pow2 K.l+1)).toNat - 1)*2,none⟩=some (.int .i64 d.fst)∧w'.cell? ⟨g,r+((a - (pow2 K.l+1)).toNat - 1)*2+1,none⟩=some (.int .i64 d.snd)∧Below f.heap.size f w')):=fun w' h=>⟨(h.cell (p:=⟨_,_,_⟩) oB).trans (q 0),(h.cell (p:=⟨_,_,_⟩) oB).trans (q 1),(h.cell (p:=⟨_,_,_⟩) oB).trans (q 2),(h.cell (p:=⟨_,_,_⟩) oB).trans (q 3),(h.cell (p:=⟨_,_,_⟩) oB).trans (F),(h.cell (p:=⟨_,_,_⟩) oB).trans (O),h⟩;clear F O;go_wp2_with fail;have e':IntKind.i64.wrap (a - (pow2 K.l+1))=a - (pow2 K.l+1):=IntWalk.i64_in _ oo;have f0:IntKind.i64.wrap (a - (pow2 K.l+1) - 1)=a - (pow2 K.l+1) - 1:=IntWalk.i64_in _ oo;go_cut [6] (fun p G=>∃s:Nat,p= .pointer (some ⟨s,0,none⟩)∧f.heap.size≤s∧s<G.heap.size∧G.cell? ⟨s,0,none⟩=some (.int .i64 d.1)∧G.cell? ⟨s,1,none⟩=some (.int .i64 d.2)∧Below f.heap.size f G)
   case first=>
    go_region_held3 (fun w'=>w'.cell? ⟨w.heap.size,0,none⟩=some (.int .i64 K.o)∧w'.cell? ⟨w.heap.size,1,none⟩=some (.int .i64 K.l)∧w'.cell? ⟨w.heap.size,2,none⟩=some (.int .i64 K.m)∧w'.cell? ⟨w.heap.size,3,none⟩=some (.slice (some ⟨g,r,none⟩) K.ps.length cap)∧w'.cell? ⟨g,r+((a - (pow2 K.l+1)).toNat - 1)*2,none⟩=some (.int .i64 d.fst)∧w'.cell? ⟨g,r+((a - (pow2 K.l+1)).toNat - 1)*2+1,none⟩=some (.int .i64 d.snd)∧Below f.heap.size f w') ((exact HK.out _ yj)) (first|(go_at_call 235;refine(xR _ _ _ _ J M).mono ?_;rintro e w2 ⟨rfl,a6⟩;have D:=a6.size;(try simp at D);try(have t:=zB a6;have f2:=zU (yF _ _ _) t (by simp);have f3:=eu (VT _ _ _) t (by simp))))
    all_goals
     go_wp2_with fail;go_meet;refine⟨_,rfl,by first|omega|(simp<;>omega),by first|omega|(simp<;>omega),by first|(simp;done)|go_simp,by first|(simp;done)|go_simp,yj⟩
   case rest=>
    obtain⟨s,rfl,f4,c0,c1,f5,P⟩:=hcut;have a7:=zf B P;have a8:=zU q P b9;have c2:out.length≤100000:=oo;have Q:out.length+1≤maxLen:=(by unfold maxLen;omega);have R:(out.length+1)*1≤140737488355328:=oo;have f6:d.snd≤255:=oo;go_wp2_with(at_builtin;go_must(refine wpList_append_own _ rfl _ _ 22 rfl (w.heap.size+1) 5 i _ 1 1 underlying22 U V W D rfl oo _ _ _ rfl (a7.alloc _) ⟨wc.heap.size,0,none⟩ 1 1 [.int .u8 d.snd] rfl rfl ?_ ?_ Q R ?_ ?_));try(case refine_1=>first|exact cell_one_new _ _ _|omega|(simp<;>omega;done)|(simp [Value.oneCell'];done))
    try(case refine_2=>first|exact cell_one_new _ _ _|omega|(simp<;>omega;done)|(simp [Value.oneCell'];done))
    try(case refine_3=>first|exact cell_one_new _ _ _|omega|(simp<;>omega;done)|(simp [Value.oneCell'];done))
    intro v3 w3 H n _;have C:=B.lt;have c3:=V4 n c0 (fun k hk=>by have:=C k hk;omega) 0;rw[c1] at c3;have S:=V4 n (b:=w.heap.size) oo (fun k hk=>by have:=C k hk;omega);have S:=fun i=>(S i).trans (a8 i);have t:=yD (N.trans (P.mono oo)) n oo (fun k hk=>by have:=C k hk;omega);have c4:=ve n;clear n a8 a7;go_wp2;go_roundw
    case rel=>
     refine⟨d.fst,out++[UInt8.ofNat d.snd.toNat],rfl,kG a2 oo,?_,?_,?_,t,oo,S⟩
     ·rw[Z.out]
      show K.word a++_=K.word d.fst++_;unfold Kn.word;rw[b6.out];simp
     ·simp;omega
     ·have e:u8v (UInt8.ofNat d.snd.toNat)= .int .u8 d.snd:=by
       show Value.int .u8 _=_;rw[UInt8.toNat_ofNat'];congr 1;omega
      rw[List.map_append,List.length_append];simp only[List.map_cons,List.map_nil,e];exact H
    case measure=>simp [intOf];omega
  ·have c5:a<K.cl:=by unfold Kn.cl at*;rcases u with h|h<;>omega
   have F:0≤a:=(by rcases u with h|h<;>omega);have f7:a≤255:=oo;have HL:Hid (K.word c=(out++[UInt8.ofNat a.toNat]).reverse):=by
    show K.word c=_;rw[Z.out];unfold Kn.word;rw[jG _ _ _ c5];simp
   have c2:out.length≤100000:=oo;have Q:out.length+1≤maxLen:=(by unfold maxLen;omega);have R:(out.length+1)*1≤140737488355328:=oo;go_wp2_with(at_builtin;go_must(refine wpList_append_own _ rfl _ _ 22 rfl (w.heap.size+1) 5 i _ 1 1 underlying22 U V W D rfl oo _ _ _ rfl (B.alloc _) ⟨f.heap.size,0,none⟩ 1 1 [.int .u8 a] rfl rfl ?_ ?_ Q R ?_ ?_));try(case refine_1=>first|exact cell_one_new _ _ _|omega|(simp<;>omega;done)|(simp [Value.oneCell'];done))
   try(case refine_2=>first|exact cell_one_new _ _ _|omega|(simp<;>omega;done)|(simp [Value.oneCell'];done))
   try(case refine_3=>first|exact cell_one_new _ _ _|omega|(simp<;>omega;done)|(simp [Value.oneCell'];done))
   intro v3 w3 H n _;have C:=B.lt;have t:=yD N n oo (fun k hk=>by have:=C k hk;omega);have c4:=ve n;have e:u8v (UInt8.ofNat a.toNat)= .int .u8 a:=by
    show Value.int .u8 _=_;rw[UInt8.toNat_ofNat'];congr 1;omega
   have I:w3.ownsRow (w.heap.size+1) 5 1 v3 (out++[UInt8.ofNat a.toNat]).length ((out++[UInt8.ofNat a.toNat]).map u8v):=by
    rw[List.map_append,List.length_append];simp only[List.map_cons,List.map_nil,e];exact H
   clear n H e B q;have f8:(out++[UInt8.ofNat a.toNat]).length≤100001:=(by simp;omega);have c7:0<(out++[UInt8.ofNat a.toNat]).length:=(by simp);generalize out++[UInt8.ofNat a.toNat]=L at*;obtain⟨g,c8,rfl,f9,f'⟩:=I.form c7;rw[←Xi L] at I;go_wp2;go_loopw [7,8] (fun x _ wr=>∃i:Nat,i≤L.length / 2∧x= .int .i64 i∧wr.ownsRow (w.heap.size+1) 5 1 (.slice (some ⟨g,0,none⟩) L.length c8) L.length ((uD L i).map u8v)∧Below w.heap.size w wr) (fun x _ _=>L.length - (intOf x).toNat)
   case atStart=>exact⟨0,by omega,rfl,by rw[wP] at I;exact I,t⟩
   case round=>
    obtain⟨i,g0,rfl,j,y⟩:=hrel;by_cases c9:i<L.length / 2
    ·have g1:(i:Int)<(L.length:Int) / 2:=oo
     have g2:(i:Int)<L.length:=oo;have g3:0≤(L.length:Int) - 1 - i:=oo;have g4:(L.length:Int) - 1 - i<L.length:=oo;have g5:=(j.cellAt i (by omega)).trans (dZ (uD L i) i (by rw[wP];omega));have g6:=j.frozenAt i;have g7:=(j.cellAt (L.length - 1 - i) (by omega)).trans (dZ (uD L i) (L.length - 1 - i) (by rw[wP];omega));have g8:=j.frozenAt (L.length - 1 - i);go_wp2;go_roundw
     case rel=>
      refine⟨i+1,oo,by go_num,?_,(y.setCell (by show _≤g;omega) _).setCell (by show _≤g;omega) _⟩;have h2:=((j.stored i (u8v ((uD L i)[L.length - 1 - i]?.getD 0))).1.stored (L.length - 1 - i) (u8v ((uD L i)[i]?.getD 0))).1;rw[←List.map_set,←List.map_set] at h2;have e1:(uD L i)[L.length - 1 - i]?.getD 0=L.getD (L.length - 1 - i) 0:=by
       rw[oq L i _ (by omega),if_neg (by omega)];rfl
      have e2:(uD L i)[i]?.getD 0=L.getD i 0:=by
       rw[oq L i _ (by omega),if_neg (by omega)];rfl
      rw[e1,e2,Yd L i c9] at h2;rw[e1,e2];exact h2
     case measure=>simp [intOf];omega
    ·have g9:=yL (l:=L.reverse) (by
      have e:i=L.length / 2:=oo;rw[YH L i e] at j;rw[List.length_reverse];exact j)
     go_wp2;go_ret;exact⟨rO HL.out.symm,y⟩
theorem nR (l:Bs):wV l=byteAt l 0:=by
 unfold wV byteAt
 cases l<;>rfl
set_option maxRecDepth 100000 in
theorem qW (K:Kn)(A:Option Addr)(cap:Nat)(c:Int)(w:World)(hk:K.ok)(n:Sl w A K.ps.length cap 2 (psV K.ps))(s:K.fol c=true):
 Calls prog 237 #[knV K A cap,c] w (rT w (.string ⟨(K.any c).toArray⟩)):=by
 have d:=s;unfold Kn.fol at d;simp only[decide_eq_true_eq] at d;go_enter func237,ntmps237;go_wp2_with fail;refine(uN _ _ _ _ hk).mono ?_;rintro e o ⟨rfl,i⟩;have t:=i.size;simp only[World.size_alloc] at t;have j:=zU (yF _ _ _) i (by simp);have k:w.heap.size<o.heap.size:=oo;have f:Below w.heap.size w o:=((Below.refl _ _).alloc (Nat.le_refl _) _).trans (i.mono (by simp));clear i;by_cases b:c=K.nx
 ·have u:K.gr=true:=by
   rcases d with h|⟨h,_⟩
   ·exfalso;unfold codeOk at h;unfold Kn.nx at b;unfold Kn.cl at h;omega
   ·exact h
  have p:=K.qf hk u;have q:=eG hk.pairs _ _ (Nat.le_refl _) p;have C:=hk.bd;have r:K.any c=K.word K.last++(K.word K.last).take 1:=(by unfold Kn.any;rw[if_pos b]);have l:=hid r;have v:(c==K.nx)=true:=(by simpa using b);clear r b d;have D:1≤(K.word K.last).length:=q.1;have E:(K.word K.last).length≤2000:=(by have:=q.2;unfold Kn.word;omega);have F:((K.word K.last).take 1).length≤1:=(by simp;omega);go_wp2_with fail;refine(YK K A cap K.last _ hk (n.below f) p).mono ?_;rintro e g ⟨rfl,a⟩;have x:=a.size;have y:=zU j a k;have z:w.heap.size<g.heap.size:=oo;have m:Below w.heap.size w g:=f.trans (a.mono oo);clear a j k f;generalize K.word K.last=W at*;go_wp2;go_ret;exact⟨rO (by rw[l.out,ByteArray.extract_mk];simp),m⟩
 ·have B:codeOk K.cl K.ps.length c:=by
   rcases d with h|⟨_,h⟩
   ·exact h
   ·exact absurd h b
  have l:Hid (K.any c=K.word c):=(by show _=_;unfold Kn.any;rw[if_neg b]);have v:(c==K.nx)=false:=(by simpa using b);clear b d;go_wp2_with fail;refine(YK K A cap c _ hk (n.below f) B).mono ?_;rintro e g ⟨rfl,a⟩;have x:=a.size;have y:=zU j a k;have z:w.heap.size<g.heap.size:=oo;have m:Below w.heap.size w g:=f.trans (a.mono oo);clear a j k f;go_wp2;go_ret;exact⟨rO l.out.symm,m⟩
theorem OM (K:Kn)(i:Nat)(h:i<K.yP.length):K.yP[i]=K.any (K.cl+2+i):=by simp [Kn.yP]
theorem UF (K:Kn)(data:Bs)(i:Nat)(h:i<K.yP.length)(b:Bs):(K.yP.take (i+1)).foldl (better data) b=better data ((K.yP.take i).foldl (better data) b) (K.any (K.cl+2+i)):=by
 rw[List.take_succ_eq_append_getElem h,List.foldl_append,OM K i h];rfl
theorem QC {data b x:Bs}(h1:b.length<x.length)(h2:data.take x.length=x):better data b x=x:=by
 unfold better;rw[if_pos ⟨h1,List.isPrefixOf_iff_prefix.2 (List.prefix_iff_eq_take.2 h2.symm)⟩]
theorem Qm {data b x:Bs}(h1:¬b.length<x.length):better data b x=b:=by
 unfold better;rw[if_neg (fun h=>h1 h.1)]
theorem YE {data b x:Bs}(h2:¬data.take x.length=x):better data b x=b:=by
 unfold better;rw[if_neg (fun h=>h2 (List.prefix_iff_eq_take.1 (List.isPrefixOf_iff_prefix.1 h.2)).symm)]
theorem QB (data:Bs)(a:List Bs)(b:Bs)(c:b.length≤data.length):(a.foldl (better data) b).length≤data.length:=by
 rcases Wv data a b with h|⟨_,_,h⟩
 ·rw[h];exact c
 ·exact(List.isPrefixOf_iff_prefix.1 h).length_le
set_option maxRecDepth 100000 in
theorem jV (K:Kn)(A:Option Addr)(cap:Nat)(d:Bs)(w:World)(hk:K.ok)(r:Sl w A K.ps.length cap 2 (psV K.ps))(u:d≠[])(T:d.length≤100000):
 Calls prog 255 #[knV K A cap,d] w (rT w (.string ⟨(K.longest d).toArray⟩)):=by
 have U:1≤d.length:=(by cases d<;>simp at u⊢);clear u;have V:=hk.bd;have W:=K.tJ hk;have G:=hk.lm;obtain⟨v,y,X,Y⟩:=G;have H:=xu K.l v y;obtain⟨Z,a0⟩:=H;have s:=hid (K.uo);have j:Hid (K.cl=pow2 K.l):=rfl;go_enter func255,ntmps255;go_wp2_with fail;refine(xR _ _ _ _ v y).mono ?_;rintro e z ⟨rfl,k⟩;have I:=k.size;simp only[World.size_alloc] at I;have J:=zU (yF _ _ _) k (by simp);have L:w.heap.size<z.heap.size:=oo;have M:Below w.heap.size w z:=((Below.refl _ _).alloc (Nat.le_refl _) _).trans (k.mono (by simp));clear k;go_wp2;go_loopw [5,6] (fun b x wr=>∃i:Nat,i≤K.yP.length∧b= .string ⟨((K.yP.take i).foldl (better d) (d.take 1)).toArray⟩∧x= .int .i64 (pow2 K.l+2+i)∧Below w.heap.size w wr∧w.heap.size<wr.heap.size∧∀i,wr.cell? ⟨w.heap.size,i,none⟩=(knC K A cap)[i]?) (fun _ x _=>K.yP.length+70000 - (intOf x).toNat)
 case atStart=>exact⟨0,by omega,by rw[ByteArray.extract_mk];simp,by go_num,M,L,J⟩
 case round=>
  obtain⟨i,hi,rfl,rfl,B,N,D⟩:=hrel;have a2:i≤5000:=(by have:=s.out;omega);go_wp2_with fail;refine(pM _ _ _ _ hk).mono ?_;rintro e w2 ⟨rfl,m⟩;have a4:=m.size;have E:=zU D m N;have n:=B.trans (m.mono oo);clear m D B;by_cases F:i<K.yP.length
  ·have a5:pow2 K.l+2+(i:Int)≤K.great:=by have:=s.out;have:=j.out;omega
   have t:=K.jw i F;rw[j.out] at t;have O:=K.qh hk t;have g:=hid (UF K d i F (d.take 1));rw[j.out] at g;have a6:=QB d (K.yP.take i) (d.take 1) (by simp;omega);have c:=fun w r=>qW K A cap (pow2 K.l+2+i) w hk r t;generalize K.any (pow2 K.l+2+i)=x at*;generalize(K.yP.take i).foldl (better d) (d.take 1)=b at*;have C:=hid c;clear c;go_wp2_with fail;refine(C.out _ (r.below n)).mono ?_;rintro e w3 ⟨rfl,o⟩;have a8:=o.size;have p:=zU E o oo;have q:=n.trans (o.mono oo);clear o E n;obtain⟨a9,a'⟩:=O;by_cases h1:b.length<x.length
   ·by_cases h2:x.length≤d.length
    ·by_cases f:d.take x.length=x
     ·have a:=hid (QC h1 f)
      have P:decide (d.take x.length=x)=true:=(by simpa using f);clear f;have Q:(b.length:Int)<x.length:=oo;have R:(x.length:Int)≤d.length:=oo;go_wp2;go_roundw
      case rel=>exact⟨i+1,by omega,by rw[g.out,a.out],by go_num,q,by omega,p⟩
      case measure=>simp [intOf];omega
     ·have a:=hid (YE (b:=b) f)
      have P:decide (d.take x.length=x)=false:=(by simpa using f);clear f;have Q:(b.length:Int)<x.length:=oo;have R:(x.length:Int)≤d.length:=oo;go_wp2;go_roundw
      case rel=>exact⟨i+1,by omega,by rw[g.out,a.out],by go_num,q,by omega,p⟩
      case measure=>simp [intOf];omega
    ·have a:Hid (better d b x=b):=YE (fun h=>by have:=congrArg List.length h;simp at this;omega)
     go_wp2;go_roundw
     case rel=>exact⟨i+1,by omega,by rw[g.out,a.out],by go_num,q,by omega,p⟩
     case measure=>simp [intOf];omega
   ·have a:Hid (better d b x=b):=Qm h1
    go_wp2;go_roundw
    case rel=>exact⟨i+1,by omega,by rw[g.out,a.out],by go_num,q,by omega,p⟩
    case measure=>simp [intOf];omega
  ·have b0:¬pow2 K.l+2+(i:Int)≤K.great:=by have:=s.out;have:=j.out;omega
   have S:Hid (K.yP.take i=K.yP):=List.take_of_length_le oo;go_wp2;go_ret;exact⟨rO (by rw[S.out];rfl),n⟩
