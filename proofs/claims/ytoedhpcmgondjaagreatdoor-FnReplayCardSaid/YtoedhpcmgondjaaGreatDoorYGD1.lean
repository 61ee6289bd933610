import Derived.Test.YtoedhpcmgondjaaGreatDoorYGW
import Derived.Deep.DeepCutAuto
set_option linter.all false
set_option maxHeartbeats 8000000
namespace Go.Proofs.YtoedhpcmgondjaaGreatDoor
open Go.RowKit
structure zk (B r : Nat) (w w' : World) : Prop where
 os : w'.os = w.os
 tape : w'.tape = w.tape
 output : w'.output = w.output
 size : w.heap.size ≤ w'.heap.size
 block : ∀ k, k < B → k ≠ r → w'.heap[k]? = w.heap[k]?
section
variable {B B' r b : Nat} {w w' a c : World}
theorem y8 (h:Below B w w')(r:Nat):zk B r w w':=⟨h.os,h.tape,h.output,h.size,fun k hk _=>h.block k hk⟩
theorem zk.refl (B r:Nat)(w:World):zk B r w w:=y8 (Below.refl B w) r
theorem zk.trans (h:zk B r a w)(k:zk B r w c):zk B r a c:=
 ⟨k.os.trans h.os,k.tape.trans h.tape,k.output.trans h.output,Nat.le_trans h.size k.size,fun i d e=>(k.block i d e).trans (h.block i d e)⟩
theorem zk.mono (h:zk B r w w')(d:B'≤B):zk B' r w w':=⟨h.os,h.tape,h.output,h.size,fun k hk=>h.block k (Nat.lt_of_lt_of_le hk d)⟩
theorem zk.drewN (h:zk B r a w)(n:Nat):zk B r a (w.drewN n):=⟨h.os,h.tape,h.output,h.size,h.block⟩
theorem zk.drew (h:zk B r a w):zk B r a w.drew:=⟨h.os,h.tape,h.output,h.size,h.block⟩
theorem zk.alloc (h:zk B r a w)(d:B≤w.heap.size)(o:Obj):zk B r a (w.alloc o):=h.trans (y8 ((Below.refl B w).alloc d o) r)
theorem zk.setCell (h:zk B r a w){p:Addr}(d:p.block=r∨B≤p.block)(u:Value):zk B r a (w.setCell p u):=
 h.trans ⟨rfl,rfl,rfl,by simp [World.setCell],fun k hk e=>Below.heap_setCell _ _ _ _ (by omega)⟩
theorem zk.grown {row:Option Nat}(h:zk B r a w)(d:w.grownBy w' row)(e:B≤w.heap.size)(f:∀k,row=some k→B≤k):zk B r a w':=
 h.trans (y8 ((Below.refl B w).grown d e f) r)
theorem zk.below (h:zk B r w w')(d:B≤r):Below B w w':=⟨h.os,h.tape,h.output,h.size,fun k hk=>h.block k hk oo⟩
theorem zk.cell (h:zk B r w w'){p:Addr}(d:p.block<B)(e:p.block≠r):w'.cell? p=w.cell? p:=World.cell?_of_block (w:=w) (h.block p.block d e)
theorem yY {e:TypeId}{size n:Nat}{v:Value}{xs:List Value}(h:w.ownsRow B e size v n xs)(d:zk w.heap.size r w w')(k:r<B):w'.ownsRow B e size v n xs:=by
 have f:=h.lt;obtain⟨h1,h2⟩:=h;refine⟨h1,?_⟩;rcases h2 with h2|⟨g,cap,cur,rfl,i,j,rest⟩
 ·exact .inl h2
 ·have:=f g rfl
  exact .inr ⟨g,cap,cur,rfl,i,(d.block g this.2 oo).trans j,rest⟩
end
def Rd (w:World)(r M:Nat):Prop:=∃(A:Option Addr) (n cap:Nat) (d:Bs) (P:Nat),
 w.heap[r]? =some (.cells #[.slice A n cap,.int .i64 (P:Int)] 67 (0,0))∧d.length=n∧n≤2000∧n≤cap∧cap≤9223372036854775807∧P≤M∧
 (0<n→∃g e,A=some ⟨g,e,none⟩∧g<r∧∀(j:Nat) (f:j<d.length),w.cell? ⟨g,e+j,none⟩=some (u8v d[j]))
section
variable {r M M' : Nat} {w w' : World}
theorem Rd.lt (h:Rd w r M):r<w.heap.size:=by
 obtain⟨A,n,cap,f,P,h1,_⟩:=h;rcases Nat.lt_or_ge r w.heap.size with d|e
 ·exact d
 ·rw[Array.getElem?_eq_none e] at h1;cases h1
theorem Rd.mono (h:Rd w r M)(j:M≤M'):Rd w r M':=by
 obtain⟨A,n,cap,d,P,h1,h2,e,f,g,k,i⟩:=h;exact⟨A,n,cap,d,P,h1,h2,e,f,g,oo,i⟩
theorem Rd.keep (h:Rd w r M)(d:Below w.heap.size w w'):Rd w' r M:=by
 have f:=h.lt;obtain⟨A,n,cap,i,P,h1,h2,k,l,m,o,q⟩:=h;refine⟨A,n,cap,i,P,(d.block r f).trans h1,h2,k,l,m,o,fun s=> ?_⟩;obtain⟨g,e,t,u,v⟩:=q s;exact⟨g,e,t,u,fun j x=>(d.cell (p:=⟨g,e+j,none⟩) (by show g<_;omega)).trans (v j x)⟩
theorem Rd.far (h:Rd w r M){p:Addr}(x:r<p.block)(u:Value):Rd (w.setCell p u) r M:=by
 obtain⟨A,n,cap,e,P,h1,h2,f,i,k,l,m⟩:=h;refine⟨A,n,cap,e,P,(Below.heap_setCell w p u r oo).trans h1,h2,f,i,k,l,fun o=> ?_⟩;obtain⟨g,d,q,s,t⟩:=m o;exact⟨g,d,q,s,fun j v=>(World.cell?_of_block (a:=⟨g,d+j,none⟩) (Below.heap_setCell w p u g oo)).trans (t j v)⟩
theorem Rd.drewN (h:Rd w r M)(n:Nat):Rd (w.drewN n) r M:=h
theorem Rd.drew (h:Rd w r M):Rd w.drew r M:=h
theorem Rd.alloc (h:Rd w r M)(o:Obj):Rd (w.alloc o) r M:=h.keep ((Below.refl _ _).alloc (Nat.le_refl _) o)
end
end Go.Proofs.YtoedhpcmgondjaaGreatDoor
namespace Go.Proofs.YtoedhpcmgondjaaGreatDoor
open Go.Lib(hid)
open Go.RowKit Go.Proofs.Tryz
set_option maxRecDepth 100000
attribute [local instance] mU hZ
attribute [local go_sem high] zG zF zH zV zN yu zD zl zn zt zi zu y9 zK yE zJ
theorem J3 (x:Int)(h0:0≤x)(h1:x<4611686018427387904):∃y:Int,bits .xor .i64 x (x / 64)=y∧0≤y∧y<9223372036854775808:=by
 obtain⟨a,rfl⟩:=Int.eq_ofNat_of_zero_le h0;have e:((a:Int) / 64)=((a / 64:Nat):Int):=oo;rw[e];have d:∀a:Nat,a<9223372036854775808→(BitVec.ofInt 64 (a:Int)).toNat=a:=fun a g=>by
  rw[BitVec.ofInt_natCast,BitVec.toNat_ofNat];exact Nat.mod_eq_of_lt (by omega)
 have h:a ^^^ (a / 64)<2 ^ 63:=Nat.xor_lt_two_pow oo oo;have f:bits .xor .i64 (a:Int) ((a / 64:Nat):Int)=((a ^^^ (a / 64):Nat):Int):=by
  show IntKind.i64.wrap ((BitVec.ofInt 64 (a:Int) ^^^ BitVec.ofInt 64 ((a / 64:Nat):Int)).toNat:Int)=_;rw[BitVec.toNat_xor,d a (by omega),d (a / 64) (by omega),IntKind.wrap_i64];omega
 exact⟨_,f,oo,oo⟩
theorem ZC (b n:Int)(h0:0≤b)(h1:1≤n):0≤b % n∧b % n<n:=by
 exact⟨Int.emod_nonneg b oo,Int.emod_lt_of_pos b oo⟩
def PT (r M:Nat)(d f:Int)(w:World)(e:Ending)(w':World):Prop:=(∃v:Int,e= .returned (.int .i64 v)∧d≤v∧v≤f)∧Rd w' r M∧zk w.heap.size r w w'
theorem pick_any (r M:Nat)(n:Int)(w:World)(Q:Rd w r M)(hM:M≤100000000)(a8: -9223372036854775808≤n)(hn:n≤9223372036854775807):
 Calls prog 21 #[.pointer (some ⟨r,0,none⟩),n] w (PT r (M+1) 0 (max 0 (n - 1)) w):=by
 obtain⟨A,d,cap,f,P,h,R,S,T,U,a',H⟩:=Q;have hr:=Bk.lt (t:=67) (cs:=#[.slice A d cap,(P:Int)]) h;have i:Bk (w.setCell ⟨r,1,none⟩ (.int .i64 ((P:Int)+1))) r 67 #[.slice A d cap,.int .i64 ((P:Int)+1)]:=Bk.set (t:=67) (cs:=#[.slice A d cap,(P:Int)]) h 1 _;have hX:=Bk.cell (t:=67) (cs:=#[.slice A d cap,(P:Int)]) h;have hF:=Bk.free (t:=67) (cs:=#[.slice A d cap,(P:Int)]) h;have k:zk w.heap.size r w (w.setCell ⟨r,1,none⟩ (.int .i64 ((P:Int)+1))):=(zk.refl w.heap.size r w).setCell (p:=⟨r,1,none⟩) (.inl rfl) _;have s:0<d→∃g e,A=some ⟨g,e,none⟩∧g<r∧∀(j:Nat) (u:j<f.length),(w.setCell ⟨r,1,none⟩ (.int .i64 ((P:Int)+1))).cell? ⟨g,e+j,none⟩=some (u8v f[j]):=by
  intro h0;obtain⟨g,e,V,I,l⟩:=H h0;exact⟨g,e,V,I,fun j u=>(k.cell (p:=⟨g,e+j,none⟩) (by show g<_;omega) (by show g≠r;omega)).trans (l j u)⟩
 have y:Rd (w.setCell ⟨r,1,none⟩ (.int .i64 ((P:Int)+1))) r (M+1):=⟨A,d,cap,f,P+1,by have:=i;unfold Bk at this;rw[this];simp,R,S,T,U,by omega,s⟩;have b3:=i.cell;have b4:=i.free;have m:∀x,Rd x r (M+1)→zk w.heap.size r w x→∀v:Int,0≤v→v≤max 0 (n - 1)→PT r (M+1) 0 (max 0 (n - 1)) w (.returned (.int .i64 v)) x:=fun x h1 h2 v W X=>⟨⟨v,rfl,W,X⟩,h1,h2⟩;clear h H;by_cases b5:n<1
 ·go_enter func21,ntmps21
  go_wp2;go_ret;exact m _ y k 0 (Int.le_refl _) oo
 by_cases Y:d=0
 ·subst Y
  have b6:((0:Nat):Int)=0:=rfl;go_enter func21,ntmps21;go_wp2;go_ret;exact m _ y k 0 (Int.le_refl _) oo
 have z:0<d:=oo;have b7:((d:Int)==0)=false:=(by rw[beq_eq_false_iff_ne];omega);obtain⟨g,e,rfl,I,l⟩:=s z;have J:1≤n:=oo;have Z:max 0 (n - 1)=n - 1:=oo;have o:∀j,j<f.length→∃b:Int,0≤b∧b≤255∧(w.setCell ⟨r,1,none⟩ (.int .i64 ((P:Int)+1))).cell? ⟨g,e+j,none⟩=some (.int .u8 b):=fun j u=>⟨(f[j].toNat:Int),oo,by have:=f[j].toNat_lt;omega,l j u⟩;rw[Z] at m⊢;by_cases b8:P<d
 ·obtain⟨b,K,a0,b9⟩:=o P oo
  have C:=ZC b n K J;obtain⟨D,L⟩:=C;have a1:(P:Int)<d:=oo;clear l s i o;go_enter func21,ntmps21;go_wp2;go_ret;exact m _ y k _ D oo
 ·obtain⟨N,L,b'⟩:∃q:Nat,(P:Int) % d=q∧q<d:=⟨P % d,by simp,Nat.mod_lt _ z⟩
  obtain⟨O,c0,c1⟩:∃q:Nat,((P:Int)*7+3) % d=q∧q<d:=⟨(P*7+3) % d,by simp,Nat.mod_lt _ z⟩;obtain⟨E,K,a0,c2⟩:=o N oo;obtain⟨F,c3,c4,c5⟩:=o O oo;obtain⟨G,c6,c7⟩:∃q:Nat,(P:Int) / d=q∧q≤P:=⟨P / d,by simp,Nat.div_le_self _ _⟩;have a1:¬(P:Int)<d:=oo;have c8:(N:Int)<d:=oo;have c9:(O:Int)<d:=oo;clear l s i o;go_enter func21,ntmps21;go_wp2;go_quiet(fail);have a2:0≤E*131+F*1117+(P:Int)*29+(G:Int)*53:=oo;have a3:E*131+F*1117+(P:Int)*29+(G:Int)*53<4611686018427387904:=oo;generalize E*131+F*1117+(P:Int)*29+(G:Int)*53=a4 at*;obtain⟨a5,hy,a6,d0⟩:=J3 a4 a2 a3;have C:=ZC a5 n a6 J;obtain⟨D,L⟩:=C;go_wp2;go_ret;exact m _ (y.drewN _) (k.drewN _) _ D oo
theorem sZ (r M:Nat)(d:List Int)(A:Option Addr)(cap:Nat)(w:World)(j:Rd w r M)(l:M≤100000000)(m:Sl w A d.length cap 1 (d.map (Value.int .i64)))(h0:0<d.length)(x:d.length≤1000)(n:∀g f,A=some ⟨g,f,none⟩→g≠r):
 Calls prog 23 #[.pointer (some ⟨r,0,none⟩),.slice A d.length cap] w fun e w'=>(∃v ∈ d,e= .returned (.int .i64 v))∧Rd w' r (M+1)∧zk w.heap.size r w w':=by
 go_enter func23,ntmps23;go_wp2_with fail;refine(pick_any r M d.length w j l oo oo).mono ?_;rintro e w' ⟨⟨v,rfl,o,y⟩,q,i⟩;obtain⟨k,rfl⟩:=Int.eq_ofNat_of_zero_le o;have hk:k<d.length:=oo;obtain⟨g,f,u,rfl,s,h,t⟩:=Sl.at1 m hk;have z:=(i.cell (p:=⟨g,f+k,none⟩) s (n g f rfl)).trans t;rw[List.getElem?_map,List.getElem?_eq_getElem hk] at h;simp at h;subst h;have C:(k:Int)<d.length:=oo;go_wp2;go_ret;exact⟨⟨_,List.getElem_mem hk,rfl⟩,q,i⟩
theorem MJ (r M:Nat)(d:List Bs)(A:Option Addr)(cap:Nat)(w:World)(j:Rd w r M)(l:M≤100000000)(m:Sl w A d.length cap 1 (d.map sv))(h0:0<d.length)(x:d.length≤1000)(n:∀g f,A=some ⟨g,f,none⟩→g≠r):
 Calls prog 57 #[.pointer (some ⟨r,0,none⟩),.slice A d.length cap] w fun e w'=>(∃v ∈ d,e= .returned (sv v))∧Rd w' r (M+1)∧zk w.heap.size r w w':=by
 go_enter func57,ntmps57;go_wp2_with fail;refine(pick_any r M d.length w j l oo oo).mono ?_;rintro e w' ⟨⟨v,rfl,o,y⟩,q,i⟩;obtain⟨k,rfl⟩:=Int.eq_ofNat_of_zero_le o;have hk:k<d.length:=oo;obtain⟨g,f,u,rfl,s,h,t⟩:=Sl.at1 m hk;have z:=(i.cell (p:=⟨g,f+k,none⟩) s (n g f rfl)).trans t;rw[List.getElem?_map,List.getElem?_eq_getElem hk] at h;simp at h;subst h;have C:(k:Int)<d.length:=oo;go_wp2;go_ret;exact⟨⟨_,List.getElem_mem hk,rfl⟩,q,i⟩
theorem Yc (d:Bs)(A:Option Addr)(cap:Nat)(w:World)(k:Sl w A d.length cap 1 (d.map u8v)):
 Calls prog 19 #[.slice A d.length cap] w fun e w'=>e= .returned (.pointer (some ⟨w.heap.size,0,none⟩))∧Rd w' w.heap.size 0∧Below w.heap.size w w':=by
 obtain⟨h1,h2,t,f⟩:=k;have h:∀(n:Nat),n≤d.length→n≤2000→Rd (w.alloc (.cells #[.slice A n cap,.int .i64 0] 67)) w.heap.size 0:=by
  intro n u l;refine⟨A,n,cap,d.take n,0,heap_alloc_new w _,by simp;omega,l,by omega,h2,Nat.le_refl _,fun h0=> ?_⟩;obtain⟨g,m,rfl,i,o⟩:=f oo;refine⟨g,m,rfl,i,fun j p=> ?_⟩;rw[List.length_take] at p;rw[World.cell?_alloc_lt _ _ _ i,o j (u8v d[j]) (by simp [List.getElem?_map,List.getElem?_eq_getElem (show j<d.length by omega)])];rw[List.getElem_take]
 have K:=hid h;clear h f;by_cases q:d.length≤2000
 ·have s:¬(2000:Int)<d.length:=oo
  go_enter func19,ntmps19;go_wp2;go_ret;exact⟨rfl,K.out d.length (Nat.le_refl _) q,zy⟩
 ·have s:(2000:Int)<d.length:=oo
  have v:(2000:Int)≤cap:=oo;go_enter func19,ntmps19;go_wp2;go_ret;exact⟨rfl,K.out 2000 oo oo,zy⟩
theorem Bk.zC {w w':World}{B r g:Nat}{t:TypeId}{cs:Array Value}(h:Bk w g t cs)(d:zk B r w w')(e:g<B)(f:g≠r):Bk w' g t cs:=(d.block g e f).trans h
theorem Sl.list (w:World)(cs:List Value)(t:TypeId)(n k:Nat)(d:n=w.heap.size)(hk:k=cs.length)(h:k≤1000):Sl (w.alloc (.cells cs.toArray t)) (some ⟨n,0,none⟩) k k 1 cs:=by
 subst d hk;have:=Sl.new w cs.toArray t cs.length 1 (by simp) (by omega);simpa using this
theorem Rj (r M:Nat)(w:World)(F:Rd w r M)(hM:M≤50000000):
 Calls prog 64 #[.pointer (some ⟨r,0,none⟩)] w fun e w'=>(∃o l m:Int,e= .returned (.agg #[o,(l:Int),m])∧vk o l m)∧Rd w' r (M+5)∧zk w.heap.size r w w':=by
 have hr:=F.lt;have G:=Bk.new w #[.int .i64 0,.int .i64 0,.int .i64 0] 24;have H:=F.alloc (.cells #[.int .i64 0,.int .i64 0,.int .i64 0] 24);have I:=Sl.list (w.alloc (.cells #[.int .i64 0,.int .i64 0,.int .i64 0] 24)) [.int .i64 2,.int .i64 3,.int .i64 2,.int .i64 1,.int .i64 8,.int .i64 5] 3 (w.heap.size+1) 6 (by simp) rfl (by omega);have J:zk w.heap.size r w (w.alloc (.cells #[.int .i64 0,.int .i64 0,.int .i64 0] 24)):=y8 zy r;go_enter func64,ntmps64;go_wp2_with fail;refine(sZ r M [2,3,2,1,8,5] (some ⟨w.heap.size+1,0,none⟩) 6 _ (H.alloc _) (by omega) I (by simp) (by simp) (by rintro g a' ⟨⟩;omega)).mono ?_;rintro e w1 ⟨⟨l,K,rfl⟩,W,q⟩;have X:=q.size;try simp only[World.size_alloc,World.size_setCell,World.size_drew] at X
 have L:=(G.alloc _).zC q oA oo;have N:=(J.alloc oC _).trans (q.mono oA);clear q J G;have Y:1≤l∧l≤8:=by
  simp at K;omega
 obtain⟨b1,b2⟩:=Y;clear I H K;go_wp2_with fail;refine(pick_any r _ _ _ W oo oo oo).mono ?_;rintro e w2 ⟨⟨v,rfl,b4,Z⟩,R2,s⟩;have z2:=s.size;try simp only[World.size_alloc,World.size_setCell,World.size_drew] at z2
 have O:=L.zC s oA oo;have P:=N.trans (s.mono oA);clear s N L;have b5:v≤8 - l:=oo;clear Z;go_wp2_with fail;refine(pick_any r _ 2 _ R2 oo oo oo).mono ?_;rintro e w3 ⟨⟨u,rfl,b7,a2⟩,Q,t⟩;have z3:=t.size;try simp only[World.size_alloc,World.size_setCell,World.size_drew] at z3
 have z:=O.zC t oA oo;have A:=P.trans (t.mono oA);clear t P O;have b8:u≤1:=oo;clear a2;by_cases hu:u=0
 ·subst hu
  go_wp2_with fail;refine(pick_any r _ 2 _ Q oo oo oo).mono ?_;rintro e R ⟨⟨x,rfl,b9,a5⟩,i,d⟩;have C:=d.size;try simp only[World.size_alloc,World.size_setCell,World.size_drew] at C
  have h:=z.zC d oA oo;have j:=A.trans (d.mono oA);clear d A z;have b':x≤1:=oo;clear a5;by_cases c0:l+2+x≤10
  ·skip
   go_wp2_with fail;refine(pick_any r _ 2 _ i oo oo oo).mono ?_;rintro e D ⟨⟨y,rfl,S,k⟩,R5,f⟩;have E:=f.size;try simp only[World.size_alloc,World.size_setCell,World.size_drew] at E
   have n:=h.zC f oA oo;have g5:=j.trans (f.mono oA);clear f j h;have T:y≤1:=oo;have p:=n.cell;have U:=n.free;have V:w.heap.size≤D.heap.size:=oo;clear k;go_wp2;exact bodyPost_ret (v:=.agg #[(y:Int),(l:Int),.int .i64 (l+2+x)]) (by simp [results,results64,go_sem,p]) rfl ⟨⟨y,l,(l+2+x),rfl,by unfold vk;omega⟩,(by(repeat(first|(with_reducible assumption)|(with_reducible refine Rd.drew ?_)|(with_reducible refine Rd.drewN ?_ _)|(with_reducible refine Rd.alloc ?_ _)|((with_reducible refine Rd.far ?_ ?_ _);rotate_left;focus(first|omega|(simp<;>omega)))));done),(by(repeat(first|(with_reducible exact zk.refl _ _ _)|(with_reducible assumption)|(with_reducible refine zk.drew ?_)|(with_reducible refine zk.drewN ?_ _)|((with_reducible refine zk.alloc ?_ ?_ _);rotate_left;focus(first|omega|(simp<;>omega)))|((with_reducible refine zk.setCell ?_ ?_ _);rotate_left;focus(first|(left;rfl)|(right;first|omega|(simp<;>omega))))));done)⟩
  ·skip
   go_wp2_with fail;refine(pick_any r _ 2 _ i oo oo oo).mono ?_;rintro e D ⟨⟨y,rfl,S,k⟩,R5,f⟩;have E:=f.size;try simp only[World.size_alloc,World.size_setCell,World.size_drew] at E
   have n:=h.zC f oA oo;have g5:=j.trans (f.mono oA);clear f j h;have T:y≤1:=oo;have p:=n.cell;have U:=n.free;have V:w.heap.size≤D.heap.size:=oo;clear k;go_wp2;exact bodyPost_ret (v:=.agg #[(y:Int),(l:Int),.int .i64 10]) (by simp [results,results64,go_sem,p]) rfl ⟨⟨y,l,10,rfl,by unfold vk;omega⟩,(by(repeat(first|(with_reducible assumption)|(with_reducible refine Rd.drew ?_)|(with_reducible refine Rd.drewN ?_ _)|(with_reducible refine Rd.alloc ?_ _)|((with_reducible refine Rd.far ?_ ?_ _);rotate_left;focus(first|omega|(simp<;>omega)))));done),(by(repeat(first|(with_reducible exact zk.refl _ _ _)|(with_reducible assumption)|(with_reducible refine zk.drew ?_)|(with_reducible refine zk.drewN ?_ _)|((with_reducible refine zk.alloc ?_ ?_ _);rotate_left;focus(first|omega|(simp<;>omega)))|((with_reducible refine zk.setCell ?_ ?_ _);rotate_left;focus(first|(left;rfl)|(right;first|omega|(simp<;>omega))))));done)⟩
 ·skip
  go_wp2_with fail;refine(pick_any r _ 2 _ Q oo oo oo).mono ?_;rintro e R ⟨⟨y,rfl,S,k⟩,i,d⟩;have C:=d.size;try simp only[World.size_alloc,World.size_setCell,World.size_drew] at C
  have h:=z.zC d oA oo;have j:=A.trans (d.mono oA);clear d A z;have T:y≤1:=oo;have p:=h.cell;have U:=h.free;have V:w.heap.size≤R.heap.size:=oo;replace i:=i.mono (show M+1+1+1+1≤M+5 by omega);clear k;go_wp2;exact bodyPost_ret (v:=.agg #[(y:Int),(l:Int),.int .i64 (l+2+v)]) (by simp [results,results64,go_sem,p]) rfl ⟨⟨y,l,l+2+v,rfl,by unfold vk;omega⟩,(by(repeat(first|(with_reducible assumption)|(with_reducible refine Rd.drew ?_)|(with_reducible refine Rd.drewN ?_ _)|(with_reducible refine Rd.alloc ?_ _)|((with_reducible refine Rd.far ?_ ?_ _);rotate_left;focus(first|omega|(simp<;>omega)))));done),(by(repeat(first|(with_reducible exact zk.refl _ _ _)|(with_reducible assumption)|(with_reducible refine zk.drew ?_)|(with_reducible refine zk.drewN ?_ _)|((with_reducible refine zk.alloc ?_ ?_ _);rotate_left;focus(first|omega|(simp<;>omega)))|((with_reducible refine zk.setCell ?_ ?_ _);rotate_left;focus(first|(left;rfl)|(right;first|omega|(simp<;>omega))))));done)⟩
theorem vg {w:World}{B:Nat}{v:Value}{out:Bs}{x:Int}(h:w.ownsRow B 5 1 v (out.length+1) (out.map u8v++[.int .u8 x]))(h0:0≤x)(h1:x≤255):w.ownsRow B 5 1 v (out++[UInt8.ofNat x.toNat]).length ((out++[UInt8.ofNat x.toNat]).map u8v):=by
 have e:u8v (UInt8.ofNat x.toNat)= .int .u8 x:=by
  show Value.int .u8 _=_;rw[UInt8.toNat_ofNat'];congr 1;omega
 rw[List.map_append,List.length_append];simp only[List.map_cons,List.map_nil,e];exact h
theorem iU {B r:Nat}{w W d:World}{o:Obj}{row:Option Nat}(e:zk B r w W)(f:(W.alloc o).grownBy d row)(g:B≤W.heap.size)(h:∀k,row=some k→B≤k):zk B r w d:=
 (e.alloc g o).grown f (by simp;omega) h
theorem Rd.app {r M:Nat}{W d:World}{o:Obj}{row:Option Nat}(h:Rd W r M)(f:(W.alloc o).grownBy d row)(i:∀k,row=some k→r<k):Rd d r M:=by
 have D:=h.lt;obtain⟨A,n,cap,m,P,h1,h2,p,q,s,t,u⟩:=h.alloc o;refine⟨A,n,cap,m,P,(f.block r (by simp;omega) (fun e=>by have:=i r e.symm;omega)).trans h1,h2,p,q,s,t,fun v=> ?_⟩;obtain⟨g,l,x,y,z⟩:=u v;exact⟨g,l,x,y,fun j C=>(World.cell?_of_block (a:=⟨g,l+j,none⟩) (f.block g (by simp;omega) (fun e=>by have:=i g e.symm;omega))).trans (z j C)⟩
theorem Rd.grown {r M:Nat}{w d:World}{row:Option Nat}(h:Rd w r M)(f:w.grownBy d row)(i:∀k,row=some k→r<k):Rd d r M:=by
 have m:=h.lt;obtain⟨A,n,cap,o,P,h1,h2,p,q,s,t,u⟩:=h;refine⟨A,n,cap,o,P,(f.block r m (fun e=>by have:=i r e.symm;omega)).trans h1,h2,p,q,s,t,fun v=> ?_⟩;obtain⟨g,l,x,y,z⟩:=u v;exact⟨g,l,x,y,fun j C=>(World.cell?_of_block (a:=⟨g,l+j,none⟩) (f.block g oo (fun e=>by have:=i g e.symm;omega))).trans (z j C)⟩
theorem aU (r M f:Nat)(w:World)(t:Rd w r M)(hM:M≤50000000)(a3:f≤10000):
 Calls prog 39 #[.pointer (some ⟨r,0,none⟩),(f:Int)] w fun e w'=>(∃d:Bs,e= .returned (sv d)∧d.length≤f)∧Rd w' r (M+1+f)∧zk w.heap.size r w w':=by
 have hr:=t.lt;obtain⟨i,u,y,z,A⟩:=info_parts wQ;go_enter func39,ntmps39;go_wp2_with(at_make;go_must(refine wpList_make_own _ rfl _ _ 22 rfl w.heap.size 5 i (.int .u8 0) 1 underlying22 u y z _ _ _ f rfl rfl (by omega) (by rw[A];omega) (by unfold maxLen;omega) (by first|omega|(simp;done)) ?_);intro C D o);have p:zk w.heap.size r w C:=y8 ((Below.refl _ _).grown o (Nat.le_refl _) (by simp)) r;have K:Rd C r M:=t.grown o (by simp);have z1:=p.size;clear o;go_wp2_with fail;refine(pick_any r _ _ _ K oo oo oo).mono ?_;rintro e w2 ⟨⟨n0,rfl,E,L⟩,j,l⟩;have F:=l.size;try simp only[World.size_alloc,World.size_setCell,World.size_drew] at F
 have h:=yY D l oo;have g:=p.trans (l.mono oA);clear l p D;obtain⟨n,rfl⟩:=Int.eq_ofNat_of_zero_le E;have a8:n≤f:=oo;clear E L;go_wp2;go_loopw [5,6] (fun v a wr=>∃(k c:Nat) (out:Bs),a= .int .i64 (k:Int)∧c+k=n∧out.length=c∧wr.ownsRow w.heap.size 5 1 v out.length (out.map u8v)∧Rd wr r (M+1+c)∧zk w.heap.size r w wr) (fun _ a _=>(intOf a).toNat)
 case atStart=>exact⟨n,0,[],rfl,oo,rfl,h,j,g⟩
 case round=>
  obtain⟨k,c,out,rfl,a9,G,h,j,g⟩:=hrel;have N:Hid (out.length=c):=G;have O:out.length≤f:=oo;have F:=g.size;clear G;by_cases hk:0<k
  ·have P:(0:Int)<k:=oo
   go_wp2_with fail;refine(pick_any r _ 256 _ j oo oo oo).mono ?_;rintro e Q ⟨⟨x,rfl,R,S⟩,T,m⟩;have U:=m.size;try simp only[World.size_alloc,World.size_setCell,World.size_drew] at U
   have H:=yY h m oo;have V:=g.trans (m.mono oA);clear m g h;have W:x≤255:=oo;clear S;have X:out.length+1≤maxLen:=(by unfold maxLen;omega);have Y:(out.length+1)*1≤140737488355328:=oo;have I:=H.lt;go_wp2_with(at_builtin;go_must(refine wpList_append_own _ rfl _ _ 22 rfl (w.heap.size) 5 i _ 1 1 underlying22 u y z A rfl oo _ _ _ rfl (H.alloc _) ⟨Q.heap.size,0,none⟩ 1 1 [.int .u8 x] rfl rfl ?_ ?_ X Y ?_ ?_));try(case refine_1=>first|exact cell_one_new _ _ _|omega|(simp<;>omega;done)|(simp [Value.oneCell'];done))
   try(case refine_2=>first|exact cell_one_new _ _ _|omega|(simp<;>omega;done)|(simp [Value.oneCell'];done))
   try(case refine_3=>first|exact cell_one_new _ _ _|omega|(simp<;>omega;done)|(simp [Value.oneCell'];done))
   intro v4 w4 Z J _;have g4:=iU V J oo (fun q s=>(I q s).1);have R4:=T.app J (fun q s=>by have:=(I q s).1;omega);go_wp2;go_roundw
   case rel=>exact⟨k - 1,c+1,out++[UInt8.ofNat x.toNat],by go_num,by omega,by have:=N.out;simp;omega,vg Z R W,R4,g4⟩
   case measure=>simp [intOf];omega
  ·have b1:=yL h
   have P:¬(0:Int)<k:=oo;go_wp2;go_ret;exact⟨⟨out,rfl,O⟩,j.mono oo,g⟩
theorem MG {l:Int}(h0:0≤l)(h1:l≤8):1≤pow2 l∧pow2 l≤256:=by
 unfold pow2;have d:l=0∨l=1∨l=2∨l=3∨l=4∨l=5∨l=6∨l=7∨l=8:=oo;rcases d with e|e|e|e|e|e|e|e|e<;>rw[e]<;>decide
theorem Ug (r M a4:Nat)(D sl sm:Int)(w:World)(hR:Rd w r M)(hM:M≤50000000)(k7:a4≤10000)(d4:0≤sl∧sl≤8):
 Calls prog 66 #[.pointer (some ⟨r,0,none⟩),.agg #[(D:Int),sl,sm],(a4:Int)] w fun e w'=>(∃d:Bs,e= .returned (sv d)∧d.length≤a4)∧Rd w' r (M+4+3*a4)∧zk w.heap.size r w w':=by
 have hr:=hR.lt;obtain⟨i,G,H,I,J⟩:=info_parts wQ;have hp:=MG d4.1 d4.2;obtain⟨k9,k'⟩:=hp;have cC:=fun w=>yO D sl sm w d4.1 oo;clear d4;generalize pow2 sl=cl at*;have h0:=Bk.new w #[(D:Int),sl,sm] 24;have R0:=hR.alloc (.cells #[(D:Int),sl,sm] 24);have h2:zk w.heap.size r w (w.alloc (.cells #[(D:Int),sl,sm] 24)):=y8 zy r;go_enter func66,ntmps66;go_wp2_with(at_make;go_must(refine wpList_make_own _ rfl _ _ 22 rfl (w.heap.size+1) 5 i (.int .u8 0) 1 underlying22 G H I _ _ _ a4 rfl rfl (by omega) (by rw[J];omega) (by unfold maxLen;omega) (by first|omega|(simp;done)) ?_);intro w1 d9 c0;have d':Bk w1 w.heap.size 24 #[(D:Int),sl,sm]:=h0.grown c0 (by simp);have X1:=d'.cell;simp only[World.size_alloc] at d9);have R1:Rd w1 r M:=R0.grown c0 (by simp);have h4:zk w.heap.size r w w1:=h2.trans (y8 ((Below.refl w.heap.size _).grown c0 (by simp) (by simp)) r);have z1:=c0.size;simp only[World.size_alloc] at z1;clear c0 R0 h0 h2;refine(cC _).mono ?_;rintro e w2 ⟨rfl,b9⟩;have z2:=b9.size;have R2:=R1.keep b9;have h5:=d'.below b9 oo;have h6:=zf d9 b9;have h7:=h4.trans (y8 (b9.mono oo) r);clear b9 R1 d' d9 h4 X1;have s2:=Sl.list w2 [.int .i64 2,.int .i64 3,.int .i64 cl,.int .i64 1] 3 w2.heap.size 4 rfl rfl oo;go_wp2_with fail;refine(sZ r M [2,3,cl,1] (some ⟨w2.heap.size,0,none⟩) 4 _ (R2.alloc _) (by omega) s2 (by simp) (by simp) (by rintro g l1 ⟨⟩;omega)).mono ?_;rintro e w3 ⟨⟨pt,h9,rfl⟩,R3,c1⟩;have z3:=c1.size;try simp only[World.size_alloc,World.size_setCell,World.size_drew] at z3
 have e4:=(h5.alloc _).zC c1 oA oo;have i0:=yY (World.ownsRow.alloc h6 _) c1 oo;have i1:=(h7.alloc oC _).trans (c1.mono oA);clear c1 h7 h5 h6;have l3:1≤pt∧pt≤256:=by
  simp at h9;omega
 clear h9 s2;have X3:=e4.cell;go_wp2_with fail;refine(cC _).mono ?_;rintro e w4 ⟨rfl,b'⟩;have z4:=b'.size;have R4:=R3.keep b';have d5:=e4.below b' oo;have d6:=zf i0 b';have g4:=i1.trans (y8 (b'.mono oo) r);clear b' R3 e4 i0 i1 X3;by_cases l6:pt≤cl
 ·obtain⟨a5,e5,e6,i9⟩:∃a5:Int,pt=a5∧1≤a5∧a5≤256:=⟨_,rfl,oo,oo⟩
  subst e5;go_wp2_with fail;refine(pick_any r _ 7 _ R4 oo oo oo).mono ?_;rintro e w5 ⟨⟨pd,rfl,c2,e7⟩,R5,T⟩;have z5:=T.size;try simp only[World.size_alloc,World.size_setCell,World.size_drew] at z5
  have c3:=d5.zC T oA oo;have c4:=yY d6 T oo;have g5:=g4.trans (T.mono oA);clear T g4 d5 d6;obtain⟨l,rfl⟩:=Int.eq_ofNat_of_zero_le c2;have j1:l≤6:=oo;clear c2 e7;go_wp2_with fail;refine(pick_any r _ 4 _ R5 oo oo oo).mono ?_;rintro e w6 ⟨⟨U,rfl,j3,e'⟩,R6,V⟩;have z6:=V.size;try simp only[World.size_alloc,World.size_setCell,World.size_drew] at z6
  have c6:=c3.zC V oA oo;have c7:=yY c4 V oo;have g6:=g5.trans (V.mono oA);clear V g5 c3 c4;have j4:U≤3:=oo;clear e';go_wp2_with fail;refine(pick_any r _ _ _ R6 oo oo oo).mono ?_;rintro e w7 ⟨⟨n0,rfl,c9,f2⟩,R7,W⟩;have z7:=W.size;try simp only[World.size_alloc,World.size_setCell,World.size_drew] at z7
  have X:=c6.zC W oA oo;have S:=yY c7 W oo;have Y:=g6.trans (W.mono oA);clear W g6 c6 c7;obtain⟨n,rfl⟩:=Int.eq_ofNat_of_zero_le c9;have j6:n≤a4:=oo;clear c9 f2;go_wp2;go_loopw [7,11] (fun v a wr=>∃(m c:Nat) (out:Bs),a= .int .i64 (m:Int)∧c+m=n∧Hid (out.length=c)∧wr.ownsRow (w.heap.size+1) 5 1 v out.length (out.map u8v)∧Rd wr r (M+4+3*c)∧zk w.heap.size r w wr∧Bk wr w.heap.size 24 #[(D:Int),sl,sm]) (fun _ a _=>(intOf a).toNat)
  case atStart=>exact⟨n,0,[],rfl,oo,rfl,S,R7.mono oo,Y,X⟩
  case round=>
   obtain⟨m,c,out,rfl,j7,F,S,R7,Y,X⟩:=hrel;obtain⟨A7,j9,rfl,_⟩:=Sl.sG S;have f3:out.length=c:=F.out;have f4:out.length≤a4:=oo;have z7:w.heap.size+1≤wr.heap.size:=X.lt;clear f3;by_cases hk:0<m
   ·have f5:(0:Int)<m:=oo
    obtain⟨w7,f6⟩:∃w7,wr=w7:=⟨_,rfl⟩;subst f6;go_wp2_with fail;refine(pick_any r _ 256 _ R7 oo oo oo).mono ?_;rintro e w8 ⟨⟨x,rfl,f7,f8⟩,Z,b8⟩;have z8:=b8.size;try simp only[World.size_alloc,World.size_setCell,World.size_drew] at z8
    have K:=X.zC b8 oA oo;have E:=yY S b8 oo;have L:=Y.trans (b8.mono oA);clear b8 Y X S;have d0:=ZC x pt f7 e6;have d1:x % pt≤255:=oo;have d2:=d0.1;clear f8 d0;have j':pt≠0:=oo;obtain⟨y,hy,a1,a2⟩:∃y:Int,x % pt=y∧0≤y∧y≤255:=⟨_,rfl,d2,d1⟩;clear d1 d2;by_cases a':U=0
    ·subst a'
     by_cases k1:0<out.length
     ·have f':(0:Int)<out.length:=oo
      go_wp2_with fail;refine(pick_any r _ 4 _ Z oo oo oo).mono ?_;rintro e o ⟨⟨q,rfl,g0,a3⟩,t,u⟩;have z9:=u.size;try simp only[World.size_alloc,World.size_setCell,World.size_drew] at z9
      have z:=K.zC u oA oo;have j:=yY E u oo;have A:=L.trans (u.mono oA);clear u L K E;clear a3;by_cases f:0<q
      ·skip
       obtain⟨gq,g1,hv,a3,g2⟩:=j.form oo;injection hv with e1 e2 e3
       subst e1;subst e3;have b3:out.length - 1<out.length:=oo;have g3:o.cell? ⟨gq,out.length - 1,none⟩=some (.int .u8 (out[out.length - 1].toNat:Int)):=(j.cellAt (out.length - 1) (by omega)).trans (by simp [b3]);have b4:0≤(out[out.length - 1].toNat:Int):=oo;have b5:(out[out.length - 1].toNat:Int)≤255:=(by have:=out[out.length - 1].toNat_lt;omega);generalize(out[out.length - 1].toNat:Int)=b at*;have g7:(out.length:Int) - 1=((out.length - 1:Nat):Int):=oo;have p:out.length+1≤maxLen:=(by unfold maxLen;omega);have s:(out.length+1)*1≤140737488355328:=oo;have h:=j.lt;go_wp2_with(at_builtin;go_must(refine wpList_append_own _ rfl _ _ 22 rfl (w.heap.size+1) 5 i _ 1 1 underlying22 G H I J rfl oo _ _ _ rfl (j.alloc _) ⟨o.heap.size,0,none⟩ 1 1 [.int .u8 b] rfl rfl ?_ ?_ p s ?_ ?_));try(case refine_1=>first|exact cell_one_new _ _ _|omega|(simp<;>omega;done)|(simp [Value.oneCell'];done))
       try(case refine_2=>first|exact cell_one_new _ _ _|omega|(simp<;>omega;done)|(simp [Value.oneCell'];done))
       try(case refine_3=>first|exact cell_one_new _ _ _|omega|(simp<;>omega;done)|(simp [Value.oneCell'];done))
       intro b6 N O k _;have P:=iU A k oo (fun q f=>by have:=(h q f).1;omega);have Q:=(t.app k (fun q f=>by have:=(h q f).1;omega)).mono (show _≤M+4+3*(c+1) by omega);have R:Bk N w.heap.size 24 #[(D:Int),sl,sm]:=(z.alloc _).grown k (fun q f=>by have:=(h q f).1;omega);go_wp2;go_roundw
       case rel=>exact⟨m - 1,c+1,out++[UInt8.ofNat (b).toNat],by go_num,by omega,by show _=_;have:=F.out;simp;omega,vg O b4 b5,Q,P,R⟩
       case measure=>simp [intOf];omega
      ·skip
       have p:out.length+1≤maxLen:=(by unfold maxLen;omega);have s:(out.length+1)*1≤140737488355328:=oo;have h:=j.lt;go_wp2_with(at_builtin;go_must(refine wpList_append_own _ rfl _ _ 22 rfl (w.heap.size+1) 5 i _ 1 1 underlying22 G H I J rfl oo _ _ _ rfl (j.alloc _) ⟨o.heap.size,0,none⟩ 1 1 [.int .u8 y] rfl rfl ?_ ?_ p s ?_ ?_));try(case refine_1=>first|exact cell_one_new _ _ _|omega|(simp<;>omega;done)|(simp [Value.oneCell'];done))
       try(case refine_2=>first|exact cell_one_new _ _ _|omega|(simp<;>omega;done)|(simp [Value.oneCell'];done))
       try(case refine_3=>first|exact cell_one_new _ _ _|omega|(simp<;>omega;done)|(simp [Value.oneCell'];done))
       intro b6 N O k _;have P:=iU A k oo (fun q f=>by have:=(h q f).1;omega);have Q:=(t.app k (fun q f=>by have:=(h q f).1;omega)).mono (show _≤M+4+3*(c+1) by omega);have R:Bk N w.heap.size 24 #[(D:Int),sl,sm]:=(z.alloc _).grown k (fun q f=>by have:=(h q f).1;omega);go_wp2;go_roundw
       case rel=>exact⟨m - 1,c+1,out++[UInt8.ofNat (y).toNat],by go_num,by omega,by show _=_;have:=F.out;simp;omega,vg O a1 a2,Q,P,R⟩
       case measure=>simp [intOf];omega
     ·have f':¬(0:Int)<out.length:=oo
      have p:out.length+1≤maxLen:=(by unfold maxLen;omega);have s:(out.length+1)*1≤140737488355328:=oo;have h:=E.lt;go_wp2_with(at_builtin;go_must(refine wpList_append_own _ rfl _ _ 22 rfl (w.heap.size+1) 5 i _ 1 1 underlying22 G H I J rfl oo _ _ _ rfl (E.alloc _) ⟨w8.heap.size,0,none⟩ 1 1 [.int .u8 y] rfl rfl ?_ ?_ p s ?_ ?_));try(case refine_1=>first|exact cell_one_new _ _ _|omega|(simp<;>omega;done)|(simp [Value.oneCell'];done))
      try(case refine_2=>first|exact cell_one_new _ _ _|omega|(simp<;>omega;done)|(simp [Value.oneCell'];done))
      try(case refine_3=>first|exact cell_one_new _ _ _|omega|(simp<;>omega;done)|(simp [Value.oneCell'];done))
      intro v9 o j C _;have A:=iU L C oo (fun q f=>by have:=(h q f).1;omega);have t:=(Z.app C (fun q f=>by have:=(h q f).1;omega)).mono (show _≤M+4+3*(c+1) by omega);have z:Bk o w.heap.size 24 #[(D:Int),sl,sm]:=(K.alloc _).grown C (fun q f=>by have:=(h q f).1;omega);go_wp2;go_roundw
      case rel=>exact⟨m - 1,c+1,out++[UInt8.ofNat (y).toNat],by go_num,by omega,by show _=_;have:=F.out;simp;omega,vg j a1 a2,t,A,z⟩
      case measure=>simp [intOf];omega
    by_cases b7:U=1
    ·subst b7
     by_cases k2:1+l≤out.length
     ·have g8:(1:Int)+l≤out.length:=oo
      go_wp2_with fail;refine(pick_any r _ 10 _ Z oo oo oo).mono ?_;rintro e o ⟨⟨q,rfl,g0,a3⟩,t,u⟩;have z9:=u.size;try simp only[World.size_alloc,World.size_setCell,World.size_drew] at z9
      have z:=K.zC u oA oo;have j:=yY E u oo;have A:=L.trans (u.mono oA);clear u L K E;clear a3;by_cases f:0<q
      ·skip
       obtain⟨gq,g1,hv,a3,g2⟩:=j.form oo;injection hv with e1 e2 e3
       subst e1;subst e3;have b3:out.length - (1+l)<out.length:=oo;have g3:o.cell? ⟨gq,out.length - (1+l),none⟩=some (.int .u8 (out[out.length - (1+l)].toNat:Int)):=(j.cellAt (out.length - (1+l)) (by omega)).trans (by simp [b3]);have b4:0≤(out[out.length - (1+l)].toNat:Int):=oo;have b5:(out[out.length - (1+l)].toNat:Int)≤255:=(by have:=out[out.length - (1+l)].toNat_lt;omega);generalize(out[out.length - (1+l)].toNat:Int)=b at*;have g7:(out.length:Int) - (1+(l:Int))=((out.length - (1+l):Nat):Int):=oo;have p:out.length+1≤maxLen:=(by unfold maxLen;omega);have s:(out.length+1)*1≤140737488355328:=oo;have h:=j.lt;go_wp2_with(at_builtin;go_must(refine wpList_append_own _ rfl _ _ 22 rfl (w.heap.size+1) 5 i _ 1 1 underlying22 G H I J rfl oo _ _ _ rfl (j.alloc _) ⟨o.heap.size,0,none⟩ 1 1 [.int .u8 b] rfl rfl ?_ ?_ p s ?_ ?_));try(case refine_1=>first|exact cell_one_new _ _ _|omega|(simp<;>omega;done)|(simp [Value.oneCell'];done))
       try(case refine_2=>first|exact cell_one_new _ _ _|omega|(simp<;>omega;done)|(simp [Value.oneCell'];done))
       try(case refine_3=>first|exact cell_one_new _ _ _|omega|(simp<;>omega;done)|(simp [Value.oneCell'];done))
       intro b6 N O k _;have P:=iU A k oo (fun q f=>by have:=(h q f).1;omega);have Q:=(t.app k (fun q f=>by have:=(h q f).1;omega)).mono (show _≤M+4+3*(c+1) by omega);have R:Bk N w.heap.size 24 #[(D:Int),sl,sm]:=(z.alloc _).grown k (fun q f=>by have:=(h q f).1;omega);go_wp2;go_roundw
       case rel=>exact⟨m - 1,c+1,out++[UInt8.ofNat (b).toNat],by go_num,by omega,by show _=_;have:=F.out;simp;omega,vg O b4 b5,Q,P,R⟩
       case measure=>simp [intOf];omega
      ·skip
       have p:out.length+1≤maxLen:=(by unfold maxLen;omega);have s:(out.length+1)*1≤140737488355328:=oo;have h:=j.lt;go_wp2_with(at_builtin;go_must(refine wpList_append_own _ rfl _ _ 22 rfl (w.heap.size+1) 5 i _ 1 1 underlying22 G H I J rfl oo _ _ _ rfl (j.alloc _) ⟨o.heap.size,0,none⟩ 1 1 [.int .u8 y] rfl rfl ?_ ?_ p s ?_ ?_));try(case refine_1=>first|exact cell_one_new _ _ _|omega|(simp<;>omega;done)|(simp [Value.oneCell'];done))
       try(case refine_2=>first|exact cell_one_new _ _ _|omega|(simp<;>omega;done)|(simp [Value.oneCell'];done))
       try(case refine_3=>first|exact cell_one_new _ _ _|omega|(simp<;>omega;done)|(simp [Value.oneCell'];done))
       intro b6 N O k _;have P:=iU A k oo (fun q f=>by have:=(h q f).1;omega);have Q:=(t.app k (fun q f=>by have:=(h q f).1;omega)).mono (show _≤M+4+3*(c+1) by omega);have R:Bk N w.heap.size 24 #[(D:Int),sl,sm]:=(z.alloc _).grown k (fun q f=>by have:=(h q f).1;omega);go_wp2;go_roundw
       case rel=>exact⟨m - 1,c+1,out++[UInt8.ofNat (y).toNat],by go_num,by omega,by show _=_;have:=F.out;simp;omega,vg O a1 a2,Q,P,R⟩
       case measure=>simp [intOf];omega
     ·have g8:¬(1:Int)+l≤out.length:=oo
      have p:out.length+1≤maxLen:=(by unfold maxLen;omega);have s:(out.length+1)*1≤140737488355328:=oo;have h:=E.lt;go_wp2_with(at_builtin;go_must(refine wpList_append_own _ rfl _ _ 22 rfl (w.heap.size+1) 5 i _ 1 1 underlying22 G H I J rfl oo _ _ _ rfl (E.alloc _) ⟨w8.heap.size,0,none⟩ 1 1 [.int .u8 y] rfl rfl ?_ ?_ p s ?_ ?_));try(case refine_1=>first|exact cell_one_new _ _ _|omega|(simp<;>omega;done)|(simp [Value.oneCell'];done))
      try(case refine_2=>first|exact cell_one_new _ _ _|omega|(simp<;>omega;done)|(simp [Value.oneCell'];done))
      try(case refine_3=>first|exact cell_one_new _ _ _|omega|(simp<;>omega;done)|(simp [Value.oneCell'];done))
      intro v9 o j C _;have A:=iU L C oo (fun q f=>by have:=(h q f).1;omega);have t:=(Z.app C (fun q f=>by have:=(h q f).1;omega)).mono (show _≤M+4+3*(c+1) by omega);have z:Bk o w.heap.size 24 #[(D:Int),sl,sm]:=(K.alloc _).grown C (fun q f=>by have:=(h q f).1;omega);go_wp2;go_roundw
      case rel=>exact⟨m - 1,c+1,out++[UInt8.ofNat (y).toNat],by go_num,by omega,by show _=_;have:=F.out;simp;omega,vg j a1 a2,t,A,z⟩
      case measure=>simp [intOf];omega
    have k3:(U==0)=false:=(by rw[beq_eq_false_iff_ne];exact a');have k4:(U==1)=false:=(by rw[beq_eq_false_iff_ne];exact b7);clear a' b7;have p:out.length+1≤maxLen:=(by unfold maxLen;omega);have s:(out.length+1)*1≤140737488355328:=oo;have h:=E.lt;go_wp2_with(at_builtin;go_must(refine wpList_append_own _ rfl _ _ 22 rfl (w.heap.size+1) 5 i _ 1 1 underlying22 G H I J rfl oo _ _ _ rfl (E.alloc _) ⟨w8.heap.size,0,none⟩ 1 1 [.int .u8 y] rfl rfl ?_ ?_ p s ?_ ?_));try(case refine_1=>first|exact cell_one_new _ _ _|omega|(simp<;>omega;done)|(simp [Value.oneCell'];done))
    try(case refine_2=>first|exact cell_one_new _ _ _|omega|(simp<;>omega;done)|(simp [Value.oneCell'];done))
    try(case refine_3=>first|exact cell_one_new _ _ _|omega|(simp<;>omega;done)|(simp [Value.oneCell'];done))
    intro v9 o j C _;have A:=iU L C oo (fun q f=>by have:=(h q f).1;omega);have t:=(Z.app C (fun q f=>by have:=(h q f).1;omega)).mono (show _≤M+4+3*(c+1) by omega);have z:Bk o w.heap.size 24 #[(D:Int),sl,sm]:=(K.alloc _).grown C (fun q f=>by have:=(h q f).1;omega);go_wp2;go_roundw
    case rel=>exact⟨m - 1,c+1,out++[UInt8.ofNat (y).toNat],by go_num,by omega,by show _=_;have:=F.out;simp;omega,vg j a1 a2,t,A,z⟩
    case measure=>simp [intOf];omega
   ·have k5:=yL S
    have f5:¬(0:Int)<m:=oo;go_wp2;go_ret;exact⟨⟨out,rfl,f4⟩,R7.mono oo,Y⟩
 ·obtain⟨a5,e5,e6,i9⟩:∃a5:Int,cl=a5∧1≤a5∧a5≤256:=⟨_,rfl,oo,oo⟩
  subst e5;go_wp2_with fail;refine(pick_any r _ 7 _ R4 oo oo oo).mono ?_;rintro e w5 ⟨⟨pd,rfl,c2,e7⟩,R5,T⟩;have z5:=T.size;try simp only[World.size_alloc,World.size_setCell,World.size_drew] at z5
  have c3:=d5.zC T oA oo;have c4:=yY d6 T oo;have g5:=g4.trans (T.mono oA);clear T g4 d5 d6;obtain⟨l,rfl⟩:=Int.eq_ofNat_of_zero_le c2;have j1:l≤6:=oo;clear c2 e7;go_wp2_with fail;refine(pick_any r _ 4 _ R5 oo oo oo).mono ?_;rintro e w6 ⟨⟨U,rfl,j3,e'⟩,R6,V⟩;have z6:=V.size;try simp only[World.size_alloc,World.size_setCell,World.size_drew] at z6
  have c6:=c3.zC V oA oo;have c7:=yY c4 V oo;have g6:=g5.trans (V.mono oA);clear V g5 c3 c4;have j4:U≤3:=oo;clear e';go_wp2_with fail;refine(pick_any r _ _ _ R6 oo oo oo).mono ?_;rintro e w7 ⟨⟨n0,rfl,c9,f2⟩,R7,W⟩;have z7:=W.size;try simp only[World.size_alloc,World.size_setCell,World.size_drew] at z7
  have X:=c6.zC W oA oo;have S:=yY c7 W oo;have Y:=g6.trans (W.mono oA);clear W g6 c6 c7;obtain⟨n,rfl⟩:=Int.eq_ofNat_of_zero_le c9;have j6:n≤a4:=oo;clear c9 f2;go_wp2;go_loopw [7,11] (fun v a wr=>∃(m c:Nat) (out:Bs),a= .int .i64 (m:Int)∧c+m=n∧Hid (out.length=c)∧wr.ownsRow (w.heap.size+1) 5 1 v out.length (out.map u8v)∧Rd wr r (M+4+3*c)∧zk w.heap.size r w wr∧Bk wr w.heap.size 24 #[(D:Int),sl,sm]) (fun _ a _=>(intOf a).toNat)
  case atStart=>exact⟨n,0,[],rfl,oo,rfl,S,R7.mono oo,Y,X⟩
  case round=>
   obtain⟨m,c,out,rfl,j7,F,S,R7,Y,X⟩:=hrel;obtain⟨A7,j9,rfl,_⟩:=Sl.sG S;have f3:out.length=c:=F.out;have f4:out.length≤a4:=oo;have z7:w.heap.size+1≤wr.heap.size:=X.lt;clear f3;by_cases hk:0<m
   ·have f5:(0:Int)<m:=oo
    obtain⟨w7,f6⟩:∃w7,wr=w7:=⟨_,rfl⟩;subst f6;go_wp2_with fail;refine(pick_any r _ 256 _ R7 oo oo oo).mono ?_;rintro e w8 ⟨⟨x,rfl,f7,f8⟩,Z,b8⟩;have z8:=b8.size;try simp only[World.size_alloc,World.size_setCell,World.size_drew] at z8
    have K:=X.zC b8 oA oo;have E:=yY S b8 oo;have L:=Y.trans (b8.mono oA);clear b8 Y X S;have d0:=ZC x cl f7 e6;have d1:x % cl≤255:=oo;have d2:=d0.1;clear f8 d0;have j':cl≠0:=oo;obtain⟨y,hy,a1,a2⟩:∃y:Int,x % cl=y∧0≤y∧y≤255:=⟨_,rfl,d2,d1⟩;clear d1 d2;by_cases a':U=0
    ·subst a'
     by_cases k1:0<out.length
     ·have f':(0:Int)<out.length:=oo
      go_wp2_with fail;refine(pick_any r _ 4 _ Z oo oo oo).mono ?_;rintro e o ⟨⟨q,rfl,g0,a3⟩,t,u⟩;have z9:=u.size;try simp only[World.size_alloc,World.size_setCell,World.size_drew] at z9
      have z:=K.zC u oA oo;have j:=yY E u oo;have A:=L.trans (u.mono oA);clear u L K E;clear a3;by_cases f:0<q
      ·skip
       obtain⟨gq,g1,hv,a3,g2⟩:=j.form oo;injection hv with e1 e2 e3
       subst e1;subst e3;have b3:out.length - 1<out.length:=oo;have g3:o.cell? ⟨gq,out.length - 1,none⟩=some (.int .u8 (out[out.length - 1].toNat:Int)):=(j.cellAt (out.length - 1) (by omega)).trans (by simp [b3]);have b4:0≤(out[out.length - 1].toNat:Int):=oo;have b5:(out[out.length - 1].toNat:Int)≤255:=(by have:=out[out.length - 1].toNat_lt;omega);generalize(out[out.length - 1].toNat:Int)=b at*;have g7:(out.length:Int) - 1=((out.length - 1:Nat):Int):=oo;have p:out.length+1≤maxLen:=(by unfold maxLen;omega);have s:(out.length+1)*1≤140737488355328:=oo;have h:=j.lt;go_wp2_with(at_builtin;go_must(refine wpList_append_own _ rfl _ _ 22 rfl (w.heap.size+1) 5 i _ 1 1 underlying22 G H I J rfl oo _ _ _ rfl (j.alloc _) ⟨o.heap.size,0,none⟩ 1 1 [.int .u8 b] rfl rfl ?_ ?_ p s ?_ ?_));try(case refine_1=>first|exact cell_one_new _ _ _|omega|(simp<;>omega;done)|(simp [Value.oneCell'];done))
       try(case refine_2=>first|exact cell_one_new _ _ _|omega|(simp<;>omega;done)|(simp [Value.oneCell'];done))
       try(case refine_3=>first|exact cell_one_new _ _ _|omega|(simp<;>omega;done)|(simp [Value.oneCell'];done))
       intro b6 N O k _;have P:=iU A k oo (fun q f=>by have:=(h q f).1;omega);have Q:=(t.app k (fun q f=>by have:=(h q f).1;omega)).mono (show _≤M+4+3*(c+1) by omega);have R:Bk N w.heap.size 24 #[(D:Int),sl,sm]:=(z.alloc _).grown k (fun q f=>by have:=(h q f).1;omega);go_wp2;go_roundw
       case rel=>exact⟨m - 1,c+1,out++[UInt8.ofNat (b).toNat],by go_num,by omega,by show _=_;have:=F.out;simp;omega,vg O b4 b5,Q,P,R⟩
       case measure=>simp [intOf];omega
      ·skip
       have p:out.length+1≤maxLen:=(by unfold maxLen;omega);have s:(out.length+1)*1≤140737488355328:=oo;have h:=j.lt;go_wp2_with(at_builtin;go_must(refine wpList_append_own _ rfl _ _ 22 rfl (w.heap.size+1) 5 i _ 1 1 underlying22 G H I J rfl oo _ _ _ rfl (j.alloc _) ⟨o.heap.size,0,none⟩ 1 1 [.int .u8 y] rfl rfl ?_ ?_ p s ?_ ?_));try(case refine_1=>first|exact cell_one_new _ _ _|omega|(simp<;>omega;done)|(simp [Value.oneCell'];done))
       try(case refine_2=>first|exact cell_one_new _ _ _|omega|(simp<;>omega;done)|(simp [Value.oneCell'];done))
       try(case refine_3=>first|exact cell_one_new _ _ _|omega|(simp<;>omega;done)|(simp [Value.oneCell'];done))
       intro b6 N O k _;have P:=iU A k oo (fun q f=>by have:=(h q f).1;omega);have Q:=(t.app k (fun q f=>by have:=(h q f).1;omega)).mono (show _≤M+4+3*(c+1) by omega);have R:Bk N w.heap.size 24 #[(D:Int),sl,sm]:=(z.alloc _).grown k (fun q f=>by have:=(h q f).1;omega);go_wp2;go_roundw
       case rel=>exact⟨m - 1,c+1,out++[UInt8.ofNat (y).toNat],by go_num,by omega,by show _=_;have:=F.out;simp;omega,vg O a1 a2,Q,P,R⟩
       case measure=>simp [intOf];omega
     ·have f':¬(0:Int)<out.length:=oo
      have p:out.length+1≤maxLen:=(by unfold maxLen;omega);have s:(out.length+1)*1≤140737488355328:=oo;have h:=E.lt;go_wp2_with(at_builtin;go_must(refine wpList_append_own _ rfl _ _ 22 rfl (w.heap.size+1) 5 i _ 1 1 underlying22 G H I J rfl oo _ _ _ rfl (E.alloc _) ⟨w8.heap.size,0,none⟩ 1 1 [.int .u8 y] rfl rfl ?_ ?_ p s ?_ ?_));try(case refine_1=>first|exact cell_one_new _ _ _|omega|(simp<;>omega;done)|(simp [Value.oneCell'];done))
      try(case refine_2=>first|exact cell_one_new _ _ _|omega|(simp<;>omega;done)|(simp [Value.oneCell'];done))
      try(case refine_3=>first|exact cell_one_new _ _ _|omega|(simp<;>omega;done)|(simp [Value.oneCell'];done))
      intro v9 o j C _;have A:=iU L C oo (fun q f=>by have:=(h q f).1;omega);have t:=(Z.app C (fun q f=>by have:=(h q f).1;omega)).mono (show _≤M+4+3*(c+1) by omega);have z:Bk o w.heap.size 24 #[(D:Int),sl,sm]:=(K.alloc _).grown C (fun q f=>by have:=(h q f).1;omega);go_wp2;go_roundw
      case rel=>exact⟨m - 1,c+1,out++[UInt8.ofNat (y).toNat],by go_num,by omega,by show _=_;have:=F.out;simp;omega,vg j a1 a2,t,A,z⟩
      case measure=>simp [intOf];omega
    by_cases b7:U=1
    ·subst b7
     by_cases k2:1+l≤out.length
     ·have g8:(1:Int)+l≤out.length:=oo
      go_wp2_with fail;refine(pick_any r _ 10 _ Z oo oo oo).mono ?_;rintro e o ⟨⟨q,rfl,g0,a3⟩,t,u⟩;have z9:=u.size;try simp only[World.size_alloc,World.size_setCell,World.size_drew] at z9
      have z:=K.zC u oA oo;have j:=yY E u oo;have A:=L.trans (u.mono oA);clear u L K E;clear a3;by_cases f:0<q
      ·skip
       obtain⟨gq,g1,hv,a3,g2⟩:=j.form oo;injection hv with e1 e2 e3
       subst e1;subst e3;have b3:out.length - (1+l)<out.length:=oo;have g3:o.cell? ⟨gq,out.length - (1+l),none⟩=some (.int .u8 (out[out.length - (1+l)].toNat:Int)):=(j.cellAt (out.length - (1+l)) (by omega)).trans (by simp [b3]);have b4:0≤(out[out.length - (1+l)].toNat:Int):=oo;have b5:(out[out.length - (1+l)].toNat:Int)≤255:=(by have:=out[out.length - (1+l)].toNat_lt;omega);generalize(out[out.length - (1+l)].toNat:Int)=b at*;have g7:(out.length:Int) - (1+(l:Int))=((out.length - (1+l):Nat):Int):=oo;have p:out.length+1≤maxLen:=(by unfold maxLen;omega);have s:(out.length+1)*1≤140737488355328:=oo;have h:=j.lt;go_wp2_with(at_builtin;go_must(refine wpList_append_own _ rfl _ _ 22 rfl (w.heap.size+1) 5 i _ 1 1 underlying22 G H I J rfl oo _ _ _ rfl (j.alloc _) ⟨o.heap.size,0,none⟩ 1 1 [.int .u8 b] rfl rfl ?_ ?_ p s ?_ ?_));try(case refine_1=>first|exact cell_one_new _ _ _|omega|(simp<;>omega;done)|(simp [Value.oneCell'];done))
       try(case refine_2=>first|exact cell_one_new _ _ _|omega|(simp<;>omega;done)|(simp [Value.oneCell'];done))
       try(case refine_3=>first|exact cell_one_new _ _ _|omega|(simp<;>omega;done)|(simp [Value.oneCell'];done))
       intro b6 N O k _;have P:=iU A k oo (fun q f=>by have:=(h q f).1;omega);have Q:=(t.app k (fun q f=>by have:=(h q f).1;omega)).mono (show _≤M+4+3*(c+1) by omega);have R:Bk N w.heap.size 24 #[(D:Int),sl,sm]:=(z.alloc _).grown k (fun q f=>by have:=(h q f).1;omega);go_wp2;go_roundw
       case rel=>exact⟨m - 1,c+1,out++[UInt8.ofNat (b).toNat],by go_num,by omega,by show _=_;have:=F.out;simp;omega,vg O b4 b5,Q,P,R⟩
       case measure=>simp [intOf];omega
      ·skip
       have p:out.length+1≤maxLen:=(by unfold maxLen;omega);have s:(out.length+1)*1≤140737488355328:=oo;have h:=j.lt;go_wp2_with(at_builtin;go_must(refine wpList_append_own _ rfl _ _ 22 rfl (w.heap.size+1) 5 i _ 1 1 underlying22 G H I J rfl oo _ _ _ rfl (j.alloc _) ⟨o.heap.size,0,none⟩ 1 1 [.int .u8 y] rfl rfl ?_ ?_ p s ?_ ?_));try(case refine_1=>first|exact cell_one_new _ _ _|omega|(simp<;>omega;done)|(simp [Value.oneCell'];done))
       try(case refine_2=>first|exact cell_one_new _ _ _|omega|(simp<;>omega;done)|(simp [Value.oneCell'];done))
       try(case refine_3=>first|exact cell_one_new _ _ _|omega|(simp<;>omega;done)|(simp [Value.oneCell'];done))
       intro b6 N O k _;have P:=iU A k oo (fun q f=>by have:=(h q f).1;omega);have Q:=(t.app k (fun q f=>by have:=(h q f).1;omega)).mono (show _≤M+4+3*(c+1) by omega);have R:Bk N w.heap.size 24 #[(D:Int),sl,sm]:=(z.alloc _).grown k (fun q f=>by have:=(h q f).1;omega);go_wp2;go_roundw
       case rel=>exact⟨m - 1,c+1,out++[UInt8.ofNat (y).toNat],by go_num,by omega,by show _=_;have:=F.out;simp;omega,vg O a1 a2,Q,P,R⟩
       case measure=>simp [intOf];omega
     ·have g8:¬(1:Int)+l≤out.length:=oo
      have p:out.length+1≤maxLen:=(by unfold maxLen;omega);have s:(out.length+1)*1≤140737488355328:=oo;have h:=E.lt;go_wp2_with(at_builtin;go_must(refine wpList_append_own _ rfl _ _ 22 rfl (w.heap.size+1) 5 i _ 1 1 underlying22 G H I J rfl oo _ _ _ rfl (E.alloc _) ⟨w8.heap.size,0,none⟩ 1 1 [.int .u8 y] rfl rfl ?_ ?_ p s ?_ ?_));try(case refine_1=>first|exact cell_one_new _ _ _|omega|(simp<;>omega;done)|(simp [Value.oneCell'];done))
      try(case refine_2=>first|exact cell_one_new _ _ _|omega|(simp<;>omega;done)|(simp [Value.oneCell'];done))
      try(case refine_3=>first|exact cell_one_new _ _ _|omega|(simp<;>omega;done)|(simp [Value.oneCell'];done))
      intro v9 o j C _;have A:=iU L C oo (fun q f=>by have:=(h q f).1;omega);have t:=(Z.app C (fun q f=>by have:=(h q f).1;omega)).mono (show _≤M+4+3*(c+1) by omega);have z:Bk o w.heap.size 24 #[(D:Int),sl,sm]:=(K.alloc _).grown C (fun q f=>by have:=(h q f).1;omega);go_wp2;go_roundw
      case rel=>exact⟨m - 1,c+1,out++[UInt8.ofNat (y).toNat],by go_num,by omega,by show _=_;have:=F.out;simp;omega,vg j a1 a2,t,A,z⟩
      case measure=>simp [intOf];omega
    have k3:(U==0)=false:=(by rw[beq_eq_false_iff_ne];exact a');have k4:(U==1)=false:=(by rw[beq_eq_false_iff_ne];exact b7);clear a' b7;have p:out.length+1≤maxLen:=(by unfold maxLen;omega);have s:(out.length+1)*1≤140737488355328:=oo;have h:=E.lt;go_wp2_with(at_builtin;go_must(refine wpList_append_own _ rfl _ _ 22 rfl (w.heap.size+1) 5 i _ 1 1 underlying22 G H I J rfl oo _ _ _ rfl (E.alloc _) ⟨w8.heap.size,0,none⟩ 1 1 [.int .u8 y] rfl rfl ?_ ?_ p s ?_ ?_));try(case refine_1=>first|exact cell_one_new _ _ _|omega|(simp<;>omega;done)|(simp [Value.oneCell'];done))
    try(case refine_2=>first|exact cell_one_new _ _ _|omega|(simp<;>omega;done)|(simp [Value.oneCell'];done))
    try(case refine_3=>first|exact cell_one_new _ _ _|omega|(simp<;>omega;done)|(simp [Value.oneCell'];done))
    intro v9 o j C _;have A:=iU L C oo (fun q f=>by have:=(h q f).1;omega);have t:=(Z.app C (fun q f=>by have:=(h q f).1;omega)).mono (show _≤M+4+3*(c+1) by omega);have z:Bk o w.heap.size 24 #[(D:Int),sl,sm]:=(K.alloc _).grown C (fun q f=>by have:=(h q f).1;omega);go_wp2;go_roundw
    case rel=>exact⟨m - 1,c+1,out++[UInt8.ofNat (y).toNat],by go_num,by omega,by show _=_;have:=F.out;simp;omega,vg j a1 a2,t,A,z⟩
    case measure=>simp [intOf];omega
   ·have k5:=yL S
    have f5:¬(0:Int)<m:=oo;go_wp2;go_ret;exact⟨⟨out,rfl,f4⟩,R7.mono oo,Y⟩
theorem iM (r M f:Nat)(g sl sm:Int)(w:World)(i:Rd w r M)(j:M≤50000000)(k:f≤10000)(h:vk g sl sm):
 Calls prog 66 #[.pointer (some ⟨r,0,none⟩),.agg #[g,sl,sm],(f:Int)] w fun e w'=>(∃d:Bs,e= .returned (sv d)∧d.length≤f)∧Rd w' r (M+4+3*f)∧zk w.heap.size r w w':=
 Ug r M f g sl sm w i j k ⟨by have:=h.2.1;omega,h.2.2.1⟩
theorem Ld (r M f:Nat)(g sl sm:Int)(w:World)(l:Rd w r M)(H:M≤40000000)(u:f≤10000)(x:0≤sl∧sl≤8):
 Calls prog 58 #[.pointer (some ⟨r,0,none⟩),.agg #[g,sl,sm],(f:Int)] w fun e w'=>(∃d:Bs,e= .returned (sv d)∧d.length≤f+6)∧Rd w' r (M+12+3*f)∧zk w.heap.size r w w':=by
 have I:=l.lt;have m:=Bk.new w #[g,sl,sm] 24;have y:=l.alloc (.cells #[g,sl,sm] 24);have n:zk w.heap.size r w (w.alloc (.cells #[g,sl,sm] 24)):=y8 zy r;go_enter func58,ntmps58;go_wp2_with fail;refine(Ug r M f g sl sm _ y oo u x).mono ?_;rintro e J ⟨⟨d,rfl,K⟩,z,h⟩;have A:=h.size;try simp only[World.size_alloc,World.size_setCell,World.size_drew] at A
 have o:=m.zC h oA oo;have p:=n.trans (h.mono oA);clear h n m;go_wp2_with fail;refine(pick_any r _ 5 _ z oo oo oo).mono ?_;rintro e L ⟨⟨v,rfl,N,O⟩,q,i⟩;have C:=i.size;try simp only[World.size_alloc,World.size_setCell,World.size_drew] at C
 have s:=o.zC i oA oo;have k:=p.trans (i.mono oA);clear i p o;by_cases t:v=0
 ·subst t
  go_wp2_with fail;refine(aU r _ 6 _ q oo oo).mono ?_;rintro e P ⟨⟨D,rfl,Q⟩,E,j⟩;have F:=j.size;try simp only[World.size_alloc,World.size_setCell,World.size_drew] at F
  have R:=s.zC j oA oo;have G:=k.trans (j.mono oA);clear j k s;go_wp2;go_ret;exact⟨⟨d++D,rfl,by simp;omega⟩,E.mono (by omega),G⟩
 ·have S:(v==0)=false:=by rw[beq_eq_false_iff_ne];exact t
  go_wp2;go_ret;exact⟨⟨d,rfl,oo⟩,q.mono oo,k⟩
