import Derived.Test.YtfppmajoidkooaaGreatDoorUGA
import Derived.Test.YtfppmajoidkooaaGreatDoorUGW
import Derived.Deep.DeepCutAuto
set_option maxHeartbeats 8000000
namespace Go.Proofs.YtfppmajoidkooaaGreatDoor
open Go.RowKit
set_option linter.unusedVariables false
structure BelowR (B r : Nat) (w w' : World) : Prop where
  os : w'.os = w.os
  tape : w'.tape = w.tape
  output : w'.output = w.output
  size : w.heap.size ≤ w'.heap.size
  block : ∀ k, k < B → k ≠ r → w'.heap[k]? = w.heap[k]?
section
variable {B B' r b : Nat} {w w' a c : World}
theorem below_toR (h:Below B w w')(r:Nat):BelowR B r w w':=⟨h.os,h.tape,h.output,h.size,fun k hk _=>h.block k hk⟩
theorem BelowR.refl (B r:Nat)(w:World):BelowR B r w w:=below_toR (Below.refl B w) r
theorem BelowR.trans (h:BelowR B r a w)(k:BelowR B r w c):BelowR B r a c:=
 ⟨k.os.trans h.os,k.tape.trans h.tape,k.output.trans h.output,Nat.le_trans h.size k.size,fun i hi hr=>(k.block i hi hr).trans (h.block i hi hr)⟩
theorem BelowR.mono (h:BelowR B r w w')(hB:B'≤B):BelowR B' r w w':=⟨h.os,h.tape,h.output,h.size,fun k hk=>h.block k (Nat.lt_of_lt_of_le hk hB)⟩
theorem BelowR.drewN (h:BelowR B r a w)(n:Nat):BelowR B r a (w.drewN n):=⟨h.os,h.tape,h.output,h.size,h.block⟩
theorem BelowR.drew (h:BelowR B r a w):BelowR B r a w.drew:=⟨h.os,h.tape,h.output,h.size,h.block⟩
theorem BelowR.alloc (h:BelowR B r a w)(hB:B≤w.heap.size)(o:Obj):BelowR B r a (w.alloc o):=h.trans (below_toR ((Below.refl B w).alloc hB o) r)
theorem BelowR.setCell (h:BelowR B r a w){p:Addr}(hp:p.block=r∨B≤p.block)(u:Value):BelowR B r a (w.setCell p u):=
 h.trans ⟨rfl,rfl,rfl,by simp [World.setCell],fun k hk hr=>Below.heap_setCell _ _ _ _ (by omega)⟩
theorem BelowR.grown {row:Option Nat}(h:BelowR B r a w)(hg:w.grownBy w' row)(hB:B≤w.heap.size)(hr:∀k,row=some k→B≤k):BelowR B r a w':=
 h.trans (below_toR ((Below.refl B w).grown hg hB hr) r)
theorem BelowR.below (h:BelowR B r w w')(hr:B≤r):Below B w w':=⟨h.os,h.tape,h.output,h.size,fun k hk=>h.block k hk (by omega)⟩
theorem BelowR.cell (h:BelowR B r w w'){p:Addr}(hp:p.block<B)(hr:p.block≠r):w'.cell? p=w.cell? p:=World.cell?_of_block (w:=w) (h.block p.block hp hr)
theorem ownsR_keep {e:TypeId}{size n:Nat}{v:Value}{xs:List Value}(h:w.ownsRow B e size v n xs)(hb:BelowR w.heap.size r w w')(hr:r<B):w'.ownsRow B e size v n xs:=by
 have hlt:=h.lt;obtain⟨h1,h2⟩:=h;refine⟨h1,?_⟩;rcases h2 with h2|⟨g,cap,cur,rfl,hg,hh,rest⟩
 ·exact .inl h2
 ·have:=hlt g rfl
  exact .inr ⟨g,cap,cur,rfl,hg,(hb.block g this.2 (by omega)).trans hh,rest⟩
end
def Rd (w:World)(r M:Nat):Prop:=∃(A:Option Addr) (n cap:Nat) (bs:Bs) (P:Nat),
 w.heap[r]? =some (.cells #[.slice A n cap,.int .i64 (P:Int)] 110 (0,0))∧bs.length=n∧n≤2000∧n≤cap∧cap≤9223372036854775807∧P≤M∧
 (0<n→∃g off,A=some ⟨g,off,none⟩∧g<r∧∀(j:Nat) (hj:j<bs.length),w.cell? ⟨g,off+j,none⟩=some (u8v bs[j]))
section
variable {r M M' : Nat} {w w' : World}
theorem Rd.lt (h:Rd w r M):r<w.heap.size:=by
 obtain⟨A,n,cap,bs,P,h1,_⟩:=h;rcases Nat.lt_or_ge r w.heap.size with hlt|hge
 ·exact hlt
 ·rw[Array.getElem?_eq_none hge] at h1;cases h1
theorem Rd.mono (h:Rd w r M)(hM:M≤M'):Rd w r M':=by
 obtain⟨A,n,cap,bs,P,h1,h2,h3,h4,h5,h6,h7⟩:=h;exact⟨A,n,cap,bs,P,h1,h2,h3,h4,h5,by omega,h7⟩
theorem Rd.keep (h:Rd w r M)(hb:Below w.heap.size w w'):Rd w' r M:=by
 have hlt:=h.lt;obtain⟨A,n,cap,bs,P,h1,h2,h3,h4,h5,h6,h7⟩:=h;refine⟨A,n,cap,bs,P,(hb.block r hlt).trans h1,h2,h3,h4,h5,h6,fun hn=> ?_⟩;obtain⟨g,off,hA,hg,hc⟩:=h7 hn;exact⟨g,off,hA,hg,fun j hj=>(hb.cell (p:=⟨g,off+j,none⟩) (by show g<_;omega)).trans (hc j hj)⟩
theorem Rd.far (h:Rd w r M){p:Addr}(hp:r<p.block)(u:Value):Rd (w.setCell p u) r M:=by
 obtain⟨A,n,cap,bs,P,h1,h2,h3,h4,h5,h6,h7⟩:=h;refine⟨A,n,cap,bs,P,(Below.heap_setCell w p u r (by omega)).trans h1,h2,h3,h4,h5,h6,fun hn=> ?_⟩;obtain⟨g,off,hA,hg,hc⟩:=h7 hn;exact⟨g,off,hA,hg,fun j hj=>(World.cell?_of_block (a:=⟨g,off+j,none⟩) (Below.heap_setCell w p u g (by omega))).trans (hc j hj)⟩
theorem Rd.drewN (h:Rd w r M)(n:Nat):Rd (w.drewN n) r M:=h
theorem Rd.drew (h:Rd w r M):Rd w.drew r M:=h
theorem Rd.alloc (h:Rd w r M)(o:Obj):Rd (w.alloc o) r M:=h.keep ((Below.refl _ _).alloc (Nat.le_refl _) o)
end
end Go.Proofs.YtfppmajoidkooaaGreatDoor
namespace Go.Proofs.YtfppmajoidkooaaGreatDoor
open Go.RowKit
set_option linter.unusedVariables false
set_option maxRecDepth 100000
attribute [local go_sem high] zy zA zB zO zK zY zx zk zl zq zi zo yP zD yt zF
theorem xor_bd (x:Int)(h0:0≤x)(h1:x<4611686018427387904):∃y:Int,bits .xor .i64 x (x / 64)=y∧0≤y∧y<9223372036854775808:=by
 obtain⟨a,rfl⟩:=Int.eq_ofNat_of_zero_le h0;have e:((a:Int) / 64)=((a / 64:Nat):Int):=(by omega);rw[e];have ofI:∀a:Nat,a<9223372036854775808→(BitVec.ofInt 64 (a:Int)).toNat=a:=fun a ha=>by
  rw[BitVec.ofInt_natCast,BitVec.toNat_ofNat];exact Nat.mod_eq_of_lt (by omega)
 have hx:a ^^^ (a / 64)<2 ^ 63:=Nat.xor_lt_two_pow (by omega) (by omega);have key:bits .xor .i64 (a:Int) ((a / 64:Nat):Int)=((a ^^^ (a / 64):Nat):Int):=by
  show IntKind.i64.wrap ((BitVec.ofInt 64 (a:Int) ^^^ BitVec.ofInt 64 ((a / 64:Nat):Int)).toNat:Int)=_;rw[BitVec.toNat_xor,ofI a (by omega),ofI (a / 64) (by omega),IntKind.wrap_i64];omega
 exact⟨_,key,by omega,by omega⟩
theorem tmod_bd (b n:Int)(h0:0≤b)(h1:1≤n):0≤b % n∧b % n<n:=by
 exact⟨Int.emod_nonneg b (by omega),Int.emod_lt_of_pos b (by omega)⟩
def PickRes (r M:Nat)(lo hi:Int)(w:World)(e:Ending)(w':World):Prop:=(∃v:Int,e= .returned (.int .i64 v)∧lo≤v∧v≤hi)∧Rd w' r M∧BelowR w.heap.size r w w'
theorem pick_any (r M:Nat)(n:Int)(w:World)(hR:Rd w r M)(hM:M≤100000000)(hn0: -9223372036854775808≤n)(hn:n≤9223372036854775807):
 Calls Tryz.prog 42 #[.pointer (some ⟨r,0,none⟩),.int .i64 n] w (PickRes r (M+1) 0 (max 0 (n - 1)) w):=by
 obtain⟨A,ln,cap,bs,P,hK,hln,hl2,hcap,hcap2,hPM,hrd⟩:=hR;have hr:=Bk.lt (t:=110) (cs:=#[.slice A ln cap,.int .i64 (P:Int)]) hK;have hK':Bk (w.setCell ⟨r,1,none⟩ (.int .i64 ((P:Int)+1))) r 110 #[.slice A ln cap,.int .i64 ((P:Int)+1)]:=Bk.set (t:=110) (cs:=#[.slice A ln cap,.int .i64 (P:Int)]) hK 1 _;have hX:=Bk.cell (t:=110) (cs:=#[.slice A ln cap,.int .i64 (P:Int)]) hK;have hF:=Bk.free (t:=110) (cs:=#[.slice A ln cap,.int .i64 (P:Int)]) hK;have hB:BelowR w.heap.size r w (w.setCell ⟨r,1,none⟩ (.int .i64 ((P:Int)+1))):=(BelowR.refl w.heap.size r w).setCell (p:=⟨r,1,none⟩) (.inl rfl) _;have hrd':0<ln→∃g off,A=some ⟨g,off,none⟩∧g<r∧∀(j:Nat) (hj:j<bs.length),(w.setCell ⟨r,1,none⟩ (.int .i64 ((P:Int)+1))).cell? ⟨g,off+j,none⟩=some (u8v bs[j]):=by
  intro h0;obtain⟨g,off,hA,hg,hc⟩:=hrd h0;exact⟨g,off,hA,hg,fun j hj=>(hB.cell (p:=⟨g,off+j,none⟩) (by show g<_;omega) (by show g≠r;omega)).trans (hc j hj)⟩
 have hR':Rd (w.setCell ⟨r,1,none⟩ (.int .i64 ((P:Int)+1))) r (M+1):=⟨A,ln,cap,bs,P+1,by have:=hK';unfold Bk at this;rw[this];simp,hln,hl2,hcap,hcap2,by omega,hrd'⟩;have hX':=hK'.cell;have hF':=hK'.free;have hres:∀x,Rd x r (M+1)→BelowR w.heap.size r w x→∀v:Int,0≤v→v≤max 0 (n - 1)→PickRes r (M+1) 0 (max 0 (n - 1)) w (.returned (.int .i64 v)) x:=fun x h1 h2 v h3 h4=>⟨⟨v,rfl,h3,h4⟩,h1,h2⟩;clear hK hrd;by_cases hn1:n<1
 ·go_enter Tryz.func42,Tryz.ntmps42
  go_wp2;go_ret;exact hres _ hR' hB 0 (Int.le_refl _) (by omega)
 by_cases hl0:ln=0
 ·subst hl0
  have hl0':((0:Nat):Int)=0:=rfl;go_enter Tryz.func42,Tryz.ntmps42;go_wp2;go_ret;exact hres _ hR' hB 0 (Int.le_refl _) (by omega)
 have hlp:0<ln:=(by omega);have hlb:((ln:Int)==0)=false:=(by rw[beq_eq_false_iff_ne];omega);obtain⟨g,off,rfl,hg,hc⟩:=hrd' hlp;have hn2:1≤n:=(by omega);have hmax:max 0 (n - 1)=n - 1:=(by omega);have hu8:∀j,j<bs.length→∃b:Int,0≤b∧b≤255∧(w.setCell ⟨r,1,none⟩ (.int .i64 ((P:Int)+1))).cell? ⟨g,off+j,none⟩=some (.int .u8 b):=fun j hj=>⟨(bs[j].toNat:Int),by omega,by have:=bs[j].toNat_lt;omega,hc j hj⟩;rw[hmax] at hres⊢;by_cases hPl:P<ln
 ·obtain⟨b,hb1,hb2,hcP⟩:=hu8 P (by omega)
  have hq:=tmod_bd b n hb1 hn2;obtain⟨hq0,hq1⟩:=hq;have hPi:(P:Int)<ln:=(by omega);clear hc hrd' hK' hu8;go_enter Tryz.func42,Tryz.ntmps42;go_wp2;go_ret;exact hres _ hR' hB _ hq0 (by omega)
 ·obtain⟨q1,hq1,hq1l⟩:∃q:Nat,(P:Int) % ln=q∧q<ln:=⟨P % ln,by simp,Nat.mod_lt _ hlp⟩
  obtain⟨q2,hq2,hq2l⟩:∃q:Nat,((P:Int)*7+3) % ln=q∧q<ln:=⟨(P*7+3) % ln,by simp,Nat.mod_lt _ hlp⟩;obtain⟨b1,hb1,hb2,hc1⟩:=hu8 q1 (by omega);obtain⟨b2,hb3,hb4,hc2⟩:=hu8 q2 (by omega);obtain⟨q3,hq3,hq3l⟩:∃q:Nat,(P:Int) / ln=q∧q≤P:=⟨P / ln,by simp,Nat.div_le_self _ _⟩;have hPi:¬(P:Int)<ln:=(by omega);have hq1i:(q1:Int)<ln:=(by omega);have hq2i:(q2:Int)<ln:=(by omega);clear hc hrd' hK' hu8;go_enter Tryz.func42,Tryz.ntmps42;go_wp2;go_quiet(fail);have hX0:0≤b1*131+b2*1117+(P:Int)*29+(q3:Int)*53:=(by omega);have hX1:b1*131+b2*1117+(P:Int)*29+(q3:Int)*53<4611686018427387904:=(by omega);generalize b1*131+b2*1117+(P:Int)*29+(q3:Int)*53=X at*;obtain⟨y,hy,hy0,hy1⟩:=xor_bd X hX0 hX1;have hq:=tmod_bd y n hy0 hn2;obtain⟨hq0,hq1⟩:=hq;go_wp2;go_ret;exact hres _ (hR'.drewN _) (hB.drewN _) _ hq0 (by omega)
theorem num_any (r M:Nat)(ls:List Int)(A:Option Addr)(cap:Nat)(w:World)(hR:Rd w r M)(hM:M≤100000000)(hs:Sl w A ls.length cap 1 (ls.map (Value.int .i64)))(h0:0<ls.length)(hl:ls.length≤1000)(hA:∀g off,A=some ⟨g,off,none⟩→g≠r):
 Calls Tryz.prog 43 #[.pointer (some ⟨r,0,none⟩),.slice A ls.length cap] w fun e w'=>(∃v ∈ ls,e= .returned (.int .i64 v))∧Rd w' r (M+1)∧BelowR w.heap.size r w w':=by
 go_enter Tryz.func43,Tryz.ntmps43;go_wp2_with fail;refine(pick_any r M ls.length w hR hM (by omega) (by omega)).mono ?_;rintro e w' ⟨⟨v,rfl,hv0,hv1⟩,hR',hB⟩;obtain⟨k,rfl⟩:=Int.eq_ofNat_of_zero_le hv0;have hk:k<ls.length:=(by omega);obtain⟨g,off,u,rfl,hg,hu,hc⟩:=Sl.at1 hs hk;have hc':=(hB.cell (p:=⟨g,off+k,none⟩) hg (hA g off rfl)).trans hc;rw[List.getElem?_map,List.getElem?_eq_getElem hk] at hu;simp at hu;subst hu;have hki:(k:Int)<ls.length:=(by omega);go_wp2;go_ret;exact⟨⟨_,List.getElem_mem hk,rfl⟩,hR',hB⟩
theorem of_any (r M:Nat)(ls:List Bs)(A:Option Addr)(cap:Nat)(w:World)(hR:Rd w r M)(hM:M≤100000000)(hs:Sl w A ls.length cap 1 (ls.map sv))(h0:0<ls.length)(hl:ls.length≤1000)(hA:∀g off,A=some ⟨g,off,none⟩→g≠r):
 Calls Tryz.prog 119 #[.pointer (some ⟨r,0,none⟩),.slice A ls.length cap] w fun e w'=>(∃v ∈ ls,e= .returned (sv v))∧Rd w' r (M+1)∧BelowR w.heap.size r w w':=by
 go_enter Tryz.func119,Tryz.ntmps119;go_wp2_with fail;refine(pick_any r M ls.length w hR hM (by omega) (by omega)).mono ?_;rintro e w' ⟨⟨v,rfl,hv0,hv1⟩,hR',hB⟩;obtain⟨k,rfl⟩:=Int.eq_ofNat_of_zero_le hv0;have hk:k<ls.length:=(by omega);obtain⟨g,off,u,rfl,hg,hu,hc⟩:=Sl.at1 hs hk;have hc':=(hB.cell (p:=⟨g,off+k,none⟩) hg (hA g off rfl)).trans hc;rw[List.getElem?_map,List.getElem?_eq_getElem hk] at hu;simp at hu;subst hu;have hki:(k:Int)<ls.length:=(by omega);go_wp2;go_ret;exact⟨⟨_,List.getElem_mem hk,rfl⟩,hR',hB⟩
theorem l9Open_any (bs:Bs)(A:Option Addr)(cap:Nat)(w:World)(hs:Sl w A bs.length cap 1 (bs.map u8v)):
 Calls Tryz.prog 40 #[.slice A bs.length cap] w fun e w'=>e= .returned (.pointer (some ⟨w.heap.size,0,none⟩))∧Rd w' w.heap.size 0∧Below w.heap.size w w':=by
 obtain⟨h1,h2,h3,h4⟩:=hs;have key:∀(n:Nat),n≤bs.length→n≤2000→Rd (w.alloc (.cells #[.slice A n cap,.int .i64 0] 110)) w.heap.size 0:=by
  intro n hn hn2;refine⟨A,n,cap,bs.take n,0,heap_alloc_new w _,by simp;omega,hn2,by omega,h2,Nat.le_refl _,fun h0=> ?_⟩;obtain⟨g,off,rfl,hg,hc⟩:=h4 (by omega);refine⟨g,off,rfl,hg,fun j hj=> ?_⟩;rw[List.length_take] at hj;rw[World.cell?_alloc_lt _ _ _ hg,hc j (u8v bs[j]) (by simp [List.getElem?_map,List.getElem?_eq_getElem (show j<bs.length by omega)])];rw[List.getElem_take]
 have K:=Go.Lib.hid key;clear key h4;by_cases hl:bs.length≤2000
 ·have hli:¬(2000:Int)<bs.length:=by omega
  go_enter Tryz.func40,Tryz.ntmps40;go_wp2;go_ret;exact⟨rfl,K.out bs.length (Nat.le_refl _) hl,zu⟩
 ·have hli:(2000:Int)<bs.length:=by omega
  have hci:(2000:Int)≤cap:=(by omega);go_enter Tryz.func40,Tryz.ntmps40;go_wp2;go_ret;exact⟨rfl,K.out 2000 (by omega) (by omega),zu⟩
end Go.Proofs.YtfppmajoidkooaaGreatDoor
namespace Go.Proofs.YtfppmajoidkooaaGreatDoor
open Go.RowKit
set_option linter.unusedSimpArgs false
set_option linter.unusedVariables false
set_option maxRecDepth 100000
attribute [local go_sem high] zy zA zB zO zK zY zx zk zl zq zi zo yP zD yt zF
theorem Bk.belowR {w w':World}{B r g:Nat}{t:TypeId}{cs:Array Value}(h:Bk w g t cs)(hb:BelowR B r w w')(hg:g<B)(hne:g≠r):Bk w' g t cs:=(hb.block g hg hne).trans h
theorem Sl.list (w:World)(cs:List Value)(t:TypeId)(n k:Nat)(hn:n=w.heap.size)(hk:k=cs.length)(h:k≤1000):Sl (w.alloc (.cells cs.toArray t)) (some ⟨n,0,none⟩) k k 1 cs:=by
 subst hn hk;have:=Sl.new w cs.toArray t cs.length 1 (by simp) (by omega);simpa using this
theorem l1Some_any (r M:Nat)(w:World)(hR:Rd w r M)(hM:M≤50000000):
 Calls Tryz.prog 122 #[.pointer (some ⟨r,0,none⟩)] w fun e w'=>(∃o l m:Int,e= .returned (.agg #[.int .i64 o,.int .i64 l,.int .i64 m])∧vW o l m)∧Rd w' r (M+5)∧BelowR w.heap.size r w w':=by
 have hr:=hR.lt;have K0_0:=Bk.new w #[.int .i64 0,.int .i64 0,.int .i64 0] 39;have R0:=hR.alloc (.cells #[.int .i64 0,.int .i64 0,.int .i64 0] 39);have s1:=Sl.list (w.alloc (.cells #[.int .i64 0,.int .i64 0,.int .i64 0] 39)) [.int .i64 2,.int .i64 3,.int .i64 2,.int .i64 1,.int .i64 8,.int .i64 5] 3 (w.heap.size+1) 6 (by simp) rfl (by omega);have g0:BelowR w.heap.size r w (w.alloc (.cells #[.int .i64 0,.int .i64 0,.int .i64 0] 39)):=below_toR zu r;go_enter Tryz.func122,Tryz.ntmps122;go_wp2_with fail;refine(num_any r M [2,3,2,1,8,5] (some ⟨w.heap.size+1,0,none⟩) 6 _ (R0.alloc _) (by omega) s1 (by simp) (by simp) (by rintro g off ⟨⟩;omega)).mono ?_;rintro e w1 ⟨⟨l,hl,rfl⟩,R1,b1⟩;have z1:=b1.size;try simp only[World.size_alloc,World.size_setCell,World.size_drew] at z1
 have K0_1:=(K0_0.alloc _).belowR b1 (by first|omega|(simp;done)|(simp;omega)) (by omega);have g1:=(g0.alloc (by first|omega|(simp<;>omega)) _).trans (b1.mono (by first|omega|(simp;done)|(simp;omega)));clear b1 g0 K0_0;have hl12:1≤l∧l≤8:=by
  simp at hl;omega
 obtain⟨hl1,hl2⟩:=hl12;clear s1 R0 hl;go_wp2_with fail;refine(pick_any r _ _ _ R1 (by omega) (by omega) (by omega)).mono ?_;rintro e w2 ⟨⟨v,rfl,hv0,hv1⟩,R2,b2⟩;have z2:=b2.size;try simp only[World.size_alloc,World.size_setCell,World.size_drew] at z2
 have K0_2:=K0_1.belowR b2 (by first|omega|(simp;done)|(simp;omega)) (by omega);have g2:=g1.trans (b2.mono (by first|omega|(simp;done)|(simp;omega)));clear b2 g1 K0_1;have hv2:v≤8 - l:=(by omega);clear hv1;go_wp2_with fail;refine(pick_any r _ 2 _ R2 (by omega) (by omega) (by omega)).mono ?_;rintro e w3 ⟨⟨u,rfl,hu0,hu1⟩,R3,b3⟩;have z3:=b3.size;try simp only[World.size_alloc,World.size_setCell,World.size_drew] at z3
 have K0_3:=K0_2.belowR b3 (by first|omega|(simp;done)|(simp;omega)) (by omega);have g3:=g2.trans (b3.mono (by first|omega|(simp;done)|(simp;omega)));clear b3 g2 K0_2;have hu2:u≤1:=(by omega);clear hu1;by_cases hu:u=0
 ·subst hu
  go_wp2_with fail;refine(pick_any r _ 2 _ R3 (by omega) (by omega) (by omega)).mono ?_;rintro e w4 ⟨⟨x,rfl,hx0,hx1⟩,R4,b4⟩;have z4:=b4.size;try simp only[World.size_alloc,World.size_setCell,World.size_drew] at z4
  have K0_4:=K0_3.belowR b4 (by first|omega|(simp;done)|(simp;omega)) (by omega);have g4:=g3.trans (b4.mono (by first|omega|(simp;done)|(simp;omega)));clear b4 g3 K0_3;have hx2:x≤1:=(by omega);clear hx1;by_cases hmm:l+2+x≤10
  ·skip
   go_wp2_with fail;refine(pick_any r _ 2 _ R4 (by omega) (by omega) (by omega)).mono ?_;rintro e w5 ⟨⟨y,rfl,hy0,hy1⟩,R5,b5⟩;have z5:=b5.size;try simp only[World.size_alloc,World.size_setCell,World.size_drew] at z5
   have K0_5:=K0_4.belowR b5 (by first|omega|(simp;done)|(simp;omega)) (by omega);have g5:=g4.trans (b5.mono (by first|omega|(simp;done)|(simp;omega)));clear b5 g4 K0_4;have hy2:y≤1:=(by omega);have X5:=K0_5.cell;have F5:=K0_5.free;have L5:w.heap.size≤w5.heap.size:=(by omega);clear hy1;go_wp2;exact bodyPost_ret (v:=.agg #[.int .i64 y,.int .i64 l,.int .i64 (l+2+x)]) (by simp [results,Tryz.results122,go_sem,X5]) rfl ⟨⟨y,l,(l+2+x),rfl,by unfold vW;omega⟩,(by(repeat(first|(with_reducible assumption)|(with_reducible refine Rd.drew ?_)|(with_reducible refine Rd.drewN ?_ _)|(with_reducible refine Rd.alloc ?_ _)|((with_reducible refine Rd.far ?_ ?_ _);rotate_left;focus(first|omega|(simp<;>omega)))));done),(by(repeat(first|(with_reducible exact BelowR.refl _ _ _)|(with_reducible assumption)|(with_reducible refine BelowR.drew ?_)|(with_reducible refine BelowR.drewN ?_ _)|((with_reducible refine BelowR.alloc ?_ ?_ _);rotate_left;focus(first|omega|(simp<;>omega)))|((with_reducible refine BelowR.setCell ?_ ?_ _);rotate_left;focus(first|(left;rfl)|(right;first|omega|(simp<;>omega))))));done)⟩
  ·skip
   go_wp2_with fail;refine(pick_any r _ 2 _ R4 (by omega) (by omega) (by omega)).mono ?_;rintro e w5 ⟨⟨y,rfl,hy0,hy1⟩,R5,b5⟩;have z5:=b5.size;try simp only[World.size_alloc,World.size_setCell,World.size_drew] at z5
   have K0_5:=K0_4.belowR b5 (by first|omega|(simp;done)|(simp;omega)) (by omega);have g5:=g4.trans (b5.mono (by first|omega|(simp;done)|(simp;omega)));clear b5 g4 K0_4;have hy2:y≤1:=(by omega);have X5:=K0_5.cell;have F5:=K0_5.free;have L5:w.heap.size≤w5.heap.size:=(by omega);clear hy1;go_wp2;exact bodyPost_ret (v:=.agg #[.int .i64 y,.int .i64 l,.int .i64 10]) (by simp [results,Tryz.results122,go_sem,X5]) rfl ⟨⟨y,l,10,rfl,by unfold vW;omega⟩,(by(repeat(first|(with_reducible assumption)|(with_reducible refine Rd.drew ?_)|(with_reducible refine Rd.drewN ?_ _)|(with_reducible refine Rd.alloc ?_ _)|((with_reducible refine Rd.far ?_ ?_ _);rotate_left;focus(first|omega|(simp<;>omega)))));done),(by(repeat(first|(with_reducible exact BelowR.refl _ _ _)|(with_reducible assumption)|(with_reducible refine BelowR.drew ?_)|(with_reducible refine BelowR.drewN ?_ _)|((with_reducible refine BelowR.alloc ?_ ?_ _);rotate_left;focus(first|omega|(simp<;>omega)))|((with_reducible refine BelowR.setCell ?_ ?_ _);rotate_left;focus(first|(left;rfl)|(right;first|omega|(simp<;>omega))))));done)⟩
 ·skip
  go_wp2_with fail;refine(pick_any r _ 2 _ R3 (by omega) (by omega) (by omega)).mono ?_;rintro e w4 ⟨⟨y,rfl,hy0,hy1⟩,R4,b4⟩;have z4:=b4.size;try simp only[World.size_alloc,World.size_setCell,World.size_drew] at z4
  have K0_4:=K0_3.belowR b4 (by first|omega|(simp;done)|(simp;omega)) (by omega);have g4:=g3.trans (b4.mono (by first|omega|(simp;done)|(simp;omega)));clear b4 g3 K0_3;have hy2:y≤1:=(by omega);have X5:=K0_4.cell;have F5:=K0_4.free;have L5:w.heap.size≤w4.heap.size:=(by omega);replace R4:=R4.mono (show M+1+1+1+1≤M+5 by omega);clear hy1;go_wp2;exact bodyPost_ret (v:=.agg #[.int .i64 y,.int .i64 l,.int .i64 (l+2+v)]) (by simp [results,Tryz.results122,go_sem,X5]) rfl ⟨⟨y,l,l+2+v,rfl,by unfold vW;omega⟩,(by(repeat(first|(with_reducible assumption)|(with_reducible refine Rd.drew ?_)|(with_reducible refine Rd.drewN ?_ _)|(with_reducible refine Rd.alloc ?_ _)|((with_reducible refine Rd.far ?_ ?_ _);rotate_left;focus(first|omega|(simp<;>omega)))));done),(by(repeat(first|(with_reducible exact BelowR.refl _ _ _)|(with_reducible assumption)|(with_reducible refine BelowR.drew ?_)|(with_reducible refine BelowR.drewN ?_ _)|((with_reducible refine BelowR.alloc ?_ ?_ _);rotate_left;focus(first|omega|(simp<;>omega)))|((with_reducible refine BelowR.setCell ?_ ?_ _);rotate_left;focus(first|(left;rfl)|(right;first|omega|(simp<;>omega))))));done)⟩
theorem snoc_own {w:World}{B:Nat}{v:Value}{out:Bs}{x:Int}(h:w.ownsRow B 5 1 v (out.length+1) (out.map u8v++[.int .u8 x]))(h0:0≤x)(h1:x≤255):w.ownsRow B 5 1 v (out++[UInt8.ofNat x.toNat]).length ((out++[UInt8.ofNat x.toNat]).map u8v):=by
 have e:u8v (UInt8.ofNat x.toNat)= .int .u8 x:=by
  show Value.int .u8 _=_;rw[UInt8.toNat_ofNat'];congr 1;omega
 rw[List.map_append,List.length_append];simp only[List.map_cons,List.map_nil,e];exact h
theorem appR {B r:Nat}{w W w3:World}{o:Obj}{row:Option Nat}(hB:BelowR B r w W)(hg:(W.alloc o).grownBy w3 row)(hs:B≤W.heap.size)(hr:∀k,row=some k→B≤k):BelowR B r w w3:=
 (hB.alloc hs o).grown hg (by simp;omega) hr
theorem Rd.app {r M:Nat}{W w3:World}{o:Obj}{row:Option Nat}(h:Rd W r M)(hg:(W.alloc o).grownBy w3 row)(hr:∀k,row=some k→r<k):Rd w3 r M:=by
 have hlt:=h.lt;obtain⟨A,n,cap,bs,P,h1,h2,h3,h4,h5,h6,h7⟩:=h.alloc o;refine⟨A,n,cap,bs,P,(hg.block r (by simp;omega) (fun e=>by have:=hr r e.symm;omega)).trans h1,h2,h3,h4,h5,h6,fun hn=> ?_⟩;obtain⟨g,off,hA,hgr,hc⟩:=h7 hn;exact⟨g,off,hA,hgr,fun j hj=>(World.cell?_of_block (a:=⟨g,off+j,none⟩) (hg.block g (by simp;omega) (fun e=>by have:=hr g e.symm;omega))).trans (hc j hj)⟩
theorem Rd.grown {r M:Nat}{w w3:World}{row:Option Nat}(h:Rd w r M)(hg:w.grownBy w3 row)(hr:∀k,row=some k→r<k):Rd w3 r M:=by
 have hlt:=h.lt;obtain⟨A,n,cap,bs,P,h1,h2,h3,h4,h5,h6,h7⟩:=h;refine⟨A,n,cap,bs,P,(hg.block r hlt (fun e=>by have:=hr r e.symm;omega)).trans h1,h2,h3,h4,h5,h6,fun hn=> ?_⟩;obtain⟨g,off,hA,hgr,hc⟩:=h7 hn;exact⟨g,off,hA,hgr,fun j hj=>(World.cell?_of_block (a:=⟨g,off+j,none⟩) (hg.block g (by omega) (fun e=>by have:=hr g e.symm;omega))).trans (hc j hj)⟩
theorem l1Bytes_any (r M most:Nat)(w:World)(hR:Rd w r M)(hM:M≤50000000)(hmost:most≤10000):
 Calls Tryz.prog 80 #[.pointer (some ⟨r,0,none⟩),.int .i64 (most:Int)] w fun e w'=>(∃d:Bs,e= .returned (sv d)∧d.length≤most)∧Rd w' r (M+1+most)∧BelowR w.heap.size r w w':=by
 have hr:=hR.lt;obtain⟨i,hi,hz0,hz1,hz2⟩:=info_parts wI;go_enter Tryz.func80,Tryz.ntmps80;go_wp2_with(at_make;go_must(refine wpList_make_own _ rfl _ _ 22 rfl w.heap.size 5 i (.int .u8 0) 1 Tryz.underlying22 hi hz0 hz1 _ _ _ most rfl rfl (by omega) (by rw[hz2];omega) (by unfold maxLen;omega) (by first|omega|(simp;done)) ?_);intro w1 O0_1 hg1);have g1:BelowR w.heap.size r w w1:=below_toR ((Below.refl _ _).grown hg1 (Nat.le_refl _) (by simp)) r;have R1:Rd w1 r M:=hR.grown hg1 (by simp);have z1:=g1.size;clear hg1;go_wp2_with fail;refine(pick_any r _ _ _ R1 (by omega) (by omega) (by omega)).mono ?_;rintro e w2 ⟨⟨n0,rfl,hn0,hn1⟩,R2,b2⟩;have z2:=b2.size;try simp only[World.size_alloc,World.size_setCell,World.size_drew] at z2
 have O0_2:=ownsR_keep O0_1 b2 (by omega);have g2:=g1.trans (b2.mono (by first|omega|(simp;done)|(simp;omega)));clear b2 g1 O0_1;obtain⟨n,rfl⟩:=Int.eq_ofNat_of_zero_le hn0;have hnm:n≤most:=(by omega);clear hn0 hn1;go_wp2;go_loopw [5,6] (fun v a wr=>∃(k c:Nat) (out:Bs),a= .int .i64 (k:Int)∧c+k=n∧out.length=c∧wr.ownsRow w.heap.size 5 1 v out.length (out.map u8v)∧Rd wr r (M+1+c)∧BelowR w.heap.size r w wr) (fun _ a _=>(intOf a).toNat)
 case atStart=>exact⟨n,0,[],rfl,by omega,rfl,O0_2,R2,g2⟩
 case round=>
  obtain⟨k,c,out,rfl,hck,hol,O0_2,R2,g2⟩:=hrel;have HOL:Go.RowKit.Hid (out.length=c):=hol;have hol2:out.length≤most:=(by omega);have z2:=g2.size;clear hol;by_cases hk:0<k
  ·have hki:(0:Int)<k:=by omega
   go_wp2_with fail;refine(pick_any r _ 256 _ R2 (by omega) (by omega) (by omega)).mono ?_;rintro e w3 ⟨⟨x,rfl,hx0,hx1⟩,R3,b3⟩;have z3:=b3.size;try simp only[World.size_alloc,World.size_setCell,World.size_drew] at z3
   have O0_3:=ownsR_keep O0_2 b3 (by omega);have g3:=g2.trans (b3.mono (by first|omega|(simp;done)|(simp;omega)));clear b3 g2 O0_2;have hx2:x≤255:=(by omega);clear hx1;have hm1:out.length+1≤maxLen:=(by unfold maxLen;omega);have hm2:(out.length+1)*1≤140737488355328:=(by omega);have hlt:=O0_3.lt;go_wp2_with(at_builtin;go_must(refine wpList_append_own _ rfl _ _ 22 rfl (w.heap.size) 5 i _ 1 1 Tryz.underlying22 hi hz0 hz1 hz2 rfl (by omega) _ _ _ rfl (O0_3.alloc _) ⟨w3.heap.size,0,none⟩ 1 1 [.int .u8 x] rfl rfl ?_ ?_ hm1 hm2 ?_ ?_));try(case refine_1=>first|exact cell_one_new _ _ _|omega|(simp<;>omega;done)|(simp [Value.oneCell'];done))
   try(case refine_2=>first|exact cell_one_new _ _ _|omega|(simp<;>omega;done)|(simp [Value.oneCell'];done))
   try(case refine_3=>first|exact cell_one_new _ _ _|omega|(simp<;>omega;done)|(simp [Value.oneCell'];done))
   intro v4 w4 O0_4 hg4 _;have g4:=appR g3 hg4 (by omega) (fun q hq=>(hlt q hq).1);have R4:=R3.app hg4 (fun q hq=>by have:=(hlt q hq).1;omega);go_wp2;go_roundw
   case rel=>exact⟨k - 1,c+1,out++[UInt8.ofNat x.toNat],by go_num,by omega,by have:=HOL.out;simp;omega,snoc_own O0_4 hx0 hx2,R4,g4⟩
   case measure=>simp [intOf];omega
  ·have hcv:=yH O0_2
   have hki:¬(0:Int)<k:=(by omega);go_wp2;go_ret;exact⟨⟨out,rfl,hol2⟩,R2.mono (by omega),g2⟩
end Go.Proofs.YtfppmajoidkooaaGreatDoor
namespace Go.Proofs.YtfppmajoidkooaaGreatDoor
open Go.RowKit
set_option linter.unusedSimpArgs false
set_option linter.unusedVariables false
set_option maxRecDepth 100000
attribute [local go_sem high] zy zA zB zO zK zY zx zk zl zq zi zo yP zD yt zF
theorem pow2_ge0 {l:Int}(h0:0≤l)(h1:l≤8):1≤pow2 l∧pow2 l≤256:=by
 unfold pow2;have ll:l=0∨l=1∨l=2∨l=3∨l=4∨l=5∨l=6∨l=7∨l=8:=(by omega);rcases ll with e|e|e|e|e|e|e|e|e<;>rw[e]<;>decide
theorem l1Data_w (r M most:Nat)(so sl sm:Int)(w:World)(hR:Rd w r M)(hM:M≤50000000)(hmost:most≤10000)(hst:0≤sl∧sl≤8):
 Calls Tryz.prog 124 #[.pointer (some ⟨r,0,none⟩),.agg #[.int .i64 so,.int .i64 sl,.int .i64 sm],.int .i64 (most:Int)] w fun e w'=>(∃d:Bs,e= .returned (sv d)∧d.length≤most)∧Rd w' r (M+4+3*most)∧BelowR w.heap.size r w w':=by
 have hr:=hR.lt;obtain⟨i,hi,hz0,hz1,hz2⟩:=info_parts wI;have hp:=pow2_ge0 hst.1 hst.2;obtain⟨hp1,hp2⟩:=hp;have cC:=fun w=>yG so sl sm w hst.1 (by omega);clear hst;generalize pow2 sl=cl at*;have K0_0:=Bk.new w #[.int .i64 so,.int .i64 sl,.int .i64 sm] 39;have R0:=hR.alloc (.cells #[.int .i64 so,.int .i64 sl,.int .i64 sm] 39);have g0:BelowR w.heap.size r w (w.alloc (.cells #[.int .i64 so,.int .i64 sl,.int .i64 sm] 39)):=below_toR zu r;go_enter Tryz.func124,Tryz.ntmps124;go_wp2_with(at_make;go_must(refine wpList_make_own _ rfl _ _ 22 rfl (w.heap.size+1) 5 i (.int .u8 0) 1 Tryz.underlying22 hi hz0 hz1 _ _ _ most rfl rfl (by omega) (by rw[hz2];omega) (by unfold maxLen;omega) (by first|omega|(simp;done)) ?_);intro w1 O0_1 hg1;have K0_1:Bk w1 w.heap.size 39 #[.int .i64 so,.int .i64 sl,.int .i64 sm]:=K0_0.grown hg1 (by simp);have X1:=K0_1.cell;simp only[World.size_alloc] at O0_1);have R1:Rd w1 r M:=R0.grown hg1 (by simp);have g1:BelowR w.heap.size r w w1:=g0.trans (below_toR ((Below.refl w.heap.size _).grown hg1 (by simp) (by simp)) r);have z1:=hg1.size;simp only[World.size_alloc] at z1;clear hg1 R0 K0_0 g0;refine(cC _).mono ?_;rintro e w2 ⟨rfl,hb2⟩;have z2:=hb2.size;have R2:=R1.keep hb2;have K0_2:=K0_1.below hb2 (by omega);have O0_2:=zf O0_1 hb2;have g2:=g1.trans (below_toR (hb2.mono (by omega)) r);clear hb2 R1 K0_1 O0_1 g1 X1;have s2:=Sl.list w2 [.int .i64 2,.int .i64 3,.int .i64 cl,.int .i64 1] 3 w2.heap.size 4 rfl rfl (by omega);go_wp2_with fail;refine(num_any r M [2,3,cl,1] (some ⟨w2.heap.size,0,none⟩) 4 _ (R2.alloc _) (by omega) s2 (by simp) (by simp) (by rintro g off ⟨⟩;omega)).mono ?_;rintro e w3 ⟨⟨pt,hpt,rfl⟩,R3,b3⟩;have z3:=b3.size;try simp only[World.size_alloc,World.size_setCell,World.size_drew] at z3
 have K0_3:=(K0_2.alloc _).belowR b3 (by first|omega|(simp;done)|(simp;omega)) (by omega);have O0_3:=ownsR_keep (World.ownsRow.alloc O0_2 _) b3 (by omega);have g3:=(g2.alloc (by first|omega|(simp<;>omega)) _).trans (b3.mono (by first|omega|(simp;done)|(simp;omega)));clear b3 g2 K0_2 O0_2;have hpt1:1≤pt∧pt≤256:=by
  simp at hpt;omega
 clear hpt s2;have X3:=K0_3.cell;go_wp2_with fail;refine(cC _).mono ?_;rintro e w4 ⟨rfl,hb4⟩;have z4:=hb4.size;have R4:=R3.keep hb4;have K0_4:=K0_3.below hb4 (by omega);have O0_4:=zf O0_3 hb4;have g4:=g3.trans (below_toR (hb4.mono (by omega)) r);clear hb4 R3 K0_3 O0_3 g3 X3;by_cases hmn:pt≤cl
 ·obtain⟨part,hpart,hpt_1,hpart2⟩:∃part:Int,pt=part∧1≤part∧part≤256:=⟨_,rfl,by omega,by omega⟩
  subst hpart;go_wp2_with fail;refine(pick_any r _ 7 _ R4 (by omega) (by omega) (by omega)).mono ?_;rintro e w5 ⟨⟨pd,rfl,hpd0,hpd1⟩,R5,b5⟩;have z5:=b5.size;try simp only[World.size_alloc,World.size_setCell,World.size_drew] at z5
  have K0_5:=K0_4.belowR b5 (by first|omega|(simp;done)|(simp;omega)) (by omega);have O0_5:=ownsR_keep O0_4 b5 (by omega);have g5:=g4.trans (b5.mono (by first|omega|(simp;done)|(simp;omega)));clear b5 g4 K0_4 O0_4;obtain⟨pn,rfl⟩:=Int.eq_ofNat_of_zero_le hpd0;have hpn:pn≤6:=(by omega);clear hpd0 hpd1;go_wp2_with fail;refine(pick_any r _ 4 _ R5 (by omega) (by omega) (by omega)).mono ?_;rintro e w6 ⟨⟨mode,rfl,hmd0,hmd1⟩,R6,b6⟩;have z6:=b6.size;try simp only[World.size_alloc,World.size_setCell,World.size_drew] at z6
  have K0_6:=K0_5.belowR b6 (by first|omega|(simp;done)|(simp;omega)) (by omega);have O0_6:=ownsR_keep O0_5 b6 (by omega);have g6:=g5.trans (b6.mono (by first|omega|(simp;done)|(simp;omega)));clear b6 g5 K0_5 O0_5;have hmd2:mode≤3:=(by omega);clear hmd1;go_wp2_with fail;refine(pick_any r _ _ _ R6 (by omega) (by omega) (by omega)).mono ?_;rintro e w7 ⟨⟨n0,rfl,hn0,hn1⟩,R7,b7⟩;have z7:=b7.size;try simp only[World.size_alloc,World.size_setCell,World.size_drew] at z7
  have K0_7:=K0_6.belowR b7 (by first|omega|(simp;done)|(simp;omega)) (by omega);have O0_7:=ownsR_keep O0_6 b7 (by omega);have g7:=g6.trans (b7.mono (by first|omega|(simp;done)|(simp;omega)));clear b7 g6 K0_6 O0_6;obtain⟨n,rfl⟩:=Int.eq_ofNat_of_zero_le hn0;have hnm:n≤most:=(by omega);clear hn0 hn1;go_wp2;go_loopw [7,11] (fun v a wr=>∃(kk c:Nat) (out:Bs),a= .int .i64 (kk:Int)∧c+kk=n∧Go.RowKit.Hid (out.length=c)∧wr.ownsRow (w.heap.size+1) 5 1 v out.length (out.map u8v)∧Rd wr r (M+4+3*c)∧BelowR w.heap.size r w wr∧Bk wr w.heap.size 39 #[.int .i64 so,.int .i64 sl,.int .i64 sm]) (fun _ a _=>(intOf a).toNat)
  case atStart=>exact⟨n,0,[],rfl,by omega,rfl,O0_7,R7.mono (by omega),g7,K0_7⟩
  case round=>
   obtain⟨kk,c,out,rfl,hck,HOL,O0_7,R7,g7,K0_7⟩:=hrel;obtain⟨A7,cap7,rfl,_⟩:=Sl.sN O0_7;have hol2:out.length=c:=HOL.out;have hol3:out.length≤most:=(by omega);have z7:w.heap.size+1≤wr.heap.size:=K0_7.lt;clear hol2;by_cases hk:0<kk
   ·have hki:(0:Int)<kk:=by omega
    obtain⟨w7,hw7⟩:∃w7,wr=w7:=⟨_,rfl⟩;subst hw7;go_wp2_with fail;refine(pick_any r _ 256 _ R7 (by omega) (by omega) (by omega)).mono ?_;rintro e w8 ⟨⟨x,rfl,hx0,hx1⟩,R8,b8⟩;have z8:=b8.size;try simp only[World.size_alloc,World.size_setCell,World.size_drew] at z8
    have K0_8:=K0_7.belowR b8 (by first|omega|(simp;done)|(simp;omega)) (by omega);have O0_8:=ownsR_keep O0_7 b8 (by omega);have g8:=g7.trans (b8.mono (by first|omega|(simp;done)|(simp;omega)));clear b8 g7 K0_7 O0_7;have hx2:=tmod_bd x pt hx0 hpt_1;have hx3:x % pt≤255:=(by omega);have hx4:=hx2.1;clear hx1 hx2;have hpz:pt≠0:=(by omega);obtain⟨y,hy,hy0,hy1⟩:∃y:Int,x % pt=y∧0≤y∧y≤255:=⟨_,rfl,hx4,hx3⟩;clear hx3 hx4;by_cases hmode0:mode=0
    ·subst hmode0
     by_cases hL0:0<out.length
     ·have hL0i:(0:Int)<out.length:=by omega
      go_wp2_with fail;refine(pick_any r _ 4 _ R8 (by omega) (by omega) (by omega)).mono ?_;rintro e w9 ⟨⟨q,rfl,hq0,hq1⟩,R9,b9⟩;have z9:=b9.size;try simp only[World.size_alloc,World.size_setCell,World.size_drew] at z9
      have K0_9:=K0_8.belowR b9 (by first|omega|(simp;done)|(simp;omega)) (by omega);have O0_9:=ownsR_keep O0_8 b9 (by omega);have g9:=g8.trans (b9.mono (by first|omega|(simp;done)|(simp;omega)));clear b9 g8 K0_8 O0_8;clear hq1;by_cases hq:0<q
      ·skip
       obtain⟨gq,capq,hv,hq1,hq2⟩:=O0_9.form (by omega);injection hv with e1 e2 e3
       subst e1;subst e3;have hidx:out.length - 1<out.length:=(by omega);have hcell:w9.cell? ⟨gq,out.length - 1,none⟩=some (.int .u8 (out[out.length - 1].toNat:Int)):=(O0_9.cellAt (out.length - 1) (by omega)).trans (by simp [hidx]);have hb0:0≤(out[out.length - 1].toNat:Int):=(by omega);have hb1:(out[out.length - 1].toNat:Int)≤255:=(by have:=out[out.length - 1].toNat_lt;omega);generalize(out[out.length - 1].toNat:Int)=b at*;have hsub:(out.length:Int) - 1=((out.length - 1:Nat):Int):=(by omega);have hm1:out.length+1≤maxLen:=(by unfold maxLen;omega);have hm2:(out.length+1)*1≤140737488355328:=(by omega);have hlt:=O0_9.lt;go_wp2_with(at_builtin;go_must(refine wpList_append_own _ rfl _ _ 22 rfl (w.heap.size+1) 5 i _ 1 1 Tryz.underlying22 hi hz0 hz1 hz2 rfl (by omega) _ _ _ rfl (O0_9.alloc _) ⟨w9.heap.size,0,none⟩ 1 1 [.int .u8 b] rfl rfl ?_ ?_ hm1 hm2 ?_ ?_));try(case refine_1=>first|exact cell_one_new _ _ _|omega|(simp<;>omega;done)|(simp [Value.oneCell'];done))
       try(case refine_2=>first|exact cell_one_new _ _ _|omega|(simp<;>omega;done)|(simp [Value.oneCell'];done))
       try(case refine_3=>first|exact cell_one_new _ _ _|omega|(simp<;>omega;done)|(simp [Value.oneCell'];done))
       intro v10 w10 O0_10 hg10 _;have g10:=appR g9 hg10 (by omega) (fun q hq=>by have:=(hlt q hq).1;omega);have R10:=(R9.app hg10 (fun q hq=>by have:=(hlt q hq).1;omega)).mono (show _≤M+4+3*(c+1) by omega);have K0_10:Bk w10 w.heap.size 39 #[.int .i64 so,.int .i64 sl,.int .i64 sm]:=(K0_9.alloc _).grown hg10 (fun q hq=>by have:=(hlt q hq).1;omega);go_wp2;go_roundw
       case rel=>exact⟨kk - 1,c+1,out++[UInt8.ofNat (b).toNat],by go_num,by omega,by show _=_;have:=HOL.out;simp;omega,snoc_own O0_10 hb0 hb1,R10,g10,K0_10⟩
       case measure=>simp [intOf];omega
      ·skip
       have hm1:out.length+1≤maxLen:=(by unfold maxLen;omega);have hm2:(out.length+1)*1≤140737488355328:=(by omega);have hlt:=O0_9.lt;go_wp2_with(at_builtin;go_must(refine wpList_append_own _ rfl _ _ 22 rfl (w.heap.size+1) 5 i _ 1 1 Tryz.underlying22 hi hz0 hz1 hz2 rfl (by omega) _ _ _ rfl (O0_9.alloc _) ⟨w9.heap.size,0,none⟩ 1 1 [.int .u8 y] rfl rfl ?_ ?_ hm1 hm2 ?_ ?_));try(case refine_1=>first|exact cell_one_new _ _ _|omega|(simp<;>omega;done)|(simp [Value.oneCell'];done))
       try(case refine_2=>first|exact cell_one_new _ _ _|omega|(simp<;>omega;done)|(simp [Value.oneCell'];done))
       try(case refine_3=>first|exact cell_one_new _ _ _|omega|(simp<;>omega;done)|(simp [Value.oneCell'];done))
       intro v10 w10 O0_10 hg10 _;have g10:=appR g9 hg10 (by omega) (fun q hq=>by have:=(hlt q hq).1;omega);have R10:=(R9.app hg10 (fun q hq=>by have:=(hlt q hq).1;omega)).mono (show _≤M+4+3*(c+1) by omega);have K0_10:Bk w10 w.heap.size 39 #[.int .i64 so,.int .i64 sl,.int .i64 sm]:=(K0_9.alloc _).grown hg10 (fun q hq=>by have:=(hlt q hq).1;omega);go_wp2;go_roundw
       case rel=>exact⟨kk - 1,c+1,out++[UInt8.ofNat (y).toNat],by go_num,by omega,by show _=_;have:=HOL.out;simp;omega,snoc_own O0_10 hy0 hy1,R10,g10,K0_10⟩
       case measure=>simp [intOf];omega
     ·have hL0i:¬(0:Int)<out.length:=by omega
      have hm1:out.length+1≤maxLen:=(by unfold maxLen;omega);have hm2:(out.length+1)*1≤140737488355328:=(by omega);have hlt:=O0_8.lt;go_wp2_with(at_builtin;go_must(refine wpList_append_own _ rfl _ _ 22 rfl (w.heap.size+1) 5 i _ 1 1 Tryz.underlying22 hi hz0 hz1 hz2 rfl (by omega) _ _ _ rfl (O0_8.alloc _) ⟨w8.heap.size,0,none⟩ 1 1 [.int .u8 y] rfl rfl ?_ ?_ hm1 hm2 ?_ ?_));try(case refine_1=>first|exact cell_one_new _ _ _|omega|(simp<;>omega;done)|(simp [Value.oneCell'];done))
      try(case refine_2=>first|exact cell_one_new _ _ _|omega|(simp<;>omega;done)|(simp [Value.oneCell'];done))
      try(case refine_3=>first|exact cell_one_new _ _ _|omega|(simp<;>omega;done)|(simp [Value.oneCell'];done))
      intro v9 w9 O0_9 hg9 _;have g9:=appR g8 hg9 (by omega) (fun q hq=>by have:=(hlt q hq).1;omega);have R9:=(R8.app hg9 (fun q hq=>by have:=(hlt q hq).1;omega)).mono (show _≤M+4+3*(c+1) by omega);have K0_9:Bk w9 w.heap.size 39 #[.int .i64 so,.int .i64 sl,.int .i64 sm]:=(K0_8.alloc _).grown hg9 (fun q hq=>by have:=(hlt q hq).1;omega);go_wp2;go_roundw
      case rel=>exact⟨kk - 1,c+1,out++[UInt8.ofNat (y).toNat],by go_num,by omega,by show _=_;have:=HOL.out;simp;omega,snoc_own O0_9 hy0 hy1,R9,g9,K0_9⟩
      case measure=>simp [intOf];omega
    by_cases hmode1:mode=1
    ·subst hmode1
     by_cases hL1:1+pn≤out.length
     ·have hL1i:(1:Int)+pn≤out.length:=by omega
      go_wp2_with fail;refine(pick_any r _ 10 _ R8 (by omega) (by omega) (by omega)).mono ?_;rintro e w9 ⟨⟨q,rfl,hq0,hq1⟩,R9,b9⟩;have z9:=b9.size;try simp only[World.size_alloc,World.size_setCell,World.size_drew] at z9
      have K0_9:=K0_8.belowR b9 (by first|omega|(simp;done)|(simp;omega)) (by omega);have O0_9:=ownsR_keep O0_8 b9 (by omega);have g9:=g8.trans (b9.mono (by first|omega|(simp;done)|(simp;omega)));clear b9 g8 K0_8 O0_8;clear hq1;by_cases hq:0<q
      ·skip
       obtain⟨gq,capq,hv,hq1,hq2⟩:=O0_9.form (by omega);injection hv with e1 e2 e3
       subst e1;subst e3;have hidx:out.length - (1+pn)<out.length:=(by omega);have hcell:w9.cell? ⟨gq,out.length - (1+pn),none⟩=some (.int .u8 (out[out.length - (1+pn)].toNat:Int)):=(O0_9.cellAt (out.length - (1+pn)) (by omega)).trans (by simp [hidx]);have hb0:0≤(out[out.length - (1+pn)].toNat:Int):=(by omega);have hb1:(out[out.length - (1+pn)].toNat:Int)≤255:=(by have:=out[out.length - (1+pn)].toNat_lt;omega);generalize(out[out.length - (1+pn)].toNat:Int)=b at*;have hsub:(out.length:Int) - (1+(pn:Int))=((out.length - (1+pn):Nat):Int):=(by omega);have hm1:out.length+1≤maxLen:=(by unfold maxLen;omega);have hm2:(out.length+1)*1≤140737488355328:=(by omega);have hlt:=O0_9.lt;go_wp2_with(at_builtin;go_must(refine wpList_append_own _ rfl _ _ 22 rfl (w.heap.size+1) 5 i _ 1 1 Tryz.underlying22 hi hz0 hz1 hz2 rfl (by omega) _ _ _ rfl (O0_9.alloc _) ⟨w9.heap.size,0,none⟩ 1 1 [.int .u8 b] rfl rfl ?_ ?_ hm1 hm2 ?_ ?_));try(case refine_1=>first|exact cell_one_new _ _ _|omega|(simp<;>omega;done)|(simp [Value.oneCell'];done))
       try(case refine_2=>first|exact cell_one_new _ _ _|omega|(simp<;>omega;done)|(simp [Value.oneCell'];done))
       try(case refine_3=>first|exact cell_one_new _ _ _|omega|(simp<;>omega;done)|(simp [Value.oneCell'];done))
       intro v10 w10 O0_10 hg10 _;have g10:=appR g9 hg10 (by omega) (fun q hq=>by have:=(hlt q hq).1;omega);have R10:=(R9.app hg10 (fun q hq=>by have:=(hlt q hq).1;omega)).mono (show _≤M+4+3*(c+1) by omega);have K0_10:Bk w10 w.heap.size 39 #[.int .i64 so,.int .i64 sl,.int .i64 sm]:=(K0_9.alloc _).grown hg10 (fun q hq=>by have:=(hlt q hq).1;omega);go_wp2;go_roundw
       case rel=>exact⟨kk - 1,c+1,out++[UInt8.ofNat (b).toNat],by go_num,by omega,by show _=_;have:=HOL.out;simp;omega,snoc_own O0_10 hb0 hb1,R10,g10,K0_10⟩
       case measure=>simp [intOf];omega
      ·skip
       have hm1:out.length+1≤maxLen:=(by unfold maxLen;omega);have hm2:(out.length+1)*1≤140737488355328:=(by omega);have hlt:=O0_9.lt;go_wp2_with(at_builtin;go_must(refine wpList_append_own _ rfl _ _ 22 rfl (w.heap.size+1) 5 i _ 1 1 Tryz.underlying22 hi hz0 hz1 hz2 rfl (by omega) _ _ _ rfl (O0_9.alloc _) ⟨w9.heap.size,0,none⟩ 1 1 [.int .u8 y] rfl rfl ?_ ?_ hm1 hm2 ?_ ?_));try(case refine_1=>first|exact cell_one_new _ _ _|omega|(simp<;>omega;done)|(simp [Value.oneCell'];done))
       try(case refine_2=>first|exact cell_one_new _ _ _|omega|(simp<;>omega;done)|(simp [Value.oneCell'];done))
       try(case refine_3=>first|exact cell_one_new _ _ _|omega|(simp<;>omega;done)|(simp [Value.oneCell'];done))
       intro v10 w10 O0_10 hg10 _;have g10:=appR g9 hg10 (by omega) (fun q hq=>by have:=(hlt q hq).1;omega);have R10:=(R9.app hg10 (fun q hq=>by have:=(hlt q hq).1;omega)).mono (show _≤M+4+3*(c+1) by omega);have K0_10:Bk w10 w.heap.size 39 #[.int .i64 so,.int .i64 sl,.int .i64 sm]:=(K0_9.alloc _).grown hg10 (fun q hq=>by have:=(hlt q hq).1;omega);go_wp2;go_roundw
       case rel=>exact⟨kk - 1,c+1,out++[UInt8.ofNat (y).toNat],by go_num,by omega,by show _=_;have:=HOL.out;simp;omega,snoc_own O0_10 hy0 hy1,R10,g10,K0_10⟩
       case measure=>simp [intOf];omega
     ·have hL1i:¬(1:Int)+pn≤out.length:=by omega
      have hm1:out.length+1≤maxLen:=(by unfold maxLen;omega);have hm2:(out.length+1)*1≤140737488355328:=(by omega);have hlt:=O0_8.lt;go_wp2_with(at_builtin;go_must(refine wpList_append_own _ rfl _ _ 22 rfl (w.heap.size+1) 5 i _ 1 1 Tryz.underlying22 hi hz0 hz1 hz2 rfl (by omega) _ _ _ rfl (O0_8.alloc _) ⟨w8.heap.size,0,none⟩ 1 1 [.int .u8 y] rfl rfl ?_ ?_ hm1 hm2 ?_ ?_));try(case refine_1=>first|exact cell_one_new _ _ _|omega|(simp<;>omega;done)|(simp [Value.oneCell'];done))
      try(case refine_2=>first|exact cell_one_new _ _ _|omega|(simp<;>omega;done)|(simp [Value.oneCell'];done))
      try(case refine_3=>first|exact cell_one_new _ _ _|omega|(simp<;>omega;done)|(simp [Value.oneCell'];done))
      intro v9 w9 O0_9 hg9 _;have g9:=appR g8 hg9 (by omega) (fun q hq=>by have:=(hlt q hq).1;omega);have R9:=(R8.app hg9 (fun q hq=>by have:=(hlt q hq).1;omega)).mono (show _≤M+4+3*(c+1) by omega);have K0_9:Bk w9 w.heap.size 39 #[.int .i64 so,.int .i64 sl,.int .i64 sm]:=(K0_8.alloc _).grown hg9 (fun q hq=>by have:=(hlt q hq).1;omega);go_wp2;go_roundw
      case rel=>exact⟨kk - 1,c+1,out++[UInt8.ofNat (y).toNat],by go_num,by omega,by show _=_;have:=HOL.out;simp;omega,snoc_own O0_9 hy0 hy1,R9,g9,K0_9⟩
      case measure=>simp [intOf];omega
    have hm0b:(mode==0)=false:=(by rw[beq_eq_false_iff_ne];exact hmode0);have hm1b:(mode==1)=false:=(by rw[beq_eq_false_iff_ne];exact hmode1);clear hmode0 hmode1;have hm1:out.length+1≤maxLen:=(by unfold maxLen;omega);have hm2:(out.length+1)*1≤140737488355328:=(by omega);have hlt:=O0_8.lt;go_wp2_with(at_builtin;go_must(refine wpList_append_own _ rfl _ _ 22 rfl (w.heap.size+1) 5 i _ 1 1 Tryz.underlying22 hi hz0 hz1 hz2 rfl (by omega) _ _ _ rfl (O0_8.alloc _) ⟨w8.heap.size,0,none⟩ 1 1 [.int .u8 y] rfl rfl ?_ ?_ hm1 hm2 ?_ ?_));try(case refine_1=>first|exact cell_one_new _ _ _|omega|(simp<;>omega;done)|(simp [Value.oneCell'];done))
    try(case refine_2=>first|exact cell_one_new _ _ _|omega|(simp<;>omega;done)|(simp [Value.oneCell'];done))
    try(case refine_3=>first|exact cell_one_new _ _ _|omega|(simp<;>omega;done)|(simp [Value.oneCell'];done))
    intro v9 w9 O0_9 hg9 _;have g9:=appR g8 hg9 (by omega) (fun q hq=>by have:=(hlt q hq).1;omega);have R9:=(R8.app hg9 (fun q hq=>by have:=(hlt q hq).1;omega)).mono (show _≤M+4+3*(c+1) by omega);have K0_9:Bk w9 w.heap.size 39 #[.int .i64 so,.int .i64 sl,.int .i64 sm]:=(K0_8.alloc _).grown hg9 (fun q hq=>by have:=(hlt q hq).1;omega);go_wp2;go_roundw
    case rel=>exact⟨kk - 1,c+1,out++[UInt8.ofNat (y).toNat],by go_num,by omega,by show _=_;have:=HOL.out;simp;omega,snoc_own O0_9 hy0 hy1,R9,g9,K0_9⟩
    case measure=>simp [intOf];omega
   ·have hcv:=yH O0_7
    have hki:¬(0:Int)<kk:=(by omega);go_wp2;go_ret;exact⟨⟨out,rfl,hol3⟩,R7.mono (by omega),g7⟩
 ·obtain⟨part,hpart,hpt_1,hpart2⟩:∃part:Int,cl=part∧1≤part∧part≤256:=⟨_,rfl,by omega,by omega⟩
  subst hpart;go_wp2_with fail;refine(pick_any r _ 7 _ R4 (by omega) (by omega) (by omega)).mono ?_;rintro e w5 ⟨⟨pd,rfl,hpd0,hpd1⟩,R5,b5⟩;have z5:=b5.size;try simp only[World.size_alloc,World.size_setCell,World.size_drew] at z5
  have K0_5:=K0_4.belowR b5 (by first|omega|(simp;done)|(simp;omega)) (by omega);have O0_5:=ownsR_keep O0_4 b5 (by omega);have g5:=g4.trans (b5.mono (by first|omega|(simp;done)|(simp;omega)));clear b5 g4 K0_4 O0_4;obtain⟨pn,rfl⟩:=Int.eq_ofNat_of_zero_le hpd0;have hpn:pn≤6:=(by omega);clear hpd0 hpd1;go_wp2_with fail;refine(pick_any r _ 4 _ R5 (by omega) (by omega) (by omega)).mono ?_;rintro e w6 ⟨⟨mode,rfl,hmd0,hmd1⟩,R6,b6⟩;have z6:=b6.size;try simp only[World.size_alloc,World.size_setCell,World.size_drew] at z6
  have K0_6:=K0_5.belowR b6 (by first|omega|(simp;done)|(simp;omega)) (by omega);have O0_6:=ownsR_keep O0_5 b6 (by omega);have g6:=g5.trans (b6.mono (by first|omega|(simp;done)|(simp;omega)));clear b6 g5 K0_5 O0_5;have hmd2:mode≤3:=(by omega);clear hmd1;go_wp2_with fail;refine(pick_any r _ _ _ R6 (by omega) (by omega) (by omega)).mono ?_;rintro e w7 ⟨⟨n0,rfl,hn0,hn1⟩,R7,b7⟩;have z7:=b7.size;try simp only[World.size_alloc,World.size_setCell,World.size_drew] at z7
  have K0_7:=K0_6.belowR b7 (by first|omega|(simp;done)|(simp;omega)) (by omega);have O0_7:=ownsR_keep O0_6 b7 (by omega);have g7:=g6.trans (b7.mono (by first|omega|(simp;done)|(simp;omega)));clear b7 g6 K0_6 O0_6;obtain⟨n,rfl⟩:=Int.eq_ofNat_of_zero_le hn0;have hnm:n≤most:=(by omega);clear hn0 hn1;go_wp2;go_loopw [7,11] (fun v a wr=>∃(kk c:Nat) (out:Bs),a= .int .i64 (kk:Int)∧c+kk=n∧Go.RowKit.Hid (out.length=c)∧wr.ownsRow (w.heap.size+1) 5 1 v out.length (out.map u8v)∧Rd wr r (M+4+3*c)∧BelowR w.heap.size r w wr∧Bk wr w.heap.size 39 #[.int .i64 so,.int .i64 sl,.int .i64 sm]) (fun _ a _=>(intOf a).toNat)
  case atStart=>exact⟨n,0,[],rfl,by omega,rfl,O0_7,R7.mono (by omega),g7,K0_7⟩
  case round=>
   obtain⟨kk,c,out,rfl,hck,HOL,O0_7,R7,g7,K0_7⟩:=hrel;obtain⟨A7,cap7,rfl,_⟩:=Sl.sN O0_7;have hol2:out.length=c:=HOL.out;have hol3:out.length≤most:=(by omega);have z7:w.heap.size+1≤wr.heap.size:=K0_7.lt;clear hol2;by_cases hk:0<kk
   ·have hki:(0:Int)<kk:=by omega
    obtain⟨w7,hw7⟩:∃w7,wr=w7:=⟨_,rfl⟩;subst hw7;go_wp2_with fail;refine(pick_any r _ 256 _ R7 (by omega) (by omega) (by omega)).mono ?_;rintro e w8 ⟨⟨x,rfl,hx0,hx1⟩,R8,b8⟩;have z8:=b8.size;try simp only[World.size_alloc,World.size_setCell,World.size_drew] at z8
    have K0_8:=K0_7.belowR b8 (by first|omega|(simp;done)|(simp;omega)) (by omega);have O0_8:=ownsR_keep O0_7 b8 (by omega);have g8:=g7.trans (b8.mono (by first|omega|(simp;done)|(simp;omega)));clear b8 g7 K0_7 O0_7;have hx2:=tmod_bd x cl hx0 hpt_1;have hx3:x % cl≤255:=(by omega);have hx4:=hx2.1;clear hx1 hx2;have hpz:cl≠0:=(by omega);obtain⟨y,hy,hy0,hy1⟩:∃y:Int,x % cl=y∧0≤y∧y≤255:=⟨_,rfl,hx4,hx3⟩;clear hx3 hx4;by_cases hmode0:mode=0
    ·subst hmode0
     by_cases hL0:0<out.length
     ·have hL0i:(0:Int)<out.length:=by omega
      go_wp2_with fail;refine(pick_any r _ 4 _ R8 (by omega) (by omega) (by omega)).mono ?_;rintro e w9 ⟨⟨q,rfl,hq0,hq1⟩,R9,b9⟩;have z9:=b9.size;try simp only[World.size_alloc,World.size_setCell,World.size_drew] at z9
      have K0_9:=K0_8.belowR b9 (by first|omega|(simp;done)|(simp;omega)) (by omega);have O0_9:=ownsR_keep O0_8 b9 (by omega);have g9:=g8.trans (b9.mono (by first|omega|(simp;done)|(simp;omega)));clear b9 g8 K0_8 O0_8;clear hq1;by_cases hq:0<q
      ·skip
       obtain⟨gq,capq,hv,hq1,hq2⟩:=O0_9.form (by omega);injection hv with e1 e2 e3
       subst e1;subst e3;have hidx:out.length - 1<out.length:=(by omega);have hcell:w9.cell? ⟨gq,out.length - 1,none⟩=some (.int .u8 (out[out.length - 1].toNat:Int)):=(O0_9.cellAt (out.length - 1) (by omega)).trans (by simp [hidx]);have hb0:0≤(out[out.length - 1].toNat:Int):=(by omega);have hb1:(out[out.length - 1].toNat:Int)≤255:=(by have:=out[out.length - 1].toNat_lt;omega);generalize(out[out.length - 1].toNat:Int)=b at*;have hsub:(out.length:Int) - 1=((out.length - 1:Nat):Int):=(by omega);have hm1:out.length+1≤maxLen:=(by unfold maxLen;omega);have hm2:(out.length+1)*1≤140737488355328:=(by omega);have hlt:=O0_9.lt;go_wp2_with(at_builtin;go_must(refine wpList_append_own _ rfl _ _ 22 rfl (w.heap.size+1) 5 i _ 1 1 Tryz.underlying22 hi hz0 hz1 hz2 rfl (by omega) _ _ _ rfl (O0_9.alloc _) ⟨w9.heap.size,0,none⟩ 1 1 [.int .u8 b] rfl rfl ?_ ?_ hm1 hm2 ?_ ?_));try(case refine_1=>first|exact cell_one_new _ _ _|omega|(simp<;>omega;done)|(simp [Value.oneCell'];done))
       try(case refine_2=>first|exact cell_one_new _ _ _|omega|(simp<;>omega;done)|(simp [Value.oneCell'];done))
       try(case refine_3=>first|exact cell_one_new _ _ _|omega|(simp<;>omega;done)|(simp [Value.oneCell'];done))
       intro v10 w10 O0_10 hg10 _;have g10:=appR g9 hg10 (by omega) (fun q hq=>by have:=(hlt q hq).1;omega);have R10:=(R9.app hg10 (fun q hq=>by have:=(hlt q hq).1;omega)).mono (show _≤M+4+3*(c+1) by omega);have K0_10:Bk w10 w.heap.size 39 #[.int .i64 so,.int .i64 sl,.int .i64 sm]:=(K0_9.alloc _).grown hg10 (fun q hq=>by have:=(hlt q hq).1;omega);go_wp2;go_roundw
       case rel=>exact⟨kk - 1,c+1,out++[UInt8.ofNat (b).toNat],by go_num,by omega,by show _=_;have:=HOL.out;simp;omega,snoc_own O0_10 hb0 hb1,R10,g10,K0_10⟩
       case measure=>simp [intOf];omega
      ·skip
       have hm1:out.length+1≤maxLen:=(by unfold maxLen;omega);have hm2:(out.length+1)*1≤140737488355328:=(by omega);have hlt:=O0_9.lt;go_wp2_with(at_builtin;go_must(refine wpList_append_own _ rfl _ _ 22 rfl (w.heap.size+1) 5 i _ 1 1 Tryz.underlying22 hi hz0 hz1 hz2 rfl (by omega) _ _ _ rfl (O0_9.alloc _) ⟨w9.heap.size,0,none⟩ 1 1 [.int .u8 y] rfl rfl ?_ ?_ hm1 hm2 ?_ ?_));try(case refine_1=>first|exact cell_one_new _ _ _|omega|(simp<;>omega;done)|(simp [Value.oneCell'];done))
       try(case refine_2=>first|exact cell_one_new _ _ _|omega|(simp<;>omega;done)|(simp [Value.oneCell'];done))
       try(case refine_3=>first|exact cell_one_new _ _ _|omega|(simp<;>omega;done)|(simp [Value.oneCell'];done))
       intro v10 w10 O0_10 hg10 _;have g10:=appR g9 hg10 (by omega) (fun q hq=>by have:=(hlt q hq).1;omega);have R10:=(R9.app hg10 (fun q hq=>by have:=(hlt q hq).1;omega)).mono (show _≤M+4+3*(c+1) by omega);have K0_10:Bk w10 w.heap.size 39 #[.int .i64 so,.int .i64 sl,.int .i64 sm]:=(K0_9.alloc _).grown hg10 (fun q hq=>by have:=(hlt q hq).1;omega);go_wp2;go_roundw
       case rel=>exact⟨kk - 1,c+1,out++[UInt8.ofNat (y).toNat],by go_num,by omega,by show _=_;have:=HOL.out;simp;omega,snoc_own O0_10 hy0 hy1,R10,g10,K0_10⟩
       case measure=>simp [intOf];omega
     ·have hL0i:¬(0:Int)<out.length:=by omega
      have hm1:out.length+1≤maxLen:=(by unfold maxLen;omega);have hm2:(out.length+1)*1≤140737488355328:=(by omega);have hlt:=O0_8.lt;go_wp2_with(at_builtin;go_must(refine wpList_append_own _ rfl _ _ 22 rfl (w.heap.size+1) 5 i _ 1 1 Tryz.underlying22 hi hz0 hz1 hz2 rfl (by omega) _ _ _ rfl (O0_8.alloc _) ⟨w8.heap.size,0,none⟩ 1 1 [.int .u8 y] rfl rfl ?_ ?_ hm1 hm2 ?_ ?_));try(case refine_1=>first|exact cell_one_new _ _ _|omega|(simp<;>omega;done)|(simp [Value.oneCell'];done))
      try(case refine_2=>first|exact cell_one_new _ _ _|omega|(simp<;>omega;done)|(simp [Value.oneCell'];done))
      try(case refine_3=>first|exact cell_one_new _ _ _|omega|(simp<;>omega;done)|(simp [Value.oneCell'];done))
      intro v9 w9 O0_9 hg9 _;have g9:=appR g8 hg9 (by omega) (fun q hq=>by have:=(hlt q hq).1;omega);have R9:=(R8.app hg9 (fun q hq=>by have:=(hlt q hq).1;omega)).mono (show _≤M+4+3*(c+1) by omega);have K0_9:Bk w9 w.heap.size 39 #[.int .i64 so,.int .i64 sl,.int .i64 sm]:=(K0_8.alloc _).grown hg9 (fun q hq=>by have:=(hlt q hq).1;omega);go_wp2;go_roundw
      case rel=>exact⟨kk - 1,c+1,out++[UInt8.ofNat (y).toNat],by go_num,by omega,by show _=_;have:=HOL.out;simp;omega,snoc_own O0_9 hy0 hy1,R9,g9,K0_9⟩
      case measure=>simp [intOf];omega
    by_cases hmode1:mode=1
    ·subst hmode1
     by_cases hL1:1+pn≤out.length
     ·have hL1i:(1:Int)+pn≤out.length:=by omega
      go_wp2_with fail;refine(pick_any r _ 10 _ R8 (by omega) (by omega) (by omega)).mono ?_;rintro e w9 ⟨⟨q,rfl,hq0,hq1⟩,R9,b9⟩;have z9:=b9.size;try simp only[World.size_alloc,World.size_setCell,World.size_drew] at z9
      have K0_9:=K0_8.belowR b9 (by first|omega|(simp;done)|(simp;omega)) (by omega);have O0_9:=ownsR_keep O0_8 b9 (by omega);have g9:=g8.trans (b9.mono (by first|omega|(simp;done)|(simp;omega)));clear b9 g8 K0_8 O0_8;clear hq1;by_cases hq:0<q
      ·skip
       obtain⟨gq,capq,hv,hq1,hq2⟩:=O0_9.form (by omega);injection hv with e1 e2 e3
       subst e1;subst e3;have hidx:out.length - (1+pn)<out.length:=(by omega);have hcell:w9.cell? ⟨gq,out.length - (1+pn),none⟩=some (.int .u8 (out[out.length - (1+pn)].toNat:Int)):=(O0_9.cellAt (out.length - (1+pn)) (by omega)).trans (by simp [hidx]);have hb0:0≤(out[out.length - (1+pn)].toNat:Int):=(by omega);have hb1:(out[out.length - (1+pn)].toNat:Int)≤255:=(by have:=out[out.length - (1+pn)].toNat_lt;omega);generalize(out[out.length - (1+pn)].toNat:Int)=b at*;have hsub:(out.length:Int) - (1+(pn:Int))=((out.length - (1+pn):Nat):Int):=(by omega);have hm1:out.length+1≤maxLen:=(by unfold maxLen;omega);have hm2:(out.length+1)*1≤140737488355328:=(by omega);have hlt:=O0_9.lt;go_wp2_with(at_builtin;go_must(refine wpList_append_own _ rfl _ _ 22 rfl (w.heap.size+1) 5 i _ 1 1 Tryz.underlying22 hi hz0 hz1 hz2 rfl (by omega) _ _ _ rfl (O0_9.alloc _) ⟨w9.heap.size,0,none⟩ 1 1 [.int .u8 b] rfl rfl ?_ ?_ hm1 hm2 ?_ ?_));try(case refine_1=>first|exact cell_one_new _ _ _|omega|(simp<;>omega;done)|(simp [Value.oneCell'];done))
       try(case refine_2=>first|exact cell_one_new _ _ _|omega|(simp<;>omega;done)|(simp [Value.oneCell'];done))
       try(case refine_3=>first|exact cell_one_new _ _ _|omega|(simp<;>omega;done)|(simp [Value.oneCell'];done))
       intro v10 w10 O0_10 hg10 _;have g10:=appR g9 hg10 (by omega) (fun q hq=>by have:=(hlt q hq).1;omega);have R10:=(R9.app hg10 (fun q hq=>by have:=(hlt q hq).1;omega)).mono (show _≤M+4+3*(c+1) by omega);have K0_10:Bk w10 w.heap.size 39 #[.int .i64 so,.int .i64 sl,.int .i64 sm]:=(K0_9.alloc _).grown hg10 (fun q hq=>by have:=(hlt q hq).1;omega);go_wp2;go_roundw
       case rel=>exact⟨kk - 1,c+1,out++[UInt8.ofNat (b).toNat],by go_num,by omega,by show _=_;have:=HOL.out;simp;omega,snoc_own O0_10 hb0 hb1,R10,g10,K0_10⟩
       case measure=>simp [intOf];omega
      ·skip
       have hm1:out.length+1≤maxLen:=(by unfold maxLen;omega);have hm2:(out.length+1)*1≤140737488355328:=(by omega);have hlt:=O0_9.lt;go_wp2_with(at_builtin;go_must(refine wpList_append_own _ rfl _ _ 22 rfl (w.heap.size+1) 5 i _ 1 1 Tryz.underlying22 hi hz0 hz1 hz2 rfl (by omega) _ _ _ rfl (O0_9.alloc _) ⟨w9.heap.size,0,none⟩ 1 1 [.int .u8 y] rfl rfl ?_ ?_ hm1 hm2 ?_ ?_));try(case refine_1=>first|exact cell_one_new _ _ _|omega|(simp<;>omega;done)|(simp [Value.oneCell'];done))
       try(case refine_2=>first|exact cell_one_new _ _ _|omega|(simp<;>omega;done)|(simp [Value.oneCell'];done))
       try(case refine_3=>first|exact cell_one_new _ _ _|omega|(simp<;>omega;done)|(simp [Value.oneCell'];done))
       intro v10 w10 O0_10 hg10 _;have g10:=appR g9 hg10 (by omega) (fun q hq=>by have:=(hlt q hq).1;omega);have R10:=(R9.app hg10 (fun q hq=>by have:=(hlt q hq).1;omega)).mono (show _≤M+4+3*(c+1) by omega);have K0_10:Bk w10 w.heap.size 39 #[.int .i64 so,.int .i64 sl,.int .i64 sm]:=(K0_9.alloc _).grown hg10 (fun q hq=>by have:=(hlt q hq).1;omega);go_wp2;go_roundw
       case rel=>exact⟨kk - 1,c+1,out++[UInt8.ofNat (y).toNat],by go_num,by omega,by show _=_;have:=HOL.out;simp;omega,snoc_own O0_10 hy0 hy1,R10,g10,K0_10⟩
       case measure=>simp [intOf];omega
     ·have hL1i:¬(1:Int)+pn≤out.length:=by omega
      have hm1:out.length+1≤maxLen:=(by unfold maxLen;omega);have hm2:(out.length+1)*1≤140737488355328:=(by omega);have hlt:=O0_8.lt;go_wp2_with(at_builtin;go_must(refine wpList_append_own _ rfl _ _ 22 rfl (w.heap.size+1) 5 i _ 1 1 Tryz.underlying22 hi hz0 hz1 hz2 rfl (by omega) _ _ _ rfl (O0_8.alloc _) ⟨w8.heap.size,0,none⟩ 1 1 [.int .u8 y] rfl rfl ?_ ?_ hm1 hm2 ?_ ?_));try(case refine_1=>first|exact cell_one_new _ _ _|omega|(simp<;>omega;done)|(simp [Value.oneCell'];done))
      try(case refine_2=>first|exact cell_one_new _ _ _|omega|(simp<;>omega;done)|(simp [Value.oneCell'];done))
      try(case refine_3=>first|exact cell_one_new _ _ _|omega|(simp<;>omega;done)|(simp [Value.oneCell'];done))
      intro v9 w9 O0_9 hg9 _;have g9:=appR g8 hg9 (by omega) (fun q hq=>by have:=(hlt q hq).1;omega);have R9:=(R8.app hg9 (fun q hq=>by have:=(hlt q hq).1;omega)).mono (show _≤M+4+3*(c+1) by omega);have K0_9:Bk w9 w.heap.size 39 #[.int .i64 so,.int .i64 sl,.int .i64 sm]:=(K0_8.alloc _).grown hg9 (fun q hq=>by have:=(hlt q hq).1;omega);go_wp2;go_roundw
      case rel=>exact⟨kk - 1,c+1,out++[UInt8.ofNat (y).toNat],by go_num,by omega,by show _=_;have:=HOL.out;simp;omega,snoc_own O0_9 hy0 hy1,R9,g9,K0_9⟩
      case measure=>simp [intOf];omega
    have hm0b:(mode==0)=false:=(by rw[beq_eq_false_iff_ne];exact hmode0);have hm1b:(mode==1)=false:=(by rw[beq_eq_false_iff_ne];exact hmode1);clear hmode0 hmode1;have hm1:out.length+1≤maxLen:=(by unfold maxLen;omega);have hm2:(out.length+1)*1≤140737488355328:=(by omega);have hlt:=O0_8.lt;go_wp2_with(at_builtin;go_must(refine wpList_append_own _ rfl _ _ 22 rfl (w.heap.size+1) 5 i _ 1 1 Tryz.underlying22 hi hz0 hz1 hz2 rfl (by omega) _ _ _ rfl (O0_8.alloc _) ⟨w8.heap.size,0,none⟩ 1 1 [.int .u8 y] rfl rfl ?_ ?_ hm1 hm2 ?_ ?_));try(case refine_1=>first|exact cell_one_new _ _ _|omega|(simp<;>omega;done)|(simp [Value.oneCell'];done))
    try(case refine_2=>first|exact cell_one_new _ _ _|omega|(simp<;>omega;done)|(simp [Value.oneCell'];done))
    try(case refine_3=>first|exact cell_one_new _ _ _|omega|(simp<;>omega;done)|(simp [Value.oneCell'];done))
    intro v9 w9 O0_9 hg9 _;have g9:=appR g8 hg9 (by omega) (fun q hq=>by have:=(hlt q hq).1;omega);have R9:=(R8.app hg9 (fun q hq=>by have:=(hlt q hq).1;omega)).mono (show _≤M+4+3*(c+1) by omega);have K0_9:Bk w9 w.heap.size 39 #[.int .i64 so,.int .i64 sl,.int .i64 sm]:=(K0_8.alloc _).grown hg9 (fun q hq=>by have:=(hlt q hq).1;omega);go_wp2;go_roundw
    case rel=>exact⟨kk - 1,c+1,out++[UInt8.ofNat (y).toNat],by go_num,by omega,by show _=_;have:=HOL.out;simp;omega,snoc_own O0_9 hy0 hy1,R9,g9,K0_9⟩
    case measure=>simp [intOf];omega
   ·have hcv:=yH O0_7
    have hki:¬(0:Int)<kk:=(by omega);go_wp2;go_ret;exact⟨⟨out,rfl,hol3⟩,R7.mono (by omega),g7⟩
theorem l1Data_any (r M most:Nat)(so sl sm:Int)(w:World)(hR:Rd w r M)(hM:M≤50000000)(hmost:most≤10000)(hst:vW so sl sm):
 Calls Tryz.prog 124 #[.pointer (some ⟨r,0,none⟩),.agg #[.int .i64 so,.int .i64 sl,.int .i64 sm],.int .i64 (most:Int)] w fun e w'=>(∃d:Bs,e= .returned (sv d)∧d.length≤most)∧Rd w' r (M+4+3*most)∧BelowR w.heap.size r w w':=
 l1Data_w r M most so sl sm w hR hM hmost ⟨by have:=hst.2.1;omega,hst.2.2.1⟩
end Go.Proofs.YtfppmajoidkooaaGreatDoor
namespace Go.Proofs.YtfppmajoidkooaaGreatDoor
open Go.RowKit
set_option linter.unusedSimpArgs false
set_option linter.unusedVariables false
set_option maxRecDepth 100000
attribute [local go_sem high] zy zA zB zO zK zY zx zk zl zq zi zo yP zD yt zF
theorem l5Wild_w (r M most:Nat)(so sl sm:Int)(w:World)(hR:Rd w r M)(hM:M≤40000000)(hmost:most≤10000)(hst:0≤sl∧sl≤8):
 Calls Tryz.prog 120 #[.pointer (some ⟨r,0,none⟩),.agg #[.int .i64 so,.int .i64 sl,.int .i64 sm],.int .i64 (most:Int)] w fun e w'=>(∃d:Bs,e= .returned (sv d)∧d.length≤most+6)∧Rd w' r (M+12+3*most)∧BelowR w.heap.size r w w':=by
 have hr:=hR.lt;have K0_0:=Bk.new w #[.int .i64 so,.int .i64 sl,.int .i64 sm] 39;have R0:=hR.alloc (.cells #[.int .i64 so,.int .i64 sl,.int .i64 sm] 39);have g0:BelowR w.heap.size r w (w.alloc (.cells #[.int .i64 so,.int .i64 sl,.int .i64 sm] 39)):=below_toR zu r;go_enter Tryz.func120,Tryz.ntmps120;go_wp2_with fail;refine(l1Data_w r M most so sl sm _ R0 (by omega) hmost hst).mono ?_;rintro e w1 ⟨⟨d,rfl,hd⟩,R1,b1⟩;have z1:=b1.size;try simp only[World.size_alloc,World.size_setCell,World.size_drew] at z1
 have K0_1:=K0_0.belowR b1 (by first|omega|(simp;done)|(simp;omega)) (by omega);have g1:=g0.trans (b1.mono (by first|omega|(simp;done)|(simp;omega)));clear b1 g0 K0_0;go_wp2_with fail;refine(pick_any r _ 5 _ R1 (by omega) (by omega) (by omega)).mono ?_;rintro e w2 ⟨⟨v,rfl,hv0,hv1⟩,R2,b2⟩;have z2:=b2.size;try simp only[World.size_alloc,World.size_setCell,World.size_drew] at z2
 have K0_2:=K0_1.belowR b2 (by first|omega|(simp;done)|(simp;omega)) (by omega);have g2:=g1.trans (b2.mono (by first|omega|(simp;done)|(simp;omega)));clear b2 g1 K0_1;by_cases hv:v=0
 ·subst hv
  go_wp2_with fail;refine(l1Bytes_any r _ 6 _ R2 (by omega) (by omega)).mono ?_;rintro e w3 ⟨⟨d2,rfl,hd2⟩,R3,b3⟩;have z3:=b3.size;try simp only[World.size_alloc,World.size_setCell,World.size_drew] at z3
  have K0_3:=K0_2.belowR b3 (by first|omega|(simp;done)|(simp;omega)) (by omega);have g3:=g2.trans (b3.mono (by first|omega|(simp;done)|(simp;omega)));clear b3 g2 K0_2;go_wp2;go_ret;exact⟨⟨d++d2,rfl,by simp;omega⟩,R3.mono (by omega),g3⟩
 ·have hvb:(v==0)=false:=by rw[beq_eq_false_iff_ne];exact hv
  go_wp2;go_ret;exact⟨⟨d,rfl,by omega⟩,R2.mono (by omega),g2⟩
end Go.Proofs.YtfppmajoidkooaaGreatDoor
