import Derived.Test.YtoedhpcmgondjaaGreatDoorYJ31
import Derived.Laws.NewBlocks
set_option linter.all false
set_option maxHeartbeats 8000000
namespace Go.Proofs.YtoedhpcmgondjaaGreatDoor
open Go.RowKit Go.Proofs.Tryz
set_option maxRecDepth 100000
attribute [local go_sem high] zG zF zH zV zN yu zD zl zn zt zi zu y9 zK yE zJ
theorem Ui {w:World}{b:Nat}{t:TypeId}{cs:Array Value}(h:Bk w b t cs):w.shape? b=some (t,cs.size):=by
 unfold Bk at h;simp [World.shape?,h]
theorem zc2 (x y:Value)(k:Nat):(Builtin.zeroCells #[x,y] k).size=k*2:=by simp [Builtin.zeroCells]
theorem U9 {w:World}{g n size:Nat}{t:TypeId}{cur:Array Value}{xs:List Value}(a:w.heap[g]? =some (.cells cur t (0,0)))(b:cur.toList.take (n*size)=xs)(j:Nat)(v:Value)(h:xs[j]? =some v):w.cell? ⟨g,j,none⟩=some v:=by
 rw[cell_of_row w g j cur t (0,0) a];rw[←b,List.getElem?_take] at h;split at h
 ·simpa using h
 ·cases h
theorem TN (A:Option Addr)(n c p m B:Nat)(xs:List Value)(a s:Value)(w:World)(I:w.ownsRow B 60 2 (.slice A n c) n xs)(y:Bk w m 60 #[a,s])(a9:∀k,(Value.slice A n c).ownBlock=some k→k≠m)
 (hp:p≤n) (hn:n≤1000) (h1:∀u ∈ xs,u.oneCell'=true) (d5:a.oneCell'=true) (hs:s.oneCell'=true) (E:B≤w.heap.size):
 Calls prog 45 #[.slice A n c,.int .i64 (p:Int),.slice (some ⟨m,0,none⟩) 1 1] w fun e w'=>∃A' c',e= .returned (.slice A' (n+1) c')∧w'.ownsRow B 60 2 (.slice A' (n+1) c') (n+1) (xs.take (p*2)++[a,s]++xs.drop (p*2))∧Below B w w':=by
 obtain⟨i,J,V,K,O⟩:=info_parts mG;have mixed:prog.follows .mixedOrders=true:=kr;have c5:=y.lt;have Y:Sl w (some ⟨m,0,none⟩) 1 1 2 [a,s]:=⟨Nat.le_refl _,by omega,rfl,fun _=>⟨m,0,rfl,c5,fun j u Q=>by rw[Nat.zero_add];exact(y.cell j).trans (by simpa using Q)⟩⟩;have R:∀u ∈ [a,s],u.oneCell'=true:=by
  intro u Q;simp only[List.mem_cons,List.not_mem_nil,or_false] at Q;rcases Q with rfl|rfl
  ·exact d5
  ·exact hs
 have Z:xs.length=n*2:=I.1;by_cases d7:p=n
 ·subst d7
  have c7:p+1≤maxLen:=(by unfold maxLen;omega);have c8:(p+1)*32≤140737488355328:=oo;have he:xs.take (p*2)++[a,s]++xs.drop (p*2)=xs++[a,s]:=(by rw[List.take_of_length_le (by omega),List.drop_of_length_le (by omega),List.append_nil]);rw[he];clear he;have hk:=fun k hk=>(I.lt k hk).1;have f5:p≤c:=by
   rcases I.2 with⟨S,h0⟩|⟨g,cap,cur,S,_,_,h2,_⟩
   ·omega
   ·injection S with _ _ h3;omega
  have a':c≤9223372036854775807:=by
   rcases I.2 with⟨S,h0⟩|⟨g,cap,cur,S,_,_,_,h2,_⟩
   ·injection S with _ _ h3;omega
   ·injection S with _ _ h3;unfold maxLen at h2;omega
  cases A with
  |none=>
   go_enter func45,ntmps45;go_wp2_with(at_builtin;go_must(refine zT _ rfl _ _ 27 rfl B 60 i _ 2 32 underlying27 J V K O rfl oo _ _ _ rfl I _ 1 1 [a,s] rfl Y R c7 c8 ?_ ?_))
   ·exact E
   intro A6 c6 w6 o6 b3 _;have g6:=(Below.refl B w).grown b3 E hk;go_wp2;go_ret;exact⟨A6,c6,rfl,o6,g6⟩
  |some ad=>
   by_cases f7:c=p
   all_goals
    go_enter func45,ntmps45;go_wp2_with(at_builtin;go_must(refine zT _ rfl _ _ 27 rfl B 60 i _ 2 32 underlying27 J V K O rfl oo _ _ _ rfl I _ 1 1 [a,s] rfl Y R c7 c8 ?_ ?_))
    ·exact E
    intro A6 c6 w6 o6 b3 _;have g6:=(Below.refl B w).grown b3 E hk;go_wp2;go_ret;exact⟨A6,c6,rfl,o6,g6⟩
 have f8:p<n:=oo;obtain⟨_,d9⟩:=I;rcases d9 with⟨_,h0⟩|⟨g,cap,cur,hA,b6,F,f9,a',b7,a0⟩
 ·omega
 injection hA with hA _ hc
 subst hA hc;have d0:g≠m:=a9 g rfl;have f':c≤9223372036854775807:=(by unfold maxLen at a';omega);have T:(prog.info? 60).map (·.size)=some 2:=(by rw[J];simp [K]);have W:=fun j v a1=>U9 (n:=n) (size:=2) F a0 j v a1;have a2:cur.toList.length=c*2:=(by simpa using b7);have U:(xs.drop (p*2)).length=(n - p)*2:=(by rw[List.length_drop];omega);have a3:∀u ∈ xs.drop (p*2),u.oneCell'=true:=fun u Q=>h1 u (List.mem_of_mem_drop Q);have g0:IntKind.i64.wrap ((p:Int)+1)=(p:Int)+1:=(by rw[IntKind.wrap_i64];omega);have g1:IntKind.i64.wrap ((n:Int)+1)=(n:Int)+1:=(by rw[IntKind.wrap_i64];omega);have g2:¬((p:Int)=(n:Int)):=oo;have g3:(0:Int)≤(p:Int)+1:=oo;have g4:((p:Int)+1).toNat=p+1:=oo;have g5:((n:Int)+1).toNat=n+1:=oo;by_cases d':n+1≤c
 ·
  have e0:∀b8 lb cb,(callFunc 71 #[.slice (some ⟨m,0,none⟩) 1 1,.slice (some ⟨g,b8,none⟩) lb cb]).run prog w= .ok (.value (.bool false)) w:=fun b8 lb cb=>by
   rw[run_callFunc_extern func71 (by kernel_rfl) (by kernel_rfl) (by kernel_rfl) (e:=Extern.SlicesOverlaps.overlaps #[27,27] #[4]) (by kernel_rfl),
    Lib.run_overlaps_apart w 27 4 60 underlying27 2 (fun w=>by simp [Go.sizeOf,typeInfo,J,K]) ⟨m,0,none⟩ ⟨g,b8,none⟩ 1 1 lb cb (Ne.symm d0) _ _ _ _ (Ui y) (Ui (t:=60) (cs:=cur) F) (by omega) (y.free 0) (y.free _)]
   rfl
  obtain⟨d,z⟩:∃d,d=cur.toList.take ((p+1)*2)++xs.drop (p*2)++cur.toList.drop ((p+1)*2+(xs.drop (p*2)).length):=⟨_,rfl⟩;obtain⟨f,r⟩:∃f,f=w.drew.setRow g d.toArray:=⟨_,rfl⟩;have e1:∀b h L,(Builtin.copy_ #[27,27] b #[.slice (some ⟨g,(p+1)*2,none⟩) (n - p) h,.slice (some ⟨g,p*2,none⟩) (n+1 - p) L]).run prog w.drew= .ok (goInt (Nat.min (n+1 - p) (n - p))) f:=fun b h L=>by
   rw[r,z];exact qi w.drew _ _ b _ g ((p+1)*2) (n - p) h ⟨g,p*2,none⟩ (n+1 - p) L cur _ (xs.drop (p*2)) 2 underlying27 T F (by rw[U,show Nat.min (n+1 - p) (n - p)=n - p by simp only[Nat.min_def];split<;>omega])
    (fun j v q=>by rw[Addr.add_lit];exact W (p*2+j) v (by rwa [List.getElem?_drop] at q)) (by rw[U];omega) a3
  have M:f.heap[g]? =some (.cells d.toArray 60 (0,0)):=(by rw[r];exact setRow_heap w.drew g cur _ _ _ F);have H:d.length=c*2:=(by rw[z];simp only[List.length_append,List.length_take,List.length_drop,a2];omega);obtain⟨C,N⟩:∃C,C=d.take (p*2)++[a,s]++d.drop (p*2+[a,s].length):=⟨_,rfl⟩;obtain⟨l,x⟩:∃l,l=f.setRow g C.toArray:=⟨_,rfl⟩;have e2:∀b h,(Builtin.copy_ #[27,27] b #[.slice (some ⟨g,p*2,none⟩) (n+1 - p) h,.slice (some ⟨m,0,none⟩) 1 1]).run prog f= .ok (goInt (Nat.min 1 (n+1 - p))) l:=fun b h=>by
   rw[x,N];have:=qi (P:=prog) f 27 27 b _ g (p*2) (n+1 - p) h ⟨m,0,none⟩ 1 1 d.toArray _ [a,s] 2 underlying27 T M (by rw[show Nat.min 1 (n+1 - p)=1 by simp only[Nat.min_def];split<;>omega];rfl)
    (fun j v q=>by
      rw[Addr.add_lit,Nat.zero_add,r,cell_setRow_other _ _ _ _ (Ne.symm d0)];exact(y.cell j).trans (by simpa using q)) (by simp only[List.length_cons,List.length_nil];simp;omega) R
   simpa using this
  have D:=JD (cur:=cur.toList) (xs:=xs) (new:=[a,s]) (p:=p) (n:=n) a0 oo oo rfl;rw[←z,←N] at D;have hO:l.ownsRow B 60 2 (.slice (some ⟨g,0,none⟩) (n+1) c) (n+1) (xs.take (p*2)++[a,s]++xs.drop (p*2)):=by
   rw[x];exact jk b6 M a' (by simpa using H) C (by rw[D.2];simp [H,a2]) d' D.1
  have c1:Below B w l:=(by rw[x,r];exact below_setRow (below_setRow (Below.drew (Below.refl _ _)) b6 _) b6 _);have e3:¬(c=p+1):=oo;have e4:¬(c=p):=oo;have e5:(p:Int)≤(n:Int)+1:=oo;have e6:¬((c:Int)<(n:Int)+1):=oo;have e7:(n:Int)+1≤c:=oo;clear r x z N D H M W F a0 b7 a2 U a3 R Y y a9 Z h1 J T V K O;go_enter func45,ntmps45;go_wp2_with(simp only[e0]);go_region_law_o (refine kF rfl _ _ 27 27 rfl _ _ (by simp [Act.eval,Act.put]) (by simp [Act.eval,Act.put]) (e1 _ _ _) ?_);go_wp2_with(at_builtin;refine mi rfl _ _ 27 27 rfl _ _ rfl rfl (e2 _ _) ?_);go_ret;exact⟨some ⟨g,0,none⟩,c,rfl,hO,c1⟩
 ·
  have e8:g<w.heap.size:=by
   rcases Nat.lt_or_ge g w.heap.size with e9|e'
   ·exact e9
   ·rw[Array.getElem?_eq_none e'] at F;cases F
  obtain⟨G,hG⟩:∃G,G=grownCap w (n+1) c 60:=⟨_,rfl⟩;have f0:n+1≤G:=(by rw[hG];exact grownCap_ge w _ _ _);have d1:G≤maxLen:=(by rw[hG];exact grownCap_le_maxLen w (n+1) c _ (by unfold maxLen;omega));have g7:G≤9223372036854775807:=(by unfold maxLen at d1;omega);obtain⟨o,a5⟩:∃o:Array Value,o=(xs.take (p*2)).toArray++Builtin.zeroCells (Value.agg #[.string ⟨#[]⟩,.string ⟨#[]⟩]).cells (n+1 - p)++Builtin.zeroCells (Value.agg #[.string ⟨#[]⟩,.string ⟨#[]⟩]).cells (G - (n+1)):=⟨_,rfl⟩;obtain⟨f,r⟩:∃f,f=w.drew.alloc (.cells o 60):=⟨_,rfl⟩;have d2:(Builtin.firstCells i.size p (.slice (some ⟨g,0,none⟩) p c)).run prog w.drew= .ok (xs.take (p*2)).toArray w.drew:=by
   rw[K];exact run_firstCells_some w.drew 2 p ⟨g,0,none⟩ p c (xs.take (p*2)) (by rw[List.length_take];omega) (fun j v q=>by
    rw[Addr.add_lit,Nat.zero_add];rw[List.getElem?_take] at q;split at q
    ·exact W j v q
    ·cases q)
  have f1:∀b,(Builtin.append_ #[27,3] b #[.slice (some ⟨g,0,none⟩) p c,.int .i64 ((n:Int)+1 - (p:Int))]).run prog w= .ok (.slice (some ⟨w.heap.size,0,none⟩) (n+1) G) f:=fun b=>by
   have a1:=Lib.run_append_grow_zeros w _ 3 b 60 i _ .i64 .i64 underlying27 underlying3 J V (some ⟨g,0,none⟩) p c (xs.take (p*2)) d2 (n+1 - p) (by omega) (by omega) (by omega) (by omega) (by rw[O];omega) (by rw[O,show p+(n+1 - p)=n+1 by omega];exact growslice_fits (by omega) (by omega));rw[show p+(n+1 - p)=n+1 by omega] at a1;rw[show(n:Int)+1 - (p:Int)=((n+1 - p:Nat):Int) by omega,r,a5,hG];exact a1
  have a6:o.toList.length=G*2:=by
   rw[a5];simp only[Array.toList_append,List.length_append,List.length_take,Array.length_toList,Value.cells,zc2,Z];omega
  have d3:o.toList.take (p*2)=xs.take (p*2):=by
   rw[a5,Array.append_assoc,Array.toList_append,List.take_append_of_le_length (by rw[List.length_take];omega),List.take_of_length_le (by rw[List.length_take];omega)]
  have M:f.heap[w.heap.size]? =some (.cells o 60 (0,0)):=(by rw[r];exact Bk.new w.drew o 60);have a7:Below w.heap.size w f:=(by rw[r];exact(Below.drew (Below.refl _ _)).alloc (Nat.le_refl _) _);obtain⟨d,z⟩:∃d,d=o.toList.take (p*2)++[a,s]++o.toList.drop (p*2+[a,s].length):=⟨_,rfl⟩;obtain⟨l,x⟩:∃l,l=f.setRow w.heap.size d.toArray:=⟨_,rfl⟩;have f2:∀b h,(Builtin.copy_ #[27,27] b #[.slice (some ⟨w.heap.size,p*2,none⟩) (n+1 - p) h,.slice (some ⟨m,0,none⟩) 1 1]).run prog f= .ok (goInt (Nat.min 1 (n+1 - p))) l:=fun b h=>by
   rw[x,z];exact qi (P:=prog) f 27 27 b _ w.heap.size (p*2) (n+1 - p) h ⟨m,0,none⟩ 1 1 o _ [a,s] 2 underlying27 T M (by rw[show Nat.min 1 (n+1 - p)=1 by simp only[Nat.min_def];split<;>omega];rfl)
    (fun j v q=>by
      rw[Addr.add_lit,Nat.zero_add,a7.cell (p:=⟨m,j,none⟩) c5]
      exact(y.cell j).trans (by simpa using q)) (by have:o.size=G*2:=by simpa using a6
                                                    simp only[List.length_cons,List.length_nil];omega) R
  have H:d.length=G*2:=(by rw[z];simp only[List.length_append,List.length_take,List.length_drop,a6,List.length_cons,List.length_nil];omega);have c2:l.heap[w.heap.size]? =some (.cells d.toArray 60 (0,0)):=(by rw[x];exact setRow_heap f w.heap.size o _ _ _ M);obtain⟨C,N⟩:∃C,C=d.take ((p+1)*2)++xs.drop (p*2)++d.drop ((p+1)*2+(xs.drop (p*2)).length):=⟨_,rfl⟩;obtain⟨X,a8⟩:∃X,X=l.drew.setRow w.heap.size C.toArray:=⟨_,rfl⟩;have f3:∀b h L,(Builtin.copy_ #[27,27] b #[.slice (some ⟨w.heap.size,(p+1)*2,none⟩) (n - p) h,.slice (some ⟨g,p*2,none⟩) (n - p) L]).run prog l.drew= .ok (goInt (Nat.min (n - p) (n - p))) X:=fun b h L=>by
   rw[a8,N];have:=qi (P:=prog) l.drew 27 27 b _ w.heap.size ((p+1)*2) (n - p) h ⟨g,p*2,none⟩ (n - p) L d.toArray _ (xs.drop (p*2)) 2 underlying27 T c2 (by rw[U,show Nat.min (n - p) (n - p)=n - p by simp only[Nat.min_def];split<;>omega])
    (fun j v q=>by
      rw[Addr.add_lit];show l.cell? _=_;rw[x,cell_setRow_other _ _ _ _ (by show g≠_;omega),a7.cell (p:=⟨g,p*2+j,none⟩) e8];exact W (p*2+j) v (by rwa [List.getElem?_drop] at q)) (by simp only[List.size_toArray];rw[H,U];omega) a3
   simpa using this
  have D:=Kv (row:=o.toList) (xs:=xs) (new:=[a,s]) (p:=p) (n:=n) d3 Z hp oo rfl;rw[←z,←N] at D;have hO:X.ownsRow B 60 2 (.slice (some ⟨w.heap.size,0,none⟩) (n+1) G) (n+1) (xs.take (p*2)++[a,s]++xs.drop (p*2)):=by
   rw[a8];exact jk E (w:=l.drew) c2 d1 (by simpa using H) C (by rw[D.2];simp [H,a6]) f0 D.1
  have c1:Below B w X:=(by rw[a8,x];exact below_setRow (Below.drew (below_setRow (a7.mono E) E _)) E _);have e3:¬(G=p+1):=oo;have e4:¬(G=p):=oo;have g8:¬(c=p):=oo;have e5:(p:Int)≤(n:Int)+1:=oo;have e6:(c:Int)<(n:Int)+1:=oo;have e7:¬((n:Int)+1≤c):=oo;clear r x a8 z N D H a6 d3 a5 hG M c2 d2 W F a0 b7 a2 U a3 R Y y a9 Z h1 J T V K O a7;go_enter func45,ntmps45;go_wp2_with(first
   |(at_builtin;refine iL rfl _ _ _ _ rfl _ _ rfl rfl (f1 _) ?_)
   |(at_builtin;refine mi rfl _ _ 27 27 rfl _ _ rfl rfl (f2 _ _) ?_))
  go_region_law_o (refine kF rfl _ _ 27 27 rfl _ _ (by simp [Act.eval,Act.put]) (by simp [Act.eval,Act.put]) (f3 _ _ _) ?_);go_wp2;go_ret;exact⟨some ⟨w.heap.size,0,none⟩,G,rfl,hO,c1⟩
theorem Sz (A:Option Addr)(m c p B:Nat)(xs:List Value)(w:World)(S:w.ownsRow B 60 2 (.slice A (m+1) c) (m+1) xs)(hp:p<m+1)(hn:m≤1000)(h1:∀u ∈ xs,u.oneCell'=true):
 Calls prog 46 #[.slice A (m+1) c,.int .i64 (p:Int),.int .i64 ((p:Int)+1)] w fun e w'=>∃T U,e= .returned (.slice T m U)∧w'.ownsRow B 60 2 (.slice T m U) m (xs.take (p*2)++xs.drop ((p+1)*2))∧Below B w w':=by
 obtain⟨i,E,V,x,a4⟩:=info_parts mG;have mixed:prog.follows .mixedOrders=true:=kr;have a5:xs.length=(m+1)*2:=S.1;obtain⟨_,a6⟩:=S;rcases a6 with⟨_,h0⟩|⟨g,cap,cur,F,G,o,b1,W,H,I⟩
 ·omega
 injection F with F _ hc
 subst F hc;have b2:c≤9223372036854775807:=(by unfold maxLen at W;omega);have X:=fun j v h=>U9 (n:=m+1) (size:=2) o I j v h;have J:cur.toList.length=c*2:=(by simpa using H);have k:(xs.drop ((p+1)*2)).length=(m - p)*2:=(by rw[List.length_drop];omega);have Y:∀u ∈ xs.drop ((p+1)*2),u.oneCell'=true:=fun u q=>h1 u (List.mem_of_mem_drop q);obtain⟨b,r⟩:∃b,b=cur.toList.take (p*2)++xs.drop ((p+1)*2)++cur.toList.drop (p*2+(xs.drop ((p+1)*2)).length):=⟨_,rfl⟩;obtain⟨d,s⟩:∃d,d=w.drew.setRow g b.toArray:=⟨_,rfl⟩;have K:∀(y:Addr) (a:TypeId) (f:Nat),(m - p=0∨y=⟨g,(p+1)*2,none⟩)→(Builtin.append_ #[27,27] a #[.slice (some ⟨g,0,none⟩) p c,.slice (some y) (m - p) f]).run prog w.drew= .ok (.slice (some ⟨g,0,none⟩) m c) d:=fun y a f a7=>by
  have h:=run_append_room (P:=prog) w.drew 27 a 60 i underlying27 E g p c cur o y (m - p) f (xs.drop ((p+1)*2)) (by rw[x];exact k) (fun j u q=>by
   rcases a7 with h0|rfl
   ·have:(xs.drop ((p+1)*2)).length=0:=by rw[k,h0]
    rw[List.length_eq_zero_iff.1 this] at q
    cases q
   ·rw[Addr.add_lit];exact X _ u (by rwa [List.getElem?_drop] at q)) Y (by omega) (by rw[x,k,H];omega)
  rw[x,show p+(m - p)=m by omega] at h;rw[s,r];exact h
 have L:b.length=c*2:=(by rw[r];simp only[List.length_append,List.length_take,List.length_drop,J,k];omega);have M:d.heap[g]? =some (.cells b.toArray 60 (0,0)):=(by rw[s];exact setRow_heap w.drew g cur _ _ _ o);obtain⟨l,N⟩:∃l,l=b.take (m*2)++[Value.string ⟨#[]⟩,.string ⟨#[]⟩]++b.drop (m*2+2):=⟨_,rfl⟩;obtain⟨t,C⟩:∃t,t=d.setRow g l.toArray:=⟨_,rfl⟩;have O:∀a f,(Builtin.clear_ #[27] a #[.slice (some ⟨g,m*2,none⟩) 1 f]).run prog d= .ok (.tuple #[]) t:=fun a f=>by
  rw[C,N];exact XB (P:=prog) d 27 60 a (.agg #[.string ⟨#[]⟩,.string ⟨#[]⟩]) #[.string ⟨#[]⟩,.string ⟨#[]⟩] underlying27 (fun w=>by simp [zeroValue,typeInfo,E,V]) (by simp [Builtin.zeroCells,Value.cells,show Array.range 2=#[0,1] from rfl]) (by intro v Z;simp at Z;subst Z;rfl) g (m*2) f b.toArray _ M (by simp;omega)
 have D:=Ji (cur:=cur.toList) (xs:=xs) (z:=[Value.string ⟨#[]⟩,.string ⟨#[]⟩]) (p:=p) (n:=m+1) I hp oo rfl;simp only[Nat.add_sub_cancel] at D;rw[←r] at D;have Q:l.take (m*2)=xs.take (p*2)++xs.drop ((p+1)*2)∧l.length=cur.toList.length:=(by rw[N];exact D);have hO:t.ownsRow B 60 2 (.slice (some ⟨g,0,none⟩) m c) m (xs.take (p*2)++xs.drop ((p+1)*2)):=by
  rw[C];exact jk G M W (by simpa using L) l (by rw[Q.2];simp [L,J]) (by omega) Q.1
 have a1:Below B w t:=(by rw[C,s];exact below_setRow (below_setRow (Below.drew (Below.refl _ _)) G _) G _);have R:m - p=0→d=w.drew:=fun h0=>by
  have he:xs.drop ((p+1)*2)=[]:=List.eq_nil_of_length_eq_zero (by rw[k,h0]);rw[s,r,he];simp only[List.append_nil,List.length_nil,Nat.add_zero,List.take_append_drop];exact setRow_self w.drew g cur _ _ o
 have b3:((p:Int)==(p:Int)+1)=false:=(by simp;omega);have b4:(0:Int)≤(p:Int)+1:=oo;have b5:(p:Int)+1≤(m:Int)+1:=oo;have b6:((p:Int)+1).toNat=p+1:=oo;have b7:((m:Int)+1).toNat=m+1:=oo;have b8:¬(c=m):=oo;have b9:¬(c=p):=oo;have b':(m:Int)+1≤c:=oo;have c0:m+1≤c:=oo;have c1:p≤m+1:=oo;have c2:p+1≤m+1:=oo;have c3:p≤c:=oo;clear s C r N D Q L M X o I H J k Y a5 h1 E V x a4 i;by_cases a9:c=p+1
 ·obtain rfl:p=m:=oo
  subst a9;have a2:=R oo;rw[a2] at O;have c4:(p:Int)≤(p:Int)+1:=oo;clear K R a2;go_enter func46,ntmps46;go_wp2_with fail;go_region_law_o (fail);go_wp2_with(at_builtin;refine oM rfl _ 27 rfl _ rfl (O _ _) ?_);go_ret;exact⟨some ⟨g,0,none⟩,p+1,rfl,hO,a1⟩
 ·have a':=fun a=>K ⟨g,(p+1)*2,none⟩ a (c - (p+1)) (.inr rfl)
  clear K R;go_enter func46,ntmps46;go_wp2_with fail;go_region_law_o (refine bK rfl _ _ 27 27 rfl (.slice (some ⟨g,0,none⟩) p c) (.slice (some ⟨g,(p+1)*2,none⟩) (m - p) (c - (p+1))) (by simp [Act.eval,Act.put]) (by simp [Act.eval,Act.put]) (a' _) ?_);go_wp2_with(at_builtin;refine oM rfl _ 27 rfl _ rfl (O _ _) ?_);go_ret;exact⟨some ⟨g,0,none⟩,c,rfl,hO,a1⟩
