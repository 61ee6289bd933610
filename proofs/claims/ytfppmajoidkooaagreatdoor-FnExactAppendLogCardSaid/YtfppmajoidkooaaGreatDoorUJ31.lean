import Derived.Test.YtfppmajoidkooaaGreatDoorURw
import Derived.Test.YtfppmajoidkooaaGreatDoorUGA
import Derived.Test.YtfppmajoidkooaaGreatDoorUGU4
import Derived.Deep.Cut
set_option linter.unusedVariables false
set_option linter.unusedSimpArgs false
set_option maxHeartbeats 8000000
namespace Go.Proofs.YtfppmajoidkooaaGreatDoor
open Go.RowKit
set_option maxRecDepth 100000
attribute [local go_sem high] zy zA zB zO zK zY zx zk zl zq zi zo yP zD yt zF
section
variable {P : Program} {w w' : World} {ops : Array Oper} {rest : List Oper} {o : Oper} {a : Act} {K : Act → World → Prop} {Q : Exit → Act → World → Prop} {E : Prop} {v' : Value}
theorem ed (d s:Operand)(t t':TypeId)(ho:o.op= .call { callee:=.builtin .copy,args:=#[d,s],argTypes:=#[t,t'] })(v u:Value)(hd:a.eval d=v)(hs:a.eval s=u)
 (hr:(Builtin.copy_ #[t,t'] o.type #[v,u]).run P w= .ok v' w') (h:K (a.put o.dst v') w'):o.wp P a w K Q:=by
 unfold Oper.wp execOp;simp only[ho,resolve,invoke,builtin,Sem.run_bind,Sem.run_pure,Result.andThen_ok,List.map_toArray,List.map_cons,List.map_nil,hd,hs,hr];exact h
theorem lW (d s:Operand)(t t':TypeId)(ho:o.op= .call { callee:=.builtin .append,args:=#[d,s],argTypes:=#[t,t'] })(v u:Value)(hd:a.eval d=v)(hs:a.eval s=u)
 (hr:(Builtin.append_ #[t,t'] o.type #[v,u]).run P w= .ok v' w') (h:K (a.put o.dst v') w'):o.wp P a w K Q:=by
 unfold Oper.wp execOp;simp only[ho,resolve,invoke,builtin,Sem.run_bind,Sem.run_pure,Result.andThen_ok,List.map_toArray,List.map_cons,List.map_nil,hd,hs,hr];exact h
theorem Y0 (d:Operand)(t:TypeId)(ho:o.op= .call { callee:=.builtin .clear,args:=#[d],argTypes:=#[t] })(v:Value)(hd:a.eval d=v)
 (hr:(Builtin.clear_ #[t] o.type #[v]).run P w= .ok v' w') (h:K (a.put o.dst v') w'):o.wp P a w K Q:=by
 unfold Oper.wp execOp;simp only[ho,resolve,invoke,builtin,Sem.run_bind,Sem.run_pure,Result.andThen_ok,List.map_toArray,List.map_cons,List.map_nil,hd,hr];exact h
theorem nC (hgd:o.guard=none)(d s:Operand)(t t':TypeId)(ho:o.op= .call { callee:=.builtin .copy,args:=#[d,s],argTypes:=#[t,t'] })(v u:Value)(hd:a.eval d=v)(hs:a.eval s=u)
 (hr:(Builtin.copy_ #[t,t'] o.type #[v,u]).run P w= .ok v' w') (h:wpList P ops Q rest (a.put o.dst v') w'):wpList P ops Q (o::rest) a w:=
 wpList_plain hgd fun _ hK=>ed d s t t' ho v u hd hs hr (hK _ _ h)
theorem iH (hgd:o.guard=none)(d s:Operand)(t t':TypeId)(ho:o.op= .call { callee:=.builtin .append,args:=#[d,s],argTypes:=#[t,t'] })(v u:Value)(hd:a.eval d=v)(hs:a.eval s=u)
 (hr:(Builtin.append_ #[t,t'] o.type #[v,u]).run P w= .ok v' w') (h:wpList P ops Q rest (a.put o.dst v') w'):wpList P ops Q (o::rest) a w:=
 wpList_plain hgd fun _ hK=>lW d s t t' ho v u hd hs hr (hK _ _ h)
theorem og (hgd:o.guard=none)(d:Operand)(t:TypeId)(ho:o.op= .call { callee:=.builtin .clear,args:=#[d],argTypes:=#[t] })(v:Value)(hd:a.eval d=v)
 (hr:(Builtin.clear_ #[t] o.type #[v]).run P w= .ok v' w') (h:wpList P ops Q rest (a.put o.dst v') w'):wpList P ops Q (o::rest) a w:=
 wpList_plain hgd fun _ hK=>Y0 d t ho v hd hr (hK _ _ h)
theorem lK (hgd:o.guard=none)(d s:Operand)(t t':TypeId)(ho:o.op= .call { callee:=.builtin .copy,args:=#[d,s],argTypes:=#[t,t'] })(v u:Value)(hd:a.eval d=v)(hs:a.eval s=u)
 (hr:(Builtin.copy_ #[t,t'] o.type #[v,u]).run P w= .ok v' w') (h:K (a.put o.dst v') w'):if Region.wanted o (yielded ops a.tmps)=true then Oper.wp P o a w K Q else E:=by
 rw[if_pos (by simp [Region.wanted,hgd])];exact ed d s t t' ho v u hd hs hr h
theorem dQ (hgd:o.guard=none)(d s:Operand)(t t':TypeId)(ho:o.op= .call { callee:=.builtin .append,args:=#[d,s],argTypes:=#[t,t'] })(v u:Value)(hd:a.eval d=v)(hs:a.eval s=u)
 (hr:(Builtin.append_ #[t,t'] o.type #[v,u]).run P w= .ok v' w') (h:K (a.put o.dst v') w'):if Region.wanted o (yielded ops a.tmps)=true then Oper.wp P o a w K Q else E:=by
 rw[if_pos (by simp [Region.wanted,hgd])];exact lW d s t t' ho v u hd hs hr h
end
def OwC (w:World)(B:Nat)(e:TypeId)(size:Nat)(A:Option Addr)(n:Nat)(cs:List Value):Prop:=cs.length=n*size∧((A=none∧n=0)∨∃g cur,A=some ⟨g,0,none⟩∧B≤g∧w.heap[g]? =some (.cells cur e (0,0))∧n*size≤cur.size∧cur.toList.take (n*size)=cs)
section
variable {w w' : World} {B B' : Nat} {e : TypeId} {size n c : Nat} {A : Option Addr} {cs : List Value}
theorem OwC.sN (h:w.ownsRow B e size (.slice A n c) n cs):OwC w B e size A n cs:=by
 obtain⟨h1,h2⟩:=h;refine⟨h1,?_⟩;rcases h2 with⟨h2,h3⟩|⟨g,cap,cur,h2,hb,hg,hn,hm,hs,ht⟩
 ·injection h2 with e1 _ _;exact .inl ⟨e1,h3⟩
 ·injection h2 with e1 _ e3
  exact .inr ⟨g,cur,e1,hb,hg,by rw[hs];exact Nat.mul_le_mul_right _ hn,ht⟩
theorem OwC.lt (h:OwC w B e size A n cs){g:Nat}(hA:A=some ⟨g,0,none⟩):B≤g∧g<w.heap.size:=by
 obtain⟨_,h2⟩:=h;rcases h2 with⟨h2,_⟩|⟨g',cur,h2,hb,hg,_⟩
 ·rw[hA] at h2;cases h2
 ·rw[hA] at h2
  injection h2 with h2
  injection h2 with h2
  subst h2;refine⟨hb,?_⟩;rcases Nat.lt_or_ge g w.heap.size with hlt|hge
  ·exact hlt
  ·rw[Array.getElem?_eq_none hge] at hg;cases hg
theorem OwC.form (h:OwC w B e size A n cs)(hn:0<n):∃g,A=some ⟨g,0,none⟩∧B≤g∧g<w.heap.size:=by
 rcases h.2 with⟨_,h2⟩|⟨g,cur,h2,_⟩
 ·omega
 ·exact⟨g,h2,h.lt h2⟩
theorem OwC.cell (h:OwC w B e size A n cs){g:Nat}(hA:A=some ⟨g,0,none⟩)(j:Nat)(v:Value)(hj:cs[j]? =some v):w.cell? ⟨g,j,none⟩=some v:=by
 rcases h.2 with⟨h2,_⟩|⟨g',cur,h2,hb,hg,hl,ht⟩
 ·rw[hA] at h2;cases h2
 ·rw[hA] at h2
  injection h2 with h2
  injection h2 with h2
  subst h2;rw[cell_of_row w g j cur e (0,0) hg];rw[←ht,List.getElem?_take] at hj;split at hj
  ·simpa using hj
  ·cases hj
theorem OwC.free (h:OwC w B e size A n cs){g:Nat}(hA:A=some ⟨g,0,none⟩)(j:Nat):w.frozen? ⟨g,j,none⟩=false:=by
 rcases h.2 with⟨h2,_⟩|⟨g',cur,h2,hb,hg,hl,ht⟩
 ·rw[hA] at h2;cases h2
 ·rw[hA] at h2
  injection h2 with h2
  injection h2 with h2
  subst h2;simp [World.frozen?,hg]
theorem OwC.sl (h:OwC w B e size A n cs)(hn:n≤c)(hc:c≤9223372036854775807):Sl w A n c size cs:=
 ⟨hn,hc,h.1,fun h0=>by
  obtain⟨g,hA,_,hg⟩:=h.form h0;exact⟨g,0,hA,hg,fun j u hu=>by rw[Nat.zero_add];exact h.cell hA j u hu⟩⟩
theorem OwC.mono (h:OwC w B e size A n cs)(hB:B'≤B):OwC w B' e size A n cs:=by
 obtain⟨h1,h2⟩:=h;refine⟨h1,?_⟩;rcases h2 with h2|⟨g,cur,h2,hb,rest⟩
 ·exact .inl h2
 ·exact .inr ⟨g,cur,h2,oo,rest⟩
theorem OwC.keep (h:OwC w B e size A n cs)(hk:∀g,A=some ⟨g,0,none⟩→w'.heap[g]? =w.heap[g]?):OwC w' B e size A n cs:=by
 obtain⟨h1,h2⟩:=h;refine⟨h1,?_⟩;rcases h2 with h2|⟨g,cur,h2,hb,hg,rest⟩
 ·exact .inl h2
 ·exact .inr ⟨g,cur,h2,hb,(hk g h2).trans hg,rest⟩
theorem OwC.below (h:OwC w B e size A n cs)(hb:Below w.heap.size w w'):OwC w' B e size A n cs:=h.keep fun g hA=>hb.block g (h.lt hA).2
theorem OwC.alloc (h:OwC w B e size A n cs)(o:Obj):OwC (w.alloc o) B e size A n cs:=h.below ((Below.refl _ _).alloc (Nat.le_refl _) o)
theorem OwC.far (h:OwC w B e size A n cs){p:Addr}(hp:∀g,A=some ⟨g,0,none⟩→g≠p.block)(u:Value):OwC (w.setCell p u) B e size A n cs:=h.keep fun g hA=>Below.heap_setCell w p u g (hp g hA)
theorem OwC.stored (h:OwC w B e size A n cs){g:Nat}(hA:A=some ⟨g,0,none⟩)(j:Nat)(v:Value):OwC (w.setCell ⟨g,j,none⟩ v) B e size A n (cs.set j v):=by
 obtain⟨h1,h2⟩:=h;refine⟨by rw[List.length_set];exact h1,?_⟩;rcases h2 with⟨h2,_⟩|⟨g',cur,h2,hb,hg,hl,ht⟩
 ·rw[hA] at h2;cases h2
 ·have h2':=h2
  rw[hA] at h2;injection h2 with h2
  injection h2 with h2
  subst h2;refine .inr ⟨g,cur.setIfInBounds j v,hA,hb,heap_setCell_same w g j cur e v hg,by simpa using hl,?_⟩;rw[Array.toList_setIfInBounds,List.take_set,ht]
end
theorem MW {α:Type}{cur xs new:List α}{p n:Nat}(hx:cur.take (n*2)=xs)(hp:p≤n)(hl:(n+1)*2≤cur.length)(hnew:new.length=2):
 ((cur.take ((p+1)*2)++xs.drop (p*2)++cur.drop ((p+1)*2+(xs.drop (p*2)).length)).take (p*2)++new++(cur.take ((p+1)*2)++xs.drop (p*2)++cur.drop ((p+1)*2+(xs.drop (p*2)).length)).drop (p*2+new.length)).take ((n+1)*2)=xs.take (p*2)++new++xs.drop (p*2)∧
 ((cur.take ((p+1)*2)++xs.drop (p*2)++cur.drop ((p+1)*2+(xs.drop (p*2)).length)).take (p*2)++new++(cur.take ((p+1)*2)++xs.drop (p*2)++cur.drop ((p+1)*2+(xs.drop (p*2)).length)).drop (p*2+new.length)).length=cur.length:=by
 have hxl:xs.length=n*2:=(by rw[←hx,List.length_take];omega);have e1:(cur.take ((p+1)*2)++xs.drop (p*2)++cur.drop ((p+1)*2+(xs.drop (p*2)).length)).take (p*2)=xs.take (p*2):=by
  rw[List.append_assoc,List.take_append_of_le_length (by rw[List.length_take];omega),List.take_take,Nat.min_eq_left (by omega),←hx,List.take_take,Nat.min_eq_left (by omega)]
 have e2:(cur.take ((p+1)*2)++xs.drop (p*2)++cur.drop ((p+1)*2+(xs.drop (p*2)).length)).drop (p*2+new.length)=xs.drop (p*2)++cur.drop ((p+1)*2+(xs.drop (p*2)).length):=by
  rw[List.append_assoc,hnew,List.drop_append_of_le_length (by rw[List.length_take];omega),List.drop_of_length_le (by rw[List.length_take];omega),List.nil_append]
 rw[e1,e2];have hlen:(xs.take (p*2)++new++xs.drop (p*2)).length=(n+1)*2:=by
  simp only[List.length_append,List.length_take,List.length_drop,hnew];omega
 constructor
 ·rw[←List.append_assoc,List.take_append_of_le_length (by omega),List.take_of_length_le (by omega)]
 ·rw[←List.append_assoc,List.length_append,hlen,List.length_drop,List.length_drop];omega
theorem NR {α:Type}{row xs new:List α}{p n:Nat}(hx:row.take (p*2)=xs.take (p*2))(hxl:xs.length=n*2)(hp:p≤n)(hl:(n+1)*2≤row.length)(hnew:new.length=2):
 ((row.take (p*2)++new++row.drop (p*2+new.length)).take ((p+1)*2)++xs.drop (p*2)++(row.take (p*2)++new++row.drop (p*2+new.length)).drop ((p+1)*2+(xs.drop (p*2)).length)).take ((n+1)*2)=xs.take (p*2)++new++xs.drop (p*2)∧
 ((row.take (p*2)++new++row.drop (p*2+new.length)).take ((p+1)*2)++xs.drop (p*2)++(row.take (p*2)++new++row.drop (p*2+new.length)).drop ((p+1)*2+(xs.drop (p*2)).length)).length=row.length:=by
 have e1:(row.take (p*2)++new++row.drop (p*2+new.length)).take ((p+1)*2)=xs.take (p*2)++new:=by
  rw[List.take_append_of_le_length (by simp only[List.length_append,List.length_take,hnew];omega),List.take_of_length_le (by simp only[List.length_append,List.length_take,hnew];omega),hx]
 have hll:(row.take (p*2)++new++row.drop (p*2+new.length)).length=row.length:=by
  simp only[List.length_append,List.length_take,List.length_drop,hnew];omega
 rw[e1];have hlen:(xs.take (p*2)++new++xs.drop (p*2)).length=(n+1)*2:=by
  simp only[List.length_append,List.length_take,List.length_drop,hnew];omega
 constructor
 ·rw[List.take_append_of_le_length (by omega),List.take_of_length_le (by omega)]
 ·rw[List.length_append,hlen,List.length_drop,hll,List.length_drop,hxl];omega
theorem Ld {α:Type}{cur xs z:List α}{p n:Nat}(hx:cur.take (n*2)=xs)(hp:p<n)(hl:n*2≤cur.length)(hz:z.length=2):
 ((cur.take (p*2)++xs.drop ((p+1)*2)++cur.drop (p*2+(xs.drop ((p+1)*2)).length)).take ((n - 1)*2)++z++(cur.take (p*2)++xs.drop ((p+1)*2)++cur.drop (p*2+(xs.drop ((p+1)*2)).length)).drop ((n - 1)*2+z.length)).take ((n - 1)*2)=xs.take (p*2)++xs.drop ((p+1)*2)∧
 ((cur.take (p*2)++xs.drop ((p+1)*2)++cur.drop (p*2+(xs.drop ((p+1)*2)).length)).take ((n - 1)*2)++z++(cur.take (p*2)++xs.drop ((p+1)*2)++cur.drop (p*2+(xs.drop ((p+1)*2)).length)).drop ((n - 1)*2+z.length)).length=cur.length:=by
 have hxl:xs.length=n*2:=(by rw[←hx,List.length_take];omega);have e1:cur.take (p*2)=xs.take (p*2):=(by rw[←hx,List.take_take,Nat.min_eq_left (by omega)]);have hlen:(xs.take (p*2)++xs.drop ((p+1)*2)).length=(n - 1)*2:=by
  simp only[List.length_append,List.length_take,List.length_drop];omega
 have hll:(xs.take (p*2)++xs.drop ((p+1)*2)++cur.drop (p*2+(xs.drop ((p+1)*2)).length)).length=cur.length:=by
  rw[List.length_append,hlen,List.length_drop,List.length_drop];omega
 rw[e1];have e2:(xs.take (p*2)++xs.drop ((p+1)*2)++cur.drop (p*2+(xs.drop ((p+1)*2)).length)).take ((n - 1)*2)=xs.take (p*2)++xs.drop ((p+1)*2):=by
  rw[List.take_append_of_le_length (by omega),List.take_of_length_le (by omega)]
 rw[e2];constructor
 ·rw[List.append_assoc,List.take_append_of_le_length (by omega),List.take_of_length_le (by omega)]
 ·rw[List.length_append,List.length_append,hlen,List.length_drop,hll,hz];omega
theorem TP (A:Option Addr)(n cap:Nat)(cs:List Value)(w:World)(hs:Sl w A n cap 2 cs)(hn:n≤100000)(h1:∀u ∈ cs,u.oneCell'=true):
 Calls Tryz.prog 112 #[.slice A n cap] w fun e w'=>∃A' c',e= .returned (.slice A' n c')∧w'.ownsRow w.heap.size 87 2 (.slice A' n c') n cs∧Below w.heap.size w w':=by
 obtain⟨i,hi,hz0,hz1,hz2⟩:=info_parts ny;have q22:∀(w:World) (a:Option Addr) (n c n' c':Nat),(binOp .eql 40 (.slice a n c) (.slice none n' c')).run Tryz.prog w= .ok (.bool a.isNone) w:=fun w a n c n' c'=>Lib.run_eql_slice_nil w _ _ a n c n' c' Tryz.underlying40
 cases A with
 |none=>
  have h0:n=0:=by
   rcases Nat.eq_zero_or_pos n with h|h
   ·exact h
   ·obtain⟨g,off,h',_⟩:=hs.2.2.2 h;cases h'
  subst h0;have hcs:cs=[]:=List.eq_nil_of_length_eq_zero (by simpa using hs.2.2.1);subst hcs;clear hs;go_enter Tryz.func112,Tryz.ntmps112;go_wp2;go_ret;exact⟨none,0,rfl,⟨rfl,.inl ⟨rfl,rfl⟩⟩,Below.refl _ _⟩
 |some ad=>
  have hm1:0+n≤maxLen:=(by unfold maxLen;omega);have hm2:(0+n)*32≤140737488355328:=oo;have o0:=vK (base:=w.heap.size) (size:=2) (Bk.new w #[] 87) (Nat.le_refl _);have s0:=hs.alloc (.cells #[] 87);have b0:Below w.heap.size w (w.alloc (.cells #[] 87)):=zu;clear hs;go_enter Tryz.func112,Tryz.ntmps112;go_wp2_with(at_builtin;go_must(refine zN _ rfl _ _ 40 rfl w.heap.size 87 i _ 2 32 Tryz.underlying40 hi hz0 hz1 hz2 rfl oo _ _ _ rfl o0 _ n cap cs rfl s0 h1 hm1 hm2 ?_ ?_))
  ·simp
  intro A6 c6 w6 o6 hg6 _;have g6:=b0.grown hg6 (by simp) (fun k hk=>by have:=(o0.lt k hk).1;omega);try simp only[Nat.zero_add,List.nil_append] at o6
  go_wp2;go_ret;exact⟨A6,c6,by simp,o6,g6⟩
theorem Xm (A:Option Addr)(n cap:Nat)(w:World)(hA:A=none→n=0∧cap=0)(hn:n≤cap)(hc:cap≤9223372036854775807):
 Calls Tryz.prog 117 #[.slice A n cap] w fun e w'=>e= .returned (.slice A n n)∧w'=w:=by
 have hn':(n:Int)≤cap:=oo
 cases A with
 |none=>
  obtain⟨rfl,rfl⟩:=hA rfl;go_enter Tryz.func117,Tryz.ntmps117;go_wp2;go_ret;exact⟨rfl,rfl⟩
 |some ad=>
  clear hA;go_enter Tryz.func117,Tryz.ntmps117;go_wp2;go_ret;exact⟨rfl,rfl⟩
end Go.Proofs.YtfppmajoidkooaaGreatDoor
