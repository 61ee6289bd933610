import Derived.Test.YtoedhpcmgondjaaGreatDoorYRw
import Derived.Test.YtoedhpcmgondjaaGreatDoorYJ26
set_option linter.all false
set_option maxHeartbeats 8000000
namespace Go.Proofs.YtoedhpcmgondjaaGreatDoor
open Go.RowKit Go.Proofs.Tryz
set_option maxRecDepth 100000
attribute [local go_sem high] zG zF zH zV zN yu zD zl zn zt zi zu y9 zK yE zJ
section
variable {P : Program} {w w' : World} {ops : Array Oper} {rest : List Oper} {o : Oper} {a : Act} {K : Act → World → Prop} {Q : Exit → Act → World → Prop} {E : Prop} {v' : Value}
theorem dG (d s:Operand)(t b:TypeId)(f:o.op= .call { callee:=.builtin .copy,args:=#[d,s],argTypes:=#[t,b] })(v u:Value)(g:a.eval d=v)(i:a.eval s=u)
 (j:(Builtin.copy_ #[t,b] o.type #[v,u]).run P w= .ok v' w') (h:K (a.put o.dst v') w'):o.wp P a w K Q:=by
 unfold Oper.wp execOp;simp only[f,resolve,invoke,builtin,Sem.run_bind,Sem.run_pure,Result.andThen_ok,List.map_toArray,List.map_cons,List.map_nil,g,i,j];exact h
theorem kH (d s:Operand)(t b:TypeId)(f:o.op= .call { callee:=.builtin .append,args:=#[d,s],argTypes:=#[t,b] })(v u:Value)(g:a.eval d=v)(i:a.eval s=u)
 (j:(Builtin.append_ #[t,b] o.type #[v,u]).run P w= .ok v' w') (h:K (a.put o.dst v') w'):o.wp P a w K Q:=by
 unfold Oper.wp execOp;simp only[f,resolve,invoke,builtin,Sem.run_bind,Sem.run_pure,Result.andThen_ok,List.map_toArray,List.map_cons,List.map_nil,g,i,j];exact h
theorem XD (d:Operand)(t:TypeId)(b:o.op= .call { callee:=.builtin .clear,args:=#[d],argTypes:=#[t] })(v:Value)(f:a.eval d=v)
 (g:(Builtin.clear_ #[t] o.type #[v]).run P w= .ok v' w') (h:K (a.put o.dst v') w'):o.wp P a w K Q:=by
 unfold Oper.wp execOp;simp only[b,resolve,invoke,builtin,Sem.run_bind,Sem.run_pure,Result.andThen_ok,List.map_toArray,List.map_cons,List.map_nil,f,g];exact h
theorem mi (f:o.guard=none)(d s:Operand)(t b:TypeId)(g:o.op= .call { callee:=.builtin .copy,args:=#[d,s],argTypes:=#[t,b] })(v u:Value)(i:a.eval d=v)(j:a.eval s=u)
 (k:(Builtin.copy_ #[t,b] o.type #[v,u]).run P w= .ok v' w') (h:wpList P ops Q rest (a.put o.dst v') w'):wpList P ops Q (o::rest) a w:=
 wpList_plain f fun _ l=>dG d s t b g v u i j k (l _ _ h)
theorem iL (f:o.guard=none)(d s:Operand)(t b:TypeId)(g:o.op= .call { callee:=.builtin .append,args:=#[d,s],argTypes:=#[t,b] })(v u:Value)(i:a.eval d=v)(j:a.eval s=u)
 (k:(Builtin.append_ #[t,b] o.type #[v,u]).run P w= .ok v' w') (h:wpList P ops Q rest (a.put o.dst v') w'):wpList P ops Q (o::rest) a w:=
 wpList_plain f fun _ l=>kH d s t b g v u i j k (l _ _ h)
theorem oM (b:o.guard=none)(d:Operand)(t:TypeId)(f:o.op= .call { callee:=.builtin .clear,args:=#[d],argTypes:=#[t] })(v:Value)(g:a.eval d=v)
 (i:(Builtin.clear_ #[t] o.type #[v]).run P w= .ok v' w') (h:wpList P ops Q rest (a.put o.dst v') w'):wpList P ops Q (o::rest) a w:=
 wpList_plain b fun _ j=>XD d t f v g i (j _ _ h)
theorem kF (f:o.guard=none)(d s:Operand)(t b:TypeId)(g:o.op= .call { callee:=.builtin .copy,args:=#[d,s],argTypes:=#[t,b] })(v u:Value)(i:a.eval d=v)(j:a.eval s=u)
 (k:(Builtin.copy_ #[t,b] o.type #[v,u]).run P w= .ok v' w') (h:K (a.put o.dst v') w'):if Region.wanted o (yielded ops a.tmps)=true then Oper.wp P o a w K Q else E:=by
 rw[if_pos (by simp [Region.wanted,f])];exact dG d s t b g v u i j k h
theorem bK (f:o.guard=none)(d s:Operand)(t b:TypeId)(g:o.op= .call { callee:=.builtin .append,args:=#[d,s],argTypes:=#[t,b] })(v u:Value)(i:a.eval d=v)(j:a.eval s=u)
 (k:(Builtin.append_ #[t,b] o.type #[v,u]).run P w= .ok v' w') (h:K (a.put o.dst v') w'):if Region.wanted o (yielded ops a.tmps)=true then Oper.wp P o a w K Q else E:=by
 rw[if_pos (by simp [Region.wanted,f])];exact kH d s t b g v u i j k h
end
def OwC (w:World)(B:Nat)(e:TypeId)(size:Nat)(A:Option Addr)(n:Nat)(cs:List Value):Prop:=cs.length=n*size∧((A=none∧n=0)∨∃g cur,A=some ⟨g,0,none⟩∧B≤g∧w.heap[g]? =some (.cells cur e (0,0))∧n*size≤cur.size∧cur.toList.take (n*size)=cs)
section
variable {w w' : World} {B B' : Nat} {e : TypeId} {size n c : Nat} {A : Option Addr} {cs : List Value}
theorem OwC.sG (h:w.ownsRow B e size (.slice A n c) n cs):OwC w B e size A n cs:=by
 obtain⟨h1,h2⟩:=h;refine⟨h1,?_⟩;rcases h2 with⟨h2,b⟩|⟨g,cap,cur,h2,d,f,i,l,j,k⟩
 ·injection h2 with e1 _ _;exact .inl ⟨e1,b⟩
 ·injection h2 with e1 _ e3
  exact .inr ⟨g,cur,e1,d,f,by rw[j];exact Nat.mul_le_mul_right _ i,k⟩
theorem OwC.lt (h:OwC w B e size A n cs){g:Nat}(b:A=some ⟨g,0,none⟩):B≤g∧g<w.heap.size:=by
 obtain⟨_,h2⟩:=h;rcases h2 with⟨h2,_⟩|⟨k,cur,h2,f,d,_⟩
 ·rw[b] at h2;cases h2
 ·rw[b] at h2
  injection h2 with h2
  injection h2 with h2
  subst h2;refine⟨f,?_⟩;rcases Nat.lt_or_ge g w.heap.size with i|j
  ·exact i
  ·rw[Array.getElem?_eq_none j] at d;cases d
theorem OwC.form (h:OwC w B e size A n cs)(b:0<n):∃g,A=some ⟨g,0,none⟩∧B≤g∧g<w.heap.size:=by
 rcases h.2 with⟨_,h2⟩|⟨g,cur,h2,_⟩
 ·omega
 ·exact⟨g,h2,h.lt h2⟩
theorem OwC.cell (h:OwC w B e size A n cs){g:Nat}(d:A=some ⟨g,0,none⟩)(j:Nat)(v:Value)(b:cs[j]? =some v):w.cell? ⟨g,j,none⟩=some v:=by
 rcases h.2 with⟨h2,_⟩|⟨k,cur,h2,l,f,m,i⟩
 ·rw[d] at h2;cases h2
 ·rw[d] at h2
  injection h2 with h2
  injection h2 with h2
  subst h2;rw[cell_of_row w g j cur e (0,0) f];rw[←i,List.getElem?_take] at b;split at b
  ·simpa using b
  ·cases b
theorem OwC.free (h:OwC w B e size A n cs){g:Nat}(b:A=some ⟨g,0,none⟩)(j:Nat):w.frozen? ⟨g,j,none⟩=false:=by
 rcases h.2 with⟨h2,_⟩|⟨f,cur,h2,i,d,k,l⟩
 ·rw[b] at h2;cases h2
 ·rw[b] at h2
  injection h2 with h2
  injection h2 with h2
  subst h2;simp [World.frozen?,d]
theorem OwC.sl (h:OwC w B e size A n cs)(d:n≤c)(f:c≤9223372036854775807):Sl w A n c size cs:=
 ⟨d,f,h.1,fun h0=>by
  obtain⟨g,b,_,i⟩:=h.form h0;exact⟨g,0,b,i,fun j u k=>by rw[Nat.zero_add];exact h.cell b j u k⟩⟩
theorem OwC.mono (h:OwC w B e size A n cs)(b:B'≤B):OwC w B' e size A n cs:=by
 obtain⟨h1,h2⟩:=h;refine⟨h1,?_⟩;rcases h2 with h2|⟨g,cur,h2,d,rest⟩
 ·exact .inl h2
 ·exact .inr ⟨g,cur,h2,oo,rest⟩
theorem OwC.keep (h:OwC w B e size A n cs)(hk:∀g,A=some ⟨g,0,none⟩→w'.heap[g]? =w.heap[g]?):OwC w' B e size A n cs:=by
 obtain⟨h1,h2⟩:=h;refine⟨h1,?_⟩;rcases h2 with h2|⟨g,cur,h2,b,d,rest⟩
 ·exact .inl h2
 ·exact .inr ⟨g,cur,h2,b,(hk g h2).trans d,rest⟩
theorem OwC.below (h:OwC w B e size A n cs)(b:Below w.heap.size w w'):OwC w' B e size A n cs:=h.keep fun g d=>b.block g (h.lt d).2
theorem OwC.alloc (h:OwC w B e size A n cs)(o:Obj):OwC (w.alloc o) B e size A n cs:=h.below ((Below.refl _ _).alloc (Nat.le_refl _) o)
theorem OwC.far (h:OwC w B e size A n cs){p:Addr}(b:∀g,A=some ⟨g,0,none⟩→g≠p.block)(u:Value):OwC (w.setCell p u) B e size A n cs:=h.keep fun g d=>Below.heap_setCell w p u g (b g d)
theorem OwC.stored (h:OwC w B e size A n cs){g:Nat}(b:A=some ⟨g,0,none⟩)(j:Nat)(v:Value):OwC (w.setCell ⟨g,j,none⟩ v) B e size A n (cs.set j v):=by
 obtain⟨h1,h2⟩:=h;refine⟨by rw[List.length_set];exact h1,?_⟩;rcases h2 with⟨h2,_⟩|⟨l,cur,h2,d,f,i,k⟩
 ·rw[b] at h2;cases h2
 ·have m:=h2
  rw[b] at h2;injection h2 with h2
  injection h2 with h2
  subst h2;refine .inr ⟨g,cur.setIfInBounds j v,b,d,heap_setCell_same w g j cur e v f,by simpa using i,?_⟩;rw[Array.toList_setIfInBounds,List.take_set,k]
end
theorem JD {α:Type}{cur xs new:List α}{p n:Nat}(b:cur.take (n*2)=xs)(i:p≤n)(j:(n+1)*2≤cur.length)(d:new.length=2):
 ((cur.take ((p+1)*2)++xs.drop (p*2)++cur.drop ((p+1)*2+(xs.drop (p*2)).length)).take (p*2)++new++(cur.take ((p+1)*2)++xs.drop (p*2)++cur.drop ((p+1)*2+(xs.drop (p*2)).length)).drop (p*2+new.length)).take ((n+1)*2)=xs.take (p*2)++new++xs.drop (p*2)∧
 ((cur.take ((p+1)*2)++xs.drop (p*2)++cur.drop ((p+1)*2+(xs.drop (p*2)).length)).take (p*2)++new++(cur.take ((p+1)*2)++xs.drop (p*2)++cur.drop ((p+1)*2+(xs.drop (p*2)).length)).drop (p*2+new.length)).length=cur.length:=by
 have k:xs.length=n*2:=(by rw[←b,List.length_take];omega);have f:(cur.take ((p+1)*2)++xs.drop (p*2)++cur.drop ((p+1)*2+(xs.drop (p*2)).length)).take (p*2)=xs.take (p*2):=by
  rw[List.append_assoc,List.take_append_of_le_length (by rw[List.length_take];omega),List.take_take,Nat.min_eq_left (by omega),←b,List.take_take,Nat.min_eq_left (by omega)]
 have g:(cur.take ((p+1)*2)++xs.drop (p*2)++cur.drop ((p+1)*2+(xs.drop (p*2)).length)).drop (p*2+new.length)=xs.drop (p*2)++cur.drop ((p+1)*2+(xs.drop (p*2)).length):=by
  rw[List.append_assoc,d,List.drop_append_of_le_length (by rw[List.length_take];omega),List.drop_of_length_le (by rw[List.length_take];omega),List.nil_append]
 rw[f,g];have h:(xs.take (p*2)++new++xs.drop (p*2)).length=(n+1)*2:=by
  simp only[List.length_append,List.length_take,List.length_drop,d];omega
 constructor
 ·rw[←List.append_assoc,List.take_append_of_le_length (by omega),List.take_of_length_le (by omega)]
 ·rw[←List.append_assoc,List.length_append,h,List.length_drop,List.length_drop];omega
theorem Kv {α:Type}{row xs new:List α}{p n:Nat}(d:row.take (p*2)=xs.take (p*2))(f:xs.length=n*2)(j:p≤n)(k:(n+1)*2≤row.length)(b:new.length=2):
 ((row.take (p*2)++new++row.drop (p*2+new.length)).take ((p+1)*2)++xs.drop (p*2)++(row.take (p*2)++new++row.drop (p*2+new.length)).drop ((p+1)*2+(xs.drop (p*2)).length)).take ((n+1)*2)=xs.take (p*2)++new++xs.drop (p*2)∧
 ((row.take (p*2)++new++row.drop (p*2+new.length)).take ((p+1)*2)++xs.drop (p*2)++(row.take (p*2)++new++row.drop (p*2+new.length)).drop ((p+1)*2+(xs.drop (p*2)).length)).length=row.length:=by
 have g:(row.take (p*2)++new++row.drop (p*2+new.length)).take ((p+1)*2)=xs.take (p*2)++new:=by
  rw[List.take_append_of_le_length (by simp only[List.length_append,List.length_take,b];omega),List.take_of_length_le (by simp only[List.length_append,List.length_take,b];omega),d]
 have h:(row.take (p*2)++new++row.drop (p*2+new.length)).length=row.length:=by
  simp only[List.length_append,List.length_take,List.length_drop,b];omega
 rw[g];have i:(xs.take (p*2)++new++xs.drop (p*2)).length=(n+1)*2:=by
  simp only[List.length_append,List.length_take,List.length_drop,b];omega
 constructor
 ·rw[List.take_append_of_le_length (by omega),List.take_of_length_le (by omega)]
 ·rw[List.length_append,i,List.length_drop,h,List.length_drop,f];omega
theorem Ji {α:Type}{cur xs z:List α}{p n:Nat}(b:cur.take (n*2)=xs)(j:p<n)(k:n*2≤cur.length)(f:z.length=2):
 ((cur.take (p*2)++xs.drop ((p+1)*2)++cur.drop (p*2+(xs.drop ((p+1)*2)).length)).take ((n - 1)*2)++z++(cur.take (p*2)++xs.drop ((p+1)*2)++cur.drop (p*2+(xs.drop ((p+1)*2)).length)).drop ((n - 1)*2+z.length)).take ((n - 1)*2)=xs.take (p*2)++xs.drop ((p+1)*2)∧
 ((cur.take (p*2)++xs.drop ((p+1)*2)++cur.drop (p*2+(xs.drop ((p+1)*2)).length)).take ((n - 1)*2)++z++(cur.take (p*2)++xs.drop ((p+1)*2)++cur.drop (p*2+(xs.drop ((p+1)*2)).length)).drop ((n - 1)*2+z.length)).length=cur.length:=by
 have l:xs.length=n*2:=(by rw[←b,List.length_take];omega);have g:cur.take (p*2)=xs.take (p*2):=(by rw[←b,List.take_take,Nat.min_eq_left (by omega)]);have d:(xs.take (p*2)++xs.drop ((p+1)*2)).length=(n - 1)*2:=by
  simp only[List.length_append,List.length_take,List.length_drop];omega
 have h:(xs.take (p*2)++xs.drop ((p+1)*2)++cur.drop (p*2+(xs.drop ((p+1)*2)).length)).length=cur.length:=by
  rw[List.length_append,d,List.length_drop,List.length_drop];omega
 rw[g];have i:(xs.take (p*2)++xs.drop ((p+1)*2)++cur.drop (p*2+(xs.drop ((p+1)*2)).length)).take ((n - 1)*2)=xs.take (p*2)++xs.drop ((p+1)*2):=by
  rw[List.take_append_of_le_length (by omega),List.take_of_length_le (by omega)]
 rw[i];constructor
 ·rw[List.append_assoc,List.take_append_of_le_length (by omega),List.take_of_length_le (by omega)]
 ·rw[List.length_append,List.length_append,d,List.length_drop,h,f];omega
theorem QY (A:Option Addr)(n cap:Nat)(cs:List Value)(w:World)(d:Sl w A n cap 2 cs)(I:n≤100000)(h1:∀u ∈ cs,u.oneCell'=true):
 Calls prog 43 #[.slice A n cap] w fun e w'=>∃j b,e= .returned (.slice j n b)∧w'.ownsRow w.heap.size 60 2 (.slice j n b) n cs∧Below w.heap.size w w':=by
 obtain⟨i,p,q,r,s⟩:=info_parts mG;have J:∀(w:World) (a:Option Addr) (n c f b:Nat),(binOp .eql 27 (.slice a n c) (.slice none f b)).run prog w= .ok (.bool a.isNone) w:=fun w a n c f b=>Lib.run_eql_slice_nil w _ _ a n c f b underlying27
 cases A with
 |none=>
  have h0:n=0:=by
   rcases Nat.eq_zero_or_pos n with h|h
   ·exact h
   ·obtain⟨g,L,t,_⟩:=d.2.2.2 h;cases t
  subst h0;have v:cs=[]:=List.eq_nil_of_length_eq_zero (by simpa using d.2.2.1);subst v;clear d;go_enter func43,ntmps43;go_wp2;go_ret;exact⟨none,0,rfl,⟨rfl,.inl ⟨rfl,rfl⟩⟩,Below.refl _ _⟩
 |some M=>
  have x:0+n≤maxLen:=(by unfold maxLen;omega);have y:(0+n)*32≤140737488355328:=oo;have l:=vS (base:=w.heap.size) (size:=2) (Bk.new w #[] 60) (Nat.le_refl _);have z:=d.alloc (.cells #[] 60);have C:Below w.heap.size w (w.alloc (.cells #[] 60)):=zy;clear d;go_enter func43,ntmps43;go_wp2_with(at_builtin;go_must(refine zT _ rfl _ _ 27 rfl w.heap.size 60 i _ 2 32 underlying27 p q r s rfl oo _ _ _ rfl l _ n cap cs rfl z h1 x y ?_ ?_))
  ·simp
  intro D F N m G _;have H:=C.grown G (by simp) (fun k hk=>by have:=(l.lt k hk).1;omega);try simp only[Nat.zero_add,List.nil_append] at m
  go_wp2;go_ret;exact⟨D,F,by simp,m,H⟩
theorem Wp (A:Option Addr)(n cap:Nat)(w:World)(b:A=none→n=0∧cap=0)(d:n≤cap)(f:cap≤9223372036854775807):
 Calls prog 48 #[.slice A n cap] w fun e w'=>e= .returned (.slice A n n)∧w'=w:=by
 have g:(n:Int)≤cap:=oo
 cases A with
 |none=>
  obtain⟨rfl,rfl⟩:=b rfl;go_enter func48,ntmps48;go_wp2;go_ret;exact⟨rfl,rfl⟩
 |some h=>
  clear b;go_enter func48,ntmps48;go_wp2;go_ret;exact⟨rfl,rfl⟩
