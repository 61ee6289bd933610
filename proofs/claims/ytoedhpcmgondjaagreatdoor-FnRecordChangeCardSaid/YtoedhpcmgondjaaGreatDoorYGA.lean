import Derived.Test.YtoedhpcmgondjaaGreatDoorRows
import Derived.WalkKit
import Derived.WalkSpells
import Derived.WalkLawsBesides
import Derived.Deep.QuietTactic
import Derived.BigQuiet
import Derived.IntWalk
import Derived.Lib.TrimByte
import Derived.Laws.BitsAllLaws
import Derived.Laws.BitsLemmas
import Derived.Laws.IdiomStrings
import Derived.Lib.Hide
import Derived.RegionTactic
import Derived.Lib.QuietBelow
import Derived.OwnWalk
import Derived.StillTailTactics
import Derived.Laws.AppendOwn
import Derived.Laws.MakeOwn
import Derived.Deep.RegionHeld3
import Derived.Deep.AppendLies
import Derived.Laws.BytesArg
import Derived.Maps.AppendAt
import Derived.Lib.AppendStr
set_option linter.all false
namespace Go.Proofs.YtoedhpcmgondjaaGreatDoor
open Go.RowKit Go.Proofs.Tryz
abbrev rT (w:World)(v:Value):Ending→World→Prop:=fun e w'=>e= .returned v∧Below w.heap.size w w'
abbrev rS (w:World)(v:Ending):Ending→World→Prop:=fun e w'=>e=v∧Below w.heap.size w w'
def byteAt (l:List UInt8)(i:Int):Int:=((l[i.toNat]?.getD 0).toNat:Int)
theorem zQ (l:List UInt8)(i:Int):0≤byteAt l i:=by unfold byteAt;omega
theorem yG (l:List UInt8)(i:Int):byteAt l i≤255:=by
 unfold byteAt;have:=(l[i.toNat]?.getD 0).toNat_lt;omega
theorem yh (l:List UInt8)(k:Nat)(h:k<l.length):byteAt l (k:Int)=(l[k].toNat:Int):=by
 simp [byteAt,List.getElem?_eq_getElem h]
theorem yu (l:List UInt8):(⟨l.toArray⟩:ByteArray).size=l.length:=by simp [ByteArray.size]
theorem zN (l:List UInt8):(⟨l.toArray⟩:ByteArray).toList=l:=by
 have h:(⟨l.toArray⟩:ByteArray).toList=(⟨l.toArray⟩:ByteArray).data.toList:=by
  simp
 rw[h]
theorem zV (l m:List UInt8):(⟨l.toArray⟩:ByteArray)++(⟨m.toArray⟩:ByteArray)=⟨(l++m).toArray⟩:=by
 apply ByteArray.ext;simp
section
variable {P : Program} (w : World)
theorem zG (t:TypeId)(l:List UInt8)(k:IntKind)(i:Int)(h:P.underlying t=some .string):
 (Instr.index t (.string ⟨l.toArray⟩) (.int k i)).run P w=
  if 0≤i∧i<(l.length:Int) then .ok (.int .u8 (byteAt l i)) w else(boundsPanic k i l.length .index).run P w:=by
 rw[run_index_string w t _ k i h];by_cases b:0≤i∧i<(l.length:Int)
 ·have c:i.toNat<l.length:=by omega
  rw[dif_pos (by rw[yu];exact b),if_pos b];have:(⟨l.toArray⟩:ByteArray)[i.toNat]'(by rw[yu];exact c)=l[i.toNat]:=by
   show l.toArray[i.toNat]'_=_;simp
  rw[this];simp [byteAt,List.getElem?_eq_getElem c]
 ·rw[dif_neg (by rw[yu];exact b),if_neg b,yu]
theorem zF (t:TypeId)(a b:List UInt8):binOp .eql t (.string ⟨a.toArray⟩) (.string ⟨b.toArray⟩)=pure (.bool (decide (a=b))):=by
 rw[binOp_string_eql,zN,zN];congr 2;by_cases h:a=b<;>simp [h]
theorem zH (t:TypeId)(a b:List UInt8):binOp .neq t (.string ⟨a.toArray⟩) (.string ⟨b.toArray⟩)=pure (.bool (decide (a≠b))):=by
 rw[binOp_string_neq,zN,zN];congr 2;by_cases h:a=b<;>simp [h]
theorem zD (t:TypeId)(l:List UInt8)(k b:IntKind)(i j:Int)(h:P.underlying t=some .string)
 (h0:0≤i) (h1:i≤j) (h2:j≤l.length):
 (Instr.slice t (.string ⟨l.toArray⟩) (some (.int k i)) (some (.int b j)) none).run P w= .ok (.string ⟨((l.drop i.toNat).take (j.toNat - i.toNat)).toArray⟩) w:=by
 rw[run_slice_string w t _ k b i j h h0 h1 (by rw[yu];exact h2),ByteArray.extract_mk]
theorem zl (t:TypeId)(l:List UInt8)(k:IntKind)(i:Int)(h:P.underlying t=some .string)
 (h0:0≤i) (h2:i≤l.length):
 (Instr.slice t (.string ⟨l.toArray⟩) (some (.int k i)) none none).run P w= .ok (.string ⟨(l.drop i.toNat).toArray⟩) w:=by
 rw[run_slice_string_from_if w t _ k i h,if_pos (by rw[yu];exact⟨h0,h2⟩),ByteArray.extract_mk,yu];rw[List.take_of_length_le (by simp)]
theorem zn (t:TypeId)(l:List UInt8)(k:IntKind)(j:Int)(h:P.underlying t=some .string)
 (h0:0≤j) (h2:j≤l.length):
 (Instr.slice t (.string ⟨l.toArray⟩) none (some (.int k j)) none).run P w= .ok (.string ⟨(l.take j.toNat).toArray⟩) w:=by
 rw[run_slice_string_to_if w t _ k j h,if_pos (by rw[yu];exact⟨h0,h2⟩),ByteArray.extract_mk];simp
end
def Oc (x:Option Value)(w:World)(r:Result Value):Result Value:=
 match x with
 |some (.int .u8 n)=>.ok (.string ⟨[UInt8.ofNat n.toNat].toArray⟩) w
 |_=>r
def PE (x y:Option Value)(w:World)(r:Result Value):Result Value:=
 match x,y with
 |some (.int .u8 n),some (.int .u8 m)=>.ok (.string ⟨[UInt8.ofNat n.toNat,UInt8.ofNat m.toNat].toArray⟩) w
 |_,_=>r
theorem zK (n:Int)(w:World)(r:Result Value):Oc (some (.int .u8 n)) w r= .ok (.string ⟨[UInt8.ofNat n.toNat].toArray⟩) w:=rfl
theorem zJ (n m:Int)(w:World)(r:Result Value):PE (some (.int .u8 n)) (some (.int .u8 m)) w r= .ok (.string ⟨[UInt8.ofNat n.toNat,UInt8.ofNat m.toNat].toArray⟩) w:=rfl
section
variable {P : Program} (w : World)
theorem Ot (d f e:TypeId)(b c:Nat)(k:P.underlying d=some (.slice e))(m:P.underlying e=some (.int .u8))(o:P.underlying f=some .string):
 (convert d f (.slice (some ⟨b,0,none⟩) 1 c)).run P w=Oc (w.cell? ⟨b,0,none⟩) w ((Conv.bytesToString (.slice (some ⟨b,0,none⟩) 1 c)).run P w):=by
 rw[run_convert_bytes_string w d f e _ 1 c k m o];unfold Oc;split
 ·rename_i n h
  have p:=run_loadCells_list (P:=P) w ⟨b,0,none⟩ ([n].map (Value.int .u8)) (fun j v i=>by
   match j with
   |0=>simp at i;subst i;simpa [Addr.add] using h
   |j+1=>simp at i)
  rw[run_bytesToString w ⟨b,0,none⟩ 1 c [n] (by simpa using p)];simp [ByteArray.push,ByteArray.empty,ByteArray.emptyWithCapacity];rfl
 ·rfl
theorem Nr (f i e:TypeId)(b c:Nat)(k:P.underlying f=some (.slice e))(o:P.underlying e=some (.int .u8))(p:P.underlying i=some .string):
 (convert f i (.slice (some ⟨b,0,none⟩) 2 c)).run P w=PE (w.cell? ⟨b,0,none⟩) (w.cell? ⟨b,1,none⟩) w ((Conv.bytesToString (.slice (some ⟨b,0,none⟩) 2 c)).run P w):=by
 rw[run_convert_bytes_string w f i e _ 2 c k o p];unfold PE;split
 ·rename_i n m h h2
  have q:=run_loadCells_list (P:=P) w ⟨b,0,none⟩ ([n,m].map (Value.int .u8)) (fun j v d=>by
   match j with
   |0=>simp at d;subst d;simpa [Addr.add] using h
   |1=>simp at d;subst d;simpa [Addr.add] using h2
   |j+2=>simp at d)
  rw[run_bytesToString w ⟨b,0,none⟩ 2 c [n,m] (by simpa using q)];simp [ByteArray.push,ByteArray.empty,ByteArray.emptyWithCapacity];rfl
 ·rfl
end
theorem y9 (w:World)(b c:Nat):(convert 22 9 (.slice (some ⟨b,0,none⟩) 1 c)).run prog w=Oc (w.cell? ⟨b,0,none⟩) w ((Conv.bytesToString (.slice (some ⟨b,0,none⟩) 1 c)).run prog w):=
 Ot w _ _ 5 b c underlying22 underlying5 underlying9
theorem yE (w:World)(b c:Nat):(convert 22 9 (.slice (some ⟨b,0,none⟩) 2 c)).run prog w=PE (w.cell? ⟨b,0,none⟩) (w.cell? ⟨b,1,none⟩) w ((Conv.bytesToString (.slice (some ⟨b,0,none⟩) 2 c)).run prog w):=
 Nr w _ _ 5 b c underlying22 underlying5 underlying9
theorem zt (l:List UInt8)(i:Int):wrap64 (byteAt l i)=byteAt l i:=by
 have h0:=zQ l i;have h1:=yG l i;exact IntWalk.wrap64_in _ ⟨by omega,by omega⟩
theorem zi (l:List UInt8)(i:Int):wrap64 (byteAt l i*256)=byteAt l i*256:=by
 have h0:=zQ l i;have h1:=yG l i;exact IntWalk.wrap64_in _ ⟨by omega,by omega⟩
theorem zu (l m:List UInt8)(i j:Int):bits .or .i64 (byteAt l i*256) (byteAt m j)=byteAt l i*256+byteAt m j:=by
 unfold byteAt;generalize d:(l[i.toNat]?.getD 0).toNat=x;generalize f:(m[j.toNat]?.getD 0).toNat=y;have h1:x<256:=(by rw[←d];exact UInt8.toNat_lt _);have h2:y<256:=(by rw[←f];exact UInt8.toNat_lt _);have e:((x:Int)*256)=((x*256:Nat):Int):=(by omega);rw[e];have h:x*256|||y<2 ^ 63:=Nat.or_lt_two_pow (by omega) (by omega)
 have c:∀a:Nat,a<9223372036854775808→(BitVec.ofInt 64 (a:Int)).toNat=a:=fun a k=>by
  rw[BitVec.ofInt_natCast,BitVec.toNat_ofNat];exact Nat.mod_eq_of_lt (by omega)
 show IntKind.i64.wrap ((BitVec.ofInt 64 ((x*256:Nat):Int)|||BitVec.ofInt 64 (y:Int)).toNat:Int)=_;rw[BitVec.toNat_or,c _ (by omega),c y (by omega),IntKind.wrap_i64];have:x*256|||y=x*256+y:=by
  have:=Nat.two_pow_add_eq_or_of_lt (i:=8) (b:=y) (by omega) x;rw[show(2:Nat) ^ 8=256 from rfl] at this;rw[Nat.mul_comm];exact this.symm
 rw[this];omega
abbrev Bs :=List UInt8
theorem xx {α:Type}{P:List α→Prop}(h0:P [])(h1:∀l a,P l→P (l++[a]))(l:List α):P l:=by
 have b:∀m:List α,P m.reverse:=by
  intro m
  induction m with
  |nil=>exact h0
  |cons a m c=>rw[List.reverse_cons];exact h1 _ _ c
 have:=b l.reverse
 rwa [List.reverse_reverse] at this
def uV (p:Int×Int)(c:UInt8):Int×Int:=((p.1+(c.toNat:Int)) % 255,(p.2+(p.1+(c.toNat:Int)) % 255) % 255)
def sumP (l:Bs):Int×Int:=l.foldl uV (0,0)
def sumOf (l:Bs):Int:=256*(sumP l).2+(sumP l).1
theorem eY (l:Bs):0≤(sumP l).1∧(sumP l).1<255∧0≤(sumP l).2∧(sumP l).2<255:=by
 unfold sumP
 suffices h:∀(l:Bs) (p:Int×Int),(0≤p.1∧p.1<255∧0≤p.2∧p.2<255)→(0≤(l.foldl uV p).1∧(l.foldl uV p).1<255∧0≤(l.foldl uV p).2∧(l.foldl uV p).2<255) from
  h l _ ⟨by decide,by decide,by decide,by decide⟩
 intro l
 induction l with
 |nil=>intro p h;exact h
 |cons c l b=>
  intro p h;apply b;unfold uV;refine⟨?_,?_,?_,?_⟩<;>simp<;>omega
theorem tq (l:Bs):0≤sumOf l∧sumOf l<65536:=by
 have:=eY l;unfold sumOf;omega
theorem take_snoc' (l:Bs)(k:Nat)(h:k<l.length):l.take (k+1)=l.take k++[l[k]]:=by
 rw[List.take_succ_eq_append_getElem h]
theorem sumP_snoc (l:Bs)(k:Nat)(h:k<l.length):sumP (l.take (k+1))=uV (sumP (l.take k)) l[k]:=by
 unfold sumP;rw[take_snoc' l k h,List.foldl_append];rfl
def numAt (l:Bs)(i:Int):Int:=byteAt l i*256+byteAt l (i+1)
theorem xQ (l:Bs)(i:Int):0≤numAt l i∧numAt l i≤65535:=by
 have h1:=zQ l i;have h2:=yG l i;have b:=zQ l (i+1);have c:=yG l (i+1);unfold numAt;omega
def two (n:Int):Bs:=[UInt8.ofNat (n / 256 % 256).toNat,UInt8.ofNat (n % 256).toNat]
structure Blk where
 num : Int
 raw : Bool
 size : Int
 body : Bs
def Blk.ok (b:Blk):Bool:=decide (0≤b.num∧b.num<40∧1≤b.size∧b.size≤64∧(if b.raw then(b.body.length:Int)=b.size else 1≤b.body.length∧(b.body.length:Int)<b.size))
def nameB (c:UInt8):Bool:=97≤c&&c≤122
def vV (l:Bs):Bool:=decide (1≤l.length∧l.length≤8)&&l.all nameB
theorem Wj (l:Bs)(k:Nat)(h:k<l.length):nameB l[k]=decide (97≤byteAt l k∧byteAt l k≤122):=by
 rw[yh l k h,nameB,Bool.eq_iff_iff];simp [UInt8.le_iff_toNat_le];omega
theorem qo (p:UInt8→Bool)(l:Bs)(k:Nat)(h:k<l.length):(l.take (k+1)).all p=((l.take k).all p&&p l[k]):=by
 rw[take_snoc' l k h,List.all_append];simp
theorem qK (p:UInt8→Bool)(l:Bs)(k:Nat)(h:k<l.length)(c:p l[k]=false):l.all p=false:=by
 rw[Bool.eq_false_iff];intro b;rw[List.all_eq_true] at b;have:=b _ (List.getElem_mem h);rw[c] at this;cases this
def rM (k:Int)(b:Bs)(f t s:Int)(d:Bs):Prop:=
 vV b=true∧d.length≤2000∧
  (((k=0∨k=1)∧1≤s∧s≤64∧f=0∧t=0)∨(k=2∧1≤s∧s≤64∧0≤f∧f≤t∧t≤2000)∨
    (k=3∧1≤s∧s≤64∧f=0∧t=0∧d=[])∨(k=4∧s=0∧f=0∧t=0∧d=[]))
instance (k : Int) (nm : Bs) (f t s : Int) (d : Bs) : Decidable (rM k nm f t s d) := by unfold rM; infer_instance
theorem zS {a b:Bool}(h:a=b):Ending.returned (.bool a)=Ending.returned (.bool b):=by rw[h]
theorem yZ {k:IntKind}{a b:Int}(h:a=b):Ending.returned (.int k a)=Ending.returned (.int k b):=by rw[h]
theorem rO {a b:Bs}(h:a=b):Ending.returned (.string ⟨a.toArray⟩)=Ending.returned (.string ⟨b.toArray⟩):=by rw[h]
theorem aj {B:Nat}{a w:World}(h:Below B a w)(n:Nat):Below B a (w.drewN n):=⟨h.os,h.tape,h.output,h.size,h.block⟩
theorem zh {w b:World}(h:∃p:Regrown,b=Go.Sort.grow (redrawn w p.d) p.os):Below w.heap.size w b:=by
 obtain⟨⟨d,c⟩,rfl⟩:=h;exact below_regrown _ _ _
theorem zM {W:World}{b:Nat}{cs:Array Value}(e:∀i,W.cell? ⟨b,i,none⟩=cs[i]?)(f:b<W.heap.size):∀d c i,(Go.Sort.grow (redrawn W d) c).cell? ⟨b,i,none⟩=cs[i]? :=
 fun d c i=>((below_regrown W d c).cell (p:=⟨b,i,none⟩) f).trans (e i)
theorem World.kU (w:World)(n:Nat):Below w.heap.size w (w.drewN n):=⟨rfl,rfl,rfl,Nat.le_refl _,fun _ _=>rfl⟩
theorem zU {W c:World}{b:Nat}{cs:Array Value}(d:∀i,W.cell? ⟨b,i,none⟩=cs[i]?)(e:Below W.heap.size W c)(f:b<W.heap.size):∀i,c.cell? ⟨b,i,none⟩=cs[i]? :=
 fun i=>(e.cell (p:=⟨b,i,none⟩) f).trans (d i)
theorem eu {W c:World}{b:Nat}(d:∀i,W.frozen? ⟨b,i,none⟩=false)(e:Below W.heap.size W c)(f:b<W.heap.size):∀i,c.frozen? ⟨b,i,none⟩=false:=
 fun i=>(e.frozen (p:=⟨b,i,none⟩) f).trans (d i)
theorem Y5 {W:World}{b:Nat}{cs:Array Value}(c:∀i,W.cell? ⟨b,i,none⟩=cs[i]?)(d:b<W.heap.size)(o:Obj):∀i,(W.alloc o).cell? ⟨b,i,none⟩=cs[i]? :=
 fun i=>(World.cell?_alloc_past o b i d).trans (c i)
theorem yF (w:World)(cs:Array Value)(t:TypeId):∀i,(w.alloc (.cells cs t)).cell? ⟨w.heap.size,i,none⟩=cs[i]? :=fun _=>World.cell?_alloc_at _ _ _ _ rfl
def vk (o l m:Int):Prop:=(o=0∨o=1)∧1≤l∧l≤8∧l+2≤m∧m≤10
instance (o l m : Int) : Decidable (vk o l m) := by unfold vk; infer_instance
def pow2 (n:Int):Int:=2 ^ n.toNat
theorem xu (n:Int)(h0:0≤n)(h:n≤16):1≤pow2 n∧pow2 n≤65536:=by
 obtain⟨k,rfl⟩:=Int.eq_ofNat_of_zero_le h0;have hk:k≤16:=(by omega);unfold pow2;simp only[Int.toNat_natCast]
 match k,hk with
 |0,_|1,_|2,_|3,_|4,_|5,_|6,_|7,_|8,_|9,_|10,_|11,_|12,_|13,_|14,_|15,_|16,_=>decide
theorem qE (n:Int)(h0:0≤n)(h:n≤16):wrap64 (2 ^ n.toNat)=pow2 n:=by
 have:=xu n h0 h;show wrap64 (pow2 n)=pow2 n;exact IntWalk.wrap64_in _ ⟨by omega,by omega⟩
def uq (l:Int)(c:UInt8):Bool:=decide ((c.toNat:Int)<pow2 l)
theorem UE (n:Int)(l:Bs)(k:Nat)(h:k<l.length):uq n l[k]=decide (byteAt l k<pow2 n):=by rw[yh l k h];rfl
def fits (o l m:Int)(d:Bs):Prop:=vk o l m∧d.length≤2000∧d.all (uq l)=true
instance (o l m : Int) (d : Bs) : Decidable (fits o l m d) := by unfold fits; infer_instance
theorem wQ :(prog.info? 5).map (fun i=>(i.zero,i.size,i.bytes))=some (some (.int .u8 0),1,1):=by kernel_rfl
abbrev u8v (c:UInt8):Value:=.int .u8 (c.toNat:Int)
theorem yL {w:World}{B:Nat}{v:Value}{l:Bs}(h:w.ownsRow B 5 1 v l.length (l.map u8v)):
 (convert 22 9 v).run prog w= .ok (.string ⟨l.toArray⟩) w:=by
 have b:=fun g c=>h.cells (g:=g) c;rcases h.2 with⟨rfl,h0⟩|⟨g,cap,cur,rfl,_⟩
 ·have:l=[]:=List.eq_nil_of_length_eq_zero h0
  subst this;exact run_convert_bytes_nil (P:=prog) w 22 5 underlying22 underlying5 0 0 9 underlying9
 ·refine run_convert_bytes_back w _ _ 5 _ cap l underlying22 underlying5 underlying9 (fun j d=>b g rfl j _ ?_)
  simp [List.getElem?_eq_getElem d]
def Sl (w:World)(A:Option Addr)(n cap size:Nat)(cs:List Value):Prop:=
 n≤cap∧cap≤9223372036854775807∧cs.length=n*size∧(0<n→∃g b,A=some ⟨g,b,none⟩∧g<w.heap.size∧∀(j:Nat) (u:Value),cs[j]? =some u→w.cell? ⟨g,b+j,none⟩=some u)
section
variable {w w' : World} {A : Option Addr} {n cap size : Nat} {cs : List Value}
theorem Sl.nil (w:World)(size:Nat):Sl w none 0 0 size []:=⟨Nat.le_refl _,by omega,by simp,fun h=>absurd h (by omega)⟩
theorem Sl.keep (h:Sl w A n cap size cs)(hk:∀p:Addr,p.block<w.heap.size→w'.cell? p=w.cell? p)(m:w.heap.size≤w'.heap.size):Sl w' A n cap size cs:=by
 obtain⟨h1,h2,b,c⟩:=h;refine⟨h1,h2,b,fun d=> ?_⟩;obtain⟨g,e,rfl,f,i⟩:=c d;exact⟨g,e,rfl,by omega,fun j u k=>(hk _ f).trans (i j u k)⟩
theorem Sl.below (h:Sl w A n cap size cs)(b:Below w.heap.size w w'):Sl w' A n cap size cs:=h.keep (fun _ c=>b.cell c) b.size
theorem Sl.drewN (h:Sl w A n cap size cs)(k:Nat):Sl (w.drewN k) A n cap size cs:=h
theorem Sl.alloc (h:Sl w A n cap size cs)(o:Obj):Sl (w.alloc o) A n cap size cs:=h.keep (fun p b=>World.cell?_alloc_lt w o p b) (by simp)
theorem Sl.blk {g b:Nat}(h:Sl w (some ⟨g,b,none⟩) n cap size cs)(d:w'.heap[g]? =w.heap[g]?)(o:w.heap.size≤w'.heap.size):Sl w' (some ⟨g,b,none⟩) n cap size cs:=by
 obtain⟨h1,h2,e,f⟩:=h;refine⟨h1,h2,e,fun i=> ?_⟩;obtain⟨p,q,c,r,k⟩:=f i;injection c with c
 injection c with e1 e2 _
 subst e1;subst e2;exact⟨g,b,rfl,by omega,fun j u m=>(World.cell?_of_block (a:=⟨g,b+j,none⟩) d).trans (k j u m)⟩
theorem Sl.at1 (h:Sl w A n cap 1 cs){k:Nat}(hk:k<n):∃g b u,A=some ⟨g,b,none⟩∧g<w.heap.size∧cs[k]? =some u∧w.cell? ⟨g,b+k,none⟩=some u:=by
 obtain⟨_,_,i,d⟩:=h;obtain⟨g,b,rfl,e,f⟩:=d (by omega);have c:k<cs.length:=(by omega);exact⟨g,b,cs[k],rfl,e,List.getElem?_eq_getElem c,f k _ (List.getElem?_eq_getElem c)⟩
theorem Sl.sG {B:Nat}{e:TypeId}{v:Value}(h:w.ownsRow B e size v n cs):∃A cap,v= .slice A n cap∧Sl w A n cap size cs:=by
 have d:=fun g b=>h.cells (g:=g) b;have f:=h.lt;obtain⟨h1,h2⟩:=h;rcases h2 with⟨rfl,h0⟩|⟨g,cap,cur,rfl,m,b,i,c,o,p⟩
 ·subst h0
  refine⟨none,0,rfl,Nat.le_refl _,by omega,h1,fun h=>absurd h (by omega)⟩
 ·unfold maxLen at c
  refine⟨_,cap,rfl,i,c,h1,fun _=>⟨g,0,rfl,(f g rfl).2,fun j u k=> ?_⟩⟩;have:=d g rfl j u k;rw[Nat.zero_add];unfold Addr.add at this;split at this<;>simp_all
end
def Bk (w:World)(g:Nat)(t:TypeId)(cs:Array Value):Prop:=w.heap[g]? =some (.cells cs t (0,0))
section
variable {w w' : World} {g : Nat} {t : TypeId} {cs : Array Value}
theorem Bk.lt (h:Bk w g t cs):g<w.heap.size:=by
 rcases Nat.lt_or_ge g w.heap.size with b|c
 ·exact b
 ·unfold Bk at h;rw[Array.getElem?_eq_none c] at h;cases h
theorem Bk.cell (h:Bk w g t cs):∀i,w.cell? ⟨g,i,none⟩=cs[i]? :=fun i=>cell_of_row w g i cs t (0,0) h
theorem Bk.free (h:Bk w g t cs):∀i,w.frozen? ⟨g,i,none⟩=false:=fun i=>by unfold Bk at h;simp [World.frozen?,h]
theorem Bk.new (w:World)(cs:Array Value)(t:TypeId):Bk (w.alloc (.cells cs t)) w.heap.size t cs:=heap_alloc_new w _
theorem Bk.newAt (w:World)(cs:Array Value)(t:TypeId){n:Nat}(h:n=w.heap.size):Bk (w.alloc (.cells cs t)) n t cs:=by subst h;exact Bk.new w cs t
theorem Bk.drew (h:Bk w g t cs):Bk w.drew g t cs:=h
theorem Bk.drewN (h:Bk w g t cs)(n:Nat):Bk (w.drewN n) g t cs:=h
theorem Bk.alloc (h:Bk w g t cs)(o:Obj):Bk (w.alloc o) g t cs:=(Below.heap_alloc w o g h.lt).trans h
theorem Bk.far (h:Bk w g t cs){p:Addr}(b:g≠p.block)(u:Value):Bk (w.setCell p u) g t cs:=(Below.heap_setCell w p u g b).trans h
theorem Bk.set (h:Bk w g t cs)(i:Nat)(u:Value):Bk (w.setCell ⟨g,i,none⟩ u) g t (cs.setIfInBounds i u):=heap_setCell_same w g i cs t u h
theorem Bk.below {B:Nat}(h:Bk w g t cs)(b:Below B w w')(c:g<B):Bk w' g t cs:=(b.block g c).trans h
theorem Bk.grown {row:Option Nat}(h:Bk w g t cs)(b:w.grownBy w' row)(c:∀k,row=some k→k≠g):Bk w' g t cs:=(b.block g h.lt (fun e=>c g e.symm rfl)).trans h
theorem own_ne {base:Nat}{e:TypeId}{size n:Nat}{v:Value}{xs:List Value}(h:w.ownsRow base e size v n xs)(b:Bk w g t cs)(c:e≠t):∀k,v.ownBlock=some k→k≠g:=by
 intro k hk d;subst d;obtain⟨_,h2⟩:=h;rcases h2 with⟨rfl,_⟩|⟨f,cap,cur,rfl,_,i,_⟩
 ·cases hk
 ·injection hk with hk
  have j:f=k:=hk;subst j;unfold Bk at b;rw[i] at b;injection b with b
  injection b with _ b
  exact c b
theorem zL {base:Nat}{e:TypeId}{size n:Nat}{v:Value}{xs:List Value}(h:w.ownsRow base e size v n xs){p:Addr}(c:∀k,v.ownBlock=some k→k≠p.block)(u:Value):(w.setCell p u).ownsRow base e size v n xs:=by
 obtain⟨h1,h2⟩:=h;refine⟨h1,?_⟩;rcases h2 with h2|⟨b,cap,cur,rfl,d,f,rest⟩
 ·exact .inl h2
 ·exact .inr ⟨b,cap,cur,rfl,d,(Below.heap_setCell w p u b (c b rfl)).trans f,rest⟩
theorem vS {base size:Nat}(h:Bk w g t #[])(b:base≤g):w.ownsRow base t size (.slice (some ⟨g,0,none⟩) 0 0) 0 []:=
 ⟨by simp,.inr ⟨g,0,#[],rfl,b,h,Nat.le_refl _,by unfold maxLen;omega,by simp,by simp⟩⟩
end
theorem Sl.new (w:World)(cs:Array Value)(t:TypeId)(n size:Nat)(h:cs.size=n*size)(b:n≤9223372036854775807):Sl (w.alloc (.cells cs t)) (some ⟨w.heap.size,0,none⟩) n n size cs.toList:=
 ⟨Nat.le_refl _,b,by simpa using h,fun _=>⟨w.heap.size,0,rfl,by simp,fun j u c=>by
  rw[Nat.zero_add,World.cell?_alloc_at _ _ _ _ rfl];simpa using c⟩⟩
theorem lt_of_cell {w:World}{b c:Nat}{v:Value}(h:w.cell? ⟨b,c,none⟩=some v):b<w.heap.size:=by
 rcases Nat.lt_or_ge b w.heap.size with h1|h1
 ·exact h1
 ·simp [World.cell?,Array.getElem?_eq_none h1] at h
theorem MI :(prog.info? 9).map (fun i=>(i.zero,i.size,i.bytes))=some (some (.string ⟨#[]⟩),1,16):=by kernel_rfl
abbrev sv (l:Bs):Value:=.string ⟨l.toArray⟩
theorem zB {B:Nat}{w w':World}(h:Below B w.drew w'):Below B w w':=⟨h.os,h.tape,h.output,h.size,h.block⟩
theorem VT (w:World)(cs:Array Value)(t:TypeId):∀i,(w.alloc (.cells cs t)).frozen? ⟨w.heap.size,i,none⟩=false:=by simp
theorem rE {w w':World}{row:Option Nat}(h:w.drew.grownBy w' row):w.grownBy w' row:=⟨h.os,h.tape,h.output,h.size,h.block⟩
theorem zI {w:World}{B B':Nat}{e:TypeId}{size n:Nat}{v:Value}{xs:List Value}(h:w.ownsRow B e size v n xs)(c:B'≤B):w.ownsRow B' e size v n xs:=by
 obtain⟨h1,h2⟩:=h;refine⟨h1,?_⟩;rcases h2 with h2|⟨g,cap,cur,b,d,rest⟩
 ·exact .inl h2
 ·exact .inr ⟨g,cap,cur,b,by omega,rest⟩
theorem V4 {W c:World}{o:Obj}{row:Option Nat}{b:Nat}(d:(W.alloc o).grownBy c row)(f:b<W.heap.size)(h:∀k,row=some k→k≠b):∀i,c.cell? ⟨b,i,none⟩=W.cell? ⟨b,i,none⟩:=
 fun i=>(World.cell?_of_block (a:=⟨b,i,none⟩) (d.block b (by simp;omega) (fun e=>h b e.symm rfl))).trans (World.cell?_alloc_lt W o ⟨b,i,none⟩ f)
theorem yD {B:Nat}{w W b:World}{o:Obj}{row:Option Nat}(c:Below B w W)(d:(W.alloc o).grownBy b row)(e:B≤W.heap.size)(f:∀k,row=some k→B≤k):Below B w b:=
 (c.alloc e o).grown d (by simp;omega) f
theorem ve {W b:World}{o:Obj}{row:Option Nat}(c:(W.alloc o).grownBy b row):W.heap.size+1≤b.heap.size:=by
 have:=c.size;simp at this;exact this
section
variable {w w' : World} {B : Nat}
theorem zf {e:TypeId}{size n:Nat}{v:Value}{xs:List Value}(h:w.ownsRow B e size v n xs)(b:Below w.heap.size w w'):w'.ownsRow B e size v n xs:=by
 have c:=h.lt;obtain⟨h1,h2⟩:=h;refine⟨h1,?_⟩;rcases h2 with h2|⟨g,cap,cur,rfl,d,f,rest⟩
 ·exact .inl h2
 ·have:=c g rfl
  exact .inr ⟨g,cap,cur,rfl,d,(b.block g this.2).trans f,rest⟩
end
section
variable {P : Program} {Q : Exit → Act → World → Prop} {S : World → Prop} {l : List Oper} {n : Nat}
def fH (P:Program)(ops:Array Oper)(n:Nat)(Q:Exit→Act→World→Prop):Exit→Act→World→Prop
 | .normal,a,w=>wpOp P ops Q n (Q .normal) a w
 |e,a,w=>Q e a w
theorem yJ {ops:Array Oper}{a:Act}{w:World}(h:wpOp P ops Q n (Q .normal) a w):fH P ops n Q .normal a w:=h
def lastB (l:List Oper)(n:Nat):Bool:=
 decide (l.length=n+1)&&((List.range n).all fun i=>Region.waitsFor .any l.toArray n i)&&
 ((List.range (n+1)).all fun i=>match l.toArray[i]? with
   |some o=>o.after.all (fun e=> !Region.binds .any e||decide (e.on<i))&&(match o.guard with|some (g,_)=>decide (g<n)|none=>true)
   |none=>true)
theorem gI {md:Region.Mode}{ops:Array Oper}{j i:Nat}(h:Region.waitsFor md ops j i=true):∃b,ops[j]? =some b∧∃e ∈ b.after,Region.binds md e=true∧e.on=i:=Region.waitsFor_spec h
theorem XN {o:Oper}{a:Act}{ops:Array Oper}{K j:Act→World→Prop}(b:∀a w,K a w→j a w):∀r,o.upon P a K (fH P ops n Q) r→o.upon P a j Q r:=by
 have k:LetsOut (fH P ops n Q)→LetsOut Q:=fun⟨a,w,h⟩=>⟨a,w,h⟩;intro r h
 cases r with
 |ok x w'=>
  cases x with
  |value v=>exact b _ _ h
  |skip=>exact b _ _ h
  |defer d=>exact b _ _ h
  |enter f args=>exact Calls.mono h (fun e m i=>by
    cases e with
    |returned v=>exact b _ _ i
    |panicked c=>exact i
    |outgrown=>exact k i)
  |row rw args=>exact Rows.mono h (fun _ _ i=>b _ _ i)
  |_=>exact h
 |halt x w'=>cases x<;>first|exact h|exact(h:False).elim
theorem NF {i:Nat}{a:Act}{w:World}{K e:Act→World→Prop}(f:lastB l n=true)(k:i<n)(c:∀a w,K a w→e a w)
 (h:wpOp P (l.take n).toArray (fH P l.toArray n Q) i K a w):wpOp P l.toArray Q i e a w:=by
 simp only[lastB,Bool.and_eq_true,decide_eq_true_eq] at f;obtain⟨⟨s,_⟩,b⟩:=f;have b:=List.all_eq_true.1 b i (List.mem_range.2 (by omega));have m:(l.take n).toArray[i]? =l.toArray[i]? :=(by simp [k]);unfold wpOp at*;rw[m] at h
 cases ho:l.toArray[i]? with
 |none=>simp only[ho] at h;exact c _ _ h
 |some o=>
  simp only[ho] at h b⊢;have p:Region.wanted o (yielded (l.take n).toArray a.tmps)=Region.wanted o (yielded l.toArray a.tmps):=by
   unfold Region.wanted;rw[Bool.and_eq_true] at b;have j:=b.2
   cases hgu:o.guard with
   |none=>rfl
   |some q=>
    obtain⟨g,u⟩:=q;simp only[hgu,decide_eq_true_eq] at j;have:yielded (l.take n).toArray a.tmps g=yielded l.toArray a.tmps g:=by
     unfold yielded;rw[show(l.take n).toArray[g]? =l.toArray[g]? by simp [j]]
    simp only[this]
  rw[p] at h;split
  ·rename_i d
   rw[if_pos d] at h;rcases h with h|⟨h1,h2⟩
   ·exact .inl (XN c _ h)
   ·obtain⟨r,w',h2⟩:=h2
    exact .inr ⟨h1,r,w',h2⟩
  ·rename_i d
   rw[if_neg d] at h;exact c _ _ h
theorem dD (x:Array Bool)(i:Nat)(d:Bool)(h:i<x.size):(x.push false).getD i d=x.getD i d:=by
 simp [Array.getElem_push_lt,h,show i<x.size+1 by omega]
theorem wK (x:Array Bool)(i:Nat):(x.push false).getD i false=x.getD i false:=by
 by_cases h:i<x.size
 ·exact dD x i false h
 ·by_cases h2:i=x.size
  ·subst h2;simp
  ·simp [show ¬i<x.size+1 by omega,h]
theorem Uu (x:Array Bool)(i:Nat)(h:i<x.size):(x.setIfInBounds i true).push false=(x.push false).setIfInBounds i true:=by
 apply Array.ext_getElem?;intro j;simp only[Array.getElem?_push,Array.getElem?_setIfInBounds,Array.size_setIfInBounds,Array.size_push];by_cases h1:i=j
 ·subst h1;simp [h,show ¬i=x.size by omega];omega
 ·simp [h1]
theorem su {listed:Array Bool}(c:listed.size=n)(i:Nat)(b:i<n):
 i ∈ Region.ready .any l.toArray (listed.push false)↔i ∈ Region.ready .any (l.take n).toArray listed:=by
 rw[mem_ready,mem_ready,dD _ _ _ (by omega),show(l.take n).toArray[i]? =l.toArray[i]? by simp [b]];simp only[wK]
theorem QX {listed:Array Bool}(f:lastB l n=true)(q:listed.size=n)(h:Region.ready .any (l.take n).toArray listed=[]):∀i,i<n→listed.getD i false=true:=by
 have c:=f;simp only[lastB,Bool.and_eq_true,decide_eq_true_eq] at c;obtain⟨⟨r,_⟩,b⟩:=c;intro i
 induction i using Nat.strongRecOn with
 |_ i j=>
  intro k
  cases hc:listed.getD i false with
  |true=>rfl
  |false=>
   exfalso;have b:=List.all_eq_true.1 b i (List.mem_range.2 (by omega));have m:l.toArray[i]? =some (l[i]'(by omega)):=(by simp [List.getElem?_eq_getElem (show i<l.length by omega)]);simp only[m,Bool.and_eq_true] at b;have d:i ∈ Region.ready .any (l.take n).toArray listed:=by
    rw[mem_ready];refine⟨getD_in (by omega) hc,l[i]'(by omega),by simp [k,List.getElem?_eq_getElem (show i<l.length by omega)],fun e o p=> ?_⟩;have h1:=Array.all_eq_true'.1 b.1 e o;simp only[p,Bool.not_true,Bool.false_or,decide_eq_true_eq] at h1;exact j e.on h1 (by omega)
   rw[h] at d
   cases d
theorem Rn (p:lastB l n=true):∀(fuel:Nat) (listed:Array Bool) (a:Act) (w:World),listed.size=n→wpAnyH P .any (l.take n).toArray (fH P l.toArray n Q) S fuel listed a w→
 wpAny P .any l.toArray Q (fuel+1) (listed.push false) a w:=by
 have y:=p;simp only[lastB,Bool.and_eq_true,decide_eq_true_eq] at y;obtain⟨⟨V,J⟩,K⟩:=y;have z:l.toArray[n]? =some (l[n]'(by omega)):=(by simp [List.getElem?_eq_getElem (show n<l.length by omega)]);have fin:∀(fuel:Nat) (listed:Array Bool) (a:Act) (w:World),listed.size=n→Region.ready .any (l.take n).toArray listed=[]→wpOp P l.toArray Q n (Q .normal) a w→wpAny P .any l.toArray Q (fuel+1) (listed.push false) a w:=by
  intro fuel listed a w b h0 h;have k:=QX p b h0;have C:n ∈ Region.ready .any l.toArray (listed.push false):=by
   rw[mem_ready];refine⟨by simp [←b],l[n]'(by omega),z,fun e q r=> ?_⟩;rw[wK];have D:=List.all_eq_true.1 K n (List.mem_range.2 (by omega));simp only[z,Bool.and_eq_true] at D;have h1:=Array.all_eq_true'.1 D.1 e q;simp only[r,Bool.not_true,Bool.false_or,decide_eq_true_eq] at h1;exact k e.on h1
  refine⟨fun h1=>(by rw[h1] at C;cases C),fun i d=> ?_⟩;have m:i=n:=by
   obtain⟨_,o,c,_⟩:=mem_ready.1 d;have E:i<l.length:=(by simpa using(Array.getElem?_eq_some_iff.1 c).1);rcases Nat.lt_or_ge i n with h2|h2
   ·have:=(su b i h2).1 d
    rw[h0] at this;cases this
   ·omega
  subst m;refine wpOp_mono (fun F w' s=> ?_) h;have L:Region.ready .any l.toArray ((listed.push false).setIfInBounds i true)=[]:=by
   apply List.eq_nil_iff_forall_not_mem.2;intro j f;obtain⟨M,o,c,_⟩:=mem_ready.1 f;have E:j<l.length:=(by simpa using(Array.getElem?_eq_some_iff.1 c).1);have u:=getD_both M;by_cases G:j=i
   ·subst G;simp [b] at u
   ·have:=k j (by omega)
    rw[getD_set_ne false (Ne.symm G),wK,this] at u
    cases u
  exact wpAny_done L s _
 intro fuel
 induction fuel with
 |zero=>intro listed a w b h;exact fin 0 listed a w b h.1 h.2
 |succ fuel N=>
  intro listed a w b h;by_cases h0:Region.ready .any (l.take n).toArray listed=[]
  ·exact fin _ listed a w b h0 (h.1 h0)
  ·obtain⟨j,f⟩:∃j,j ∈ Region.ready .any (l.take n).toArray listed:=by
    cases hr:Region.ready .any (l.take n).toArray listed with
    |nil=>exact absurd hr h0
    |cons x xs=>exact⟨x,List.mem_cons_self⟩
   have H:j<n:=by
    obtain⟨_,o,c,_⟩:=mem_ready.1 f;have:=(Array.getElem?_eq_some_iff.1 c).1;simp at this;omega
   refine⟨fun h1=> ?_,fun i d=> ?_⟩
   ·have:=(su b j H).2 f
    rw[h1] at this;cases this
   ·have m:i<n:=by
     obtain⟨_,o,c,k⟩:=mem_ready.1 d;have E:i<l.length:=(by simpa using(Array.getElem?_eq_some_iff.1 c).1);rcases Nat.lt_or_ge i n with h2|h2
     ·exact h2
     ·exfalso
      have O:i=n:=(by omega);subst O;have R:=List.all_eq_true.1 J j (List.mem_range.2 H);obtain⟨W,T,e,q,r,U⟩:=gI R;rw[T] at c;injection c with c
      subst c;have I:=k e q r;rw[wK,U,getD_both (mem_ready.1 f).1] at I
      cases I
    refine NF p m (fun F w' s=> ?_) (h.2 i ((su b i m).1 d));have:=N (listed.setIfInBounds i true) F w' (by simpa using b) s.2;rw[Uu listed i (by omega)] at this;exact this
theorem vW {id:Nat}{a:Act}{w:World}(n:Nat)(S:World→Prop)(c:P.follows .mixedOrders=true)(b:lastB l n=true)(d:S w.drew)
 (h:S w.drew→wpAnyH P .any (l.take n).toArray (fH P l.toArray n (NoPanic Q)) S n (Array.replicate n false) a w.drew):(Code.region id l.toArray true).wp P Q a w:=by
 have f:l.length=n+1:=by
  simp only[lastB,Bool.and_eq_true,decide_eq_true_eq] at b;exact b.1.1
 refine wp_region_noPanic (wp_region_any c ?_);have h2:=Rn b n _ a w.drew (by simp) (h d);have e:(Array.replicate n false).push false=Array.replicate (n+1) false:=(by rw[←Array.replicate_succ]);rw[e] at h2;have es:l.toArray.size=n+1:=(by simp [f]);rw[es];exact h2
end
theorem Zy {w:World}{B:Nat}{e:TypeId}{A:Option Addr}{n cap size:Nat}{cs:List Value}(h:w.ownsRow B e size (.slice A n cap) n cs)(d:0<n):∃g,A=some ⟨g,0,none⟩∧B≤g∧g<w.heap.size:=by
 have c:=h.lt;rcases h.2 with⟨b,h0⟩|⟨g,f,cur,b,i,j,_⟩
 ·omega
 ·simp only[Value.slice.injEq] at b
  obtain⟨h1,_,_⟩:=b;subst h1;exact⟨g,rfl,c g rfl⟩
theorem Sl.newAt (w:World)(cs:Array Value)(t:TypeId)(n size:Nat){b:Nat}(c:b=w.heap.size)(h:cs.size=n*size)(d:n≤9223372036854775807):Sl (w.alloc (.cells cs t)) (some ⟨b,0,none⟩) n n size cs.toList:=by
 subst c;exact Sl.new w cs t n size h d
section
variable {P : Program} (w : World)
theorem run_append_nothing (t j:TypeId)(e:TypeId)(i:TypeInfo)(size:Nat)(d:P.underlying t=some (.slice e))(f:P.info? e=some i){base:Nat}
 {v:Value} {n:Nat} {xs:List Value} (k:w.ownsRow base e size v n xs) (c:Nat):(Builtin.append_ #[t,t] j #[v,.slice none 0 c]).run P w= .ok v w:=by
 obtain⟨_,h⟩:=k;rcases h with⟨b,o⟩|⟨g,cap,cur,b,_,_,m,_⟩
 ·subst b
  simp [Builtin.append_,run_underlying d,sizeOf,typeInfo,f,Builtin.lenOf,Builtin.firstCells]
 ·subst b
  simp [Builtin.append_,run_underlying d,sizeOf,typeInfo,f,Builtin.lenOf,Builtin.firstCells,m,storeCells]
theorem J9 (base:Nat)(t p e:TypeId)(i:TypeInfo)(z:Value)(size q:Nat)(E:P.underlying t=some (.slice e))(F:P.info? e=some i)(J:i.zero=some z)
 (K:i.size=size) (L:i.bytes=q) (M:z.cells.size=size) (N:0<size)
 (v:Value) (n:Nat) (xs:List Value) (o:w.ownsRow base e size v n xs) (A:Option Addr) (m c:Nat) (f:List Value) (O:Sl w A m c size f) (h1:∀u ∈ f,u.oneCell'=true)
 (R:n+m≤maxLen) (T:(n+m)*q≤140737488355328) (U:base≤w.heap.size):
 ∃b d w',(Builtin.append_ #[t,t] p #[v,.slice A m c]).run P w= .ok (.slice b (n+m) d) w'∧w'.ownsRow base e size (.slice b (n+m) d) (n+m) (xs++f)∧w.grownBy w' v.ownBlock∧
  (Value.ownBlock (.slice b (n+m) d)=v.ownBlock∨Value.ownBlock (.slice b (n+m) d)=some w.heap.size):=by
 obtain⟨_,_,r,G⟩:=O;by_cases H:A=none
 ·subst H
  have s:m=0:=by
   rcases Nat.eq_zero_or_pos m with h|h
   ·exact h
   ·obtain⟨g,x,h,_⟩:=G h;cases h
  subst s;have y:f=[]:=List.eq_nil_of_length_eq_zero (by simpa using r);subst y;obtain⟨b,d,C,_⟩:=Sl.sG o;subst C;exact⟨b,d,w,run_append_nothing w t p e i size E F o c,by simpa using o,World.grownBy.refl w _,.inl rfl⟩
 ·obtain⟨k,rfl⟩:∃k,A=some k:=by cases A with
   |none=>exact absurd rfl H
   |some k=>exact⟨k,rfl⟩
  have V:∀j u,f[j]? =some u→w.cell? (k.add j)=some u:=by
   intro j u I;have s:0<m:=by
    rcases Nat.eq_zero_or_pos m with h|h
    ·subst h
     have y:f=[]:=List.eq_nil_of_length_eq_zero (by simpa using r);subst y;simp at I
    ·exact h
   obtain⟨g,x,h,_,D⟩:=G s;injection h with h
   subst h;have W:=D j u I;have X:(⟨g,x,none⟩:Addr).add j=⟨g,x+j,none⟩:=by
    unfold Addr.add;split<;>simp_all
   rw[X];exact W
  obtain⟨v',w',Y,h2,D,_,Z⟩:=run_append_own_at (P:=P) w base t p e i z size q E F J K L M N v n xs o k m c f r V h1 R T U;obtain⟨b,d,C,_⟩:=Sl.sG h2;subst C;exact⟨b,d,w',Y,h2,D,Z⟩
theorem JH {o:Oper}{a:Act}{K:Act→World→Prop}{Q:Exit→Act→World→Prop}(s x:Operand)(t:TypeId)
 (k:o.op= .call { callee:=.builtin .append,args:=#[s,x],argTypes:=#[t,t] })
 (base:Nat) (e:TypeId) (i:TypeInfo) (z:Value) (size j:Nat) (p:P.underlying t=some (.slice e)) (q:P.info? e=some i) (r:i.zero=some z)
 (y:i.size=size) (C:i.bytes=j) (D:z.cells.size=size) (E:0<size)
 (v:Value) (n:Nat) (xs:List Value) (F:a.eval s=v) (G:w.ownsRow base e size v n xs)
 (A:Option Addr) (m c:Nat) (f:List Value) (H:a.eval x= .slice A m c) (I:Sl w A m c size f) (h1:∀u ∈ f,u.oneCell'=true)
 (J:n+m≤maxLen) (L:(n+m)*j≤140737488355328) (M:base≤w.heap.size)
 (h:∀b d w',w'.ownsRow base e size (.slice b (n+m) d) (n+m) (xs++f)→w.grownBy w' v.ownBlock→
  (Value.ownBlock (.slice b (n+m) d)=v.ownBlock∨Value.ownBlock (.slice b (n+m) d)=some w.heap.size)→K (a.put o.dst (.slice b (n+m) d)) w'):o.wp P a w K Q:=by
 obtain⟨b,d,w',N,h2,O,R⟩:=J9 (P:=P) w base t o.type e i z size j p q r y C D E v n xs G A m c f I h1 J L M;unfold Oper.wp execOp;simp only[k,resolve,invoke,builtin,Sem.run_bind,Sem.run_pure,Result.andThen_ok,List.map_toArray,List.map_cons,List.map_nil,F,H,N];exact h b d w' h2 O R
theorem zT {ops:Array Oper}{rest:List Oper}{o:Oper}{a:Act}{Q:Exit→Act→World→Prop}(k:o.guard=none)(s x:Operand)(t:TypeId)
 (p:o.op= .call { callee:=.builtin .append,args:=#[s,x],argTypes:=#[t,t] })
 (base:Nat) (e:TypeId) (i:TypeInfo) (z:Value) (size j:Nat) (q:P.underlying t=some (.slice e)) (r:P.info? e=some i) (y:i.zero=some z)
 (C:i.size=size) (D:i.bytes=j) (E:z.cells.size=size) (F:0<size)
 (v:Value) (n:Nat) (xs:List Value) (G:a.eval s=v) (H:w.ownsRow base e size v n xs)
 (A:Option Addr) (m c:Nat) (f:List Value) (I:a.eval x= .slice A m c) (J:Sl w A m c size f) (h1:∀u ∈ f,u.oneCell'=true)
 (K:n+m≤maxLen) (L:(n+m)*j≤140737488355328) (M:base≤w.heap.size)
 (h:∀b d w',w'.ownsRow base e size (.slice b (n+m) d) (n+m) (xs++f)→w.grownBy w' v.ownBlock→
  (Value.ownBlock (.slice b (n+m) d)=v.ownBlock∨Value.ownBlock (.slice b (n+m) d)=some w.heap.size)→wpList P ops Q rest (a.put o.dst (.slice b (n+m) d)) w'):wpList P ops Q (o::rest) a w:=
 wpList_plain k fun _ N=>JH w s x t p base e i z size j q r y C D E F v n xs G H A m c f I J h1 K L M fun b d w' h2 O R=>N _ _ (h b d w' h2 O R)
theorem uQ {ops:Array Oper}{o:Oper}{a:Act}{K:Act→World→Prop}{Q:Exit→Act→World→Prop}{E:Prop}(k:o.guard=none)(s x:Operand)(t:TypeId)
 (p:o.op= .call { callee:=.builtin .append,args:=#[s,x],argTypes:=#[t,t] })
 (base:Nat) (e:TypeId) (i:TypeInfo) (z:Value) (size j:Nat) (q:P.underlying t=some (.slice e)) (r:P.info? e=some i) (y:i.zero=some z)
 (C:i.size=size) (D:i.bytes=j) (F:z.cells.size=size) (G:0<size)
 (v:Value) (n:Nat) (xs:List Value) (H:a.eval s=v) (I:w.ownsRow base e size v n xs)
 (A:Option Addr) (m c:Nat) (b:List Value) (J:a.eval x= .slice A m c) (L:Sl w A m c size b) (h1:∀u ∈ b,u.oneCell'=true)
 (M:n+m≤maxLen) (N:(n+m)*j≤140737488355328) (O:base≤w.heap.size)
 (h:∀d f w',w'.ownsRow base e size (.slice d (n+m) f) (n+m) (xs++b)→w.grownBy w' v.ownBlock→
  (Value.ownBlock (.slice d (n+m) f)=v.ownBlock∨Value.ownBlock (.slice d (n+m) f)=some w.heap.size)→K (a.put o.dst (.slice d (n+m) f)) w'):
 if Region.wanted o (yielded ops a.tmps)=true then Oper.wp P o a w K Q else E:=by
 rw[if_pos (by simp [Region.wanted,k])];exact JH w s x t p base e i z size j q r y C D F G v n xs H I A m c b J L h1 M N O h
end
theorem Rt (l:Bs):Go.Lib.strCells ⟨l.toArray⟩=l.map u8v:=by simp [Go.Lib.strCells]
section
variable {P : Program} {w : World}
theorem KJ {o:Oper}{a:Act}{K:Act→World→Prop}{Q:Exit→Act→World→Prop}(s x:Operand)(t u:TypeId)
 (f:o.op= .call { callee:=.builtin .append,args:=#[s,x],argTypes:=#[t,u] })
 (base:Nat) (e:TypeId) (i:TypeInfo) (j:P.underlying t=some (.slice e)) (k:P.underlying u=some .string) (m:P.info? e=some i) (p:i.zero=some (.int .u8 0)) (q:i.size=1) (r:i.bytes=1)
 (v:Value) (n:Nat) (xs:List Value) (y:a.eval s=v) (z:w.ownsRow base e 1 v n xs) (l:Bs) (C:a.eval x= .string ⟨l.toArray⟩)
 (D:n+l.length≤maxLen) (E:n+l.length≤140737488355328) (F:base≤w.heap.size)
 (h:∀b c w',w'.ownsRow base e 1 (.slice b (n+l.length) c) (n+l.length) (xs++l.map u8v)→w.grownBy w' v.ownBlock→K (a.put o.dst (.slice b (n+l.length) c)) w'):o.wp P a w K Q:=by
 have d:(ByteArray.mk l.toArray).size=l.length:=(by simp [ByteArray.size]);obtain⟨J,w',G,h2,H,_⟩:=Go.Lib.run_append_own_string (P:=P) w base t u o.type e i j k m p q r v n xs z ⟨l.toArray⟩ (by rw[d];exact D) (by rw[d];exact E) F;rw[d,Rt] at h2;obtain⟨b,c,I,_⟩:=Sl.sG h2;subst I;unfold Oper.wp execOp;simp only[f,resolve,invoke,builtin,Sem.run_bind,Sem.run_pure,Result.andThen_ok,List.map_toArray,List.map_cons,List.map_nil,y,C,G];exact h b c w' h2 H
theorem gK {ops:Array Oper}{rest:List Oper}{o:Oper}{a:Act}{Q:Exit→Act→World→Prop}(d:o.guard=none)(s x:Operand)(t u:TypeId)
 (f:o.op= .call { callee:=.builtin .append,args:=#[s,x],argTypes:=#[t,u] })
 (base:Nat) (e:TypeId) (i:TypeInfo) (j:P.underlying t=some (.slice e)) (k:P.underlying u=some .string) (m:P.info? e=some i) (p:i.zero=some (.int .u8 0)) (q:i.size=1) (r:i.bytes=1)
 (v:Value) (n:Nat) (xs:List Value) (y:a.eval s=v) (z:w.ownsRow base e 1 v n xs) (l:Bs) (C:a.eval x= .string ⟨l.toArray⟩)
 (D:n+l.length≤maxLen) (E:n+l.length≤140737488355328) (F:base≤w.heap.size)
 (h:∀b c w',w'.ownsRow base e 1 (.slice b (n+l.length) c) (n+l.length) (xs++l.map u8v)→w.grownBy w' v.ownBlock→wpList P ops Q rest (a.put o.dst (.slice b (n+l.length) c)) w'):wpList P ops Q (o::rest) a w:=
 wpList_plain d fun _ G=>KJ s x t u f base e i j k m p q r v n xs y z l C D E F fun b c w' h2 H=>G _ _ (h b c w' h2 H)
theorem YG {ops:Array Oper}{o:Oper}{a:Act}{K:Act→World→Prop}{Q:Exit→Act→World→Prop}{E:Prop}(d:o.guard=none)(s x:Operand)(t u:TypeId)
 (f:o.op= .call { callee:=.builtin .append,args:=#[s,x],argTypes:=#[t,u] })
 (base:Nat) (e:TypeId) (i:TypeInfo) (j:P.underlying t=some (.slice e)) (k:P.underlying u=some .string) (m:P.info? e=some i) (p:i.zero=some (.int .u8 0)) (q:i.size=1) (r:i.bytes=1)
 (v:Value) (n:Nat) (xs:List Value) (y:a.eval s=v) (z:w.ownsRow base e 1 v n xs) (l:Bs) (C:a.eval x= .string ⟨l.toArray⟩)
 (D:n+l.length≤maxLen) (F:n+l.length≤140737488355328) (G:base≤w.heap.size)
 (h:∀b c w',w'.ownsRow base e 1 (.slice b (n+l.length) c) (n+l.length) (xs++l.map u8v)→w.grownBy w' v.ownBlock→K (a.put o.dst (.slice b (n+l.length) c)) w'):
 if Region.wanted o (yielded ops a.tmps)=true then Oper.wp P o a w K Q else E:=by
 rw[if_pos (by simp [Region.wanted,d])];exact KJ s x t u f base e i j k m p q r v n xs y z l C D F G h
end
abbrev mU:Coe Int Value:=⟨.int .i64⟩
abbrev hZ:Coe Nat Value:=⟨fun n=>.int .i64 n⟩
abbrev cvZ:Coe (List UInt8) Value:=⟨fun l=>.string ⟨l.toArray⟩⟩
theorem zy {B:Nat}{w w':World}(h:Below B w w':=by repeat(first|(with_reducible exact Below.refl _ _)|(with_reducible assumption)|(with_reducible refine Below.drew ?_)|(with_reducible refine Below.alloc ?_ (by first|omega|(simp<;>omega)) _)|(with_reducible refine Below.setCell ?_ (by first|omega|(simp<;>omega)) _)|(with_reducible refine aj ?_ _))):Below B w w':=h
theorem oo {p:Prop}(h:p:=by omega):p:=h
theorem kr {p:Prop}(h:p:=by kernel_rfl):p:=h
theorem oA {p:Prop}(h:p:=by first|omega|(simp;done)|(simp;omega)|fail):p:=h
theorem oB {p:Prop}(h:p:=by first|assumption|(simp only;omega)|omega|fail):p:=h
theorem oC {p:Prop}(h:p:=by first|omega|(simp<;>omega)|fail):p:=h
theorem vC {B:Nat}{w w':World}(h:Below B w w':=by(repeat(first|(with_reducible exact Below.refl _ _)|(with_reducible assumption)|(with_reducible refine Below.drew ?_)|((with_reducible refine Below.alloc ?_ ?_ _);rotate_left;focus(first|omega|(simp<;>omega)))|((with_reducible refine Below.setCell ?_ ?_ _);rotate_left;focus(first|omega|(simp<;>omega)))|(with_reducible refine aj ?_ _)));first|done|fail):Below B w w':=h
theorem yj {B:Nat}{w w':World}(h:Below B w w':=by repeat(first|(with_reducible exact Below.refl _ _)|(with_reducible assumption)|(with_reducible refine Below.drew ?_)|(with_reducible refine Below.alloc ?_ (by first|omega|(simp<;>omega)) _)|(with_reducible refine Below.setCell ?_ (by first|omega|(simp<;>omega)) _)|(with_reducible refine aj ?_ _)|(with_reducible refine Below.trans ?_ (Below.mono (by with_reducible assumption) (by first|omega|(simp<;>omega)))))):Below B w w':=h
theorem tBk {w:World}{g:Nat}{t:TypeId}{cs:Array Value}(h:Bk w g t cs:=by repeat(first|(with_reducible assumption)|(with_reducible exact Bk.new _ _ _)|(with_reducible refine Bk.newAt _ _ _ (by simp;done))|(with_reducible refine Bk.drew ?_)|(with_reducible refine Bk.drewN ?_ _)|(with_reducible refine Bk.alloc ?_ _))):Bk w g t cs:=h
section
variable {P : Program} {ops : Array Oper} {Q : Exit → Act → World → Prop} {md : Region.Mode} {S : World → Prop} {oi : Oper} {v : Value} {fuel : Nat} {listed : Array Bool} {a : Act} {w : World}
theorem tk (i:Nat)(h:wpAnyH P md ops Q S fuel (listed.setIfInBounds i true) (a.put oi.dst v) w)(b:ops[i]? =some oi:=by rfl)
 (d:Region.noSelect ops=true:=by kernel_rfl) (e:Region.free md ops listed i=true:=by kernel_rfl) (f:(Region.ready md ops listed).contains i=true:=by kernel_rfl)
 (j:∀c a w,Q (.panic c) (a.put oi.dst v) w→Q (.panic c) a w:=by exact fun _ _ _ h=>h) (k:Region.wanted oi (yielded ops a.tmps)=true:=by rfl)
 (m:∀w,S w→(execOp a.eval oi).run P w= .ok (.value v) w:=by intro w o;(try dsimp only at o);go_simp;try with_reducible rfl) (p:S w:=by assumption):wpAnyH P md ops Q S (fuel+1) listed a w:=
 wpAnyH_take b d e f j (.inl ⟨k,m⟩) p h
theorem rd1 (i:Nat){o:Oper}(h:∀b:Act→World→Prop,Shut (∀a w,S w→(S w→wpAnyH P md ops Q S fuel (listed.setIfInBounds i true) a w)→b a w)→if Region.wanted o (yielded ops a.tmps)=true then Oper.wp P o a w b Q else b (a.put o.dst undef) w)
 (c:ops[i]? =some o:=by rfl) (d:Region.ready md ops listed=[i]:=by kernel_rfl):wpAnyH P md ops Q S (fuel+1) listed a w:=
 wpAnyH_ready d (by simp) (AllReadyH.cons c h AllReadyH.nil)
end
theorem u2 {l:List Value}{i:Nat}{a:Value} :l.toArray.setIfInBounds i a=(l.set i a).toArray:=by simp
theorem u3 {x:Value}{l:List Value}{a:Value} :(x::l).set 0 a=a::l:=rfl
theorem u4 {x:Value}{l:List Value}{i:Nat}{a:Value} :(x::l).set (i+1) a=x::l.set i a:=rfl
theorem rR:(∀(l:List Value)(i:Nat)(a:Value),l.toArray.setIfInBounds i a=(l.set i a).toArray)∧(∀(x:Value)(l:List Value)(a:Value),(x::l).set 0 a=a::l)∧∀(x:Value)(l:List Value)(i:Nat)(a:Value),(x::l).set (i+1) a=x::l.set i a:=⟨fun _ _ _=>u2,fun _ _ _=>u3,fun _ _ _ _=>u4⟩
def yW:=And.intro rR (And.intro @List.getElem_toArray.{0} (And.intro @List.getElem_cons_succ.{0} @List.getElem_cons_zero.{0}))
