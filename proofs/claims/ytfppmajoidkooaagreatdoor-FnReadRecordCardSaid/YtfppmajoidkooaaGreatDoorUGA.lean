import Derived.Test.YtfppmajoidkooaaGreatDoorRows
import Derived.WalkKit
import Derived.WalkSpells
import Derived.WalkLawsBesides
import Derived.Deep.QuietTactic
import Derived.BigQuiet
import Derived.IntWalk
import Derived.Lib.TrimByte
import Derived.Laws.BitsAllLaws
import Derived.Laws.BitsLemmas
import Derived.Laws.IdiomStrings
import Derived.Lib.Hide
import Derived.RegionTactic
import Derived.Lib.QuietBelow
import Derived.OwnWalk
import Derived.StillTailTactics
import Derived.Laws.AppendOwn
import Derived.Laws.MakeOwn
import Derived.Deep.RegionHeld3
import Derived.Deep.AppendLies
import Derived.Laws.BytesArg
import Derived.Maps.AppendAt
import Derived.Lib.AppendStr
set_option linter.unusedVariables false
set_option linter.unusedSimpArgs false
namespace Go.Proofs.YtfppmajoidkooaaGreatDoor
open Go.RowKit
def byteAt (l:List UInt8)(i:Int):Int:=((l[i.toNat]?.getD 0).toNat:Int)
theorem zL (l:List UInt8)(i:Int):0≤byteAt l i:=by unfold byteAt;omega
theorem yu (l:List UInt8)(i:Int):byteAt l i≤255:=by
 unfold byteAt;have:=(l[i.toNat]?.getD 0).toNat_lt;omega
theorem zX (l:List UInt8)(k:Nat)(h:k<l.length):byteAt l (k:Int)=(l[k].toNat:Int):=by
 simp [byteAt,List.getElem?_eq_getElem h]
theorem zY (l:List UInt8):(⟨l.toArray⟩:ByteArray).size=l.length:=by simp [ByteArray.size]
theorem zK (l:List UInt8):(⟨l.toArray⟩:ByteArray).toList=l:=by
 have h:(⟨l.toArray⟩:ByteArray).toList=(⟨l.toArray⟩:ByteArray).data.toList:=by
  simp
 rw[h]
theorem zO (l m:List UInt8):(⟨l.toArray⟩:ByteArray)++(⟨m.toArray⟩:ByteArray)=⟨(l++m).toArray⟩:=by
 apply ByteArray.ext;simp
section
variable {P : Program} (w : World)
theorem zy (t:TypeId)(l:List UInt8)(k:IntKind)(i:Int)(h:P.underlying t=some .string):
 (Instr.index t (.string ⟨l.toArray⟩) (.int k i)).run P w=
  if 0≤i∧i<(l.length:Int) then .ok (.int .u8 (byteAt l i)) w else(boundsPanic k i l.length .index).run P w:=by
 rw[run_index_string w t _ k i h];by_cases hi:0≤i∧i<(l.length:Int)
 ·have hlt:i.toNat<l.length:=by omega
  rw[dif_pos (by rw[zY];exact hi),if_pos hi];have:(⟨l.toArray⟩:ByteArray)[i.toNat]'(by rw[zY];exact hlt)=l[i.toNat]:=by
   show l.toArray[i.toNat]'_=_;simp
  rw[this];simp [byteAt,List.getElem?_eq_getElem hlt]
 ·rw[dif_neg (by rw[zY];exact hi),if_neg hi,zY]
theorem zA (t:TypeId)(a b:List UInt8):binOp .eql t (.string ⟨a.toArray⟩) (.string ⟨b.toArray⟩)=pure (.bool (decide (a=b))):=by
 rw[binOp_string_eql,zK,zK];congr 2;by_cases h:a=b<;>simp [h]
theorem zB (t:TypeId)(a b:List UInt8):binOp .neq t (.string ⟨a.toArray⟩) (.string ⟨b.toArray⟩)=pure (.bool (decide (a≠b))):=by
 rw[binOp_string_neq,zK,zK];congr 2;by_cases h:a=b<;>simp [h]
theorem zx (t:TypeId)(l:List UInt8)(k k':IntKind)(i j:Int)(h:P.underlying t=some .string)
 (h0:0≤i) (h1:i≤j) (h2:j≤l.length):
 (Instr.slice t (.string ⟨l.toArray⟩) (some (.int k i)) (some (.int k' j)) none).run P w= .ok (.string ⟨((l.drop i.toNat).take (j.toNat - i.toNat)).toArray⟩) w:=by
 rw[run_slice_string w t _ k k' i j h h0 h1 (by rw[zY];exact h2),ByteArray.extract_mk]
theorem zk (t:TypeId)(l:List UInt8)(k:IntKind)(i:Int)(h:P.underlying t=some .string)
 (h0:0≤i) (h2:i≤l.length):
 (Instr.slice t (.string ⟨l.toArray⟩) (some (.int k i)) none none).run P w= .ok (.string ⟨(l.drop i.toNat).toArray⟩) w:=by
 rw[run_slice_string_from_if w t _ k i h,if_pos (by rw[zY];exact⟨h0,h2⟩),ByteArray.extract_mk,zY];rw[List.take_of_length_le (by simp)]
theorem zl (t:TypeId)(l:List UInt8)(k:IntKind)(j:Int)(h:P.underlying t=some .string)
 (h0:0≤j) (h2:j≤l.length):
 (Instr.slice t (.string ⟨l.toArray⟩) none (some (.int k j)) none).run P w= .ok (.string ⟨(l.take j.toNat).toArray⟩) w:=by
 rw[run_slice_string_to_if w t _ k j h,if_pos (by rw[zY];exact⟨h0,h2⟩),ByteArray.extract_mk];simp
end
def QA (x:Option Value)(w:World)(r:Result Value):Result Value:=
 match x with
 |some (.int .u8 n)=>.ok (.string ⟨[UInt8.ofNat n.toNat].toArray⟩) w
 |_=>r
def Qp (x y:Option Value)(w:World)(r:Result Value):Result Value:=
 match x,y with
 |some (.int .u8 n),some (.int .u8 m)=>.ok (.string ⟨[UInt8.ofNat n.toNat,UInt8.ofNat m.toNat].toArray⟩) w
 |_,_=>r
theorem zD (n:Int)(w:World)(r:Result Value):QA (some (.int .u8 n)) w r= .ok (.string ⟨[UInt8.ofNat n.toNat].toArray⟩) w:=rfl
theorem zF (n m:Int)(w:World)(r:Result Value):Qp (some (.int .u8 n)) (some (.int .u8 m)) w r= .ok (.string ⟨[UInt8.ofNat n.toNat,UInt8.ofNat m.toNat].toArray⟩) w:=rfl
section
variable {P : Program} (w : World)
theorem Oa (src dst e:TypeId)(b c:Nat)(hs:P.underlying src=some (.slice e))(he:P.underlying e=some (.int .u8))(hd:P.underlying dst=some .string):
 (convert src dst (.slice (some ⟨b,0,none⟩) 1 c)).run P w=QA (w.cell? ⟨b,0,none⟩) w ((Conv.bytesToString (.slice (some ⟨b,0,none⟩) 1 c)).run P w):=by
 rw[run_convert_bytes_string w src dst e _ 1 c hs he hd];unfold QA;split
 ·rename_i n h
  have hl:=run_loadCells_list (P:=P) w ⟨b,0,none⟩ ([n].map (Value.int .u8)) (fun j v hj=>by
   match j with
   |0=>simp at hj;subst hj;simpa [Addr.add] using h
   |j+1=>simp at hj)
  rw[run_bytesToString w ⟨b,0,none⟩ 1 c [n] (by simpa using hl)];simp [ByteArray.push,ByteArray.empty,ByteArray.emptyWithCapacity];rfl
 ·rfl
theorem P7 (src dst e:TypeId)(b c:Nat)(hs:P.underlying src=some (.slice e))(he:P.underlying e=some (.int .u8))(hd:P.underlying dst=some .string):
 (convert src dst (.slice (some ⟨b,0,none⟩) 2 c)).run P w=Qp (w.cell? ⟨b,0,none⟩) (w.cell? ⟨b,1,none⟩) w ((Conv.bytesToString (.slice (some ⟨b,0,none⟩) 2 c)).run P w):=by
 rw[run_convert_bytes_string w src dst e _ 2 c hs he hd];unfold Qp;split
 ·rename_i n m h h2
  have hl:=run_loadCells_list (P:=P) w ⟨b,0,none⟩ ([n,m].map (Value.int .u8)) (fun j v hj=>by
   match j with
   |0=>simp at hj;subst hj;simpa [Addr.add] using h
   |1=>simp at hj;subst hj;simpa [Addr.add] using h2
   |j+2=>simp at hj)
  rw[run_bytesToString w ⟨b,0,none⟩ 2 c [n,m] (by simpa using hl)];simp [ByteArray.push,ByteArray.empty,ByteArray.emptyWithCapacity];rfl
 ·rfl
end
theorem yP (w:World)(b c:Nat):(convert 22 9 (.slice (some ⟨b,0,none⟩) 1 c)).run Tryz.prog w=QA (w.cell? ⟨b,0,none⟩) w ((Conv.bytesToString (.slice (some ⟨b,0,none⟩) 1 c)).run Tryz.prog w):=
 Oa w _ _ 5 b c Tryz.underlying22 Tryz.underlying5 Tryz.underlying9
theorem yt (w:World)(b c:Nat):(convert 22 9 (.slice (some ⟨b,0,none⟩) 2 c)).run Tryz.prog w=Qp (w.cell? ⟨b,0,none⟩) (w.cell? ⟨b,1,none⟩) w ((Conv.bytesToString (.slice (some ⟨b,0,none⟩) 2 c)).run Tryz.prog w):=
 P7 w _ _ 5 b c Tryz.underlying22 Tryz.underlying5 Tryz.underlying9
theorem zq (l:List UInt8)(i:Int):wrap64 (byteAt l i)=byteAt l i:=by
 have h0:=zL l i;have h1:=yu l i;exact IntWalk.wrap64_in _ ⟨by omega,by omega⟩
theorem zi (l:List UInt8)(i:Int):wrap64 (byteAt l i*256)=byteAt l i*256:=by
 have h0:=zL l i;have h1:=yu l i;exact IntWalk.wrap64_in _ ⟨by omega,by omega⟩
theorem zo (l m:List UInt8)(i j:Int):bits .or .i64 (byteAt l i*256) (byteAt m j)=byteAt l i*256+byteAt m j:=by
 unfold byteAt;generalize hx:(l[i.toNat]?.getD 0).toNat=x;generalize hy:(m[j.toNat]?.getD 0).toNat=y;have h1:x<256:=(by rw[←hx];exact UInt8.toNat_lt _);have h2:y<256:=(by rw[←hy];exact UInt8.toNat_lt _);have e:((x:Int)*256)=((x*256:Nat):Int):=(by omega);rw[e];have hxx:x*256|||y<2 ^ 63:=Nat.or_lt_two_pow (by omega) (by omega)
 have ofI:∀a:Nat,a<9223372036854775808→(BitVec.ofInt 64 (a:Int)).toNat=a:=fun a ha=>by
  rw[BitVec.ofInt_natCast,BitVec.toNat_ofNat];exact Nat.mod_eq_of_lt (by omega)
 show IntKind.i64.wrap ((BitVec.ofInt 64 ((x*256:Nat):Int)|||BitVec.ofInt 64 (y:Int)).toNat:Int)=_;rw[BitVec.toNat_or,ofI _ (by omega),ofI y (by omega),IntKind.wrap_i64];have:x*256|||y=x*256+y:=by
  have:=Nat.two_pow_add_eq_or_of_lt (i:=8) (b:=y) (by omega) x;rw[show(2:Nat) ^ 8=256 from rfl] at this;rw[Nat.mul_comm];exact this.symm
 rw[this];omega
abbrev Bs :=List UInt8
theorem y5 {α:Type}{P:List α→Prop}(h0:P [])(h1:∀l a,P l→P (l++[a]))(l:List α):P l:=by
 have key:∀m:List α,P m.reverse:=by
  intro m
  induction m with
  |nil=>exact h0
  |cons a m ih=>rw[List.reverse_cons];exact h1 _ _ ih
 have:=key l.reverse
 rwa [List.reverse_reverse] at this
def tV (p:Int×Int)(c:UInt8):Int×Int:=((p.1+(c.toNat:Int)) % 255,(p.2+(p.1+(c.toNat:Int)) % 255) % 255)
def sumP (l:Bs):Int×Int:=l.foldl tV (0,0)
def sumOf (l:Bs):Int:=256*(sumP l).2+(sumP l).1
theorem WT (l:Bs):0≤(sumP l).1∧(sumP l).1<255∧0≤(sumP l).2∧(sumP l).2<255:=by
 unfold sumP
 suffices h:∀(l:Bs) (p:Int×Int),(0≤p.1∧p.1<255∧0≤p.2∧p.2<255)→(0≤(l.foldl tV p).1∧(l.foldl tV p).1<255∧0≤(l.foldl tV p).2∧(l.foldl tV p).2<255) from
  h l _ ⟨by decide,by decide,by decide,by decide⟩
 intro l
 induction l with
 |nil=>intro p h;exact h
 |cons c l ih=>
  intro p h;apply ih;unfold tV;refine⟨?_,?_,?_,?_⟩<;>simp<;>omega
theorem uH (l:Bs):0≤sumOf l∧sumOf l<65536:=by
 have:=WT l;unfold sumOf;omega
theorem take_snoc' (l:Bs)(k:Nat)(h:k<l.length):l.take (k+1)=l.take k++[l[k]]:=by
 rw[List.take_succ_eq_append_getElem h]
theorem sumP_snoc (l:Bs)(k:Nat)(h:k<l.length):sumP (l.take (k+1))=tV (sumP (l.take k)) l[k]:=by
 unfold sumP;rw[take_snoc' l k h,List.foldl_append];rfl
def numAt (l:Bs)(i:Int):Int:=byteAt l i*256+byteAt l (i+1)
theorem xA (l:Bs)(i:Int):0≤numAt l i∧numAt l i≤65535:=by
 have h1:=zL l i;have h2:=yu l i;have h3:=zL l (i+1);have h4:=yu l (i+1);unfold numAt;omega
def two (n:Int):Bs:=[UInt8.ofNat (n / 256 % 256).toNat,UInt8.ofNat (n % 256).toNat]
structure Blk where
 num : Int
 raw : Bool
 size : Int
 body : Bs
def Blk.ok (b:Blk):Bool:=decide (0≤b.num∧b.num<40∧1≤b.size∧b.size≤64∧(if b.raw then(b.body.length:Int)=b.size else 1≤b.body.length∧(b.body.length:Int)<b.size))
def nameB (c:UInt8):Bool:=97≤c&&c≤122
def um (l:Bs):Bool:=decide (1≤l.length∧l.length≤8)&&l.all nameB
theorem Xv (l:Bs)(k:Nat)(h:k<l.length):nameB l[k]=decide (97≤byteAt l k∧byteAt l k≤122):=by
 rw[zX l k h,nameB,Bool.eq_iff_iff];simp [UInt8.le_iff_toNat_le];omega
theorem ry (p:UInt8→Bool)(l:Bs)(k:Nat)(h:k<l.length):(l.take (k+1)).all p=((l.take k).all p&&p l[k]):=by
 rw[take_snoc' l k h,List.all_append];simp
theorem qw (p:UInt8→Bool)(l:Bs)(k:Nat)(h:k<l.length)(hp:p l[k]=false):l.all p=false:=by
 rw[Bool.eq_false_iff];intro ha;rw[List.all_eq_true] at ha;have:=ha _ (List.getElem_mem h);rw[hp] at this;cases this
def uM (k:Int)(nm:Bs)(f t s:Int)(d:Bs):Prop:=
 um nm=true∧d.length≤2000∧
  (((k=0∨k=1)∧1≤s∧s≤64∧f=0∧t=0)∨(k=2∧1≤s∧s≤64∧0≤f∧f≤t∧t≤2000)∨
    (k=3∧1≤s∧s≤64∧f=0∧t=0∧d=[])∨(k=4∧s=0∧f=0∧t=0∧d=[]))
instance (k : Int) (nm : Bs) (f t s : Int) (d : Bs) : Decidable (uM k nm f t s d) := by unfold uM; infer_instance
theorem zQ {a b:Bool}(h:a=b):Ending.returned (.bool a)=Ending.returned (.bool b):=by rw[h]
theorem yN {k:IntKind}{a b:Int}(h:a=b):Ending.returned (.int k a)=Ending.returned (.int k b):=by rw[h]
theorem vZ {a b:Bs}(h:a=b):Ending.returned (.string ⟨a.toArray⟩)=Ending.returned (.string ⟨b.toArray⟩):=by rw[h]
theorem dh {B:Nat}{a w:World}(h:Below B a w)(n:Nat):Below B a (w.drewN n):=⟨h.os,h.tape,h.output,h.size,h.block⟩
theorem zh {w w2:World}(h:∃p:Regrown,w2=Go.Sort.grow (redrawn w p.d) p.os):Below w.heap.size w w2:=by
 obtain⟨⟨d,os⟩,rfl⟩:=h;exact below_regrown _ _ _
theorem zI {W:World}{b:Nat}{cs:Array Value}(hB:∀i,W.cell? ⟨b,i,none⟩=cs[i]?)(hlt:b<W.heap.size):∀d os i,(Go.Sort.grow (redrawn W d) os).cell? ⟨b,i,none⟩=cs[i]? :=
 fun d os i=>((below_regrown W d os).cell (p:=⟨b,i,none⟩) hlt).trans (hB i)
theorem World.kE (w:World)(n:Nat):Below w.heap.size w (w.drewN n):=⟨rfl,rfl,rfl,Nat.le_refl _,fun _ _=>rfl⟩
theorem zJ {W w1:World}{b:Nat}{cs:Array Value}(hB:∀i,W.cell? ⟨b,i,none⟩=cs[i]?)(hb:Below W.heap.size W w1)(hlt:b<W.heap.size):∀i,w1.cell? ⟨b,i,none⟩=cs[i]? :=
 fun i=>(hb.cell (p:=⟨b,i,none⟩) hlt).trans (hB i)
theorem fZ {W w1:World}{b:Nat}(hF:∀i,W.frozen? ⟨b,i,none⟩=false)(hb:Below W.heap.size W w1)(hlt:b<W.heap.size):∀i,w1.frozen? ⟨b,i,none⟩=false:=
 fun i=>(hb.frozen (p:=⟨b,i,none⟩) hlt).trans (hF i)
theorem Yq {W:World}{b:Nat}{cs:Array Value}(hB:∀i,W.cell? ⟨b,i,none⟩=cs[i]?)(hlt:b<W.heap.size)(o:Obj):∀i,(W.alloc o).cell? ⟨b,i,none⟩=cs[i]? :=
 fun i=>(World.cell?_alloc_past o b i hlt).trans (hB i)
theorem yl (w:World)(cs:Array Value)(t:TypeId):∀i,(w.alloc (.cells cs t)).cell? ⟨w.heap.size,i,none⟩=cs[i]? :=fun _=>World.cell?_alloc_at _ _ _ _ rfl
theorem KZ {W w1:World}(hb:Below W.heap.size W w1):(∀b o,b<W.heap.size→w1.cell? ⟨b,o,none⟩=W.cell? ⟨b,o,none⟩)∧(∀b o,b<W.heap.size→w1.frozen? ⟨b,o,none⟩=W.frozen? ⟨b,o,none⟩):=
 ⟨fun b o h=>hb.cell (p:=⟨b,o,none⟩) h,fun b o h=>hb.frozen (p:=⟨b,o,none⟩) h⟩
def vW (o l m:Int):Prop:=(o=0∨o=1)∧1≤l∧l≤8∧l+2≤m∧m≤10
instance (o l m : Int) : Decidable (vW o l m) := by unfold vW; infer_instance
def pow2 (n:Int):Int:=2 ^ n.toNat
theorem yZ (n:Int)(h0:0≤n)(h:n≤16):1≤pow2 n∧pow2 n≤65536:=by
 obtain⟨k,rfl⟩:=Int.eq_ofNat_of_zero_le h0;have hk:k≤16:=(by omega);unfold pow2;simp only[Int.toNat_natCast]
 match k,hk with
 |0,_|1,_|2,_|3,_|4,_|5,_|6,_|7,_|8,_|9,_|10,_|11,_|12,_|13,_|14,_|15,_|16,_=>decide
theorem rQ (n:Int)(h0:0≤n)(h:n≤16):wrap64 (2 ^ n.toNat)=pow2 n:=by
 have:=yZ n h0 h;show wrap64 (pow2 n)=pow2 n;exact IntWalk.wrap64_in _ ⟨by omega,by omega⟩
def vI (l:Int)(c:UInt8):Bool:=decide ((c.toNat:Int)<pow2 l)
theorem U3 (n:Int)(l:Bs)(k:Nat)(h:k<l.length):vI n l[k]=decide (byteAt l k<pow2 n):=by rw[zX l k h];rfl
def fits (o l m:Int)(d:Bs):Prop:=vW o l m∧d.length≤2000∧d.all (vI l)=true
instance (o l m : Int) (d : Bs) : Decidable (fits o l m d) := by unfold fits; infer_instance
theorem wI :(Tryz.prog.info? 5).map (fun i=>(i.zero,i.size,i.bytes))=some (some (.int .u8 0),1,1):=by kernel_rfl
abbrev u8v (c:UInt8):Value:=.int .u8 (c.toNat:Int)
theorem yH {w:World}{B:Nat}{v:Value}{l:Bs}(h:w.ownsRow B 5 1 v l.length (l.map u8v)):
 (convert 22 9 v).run Tryz.prog w= .ok (.string ⟨l.toArray⟩) w:=by
 have hcs:=fun g hg=>h.cells (g:=g) hg;rcases h.2 with⟨rfl,h0⟩|⟨g,cap,cur,rfl,_⟩
 ·have:l=[]:=List.eq_nil_of_length_eq_zero h0
  subst this;exact run_convert_bytes_nil (P:=Tryz.prog) w 22 5 Tryz.underlying22 Tryz.underlying5 0 0 9 Tryz.underlying9
 ·refine run_convert_bytes_back w _ _ 5 _ cap l Tryz.underlying22 Tryz.underlying5 Tryz.underlying9 (fun j hj=>hcs g rfl j _ ?_)
  simp [List.getElem?_eq_getElem hj]
theorem SY (l:Bs)(i:Int):bits .and .u8 (byteAt l i) 15=byteAt l i % 16:=by
 unfold byteAt;have h:(l[i.toNat]?.getD 0).toNat<256:=UInt8.toNat_lt _;generalize(l[i.toNat]?.getD 0).toNat=x at h⊢;have key:∀y:Fin 256,bits .and .u8 ((y.val:Nat):Int) 15=((y.val:Nat):Int) % 16:=(by decide+kernel);exact key ⟨x,h⟩
def Sl (w:World)(A:Option Addr)(n cap size:Nat)(cs:List Value):Prop:=
 n≤cap∧cap≤9223372036854775807∧cs.length=n*size∧(0<n→∃g off,A=some ⟨g,off,none⟩∧g<w.heap.size∧∀(j:Nat) (u:Value),cs[j]? =some u→w.cell? ⟨g,off+j,none⟩=some u)
section
variable {w w' : World} {A : Option Addr} {n cap size : Nat} {cs : List Value}
theorem Sl.nil (w:World)(size:Nat):Sl w none 0 0 size []:=⟨Nat.le_refl _,by omega,by simp,fun h=>absurd h (by omega)⟩
theorem Sl.keep (h:Sl w A n cap size cs)(hk:∀p:Addr,p.block<w.heap.size→w'.cell? p=w.cell? p)(hz:w.heap.size≤w'.heap.size):Sl w' A n cap size cs:=by
 obtain⟨h1,h2,h3,h4⟩:=h;refine⟨h1,h2,h3,fun hn=> ?_⟩;obtain⟨g,off,rfl,hg,hc⟩:=h4 hn;exact⟨g,off,rfl,by omega,fun j u hu=>(hk _ hg).trans (hc j u hu)⟩
theorem Sl.below (h:Sl w A n cap size cs)(hb:Below w.heap.size w w'):Sl w' A n cap size cs:=h.keep (fun _ hp=>hb.cell hp) hb.size
theorem Sl.drewN (h:Sl w A n cap size cs)(k:Nat):Sl (w.drewN k) A n cap size cs:=h
theorem Sl.alloc (h:Sl w A n cap size cs)(o:Obj):Sl (w.alloc o) A n cap size cs:=h.keep (fun p hp=>World.cell?_alloc_lt w o p hp) (by simp)
theorem Sl.blk {g off:Nat}(h:Sl w (some ⟨g,off,none⟩) n cap size cs)(hb:w'.heap[g]? =w.heap[g]?)(hz:w.heap.size≤w'.heap.size):Sl w' (some ⟨g,off,none⟩) n cap size cs:=by
 obtain⟨h1,h2,h3,h4⟩:=h;refine⟨h1,h2,h3,fun hn=> ?_⟩;obtain⟨g',off',hA,hg,hc⟩:=h4 hn;injection hA with hA
 injection hA with e1 e2 _
 subst e1;subst e2;exact⟨g,off,rfl,by omega,fun j u hu=>(World.cell?_of_block (a:=⟨g,off+j,none⟩) hb).trans (hc j u hu)⟩
theorem Sl.at1 (h:Sl w A n cap 1 cs){k:Nat}(hk:k<n):∃g off u,A=some ⟨g,off,none⟩∧g<w.heap.size∧cs[k]? =some u∧w.cell? ⟨g,off+k,none⟩=some u:=by
 obtain⟨_,_,h3,h4⟩:=h;obtain⟨g,off,rfl,hg,hc⟩:=h4 (by omega);have hl:k<cs.length:=(by omega);exact⟨g,off,cs[k],rfl,hg,List.getElem?_eq_getElem hl,hc k _ (List.getElem?_eq_getElem hl)⟩
theorem Sl.sN {B:Nat}{e:TypeId}{v:Value}(h:w.ownsRow B e size v n cs):∃A cap,v= .slice A n cap∧Sl w A n cap size cs:=by
 have hcs:=fun g hg=>h.cells (g:=g) hg;have hlt:=h.lt;obtain⟨h1,h2⟩:=h;rcases h2 with⟨rfl,h0⟩|⟨g,cap,cur,rfl,hb,hg,hn,hm,hs,ht⟩
 ·subst h0
  refine⟨none,0,rfl,Nat.le_refl _,by omega,h1,fun h=>absurd h (by omega)⟩
 ·unfold maxLen at hm
  refine⟨_,cap,rfl,hn,hm,h1,fun _=>⟨g,0,rfl,(hlt g rfl).2,fun j u hu=> ?_⟩⟩;have:=hcs g rfl j u hu;rw[Nat.zero_add];unfold Addr.add at this;split at this<;>simp_all
end
def Bk (w:World)(g:Nat)(t:TypeId)(cs:Array Value):Prop:=w.heap[g]? =some (.cells cs t (0,0))
section
variable {w w' : World} {g : Nat} {t : TypeId} {cs : Array Value}
theorem Bk.lt (h:Bk w g t cs):g<w.heap.size:=by
 rcases Nat.lt_or_ge g w.heap.size with hlt|hge
 ·exact hlt
 ·unfold Bk at h;rw[Array.getElem?_eq_none hge] at h;cases h
theorem Bk.cell (h:Bk w g t cs):∀i,w.cell? ⟨g,i,none⟩=cs[i]? :=fun i=>cell_of_row w g i cs t (0,0) h
theorem Bk.free (h:Bk w g t cs):∀i,w.frozen? ⟨g,i,none⟩=false:=fun i=>by unfold Bk at h;simp [World.frozen?,h]
theorem Bk.new (w:World)(cs:Array Value)(t:TypeId):Bk (w.alloc (.cells cs t)) w.heap.size t cs:=heap_alloc_new w _
theorem Bk.newAt (w:World)(cs:Array Value)(t:TypeId){n:Nat}(h:n=w.heap.size):Bk (w.alloc (.cells cs t)) n t cs:=by subst h;exact Bk.new w cs t
theorem Bk.drew (h:Bk w g t cs):Bk w.drew g t cs:=h
theorem Bk.drewN (h:Bk w g t cs)(n:Nat):Bk (w.drewN n) g t cs:=h
theorem Bk.alloc (h:Bk w g t cs)(o:Obj):Bk (w.alloc o) g t cs:=(Below.heap_alloc w o g h.lt).trans h
theorem Bk.far (h:Bk w g t cs){p:Addr}(hp:g≠p.block)(u:Value):Bk (w.setCell p u) g t cs:=(Below.heap_setCell w p u g hp).trans h
theorem Bk.set (h:Bk w g t cs)(i:Nat)(u:Value):Bk (w.setCell ⟨g,i,none⟩ u) g t (cs.setIfInBounds i u):=heap_setCell_same w g i cs t u h
theorem Bk.below {B:Nat}(h:Bk w g t cs)(hb:Below B w w')(hg:g<B):Bk w' g t cs:=(hb.block g hg).trans h
theorem Bk.grown {row:Option Nat}(h:Bk w g t cs)(hb:w.grownBy w' row)(hg:∀k,row=some k→k≠g):Bk w' g t cs:=(hb.block g h.lt (fun e=>hg g e.symm rfl)).trans h
theorem own_ne {base:Nat}{e:TypeId}{size n:Nat}{v:Value}{xs:List Value}(h:w.ownsRow base e size v n xs)(hg:Bk w g t cs)(hne:e≠t):∀k,v.ownBlock=some k→k≠g:=by
 intro k hk hkg;subst hkg;obtain⟨_,h2⟩:=h;rcases h2 with⟨rfl,_⟩|⟨g',cap,cur,rfl,_,hh,_⟩
 ·cases hk
 ·injection hk with hk
  have hk':g'=k:=hk;subst hk';unfold Bk at hg;rw[hh] at hg;injection hg with hg
  injection hg with _ hg
  exact hne hg
theorem zH {base:Nat}{e:TypeId}{size n:Nat}{v:Value}{xs:List Value}(h:w.ownsRow base e size v n xs){p:Addr}(hne:∀k,v.ownBlock=some k→k≠p.block)(u:Value):(w.setCell p u).ownsRow base e size v n xs:=by
 obtain⟨h1,h2⟩:=h;refine⟨h1,?_⟩;rcases h2 with h2|⟨g',cap,cur,rfl,hg,hh,rest⟩
 ·exact .inl h2
 ·exact .inr ⟨g',cap,cur,rfl,hg,(Below.heap_setCell w p u g' (hne g' rfl)).trans hh,rest⟩
theorem vK {base size:Nat}(h:Bk w g t #[])(hb:base≤g):w.ownsRow base t size (.slice (some ⟨g,0,none⟩) 0 0) 0 []:=
 ⟨by simp,.inr ⟨g,0,#[],rfl,hb,h,Nat.le_refl _,by unfold maxLen;omega,by simp,by simp⟩⟩
end
theorem Sl.new (w:World)(cs:Array Value)(t:TypeId)(n size:Nat)(h:cs.size=n*size)(hn:n≤9223372036854775807):Sl (w.alloc (.cells cs t)) (some ⟨w.heap.size,0,none⟩) n n size cs.toList:=
 ⟨Nat.le_refl _,hn,by simpa using h,fun _=>⟨w.heap.size,0,rfl,by simp,fun j u hu=>by
  rw[Nat.zero_add,World.cell?_alloc_at _ _ _ _ rfl];simpa using hu⟩⟩
theorem lt_of_cell {w:World}{b off:Nat}{v:Value}(h:w.cell? ⟨b,off,none⟩=some v):b<w.heap.size:=by
 rcases Nat.lt_or_ge b w.heap.size with h1|h1
 ·exact h1
 ·simp [World.cell?,Array.getElem?_eq_none h1] at h
theorem N8 :(Tryz.prog.info? 9).map (fun i=>(i.zero,i.size,i.bytes))=some (some (.string ⟨#[]⟩),1,16):=by kernel_rfl
abbrev sv (l:Bs):Value:=.string ⟨l.toArray⟩
theorem zG {B:Nat}{w w':World}(h:Below B w.drew w'):Below B w w':=⟨h.os,h.tape,h.output,h.size,h.block⟩
theorem WA (w:World)(cs:Array Value)(t:TypeId):∀i,(w.alloc (.cells cs t)).frozen? ⟨w.heap.size,i,none⟩=false:=by simp
theorem tX {w w':World}{row:Option Nat}(h:w.drew.grownBy w' row):w.grownBy w' row:=⟨h.os,h.tape,h.output,h.size,h.block⟩
theorem zC {w:World}{B B':Nat}{e:TypeId}{size n:Nat}{v:Value}{xs:List Value}(h:w.ownsRow B e size v n xs)(hB:B'≤B):w.ownsRow B' e size v n xs:=by
 obtain⟨h1,h2⟩:=h;refine⟨h1,?_⟩;rcases h2 with h2|⟨g,cap,cur,hv,hg,rest⟩
 ·exact .inl h2
 ·exact .inr ⟨g,cap,cur,hv,by omega,rest⟩
theorem Vh {W w3:World}{o:Obj}{row:Option Nat}{b:Nat}(hg:(W.alloc o).grownBy w3 row)(hb:b<W.heap.size)(hne:∀k,row=some k→k≠b):∀i,w3.cell? ⟨b,i,none⟩=W.cell? ⟨b,i,none⟩:=
 fun i=>(World.cell?_of_block (a:=⟨b,i,none⟩) (hg.block b (by simp;omega) (fun e=>hne b e.symm rfl))).trans (World.cell?_alloc_lt W o ⟨b,i,none⟩ hb)
theorem yw {B:Nat}{w W w3:World}{o:Obj}{row:Option Nat}(hB:Below B w W)(hg:(W.alloc o).grownBy w3 row)(hs:B≤W.heap.size)(hr:∀k,row=some k→B≤k):Below B w w3:=
 (hB.alloc hs o).grown hg (by simp;omega) hr
theorem wY {W w3:World}{o:Obj}{row:Option Nat}(hg:(W.alloc o).grownBy w3 row):W.heap.size+1≤w3.heap.size:=by
 have:=hg.size;simp at this;exact this
section
variable {w w' : World} {B : Nat}
theorem zf {e:TypeId}{size n:Nat}{v:Value}{xs:List Value}(h:w.ownsRow B e size v n xs)(hb:Below w.heap.size w w'):w'.ownsRow B e size v n xs:=by
 have hlt:=h.lt;obtain⟨h1,h2⟩:=h;refine⟨h1,?_⟩;rcases h2 with h2|⟨g,cap,cur,rfl,hg,hh,rest⟩
 ·exact .inl h2
 ·have:=hlt g rfl
  exact .inr ⟨g,cap,cur,rfl,hg,(hb.block g this.2).trans hh,rest⟩
end
section
variable {P : Program} {Q : Exit → Act → World → Prop} {S : World → Prop} {l : List Oper} {n : Nat}
def gJ (P:Program)(ops:Array Oper)(n:Nat)(Q:Exit→Act→World→Prop):Exit→Act→World→Prop
 | .normal,a,w=>wpOp P ops Q n (Q .normal) a w
 |e,a,w=>Q e a w
theorem yD {ops:Array Oper}{a:Act}{w:World}(h:wpOp P ops Q n (Q .normal) a w):gJ P ops n Q .normal a w:=h
def lastB (l:List Oper)(n:Nat):Bool:=
 decide (l.length=n+1)&&((List.range n).all fun i=>Region.waitsFor .any l.toArray n i)&&
 ((List.range (n+1)).all fun i=>match l.toArray[i]? with
   |some o=>o.after.all (fun e=> !Region.binds .any e||decide (e.on<i))&&(match o.guard with|some (g,_)=>decide (g<n)|none=>true)
   |none=>true)
theorem jL {md:Region.Mode}{ops:Array Oper}{j i:Nat}(h:Region.waitsFor md ops j i=true):∃oj,ops[j]? =some oj∧∃e ∈ oj.after,Region.binds md e=true∧e.on=i:=Region.waitsFor_spec h
theorem XT {o:Oper}{a:Act}{ops:Array Oper}{K K':Act→World→Prop}(hK:∀a w,K a w→K' a w):∀r,o.upon P a K (gJ P ops n Q) r→o.upon P a K' Q r:=by
 have hlo:LetsOut (gJ P ops n Q)→LetsOut Q:=fun⟨a,w,h⟩=>⟨a,w,h⟩;intro r h
 cases r with
 |ok x w'=>
  cases x with
  |value v=>exact hK _ _ h
  |skip=>exact hK _ _ h
  |defer d=>exact hK _ _ h
  |enter f args=>exact Calls.mono h (fun e w'' he=>by
    cases e with
    |returned v=>exact hK _ _ he
    |panicked c=>exact he
    |outgrown=>exact hlo he)
  |row rw args=>exact Rows.mono h (fun _ _ he=>hK _ _ he)
  |_=>exact h
 |halt x w'=>cases x<;>first|exact h|exact(h:False).elim
theorem Py {i:Nat}{a:Act}{w:World}{K K':Act→World→Prop}(hb:lastB l n=true)(hi:i<n)(hK:∀a w,K a w→K' a w)
 (h:wpOp P (l.take n).toArray (gJ P l.toArray n Q) i K a w):wpOp P l.toArray Q i K' a w:=by
 simp only[lastB,Bool.and_eq_true,decide_eq_true_eq] at hb;obtain⟨⟨hl,_⟩,hg⟩:=hb;have hg:=List.all_eq_true.1 hg i (List.mem_range.2 (by omega));have he:(l.take n).toArray[i]? =l.toArray[i]? :=(by simp [hi]);unfold wpOp at*;rw[he] at h
 cases ho:l.toArray[i]? with
 |none=>simp only[ho] at h;exact hK _ _ h
 |some o=>
  simp only[ho] at h hg⊢;have hy:Region.wanted o (yielded (l.take n).toArray a.tmps)=Region.wanted o (yielded l.toArray a.tmps):=by
   unfold Region.wanted;rw[Bool.and_eq_true] at hg;have hg2:=hg.2
   cases hgu:o.guard with
   |none=>rfl
   |some gw=>
    obtain⟨g,want⟩:=gw;simp only[hgu,decide_eq_true_eq] at hg2;have:yielded (l.take n).toArray a.tmps g=yielded l.toArray a.tmps g:=by
     unfold yielded;rw[show(l.take n).toArray[g]? =l.toArray[g]? by simp [hg2]]
    simp only[this]
  rw[hy] at h;split
  ·rename_i hw
   rw[if_pos hw] at h;rcases h with h|⟨h1,h2⟩
   ·exact .inl (XT hK _ h)
   ·obtain⟨a',w',h2⟩:=h2
    exact .inr ⟨h1,a',w',h2⟩
  ·rename_i hw
   rw[if_neg hw] at h;exact hK _ _ h
theorem gU (x:Array Bool)(i:Nat)(d:Bool)(h:i<x.size):(x.push false).getD i d=x.getD i d:=by
 simp [Array.getElem_push_lt,h,show i<x.size+1 by omega]
theorem x9 (x:Array Bool)(i:Nat):(x.push false).getD i false=x.getD i false:=by
 by_cases h:i<x.size
 ·exact gU x i false h
 ·by_cases h2:i=x.size
  ·subst h2;simp
  ·simp [show ¬i<x.size+1 by omega,h]
theorem UK (x:Array Bool)(i:Nat)(h:i<x.size):(x.setIfInBounds i true).push false=(x.push false).setIfInBounds i true:=by
 apply Array.ext_getElem?;intro j;simp only[Array.getElem?_push,Array.getElem?_setIfInBounds,Array.size_setIfInBounds,Array.size_push];by_cases h1:i=j
 ·subst h1;simp [h,show ¬i=x.size by omega];omega
 ·simp [h1]
theorem uT {listed:Array Bool}(hs:listed.size=n)(i:Nat)(hi:i<n):
 i ∈ Region.ready .any l.toArray (listed.push false)↔i ∈ Region.ready .any (l.take n).toArray listed:=by
 rw[mem_ready,mem_ready,gU _ _ _ (by omega),show(l.take n).toArray[i]? =l.toArray[i]? by simp [hi]];simp only[x9]
theorem SE {listed:Array Bool}(hb:lastB l n=true)(hs:listed.size=n)(h:Region.ready .any (l.take n).toArray listed=[]):∀i,i<n→listed.getD i false=true:=by
 have hb':=hb;simp only[lastB,Bool.and_eq_true,decide_eq_true_eq] at hb';obtain⟨⟨hl,_⟩,hg⟩:=hb';intro i
 induction i using Nat.strongRecOn with
 |_ i ih=>
  intro hi
  cases hc:listed.getD i false with
  |true=>rfl
  |false=>
   exfalso;have hg:=List.all_eq_true.1 hg i (List.mem_range.2 (by omega));have ho:l.toArray[i]? =some (l[i]'(by omega)):=(by simp [List.getElem?_eq_getElem (show i<l.length by omega)]);simp only[ho,Bool.and_eq_true] at hg;have hm:i ∈ Region.ready .any (l.take n).toArray listed:=by
    rw[mem_ready];refine⟨getD_in (by omega) hc,l[i]'(by omega),by simp [hi,List.getElem?_eq_getElem (show i<l.length by omega)],fun e he hbnd=> ?_⟩;have h1:=Array.all_eq_true'.1 hg.1 e he;simp only[hbnd,Bool.not_true,Bool.false_or,decide_eq_true_eq] at h1;exact ih e.on h1 (by omega)
   rw[h] at hm
   cases hm
theorem Rk (hb : lastB l n = true) : ∀ (fuel : Nat) (listed : Array Bool) (a : Act) (w : World), listed.size = n → wpAnyH P .any (l.take n).toArray (gJ P l.toArray n Q) S fuel listed a w →
    wpAny P .any l.toArray Q (fuel + 1) (listed.push false) a w := by
  have hb' := hb
  simp only [lastB, Bool.and_eq_true, decide_eq_true_eq] at hb'
  obtain ⟨⟨hl, hwait⟩, hedge⟩ := hb'
  have hlast : l.toArray[n]? = some (l[n]'(by omega)) := by simp [List.getElem?_eq_getElem (show n < l.length by omega)]
  -- where nothing else may come up, the last one does
  have fin : ∀ (fuel : Nat) (listed : Array Bool) (a : Act) (w : World), listed.size = n → Region.ready .any (l.take n).toArray listed = [] → wpOp P l.toArray Q n (Q .normal) a w → wpAny P .any l.toArray Q (fuel + 1) (listed.push false) a w := by
    intro fuel listed a w hs h0 h
    have hall := SE hb hs h0
    have hn : n ∈ Region.ready .any l.toArray (listed.push false) := by
      rw [mem_ready]
      refine ⟨by simp [← hs], l[n]'(by omega), hlast, fun e he hbnd => ?_⟩
      rw [x9]
      have hg := List.all_eq_true.1 hedge n (List.mem_range.2 (by omega))
      simp only [hlast, Bool.and_eq_true] at hg
      have h1 := Array.all_eq_true'.1 hg.1 e he
      simp only [hbnd, Bool.not_true, Bool.false_or, decide_eq_true_eq] at h1
      exact hall e.on h1
    refine ⟨fun h1 => (by rw [h1] at hn; cases hn), fun i hi => ?_⟩
    have hin : i = n := by
      obtain ⟨_, o, ho, _⟩ := mem_ready.1 hi
      have hlt : i < l.length := by simpa using (Array.getElem?_eq_some_iff.1 ho).1
      rcases Nat.lt_or_ge i n with h2 | h2
      · have := (uT hs i h2).1 hi
        rw [h0] at this; cases this
      · omega
    subst hin
    refine wpOp_mono (fun a' w' h' => ?_) h
    have hz : Region.ready .any l.toArray ((listed.push false).setIfInBounds i true) = [] := by
      apply List.eq_nil_iff_forall_not_mem.2
      intro j hj
      obtain ⟨hun, o, ho, _⟩ := mem_ready.1 hj
      have hlt : j < l.length := by simpa using (Array.getElem?_eq_some_iff.1 ho).1
      have hd := getD_both hun
      by_cases hji : j = i
      · subst hji; simp [hs] at hd
      · have := hall j (by omega)
        rw [getD_set_ne false (Ne.symm hji), x9, this] at hd
        cases hd
    exact wpAny_done hz h' _
  intro fuel
  induction fuel with
  | zero => intro listed a w hs h; exact fin 0 listed a w hs h.1 h.2
  | succ fuel ih =>
    intro listed a w hs h
    by_cases h0 : Region.ready .any (l.take n).toArray listed = []
    · exact fin _ listed a w hs h0 (h.1 h0)
    · obtain ⟨j, hj⟩ : ∃ j, j ∈ Region.ready .any (l.take n).toArray listed := by
        cases hr : Region.ready .any (l.take n).toArray listed with
        | nil => exact absurd hr h0
        | cons x xs => exact ⟨x, List.mem_cons_self⟩
      have hjn : j < n := by
        obtain ⟨_, o, ho, _⟩ := mem_ready.1 hj
        have := (Array.getElem?_eq_some_iff.1 ho).1
        simp at this; omega
      refine ⟨fun h1 => ?_, fun i hi => ?_⟩
      · have := (uT hs j hjn).2 hj
        rw [h1] at this; cases this
      · have hin : i < n := by
          obtain ⟨_, o, ho, hall⟩ := mem_ready.1 hi
          have hlt : i < l.length := by simpa using (Array.getElem?_eq_some_iff.1 ho).1
          rcases Nat.lt_or_ge i n with h2 | h2
          · exact h2
          · exfalso
            have hie : i = n := by omega
            subst hie
            have h3 := List.all_eq_true.1 hwait j (List.mem_range.2 hjn)
            obtain ⟨oj, hoj, e, he, hbnd, hon⟩ := jL h3
            rw [hoj] at ho
            injection ho with ho
            subst ho
            have h4 := hall e he hbnd
            rw [x9, hon, getD_both (mem_ready.1 hj).1] at h4
            cases h4
        refine Py hb hin (fun a' w' h' => ?_) (h.2 i ((uT hs i hin).1 hi))
        have := ih (listed.setIfInBounds i true) a' w' (by simpa using hs) h'.2
        rw [UK listed i (by omega)] at this
        exact this
theorem vw {id:Nat}{a:Act}{w:World}(n:Nat)(S:World→Prop)(hm:P.follows .mixedOrders=true)(hb:lastB l n=true)(hS:S w.drew)
 (h:S w.drew→wpAnyH P .any (l.take n).toArray (gJ P l.toArray n (NoPanic Q)) S n (Array.replicate n false) a w.drew):(Code.region id l.toArray true).wp P Q a w:=by
 have hl:l.length=n+1:=by
  simp only[lastB,Bool.and_eq_true,decide_eq_true_eq] at hb;exact hb.1.1
 refine wp_region_noPanic (wp_region_any hm ?_);have h2:=Rk hb n _ a w.drew (by simp) (h hS);have e:(Array.replicate n false).push false=Array.replicate (n+1) false:=(by rw[←Array.replicate_succ]);rw[e] at h2;have es:l.toArray.size=n+1:=(by simp [hl]);rw[es];exact h2
end
theorem WU {w:World}{B:Nat}{e:TypeId}{A:Option Addr}{n cap size:Nat}{cs:List Value}(h:w.ownsRow B e size (.slice A n cap) n cs)(hn:0<n):∃g,A=some ⟨g,0,none⟩∧B≤g∧g<w.heap.size:=by
 have hlt:=h.lt;rcases h.2 with⟨h',h0⟩|⟨g,cap',cur,h',hb,hg,_⟩
 ·omega
 ·simp only[Value.slice.injEq] at h'
  obtain⟨h1,_,_⟩:=h';subst h1;exact⟨g,rfl,hlt g rfl⟩
theorem Sl.newAt (w:World)(cs:Array Value)(t:TypeId)(n size:Nat){b:Nat}(hb:b=w.heap.size)(h:cs.size=n*size)(hn:n≤9223372036854775807):Sl (w.alloc (.cells cs t)) (some ⟨b,0,none⟩) n n size cs.toList:=by
 subst hb;exact Sl.new w cs t n size h hn
section
variable {P : Program} (w : World)
theorem run_append_nothing (t ty:TypeId)(e:TypeId)(i:TypeInfo)(size:Nat)(ht:P.underlying t=some (.slice e))(hi:P.info? e=some i){base:Nat}
 {v:Value} {n:Nat} {xs:List Value} (hown:w.ownsRow base e size v n xs) (c:Nat):(Builtin.append_ #[t,t] ty #[v,.slice none 0 c]).run P w= .ok v w:=by
 obtain⟨_,h⟩:=hown;rcases h with⟨hv,hn⟩|⟨g,cap,cur,hv,_,_,hnc,_⟩
 ·subst hv
  simp [Builtin.append_,run_underlying ht,sizeOf,typeInfo,hi,Builtin.lenOf,Builtin.firstCells]
 ·subst hv
  simp [Builtin.append_,run_underlying ht,sizeOf,typeInfo,hi,Builtin.lenOf,Builtin.firstCells,hnc,storeCells]
theorem KI (base:Nat)(t ty e:TypeId)(i:TypeInfo)(z:Value)(size bytes:Nat)(ht:P.underlying t=some (.slice e))(hi:P.info? e=some i)(hz:i.zero=some z)
 (hsize:i.size=size) (hby:i.bytes=bytes) (hzs:z.cells.size=size) (hsz:0<size)
 (v:Value) (n:Nat) (xs:List Value) (hown:w.ownsRow base e size v n xs) (A:Option Addr) (m c:Nat) (news:List Value) (hr:Sl w A m c size news) (h1:∀u ∈ news,u.oneCell'=true)
 (h63:n+m≤maxLen) (hbytes:(n+m)*bytes≤140737488355328) (hbase:base≤w.heap.size):
 ∃A' cap' w',(Builtin.append_ #[t,t] ty #[v,.slice A m c]).run P w= .ok (.slice A' (n+m) cap') w'∧w'.ownsRow base e size (.slice A' (n+m) cap') (n+m) (xs++news)∧w.grownBy w' v.ownBlock∧
  (Value.ownBlock (.slice A' (n+m) cap')=v.ownBlock∨Value.ownBlock (.slice A' (n+m) cap')=some w.heap.size):=by
 obtain⟨_,_,hnl,hc⟩:=hr;by_cases hA:A=none
 ·subst hA
  have hm:m=0:=by
   rcases Nat.eq_zero_or_pos m with h|h
   ·exact h
   ·obtain⟨g,off,h,_⟩:=hc h;cases h
  subst hm;have hn:news=[]:=List.eq_nil_of_length_eq_zero (by simpa using hnl);subst hn;obtain⟨A',cap',hv,_⟩:=Sl.sN hown;subst hv;exact⟨A',cap',w,run_append_nothing w t ty e i size ht hi hown c,by simpa using hown,World.grownBy.refl w _,.inl rfl⟩
 ·obtain⟨ad,rfl⟩:∃ad,A=some ad:=by cases A with
   |none=>exact absurd rfl hA
   |some ad=>exact⟨ad,rfl⟩
  have hcells:∀j u,news[j]? =some u→w.cell? (ad.add j)=some u:=by
   intro j u hu;have hm:0<m:=by
    rcases Nat.eq_zero_or_pos m with h|h
    ·subst h
     have hn:news=[]:=List.eq_nil_of_length_eq_zero (by simpa using hnl);subst hn;simp at hu
    ·exact h
   obtain⟨g,off,h,_,h3⟩:=hc hm;injection h with h
   subst h;have h4:=h3 j u hu;have ha:(⟨g,off,none⟩:Addr).add j=⟨g,off+j,none⟩:=by
    unfold Addr.add;split<;>simp_all
   rw[ha];exact h4
  obtain⟨v',w',hrun,h2,h3,_,h5⟩:=run_append_own_at (P:=P) w base t ty e i z size bytes ht hi hz hsize hby hzs hsz v n xs hown ad m c news hnl hcells h1 h63 hbytes hbase;obtain⟨A',cap',hv,_⟩:=Sl.sN h2;subst hv;exact⟨A',cap',w',hrun,h2,h3,h5⟩
theorem Ku {o:Oper}{a:Act}{K:Act→World→Prop}{Q:Exit→Act→World→Prop}(s x:Operand)(t:TypeId)
 (ho:o.op= .call { callee:=.builtin .append,args:=#[s,x],argTypes:=#[t,t] })
 (base:Nat) (e:TypeId) (i:TypeInfo) (z:Value) (size bytes:Nat) (ht:P.underlying t=some (.slice e)) (hi:P.info? e=some i) (hz:i.zero=some z)
 (hsize:i.size=size) (hby:i.bytes=bytes) (hzs:z.cells.size=size) (hsz:0<size)
 (v:Value) (n:Nat) (xs:List Value) (hs:a.eval s=v) (hown:w.ownsRow base e size v n xs)
 (A:Option Addr) (m c:Nat) (news:List Value) (hx:a.eval x= .slice A m c) (hr:Sl w A m c size news) (h1:∀u ∈ news,u.oneCell'=true)
 (h63:n+m≤maxLen) (hbytes:(n+m)*bytes≤140737488355328) (hbase:base≤w.heap.size)
 (h:∀A' cap' w',w'.ownsRow base e size (.slice A' (n+m) cap') (n+m) (xs++news)→w.grownBy w' v.ownBlock→
  (Value.ownBlock (.slice A' (n+m) cap')=v.ownBlock∨Value.ownBlock (.slice A' (n+m) cap')=some w.heap.size)→K (a.put o.dst (.slice A' (n+m) cap')) w'):o.wp P a w K Q:=by
 obtain⟨A',cap',w',hrun,h2,h3,h4⟩:=KI (P:=P) w base t o.type e i z size bytes ht hi hz hsize hby hzs hsz v n xs hown A m c news hr h1 h63 hbytes hbase;unfold Oper.wp execOp;simp only[ho,resolve,invoke,builtin,Sem.run_bind,Sem.run_pure,Result.andThen_ok,List.map_toArray,List.map_cons,List.map_nil,hs,hx,hrun];exact h A' cap' w' h2 h3 h4
theorem zN {ops:Array Oper}{rest:List Oper}{o:Oper}{a:Act}{Q:Exit→Act→World→Prop}(hgd:o.guard=none)(s x:Operand)(t:TypeId)
 (ho:o.op= .call { callee:=.builtin .append,args:=#[s,x],argTypes:=#[t,t] })
 (base:Nat) (e:TypeId) (i:TypeInfo) (z:Value) (size bytes:Nat) (ht:P.underlying t=some (.slice e)) (hi:P.info? e=some i) (hz:i.zero=some z)
 (hsize:i.size=size) (hby:i.bytes=bytes) (hzs:z.cells.size=size) (hsz:0<size)
 (v:Value) (n:Nat) (xs:List Value) (hs:a.eval s=v) (hown:w.ownsRow base e size v n xs)
 (A:Option Addr) (m c:Nat) (news:List Value) (hx:a.eval x= .slice A m c) (hr:Sl w A m c size news) (h1:∀u ∈ news,u.oneCell'=true)
 (h63:n+m≤maxLen) (hbytes:(n+m)*bytes≤140737488355328) (hbase:base≤w.heap.size)
 (h:∀A' cap' w',w'.ownsRow base e size (.slice A' (n+m) cap') (n+m) (xs++news)→w.grownBy w' v.ownBlock→
  (Value.ownBlock (.slice A' (n+m) cap')=v.ownBlock∨Value.ownBlock (.slice A' (n+m) cap')=some w.heap.size)→wpList P ops Q rest (a.put o.dst (.slice A' (n+m) cap')) w'):wpList P ops Q (o::rest) a w:=
 wpList_plain hgd fun _ hK=>Ku w s x t ho base e i z size bytes ht hi hz hsize hby hzs hsz v n xs hs hown A m c news hx hr h1 h63 hbytes hbase fun A' cap' w' h2 h3 h4=>hK _ _ (h A' cap' w' h2 h3 h4)
theorem uz {ops:Array Oper}{o:Oper}{a:Act}{K:Act→World→Prop}{Q:Exit→Act→World→Prop}{E:Prop}(hgd:o.guard=none)(s x:Operand)(t:TypeId)
 (ho:o.op= .call { callee:=.builtin .append,args:=#[s,x],argTypes:=#[t,t] })
 (base:Nat) (e:TypeId) (i:TypeInfo) (z:Value) (size bytes:Nat) (ht:P.underlying t=some (.slice e)) (hi:P.info? e=some i) (hz:i.zero=some z)
 (hsize:i.size=size) (hby:i.bytes=bytes) (hzs:z.cells.size=size) (hsz:0<size)
 (v:Value) (n:Nat) (xs:List Value) (hs:a.eval s=v) (hown:w.ownsRow base e size v n xs)
 (A:Option Addr) (m c:Nat) (news:List Value) (hx:a.eval x= .slice A m c) (hr:Sl w A m c size news) (h1:∀u ∈ news,u.oneCell'=true)
 (h63:n+m≤maxLen) (hbytes:(n+m)*bytes≤140737488355328) (hbase:base≤w.heap.size)
 (h:∀A' cap' w',w'.ownsRow base e size (.slice A' (n+m) cap') (n+m) (xs++news)→w.grownBy w' v.ownBlock→
  (Value.ownBlock (.slice A' (n+m) cap')=v.ownBlock∨Value.ownBlock (.slice A' (n+m) cap')=some w.heap.size)→K (a.put o.dst (.slice A' (n+m) cap')) w'):
 if Region.wanted o (yielded ops a.tmps)=true then Oper.wp P o a w K Q else E:=by
 rw[if_pos (by simp [Region.wanted,hgd])];exact Ku w s x t ho base e i z size bytes ht hi hz hsize hby hzs hsz v n xs hs hown A m c news hx hr h1 h63 hbytes hbase h
end
theorem Rt (l:Bs):Go.Lib.strCells ⟨l.toArray⟩=l.map u8v:=by simp [Go.Lib.strCells]
section
variable {P : Program} {w : World}
theorem Oy {o:Oper}{a:Act}{K:Act→World→Prop}{Q:Exit→Act→World→Prop}(s x:Operand)(t u:TypeId)
 (ho:o.op= .call { callee:=.builtin .append,args:=#[s,x],argTypes:=#[t,u] })
 (base:Nat) (e:TypeId) (i:TypeInfo) (ht:P.underlying t=some (.slice e)) (hu:P.underlying u=some .string) (hi:P.info? e=some i) (hz:i.zero=some (.int .u8 0)) (hsize:i.size=1) (hby:i.bytes=1)
 (v:Value) (n:Nat) (xs:List Value) (hs:a.eval s=v) (hown:w.ownsRow base e 1 v n xs) (l:Bs) (hx:a.eval x= .string ⟨l.toArray⟩)
 (h63:n+l.length≤maxLen) (hbytes:n+l.length≤140737488355328) (hbase:base≤w.heap.size)
 (h:∀A' cap' w',w'.ownsRow base e 1 (.slice A' (n+l.length) cap') (n+l.length) (xs++l.map u8v)→w.grownBy w' v.ownBlock→K (a.put o.dst (.slice A' (n+l.length) cap')) w'):o.wp P a w K Q:=by
 have hsz:(ByteArray.mk l.toArray).size=l.length:=(by simp [ByteArray.size]);obtain⟨v',w',hrun,h2,h3,_⟩:=Go.Lib.run_append_own_string (P:=P) w base t u o.type e i ht hu hi hz hsize hby v n xs hown ⟨l.toArray⟩ (by rw[hsz];exact h63) (by rw[hsz];exact hbytes) hbase;rw[hsz,Rt] at h2;obtain⟨A',cap',hv,_⟩:=Sl.sN h2;subst hv;unfold Oper.wp execOp;simp only[ho,resolve,invoke,builtin,Sem.run_bind,Sem.run_pure,Result.andThen_ok,List.map_toArray,List.map_cons,List.map_nil,hs,hx,hrun];exact h A' cap' w' h2 h3
theorem jZ {ops:Array Oper}{rest:List Oper}{o:Oper}{a:Act}{Q:Exit→Act→World→Prop}(hgd:o.guard=none)(s x:Operand)(t u:TypeId)
 (ho:o.op= .call { callee:=.builtin .append,args:=#[s,x],argTypes:=#[t,u] })
 (base:Nat) (e:TypeId) (i:TypeInfo) (ht:P.underlying t=some (.slice e)) (hu:P.underlying u=some .string) (hi:P.info? e=some i) (hz:i.zero=some (.int .u8 0)) (hsize:i.size=1) (hby:i.bytes=1)
 (v:Value) (n:Nat) (xs:List Value) (hs:a.eval s=v) (hown:w.ownsRow base e 1 v n xs) (l:Bs) (hx:a.eval x= .string ⟨l.toArray⟩)
 (h63:n+l.length≤maxLen) (hbytes:n+l.length≤140737488355328) (hbase:base≤w.heap.size)
 (h:∀A' cap' w',w'.ownsRow base e 1 (.slice A' (n+l.length) cap') (n+l.length) (xs++l.map u8v)→w.grownBy w' v.ownBlock→wpList P ops Q rest (a.put o.dst (.slice A' (n+l.length) cap')) w'):wpList P ops Q (o::rest) a w:=
 wpList_plain hgd fun _ hK=>Oy s x t u ho base e i ht hu hi hz hsize hby v n xs hs hown l hx h63 hbytes hbase fun A' cap' w' h2 h3=>hK _ _ (h A' cap' w' h2 h3)
theorem Yu {ops:Array Oper}{o:Oper}{a:Act}{K:Act→World→Prop}{Q:Exit→Act→World→Prop}{E:Prop}(hgd:o.guard=none)(s x:Operand)(t u:TypeId)
 (ho:o.op= .call { callee:=.builtin .append,args:=#[s,x],argTypes:=#[t,u] })
 (base:Nat) (e:TypeId) (i:TypeInfo) (ht:P.underlying t=some (.slice e)) (hu:P.underlying u=some .string) (hi:P.info? e=some i) (hz:i.zero=some (.int .u8 0)) (hsize:i.size=1) (hby:i.bytes=1)
 (v:Value) (n:Nat) (xs:List Value) (hs:a.eval s=v) (hown:w.ownsRow base e 1 v n xs) (l:Bs) (hx:a.eval x= .string ⟨l.toArray⟩)
 (h63:n+l.length≤maxLen) (hbytes:n+l.length≤140737488355328) (hbase:base≤w.heap.size)
 (h:∀A' cap' w',w'.ownsRow base e 1 (.slice A' (n+l.length) cap') (n+l.length) (xs++l.map u8v)→w.grownBy w' v.ownBlock→K (a.put o.dst (.slice A' (n+l.length) cap')) w'):
 if Region.wanted o (yielded ops a.tmps)=true then Oper.wp P o a w K Q else E:=by
 rw[if_pos (by simp [Region.wanted,hgd])];exact Oy s x t u ho base e i ht hu hi hz hsize hby v n xs hs hown l hx h63 hbytes hbase h
end
theorem zu {B:Nat}{w w':World}(h:Below B w w':=by repeat(first|(with_reducible exact Below.refl _ _)|(with_reducible assumption)|(with_reducible refine Below.drew ?_)|(with_reducible refine Below.alloc ?_ (by first|omega|(simp<;>omega)) _)|(with_reducible refine Below.setCell ?_ (by first|omega|(simp<;>omega)) _)|(with_reducible refine dh ?_ _))):Below B w w':=h
theorem oo {p:Prop}(h:p:=by omega):p:=h
theorem kr {p:Prop}(h:p:=by kernel_rfl):p:=h
theorem oA {p:Prop}(h:p:=by first|omega|(simp;done)|(simp;omega)|fail):p:=h
theorem oB {p:Prop}(h:p:=by first|assumption|(simp only;omega)|omega|fail):p:=h
theorem oC {p:Prop}(h:p:=by first|omega|(simp<;>omega)|fail):p:=h
theorem wL {B:Nat}{w w':World}(h:Below B w w':=by(repeat(first|(with_reducible exact Below.refl _ _)|(with_reducible assumption)|(with_reducible refine Below.drew ?_)|((with_reducible refine Below.alloc ?_ ?_ _);rotate_left;focus(first|omega|(simp<;>omega)))|((with_reducible refine Below.setCell ?_ ?_ _);rotate_left;focus(first|omega|(simp<;>omega)))|(with_reducible refine dh ?_ _)));first|done|fail):Below B w w':=h
theorem yL {B:Nat}{w w':World}(h:Below B w w':=by repeat(first|(with_reducible exact Below.refl _ _)|(with_reducible assumption)|(with_reducible refine Below.drew ?_)|(with_reducible refine Below.alloc ?_ (by first|omega|(simp<;>omega)) _)|(with_reducible refine Below.setCell ?_ (by first|omega|(simp<;>omega)) _)|(with_reducible refine dh ?_ _)|(with_reducible refine Below.trans ?_ (Below.mono (by with_reducible assumption) (by first|omega|(simp<;>omega)))))):Below B w w':=h
theorem tBk {w:World}{g:Nat}{t:TypeId}{cs:Array Value}(h:Bk w g t cs:=by repeat(first|(with_reducible assumption)|(with_reducible exact Bk.new _ _ _)|(with_reducible refine Bk.newAt _ _ _ (by simp;done))|(with_reducible refine Bk.drew ?_)|(with_reducible refine Bk.drewN ?_ _)|(with_reducible refine Bk.alloc ?_ _))):Bk w g t cs:=h
section
variable {P : Program} {ops : Array Oper} {Q : Exit → Act → World → Prop} {md : Region.Mode} {S : World → Prop} {oi : Oper} {v : Value} {fuel : Nat} {listed : Array Bool} {a : Act} {w : World}
theorem tk (i:Nat)(h:wpAnyH P md ops Q S fuel (listed.setIfInBounds i true) (a.put oi.dst v) w)(hi:ops[i]? =some oi:=by rfl)
 (hs:Region.noSelect ops=true:=by kernel_rfl) (hf:Region.free md ops listed i=true:=by kernel_rfl) (hr:(Region.ready md ops listed).contains i=true:=by kernel_rfl)
 (hQ:∀c a w,Q (.panic c) (a.put oi.dst v) w→Q (.panic c) a w:=by exact fun _ _ _ h=>h) (hw:Region.wanted oi (yielded ops a.tmps)=true:=by rfl)
 (hv:∀w,S w→(execOp a.eval oi).run P w= .ok (.value v) w:=by intro w hSw;(try dsimp only at hSw);go_simp;try with_reducible rfl) (hS:S w:=by assumption):wpAnyH P md ops Q S (fuel+1) listed a w:=
 wpAnyH_take hi hs hf hr hQ (.inl ⟨hw,hv⟩) hS h
theorem rd1 (i:Nat){o:Oper}(h:∀K':Act→World→Prop,Shut (∀a w,S w→(S w→wpAnyH P md ops Q S fuel (listed.setIfInBounds i true) a w)→K' a w)→if Region.wanted o (yielded ops a.tmps)=true then Oper.wp P o a w K' Q else K' (a.put o.dst undef) w)
 (ho:ops[i]? =some o:=by rfl) (hr:Region.ready md ops listed=[i]:=by kernel_rfl):wpAnyH P md ops Q S (fuel+1) listed a w:=
 wpAnyH_ready hr (by simp) (AllReadyH.cons ho h AllReadyH.nil)
end
theorem u2 {l:List Value}{i:Nat}{a:Value} :l.toArray.setIfInBounds i a=(l.set i a).toArray:=by simp
theorem u3 {x:Value}{l:List Value}{a:Value} :(x::l).set 0 a=a::l:=rfl
theorem u4 {x:Value}{l:List Value}{i:Nat}{a:Value} :(x::l).set (i+1) a=x::l.set i a:=rfl
end Go.Proofs.YtfppmajoidkooaaGreatDoor
