import Derived.Test.YtfppmajoidkooaaGreatDoorUGA
set_option linter.unusedVariables false
set_option linter.unusedSimpArgs false
namespace Go.Proofs.YtfppmajoidkooaaGreatDoor
def Blk.inner (b:Blk):Bs:=(if b.raw then 0 else 1)::(two b.num++two b.size++two b.body.length++b.body)
def Blk.text (b:Blk):Bs:=181::(b.inner++two (sumOf b.inner))
theorem Blk.dW (b:Blk):b.inner.length=7+b.body.length:=by simp [Blk.inner,two];omega
theorem Blk.lJ (b:Blk):b.text.length=10+b.body.length:=by simp [Blk.text,b.dW,two];omega
theorem Blk.KO {b:Blk}(h:b.ok=true):1≤b.body.length∧b.body.length≤64:=by
 simp only[Blk.ok,decide_eq_true_eq] at h;obtain⟨_,_,h1,h2,h3⟩:=h;split at h3<;>omega
def cutAt (l:Bs)(i j:Int):Bs:=(l.drop i.toNat).take (j.toNat - i.toNat)
def xq (l:Bs)(a:Int):Blk:=⟨numAt l (a+2),decide (byteAt l (a+1)=0),numAt l (a+4),cutAt l (a+8) (a+8+numAt l (a+6))⟩
def yT (l:Bs)(a:Int):Int:=a+8+numAt l (a+6)+2
def uQ (l:Bs)(a:Int):Bool:=decide (0≤a∧a+10≤l.length)&&(decide (byteAt l a=181)&&decide (byteAt l (a+1)≤1))
def yM (l:Bs)(a:Int):Bool:=uQ l a&&(decide (yT l a≤l.length)&&((xq l a).ok&&decide (sumOf (cutAt l (a+1) (yT l a - 2))=numAt l (yT l a - 2))))
theorem aB (l:Bs)(i:Int)(h0:0≤i)(h1:i+2≤l.length):two (numAt l i)=cutAt l i (i+2):=by
 obtain⟨k,rfl⟩:=Int.eq_ofNat_of_zero_le h0;have hk:k+1<l.length:=oo;unfold cutAt;rw[show((k:Int)+2).toNat - (k:Int).toNat=2 by omega,Int.toNat_natCast,List.drop_eq_getElem_cons (by omega:k<l.length),List.drop_eq_getElem_cons hk];simp only[List.take_succ_cons,List.take_zero];unfold two numAt;have e:((k:Int)+1)=((k+1:Nat):Int):=oo;rw[e,zX l k (by omega),zX l (k+1) hk];have h2:=l[k].toNat_lt;have h3:=l[k+1].toNat_lt;congr 1
 ·apply UInt8.toNat_inj.1
  rw[UInt8.toNat_ofNat'];omega
 ·congr 1
  apply UInt8.toNat_inj.1;rw[UInt8.toNat_ofNat'];omega
theorem Q3 (l:Bs)(i j:Int)(h0:0≤i)(h1:i≤j)(h2:j≤l.length):((cutAt l i j).length:Int)=j - i:=by
 unfold cutAt;simp;omega
theorem uy (l:Bs)(i j k:Int)(h0:0≤i)(h1:i≤j)(h2:j≤k):cutAt l i j++cutAt l j k=cutAt l i k:=by
 unfold cutAt;have e:l.drop j.toNat=(l.drop i.toNat).drop (j.toNat - i.toNat):=(by rw[List.drop_drop];congr 1;omega);rw[e];generalize l.drop i.toNat=m;have:k.toNat - i.toNat=(j.toNat - i.toNat)+(k.toNat - j.toNat):=oo;rw[this,List.take_add]
theorem XR (l:Bs)(i:Int)(h0:0≤i)(h1:i<l.length):cutAt l i (i+1)=[UInt8.ofNat (byteAt l i).toNat]:=by
 obtain⟨k,rfl⟩:=Int.eq_ofNat_of_zero_le h0;unfold cutAt;rw[show((k:Int)+1).toNat - (k:Int).toNat=1 by omega,Int.toNat_natCast,List.drop_eq_getElem_cons (by omega:k<l.length)];simp only[List.take_succ_cons,List.take_zero];rw[zX l k (by omega)];simp
theorem O3 {l:Bs}{a:Int}(hh:uQ l a=true)(he:yT l a≤l.length):(xq l a).inner=cutAt l (a+1) (yT l a - 2):=by
 simp only[uQ,Bool.and_eq_true,decide_eq_true_eq] at hh;obtain⟨⟨h0,h1⟩,h2,h3⟩:=hh;have hn:=xA l (a+6);unfold yT at*;have e1:cutAt l (a+1) (a+2)=[if decide (byteAt l (a+1)=0)=true then 0 else 1]:=by
  rw[show a+2=a+1+1 by omega,XR l (a+1) (by omega) (by omega)];have hb:=zL l (a+1);by_cases hz:byteAt l (a+1)=0
  ·rw[hz];simp
  ·have:byteAt l (a+1)=1:=oo
   rw[this];simp
 have e2:=aB l (a+2) oo oo;have e3:=aB l (a+4) oo oo;have e4:=aB l (a+6) oo oo;have hl:(((xq l a).body.length:Nat):Int)=numAt l (a+6):=by
  show(((cutAt l (a+8) (a+8+numAt l (a+6))).length:Nat):Int)=_;rw[Q3 _ _ _ (by omega) (by omega) (by omega)];omega
 unfold Blk.inner;rw[hl];show(if decide (byteAt l (a+1)=0)=true then 0 else 1)::(two (numAt l (a+2))++two (numAt l (a+4))++two (numAt l (a+6))++cutAt l (a+8) (a+8+numAt l (a+6)))=_;rw[e2,e3,e4];rw[show a+2+2=a+4 by omega,show a+4+2=a+6 by omega,show a+6+2=a+8 by omega];rw[uy _ _ _ _ (by omega) (by omega) (by omega),uy _ _ _ _ (by omega) (by omega) (by omega),uy _ _ _ _ (by omega) (by omega) (by omega)];rw[show ∀(x:UInt8) (r:Bs),x::r=[x]++r from fun _ _=>rfl,←e1,uy _ _ _ _ (by omega) (by omega) (by omega)];congr 1;omega
theorem Lj {a b:Int}(ha:0≤a∧a<65536)(hb:0≤b∧b<65536)(h:two a=two b):a=b:=by
 unfold two at h;injection h with h1 h2
 injection h2 with h2 _
 have h1:=congrArg UInt8.toNat h1;have h2:=congrArg UInt8.toNat h2;simp only[UInt8.toNat_ofNat'] at h1 h2;omega
theorem QH {l:Bs}{a:Int}(hh:uQ l a=true)(he:yT l a≤l.length):((xq l a).text=cutAt l a (yT l a))↔sumOf (cutAt l (a+1) (yT l a - 2))=numAt l (yT l a - 2):=by
 have hi:=O3 hh he;simp only[uQ,Bool.and_eq_true,decide_eq_true_eq] at hh;obtain⟨⟨h0,h1⟩,h2,h3⟩:=hh;have hn:=xA l (a+6);have hen:yT l a=a+8+numAt l (a+6)+2:=rfl;unfold Blk.text;rw[hi];have e1:cutAt l a (a+1)=[181]:=(by rw[XR l a h0 (by omega),h2];rfl);have e2:=aB l (yT l a - 2) oo oo;rw[show yT l a - 2+2=yT l a by omega] at e2;have e3:cutAt l a (yT l a)=181::(cutAt l (a+1) (yT l a - 2)++two (numAt l (yT l a - 2))):=by
  rw[e2,uy _ _ _ _ (by omega) (by omega) (by omega)];rw[show ∀(x:UInt8) (r:Bs),x::r=[x]++r from fun _ _=>rfl,←e1,uy _ _ _ _ (by omega) (by omega) (by omega)]
 rw[e3];constructor
 ·intro h
  injection h with _ h
  have h:=List.append_cancel_left h;exact Lj (uH _) (by have:=xA l (yT l a - 2);omega) h
 ·intro h;rw[h]
theorem Rf {l:Bs}{a:Int}(h:yM l a=true):(xq l a).text=cutAt l a (yT l a):=by
 simp only[yM,Bool.and_eq_true,decide_eq_true_eq] at h;exact(QH h.1 h.2.1).2 h.2.2.2
theorem eu {l:Bs}{a:Int}(h:yM l a=true):0≤a∧a+10≤yT l a∧yT l a≤l.length∧(xq l a).ok=true:=by
 simp only[yM,uQ,Bool.and_eq_true,decide_eq_true_eq] at h;have hn:=xA l (a+6);have hen:yT l a=a+8+numAt l (a+6)+2:=rfl;exact⟨h.1.1.1,oo,h.2.1,h.2.2.1⟩
def Rx (l:Bs):Nat→Int→Int
 |0,_=> -1
 |n+1,a=>if yM l a=true then a else Rx l n (a+1)
def bn (l:Bs)(a:Int):Int:=if l.length≤8000∧0≤a then Rx l (l.length - a).toNat a else -1
def Vp (l:Bs):Nat→Int→List (Int×Blk)
 |0,_=>[]
 |n+1,a=>if 0≤a then(a,xq l a)::Vp l n (bn l (yT l a)) else[]
def fV (l:Bs):List (Int×Blk):=Vp l (l.length+1) (bn l 0)
def zn (bs:List Blk):Int:=bs.foldl (fun n b=>n+b.size) 0
def y8 (l:Bs):Nat→Int→List Blk→Option (List Blk)
 |0,_,_=>none
 |n+1,a,acc=>if(l.length:Int)≤a then(if zn acc≤2000 then some acc else none) else
  if yM l a=true∧(xq l a).num=acc.length then y8 l n (yT l a) (acc++[xq l a]) else none
def zT (l:Bs):Option (List Blk):=y8 l (l.length+1) 0 []
def jQ (fs:List (Int×Blk))(n:Int):Option Blk:=(fs.find? fun f=>decide (f.2.num=n)).map (·.2)
theorem Tu (p t:Bs)(k:Nat):byteAt (p++t) ((p.length:Int)+k)=byteAt t k:=by
 unfold byteAt;rw[show((p.length:Int)+k).toNat=p.length+k by omega,show((k:Int)).toNat=k by omega,List.getElem?_append_right (by omega),Nat.add_sub_cancel_left]
theorem pG (p s:Bs)(c:UInt8)(a:Int)(h:a=p.length):byteAt (p++c::s) a=c.toNat:=by
 subst h;have:=Tu p (c::s) 0;simp at this;rw[this];simp [byteAt]
theorem ja (p s:Bs)(n a:Int)(h:a=p.length)(h0:0≤n)(h1:n<65536):numAt (p++(two n++s)) a=n:=by
 unfold numAt;have e1:p++(two n++s)=p++UInt8.ofNat (n / 256 % 256).toNat::(UInt8.ofNat (n % 256).toNat::s):=rfl;have e2:p++(two n++s)=(p++[UInt8.ofNat (n / 256 % 256).toNat])++UInt8.ofNat (n % 256).toNat::s:=(by simp [two]);have e3:byteAt (p++(two n++s)) (a+1)=((UInt8.ofNat (n % 256).toNat).toNat:Int):=by
  rw[e2];exact pG _ _ _ _ (by subst h;simp)
 have e4:byteAt (p++(two n++s)) a=((UInt8.ofNat (n / 256 % 256).toNat).toNat:Int):=by
  rw[e1];exact pG _ _ _ _ h
 rw[e3,e4];simp only[UInt8.toNat_ofNat'];omega
theorem XF (p m s:Bs)(i j:Int)(hi:i=p.length)(hj:j=p.length+m.length):cutAt (p++(m++s)) i j=m:=by
 subst hi hj;unfold cutAt;rw[show((p.length:Int)).toNat=p.length by omega,List.drop_left' rfl,show((p.length:Int)+m.length).toNat - p.length=m.length by omega,List.take_left' rfl]
theorem Oq (b:Blk):b.text=181::(if b.raw then(0:UInt8) else 1)::(two b.num++(two b.size++(two b.body.length++(b.body++two (sumOf b.inner))))):=by
 simp [Blk.text,Blk.inner]
theorem nX (n:Int):(two n).length=2:=rfl
theorem Blk.RS {b:Blk}(h:b.ok=true):0≤b.num∧b.num<40∧1≤b.size∧b.size≤64∧1≤b.body.length∧b.body.length≤64:=by
 have h2:=Blk.KO h;simp only[Blk.ok,decide_eq_true_eq] at h;exact⟨h.1,h.2.1,h.2.2.1,h.2.2.2.1,h2.1,h2.2⟩
theorem Yj {b:Blk}(h:b.ok=true)(p s:Bs)(a:Int)(ha:a=p.length):
 yM (p++(b.text++s)) a=true∧xq (p++(b.text++s)) a=b∧yT (p++(b.text++s)) a=p.length+b.text.length:=by
 have hb:=Blk.RS h;obtain⟨hn0,hn1,hs0,hs1,hl0,hl1⟩:=hb;have hsum:=uH b.inner;generalize hK:(if b.raw then(0:UInt8) else 1)=K;have hF:b.text=181::K::(two b.num++(two b.size++(two b.body.length++(b.body++two (sumOf b.inner))))):=(by rw[←hK];exact Oq b);have hlen:=b.lJ;generalize hL:p++(b.text++s)=l;have hll:l.length=p.length+(10+b.body.length)+s.length:=(by rw[←hL];simp [hlen];omega);have b0:byteAt l a=181:=by
  rw[←hL,hF,show p++((181::K::(two b.num++(two b.size++(two b.body.length++(b.body++two (sumOf b.inner))))))++s)=p++181::(K::(two b.num++(two b.size++(two b.body.length++(b.body++two (sumOf b.inner)))))++s) by simp,pG _ _ _ _ ha];rfl
 have b1:byteAt l (a+1)=K.toNat:=by
  rw[←hL,hF,show p++((181::K::(two b.num++(two b.size++(two b.body.length++(b.body++two (sumOf b.inner))))))++s)=(p++[181])++K::((two b.num++(two b.size++(two b.body.length++(b.body++two (sumOf b.inner)))))++s) by simp,pG _ _ _ _ (by simp;omega)]
 have n2:numAt l (a+2)=b.num:=by
  rw[←hL,hF,show p++((181::K::(two b.num++(two b.size++(two b.body.length++(b.body++two (sumOf b.inner))))))++s)=(p++[181,K])++(two b.num++((two b.size++(two b.body.length++(b.body++two (sumOf b.inner))))++s)) by simp,ja _ _ _ _ (by simp;omega) (by omega) (by omega)]
 have n4:numAt l (a+4)=b.size:=by
  rw[←hL,hF,show p++((181::K::(two b.num++(two b.size++(two b.body.length++(b.body++two (sumOf b.inner))))))++s)=(p++([181,K]++two b.num))++(two b.size++((two b.body.length++(b.body++two (sumOf b.inner)))++s)) by simp,ja _ _ _ _ (by simp [nX];omega) (by omega) (by omega)]
 have n6:numAt l (a+6)=b.body.length:=by
  rw[←hL,hF,show p++((181::K::(two b.num++(two b.size++(two b.body.length++(b.body++two (sumOf b.inner))))))++s)=(p++([181,K]++(two b.num++two b.size)))++(two b.body.length++((b.body++two (sumOf b.inner))++s)) by simp,ja _ _ _ _ (by simp [nX];omega) (by omega) (by omega)]
 have c8:cutAt l (a+8) (a+8+b.body.length)=b.body:=by
  rw[←hL,hF,show p++((181::K::(two b.num++(two b.size++(two b.body.length++(b.body++two (sumOf b.inner))))))++s)=(p++([181,K]++(two b.num++(two b.size++two b.body.length))))++(b.body++(two (sumOf b.inner)++s)) by simp,XF _ _ _ _ _ (by simp [nX];omega) (by simp [nX];omega)]
 have he:yT l a=a+10+b.body.length:=(by unfold yT;rw[n6];omega);have ci:cutAt l (a+1) (yT l a - 2)=b.inner:=by
  rw[he,←hL,show p++(b.text++s)=(p++[181])++(b.inner++(two (sumOf b.inner)++s)) by simp [Blk.text]];exact XF _ _ _ _ _ (by simp;omega) (by simp [b.dW];omega)
 have ns:numAt l (yT l a - 2)=sumOf b.inner:=by
  rw[he,←hL,show p++(b.text++s)=(p++([181]++b.inner))++(two (sumOf b.inner)++s) by simp [Blk.text]];exact ja _ _ _ _ (by simp [b.dW];omega) (by omega) (by omega)
 have hB:xq l a=b:=by
  unfold xq;rw[n2,n4,n6,b1,c8];obtain⟨num,raw,size,body⟩:=b;simp only at hK⊢;subst hK
  cases raw<;>rfl
 refine⟨?_,hB,by rw[he,hlen];omega⟩;unfold yM uQ;rw[hB,ci,ns,h,b0,b1];simp only[decide_true,Bool.and_true,Bool.true_and,Bool.and_eq_true,decide_eq_true_eq];refine⟨⟨by omega,by rw[←hK];split<;>decide⟩,by omega⟩
def wQ (bs:List Blk):Bs:=(bs.map Blk.text).flatten
theorem oV (b:Blk)(bs:List Blk):wQ (b::bs)=b.text++wQ bs:=rfl
theorem dK (bs:List Blk)(b:Blk):wQ (bs++[b])=wQ bs++b.text:=by simp [wQ]
theorem Qr (bs:List Blk):10*bs.length≤(wQ bs).length:=by
 induction bs with
 |nil=>simp [wQ]
 |cons b bs ih=>rw[oV,List.length_append,b.lJ,List.length_cons];omega
theorem fC (bs:List Blk)(b:Blk):zn (bs++[b])=zn bs+b.size:=by unfold zn;rw[List.foldl_append];rfl
theorem rD (b:Blk)(bs:List Blk):zn (b::bs)=b.size+zn bs:=by
 induction bs using y5 with
 |h0=>simp [zn]
 |h1 bs c ih=>rw[←List.cons_append,fC,fC,ih];omega
def pX (n:Nat):List Blk→Prop
 |[]=>True
 |b::bs=>b.ok=true∧b.num=n∧pX (n+1) bs
theorem gu (l:Bs):∀(bs:List Blk) (m:Nat) (p:Bs) (acc:List Blk),pX acc.length bs→l=p++wQ bs→bs.length<m→
 y8 l m p.length acc=if zn (acc++bs)≤2000 then some (acc++bs) else none
 |[],m+1,p,acc,_,hl,_=>by
  unfold y8;rw[if_pos (by rw[hl];simp [wQ]),List.append_nil]
 |b::bs,m+1,p,acc,⟨hok,hnum,hn⟩,hl,hm=>by
  have hl2:l=p++(b.text++wQ bs):=(by rw[hl,oV]);obtain⟨h1,h2,h3⟩:=Yj hok p (wQ bs) p.length rfl;rw[←hl2] at h1 h2 h3;have hpos:¬(l.length:Int)≤p.length:=(by rw[hl2];simp [b.lJ];omega);unfold y8;rw[if_neg hpos,if_pos ⟨h1,by rw[h2,hnum]⟩,h2,h3];have:=gu l bs m (p++b.text) (acc++[b]) (by simpa using hn) (by rw[hl2];simp) (by simp at hm;omega);rw[show((p++b.text).length:Int)=(p.length:Int)+b.text.length by simp] at this;rw[this];simp
theorem aO {bs:List Blk}(h:pX 0 bs)(hs:zn bs≤2000):zT (wQ bs)=some bs:=by
 unfold zT;have:=gu (wQ bs) bs ((wQ bs).length+1) [] [] (by simpa using h) (by simp) (by have:=Qr bs;omega);simp only[List.length_nil,List.nil_append] at this;rw[show((0:Int))=((0:Nat):Int) from rfl,this,if_pos hs]
theorem Tc {bs:List Blk}{b:Blk}{n:Nat}(h:pX n bs)(hb:b.ok=true)(hn:b.num=((n+bs.length:Nat):Int)):pX n (bs++[b]):=by
 induction bs generalizing n with
 |nil=>exact⟨hb,by simpa using hn,trivial⟩
 |cons c bs ih=>
  obtain⟨h1,h2,h3⟩:=h;exact⟨h1,h2,ih h3 (by rw[hn,List.length_cons];congr 1;omega)⟩
theorem kD {bs:List Blk}{n:Nat}(h:pX n bs)(i:Nat)(hi:i<bs.length):bs[i].ok=true∧bs[i].num=((n+i:Nat):Int):=by
 induction bs generalizing n i with
 |nil=>simp at hi
 |cons c bs ih=>
  obtain⟨h1,h2,h3⟩:=h
  cases i with
  |zero=>exact⟨h1,by simpa using h2⟩
  |succ i=>
   have hi2:i<bs.length:=(by simpa using hi);have:=ih h3 i hi2;refine⟨this.1,?_⟩;show(bs[i]'hi2).num=_;rw[this.2];congr 1;omega
theorem jA (l:Bs):∀(m:Nat) (a:Nat) (acc bs:List Blk),pX 0 acc→wQ acc=l.take a→a≤l.length→y8 l m a acc=some bs→pX 0 bs∧wQ bs=l∧zn bs≤2000
 |0,_,_,_,_,_,_,h=>by unfold y8 at h;cases h
 |m+1,a,acc,bs,hn,hc,ha,h=>by
  unfold y8 at h;split at h
  case isTrue h1=>
   split at h
   case isTrue h2=>
    injection h with h
    subst h;exact⟨hn,by rw[hc,List.take_of_length_le (by omega)],h2⟩
   case isFalse=>cases h
  case isFalse h1=>
   split at h
   case isTrue h2=>
    obtain⟨hp,hq⟩:=h2;obtain⟨p1,p2,p3,p4⟩:=eu hp;have ht:=Rf hp;obtain⟨e,he⟩:=Int.eq_ofNat_of_zero_le (by omega:0≤yT l a);rw[he] at h ht p2 p3;refine jA l m e _ bs (Tc hn p4 (by rw[hq];simp)) ?_ (by omega) h;rw[dK,hc,ht];unfold cutAt;simp only[Int.toNat_natCast];rw[show l.take e=l.take (a+(e - a)) by congr 1;omega,List.take_add]
   case isFalse=>cases h
theorem lI {l:Bs}{bs:List Blk}(h:zT l=some bs):pX 0 bs∧wQ bs=l∧zn bs≤2000:=
 jA l _ 0 [] bs trivial (by simp [wQ]) (by omega) h
theorem Vs {b:Blk}(h:b.ok=true):b.text.length≤74:=by
 have:=Blk.RS h;rw[b.lJ];omega
theorem PE {bs:List Blk}(h:pX 0 bs):bs.length≤40:=by
 rcases Nat.lt_or_ge 40 bs.length with hlt|hge
 ·have:=kD h 40 hlt
  have h2:=(Blk.RS this.1).2.1;rw[this.2] at h2;omega
 ·exact hge
theorem Lh (bs:List Blk)(h:∀b ∈ bs,b.ok=true):(wQ bs).length≤74*bs.length:=by
 induction bs with
 |nil=>simp [wQ]
 |cons b bs ih=>
  rw[oV,List.length_append,List.length_cons];have h1:=Vs (h b (by simp));have h2:=ih (fun c hc=>h c (by simp [hc]));omega
theorem eQ {bs:List Blk}{n:Nat}(h:pX n bs):∀b ∈ bs,b.ok=true:=by
 intro b hb;obtain⟨i,hi,rfl⟩:=List.getElem_of_mem hb;exact(kD h i hi).1
theorem xN {l:Bs}{bs:List Blk}(h:zT l=some bs):l.length≤2960∧bs.length≤40:=by
 obtain⟨h1,rfl,h3⟩:=lI h;have h4:=PE h1;have h5:=Lh bs (eQ h1);omega
theorem TG {l:Bs}{a:Int}(h0:0≤a)(hl:l.length≤8000)(h:yM l a=true):bn l a=a:=by
 have hp:=eu h;unfold bn;rw[if_pos ⟨hl,h0⟩,show(l.length - a).toNat=(l.length - a - 1).toNat+1 by omega];unfold Rx;rw[if_pos h]
theorem Q5 {l:Bs}{a:Int}(h:(l.length:Int)≤a):bn l a= -1:=by
 unfold bn;split
 ·rw[show(l.length - a).toNat=0 by omega];rfl
 ·rfl
def jO :Nat→List Blk→List (Int×Blk)
 |_,[]=>[]
 |a,b::bs=>((a:Int),b)::jO (a+b.text.length) bs
theorem YC (l:Bs)(hl:l.length≤8000):∀(bs:List Blk) (m:Nat) (p:Bs),(∀b ∈ bs,b.ok=true)→l=p++wQ bs→bs.length<m→
 Vp l m (bn l p.length)=jO p.length bs
 |[],m+1,p,_,he,_=>by
  have:bn l p.length= -1:=Q5 (by rw[he];simp [wQ]);rw[this];rfl
 |b::bs,m+1,p,hok,he,hm=>by
  have hl2:l=p++(b.text++wQ bs):=(by rw[he,oV]);obtain⟨h1,h2,h3⟩:=Yj (hok b (by simp)) p (wQ bs) p.length rfl;rw[←hl2] at h1 h2 h3;rw[TG (by omega) hl h1];unfold Vp;rw[if_pos (by omega),h2,h3];have:=YC l hl bs m (p++b.text) (fun c hc=>hok c (by simp [hc])) (by rw[hl2];simp) (by simp at hm;omega);rw[show((p++b.text).length:Int)=(p.length:Int)+b.text.length by simp] at this;rw[this];simp [jO]
theorem MG {bs:List Blk}(h:∀b ∈ bs,b.ok=true)(hl:(wQ bs).length≤8000):fV (wQ bs)=jO 0 bs:=by
 unfold fV;have:=YC (wQ bs) hl bs ((wQ bs).length+1) [] h (by simp) (by have:=Qr bs;omega);simpa using this
theorem jm :∀(bs:List Blk) (a:Nat) (n:Int),jQ (jO a bs) n=bs.find? fun b=>decide (b.num=n)
 |[],_,_=>rfl
 |b::bs,a,n=>by
  have ih:=jm bs (a+b.text.length) n;unfold jQ at*;unfold jO;rw[List.find?_cons,List.find?_cons];by_cases h:b.num=n
  ·simp [h]
  ·simp only[h,decide_false]
   exact ih
deriving instance DecidableEq for Blk
def Zb (bs:List Blk)(fs:List (Int×Blk)):List Int:=(bs.filter fun b=>decide (jQ fs b.num=some b)).map (·.num)
theorem TL (bs:List Blk)(b:Blk)(fs:List (Int×Blk)):Zb (bs++[b]) fs=Zb bs fs++(if jQ fs b.num=some b then[b.num] else[]):=by
 unfold Zb;rw[List.filter_append,List.map_append];by_cases h:jQ fs b.num=some b<;>simp [h]
def L9 (l d:Bs):List Int:=match zT l with
 |some bs=>Zb bs (fV d)
 |none=>[]
end Go.Proofs.YtfppmajoidkooaaGreatDoor
namespace Go.Proofs.YtfppmajoidkooaaGreatDoor
open Go.RowKit
structure Jd (bs : List Blk) (n : Nat) (fs : List (Int × Blk)) : Prop where
 len : fs.length + 1 = bs.length
 at_ : ∀ (i : Nat) (h : i < fs.length), fs[i].1 = ((wQ (bs.take (if n ≤ i then i + 1 else i))).length : Int)
 Ja : (Zb bs fs).length = fs.length
end Go.Proofs.YtfppmajoidkooaaGreatDoor
namespace Go.Proofs.YtfppmajoidkooaaGreatDoor
def Rj (fs:List (Int×Blk)):Nat→Nat
 |0=>0
 |k+1=>Rj fs k+if(jQ fs (k:Int)).isSome=true then 1 else 0
structure Je (l x : Bs) (par : List Bs) (n : Nat) (bs : List Blk) : Prop where
 blk : zT x = some bs
 len : bs.length = n
 Ja : ∀ k, k ≤ n → (Zb (bs.take k) (fV l)).length = Rj (fV l) k
 lost : n ≤ Rj (fV l) n + par.length
end Go.Proofs.YtfppmajoidkooaaGreatDoor
