import Derived.Test.YtoedhpcmgondjaaGreatDoorYGA
set_option linter.all false
namespace Go.Proofs.YtoedhpcmgondjaaGreatDoor
def Blk.inner (b:Blk):Bs:=(if b.raw then 0 else 1)::(two b.num++two b.size++two b.body.length++b.body)
def Blk.text (b:Blk):Bs:=181::(b.inner++two (sumOf b.inner))
theorem Blk.ai (b:Blk):b.inner.length=7+b.body.length:=by simp [Blk.inner,two];omega
theorem Blk.kZ (b:Blk):b.text.length=10+b.body.length:=by simp [Blk.text,b.ai,two];omega
theorem Blk.JV {b:Blk}(h:b.ok=true):1≤b.body.length∧b.body.length≤64:=by
 simp only[Blk.ok,decide_eq_true_eq] at h;obtain⟨_,_,h1,h2,a⟩:=h;split at a<;>omega
def cutAt (l:Bs)(i j:Int):Bs:=(l.drop i.toNat).take (j.toNat - i.toNat)
def xK (l:Bs)(a:Int):Blk:=⟨numAt l (a+2),decide (byteAt l (a+1)=0),numAt l (a+4),cutAt l (a+8) (a+8+numAt l (a+6))⟩
def xm (l:Bs)(a:Int):Int:=a+8+numAt l (a+6)+2
def sH (l:Bs)(a:Int):Bool:=decide (0≤a∧a+10≤l.length)&&(decide (byteAt l a=181)&&decide (byteAt l (a+1)≤1))
def yX (l:Bs)(a:Int):Bool:=sH l a&&(decide (xm l a≤l.length)&&((xK l a).ok&&decide (sumOf (cutAt l (a+1) (xm l a - 2))=numAt l (xm l a - 2))))
theorem ZH (l:Bs)(i:Int)(h0:0≤i)(h1:i+2≤l.length):two (numAt l i)=cutAt l i (i+2):=by
 obtain⟨k,rfl⟩:=Int.eq_ofNat_of_zero_le h0;have hk:k+1<l.length:=oo;unfold cutAt;rw[show((k:Int)+2).toNat - (k:Int).toNat=2 by omega,Int.toNat_natCast,List.drop_eq_getElem_cons (by omega:k<l.length),List.drop_eq_getElem_cons hk];simp only[List.take_succ_cons,List.take_zero];unfold two numAt;have e:((k:Int)+1)=((k+1:Nat):Int):=oo;rw[e,yh l k (by omega),yh l (k+1) hk];have h2:=l[k].toNat_lt;have a:=l[k+1].toNat_lt;congr 1
 ·apply UInt8.toNat_inj.1
  rw[UInt8.toNat_ofNat'];omega
 ·congr 1
  apply UInt8.toNat_inj.1;rw[UInt8.toNat_ofNat'];omega
theorem NL (l:Bs)(i j:Int)(h0:0≤i)(h1:i≤j)(h2:j≤l.length):((cutAt l i j).length:Int)=j - i:=by
 unfold cutAt;simp;omega
theorem uP (l:Bs)(i j k:Int)(h0:0≤i)(h1:i≤j)(h2:j≤k):cutAt l i j++cutAt l j k=cutAt l i k:=by
 unfold cutAt;have e:l.drop j.toNat=(l.drop i.toNat).drop (j.toNat - i.toNat):=(by rw[List.drop_drop];congr 1;omega);rw[e];generalize l.drop i.toNat=m;have:k.toNat - i.toNat=(j.toNat - i.toNat)+(k.toNat - j.toNat):=oo;rw[this,List.take_add]
theorem XM (l:Bs)(i:Int)(h0:0≤i)(h1:i<l.length):cutAt l i (i+1)=[UInt8.ofNat (byteAt l i).toNat]:=by
 obtain⟨k,rfl⟩:=Int.eq_ofNat_of_zero_le h0;unfold cutAt;rw[show((k:Int)+1).toNat - (k:Int).toNat=1 by omega,Int.toNat_natCast,List.drop_eq_getElem_cons (by omega:k<l.length)];simp only[List.take_succ_cons,List.take_zero];rw[yh l k (by omega)];simp
theorem ML {l:Bs}{a:Int}(b:sH l a=true)(i:xm l a≤l.length):(xK l a).inner=cutAt l (a+1) (xm l a - 2):=by
 simp only[sH,Bool.and_eq_true,decide_eq_true_eq] at b;obtain⟨⟨h0,h1⟩,h2,j⟩:=b;have k:=xQ l (a+6);unfold xm at*;have c:cutAt l (a+1) (a+2)=[if decide (byteAt l (a+1)=0)=true then 0 else 1]:=by
  rw[show a+2=a+1+1 by omega,XM l (a+1) (by omega) (by omega)];have m:=zQ l (a+1);by_cases d:byteAt l (a+1)=0
  ·rw[d];simp
  ·have:byteAt l (a+1)=1:=oo
   rw[this];simp
 have e:=ZH l (a+2) oo oo;have f:=ZH l (a+4) oo oo;have g:=ZH l (a+6) oo oo;have h:(((xK l a).body.length:Nat):Int)=numAt l (a+6):=by
  show(((cutAt l (a+8) (a+8+numAt l (a+6))).length:Nat):Int)=_;rw[NL _ _ _ (by omega) (by omega) (by omega)];omega
 unfold Blk.inner;rw[h];show(if decide (byteAt l (a+1)=0)=true then 0 else 1)::(two (numAt l (a+2))++two (numAt l (a+4))++two (numAt l (a+6))++cutAt l (a+8) (a+8+numAt l (a+6)))=_;rw[e,f,g];rw[show a+2+2=a+4 by omega,show a+4+2=a+6 by omega,show a+6+2=a+8 by omega];rw[uP _ _ _ _ (by omega) (by omega) (by omega),uP _ _ _ _ (by omega) (by omega) (by omega),uP _ _ _ _ (by omega) (by omega) (by omega)];rw[show ∀(x:UInt8) (r:Bs),x::r=[x]++r from fun _ _=>rfl,←c,uP _ _ _ _ (by omega) (by omega) (by omega)];congr 1;omega
theorem Jp {a b:Int}(c:0≤a∧a<65536)(d:0≤b∧b<65536)(h:two a=two b):a=b:=by
 unfold two at h;injection h with h1 h2
 injection h2 with h2 _
 have h1:=congrArg UInt8.toNat h1;have h2:=congrArg UInt8.toNat h2;simp only[UInt8.toNat_ofNat'] at h1 h2;omega
theorem PI {l:Bs}{a:Int}(b:sH l a=true)(d:xm l a≤l.length):((xK l a).text=cutAt l a (xm l a))↔sumOf (cutAt l (a+1) (xm l a - 2))=numAt l (xm l a - 2):=by
 have e:=ML b d;simp only[sH,Bool.and_eq_true,decide_eq_true_eq] at b;obtain⟨⟨h0,h1⟩,h2,i⟩:=b;have j:=xQ l (a+6);have k:xm l a=a+8+numAt l (a+6)+2:=rfl;unfold Blk.text;rw[e];have f:cutAt l a (a+1)=[181]:=(by rw[XM l a h0 (by omega),h2];rfl);have c:=ZH l (xm l a - 2) oo oo;rw[show xm l a - 2+2=xm l a by omega] at c;have g:cutAt l a (xm l a)=181::(cutAt l (a+1) (xm l a - 2)++two (numAt l (xm l a - 2))):=by
  rw[c,uP _ _ _ _ (by omega) (by omega) (by omega)];rw[show ∀(x:UInt8) (r:Bs),x::r=[x]++r from fun _ _=>rfl,←f,uP _ _ _ _ (by omega) (by omega) (by omega)]
 rw[g];constructor
 ·intro h
  injection h with _ h
  have h:=List.append_cancel_left h;exact Jp (tq _) (by have:=xQ l (xm l a - 2);omega) h
 ·intro h;rw[h]
theorem Qs {l:Bs}{a:Int}(h:yX l a=true):(xK l a).text=cutAt l a (xm l a):=by
 simp only[yX,Bool.and_eq_true,decide_eq_true_eq] at h;exact(PI h.1 h.2.1).2 h.2.2.2
theorem dK {l:Bs}{a:Int}(h:yX l a=true):0≤a∧a+10≤xm l a∧xm l a≤l.length∧(xK l a).ok=true:=by
 simp only[yX,sH,Bool.and_eq_true,decide_eq_true_eq] at h;have b:=xQ l (a+6);have c:xm l a=a+8+numAt l (a+6)+2:=rfl;exact⟨h.1.1.1,oo,h.2.1,h.2.2.1⟩
def Qv (l:Bs):Nat→Int→Int
 |0,_=> -1
 |n+1,a=>if yX l a=true then a else Qv l n (a+1)
def aH (l:Bs)(a:Int):Int:=if l.length≤8000∧0≤a then Qv l (l.length - a).toNat a else -1
def Vk (l:Bs):Nat→Int→List (Int×Blk)
 |0,_=>[]
 |n+1,a=>if 0≤a then(a,xK l a)::Vk l n (aH l (xm l a)) else[]
def dM (l:Bs):List (Int×Blk):=Vk l (l.length+1) (aH l 0)
def zo (a:List Blk):Int:=a.foldl (fun n b=>n+b.size) 0
def xA (l:Bs):Nat→Int→List Blk→Option (List Blk)
 |0,_,_=>none
 |n+1,a,b=>if(l.length:Int)≤a then(if zo b≤2000 then some b else none) else
  if yX l a=true∧(xK l a).num=b.length then xA l n (xm l a) (b++[xK l a]) else none
def zX (l:Bs):Option (List Blk):=xA l (l.length+1) 0 []
def fD (fs:List (Int×Blk))(n:Int):Option Blk:=(fs.find? fun f=>decide (f.2.num=n)).map (·.2)
theorem Ql (p t:Bs)(k:Nat):byteAt (p++t) ((p.length:Int)+k)=byteAt t k:=by
 unfold byteAt;rw[show((p.length:Int)+k).toNat=p.length+k by omega,show((k:Int)).toNat=k by omega,List.getElem?_append_right (by omega),Nat.add_sub_cancel_left]
theorem oP (p s:Bs)(c:UInt8)(a:Int)(h:a=p.length):byteAt (p++c::s) a=c.toNat:=by
 subst h;have:=Ql p (c::s) 0;simp at this;rw[this];simp [byteAt]
theorem jJ (p s:Bs)(n a:Int)(h:a=p.length)(h0:0≤n)(h1:n<65536):numAt (p++(two n++s)) a=n:=by
 unfold numAt;have b:p++(two n++s)=p++UInt8.ofNat (n / 256 % 256).toNat::(UInt8.ofNat (n % 256).toNat::s):=rfl;have c:p++(two n++s)=(p++[UInt8.ofNat (n / 256 % 256).toNat])++UInt8.ofNat (n % 256).toNat::s:=(by simp [two]);have d:byteAt (p++(two n++s)) (a+1)=((UInt8.ofNat (n % 256).toNat).toNat:Int):=by
  rw[c];exact oP _ _ _ _ (by subst h;simp)
 have e:byteAt (p++(two n++s)) a=((UInt8.ofNat (n / 256 % 256).toNat).toNat:Int):=by
  rw[b];exact oP _ _ _ _ h
 rw[d,e];simp only[UInt8.toNat_ofNat'];omega
theorem XK (p m s:Bs)(i j:Int)(a:i=p.length)(b:j=p.length+m.length):cutAt (p++(m++s)) i j=m:=by
 subst a b;unfold cutAt;rw[show((p.length:Int)).toNat=p.length by omega,List.drop_left' rfl,show((p.length:Int)+m.length).toNat - p.length=m.length by omega,List.take_left' rfl]
theorem NU (b:Blk):b.text=181::(if b.raw then(0:UInt8) else 1)::(two b.num++(two b.size++(two b.body.length++(b.body++two (sumOf b.inner))))):=by
 simp [Blk.text,Blk.inner]
theorem mW (n:Int):(two n).length=2:=rfl
theorem Blk.QS {b:Blk}(h:b.ok=true):0≤b.num∧b.num<40∧1≤b.size∧b.size≤64∧1≤b.body.length∧b.body.length≤64:=by
 have h2:=Blk.JV h;simp only[Blk.ok,decide_eq_true_eq] at h;exact⟨h.1,h.2.1,h.2.2.1,h.2.2.2.1,h2.1,h2.2⟩
theorem Xb {b:Blk}(h:b.ok=true)(p s:Bs)(a:Int)(m:a=p.length):
 yX (p++(b.text++s)) a=true∧xK (p++(b.text++s)) a=b∧xm (p++(b.text++s)) a=p.length+b.text.length:=by
 have n:=Blk.QS h;obtain⟨x,y,z,A,B,C⟩:=n;have D:=tq b.inner;generalize e:(if b.raw then(0:UInt8) else 1)=K;have d:b.text=181::K::(two b.num++(two b.size++(two b.body.length++(b.body++two (sumOf b.inner))))):=(by rw[←e];exact NU b);have g:=b.kZ;generalize c:p++(b.text++s)=l;have E:l.length=p.length+(10+b.body.length)+s.length:=(by rw[←c];simp [g];omega);have o:byteAt l a=181:=by
  rw[←c,d,show p++((181::K::(two b.num++(two b.size++(two b.body.length++(b.body++two (sumOf b.inner))))))++s)=p++181::(K::(two b.num++(two b.size++(two b.body.length++(b.body++two (sumOf b.inner)))))++s) by simp,oP _ _ _ _ m];rfl
 have i:byteAt l (a+1)=K.toNat:=by
  rw[←c,d,show p++((181::K::(two b.num++(two b.size++(two b.body.length++(b.body++two (sumOf b.inner))))))++s)=(p++[181])++K::((two b.num++(two b.size++(two b.body.length++(b.body++two (sumOf b.inner)))))++s) by simp,oP _ _ _ _ (by simp;omega)]
 have q:numAt l (a+2)=b.num:=by
  rw[←c,d,show p++((181::K::(two b.num++(two b.size++(two b.body.length++(b.body++two (sumOf b.inner))))))++s)=(p++[181,K])++(two b.num++((two b.size++(two b.body.length++(b.body++two (sumOf b.inner))))++s)) by simp,jJ _ _ _ _ (by simp;omega) (by omega) (by omega)]
 have r:numAt l (a+4)=b.size:=by
  rw[←c,d,show p++((181::K::(two b.num++(two b.size++(two b.body.length++(b.body++two (sumOf b.inner))))))++s)=(p++([181,K]++two b.num))++(two b.size++((two b.body.length++(b.body++two (sumOf b.inner)))++s)) by simp,jJ _ _ _ _ (by simp [mW];omega) (by omega) (by omega)]
 have j:numAt l (a+6)=b.body.length:=by
  rw[←c,d,show p++((181::K::(two b.num++(two b.size++(two b.body.length++(b.body++two (sumOf b.inner))))))++s)=(p++([181,K]++(two b.num++two b.size)))++(two b.body.length++((b.body++two (sumOf b.inner))++s)) by simp,jJ _ _ _ _ (by simp [mW];omega) (by omega) (by omega)]
 have t:cutAt l (a+8) (a+8+b.body.length)=b.body:=by
  rw[←c,d,show p++((181::K::(two b.num++(two b.size++(two b.body.length++(b.body++two (sumOf b.inner))))))++s)=(p++([181,K]++(two b.num++(two b.size++two b.body.length))))++(b.body++(two (sumOf b.inner)++s)) by simp,XK _ _ _ _ _ (by simp [mW];omega) (by simp [mW];omega)]
 have f:xm l a=a+10+b.body.length:=(by unfold xm;rw[j];omega);have u:cutAt l (a+1) (xm l a - 2)=b.inner:=by
  rw[f,←c,show p++(b.text++s)=(p++[181])++(b.inner++(two (sumOf b.inner)++s)) by simp [Blk.text]];exact XK _ _ _ _ _ (by simp;omega) (by simp [b.ai];omega)
 have v:numAt l (xm l a - 2)=sumOf b.inner:=by
  rw[f,←c,show p++(b.text++s)=(p++([181]++b.inner))++(two (sumOf b.inner)++s) by simp [Blk.text]];exact jJ _ _ _ _ (by simp [b.ai];omega) (by omega) (by omega)
 have k:xK l a=b:=by
  unfold xK;rw[q,r,j,i,t];obtain⟨num,w,size,F⟩:=b;simp only at e⊢;subst e
  cases w<;>rfl
 refine⟨?_,k,by rw[f,g];omega⟩;unfold yX sH;rw[k,u,v,h,o,i];simp only[decide_true,Bool.and_true,Bool.true_and,Bool.and_eq_true,decide_eq_true_eq];refine⟨⟨by omega,by rw[←e];split<;>decide⟩,by omega⟩
def vJ (a:List Blk):Bs:=(a.map Blk.text).flatten
theorem nT (b:Blk)(a:List Blk):vJ (b::a)=b.text++vJ a:=rfl
theorem az (a:List Blk)(b:Blk):vJ (a++[b])=vJ a++b.text:=by simp [vJ]
theorem Pq (a:List Blk):10*a.length≤(vJ a).length:=by
 induction a with
 |nil=>simp [vJ]
 |cons b a c=>rw[nT,List.length_append,b.kZ,List.length_cons];omega
theorem fO (a:List Blk)(b:Blk):zo (a++[b])=zo a+b.size:=by unfold zo;rw[List.foldl_append];rfl
theorem ql (b:Blk)(a:List Blk):zo (b::a)=b.size+zo a:=by
 induction a using xx with
 |h0=>simp [zo]
 |h1 a c d=>rw[←List.cons_append,fO,fO,d];omega
def oI (n:Nat):List Blk→Prop
 |[]=>True
 |b::a=>b.ok=true∧b.num=n∧oI (n+1) a
theorem dW (l:Bs):∀(a:List Blk) (m:Nat) (p:Bs) (c:List Blk),oI c.length a→l=p++vJ a→a.length<m→
 xA l m p.length c=if zo (c++a)≤2000 then some (c++a) else none
 |[],m+1,p,c,_,d,_=>by
  unfold xA;rw[if_pos (by rw[d];simp [vJ]),List.append_nil]
 |b::a,m+1,p,c,⟨g,h,i⟩,d,j=>by
  have e:l=p++(b.text++vJ a):=(by rw[d,nT]);obtain⟨h1,h2,f⟩:=Xb g p (vJ a) p.length rfl;rw[←e] at h1 h2 f;have k:¬(l.length:Int)≤p.length:=(by rw[e];simp [b.kZ];omega);unfold xA;rw[if_neg k,if_pos ⟨h1,by rw[h2,h]⟩,h2,f];have:=dW l a m (p++b.text) (c++[b]) (by simpa using i) (by rw[e];simp) (by simp at j;omega);rw[show((p++b.text).length:Int)=(p.length:Int)+b.text.length by simp] at this;rw[this];simp
theorem ZX {a:List Blk}(h:oI 0 a)(b:zo a≤2000):zX (vJ a)=some a:=by
 unfold zX;have:=dW (vJ a) a ((vJ a).length+1) [] [] (by simpa using h) (by simp) (by have:=Pq a;omega);simp only[List.length_nil,List.nil_append] at this;rw[show((0:Int))=((0:Nat):Int) from rfl,this,if_pos b]
theorem QV {a:List Blk}{b:Blk}{n:Nat}(h:oI n a)(e:b.ok=true)(d:b.num=((n+a.length:Nat):Int)):oI n (a++[b]):=by
 induction a generalizing n with
 |nil=>exact⟨e,by simpa using d,trivial⟩
 |cons c a f=>
  obtain⟨h1,h2,g⟩:=h;exact⟨h1,h2,f g (by rw[d,List.length_cons];congr 1;omega)⟩
theorem kN {a:List Blk}{n:Nat}(h:oI n a)(i:Nat)(b:i<a.length):a[i].ok=true∧a[i].num=((n+i:Nat):Int):=by
 induction a generalizing n i with
 |nil=>simp at b
 |cons c a e=>
  obtain⟨h1,h2,f⟩:=h
  cases i with
  |zero=>exact⟨h1,by simpa using h2⟩
  |succ i=>
   have d:i<a.length:=(by simpa using b);have:=e f i d;refine⟨this.1,?_⟩;show(a[i]'d).num=_;rw[this.2];congr 1;omega
theorem jW (l:Bs):∀(m:Nat) (a:Nat) (c b:List Blk),oI 0 c→vJ c=l.take a→a≤l.length→xA l m a c=some b→oI 0 b∧vJ b=l∧zo b≤2000
 |0,_,_,_,_,_,_,h=>by unfold xA at h;cases h
 |m+1,a,c,b,d,f,q,h=>by
  unfold xA at h;split at h
  case isTrue h1=>
   split at h
   case isTrue h2=>
    injection h with h
    subst h;exact⟨d,by rw[f,List.take_of_length_le (by omega)],h2⟩
   case isFalse=>cases h
  case isFalse h1=>
   split at h
   case isTrue h2=>
    obtain⟨g,j⟩:=h2;obtain⟨r,k,n,o⟩:=dK g;have i:=Qs g;obtain⟨e,p⟩:=Int.eq_ofNat_of_zero_le (by omega:0≤xm l a);rw[p] at h i k n;refine jW l m e _ b (QV d o (by rw[j];simp)) ?_ (by omega) h;rw[az,f,i];unfold cutAt;simp only[Int.toNat_natCast];rw[show l.take e=l.take (a+(e - a)) by congr 1;omega,List.take_add]
   case isFalse=>cases h
theorem kL {l:Bs}{a:List Blk}(h:zX l=some a):oI 0 a∧vJ a=l∧zo a≤2000:=
 jW l _ 0 [] a trivial (by simp [vJ]) (by omega) h
theorem WY {b:Blk}(h:b.ok=true):b.text.length≤74:=by
 have:=Blk.QS h;rw[b.kZ];omega
theorem Ou {a:List Blk}(h:oI 0 a):a.length≤40:=by
 rcases Nat.lt_or_ge 40 a.length with b|c
 ·have:=kN h 40 b
  have h2:=(Blk.QS this.1).2.1;rw[this.2] at h2;omega
 ·exact c
theorem Jo (a:List Blk)(h:∀b ∈ a,b.ok=true):(vJ a).length≤74*a.length:=by
 induction a with
 |nil=>simp [vJ]
 |cons b a d=>
  rw[nT,List.length_append,List.length_cons];have h1:=WY (h b (by simp));have h2:=d (fun c e=>h c (by simp [e]));omega
theorem aG {a:List Blk}{n:Nat}(h:oI n a):∀b ∈ a,b.ok=true:=by
 intro b c;obtain⟨i,d,rfl⟩:=List.getElem_of_mem c;exact(kN h i d).1
theorem xI {l:Bs}{a:List Blk}(h:zX l=some a):l.length≤2960∧a.length≤40:=by
 obtain⟨h1,rfl,b⟩:=kL h;have c:=Ou h1;have d:=Jo a (aG h1);omega
theorem RZ {l:Bs}{a:Int}(h0:0≤a)(b:l.length≤8000)(h:yX l a=true):aH l a=a:=by
 have c:=dK h;unfold aH;rw[if_pos ⟨b,h0⟩,show(l.length - a).toNat=(l.length - a - 1).toNat+1 by omega];unfold Qv;rw[if_pos h]
theorem O4 {l:Bs}{a:Int}(h:(l.length:Int)≤a):aH l a= -1:=by
 unfold aH;split
 ·rw[show(l.length - a).toNat=0 by omega];rfl
 ·rfl
def iY :Nat→List Blk→List (Int×Blk)
 |_,[]=>[]
 |a,b::c=>((a:Int),b)::iY (a+b.text.length) c
theorem Xa (l:Bs)(e:l.length≤8000):∀(a:List Blk) (m:Nat) (p:Bs),(∀b ∈ a,b.ok=true)→l=p++vJ a→a.length<m→
 Vk l m (aH l p.length)=iY p.length a
 |[],m+1,p,_,d,_=>by
  have:aH l p.length= -1:=O4 (by rw[d];simp [vJ]);rw[this];rfl
 |b::a,m+1,p,f,d,i=>by
  have g:l=p++(b.text++vJ a):=(by rw[d,nT]);obtain⟨h1,h2,h⟩:=Xb (f b (by simp)) p (vJ a) p.length rfl;rw[←g] at h1 h2 h;rw[RZ (by omega) e h1];unfold Vk;rw[if_pos (by omega),h2,h];have:=Xa l e a m (p++b.text) (fun c j=>f c (by simp [j])) (by rw[g];simp) (by simp at i;omega);rw[show((p++b.text).length:Int)=(p.length:Int)+b.text.length by simp] at this;rw[this];simp [iY]
theorem KN {a:List Blk}(h:∀b ∈ a,b.ok=true)(c:(vJ a).length≤8000):dM (vJ a)=iY 0 a:=by
 unfold dM;have:=Xa (vJ a) c a ((vJ a).length+1) [] h (by simp) (by have:=Pq a;omega);simpa using this
theorem jY :∀(c:List Blk) (a:Nat) (n:Int),fD (iY a c) n=c.find? fun b=>decide (b.num=n)
 |[],_,_=>rfl
 |b::c,a,n=>by
  have d:=jY c (a+b.text.length) n;unfold fD at*;unfold iY;rw[List.find?_cons,List.find?_cons];by_cases h:b.num=n
  ·simp [h]
  ·simp only[h,decide_false]
   exact d
deriving instance DecidableEq for Blk
def ZW (a:List Blk)(fs:List (Int×Blk)):List Int:=(a.filter fun b=>decide (fD fs b.num=some b)).map (·.num)
theorem SX (a:List Blk)(b:Blk)(fs:List (Int×Blk)):ZW (a++[b]) fs=ZW a fs++(if fD fs b.num=some b then[b.num] else[]):=by
 unfold ZW;rw[List.filter_append,List.map_append];by_cases h:fD fs b.num=some b<;>simp [h]
def JG (l d:Bs):List Int:=match zX l with
 |some a=>ZW a (dM d)
 |none=>[]
end Go.Proofs.YtoedhpcmgondjaaGreatDoor
namespace Go.Proofs.YtoedhpcmgondjaaGreatDoor
open Go.RowKit
def Zj :Bs→Int
 |[]=>0
 |c::l=>c.toNat+Zj l
theorem UM (l m:Bs):Zj (l++m)=Zj l+Zj m:=by
 induction l with
 |nil=>simp [Zj]
 |cons c l a=>simp only[List.cons_append,Zj,a];omega
theorem Ya :∀(l:Bs) (p:Int×Int),(l.foldl uV p).1 % 255=(p.1+Zj l) % 255
 |[],p=>by simp [Zj]
 |c::l,p=>by
  rw[List.foldl_cons,Ya l];simp only[uV,Zj];omega
theorem O5 (l m:Bs)(h:sumOf l=sumOf m):(Zj l - Zj m) % 255=0:=by
 have h1:=Ya l (0,0);have h2:=Ya m (0,0);have a:=eY l;have b:=eY m;unfold sumOf at h;unfold sumP at*;simp only at h1 h2;omega
theorem Qj (A C:Bs)(c d:UInt8)(h:sumOf (A++c::C)=sumOf (A++d::C)):((c.toNat:Int) - d.toNat) % 255=0:=by
 have:=O5 _ _ h;rw[UM,UM] at this;simp only[Zj] at this;rw[←this];congr 1;omega
theorem OL (t:Bs)(k:Nat)(c:UInt8)(hk:k<t.length):t.set k c=t.take k++c::t.drop (k+1):=by
 rw[List.set_eq_take_append_cons_drop,if_pos hk]
structure Io (bs : List Blk) (n : Nat) (fs : List (Int × Blk)) : Prop where
 len : fs.length + 1 = bs.length
 at_ : ∀ (i : Nat) (h : i < fs.length), fs[i].1 = ((vJ (bs.take (if n ≤ i then i + 1 else i))).length : Int)
 Ik : (ZW bs fs).length = fs.length
end Go.Proofs.YtoedhpcmgondjaaGreatDoor
namespace Go.Proofs.YtoedhpcmgondjaaGreatDoor
def RD (fs:List (Int×Blk)):Nat→Nat
 |0=>0
 |k+1=>RD fs k+if(fD fs (k:Int)).isSome=true then 1 else 0
structure Ip (l x : Bs) (par : List Bs) (n : Nat) (bs : List Blk) : Prop where
 blk : zX x = some bs
 len : bs.length = n
 Ik : ∀ k, k ≤ n → (ZW (bs.take k) (dM l)).length = RD (dM l) k
 lost : n ≤ RD (dM l) n + par.length
abbrev Pr :=Int×Int
def wAt (cl:Int)(a:List Bs)(c:Int):Bs:=if c<cl then[UInt8.ofNat c.toNat] else a.getD (c - cl - 2).toNat []
def words (cl:Int)(ps:List Pr):List Bs:=ps.foldl (fun a p=>a++[wAt cl a p.1++[UInt8.ofNat p.2.toNat]]) []
theorem lC (cl:Int)(ps:List Pr)(p:Pr):words cl (ps++[p])=words cl ps++[wAt cl (words cl ps) p.1++[UInt8.ofNat p.2.toNat]]:=by
 unfold words;rw[List.foldl_append];rfl
theorem wo (cl:Int)(ps:List Pr):(words cl ps).length=ps.length:=by
 induction ps using xx with
 |h0=>rfl
 |h1 ps p a=>rw[lC,List.length_append,a,List.length_append];rfl
def codeOk (cl:Int)(n:Nat)(c:Int):Prop:=(0≤c∧c<cl)∨(cl+1<c∧c≤cl+1+n)
instance (cl : Int) (n : Nat) (c : Int) : Decidable (codeOk cl n c) := by unfold codeOk; infer_instance
def YR (cl:Int)(ps:List Pr):Prop:=∀i (h:i<ps.length),codeOk cl i ps[i].1∧0≤ps[i].2∧ps[i].2<cl
theorem OX {cl:Int}{ps:List Pr}{p:Pr}(h:YR cl ps)(h1:codeOk cl ps.length p.1)(h2:0≤p.2)(b:p.2<cl):YR cl (ps++[p]):=by
 intro i c;by_cases a:i<ps.length
 ·rw[List.getElem_append_left a];exact h i a
 ·have:i=ps.length:=by simp at c;omega
  subst this;simp [h1,h2,b]
theorem jq {cl:Int}{ps:List Pr}(h:YR cl ps)(k:Nat):YR cl (ps.take k):=by
 intro i a;rw[List.getElem_take];exact h i (by simp at a;omega)
theorem RS {cl:Int}{a:List Bs}{n:Nat}{c:Int}(h:codeOk cl n c)(d:n≤a.length)(b:List Bs):wAt cl (a++b) c=wAt cl a c:=by
 unfold wAt;split
 ·rfl
 ·rcases h with h|h
  ·omega
  ·rw[List.getD_eq_getElem?_getD,List.getD_eq_getElem?_getD,List.getElem?_append_left (by omega)]
theorem V9 (cl:Int)(ps a:List Pr):∃b,words cl (ps++a)=words cl ps++b:=by
 induction a using xx with
 |h0=>exact⟨[],by simp⟩
 |h1 a q c=>
  obtain⟨b,h⟩:=c;rw[←List.append_assoc,lC,h,List.append_assoc];exact⟨_,rfl⟩
theorem YW (cl:Int)(ps:List Pr)(k:Nat):words cl (ps.take k)=(words cl ps).take k:=by
 obtain⟨a,h⟩:=V9 cl (ps.take k) (ps.drop k);rw[List.take_append_drop] at h;by_cases hk:k≤ps.length
 ·rw[h,List.take_append_of_le_length (by rw[wo];simp;omega),List.take_of_length_le (l:=words cl (ps.take k)) (by rw[wo];simp;omega)]
 ·have b:=congrArg List.length h
  rw[wo,List.length_append,wo,List.length_take] at b;have:a=[]:=List.eq_nil_of_length_eq_zero oo;subst this;rw[List.append_nil] at h;rw[←h,List.take_of_length_le (by rw[wo];omega)]
theorem Oi {cl:Int}{ps:List Pr}(h:YR cl ps)(i:Nat)(a:i<ps.length):
 (words cl ps)[i]? =some (wAt cl (words cl ps) ps[i].1++[UInt8.ofNat ps[i].2.toNat]):=by
 have e:words cl (ps.take (i+1))=words cl (ps.take i)++[wAt cl (words cl (ps.take i)) ps[i].1++[UInt8.ofNat ps[i].2.toNat]]:=by
  rw[List.take_succ_eq_append_getElem a,lC]
 rw[YW] at e;have h1:((words cl ps).take (i+1))[i]? =(words cl ps)[i]? :=(by rw[List.getElem?_take,if_pos (by omega)]);rw[←h1,e,List.getElem?_append_right (by rw[wo];simp;omega)];have h2:(words cl (ps.take i)).length=i:=(by rw[wo];simp;omega);rw[h2];simp only[Nat.sub_self,List.getElem?_cons_zero];congr 2;rw[YW];have b:words cl ps=(words cl ps).take i++(words cl ps).drop i:=(List.take_append_drop _ _).symm
 conv=>rhs;rw[b]
 exact(RS (h i a).1 (by rw[List.length_take,wo];omega) _).symm
theorem jG (cl:Int)(a:List Bs)(c:Int)(h:c<cl):wAt cl a c=[UInt8.ofNat c.toNat]:=by unfold wAt;rw[if_pos h]
theorem eP {cl:Int}{ps:List Pr}(h:YR cl ps)(c:Int)(h0:cl+1<c)(h1:c≤cl+1+ps.length):
 ∃a:(c - cl - 2).toNat<ps.length,wAt cl (words cl ps) c=wAt cl (words cl ps) (ps[(c - cl - 2).toNat]'a).1++[UInt8.ofNat (ps[(c - cl - 2).toNat]'a).2.toNat]:=by
 refine⟨by omega,?_⟩
 conv=>lhs;unfold wAt
 rw[if_neg (by omega),List.getD_eq_getElem?_getD,Oi h _ (by omega)];rfl
theorem eG {cl:Int}{ps:List Pr}(h:YR cl ps):∀(n:Nat) (c:Int),n≤ps.length→codeOk cl n c→1≤(wAt cl (words cl ps) c).length∧(wAt cl (words cl ps) c).length≤n+1:=by
 intro n
 induction n using Nat.strongRecOn with
 |ind n b=>
  intro c g a;by_cases d:c<cl
  ·rw[jG _ _ _ d];simp
  ·rcases a with a|a
   ·omega
   ·obtain⟨f,e⟩:=eP h c a.1 oo
    rw[e];have:=b (c - cl - 2).toNat oo _ oo (h _ f).1;simp;omega
theorem UN {cl:Int}{ps:List Pr}(h:YR cl ps):∀(n:Nat) (c:Int),n≤ps.length→codeOk cl n c→∀x ∈ wAt cl (words cl ps) c,(x.toNat:Int)<cl:=by
 intro n
 induction n using Nat.strongRecOn with
 |ind n g=>
  intro c j b x a;have f:∀y:Int,0≤y→y<cl→((UInt8.ofNat y.toNat).toNat:Int)<cl:=by
   intro y h0 h1;rw[UInt8.toNat_ofNat'];have:=Nat.mod_le y.toNat (2 ^ 8);omega
  by_cases i:c<cl
  ·rw[jG _ _ _ i] at a
   simp at a;subst a;rcases b with b|b
   ·exact f c b.1 b.2
   ·omega
  ·rcases b with b|b
   ·omega
   ·obtain⟨d,e⟩:=eP h c b.1 oo
    rw[e] at a;rcases List.mem_append.1 a with a|a
    ·exact g (c - cl - 2).toNat oo _ oo (h _ d).1 x a
    ·simp at a
     subst a;exact f _ (h _ d).2.1 (h _ d).2.2
structure Kn where
 o : Int
 l : Int
 m : Int
 ps : List Pr
 base : Int
 last : Int
def Kn.cl (K:Kn):Int:=pow2 K.l
def Kn.nx (K:Kn):Int:=pow2 K.l+2+K.ps.length
def Kn.top (K:Kn):Int:=pow2 K.m - 1
def Kn.gr (K:Kn):Bool:=decide (0≤K.last∧K.nx≤K.top)
def Kn.great (K:Kn):Int:=if K.gr=true then K.nx else K.nx - 1
structure Kn.ok (K : Kn) : Prop where
 st : vk K.o K.l K.m
 pairs : YR K.cl K.ps
 len : K.cl + 1 + K.ps.length ≤ K.top
 base0 : 0 ≤ K.base
 base1 : K.base ≤ K.ps.length
 last : (K.last = -1 ∧ K.base = K.ps.length) ∨ codeOk K.cl K.ps.length K.last
theorem Kn.ok.bd {K:Kn}(h:K.ok):2≤K.cl∧K.cl≤256∧K.top≤1023∧K.ps.length≤1020∧K.cl+2≤K.top:=by
 obtain⟨h1,h2,d,a,g⟩:=h.st;have i:=h.len;have j:2≤K.cl∧K.cl≤256∧K.top≤1023∧K.cl+2≤K.top:=by
  unfold Kn.cl Kn.top pow2;have b:K.l=1∨K.l=2∨K.l=3∨K.l=4∨K.l=5∨K.l=6∨K.l=7∨K.l=8:=oo;have c:K.m=3∨K.m=4∨K.m=5∨K.m=6∨K.m=7∨K.m=8∨K.m=9∨K.m=10:=oo;rcases b with e|e|e|e|e|e|e|e<;>rcases c with f|f|f|f|f|f|f|f<;>rw[e] at a⊢<;>rw[f] at a⊢<;>first|decide|omega
 omega
def Kn.word (K:Kn)(c:Int):Bs:=wAt K.cl (words K.cl K.ps) c
def Kn.any (K:Kn)(c:Int):Bs:=if c=K.nx then K.word K.last++(K.word K.last).take 1 else K.word c
def Kn.fol (K:Kn)(c:Int):Bool:=decide (codeOk K.cl K.ps.length c∨(K.gr=true∧c=K.nx))
theorem Kn.qf {K:Kn}(h:K.ok)(a:K.gr=true):codeOk K.cl K.ps.length K.last:=by
 unfold Kn.gr at a;rcases h.last with h1|h1
 ·simp at a;omega
 ·exact h1
theorem Kn.qh {K:Kn}(h:K.ok){c:Int}(a:K.fol c=true):1≤(K.any c).length∧(K.any c).length≤K.ps.length+2:=by
 unfold Kn.fol at a;simp only[decide_eq_true_eq] at a;unfold Kn.any;split
 ·rename_i e
  rcases a with a|⟨b,_⟩
  ·unfold codeOk at a;unfold Kn.nx at e;unfold Kn.cl at a;omega
  ·have:=eG h.pairs _ _ (Nat.le_refl _) (K.qf h b)
   simp only[List.length_append,List.length_take,Kn.word];omega
 ·rcases a with a|⟨_,e⟩
  ·have:=eG h.pairs _ _ (Nat.le_refl _) a
   unfold Kn.word;omega
  ·contradiction
theorem Kn.TW {K:Kn}(h:K.ok){c:Int}(a:K.fol c=true):∀x ∈ K.any c,(x.toNat:Int)<K.cl:=by
 unfold Kn.fol at a;simp only[decide_eq_true_eq] at a;unfold Kn.any;intro x b;split at b
 ·rename_i e
  rcases a with a|⟨d,_⟩
  ·unfold codeOk at a;unfold Kn.nx at e;unfold Kn.cl at a;omega
  ·have:=UN h.pairs _ _ (Nat.le_refl _) (K.qf h d)
   rcases List.mem_append.1 b with b|b
   ·exact this x b
   ·exact this x (List.mem_of_mem_take b)
 ·rcases a with a|⟨_,e⟩
  ·exact UN h.pairs _ _ (Nat.le_refl _) a x b
  ·contradiction
def wV (l:Bs):Int:=((l.headD 0).toNat:Int)
theorem bg (l:Bs):0≤wV l∧wV l≤255:=by unfold wV;have:=(l.headD 0).toNat_lt;omega
theorem bC {l:Bs}{cl:Int}(a:1≤l.length)(h:∀x ∈ l,(x.toNat:Int)<cl):wV l<cl:=by
 match l,a with
 |x::r,_=>exact h x List.mem_cons_self
def Kn.after (K:Kn)(c:Int):Kn:= { K with ps:=if K.gr=true then K.ps++[(K.last,wV (K.any c))] else K.ps,last:=c }
def Kn.cleared (K:Kn):Kn:= { K with ps:=K.ps.take K.base.toNat,last:= -1 }
theorem Kn.xy {K:Kn}(h:K.ok):K.cleared.ok:=by
 have h0:=h.base0;have h1:=h.base1;have a:=h.len;refine⟨h.st,jq h.pairs _,?_,h0,?_,.inl ⟨rfl,?_⟩⟩
 ·show K.cl+1+((K.ps.take K.base.toNat).length:Int)≤K.top
  simp;omega
 ·show K.base≤((K.ps.take K.base.toNat).length:Int)
  simp;omega
 ·show K.base=((K.ps.take K.base.toNat).length:Int)
  simp;omega
theorem kG {cl:Int}{n m:Nat}{c:Int}(h:codeOk cl n c)(a:n≤m):codeOk cl m c:=by
 unfold codeOk at*;omega
theorem Kn.uy {K:Kn}(h:K.ok){c:Int}(a:K.fol c=true):(K.after c).ok:=by
 have h0:=h.base0;have h1:=h.base1;have g:=h.len;have o:=h.bd;have i:=K.qh h a;have j:=bC i.1 (K.TW h a);have k:=bg (K.any c);unfold Kn.fol at a;simp only[decide_eq_true_eq] at a;by_cases b:K.gr=true
 ·have d:=b
  have l:=K.qf h b;unfold Kn.gr at d;simp only[decide_eq_true_eq] at d;have e:(K.after c).ps=K.ps++[(K.last,wV (K.any c))]:=(by unfold Kn.after;simp [b]);have f:((K.after c).ps.length:Int)=K.ps.length+1:=(by rw[e];simp);refine⟨h.st,?_,?_,h0,?_,.inr ?_⟩
  ·rw[e]
   exact OX h.pairs l k.1 j
  ·rw[f]
   show K.cl+1+((K.ps.length:Int)+1)≤K.top;have:=d.2;unfold Kn.nx at this;unfold Kn.cl;omega
  ·rw[f]
   show K.base≤(K.ps.length:Int)+1;omega
  ·show codeOk K.cl (K.after c).ps.length c
   have m:(K.after c).ps.length=K.ps.length+1:=oo;rw[m];rcases a with a|⟨_,e⟩
   ·exact kG a oo
   ·right;unfold Kn.nx at e;unfold Kn.cl;omega
 ·have e:(K.after c).ps=K.ps:=by unfold Kn.after;simp [b]
  refine⟨h.st,by rw[e];exact h.pairs,by rw[e];exact g,h0,by rw[e];exact h1,.inr ?_⟩;rw[e];rcases a with a|⟨n,_⟩
  ·exact a
  ·exact absurd n b
def Kn.yP (K:Kn):List Bs:=(List.range (K.great - K.cl - 1).toNat).map fun(i:Nat)=>K.any (K.cl+2+(i:Int))
theorem Kn.tJ {K:Kn}(h:K.ok):K.cl+1≤K.great∧K.great≤K.top∧K.great≤K.cl+2+K.ps.length∧K.cl+1+K.ps.length≤K.great:=by
 have b:=h.len;have c:=h.bd;unfold Kn.great;by_cases a:K.gr=true
 ·rw[if_pos a]
  unfold Kn.gr at a;simp only[decide_eq_true_eq] at a;have:=a.2;unfold Kn.nx at*;unfold Kn.cl at*;omega
 ·rw[if_neg a];unfold Kn.nx;unfold Kn.cl at*;omega
theorem Kn.uo (K:Kn):K.yP.length=(K.great - K.cl - 1).toNat:=by unfold Kn.yP;simp
theorem Kn.jw {K:Kn}(i:Nat)(a:i<K.yP.length):K.fol (K.cl+2+i)=true:=by
 rw[K.uo] at a;unfold Kn.fol;simp only[decide_eq_true_eq];unfold Kn.great at a;by_cases b:K.gr=true
 ·rw[if_pos b] at a
  unfold Kn.nx at*;unfold codeOk;unfold Kn.cl at*;by_cases e:i=K.ps.length
  ·right;exact⟨b,oo⟩
  ·left;right;omega
 ·rw[if_neg b] at a
  left;right;unfold Kn.nx at a;unfold Kn.cl at*;omega
def better (data a w:Bs):Bs:=if a.length<w.length∧w.isPrefixOf data=true then w else a
def Kn.longest (K:Kn)(data:Bs):Bs:=K.yP.foldl (better data) (data.take 1)
def Kn.find (K:Kn)(w:Bs):Int:=
 if w.length=1∧wV w<K.cl then wV w else match K.yP.findIdx? (fun x=>decide (x=w)) with
  |some i=>K.cl+2+i
  |none=> -1
theorem Wv (data:Bs)(a:List Bs)(b:Bs):a.foldl (better data) b=b∨(a.foldl (better data) b ∈ a∧b.length<(a.foldl (better data) b).length∧(a.foldl (better data) b).isPrefixOf data=true):=by
 induction a using xx with
 |h0=>exact .inl rfl
 |h1 a w d=>
  rw[List.foldl_append];simp only[List.foldl_cons,List.foldl_nil];unfold better at d⊢;split
  ·rename_i c
   refine .inr ⟨by simp,?_,c.2⟩;rcases d with e|⟨_,h2,_⟩
   ·rw[e] at c;exact c.1
   ·have:=c.1;omega
  ·rcases d with e|⟨h1,h2,f⟩
   ·exact .inl e
   ·exact .inr ⟨List.mem_append_left _ h1,h2,f⟩
theorem Kn.pI (K:Kn)(data:Bs):K.longest data=data.take 1∨(K.longest data ∈ K.yP∧1<(K.longest data).length+(if data=[] then 1 else 0)∧(K.longest data).isPrefixOf data=true):=by
 unfold Kn.longest;rcases Wv data K.yP (data.take 1) with h|⟨h1,h2,a⟩
 ·exact .inl h
 ·refine .inr ⟨h1,?_,a⟩
  cases data<;>simp at h2⊢<;>omega
theorem Kn.yQ (K:Kn)(data:Bs):K.longest data=data.take (K.longest data).length∧(K.longest data).length≤data.length:=by
 rcases K.pI data with h|⟨_,_,h⟩
 ·rw[h]
  cases data<;>simp
 ·have:=List.isPrefixOf_iff_prefix.1 h
  exact⟨List.prefix_iff_eq_take.1 this,this.length_le⟩
theorem Kn.xE (K:Kn){data:Bs}(h:data≠[]):1≤(K.longest data).length:=by
 rcases K.pI data with e|⟨_,h2,_⟩
 ·rw[e];cases data<;>simp at h⊢
 ·rw[if_neg h] at h2;omega
theorem Kn.rC {K:Kn}(h:K.ok){data:Bs}(d:data≠[])(j:data.all (uq K.l)=true):K.fol (K.find (K.longest data))=true∧K.any (K.find (K.longest data))=K.longest data∧0≤K.find (K.longest data):=by
 have s:=h.bd;have k:=K.yQ data;have h1:=K.xE d;have f:wV (K.longest data)<K.cl:=by
  refine bC h1 fun x a=> ?_;rw[k.1] at a;have:=List.all_eq_true.1 j x (List.mem_of_mem_take a);simpa [uq,Kn.cl] using this
 have m:=bg (K.longest data);unfold Kn.find;by_cases b:(K.longest data).length=1
 ·rw[if_pos ⟨b,f⟩]
  refine⟨?_,?_,m.1⟩
  ·unfold Kn.fol;simp only[decide_eq_true_eq];left;left;omega
  ·unfold Kn.any
   rw[if_neg (by unfold Kn.nx;unfold Kn.cl at*;omega)];unfold Kn.word;rw[jG _ _ _ f];generalize K.longest data=x at b
   match x,b with
   |[c],_=>simp [wV]
 ·rw[if_neg (fun n=>b n.1)]
  rcases K.pI data with e|⟨o,_,_⟩
  ·exact absurd (by rw[e];cases data<;>simp at d⊢) b
  ·have p:(K.yP.findIdx? (fun x=>decide (x=K.longest data))).isSome=true:=by
    rw[List.findIdx?_isSome,List.any_eq_true];exact⟨_,o,by simp⟩
   obtain⟨i,g⟩:=Option.isSome_iff_exists.1 p;rw[g];obtain⟨q,a,_⟩:=List.findIdx?_eq_some_iff_getElem.1 g;have r:=K.jw i q;simp only;refine⟨r,?_,oo⟩;simp only[decide_eq_true_eq] at a;rw[←a];simp [Kn.yP]
def wO :Nat→Kn→Bs→Kn
 |0,K,_=>K
 |n+1,K,t=>if t=[] then K else wO n (K.after (K.find (K.longest t))) (t.drop (K.longest t).length)
def Kn.learn (K:Kn)(t:Bs):Kn:=
 let a:=wO t.length K.cleared t
 { a with base:=a.ps.length,last:= -1 }
def uC (o l m:Int):Kn:=⟨o,l,m,[],0, -1⟩
def zA (o l m:Int)(d:Bs):Kn:=(uC o l m).learn d
def yc :Nat→Kn→Bs→List Int
 |0,_,_=>[]
 |n+1,K,t=>if t=[] then[] else
  let c:=K.find (K.longest t)
  let a:=K.after c
  let r:=t.drop (K.longest t).length
  if r≠[]∧a.top<a.nx∧a.base<a.ps.length then c::K.cl::yc n a.cleared r else c::yc n a r
def Kn.yw (K:Kn)(t:Bs):List Int:=K.cl::(yc t.length K.cleared t++[K.cl+1])
theorem qB (p:UInt8→Bool)(t:Bs)(n:Nat)(h:t.all p=true):(t.drop n).all p=true:=by
 rw[List.all_eq_true] at h⊢;exact fun x a=>h x (List.mem_of_mem_drop a)
theorem YT :∀(n:Nat) (K:Kn) (t:Bs),K.ok→t.all (uq K.l)=true→(wO n K t).ok∧(wO n K t).o=K.o∧(wO n K t).l=K.l∧(wO n K t).m=K.m
 |0,K,_,h,_=>⟨h,rfl,rfl,rfl⟩
 |n+1,K,t,h,a=>by
  unfold wO;split
  ·exact⟨h,rfl,rfl,rfl⟩
  ·rename_i b
   have c:=K.rC h b a;have:=YT n (K.after (K.find (K.longest t))) (t.drop (K.longest t).length) (K.uy h c.1) (qB _ _ _ a);exact this
theorem Kn.LY {K:Kn}(h:K.ok){t:Bs}(a:t.all (uq K.l)=true):(K.learn t).ok∧(K.learn t).o=K.o∧(K.learn t).l=K.l∧(K.learn t).m=K.m:=by
 have h1:=YT t.length K.cleared t (K.xy h) a;obtain⟨hk,h2,b,c⟩:=h1;refine⟨⟨hk.st,hk.pairs,hk.len,?_,?_,.inl ⟨rfl,rfl⟩⟩,h2,b,c⟩
 ·show(0:Int)≤((wO t.length K.cleared t).ps.length:Int);omega
 ·exact Int.le_refl _
theorem jM {o l m:Int}(h:vk o l m):(uC o l m).ok:=by
 have g:pow2 l+1≤pow2 m - 1:=by
  obtain⟨h1,h2,j,a,k⟩:=h;unfold pow2;have b:l=1∨l=2∨l=3∨l=4∨l=5∨l=6∨l=7∨l=8:=oo;have c:m=3∨m=4∨m=5∨m=6∨m=7∨m=8∨m=9∨m=10:=oo;rcases b with e|e|e|e|e|e|e|e<;>rcases c with f|f|f|f|f|f|f|f<;>rw[e] at a⊢<;>rw[f] at a⊢<;>first|decide|omega
 refine⟨h,?_,?_,Int.le_refl _,Int.le_refl _,.inl ⟨rfl,rfl⟩⟩
 ·intro i d;exact absurd d (by simp [uC])
 ·show pow2 l+1+((0:Nat):Int)≤pow2 m - 1
  omega
def needed (n:Nat):Nat:=if n≤1 then 1 else needed (n / 2)+1
termination_by n
decreasing_by omega
theorem oU (n:Nat)(h:1<n):needed n=needed (n / 2)+1:=by rw[needed,if_neg (by omega)]
theorem rW (n:Nat)(h:n≤1):needed n=1:=by rw[needed,if_pos h]
theorem qR :∀(k n:Nat),n<2 ^ (k+1)→1≤needed n∧needed n≤k+1
 |0,n,h=>by rw[rW n (by omega)];omega
 |k+1,n,h=>by
  by_cases h1:n≤1
  ·rw[rW n h1];omega
  ·rw[oU n (by omega)]
   have:=qR k (n / 2) (by rw[Nat.pow_succ] at h;omega);omega
theorem WM :∀(k n:Nat),needed n≤k→n<2 ^ k
 |k,n,h=>by
  by_cases h1:n≤1
  ·rw[rW n h1] at h
   have:2 ^ 1≤2 ^ k:=Nat.pow_le_pow_right oo h;omega
  ·rw[oU n (by omega)] at h
   match k,h with
   |k+1,h=>
    have:=WM k (n / 2) oo;rw[Nat.pow_succ];omega
 termination_by k n=>n
 decreasing_by omega
def nK (c i:Nat):UInt8:=UInt8.ofNat (48+c / 2 ^ i % 2)
def vz (c w:Nat):Bs:=(List.range w).map (nK c)
def yg (o:Int)(c w:Nat):Bs:=if o=0 then vz c w else(vz c w).reverse
theorem xP (o:Int)(c w:Nat):(yg o c w).length=w:=by unfold yg;split<;>simp [vz]
theorem lQ (c w:Nat):vz c (w+1)=vz c w++[nK c w]:=by unfold vz;rw[List.range_succ,List.map_append];rfl
theorem VN (o:Int)(c w:Nat)(h:o=0):yg o c (w+1)=yg o c w++[nK c w]:=by
 unfold yg;rw[if_pos h,if_pos h,lQ]
theorem Xx (o:Int)(c w:Nat)(h:o≠0):yg o c (w+1)=nK c w::yg o c w:=by
 unfold yg;rw[if_neg h,if_neg h,lQ,List.reverse_append];rfl
def yU (l:Bs):Bool:=l.all fun c=>c=48||c=49
theorem Ph (c i:Nat):nK c i=48∨nK c i=49:=by
 unfold nK;have:c / 2 ^ i % 2=0∨c / 2 ^ i % 2=1:=oo;rcases this with e|e<;>rw[e]<;>decide
theorem jT (o:Int)(c w:Nat):yU (yg o c w)=true:=by
 have h:yU (vz c w)=true:=by
  unfold yU vz;rw[List.all_eq_true];intro x a;simp only[List.mem_map] at a;obtain⟨i,_,rfl⟩:=a;rcases Ph c i with e|e<;>simp [e]
 unfold yg;split
 ·exact h
 ·unfold yU at*;rw[List.all_reverse];exact h
def yS (l:Bs):Nat:=l.foldl (fun n c=>2*n+(c.toNat - 48)) 0
def numBits (o:Int)(l:Bs):Nat:=if o=0 then yS l.reverse else yS l
theorem vO (l:Bs)(c:UInt8):yS (l++[c])=2*yS l+(c.toNat - 48):=by unfold yS;rw[List.foldl_append];rfl
theorem gW (l:Bs)(h:yU l=true):yS l<2 ^ l.length:=by
 induction l using xx with
 |h0=>simp [yS]
 |h1 l c a=>
  unfold yU at h a;rw[List.all_append,Bool.and_eq_true] at h;have h1:=a h.1;have h2:c=48∨c=49:=(by simpa using h.2);rw[vO,List.length_append,List.length_cons,List.length_nil,Nat.pow_add];have b:c.toNat - 48≤1:=(by rcases h2 with e|e<;>subst e<;>decide);omega
theorem nH (l:Bs):yU l.reverse=yU l:=by unfold yU;rw[List.all_reverse]
theorem pY (o:Int)(l:Bs)(h:yU l=true):numBits o l<2 ^ l.length:=by
 unfold numBits;split
 ·have:=gW l.reverse (by rw[nH];exact h);rwa [List.length_reverse] at this
 ·exact gW l h
theorem qI (c:Nat):∀w,yS (vz c w).reverse=c % 2 ^ w
 |0=>by simp [vz,yS,Nat.mod_one]
 |w+1=>by
  have b:∀(l:Bs) (x:UInt8),(∀y ∈ l,y=48∨y=49)→yS (x::l)=(x.toNat - 48)*2 ^ l.length+yS l:=by
   intro l
   induction l using xx with
   |h0=>intro x _;simp [yS]
   |h1 l y d=>
    intro x h;rw[show x::(l++[y])=(x::l)++[y] from rfl,vO,vO,d x (fun z e=>h z (by simp [e]))];rw[List.length_append,List.length_cons,List.length_nil,Nat.pow_add,Nat.mul_add];have:2*((x.toNat - 48)*2 ^ l.length)=(x.toNat - 48)*(2 ^ l.length*2 ^ (0+1)):=by
     rw[Nat.zero_add,Nat.pow_one,←Nat.mul_assoc,Nat.mul_comm 2 (x.toNat - 48),Nat.mul_assoc,Nat.mul_comm 2]
    omega
  rw[lQ,List.reverse_append];show yS (nK c w::(vz c w).reverse)=_;rw[b _ _ (fun y a=>by
   simp only[List.mem_reverse,vz,List.mem_map] at a;obtain⟨i,_,rfl⟩:=a;exact Ph c i),qI c w]
  have f:(vz c w).reverse.length=w:=(by simp [vz]);rw[f];have g:(nK c w).toNat - 48=c / 2 ^ w % 2:=by
   unfold nK;rw[UInt8.toNat_ofNat'];omega
  rw[g,Nat.pow_succ,Nat.mod_mul,Nat.mul_comm,Nat.add_comm]
theorem NZ (o:Int)(c w:Nat)(h:c<2 ^ w):numBits o (yg o c w)=c:=by
 unfold numBits yg;split
 ·rw[qI,Nat.mod_eq_of_lt h]
 ·rw[qI,Nat.mod_eq_of_lt h]
def uZ (l:Bs):Bs:=l++List.replicate ((8 - l.length % 8) % 8) 48
theorem sN (l:Bs):(uZ l).length=(l.length+7) / 8*8:=by unfold uZ;simp;omega
def tK (o:Int)(l:Bs):Bs:=(List.range ((uZ l).length / 8)).map fun i=>UInt8.ofNat (numBits o (((uZ l).drop (8*i)).take 8))
theorem eU (o:Int)(l:Bs):(tK o l).length=(l.length+7) / 8:=by unfold tK;rw[List.length_map,List.length_range,sN];omega
def zO (o:Int)(l:Bs):Bs:=l.flatMap fun c=>yg o c.toNat 8
theorem rf (o:Int)(l:Bs):(zO o l).length=8*l.length:=by
 induction l with
 |nil=>rfl
 |cons c l a=>unfold zO at*;rw[List.flatMap_cons,List.length_append,a,xP,List.length_cons];omega
theorem fZ (o:Int)(l:Bs):yU (zO o l)=true:=by
 induction l with
 |nil=>rfl
 |cons c l a=>
  have h:=jT o c.toNat 8;unfold zO yU at*;rw[List.flatMap_cons,List.all_append,h,a];rfl
def Kn.width (K:Kn):Nat:=max (K.l.toNat+1) (needed K.great.toNat)
def Kn.step (K:Kn)(c:Int):Kn:=if c=K.cl then K.cleared else K.after c
structure Wk where
 K : Kn
 ws : List Nat
 d : Bs
def Wk.step (x:Wk)(c:Int):Wk:=⟨x.K.step c,x.ws++[x.K.width],x.d++(if c=x.K.cl then[] else x.K.any c)⟩
def Kn.walk (K:Kn)(cs:List Int):Wk:=cs.foldl Wk.step ⟨K,[],[]⟩
theorem O0 (K:Kn)(cs:List Int)(c:Int):K.walk (cs++[c])=(K.walk cs).step c:=by unfold Kn.walk;rw[List.foldl_append];rfl
theorem Pz (K:Kn)(cs:List Int):(K.walk cs).ws.length=cs.length:=by
 induction cs using xx with
 |h0=>rfl
 |h1 cs c a=>rw[O0];simp [Wk.step,a]
def Kn.bits (K:Kn)(cs:List Int):Bs:=(cs.zip (K.walk cs).ws).flatMap fun p=>yg K.o p.1.toNat p.2
def Kn.comp (K:Kn)(t:Bs):Bs:=tK K.o (K.bits (K.yw t))
end Go.Proofs.YtoedhpcmgondjaaGreatDoor
namespace Go.Proofs.YtoedhpcmgondjaaGreatDoor
open Go.RowKit
def vG :Kn→List Int→Nat→Prop
 |_,[],_=>False
 |K,c::r,n=>if c=K.cl+1 then r=[] else if c=K.cl then vG K.cleared r n else K.fol c=true∧n≤2000∧vG (K.after c) r (n+(K.any c).length)
theorem aF {K:Kn}(h:K.ok){c:Int}(a:K.fol c=true):0≤c∧c≤1100*2∧c≠K.cl∧c≠K.cl+1:=by
 have b:=h.bd;unfold Kn.fol at a;simp only[decide_eq_true_eq] at a;unfold codeOk Kn.nx at a;unfold Kn.cl at*;omega
theorem nC :∀(n:Nat) (K:Kn) (t:Bs) (m:Nat),K.ok→t.all (uq K.l)=true→t.length≤n→m+t.length≤2000→vG K (yc n K t++[K.cl+1]) m
 |0,K,t,m,_,_,h,_=>by simp [yc,vG]
 |n+1,K,t,m,hk,c,h,k=>by
  unfold yc;split
  ·simp [vG]
  ·rename_i d
   have i:=K.rC hk d c;have o:=(K.yQ t).2;have p:=K.xE d;obtain⟨a,e,q⟩:=i;have b:=aF hk a;have f:=K.uy hk a;have r:(t.drop (K.longest t).length).length=t.length - (K.longest t).length:=(by simp);have g:(t.drop (K.longest t).length).all (uq K.l)=true:=qB _ _ _ c;simp only;split
   ·rw[List.cons_append,vG,if_neg b.2.2.2,if_neg b.2.2.1,e,List.cons_append,vG]
    refine⟨a,oo,?_⟩;have j:(K.after (K.find (K.longest t))).cl=K.cl:=rfl;rw[j,if_neg (by omega),if_pos rfl];exact nC n _ _ _ (Kn.xy f) g oo oo
   ·rw[List.cons_append,vG,if_neg b.2.2.2,if_neg b.2.2.1,e]
    exact⟨a,oo,nC n _ _ _ f g oo oo⟩
theorem aP {K:Kn}(hk:K.ok){t:Bs}(a:t.all (uq K.l)=true)(b:t.length≤2000):vG K (K.yw t) 0:=by
 unfold Kn.yw;rw[vG,if_neg (by omega),if_pos rfl];exact nC _ _ _ _ (Kn.xy hk) a (Nat.le_refl _) oo
theorem OT (cs:List Int):∀(K:Kn) (a:List Nat) (d:Bs),cs.foldl Wk.step ⟨K,a,d⟩=⟨(K.walk cs).K,a++(K.walk cs).ws,d++(K.walk cs).d⟩:=by
 induction cs with
 |nil=>intro K a d;simp [Kn.walk]
 |cons c r b=>
  intro K a d;show r.foldl Wk.step ⟨K.step c,a++[K.width],d++(if c=K.cl then[] else K.any c)⟩=_;rw[b];have h:K.walk (c::r)=r.foldl Wk.step ⟨K.step c,[]++[K.width],[]++(if c=K.cl then[] else K.any c)⟩:=rfl;rw[h,b];simp
theorem nO (K:Kn)(c:Int)(r:List Int):(K.walk (c::r)).ws=K.width::((K.step c).walk r).ws:=by
 have h:K.walk (c::r)=r.foldl Wk.step ⟨K.step c,[]++[K.width],[]++(if c=K.cl then[] else K.any c)⟩:=rfl;rw[h,OT];simp
theorem kT {K:Kn}(h:K.ok):1≤K.width∧K.width≤10:=by
 have a:=h.bd;have b:=K.tJ h;have c:=qR 9 K.great.toNat oo;obtain⟨h1,h2,d,e,f⟩:=h.st;unfold Kn.width;omega
theorem step_ok {K:Kn}(h:K.ok){c:Int}(a:c≠K.cl→K.fol c=true):(K.step c).ok:=by
 unfold Kn.step;split
 ·exact K.xy h
 ·rename_i b;exact K.uy h (a b)
theorem gu (cs:List Int):∀(K:Kn) (n:Nat),K.ok→vG K cs n→∀p ∈ cs.zip (K.walk cs).ws,0≤p.1∧p.1≤2200∧p.2≤10:=by
 induction cs with
 |nil=>intro K n _ h;exact absurd h (by simp [vG])
 |cons c r f=>
  intro K n hk b p a;have g:=kT hk;have i:=hk.bd;rw[nO,List.zip_cons_cons,List.mem_cons] at a;rw[vG] at b;split at b
  ·rename_i d
   subst b;rcases a with rfl|a
   ·simp only;omega
   ·simp at a
  ·split at b
   ·rename_i d
    rcases a with rfl|a
    ·simp only;omega
    ·have e:K.step c=K.cleared:=if_pos d
     rw[e] at a;exact f _ _ (K.xy hk) b p a
   ·rename_i d
    have j:=aF hk b.1;rcases a with rfl|a
    ·simp only;omega
    ·have e:K.step c=K.after c:=if_neg d
     rw[e] at a;exact f _ _ (K.uy hk b.1) b.2.2 p a
theorem iV (K:Kn)(cs:List Int):yU (K.bits cs)=true:=by
 unfold Kn.bits yU;rw[List.all_flatMap,List.all_eq_true];intro p _;exact jT _ _ _
theorem jc {K:Kn}(hk:K.ok){cs:List Int}{n:Nat}(b:vG K cs n):(K.bits cs).length≤10*cs.length:=by
 have a:=gu cs K n hk b;have c:(cs.zip (K.walk cs).ws).length≤cs.length:=(by rw[List.length_zip];omega);unfold Kn.bits;generalize cs.zip (K.walk cs).ws=z at*;have:(z.flatMap fun p=>yg K.o p.1.toNat p.2).length≤10*z.length:=by
  clear c
  induction z with
  |nil=>simp
  |cons p z d=>
   have h1:=(a p List.mem_cons_self).2.2;have h2:=d fun q e=>a q (List.mem_cons_of_mem _ e);rw[List.flatMap_cons,List.length_append,xP,List.length_cons];omega
 omega
