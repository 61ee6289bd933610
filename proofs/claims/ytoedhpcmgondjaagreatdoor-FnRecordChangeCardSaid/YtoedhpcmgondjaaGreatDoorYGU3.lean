import Derived.Test.YtoedhpcmgondjaaGreatDoorYGU1
import Derived.Test.YtoedhpcmgondjaaGreatDoorYGP4
import Derived.Deep.Cut
import Derived.Test.YtoedhpcmgondjaaGreatDoorYGS5
set_option linter.all false
set_option maxHeartbeats 8000000
namespace Go.Proofs.YtoedhpcmgondjaaGreatDoor
open Go.RowKit
set_option maxRecDepth 100000
def PV (ps:List Pc)(c:Int):Prop:=0≤c∧c≤40∧RG ps c
def YY (ps:List Pc)(c:Int)(i:Nat)(h:i<ps.length):Prop:=0≤ps[i].1∧ps[i].1<c∧1≤ps[i].2.length∧ps[i].2.length≤64∧∀h0:0<i,(ps[i - 1]'oo).1<ps[i].1
theorem LX (ps:List Pc)(c:Int):RG ps c↔∀(i:Nat) (h:i<ps.length),YY ps c i h:=by
 constructor
 ·intro h i a
  have h1:=h.1 i a;refine⟨h1.1,h1.2.1,h1.2.2.1,h1.2.2.2,fun h0=> ?_⟩;have h2:=h.2 (i - 1) oo;simpa [show i - 1+1=i by omega] using h2
 ·intro h
  refine⟨fun i a=> ?_,fun i a=> ?_⟩
  ·have h1:=h i a
   exact⟨h1.1,h1.2.1,h1.2.2.1,h1.2.2.2.1⟩
  ·have h1:=(h (i+1) a).2.2.2.2 oo
   simpa using h1
theorem ZU {ps:List Pc}{c:Int}(h:RG ps c):∀(j i:Nat) (a:j<ps.length) (b:i<j),(ps[i]'oo).1<ps[j].1
 |0,i,a,b=>by omega
 |j+1,i,a,b=>by
  have h1:=h.2 j a;by_cases e:i=j
  ·subst e;exact h1
  ·have:=ZU h j i oo oo;omega
theorem bG {ps:List Pc}{c:Int}{k:Nat}(a:∀(i:Nat) (h:i<ps.length),i<k→YY ps c i h)(hk:k<ps.length)(b:YY ps c k hk):∀(i:Nat) (h:i<ps.length),i<k+1→YY ps c i h:=by
 intro i h f;by_cases e:i=k
 ·subst e;exact b
 ·exact a i h oo
def ah (ps:List Pc)(n:Int):Option Bs:=(ps.find? fun p=>decide (p.1=n)).map (·.2)
theorem Ny {ps:List Pc}{n:Int}(h:∀(i:Nat) (a:i<ps.length),ps[i].1≠n):ah ps n=none:=by
 unfold ah;rw[Option.map_eq_none_iff,List.find?_eq_none];intro p b;obtain⟨i,a,rfl⟩:=List.getElem_of_mem b;simpa using h i a
theorem XX {ps:List Pc}{n:Int}{i:Nat}(b:i<ps.length)(c:ps[i].1=n)(e:∀(j:Nat) (a:j<i),(ps[j]'oo).1≠n):ah ps n=some ps[i].2:=by
 unfold ah;have h:ps.find? (fun p=>decide (p.1=n))=some ps[i]:=by
  rw[List.find?_eq_some_iff_getElem];exact⟨by simpa using c,i,b,rfl,fun j a=>by simpa using e j a⟩
 rw[h];rfl
def AtN (ps:List Pc)(a:Nat)(n:Int):Prop:=a≤ps.length∧(∀(i:Nat) (h:i<ps.length),i<a→ps[i].1<n)∧∀(i:Nat) (h:i<ps.length),a≤i→n≤ps[i].1
theorem LV {ps:List Pc}{c:Int}(h:RG ps c):AtN ps 0 0:=⟨by omega,fun i h b=>by omega,fun i a _=>(h.1 i a).1⟩
theorem KW {ps:List Pc}{c:Int}(h:RG ps c){a:Nat}{n:Int}(e:AtN ps a n)(f:a<ps.length)(g:ps[a].1=n):ah ps n=some ps[a].2∧AtN ps (a+1) (n+1):=by
 refine⟨XX f g fun j k=> ?_,oo,fun i b l=> ?_,fun i b l=> ?_⟩
 ·have:=e.2.1 j oo k;omega
 ·by_cases m:i=a
  ·subst m;omega
  ·have:=e.2.1 i b oo;omega
 ·have:=ZU h i a b oo;omega
theorem NY {ps:List Pc}{c:Int}(h:RG ps c){a:Nat}{n:Int}(f:AtN ps a n)(l:∀m:a<ps.length,ps[a].1≠n):ah ps n=none∧AtN ps a (n+1):=by
 have j:∀(i:Nat) (b:i<ps.length),a≤i→n+1≤ps[i].1:=by
  intro i b k;have h1:=f.2.2 a oo (Nat.le_refl _);have h2:=l oo;by_cases g:i=a
  ·subst g;omega
  ·have:=ZU h i a b oo;omega
 refine⟨Ny fun i b e=> ?_,f.1,fun i b k=> ?_,j⟩
 ·by_cases g:i<a
  ·have:=f.2.1 i b g;omega
  ·have:=j i b oo;omega
 ·have:=f.2.1 i b k;omega
def ig (ps:List Pc)(k:Nat):List Int:=((List.range k).filter fun n:Nat=>(ah ps (n:Int)).isNone).map fun n:Nat=>(n:Int)
theorem Oy {ps:List Pc}{k:Nat}{d:Bs}(h:ah ps k=some d):ig ps (k+1)=ig ps k:=by
 unfold ig;rw[List.range_succ,List.filter_append];simp [h]
theorem SI {ps:List Pc}{k:Nat}(h:ah ps k=none):ig ps (k+1)=ig ps k++[(k:Int)]:=by
 unfold ig;rw[List.range_succ,List.filter_append];simp [h]
open Classical in
noncomputable def MW (ps:List Pc)(c:Int):List Int:=if PV ps c then ig ps c.toNat else[]
theorem Nk {ps:List Pc}{c:Int}(h:PV ps c):MW ps c=ig ps c.toNat:=by unfold MW;rw[if_pos h]
def iQ (ps:List Pc)(s:Nat)(f:UInt8)(k:Nat):Bs:=(List.range k).flatMap fun n:Nat=>(ah ps (n:Int)).getD (List.replicate s f)
theorem TA (ps:List Pc)(s:Nat)(f:UInt8)(k:Nat):iQ ps s f (k+1)=iQ ps s f k++(ah ps (k:Int)).getD (List.replicate s f):=by
 unfold iQ;rw[List.range_succ,List.flatMap_append];simp
def Q3 (ps:List Pc)(c s f:Int):Prop:=PV ps c∧1≤s∧s≤64∧0≤f∧f≤255
open Classical in
noncomputable def N8 (ps:List Pc)(c s f:Int):Option Bs:=if Q3 ps c s f then some (iQ ps s.toNat (UInt8.ofNat f.toNat) c.toNat) else none
theorem NM {ps:List Pc}{c s f:Int}(h:Q3 ps c s f):N8 ps c s f=some (iQ ps s.toNat (UInt8.ofNat f.toNat) c.toNat):=by unfold N8;rw[if_pos h]
theorem Y9 {ps:List Pc}{c:Int}(b:RG ps c):∀k:Nat,∃a:Nat,AtN ps a k∧(ig ps k).length+a=k
 |0=>⟨0,LV b,rfl⟩
 |k+1=>by
  obtain⟨a,g,i⟩:=Y9 b k;by_cases h:∃i:a<ps.length,ps[a].1=(k:Int)
  ·obtain⟨h1,h2⟩:=h
   obtain⟨e,f⟩:=KW b g h1 h2;exact⟨a+1,f,by rw[Oy e];omega⟩
  ·obtain⟨e,f⟩:=NY b g fun h1 h2=>h ⟨h1,h2⟩
   exact⟨a,f,by rw[SI e];simp;omega⟩
theorem KG {ps:List Pc}{c:Int}(h:PV ps c):(ig ps c.toNat).length+ps.length=c.toNat:=by
 obtain⟨a,b,g⟩:=Y9 h.2.2 c.toNat;have e:a=ps.length:=by
  by_cases f:a<ps.length
  ·have h1:=b.2.2 a f (Nat.le_refl _)
   have h2:=(h.2.2.1 a f).2.1;have:=h.1;omega
  ·have:=b.1;omega
 omega
end Go.Proofs.YtoedhpcmgondjaaGreatDoor
namespace Go.Proofs.YtoedhpcmgondjaaGreatDoor
open Go.RowKit
set_option maxRecDepth 100000
attribute [local go_sem high] zG zF zH zV zN yu zD zl zn zt zi zu y9 zK yE zJ
end Go.Proofs.YtoedhpcmgondjaaGreatDoor
namespace Go.Proofs.YtoedhpcmgondjaaGreatDoor
open Go.RowKit
theorem bn {K:Kn}(hk:K.ok)(n:Int){d:Bs}(e:d.length≤64):(xY K n d).dat K=some d:=by
 cases a:uh K d with
 |none=>rw[X9 a];unfold Blk.dat;rw[if_pos rfl]
 |some s=>
  rw[WB a];split
  ·rename_i f
   have b:fits K.o K.l K.m d:=by
    by_cases b:fits K.o K.l K.m d
    ·exact b
    ·unfold uh at a;rw[if_neg b] at a;cases a
   have c:s=K.comp d:=(by unfold uh at a;rw[if_pos b] at a;injection a with a;exact a.symm);subst c;have h:=MH hk b.2.2 b.2.1 (by have:=Z4 K d hk.base0 b.2.1;omega) oo;unfold Blk.dat;rw[if_neg (by simp),h,if_neg (by simp)]
  ·unfold Blk.dat;rw[if_pos rfl]
structure Made (K : Kn) (X d : Bs) (size : Nat) (bs : List Blk) (cs : List Bs) : Prop where
 num : oI 0 bs
 cat : vJ bs = X
 siz : zo bs = (d.length : Int)
 len : bs.length = cs.length
 dat : ∀ (i : Nat) (h : i < bs.length) (h' : i < cs.length), bs[i].dat K = some cs[i] ∧ bs[i].size = (cs[i].length : Int)
 bd : ∀ x ∈ cs, 1 ≤ x.length ∧ x.length ≤ size
 flat : cs.flatten = d
 most : bs.length ≤ 40
 small : d.length ≤ 2000
theorem Jg (f:Nat)(bs:List Blk)(i:Nat)(h:i<(uf f bs).length)(a:i<bs.length):(uf f bs)[i]= { bs[i] with num:=((f+i:Nat):Int) } :=by
 induction bs generalizing f i with
 |nil=>simp at a
 |cons b bs c=>
  cases i with
  |zero=>simp [uf]
  |succ i=>
   simp only[uf,List.getElem_cons_succ];have:=c (f+1) i (by simpa [uf] using h) (by simpa using a);rw[this,show f+1+i=f+(i+1) by omega]
theorem PL (f:Nat)(bs:List Blk)(h:∀b ∈ bs,b.ok=true)(a:f+bs.length≤40):oI f (uf f bs):=by
 induction bs generalizing f with
 |nil=>trivial
 |cons b bs e=>
  rw[List.length_cons] at a;exact⟨QI (h b (by simp)) (by omega) (by omega),rfl,e (f+1) (fun c g=>h c (by simp [g])) (by omega)⟩
theorem Jl {o l m:Int}{dict d X:Bs}{size:Int}(h:mkC o l m dict d size=some X):
 ∃(n:Nat) (bs:List Blk) (cs:List Bs),size=n∧1≤n∧n≤64∧fits o l m dict∧(zA o l m dict).ok∧Made (zA o l m dict) X d n bs cs:=by
 unfold mkC at h;split at h
 ·rename_i f
  obtain⟨a,h1,h2,q,g⟩:=f;injection h with h
  obtain⟨n,rfl⟩:=Int.eq_ofNat_of_zero_le (by omega:0≤size);rw[Int.toNat_natCast] at h;have hk:=xN a;have b:(mks (zA o l m dict) n d.length d).length=(chunks n d.length d).length:=(by unfold mks;rw[List.length_map]);have j:(chunks n d.length d).length≤40:=tZ n oo 40 _ d oo;refine⟨n,uf 0 (mks (zA o l m dict) n d.length d),chunks n d.length d,rfl,oo,oo,a,hk,?_,?_,?_,?_,?_,?_,?_,?_,g⟩
  ·exact PL 0 _ (Z5 hk n _ oo oo d) oo
  ·rw[←h];unfold mkB;rw[Z7]
  ·rw[Y0,XT _ _ _ (by omega) d (Nat.le_refl _)]
  ·rw[Ze,b]
  ·intro i k p
   have c:=mO n oo d.length d (chunks n d.length d)[i] (List.getElem_mem p);rw[Jg 0 _ i k (by omega)];have e:(mks (zA o l m dict) n d.length d)[i]'(by omega)=xY (zA o l m dict) 0 (chunks n d.length d)[i]:=(by unfold mks;rw[List.getElem_map]);rw[e,Tn];exact⟨bn hk _ oo,bI _ _ _⟩
  ·exact fun x c=>mO n oo d.length d x c
  ·exact lh n oo d.length d (Nat.le_refl _)
  ·rw[Ze,b];exact j
 ·cases h
section
variable {K : Kn} {X d : Bs} {n : Nat} {bs : List Blk} {cs : List Bs}
theorem Made.blocks (h:Made K X d n bs cs):zX X=some bs:=by
 rw[←h.cat];exact ZX h.num (by have:=h.siz;have:=h.small;omega)
theorem Made.ok (h:Made K X d n bs cs):∀b ∈ bs,b.ok=true:=aG h.num
theorem Made.short (h:Made K X d n bs cs):X.length≤2960:=(xI h.blocks).1
theorem Made.find (h:Made K X d n bs cs):dM X=iY 0 bs:=by
 have h1:=KN h.ok (by rw[h.cat];have:=h.short;omega);rw[h.cat] at h1;exact h1
theorem OD {f:Nat}{bs:List Blk}(h:oI f bs)(i:Nat)(a:i<bs.length):(bs.find? fun b=>decide (b.num=((f+i:Nat):Int)))=some bs[i]:=by
 rw[List.find?_eq_some_iff_getElem];refine⟨by simpa using(kN h i a).2,i,a,rfl,fun j c=> ?_⟩;have:=(kN h j oo).2;simp only[Bool.not_eq_true',decide_eq_false_iff_not];omega
theorem Made.first (h:Made K X d n bs cs)(i:Nat)(a:i<bs.length):fD (dM X) (i:Int)=some bs[i]:=by
 rw[h.find,jY];have:=OD h.num i a
 rwa [Nat.zero_add] at this
def mD (cs:List Bs)(k:Nat):List Pc:=(List.range k).filterMap fun i:Nat=>cs[i]?.map fun x=>((i:Int),x)
theorem iI (cs:List Bs)(k:Nat)(h:k<cs.length):mD cs (k+1)=mD cs k++[((k:Int),cs[k])]:=by
 unfold mD;rw[List.range_succ,List.filterMap_append];simp [List.getElem?_eq_getElem h]
theorem rG (cs:List Bs)(k:Nat)(h:k≤cs.length):(mD cs k).length=k:=by
 induction k with
 |zero=>rfl
 |succ k a=>rw[iI cs k (by omega),List.length_append,a (by omega)];rfl
theorem fJ (cs:List Bs)(k i:Nat)(h:k≤cs.length)(a:i<(mD cs k).length):∃e:i<cs.length,(mD cs k)[i]=((i:Int),cs[i]):=by
 induction k with
 |zero=>simp [mD] at a
 |succ k b=>
  have f:=rG cs (k+1) h;have c:=rG cs k oo;by_cases g:i<k
  ·obtain⟨h1,h2⟩:=b oo oo
   refine⟨h1,?_⟩;simp only[iI cs k (by omega)];rw[List.getElem_append_left (by omega)];exact h2
  ·have:i=k:=oo
   subst this;refine⟨by omega,?_⟩;simp only[iI cs i (by omega)];rw[List.getElem_append_right (by omega)];simp [c]
theorem Made.has (h:Made K X d n bs cs)(i:Nat)(c:i<cs.length):ah (mD cs cs.length) (i:Int)=some cs[i]:=by
 have f:=rG cs cs.length (Nat.le_refl _);have a:i<(mD cs cs.length).length:=oo;obtain⟨_,e⟩:=fJ cs cs.length i (Nat.le_refl _) a;rw[XX a (by rw[e]) (fun j g=>by
  obtain⟨_,b⟩:=fJ cs cs.length j (Nat.le_refl _) oo;rw[b];simp;omega),e]
theorem Made.pv (h:Made K X d n bs cs)(f:n≤64):PV (mD cs cs.length) cs.length:=by
 have g:=rG cs cs.length (Nat.le_refl _);have j:=h.most;have k:=h.len;refine⟨by omega,oo,(LX _ _).2 fun i a=> ?_⟩;obtain⟨h1,e⟩:=fJ cs cs.length i (Nat.le_refl _) a;have b:=h.bd cs[i] (List.getElem_mem h1);unfold YY;rw[e];refine⟨by simp,by simp;omega,b.1,by simp;omega,fun h0=> ?_⟩;obtain⟨_,c⟩:=fJ cs cs.length (i - 1) (Nat.le_refl _) oo;rw[c];simp;omega
theorem Made.lost (h:Made K X d n bs cs)(b:n≤64):MW (mD cs cs.length) cs.length=[]:=by
 have a:=h.pv b;have c:=rG cs cs.length (Nat.le_refl _);rw[Nk a];have:=KG a;rw[Int.toNat_natCast] at this⊢;exact List.eq_nil_of_length_eq_zero oo
theorem XQ (cs:List Bs)(ps:List Pc)(s:Nat)(f:UInt8)(a:∀i (b:i<cs.length),ah ps (i:Int)=some cs[i]):∀k,k≤cs.length→iQ ps s f k=(cs.take k).flatten
 |0,_=>by simp [iQ]
 |k+1,h=>by
  have e:cs.take (k+1)=cs.take k++[cs[k]]:=List.take_succ_eq_append_getElem oo;rw[TA,XQ cs ps s f a k (by omega),a k (by omega),e,List.flatten_append];simp only[Option.getD_some,List.flatten_cons,List.flatten_nil,List.append_nil]
theorem Made.join (h:Made K X d n bs cs)(e:1≤n)(a:n≤64):N8 (mD cs cs.length) cs.length n 0=some d:=by
 have b:=h.pv a;rw[NM (show Q3 (mD cs cs.length) cs.length n 0 from⟨b,by omega,by omega,by omega,by omega⟩),Int.toNat_natCast,Int.toNat_natCast,XQ cs _ _ _ (fun i c=>h.has i c) cs.length (Nat.le_refl _),List.take_length,h.flat]
theorem Uf {X:Bs}(h:Made K X d n bs cs):∀k,k≤bs.length→(ZW (bs.take k) (dM X)).length=k
 |0,_=>rfl
 |k+1,hk=>by
  have b:=h.first k oo;have a:=(kN h.num k oo).2;rw[Nat.zero_add] at a;rw[List.take_succ_eq_append_getElem (by omega),SX,if_pos (by rw[a];exact b),List.length_append,Uf h k (by omega)];rfl
theorem Made.Ik (h:Made K X d n bs cs):(JG X X).length=bs.length:=by
 unfold JG;rw[h.blocks];have:=Uf h bs.length (Nat.le_refl _)
 rwa [List.take_length] at this
end
theorem KX (K:Kn)(b:Blk)(k:Int):({ b with num:=k } :Blk).dat K=b.dat K:=by unfold Blk.dat;rfl
theorem uk (K:Kn)(b:Blk)(bs:List Blk):yM K (b::bs)=(b.dat K).bind fun d=>(yM K bs).map (d++·):=rfl
theorem jP (K:Kn)(bs cs:List Blk):yM K (bs++cs)=(yM K bs).bind fun x=>(yM K cs).map (x++·):=by
 induction bs with
 |nil=>simp only[List.nil_append,yM,Option.bind_some];cases yM K cs<;>simp
 |cons c bs a=>
  rw[List.cons_append,uk,uk,a]
  cases c.dat K with
  |none=>rfl
  |some d=>
   simp only[Option.bind_some]
   cases yM K bs with
   |none=>rfl
   |some x=>simp only[Option.bind_some,Option.map_some];cases yM K cs<;>simp
theorem SS (K:Kn)(f:Nat)(bs:List Blk):yM K (uf f bs)=yM K bs:=by
 induction bs generalizing f with
 |nil=>rfl
 |cons b bs a=>rw[uf,uk,uk,a,KX]
theorem Vr {K:Kn}(hk:K.ok)(a:List Bs)(h:∀x ∈ a,x.length≤64):yM K (a.map (xY K 0))=some a.flatten:=by
 induction a with
 |nil=>rfl
 |cons x a b=>rw[List.map_cons,uk,bn hk 0 (h x (by simp)),Option.bind_some,b (fun y c=>h y (by simp [c]))];rfl
theorem Ol {K:Kn}(hk:K.ok){n:Nat}(h1:1≤n)(h2:n≤64)(d:Bs):yM K (mks K n d.length d)=some d:=by
 unfold mks;rw[Vr hk _ (fun x a=>by have:=mO n h1 d.length d x a;omega),lh n h1 d.length d (Nat.le_refl _)]
theorem QZ {bs:List Blk}{X:Bs}(c:∀b ∈ bs,b.ok=true)(h:mcO bs=some X):zX X=some (uf 0 bs)∧bs.length≤40∧zo bs≤2000:=by
 unfold mcO at h;split at h
 ·rename_i a
  injection h with h
  rw[←h];exact⟨ZX (PL 0 bs c (by omega)) (by rw[Y0];exact a.2),a.1,a.2⟩
 ·cases h
theorem RI {o l m:Int}{dict:Bs}(a:fits o l m dict){bs:List Blk}{X:Bs}(c:∀b ∈ bs,b.ok=true)(h:mcO bs=some X):cdB o l m dict X=yM (zA o l m dict) bs:=by
 rw[sU a (QZ c h).1,SS]
def nwO (K:Kn)(d:Bs)(size:Int):Option (List Blk):=if 1≤size∧size≤64∧d.length≤2000∧(d.length:Int)≤size*40 then some (mks K size.toNat d.length d) else none
theorem UK {K:Kn}{d:Bs}{size:Int}{bs:List Blk}(h:nwO K d size=some bs):∃n:Nat,size=n∧1≤n∧n≤64∧d.length≤2000∧d.length≤n*40∧bs=mks K n d.length d:=by
 unfold nwO at h;split at h
 ·rename_i a
  injection h with h
  obtain⟨n,rfl⟩:=Int.eq_ofNat_of_zero_le (by omega:0≤size);exact⟨n,rfl,by omega,by omega,a.2.2.1,by omega,by rw[←h,Int.toNat_natCast]⟩
 ·cases h
theorem VP {K:Kn}(hk:K.ok){d:Bs}{size:Int}{bs:List Blk}(h:nwO K d size=some bs):(∀b ∈ bs,b.ok=true)∧bs.length≤40:=by
 obtain⟨n,rfl,h1,h2,a,c,rfl⟩:=UK h;refine⟨Z5 hk n _ h1 h2 d,?_⟩;unfold mks;rw[List.length_map];exact tZ n h1 40 _ d oo
theorem Pg {K:Kn}(hk:K.ok){d:Bs}{size:Int}{bs:List Blk}(h:nwO K d size=some bs):yM K bs=some d:=by
 obtain⟨n,rfl,h1,h2,a,b,rfl⟩:=UK h;exact Ol hk h1 h2 d
def apD (o l m:Int)(dict t d:Bs)(size:Int):Option Bs:=if fits o l m dict then(zX t).bind fun bs=>(nwO (zA o l m dict) d size).bind fun cs=>mcO (bs++cs) else none
theorem pW {bs cs:List Blk}(h1:∀b ∈ bs,b.ok=true)(h2:∀b ∈ cs,b.ok=true):∀b ∈ bs++cs,b.ok=true:=fun b a=>by
 rcases List.mem_append.1 a with h|h
 ·exact h1 b h
 ·exact h2 b h
theorem xC {α a:Type}{o:Option α}{f:α→Option a}{y:a}(h:o.bind f=some y):∃x,o=some x∧f x=some y:=by
 cases o with
 |none=>cases h
 |some x=>exact⟨x,rfl,h⟩
theorem LZ {o l m:Int}{dict t d X:Bs}{size:Int}(h:apD o l m dict t d size=some X):
 ∃bs cs,fits o l m dict∧zX t=some bs∧nwO (zA o l m dict) d size=some cs∧mcO (bs++cs)=some X∧∀b ∈ bs++cs,b.ok=true:=by
 unfold apD at h;split at h
 ·rename_i a
  obtain⟨bs,c,h⟩:=xC h;obtain⟨cs,e,h⟩:=xC h;exact⟨bs,cs,a,c,e,h,pW (xU c) (VP (xN a) e).1⟩
 ·cases h
theorem KF {o l m:Int}{dict t d X y:Bs}{size:Int}(h:apD o l m dict t d size=some X)(b:cdB o l m dict t=some y):cdB o l m dict X=some (y++d):=by
 obtain⟨bs,cs,a,c,e,f,g⟩:=LZ h;rw[sU a c] at b;rw[RI a g f,jP,b,Option.bind_some,Pg (xN a) e];rfl
def wG (K:Kn)(s f t:Int)(b:Blk):Option (List Blk):=
 if min (s+b.size) t≤max s f then some [] else
 if max s f=s∧min (s+b.size) t=s+b.size then some [b] else
 (b.dat K).map fun d=>[xY K 0 ((d.drop (max s f - s).toNat).take (min (s+b.size) t - max s f).toNat)]
def vF (K:Kn)(f t:Int):Int→List Blk→Option (List Blk)
 |_,[]=>some []
 |s,b::bs=>(wG K s f t b).bind fun x=>(vF K f t (s+b.size) bs).map (x++·)
theorem au (K:Kn)(f t:Int)(bs:List Blk)(b:Blk)(s:Int):vF K f t s (bs++[b])=(vF K f t s bs).bind fun x=>(wG K (s+zo bs) f t b).map (x++·):=by
 induction bs generalizing s with
 |nil=>simp only[List.nil_append,vF,Option.bind_some];rw[show zo []=0 from rfl,Int.add_zero];cases wG K s f t b<;>simp
 |cons c bs a=>
  rw[List.cons_append,vF,vF,a,ql,Int.add_assoc]
  cases wG K s f t c with
  |none=>rfl
  |some d=>
   simp only[Option.bind_some]
   cases vF K f t (s+c.size) bs with
   |none=>rfl
   |some x=>simp only[Option.bind_some,Option.map_some];cases wG K (s+(c.size+zo bs)) f t b<;>simp
theorem Wl {K:Kn}{f t:Int}{bs:List Blk}{k:Nat}{x y:List Blk}(hk:k<bs.length)(h:vF K f t 0 (bs.take k)=some x)(a:wG K (zo (bs.take k)) f t bs[k]=some y):vF K f t 0 (bs.take (k+1))=some (x++y):=by
 rw[List.take_succ_eq_append_getElem hk,au,h,Int.zero_add,a];rfl
theorem Xu {K:Kn}{f t:Int}{bs:List Blk}(h:vF K f t 0 bs=none)(cs:List Blk):vF K f t 0 (bs++cs)=none:=by
 induction cs using xx with
 |h0=>simpa using h
 |h1 cs c a=>rw[←List.append_assoc,au,a];rfl
theorem XJ {K:Kn}{f t:Int}{bs:List Blk}{k:Nat}(hk:k<bs.length)(a:wG K (zo (bs.take k)) f t bs[k]=none):vF K f t 0 bs=none:=by
 have h:vF K f t 0 (bs.take (k+1))=none:=by
  rw[List.take_succ_eq_append_getElem hk,au,Int.zero_add,a];cases vF K f t 0 (bs.take k)<;>rfl
 have e:=Xu h (bs.drop (k+1))
 rwa [List.take_append_drop] at e
theorem Oj {K:Kn}(hk:K.ok){s f t:Int}{b:Blk}{x:List Blk}(e:b.ok=true)(h:wG K s f t b=some x):(∀c ∈ x,c.ok=true)∧x.length≤1:=by
 unfold wG at h;split at h
 ·injection h with h;subst h;exact⟨fun c a=>(by cases a),by simp⟩
 ·rename_i h1
  split at h
  ·injection h with h;subst h;exact⟨fun c a=>by simp at a;rw[a];exact e,by simp⟩
  ·rename_i h2
   cases hd:b.dat K with
   |none=>rw[hd] at h;cases h
   |some d=>
    rw[hd] at h;injection h with h
    subst h;have g:=tY e hd;have i:=Blk.vT e;refine⟨fun c a=> ?_,by simp⟩;simp at a;rw[a];exact V5 hk (by omega) (by omega) (by simp;omega) (by simp;omega)
theorem jy {K:Kn}(hk:K.ok){f t:Int} :∀(bs:List Blk) (s:Int) (x:List Blk),(∀b ∈ bs,b.ok=true)→vF K f t s bs=some x→(∀c ∈ x,c.ok=true)∧x.length≤bs.length
 |[],s,x,_,h=>by
  injection h with h;subst h;exact⟨fun c a=>(by cases a),by simp⟩
 |b::bs,s,x,e,h=>by
  rw[vF] at h;obtain⟨y,g,h⟩:=xC h
  cases a:vF K f t (s+b.size) bs with
  |none=>rw[a] at h;cases h
  |some z=>
   rw[a] at h;injection h with h
   subst h;obtain⟨i,k⟩:=Oj hk (e b (by simp)) g;obtain⟨j,l⟩:=jy hk bs _ z (fun c a=>e c (by simp [a])) a;refine⟨pW i j,?_⟩;rw[List.length_append,List.length_cons];omega
def Z9 (s f t:Int)(d:Bs):Bs:=(d.take (t - s).toNat).drop (f - s).toNat
theorem Lt (s f t:Int)(d e:Bs)(a:0≤f - s∨True):Z9 s f t (d++e)=Z9 s f t d++Z9 (s+d.length) f t e:=by
 unfold Z9;rw[List.take_append,List.drop_append,List.length_take,show(t - (s+(d.length:Int))).toNat=(t - s).toNat - d.length by omega];by_cases h:(t - s).toNat≤d.length
 ·rw[show(t - s).toNat - d.length=0 by omega];simp
 ·rw[Nat.min_eq_right (by omega),show(f - s).toNat - d.length=(f - (s+(d.length:Int))).toNat by omega]
theorem QD {K:Kn}(hk:K.ok){s f t:Int}{b:Blk}{x:List Blk}{d:Bs}(c:b.ok=true)(a:b.dat K=some d)(h:wG K s f t b=some x):yM K x=some (Z9 s f t d):=by
 have e:=tY c a;have g:=Blk.vT c;unfold wG at h;split at h
 ·rename_i h1
  injection h with h;subst h
  unfold Z9;rw[List.drop_of_length_le (by rw[List.length_take];omega)];rfl
 ·rename_i h1
  split at h
  ·rename_i h2
   injection h with h;subst h
   unfold Z9;rw[uk,a,List.take_of_length_le (by omega),show(f - s).toNat=0 by omega];simp [yM]
  ·rename_i h2
   rw[a] at h;injection h with h;subst h
   rw[uk,bn hk 0 (by simp;omega)];unfold Z9;rw[Option.bind_some,show yM K []=some [] from rfl,Option.map_some,List.append_nil,List.take_drop];by_cases i:t≤s+b.size
   ·rw[show(max s f - s).toNat+(min (s+b.size) t - max s f).toNat=(t - s).toNat by omega,show(max s f - s).toNat=(f - s).toNat by omega]
   ·rw[List.take_of_length_le (show d.length≤(t - s).toNat by omega),List.take_of_length_le (show d.length≤(max s f - s).toNat+(min (s+b.size) t - max s f).toNat by omega),show(max s f - s).toNat=(f - s).toNat by omega]
theorem Yo {K:Kn}(hk:K.ok){f t:Int} :∀(bs:List Blk) (s:Int) (x:List Blk) (d:Bs),(∀b ∈ bs,b.ok=true)→yM K bs=some d→vF K f t s bs=some x→yM K x=some (Z9 s f t d)
 |[],s,x,d,_,a,h=>by
  injection h with h;subst h;injection a with a;subst a;unfold Z9;simp [yM]
 |b::bs,s,x,d,g,a,h=>by
  rw[vF] at h;rw[uk] at a;obtain⟨y,j,h⟩:=xC h;obtain⟨p,i,a⟩:=xC a
  cases e:vF K f t (s+b.size) bs with
  |none=>rw[e] at h;cases h
  |some z=>
   cases hd2:yM K bs with
   |none=>rw[hd2] at a;cases a
   |some k=>
    rw[e] at h;rw[hd2] at a;injection h with h
    injection a with a
    subst h a;have l:=QD hk (g b (by simp)) i j;have m:=tY (g b (by simp)) i;have o:=Yo hk bs (s+b.size) z k (fun c e=>g c (by simp [e])) hd2 e;rw[jP,l,Option.bind_some,o,Lt _ _ _ _ _ (.inr trivial),m];rfl
def rpD (o l m:Int)(dict t:Bs)(f e:Int)(d:Bs)(size:Int):Option Bs:=if fits o l m dict then
 (zX t).bind fun bs=>if 0≤f∧f≤e∧e≤zo bs then(nwO (zA o l m dict) d size).bind fun cs=>(vF (zA o l m dict) 0 f 0 bs).bind fun a=>(vF (zA o l m dict) e (zo bs) 0 bs).bind fun es=>mcO (a++cs++es) else none
 else none
theorem Le {o l m:Int}{dict t d X:Bs}{f e size:Int}(h:rpD o l m dict t f e d size=some X):
 ∃bs cs a es,fits o l m dict∧zX t=some bs∧0≤f∧f≤e∧e≤zo bs∧nwO (zA o l m dict) d size=some cs∧vF (zA o l m dict) 0 f 0 bs=some a∧vF (zA o l m dict) e (zo bs) 0 bs=some es∧mcO (a++cs++es)=some X∧∀b ∈ a++cs++es,b.ok=true:=by
 unfold rpD at h;split at h
 ·rename_i i
  obtain⟨bs,c,h⟩:=xC h;split at h
  ·rename_i g
   obtain⟨cs,j,h⟩:=xC h;obtain⟨a,k,h⟩:=xC h;obtain⟨es,p,h⟩:=xC h;have hk:=xN i;exact⟨bs,cs,a,es,i,c,g.1,g.2.1,g.2.2,j,k,p,h,pW (pW (jy hk bs 0 a (xU c) k).1 (VP hk j).1) (jy hk bs 0 es (xU c) p).1⟩
  ·cases h
 ·cases h
theorem MX {o l m:Int}{dict t d X y:Bs}{f e size:Int}(h:rpD o l m dict t f e d size=some X)(a:cdB o l m dict t=some y):
 0≤f∧f≤e∧e≤y.length∧cdB o l m dict X=some (y.take f.toNat++d++y.drop e.toNat):=by
 obtain⟨bs,cs,g,es,c,b,h1,h2,v,i,j,k,p,q⟩:=Le h;have hk:=xN c;rw[sU c b] at a;have r:=OG (xU b) a;have s:=Yo hk bs 0 g y (xU b) a j;have u:=Yo hk bs 0 es y (xU b) a k;refine⟨h1,h2,oo,?_⟩;rw[RI c q p,jP,jP,s,Option.bind_some,Pg hk i,Option.map_some,Option.bind_some,u,Option.map_some];unfold Z9;rw[←r];simp
def uw (K:Kn)(size:Int)(a:List Blk×Bs)(b:Blk)(d:Bs):List Blk×Bs:=
 if a.1≠[]∧((a.2.length:Int)+d.length)≤size then(a.1.dropLast++[xY K 0 (a.2++d)],a.2++d) else(a.1++[b],d)
def qL (K:Kn)(size:Int):List Blk×Bs→List Blk→Option (List Blk×Bs)
 |a,[]=>some a
 |a,b::bs=>(b.dat K).bind fun d=>qL K size (uw K size a b d) bs
theorem aA (K:Kn)(size:Int)(bs:List Blk)(b:Blk)(a:List Blk×Bs):qL K size a (bs++[b])=(qL K size a bs).bind fun x=>(b.dat K).map fun d=>uw K size x b d:=by
 induction bs generalizing a with
 |nil=>simp only[List.nil_append,qL,Option.bind_some];cases b.dat K<;>rfl
 |cons c bs e=>
  rw[List.cons_append,qL,qL]
  cases c.dat K with
  |none=>rfl
  |some d=>simp only[Option.bind_some];exact e _
theorem bQ {K:Kn}{size:Int}{bs:List Blk}{k:Nat}{x:List Blk×Bs}{d:Bs}(hk:k<bs.length)(h:qL K size ([],[]) (bs.take k)=some x)(a:bs[k].dat K=some d):qL K size ([],[]) (bs.take (k+1))=some (uw K size x bs[k] d):=by
 rw[List.take_succ_eq_append_getElem hk,aA,h,a];rfl
theorem Xk {K:Kn}{size:Int}{bs:List Blk}(h:qL K size ([],[]) bs=none)(cs:List Blk):qL K size ([],[]) (bs++cs)=none:=by
 induction cs using xx with
 |h0=>simpa using h
 |h1 cs c a=>rw[←List.append_assoc,aA,a];rfl
theorem Nu {K:Kn}{size:Int}{bs:List Blk}{k:Nat}(hk:k<bs.length)(a:bs[k].dat K=none):qL K size ([],[]) bs=none:=by
 have h:qL K size ([],[]) (bs.take (k+1))=none:=by
  rw[List.take_succ_eq_append_getElem hk,aA,a];cases qL K size ([],[]) (bs.take k)<;>rfl
 have e:=Xk h (bs.drop (k+1))
 rwa [List.take_append_drop] at e
structure lN (K : Kn) (size : Int) (a : List Blk × Bs) (n : Nat) (y : Bs) : Prop where
 ok : ∀ b ∈ a.1, b.ok = true
 len : a.1.length ≤ n
 dat : yM K a.1 = some y
 last : ∀ (h : a.1 ≠ []), (a.1.getLast h).dat K = some a.2 ∧ (a.1.getLast h).size = (a.2.length : Int)
 nil : a.1 = [] → y = []
theorem lN.zero (K:Kn)(size:Int):lN K size ([],[]) 0 []:=⟨fun b a=>(by cases a),by simp,rfl,fun h=>absurd rfl h,fun _=>rfl⟩
theorem lN.step {K:Kn}(hk:K.ok){size:Int}(h2:size≤64){a:List Blk×Bs}{n:Nat}{y:Bs}(h:lN K size a n y){b:Blk}{d:Bs}(j:b.ok=true)(k:b.dat K=some d):lN K size (uw K size a b d) (n+1) (y++d):=by
 have p:=tY j k;have r:=Blk.vT j;obtain⟨i,l⟩:=a;unfold uw;simp only at*;by_cases f:i≠[]∧((l.length:Int)+d.length)≤size
 ·rw[if_pos f]
  obtain⟨m,s⟩:=f;obtain⟨q,t⟩:=h.last m;have e:=List.dropLast_concat_getLast m;have g:=h.dat;rw[←e,uJ,q] at g
  cases hx:yM K i.dropLast with
  |none=>rw[hx] at g;cases g
  |some x=>
   rw[hx] at g;injection g with g
   have u:i.dropLast.length+1=i.length:=by
    have:=congrArg List.length e;rw[List.length_append,List.length_singleton] at this;exact this
   have o:(xY K 0 (l++d)).dat K=some (l++d):=bn hk 0 (by rw[List.length_append];omega);refine⟨fun c f=> ?_,?_,?_,fun _=> ?_,fun h0=> ?_⟩
   ·rcases List.mem_append.1 f with f|f
    ·exact h.ok c (List.dropLast_subset _ f)
    ·simp at f;rw[f];exact V5 hk (by omega) (by omega) (by rw[List.length_append];omega) (by rw[List.length_append];omega)
   ·have:=h.len;simp only[List.length_append,List.length_singleton] at*;omega
   ·rw[uJ,hx,o,←g];simp
   ·rw[List.getLast_concat];exact⟨o,bI _ _ _⟩
   ·simp at h0
 ·rw[if_neg f]
  refine⟨pW h.ok (fun c f=>by simp at f;rw[f];exact j),?_,?_,fun _=> ?_,fun h0=> ?_⟩
  ·have:=h.len;simp only[List.length_append,List.length_singleton] at*;omega
  ·rw[uJ,h.dat,k];rfl
  ·rw[List.getLast_concat];exact⟨k,p.symm⟩
  ·simp at h0
theorem Su {K:Kn}(hk:K.ok){size:Int}(h2:size≤64){bs:List Blk}(c:∀b ∈ bs,b.ok=true):∀(k:Nat) (y:Bs),k≤bs.length→yM K (bs.take k)=some y→∃a,qL K size ([],[]) (bs.take k)=some a∧lN K size a k y
 |0,y,_,h=>⟨([],[]),rfl,by injection h with h;subst h;exact lN.zero K size⟩
 |k+1,y,i,h=>by
  rw[List.take_succ_eq_append_getElem (by omega),uJ] at h;obtain⟨x,e,h⟩:=xC h
  cases hd:bs[k].dat K with
  |none=>rw[hd] at h;cases h
  |some d=>
   rw[hd] at h;injection h with h
   subst h;obtain⟨a,f,g⟩:=Su hk h2 c k x oo e;exact⟨_,bQ oo f hd,g.step hk h2 (c _ (List.getElem_mem _)) hd⟩
def mgD (o l m:Int)(dict t:Bs)(size:Int):Option Bs:=if fits o l m dict∧1≤size∧size≤64 then(zX t).bind fun bs=>(qL (zA o l m dict) size ([],[]) bs).bind fun a=>mcO a.1 else none
theorem WG {K:Kn}{size:Int} :∀(bs:List Blk) (a x:List Blk×Bs),qL K size a bs=some x→∃y,yM K bs=some y
 |[],a,x,_=>⟨[],rfl⟩
 |b::bs,a,x,h=>by
  rw[qL] at h;obtain⟨d,c,h⟩:=xC h;obtain⟨y,e⟩:=WG bs _ _ h;exact⟨d++y,by rw[uk,c,Option.bind_some,e];rfl⟩
theorem Uk {o l m:Int}{dict t X:Bs}{size:Int}(h:mgD o l m dict t size=some X):
 ∃bs a y,fits o l m dict∧1≤size∧size≤64∧zX t=some bs∧yM (zA o l m dict) bs=some y∧lN (zA o l m dict) size a bs.length y∧mcO a.1=some X:=by
 unfold mgD at h;split at h
 ·rename_i b
  obtain⟨bs,e,h⟩:=xC h;obtain⟨a,f,h⟩:=xC h;obtain⟨y,g⟩:=WG bs _ _ f;obtain⟨j,c,i⟩:=Su (xN b.1) (size:=size) b.2.2 (xU e) bs.length y (Nat.le_refl _) (by rw[List.take_length];exact g);rw[List.take_length,f] at c;injection c with c
  subst c;exact⟨bs,a,y,b.1,b.2.1,b.2.2,e,g,i,h⟩
 ·cases h
theorem MN {o l m:Int}{dict t X:Bs}{size:Int}(h:mgD o l m dict t size=some X):∃y,cdB o l m dict t=some y∧cdB o l m dict X=some y:=by
 obtain⟨bs,a,y,b,h1,h2,e,f,c,g⟩:=Uk h;exact⟨y,by rw[sU b e,f],by rw[RI b c.ok g,c.dat]⟩
end Go.Proofs.YtoedhpcmgondjaaGreatDoor
namespace Go.Proofs.YtoedhpcmgondjaaGreatDoor
open Go.Lib(hid)
open Go.RowKit Go.Proofs.Tryz
set_option maxRecDepth 100000
attribute [local instance] mU hZ cvZ
attribute [local go_sem high] zG zF zH zV zN yu zD zl zn zt zi zu y9 zK yE zJ
theorem YV (bs:List Blk):∀u ∈ zY bs,u.oneCell'=true:=by
 intro u a;unfold zY at a;obtain⟨b,_,c⟩:=List.mem_flatMap.1 a;simp only[bkL,List.mem_cons,List.not_mem_nil,or_false] at c;rcases c with rfl|rfl|rfl|rfl<;>rfl
theorem fA (bs:List Blk)(A:Option Addr)(cap:Nat)(w:World)(f:Sl w A bs.length cap 4 (zY bs))(j:∀b ∈ bs,b.ok=true)(G:bs.length≤1000000):
 Calls prog 125 #[.slice A bs.length cap] w (rT w (.int .i64 (zo bs))):=by
 have l:=hid j;have H:=f.1;go_enter func125,ntmps125;go_wp2;have u:Hid (∀wr,Below w.heap.size w wr→Sl wr A bs.length cap 4 (zY bs)):=fun wr h=>f.below h;clear f j;go_loopw [3,4] (fun s i wr=>∃k:Nat,s= .int .i64 (zo (bs.take k))∧i= .int .i64 k∧k≤bs.length∧Below w.heap.size w wr) (fun _ i _=>bs.length - (intOf i).toNat)
 case atStart=>exact⟨0,rfl,rfl,oo,zy⟩
 case round=>
  obtain⟨k,rfl,rfl,hk,a⟩:=hrel;have I:=a.size;have v:=uu (bs.take k) (fun b a=>l.out b (List.mem_of_mem_take a));have m:(bs.take k).length≤1000000:=(by simp;omega);have J:=hid m;obtain⟨L,x⟩:=v;have M:zo (bs.take k)≤64000000:=oo;clear x m;by_cases c:k<bs.length
  ·have y:(k:Int)<bs.length:=oo
   have o:=u.out wr a;obtain⟨g,N,rfl,O,p⟩:=Sl.jf o c;have q:=qp bs k c;have z:=p 2 _ q.2.2.1;clear p q o;have B:=Blk.vT (l.out bs[k] (List.getElem_mem c));obtain⟨C,E,_,_⟩:=B;have t:Hid (zo (bs.take (k+1))=zo (bs.take k)+bs[k].size):=(by show _=_;rw[List.take_succ_eq_append_getElem c,uj]);generalize bs[k]=b at*;obtain⟨P,r,Q,D⟩:=b;simp only[Nat.add_zero] at z C E t;generalize zo (bs.take k)=S at*;go_wp2;go_roundw
   case rel=>exact⟨k+1,(by rw[t.out]),by go_num,by omega,zy⟩
   case measure=>simp [intOf];omega
  ·have y:¬(k:Int)<bs.length:=oo
   have F:Hid (zo (bs.take k)=zo bs):=(by show _=_;rw[List.take_of_length_le (by omega)]);go_wp2;go_ret;exact⟨yZ F.out,a⟩
theorem QT (bs:List Blk)(A:Option Addr)(cap:Nat)(w:World)(c:Sl w A bs.length cap 4 (zY bs))(f:∀b ∈ bs,b.ok=true)(i:bs.length≤1000000):
 Calls prog 150 #[.slice A bs.length cap] w (rT w (.bool (decide (bs.length≤40∧zo bs≤2000)))):=by
 have g:=fA bs A cap w c f i;have m:=c.1;have j:=uu bs f;by_cases h:bs.length≤40
 ·have k:(bs.length:Int)≤40:=oo
  have a:decide (bs.length≤40∧zo bs≤2000)=decide (zo bs≤2000):=(by simp [h]);rw[a];clear a j c f;generalize zo bs=z at*;go_enter func150,ntmps150;go_wp2_with fail;refine g.mono ?_;rintro e o ⟨rfl,l⟩;go_wp2;go_ret;exact⟨zS (by first|rfl|simp),l⟩
 ·have k:¬(bs.length:Int)≤40:=oo
  have a:decide (bs.length≤40∧zo bs≤2000)=false:=(by simp [h]);rw[a];clear a g;go_enter func150,ntmps150;go_wp2;go_ret;exact⟨rfl,Below.refl _ _⟩
theorem Rq (bs:List Blk)(k:Nat)(h:k<bs.length):uf 0 (bs.take (k+1))=uf 0 (bs.take k)++[{ bs[k] with num:=(k:Int) }]:=by
 rw[List.take_succ_eq_append_getElem h,WN,List.length_take,Nat.min_eq_left (by omega),Nat.zero_add]
theorem Un (bs:List Blk)(A:Option Addr)(cap:Nat)(w:World)(m:Sl w A bs.length cap 4 (zY bs))(x:∀b ∈ bs,b.ok=true)(W:bs.length≤40):
 Calls prog 151 #[.slice A bs.length cap,.int .i64 0] w (rT w (sv (vJ (uf 0 bs)))):=by
 have Y:=m.1;have Z:=m.2.1;have M:=hid x;have N:Hid (∀wr,Below w.heap.size w wr→Sl wr A bs.length cap 4 (zY bs)):=fun wr h=>m.below h;obtain⟨T,q⟩:∃T,vJ (uf 0 bs)=T:=⟨_,rfl⟩;rw[q];have O:=hid q;clear m x q;go_enter func151,ntmps151;go_wp2;go_loopw [5,6] (fun a i wr=>∃(k:Nat) (X:Bs),a=sv X∧i= .int .i64 (k:Int)∧k≤bs.length∧X.length≤74*k∧Hid (vJ (uf 0 (bs.take k))=X)∧Below w.heap.size w wr) (fun _ i _=>bs.length - (intOf i).toNat)
 case atStart=>exact⟨0,[],rfl,rfl,by omega,by simp,rfl,zy⟩
 case round=>
  obtain⟨k,X,rfl,rfl,hk,hX,s,o⟩:=hrel;have P:=o.size;by_cases p:k<bs.length
  ·have Q:(k:Int)<bs.length:=oo
   have y:=N.out wr o;obtain⟨g,a1,rfl,hg,c⟩:=Sl.jf y p;have f:=qp bs k p;have z:=c 0 _ f.1;have B:=c 1 _ f.2.1;have C:=c 2 _ f.2.2.1;have E:=c 3 _ f.2.2.2;have j:=QI (M.out bs[k] (List.getElem_mem p)) (n:=(k:Int)) oo oo;have t:=hid (Rq bs k p);generalize bs[k]=b at*;obtain⟨n2,r,l,D⟩:=b;simp only at j t;have a4:=WY j;have F:=Blk.vT j;have G:=qO j;have H:=fun w=>fC ⟨(k:Int),r,l,D⟩ w (by unfold Blk.sm;simp only at F G⊢;omega);have R:Hid (vJ (uf 0 (bs.take (k+1)))=X++(⟨(k:Int),r,l,D⟩:Blk).text):=(by show _=_;rw[t.out,az,s.out]);generalize(⟨(k:Int),r,l,D⟩:Blk).text=d at*;simp only[Nat.add_zero] at z B C E;have u:=Bk.new wr (bkC ⟨(k:Int),r,l,D⟩) 122;have I:Below wr.heap.size wr (wr.alloc (.cells (bkC ⟨(k:Int),r,l,D⟩) 122)):=zy;have J:=o.trans (I.mono P);clear c f s t j y I F G;go_upto_region 7 with(fail)
   generalize wr.alloc (.cells _ 122)=a5 at*;have S:=u.cell;have a6:=u.lt;have hq:¬9223372036854775807<X.length+d.length:=oo;clear z B C E;go_wp2_with fail;refine(H _).mono ?_;rintro e w2 ⟨rfl,v⟩;have z2:=v.size;have U:=J.trans (v.mono oo);have L:(X++d).length≤74*(k+1):=(by simp;omega);have V:=hid L;clear H v u J S L;go_wp2;go_roundw
   case rel=>exact⟨k+1,X++d,by first|rfl|(simp [sv];done),by go_num,by omega,V.out,R,U⟩
   case measure=>simp [intOf];omega
  ·have Q:¬(k:Int)<bs.length:=oo
   have h:T=X:=(by rw[←O.out,←s.out,List.take_of_length_le (by omega)]);subst h;go_wp2;go_ret;exact⟨rfl,o⟩
theorem lU (bs:List Blk)(A:Option Addr)(cap:Nat)(w:World)(f:Sl w A bs.length cap 4 (zY bs))(g:∀b ∈ bs,b.ok=true)(j:bs.length≤1000000):
 Calls prog 122 #[.slice A bs.length cap] w (rS w (yA (mcO bs))):=by
 have i:=QT bs A cap w f g j;by_cases h:bs.length≤40∧zo bs≤2000
 ·have k:Hid (∀wr,Below w.heap.size w wr→Calls prog 151 #[.slice A bs.length cap,.int .i64 0] wr (rT wr (sv (vJ (uf 0 bs))))):=fun wr l=>Un bs A cap wr (f.below l) g h.1
  have a:mcO bs=some (vJ (uf 0 bs)):=(by unfold mcO;rw[if_pos h]);rw[a];rw[decide_eq_true h] at i;unfold yA;clear a h f g;generalize vJ (uf 0 bs)=T at*;go_enter func122,ntmps122;go_wp2_with fail;refine i.mono ?_;rintro e m ⟨rfl,c⟩;go_wp2_with fail;refine(k.out _ c).mono ?_;rintro e q ⟨rfl,o⟩;have p:=c.size;go_wp2;exact bodyPost_ret (v:=.tuple #[sv T,.bool true]) (by simp [results,results122,go_sem]) rfl ⟨rfl,c.trans (o.mono p)⟩
 ·have a:mcO bs=none:=by unfold mcO;rw[if_neg h]
  rw[a];rw[decide_eq_false h] at i;unfold yA;clear a h f g;go_enter func122,ntmps122;go_wp2_with fail;refine i.mono ?_;rintro e m ⟨rfl,c⟩;go_wp2;exact bodyPost_ret (v:=.tuple #[sv [],.bool false]) (by simp [results,results122,go_sem]) rfl ⟨rfl,c⟩
theorem Ym (d:Bs)(size:Int)(w:World)(c:d.length≤9223372036854775807)(f: -1000000≤size)(g:size≤1000000):
 Calls prog 121 #[sv d,size] w (rT w (.bool (decide (2000<d.length∨size*40<(d.length:Int))))):=by
 by_cases h:2000<d.length
 ·have b:(2000:Int)<d.length:=oo
  have a:decide (2000<d.length∨size*40<(d.length:Int))=true:=(by simp [h]);rw[a];go_enter func121,ntmps121;go_wp2;go_ret;exact⟨rfl,Below.refl _ _⟩
 ·have b:¬(2000:Int)<d.length:=oo
  have a:decide (2000<d.length∨size*40<(d.length:Int))=decide (size*40<(d.length:Int)):=(by simp [h]);rw[a];go_enter func121,ntmps121;go_wp2;go_ret;exact⟨zS (by first|rfl|simp),Below.refl _ _⟩
theorem iZ (o l m:Int)(dict:Bs)(size:Int)(w:World)(j:dict.length≤9223372036854775807):
 Calls prog 120 #[.agg #[(o:Int),l,m],sv dict,size] w (rT w (.bool (decide (fits o l m dict∧1≤size∧size≤64)))):=by
 have c:=fun w=>qy o l m dict w j;have k:=fun w=>QA size 1 64 w;by_cases h:fits o l m dict
 ·have a:decide (fits o l m dict∧1≤size∧size≤64)=decide (1≤size∧size≤64):=by simp [h]
  rw[a];rw[decide_eq_true h] at c;clear a h;go_enter func120,ntmps120;have b:Bk (w.alloc (.cells #[(o:Int),l,m] 24)) w.heap.size 24 #[(o:Int),l,m]:=tBk;have g:Below w.heap.size w (w.alloc (.cells #[(o:Int),l,m] 24)):=zy;go_upto_region 1 with(fail)
  generalize w.alloc (.cells #[(o:Int),l,m] 24)=p at*;have q:=b.cell;have r:=b.lt;go_wp2_with fail;refine(c _).mono ?_;rintro e s ⟨rfl,i⟩;have f:=g.trans (i.mono oo);have v:=f.size;go_wp2_with fail;refine(k _).mono ?_;rintro e x ⟨rfl,t⟩;have u:=f.trans (t.mono oo);go_wp2;go_ret;exact⟨zS (by first|rfl|simp),u⟩
 ·have a:decide (fits o l m dict∧1≤size∧size≤64)=false:=by simp [h]
  rw[a];rw[decide_eq_false h] at c;clear a h;go_enter func120,ntmps120;have b:Bk (w.alloc (.cells #[(o:Int),l,m] 24)) w.heap.size 24 #[(o:Int),l,m]:=tBk;have g:Below w.heap.size w (w.alloc (.cells #[(o:Int),l,m] 24)):=zy;go_upto_region 1 with(fail)
  generalize w.alloc (.cells #[(o:Int),l,m] 24)=p at*;have q:=b.cell;have r:=b.lt;go_wp2_with fail;refine(c _).mono ?_;rintro e s ⟨rfl,i⟩;have f:=g.trans (i.mono oo);go_wp2;go_ret;exact⟨rfl,f⟩
theorem Zg (o l m:Int)(dict d:Bs)(size:Nat)(w:World)(O:fits o l m dict)(c':1≤size)(d0:size≤64)(Q:d.length≤2000):
 Calls prog 123 #[.agg #[(o:Int),l,m],sv dict,sv d,(size:Int)] w fun e w'=>∃A cap,e= .returned (.slice A (mks (zA o l m dict) size d.length d).length cap)∧w'.ownsRow w.heap.size 122 4 (.slice A (mks (zA o l m dict) size d.length d).length cap) (mks (zA o l m dict) size d.length d).length (zY (mks (zA o l m dict) size d.length d))∧Below w.heap.size w w':=by
 obtain⟨i,hi,b2,b3,b4⟩:=info_parts wH;have cM:Hid (∀(x:Bs) wr,x.length≤2000→Calls prog 129 #[.agg #[(o:Int),l,m],sv dict,.int .i64 0,sv x] wr (rT wr (bkV (xY (zA o l m dict) 0 x)))):=fun x wr hx=>oL o l m dict 0 x wr O oo;clear O;generalize zA o l m dict=K at*;have b6:Hid (mks K size d.length d=[]++mks K size d.length d):=rfl;obtain⟨p,E⟩:∃p,mks K size d.length d=p:=⟨_,rfl⟩;rw[E];have R:Hid (p=[]++mks K size d.length d):=E.symm;clear E b6;go_enter func123,ntmps123;have U:Bk (w.alloc (.cells #[(o:Int),l,m] 24)) w.heap.size 24 #[(o:Int),l,m]:=tBk;have V:Below w.heap.size w (w.alloc (.cells #[(o:Int),l,m] 24)):=zy;have s0:(w.alloc (.cells #[(o:Int),l,m] 24)).heap.size=w.heap.size+1:=(by simp);go_upto_region 1 with(fail)
 generalize w.alloc (.cells #[(o:Int),l,m] 24)=W at*;have F:=vS (base:=w.heap.size+1) (size:=4) (Bk.new W #[] 122) oo;rw[s0] at F;have Y:=U.alloc (.cells #[] 122);have Z:=V.alloc oo (.cells #[] 122);go_upto_region 2 with(fail)
 generalize W.alloc (.cells #[] 122)=w1 at*;clear U V;go_loopw [2,9] (fun a b wr=>∃(D:Bs) (j:Nat) (P:List Blk) (u:Option Addr) (v:Nat),a=sv D∧b= .slice u P.length v∧D.length≤j∧D.length≤2000∧P.length+D.length≤2000∧Hid (p=P++mks K size j D)∧wr.ownsRow (w.heap.size+1) 122 4 (.slice u P.length v) P.length (zY P)∧Bk wr w.heap.size 24 #[(o:Int),l,m]∧Below w.heap.size w wr) (fun a _ _=>UR a)
 case atStart=>exact⟨d,d.length,[],_,0,rfl,rfl,Nat.le_refl _,Q,by simpa using Q,R,F,Y,Z⟩
 case round=>
  obtain⟨D,j,P,u,v,rfl,rfl,hj,hD,d5,G,ow,H,g⟩:=hrel;clear Y Z F R;have hz:=g.size;have b8:=H.lt;by_cases q:D=[]
  ·subst q
   have HE:Hid (p=P):=(by show _=_;rw[G.out,VG,List.append_nil]);go_wp2;go_ret;exact⟨u,v,by rw[HE.out];rfl,by rw[HE.out];exact zI ow (by omega),g⟩
  ·have d7:=List.length_pos_iff.2 q
   have d8:(decide (D=[]))=false:=(by simpa using q);have d9:(D != [])=true:=(by simpa using q);obtain⟨y,rfl⟩:∃y,j=y+1:=⟨j - 1,oo⟩;obtain⟨e,he⟩:∃e:Nat,e=min size D.length:=⟨_,rfl⟩;have b':min (size:Int) (D.length:Int)=(e:Int):=oo;have d':e≤D.length:=oo;have e0:1≤e:=oo;have a2:D.take e=D.take size:=by
    by_cases c0:size≤D.length
    ·rw[show e=size by omega]
    ·rw[List.take_of_length_le (by omega),List.take_of_length_le (by omega)]
   have a3:D.drop e=D.drop size:=by
    by_cases c0:size≤D.length
    ·rw[show e=size by omega]
    ·rw[List.drop_of_length_le (by omega),List.drop_of_length_le (by omega)]
   have a4:Hid (p=(P++[xY K 0 (D.take e)])++mks K size y (D.drop e)):=by
    show _=_;rw[G.out,Qi _ _ _ q,a2,a3];simp
   have I:=fun wr=>cM.out (D.take e) wr (by simp;omega);obtain⟨b,hb⟩:∃b,xY K 0 (D.take e)=b:=⟨_,rfl⟩;rw[hb] at a4 I;have e1:(D.drop e).length=D.length - e:=(by simp);have c1:P.length+1≤maxLen:=(by unfold maxLen;omega);have c2:(P.length+1)*40≤140737488355328:=oo;clear hb a2 a3 G he q;obtain⟨f,r,h,T⟩:=b;have z:=H.cell;go_upto_region 4 with(fail)
   refine wp_region_held_drew (S:=(fun w'=>w'.cell? ⟨w.heap.size,0,none⟩=some (.int .i64 o)∧w'.cell? ⟨w.heap.size,1,none⟩=some (.int .i64 l)∧w'.cell? ⟨w.heap.size,2,none⟩=some (.int .i64 m))) kr ?_ (fun J=> ?_);focus((refine⟨?_,?_,?_⟩;all_goals first|(simp [B];done)|(simp [C];done)|(simp [z];done)|exact(c.alloc _).cell 0|exact(c.alloc _).cell 1|exact(c.alloc _).cell 2))
   refine tk 0 ?_;refine tk 1 ?_;refine tk 2 ?_;refine tk 3 ?_;refine tk 4 ?_;refine tk 5 ?_;try simp only[Act.put,rR]
   refine rd1 6 fun KK s=> ?_;go_simp
   (go_at_call 129;refine(I _).mono ?_;rintro e8 w8 ⟨rfl,t⟩;have t:Below wr.heap.size wr w8:=zB t;have z8:=t.size;have c:=H.below t b8;have L:=zf ow t;have g8:=g.trans (t.mono oo);have C:=c.cell)
   refine s.out _ _ (by(refine⟨?_,?_,?_⟩;all_goals first|(simp [B];done)|(simp [C];done)|(simp [z];done)|exact(c.alloc _).cell 0|exact(c.alloc _).cell 1|exact(c.alloc _).cell 2)) fun J=> ?_;try simp only[Act.put,rR]
   refine rd1 7 fun KK s=> ?_;go_simp;refine s.out _ _ (by(refine⟨?_,?_,?_⟩;all_goals first|(simp [B];done)|(simp [C];done)|(simp [z];done)|exact(c.alloc _).cell 0|exact(c.alloc _).cell 1|exact(c.alloc _).cell 2)) fun J=> ?_;try simp only[Act.put,rR]
   refine rd1 8 fun KK s=> ?_
   ((refine uQ _ rfl _ _ 97 rfl (w.heap.size+1) 122 i _ 4 40 underlying97 hi b2 b3 b4 rfl (by omega) (.slice u P.length v) P.length (zY P) rfl (L.alloc _) (some ⟨_,0,none⟩) 1 1 [.int .i64 f,.bool r,.int .i64 h,.string ⟨T.toArray⟩] rfl (Sl.new w8 #[(f:Int),.bool r,h,T] _ 1 4 (by simp) (by omega)) (by simp [Value.oneCell']) c1 c2 (by first|omega|(simp<;>omega)) ?_);intro a8 a9 c4 a' M c5;have b0:=Bk.grown (c.alloc _) M (fun k hk=>by have:=(L.lt k hk).1;omega);have c6:=(g8.alloc (by omega) _).grown M (by simp;omega) (fun k hk=>by have:=(L.lt k hk).1;omega);have B:=b0.cell)
   refine s.out _ _ (by(refine⟨?_,?_,?_⟩;all_goals first|(simp [B];done)|(simp [C];done)|(simp [z];done)|exact(c.alloc _).cell 0|exact(c.alloc _).cell 1|exact(c.alloc _).cell 2)) fun J=> ?_;try simp only[Act.put,rR]
   refine tk 9 ?_;try simp only[Act.put,rR]
   refine wpAnyH_done kr ?_ _;simp only[Act.put,yW];have N:(P++[(⟨f,r,h,T⟩:Blk)]).length=P.length+1:=(by simp);have c7:c4.ownsRow (w.heap.size+1) 122 4 (.slice a8 (P++[(⟨f,r,h,T⟩:Blk)]).length a9) (P++[(⟨f,r,h,T⟩:Blk)]).length (zY (P++[(⟨f,r,h,T⟩:Blk)])):=(by rw[N,xW];exact a');rw[←N];have c8:(P++[(⟨f,r,h,T⟩:Blk)]).length+(D.drop e).length≤2000:=oo;generalize P++[(⟨f,r,h,T⟩:Blk)]=P2 at*;clear s b' N a' M c5 I;go_wp2;go_roundw
   case rel=>exact⟨D.drop e,y,P2,a8,a9,by first|rfl|(simp [sv];done),rfl,by omega,by omega,c8,a4,c7,b0,c6⟩
   case measure=>simp [UR];omega
theorem Zp (o l m:Int)(dict t d:Bs)(size:Int)(w:World)(hl:dict.length≤9223372036854775807)(a2:t.length≤1500000)(hd:d.length≤9223372036854775807)(a4: -1000000≤size)(a5:size≤1000000):
 Calls prog 87 #[.agg #[(o:Int),l,m],sv dict,sv t,sv d,size] w (rS w (yA (apD o l m dict t d size))):=by
 obtain⟨i,hi,a7,a8,a9⟩:=info_parts wH;have s:=fun w=>qP t w a2;unfold lM at s;have H:=fun w=>iZ o l m dict size w hl;have I:=fun w=>Ym d size w hd a4 a5;have c:Hid ((zX t=none∨¬(fits o l m dict∧1≤size∧size≤64)∨(2000<d.length∨size*40<(d.length:Int)))→apD o l m dict t d size=none):=fun h=>by
  unfold apD nwO;by_cases u:fits o l m dict
  ·rw[if_pos u]
   rcases h with h|h|h
   ·rw[h];rfl
   ·rw[if_neg (fun h2=>h ⟨u,h2.1,h2.2.1⟩)];cases zX t<;>rfl
   ·rw[if_neg (fun h2=>by omega)];cases zX t<;>rfl
  ·rw[if_neg u]
 have x:Hid (∀bs,zX t=some bs→(fits o l m dict∧1≤size∧size≤64)→¬(2000<d.length∨size*40<(d.length:Int))→apD o l m dict t d size=mcO (bs++mks (zA o l m dict) size.toNat d.length d)):=fun bs h1 h2 h3=>by
  unfold apD nwO;rw[if_pos h2.1,h1,if_pos ⟨h2.2.1,h2.2.2,by omega,by omega⟩];rfl
 obtain⟨R,J⟩:∃R,apD o l m dict t d size=R:=⟨_,rfl⟩;rw[J] at c x⊢;clear J;go_enter func87,ntmps87;have y:Bk (w.alloc (.cells #[(o:Int),l,m] 24)) w.heap.size 24 #[(o:Int),l,m]:=tBk;have z:Below w.heap.size w (w.alloc (.cells #[(o:Int),l,m] 24)):=zy;go_upto_region 1 with(fail)
 generalize w.alloc (.cells #[(o:Int),l,m] 24)=w0 at*;go_wp2_with fail;refine(s _).mono ?_;rintro e w1 ⟨A1,c7,rfl,j,p⟩;have z0:=z.size;have z1:=p.size;have b0:=y.lt;have q:=y.below p b0;have B:=z.trans (p.mono oo);have b1:=q.cell;have b2:=q.lt;clear y z p s
 cases hB:zX t with
 |none=>
  have h:=c.out (.inl hB);subst h;simp only[hB,Option.elim_none,Option.isSome_none];go_wp2;exact bodyPost_ret (v:=.tuple #[sv [],.bool false]) (by simp [results,results87,go_sem]) rfl ⟨rfl,B⟩
 |some bs=>
  have L:=xU hB;have c':=(xI hB).2;rw[hB] at j;simp only[hB,Option.elim_some,Option.isSome_some,Option.getD_some] at j⊢;go_wp2_with fail;refine(H _).mono ?_;rintro e w2 ⟨rfl,f⟩;have z2:=f.size;have C:=q.below f b2;have D:=B.trans (f.mono oo);have b3:=C.cell;have M:=zf j f;clear q B f H b1 j;by_cases a:fits o l m dict∧1≤size∧size≤64
  case neg=>
   have h:=c.out (.inr (.inl a));subst h;rw[decide_eq_false a];clear a;go_wp2;exact bodyPost_ret (v:=.tuple #[sv [],.bool false]) (by simp [results,results87,go_sem]) rfl ⟨rfl,D⟩
  rw[decide_eq_true a];go_wp2_with fail;refine(I _).mono ?_;rintro e w3 ⟨rfl,g⟩;have z3:=g.size;have N:=C.below g oo;have E:=D.trans (g.mono oo);have b4:=N.cell;have O:=zf M g;clear C D g I b3 M;by_cases b:2000<d.length∨size*40<(d.length:Int)
  case pos=>
   have h:=c.out (.inr (.inr b));subst h;rw[decide_eq_true b];clear a b;go_wp2;exact bodyPost_ret (v:=.tuple #[sv [],.bool false]) (by simp [results,results87,go_sem]) rfl ⟨rfl,E⟩
  rw[decide_eq_false b];have h:=x.out bs hB a b;obtain⟨n,rfl⟩:=Int.eq_ofNat_of_zero_le (by omega:0≤size);rw[Int.toNat_natCast] at h;have hk:=xN a.1;have d4:(mks (zA o l m dict) n d.length d).length≤40:=by
   unfold mks;rw[List.length_map];exact tZ n (by omega) 40 _ d (by omega)
  have P:=pW L (Z5 hk n d.length oo oo d);have Q:=fun w=>Zg o l m dict d n w a.1 oo oo oo;generalize mks (zA o l m dict) n d.length d=cs at*;have F:Hid (∀A cap wr,Sl wr A (bs++cs).length cap 4 (zY (bs++cs))→Calls prog 122 #[.slice A (bs++cs).length cap] wr (rS wr (yA (mcO (bs++cs))))):=fun A cap wr hs=>lU (bs++cs) A cap wr hs P (by rw[List.length_append];omega);have b6:bs.length+cs.length≤maxLen:=(by unfold maxLen;omega);have b7:(bs.length+cs.length)*40≤140737488355328:=oo;have S:(bs++cs).length=bs.length+cs.length:=(by simp);have T:zY (bs++cs)=zY bs++zY cs:=(by unfold zY;rw[List.flatMap_append]);rw[S,T] at F;have b8:∀b9 ∈ zY cs,b9.oneCell'=true:=YV cs;rw[←h] at F;clear a b P S T h c x hk L;go_wp2_with fail;refine(Q _).mono ?_;rintro e w4 ⟨A4,c4,rfl,U,r⟩;have z4:=r.size;have V:=E.trans (r.mono oo);have G:=zf O r;have W:=Sl.own U;clear N E r Q b4 O U;go_wp2_with(at_builtin;go_must(refine zT _ rfl _ _ 97 rfl w0.heap.size 122 i _ 4 40 underlying97 hi a7 a8 a9 rfl oo _ _ _ rfl G _ cs.length c4 (zY cs) rfl W b8 b6 b7 ?_ ?_))
  ·omega
  intro A6 c6 w6 Y Z _;have g6:=V.grown Z oo (fun k hk=>by have:=(G.lt k hk).1;omega);have s6:=Sl.own Y;have z6:=g6.size;clear G W Y Z V;go_wp2_with fail;refine(F.out _ _ _ s6).mono ?_;rintro e w7 ⟨rfl,c1⟩;have g7:=g6.trans (c1.mono oo);unfold yA;go_wp2;exact bodyPost_ret (v:=.tuple #[sv (R.getD []),.bool R.isSome]) (by simp [results,results87,go_sem]) rfl ⟨rfl,g7⟩
