import Derived.Test.YtfppmajoidkooaaGreatDoorUGP1
import Derived.Test.YtfppmajoidkooaaGreatDoorUGA
import Derived.Test.YtfppmajoidkooaaGreatDoorUGT
import Derived.Test.YtfppmajoidkooaaGreatDoorUGS4
import Derived.Test.YtfppmajoidkooaaGreatDoorUGB
set_option linter.unusedVariables false
set_option linter.unusedSimpArgs false
set_option maxHeartbeats 8000000
namespace Go.Proofs.YtfppmajoidkooaaGreatDoor
open Go.RowKit
set_option maxRecDepth 100000
attribute [local go_sem high] zy zA zB zO zK zY zx zk zl zq zi zo yP zD yt zF
def mz (x:Int):Nat:=if x<0 then 0 else(8001 - x).toNat
theorem Sl.jw {w:World}{A:Option Addr}{n cap size:Nat}{cs:List Value}(h:Sl w A n cap size cs){k:Nat}(hk:k<n):∃g off,A=some ⟨g,off,none⟩∧g<w.heap.size∧∀j u,cs[k*size+j]? =some u→w.cell? ⟨g,off+k*size+j,none⟩=some u:=by
 obtain⟨_,_,_,h4⟩:=h;obtain⟨g,off,rfl,hg,hc⟩:=h4 oo;exact⟨g,off,rfl,hg,fun j u hu=>by rw[Nat.add_assoc];exact hc _ _ hu⟩
theorem xW :(Tryz.prog.info? 160).map (fun i=>(i.zero,i.size,i.bytes))=some (some (.agg #[.int .i64 0,.bool false,.int .i64 0,.string ⟨#[]⟩]),4,40):=by kernel_rfl
theorem OE {w:World}{B:Nat}{e:TypeId}{A:Option Addr}{n cap size:Nat}{cs:List Value}(h:w.ownsRow B e size (.slice A n cap) n cs):Sl w A n cap size cs:=by
 obtain⟨A',cap',h1,h2⟩:=Sl.sN h;injection h1 with e1 e2 e3
 subst e1 e3;exact h2
def bkL (b:Blk):List Value:=[.int .i64 b.num,.bool b.raw,.int .i64 b.size,.string ⟨b.body.toArray⟩]
def zS (bs:List Blk):List Value:=bs.flatMap bkL
theorem xE (bs:List Blk)(b:Blk):zS (bs++[b])=zS bs++bkL b:=by unfold zS;rw[List.flatMap_append];simp
theorem xQ (bs:List Blk):(zS bs).length=bs.length*4:=by
 induction bs with
 |nil=>rfl
 |cons f fs ih=>unfold zS at*;rw[List.flatMap_cons,List.length_append,ih];simp [bkL];omega
theorem ql (bs:List Blk)(k:Nat)(h:k<bs.length):(zS bs)[k*4+0]? =some (.int .i64 bs[k].num)∧(zS bs)[k*4+1]? =some (.bool bs[k].raw)∧(zS bs)[k*4+2]? =some (.int .i64 bs[k].size)∧(zS bs)[k*4+3]? =some (.string ⟨bs[k].body.toArray⟩):=by
 have e:bs=bs.take k++(bs[k]::bs.drop (k+1)):=(by rw[List.getElem_cons_drop,List.take_append_drop]);have hl:(zS (bs.take k)).length=k*4:=(by rw[xQ,List.length_take];omega);have e2:zS bs=zS (bs.take k)++(bkL bs[k]++zS (bs.drop (k+1))):=by
  conv=>lhs;rw[e]
  unfold zS;rw[List.flatMap_append,List.flatMap_cons]
 rw[e2];refine⟨?_,?_,?_,?_⟩<;>(rw[List.getElem?_append_right (by omega),hl];simp [bkL])
def mM (o:Option (List Blk))(w:World)(e:Ending)(w':World):Prop:=
 ∃A cap,e= .returned (.tuple #[.slice A (o.getD []).length cap,.bool o.isSome])∧w'.ownsRow w.heap.size 160 4 (.slice A (o.getD []).length cap) (o.getD []).length (zS (o.getD []))∧Below w.heap.size w w'
theorem vT (bs:List Blk)(b:Blk):zn (bs++[b])=zn bs+b.size:=by unfold zn;rw[List.foldl_append];rfl
theorem Blk.vk {b:Blk}(h:b.ok=true):1≤b.size∧b.size≤64∧0≤b.num∧b.num<40:=by
 obtain⟨n,r,s,d⟩:=b;rw[Blk.lZ] at h;exact⟨h.2.2.1,h.2.2.2.1,h.1,h.2.1⟩
theorem vJ (bs:List Blk)(h:∀b ∈ bs,b.ok=true):0≤zn bs∧zn bs≤64*bs.length:=by
 induction bs using y5 with
 |h0=>simp [zn]
 |h1 bs b ih=>
  rw[vT];have h1:=ih (fun c hc=>h c (by simp [hc]));have h2:=Blk.vk (h b (by simp));simp;omega
theorem fQ {l:Bs}{n:Nat}{a:Int}{acc:List Blk}(h:(l.length:Int)≤a):y8 l (n+1) a acc=if zn acc≤2000 then some acc else none:=by rw[y8,if_pos h]
theorem bH {l:Bs}{n:Nat}{a:Int}{acc:List Blk}(h:¬(l.length:Int)≤a)(hp:yM l a=true)(hn:(xq l a).num=acc.length):y8 l (n+1) a acc=y8 l n (yT l a) (acc++[xq l a]):=by
 rw[y8,if_neg h,if_pos ⟨hp,hn⟩]
theorem qo {l:Bs}{n:Nat}{a:Int}{acc:List Blk}(h:¬(l.length:Int)≤a)(hp:¬(yM l a=true∧(xq l a).num=acc.length)):y8 l (n+1) a acc=none:=by
 rw[y8,if_neg h,if_neg hp]
theorem ik (bs:List Blk)(A:Option Addr)(cap:Nat)(w:World)(hs:Sl w A bs.length cap 4 (zS bs))(hok:∀b ∈ bs,b.ok=true)(hl:bs.length≤1000000):
 Calls Tryz.prog 138 #[.slice A bs.length cap] w fun e w'=>e= .returned (.int .i64 (zn bs))∧Below w.heap.size w w':=by
 have HOK:=Go.Lib.hid hok;have hcap:=hs.1;go_enter Tryz.func138,Tryz.ntmps138;go_wp2;have hS:Hid (∀wr,Below w.heap.size w wr→Sl wr A bs.length cap 4 (zS bs)):=fun wr h=>hs.below h;clear hs hok;go_loopw [3,8] (fun s i wr=>∃k:Nat,s= .int .i64 (zn (bs.take k))∧i= .int .i64 k∧k≤bs.length∧Below w.heap.size w wr) (fun _ i _=>bs.length - (intOf i).toNat)
 case atStart=>exact⟨0,rfl,rfl,oo,zu⟩
 case round=>
  obtain⟨k,rfl,rfl,hk,hb⟩:=hrel;have hbs:=hb.size;have hsb:=vJ (bs.take k) (fun b hb=>HOK.out b (List.mem_of_mem_take hb));have htl:(bs.take k).length≤1000000:=(by simp;omega);have HTL:=Go.Lib.hid htl;obtain⟨hsb1,hsb2⟩:=hsb;have hsb3:zn (bs.take k)≤64000000:=oo;clear hsb2 htl;by_cases hlt:k<bs.length
  ·have hki:(k:Int)<bs.length:=oo
   have hsr:=hS.out wr hb;obtain⟨g,off,rfl,hg,hc⟩:=Sl.jw hsr hlt;have hcs:=ql bs k hlt;have c0:=hc 0 _ hcs.1;have c1:=hc 1 _ hcs.2.1;have c2:=hc 2 _ hcs.2.2.1;have c3:=hc 3 _ hcs.2.2.2;clear hc hcs hsr;have hsz:=Blk.vk (HOK.out bs[k] (List.getElem_mem hlt));obtain⟨hz1,hz2,_,_⟩:=hsz;have HS2:Hid (zn (bs.take (k+1))=zn (bs.take k)+bs[k].size):=(by show _=_;rw[List.take_succ_eq_append_getElem hlt,vT]);generalize bs[k]=b at*;obtain⟨n2,r,n4,D⟩:=b;simp only[Nat.add_zero] at c0 c1 c2 c3 hz1 hz2 HS2;generalize zn (bs.take k)=S at*;go_wp2;go_roundw
   case rel=>exact⟨k+1,(by rw[HS2.out]),by go_num,by omega,zu⟩
   case measure=>simp [intOf];omega
  ·have hki:¬(k:Int)<bs.length:=oo
   have HE:Hid (zn (bs.take k)=zn bs):=(by show _=_;rw[List.take_of_length_le (by omega)]);go_wp2;go_ret;exact⟨yN HE.out,hb⟩
theorem qc (l:Bs)(w:World)(hs:l.length≤1500000):
 Calls Tryz.prog 104 #[.string ⟨l.toArray⟩] w (mM (zT l) w):=by
 obtain⟨i,hi,hz0,hz1,hz2⟩:=info_parts xW;have HG0:Hid (zT l=y8 l (l.length+1) 0 []):=rfl;generalize zT l=G at*;have HR:Hid (mM G w=mM G w):=rfl;go_enter Tryz.func104,Tryz.ntmps104;go_wp2;go_loopw [4,5] (fun a b wr=>∃(A:Option Addr) (cap m x:Nat) (acc:List Blk),a= .slice A acc.length cap∧b= .int .i64 x∧x≤l.length∧l.length<m+x∧10*acc.length≤x∧Hid (∀b ∈ acc,b.ok=true)∧Hid (G=y8 l m x acc)∧wr.ownsRow w.heap.size 160 4 (.slice A acc.length cap) acc.length (zS acc)∧Below w.heap.size w wr) (fun _ b _=>l.length - (intOf b).toNat)
 case atStart=>exact⟨none,0,l.length+1,0,[],rfl,rfl,by omega,by omega,by simp,fun b hb=>(by cases hb),HG0,⟨by simp [zS],.inl ⟨rfl,rfl⟩⟩,zu⟩
 case round=>
  obtain⟨A,cap,m,x,acc,rfl,rfl,hx,hm,ha,HOK,HG,hown,hb⟩:=hrel;have hws:=hb.size;clear HG0;obtain⟨m',rfl⟩:∃m',m=m'+1:=⟨m - 1,oo⟩;by_cases hlt:x<l.length
  ·have hxi:(x:Int)<l.length:=oo
   have hxn:¬(l.length:Int)≤(x:Int):=oo;by_cases hp:yM l x=true
   ·have hpb:=eu hp
    obtain⟨_,hpb1,hpb2,hbok⟩:=hpb;have cP:=fun w=>Sm l x w oo oo oo hp;have HGY:Hid ((xq l x).num=acc.length→G=y8 l m' (yT l x) (acc++[xq l x])):=fun h=>(by rw[HG.out,bH hxn hp h]);have HGN:Hid (¬(xq l x).num=acc.length→G=none):=fun h=>(by rw[HG.out,qo hxn (fun h2=>h h2.2)]);clear hp HG hxn;have HBOK:=Go.Lib.hid hbok;clear hbok;generalize xq l x=b at*;generalize yT l x=ex at*;obtain⟨y,rfl⟩:=Int.eq_ofNat_of_zero_le (by omega:0≤ex);obtain⟨n2,r,n4,D⟩:=b;simp only at HGY HGN;by_cases hn:n2=acc.length
    ·have hd:(n2 != (acc.length:Int))=false:=by simpa using hn
     have HG2:=Go.Lib.hid (HGY.out hn);clear HGY HGN hn;have hm1:acc.length+1≤maxLen:=(by unfold maxLen;omega);have hm2:(acc.length+1)*40≤140737488355328:=oo;go_wp2_with fail;refine(cP _).mono ?_;rintro e w2 ⟨rfl,hb2⟩;have y2:=hb2.size;have o2:=(zf hown hb2).alloc (.cells (bkC ⟨n2,r,n4,D⟩) 160);have g2:Below w.heap.size w (w2.alloc (.cells (bkC ⟨n2,r,n4,D⟩) 160)):=by
      have h:=hb.trans (hb2.mono oo);exact zu
     clear cP hb2 hb hown;go_wp2_with(at_builtin;go_must(refine zN _ rfl _ _ 133 rfl (w.heap.size) 160 i _ 4 40 Tryz.underlying133 hi hz0 hz1 hz2 rfl (by omega) _ _ _ rfl (o2.alloc _) _ 1 1 [.int .i64 n2,.bool r,.int .i64 n4,.string ⟨D.toArray⟩] rfl (Sl.newAt (w2.alloc (.cells (bkC ⟨n2,r,n4,D⟩) 160)) #[.int .i64 n2,.bool r,.int .i64 n4,.string ⟨D.toArray⟩] _ 1 4 (by first|rfl|simp) (by simp) (by omega)) (by simp [Value.oneCell']) hm1 hm2 ?_ ?_));try(case refine_1=>first|omega|(simp<;>omega;done))
     intro A3 cap3 w3 o3 hg3 _;have g3:=yw g2 hg3 (by simp;omega) (fun k hk=>by have:=(o2.lt k hk).1;omega);have o3':w3.ownsRow w.heap.size 160 4 (.slice A3 (acc++[(⟨n2,r,n4,D⟩:Blk)]).length cap3) (acc++[(⟨n2,r,n4,D⟩:Blk)]).length (zS (acc++[(⟨n2,r,n4,D⟩:Blk)])):=by
      rw[xE,List.length_append];exact o3
     have hol:(acc++[(⟨n2,r,n4,D⟩:Blk)]).length=acc.length+1:=(by simp);have HOL:=Go.Lib.hid hol;have HOK2:Hid (∀b ∈ acc++[(⟨n2,r,n4,D⟩:Blk)],b.ok=true):=fun b hb=>by
      rcases List.mem_append.1 hb with h|h
      ·exact HOK.out b h
      ·simp at h;subst h;exact HBOK.out
     clear o3 hg3 o2 g2 hol;go_wp2;go_roundw
     case rel=>exact⟨A3,cap3,m',y,_,(by rw[HOL.out]),rfl,by omega,by omega,by rw[HOL.out];omega,HOK2,HG2,o3',g3⟩
     case measure=>simp [intOf];omega
    ·have hd:(n2 != (acc.length:Int))=true:=by simpa using hn
     have HG2:=Go.Lib.hid (HGN.out hn);clear HGY HGN hn;go_wp2_with fail;refine(cP _).mono ?_;rintro e w2 ⟨rfl,hb2⟩;have y2:=hb2.size;have g2:=hb.trans (hb2.mono oo);clear cP hb2 hb hown;go_wp2;go_ret2;have h:=HG2.out;subst h;exact⟨none,0,rfl,⟨by simp [zS],.inl ⟨rfl,rfl⟩⟩,zu⟩
   ·have hp':yM l x=false:=by simpa using hp
    have cP:=fun w=>QX l x w oo oo oo hp';have HG2:Hid (G=none):=(by show _=_;rw[HG.out,qo hxn (fun h=>hp h.1)]);clear hp hp' HG hxn;go_wp2_with fail;refine(cP _).mono ?_;rintro e w2 ⟨rfl,hb2⟩;have y2:=hb2.size;have g2:=hb.trans (hb2.mono oo);clear cP hb2 hb hown;go_wp2;go_ret2;have h:=HG2.out;subst h;exact⟨none,0,rfl,⟨by simp [zS],.inl ⟨rfl,rfl⟩⟩,zu⟩
  ·have hxi:¬(x:Int)<l.length:=oo
   have HGE:Hid (G=if zn acc≤2000 then some acc else none):=(by show _=_;rw[HG.out,fQ (by omega)]);have cZ:=fun w hs=>ik acc A cap w hs HOK.out oo;have CZ:=Go.Lib.hid cZ;clear HG cZ;go_wp2_with fail;refine(CZ.out _ (OE hown)).mono ?_;rintro e w2 ⟨rfl,hb2⟩;have y2:=hb2.size;have g2:=hb.trans (hb2.mono oo);have o2:=zf hown hb2;clear hb2 hb hown CZ;by_cases hz:zn acc≤2000
   ·have hz':¬2000<zn acc:=oo
    have HG2:Hid (G=some acc):=(by show _=_;rw[HGE.out,if_pos hz]);clear HGE;go_wp2;go_ret2;have h:=HG2.out;subst h;exact⟨A,cap,rfl,o2,g2⟩
   ·have hz':2000<zn acc:=oo
    have HG2:Hid (G=none):=(by show _=_;rw[HGE.out,if_neg hz]);clear HGE;go_wp2;go_ret2;have h:=HG2.out;subst h;exact⟨none,0,rfl,⟨by simp [zS],.inl ⟨rfl,rfl⟩⟩,zu⟩
theorem qh (l:Bs)(w:World)(hs:l.length≤1500000):
 Calls Tryz.prog 131 #[.string ⟨l.toArray⟩] w (mM (zT l) w):=by
 obtain⟨i,hi,hz0,hz1,hz2⟩:=info_parts xW;have HG0:Hid (zT l=y8 l (l.length+1) 0 []):=rfl;generalize zT l=G at*;go_enter Tryz.func131,Tryz.ntmps131;go_wp2;have o0:=vK (base:=w.heap.size) (size:=4) (Bk.new w #[] 160) (Nat.le_refl _);go_loopw [4,5,6] (fun a s b wr=>∃(A:Option Addr) (cap m x:Nat) (acc:List Blk),a= .slice A acc.length cap∧s= .int .i64 (zn acc)∧b= .int .i64 x∧x≤l.length∧l.length<m+x∧10*acc.length≤x∧Hid (∀b ∈ acc,b.ok=true)∧Hid (G=y8 l m x acc)∧wr.ownsRow w.heap.size 160 4 (.slice A acc.length cap) acc.length (zS acc)∧Below w.heap.size w wr) (fun _ _ b _=>l.length - (intOf b).toNat)
 case atStart=>exact⟨_,0,l.length+1,0,[],rfl,rfl,rfl,by omega,by omega,by simp,fun b hb=>(by cases hb),HG0,o0,zu⟩
 case round=>
  obtain⟨A,cap,m,x,acc,rfl,rfl,rfl,hx,hm,ha,HOK,HG,hown,hb⟩:=hrel;have hws:=hb.size;clear HG0 o0;have hsb:=vJ acc HOK.out;obtain⟨hsb1,hsb2⟩:=hsb;have hsb3:zn acc≤64*1500000:=oo;clear hsb2;obtain⟨m',rfl⟩:∃m',m=m'+1:=⟨m - 1,oo⟩;by_cases hlt:x<l.length
  ·have hxi:(x:Int)<l.length:=oo
   have hxn:¬(l.length:Int)≤(x:Int):=oo;by_cases hp:yM l x=true
   ·have hpb:=eu hp
    obtain⟨_,hpb1,hpb2,hbok⟩:=hpb;have cP:=fun w=>TI l x w oo oo oo hp;have HGY:Hid ((xq l x).num=acc.length→G=y8 l m' (yT l x) (acc++[xq l x])):=fun h=>(by rw[HG.out,bH hxn hp h]);have HGN:Hid (¬(xq l x).num=acc.length→G=none):=fun h=>(by rw[HG.out,qo hxn (fun h2=>h h2.2)]);clear hp HG hxn;have hsz:=Blk.vk hbok;obtain⟨hzz1,hzz2,_,_⟩:=hsz;have HBOK:=Go.Lib.hid hbok;clear hbok;generalize xq l x=b at*;generalize yT l x=ex at*;obtain⟨y,rfl⟩:=Int.eq_ofNat_of_zero_le (by omega:0≤ex);obtain⟨n2,r,n4,D⟩:=b;simp only at HGY HGN hzz1 hzz2;have HS2:Hid (zn (acc++[(⟨n2,r,n4,D⟩:Blk)])=zn acc+n4):=vT acc ⟨n2,r,n4,D⟩;generalize zn acc=S at*;by_cases hn:n2=acc.length
    ·have hd:(n2 != (acc.length:Int))=false:=by simpa using hn
     have HG2:=Go.Lib.hid (HGY.out hn);clear HGY HGN hn;have hm1:acc.length+1≤maxLen:=(by unfold maxLen;omega);have hm2:(acc.length+1)*40≤140737488355328:=oo;go_wp2_with fail;refine(cP _).mono ?_;rintro e w2 ⟨rfl,hb2⟩;have y2:=hb2.size;have k2:=Bk.new w2 (bkC ⟨n2,r,n4,D⟩) 160;have o1:=zf hown hb2;have hk3:∀k,(Value.slice A acc.length cap).ownBlock=some k→k≠w2.heap.size:=fun k hk=>(by have:=(o1.lt k hk).2;omega);have o2:=(zf hown hb2).alloc (.cells (bkC ⟨n2,r,n4,D⟩) 160);have g2:Below w.heap.size w (w2.alloc (.cells (bkC ⟨n2,r,n4,D⟩) 160)):=by
      have h:=hb.trans (hb2.mono oo);exact zu
     clear cP hb2 hb hown;go_wp2_with(at_builtin;go_must(refine zN _ rfl _ _ 133 rfl (w.heap.size) 160 i _ 4 40 Tryz.underlying133 hi hz0 hz1 hz2 rfl (by omega) _ _ _ rfl (o2.alloc _) _ 1 1 [.int .i64 n2,.bool r,.int .i64 n4,.string ⟨D.toArray⟩] rfl (Sl.newAt (w2.alloc (.cells (bkC ⟨n2,r,n4,D⟩) 160)) #[.int .i64 n2,.bool r,.int .i64 n4,.string ⟨D.toArray⟩] _ 1 4 (by first|rfl|simp) (by simp) (by omega)) (by simp [Value.oneCell']) hm1 hm2 ?_ ?_));try(case refine_1=>first|omega|(simp<;>omega;done))
     intro A3 cap3 w3 o3 hg3 _;have g3:=yw g2 hg3 (by simp;omega) (fun k hk=>by have:=(o2.lt k hk).1;omega);have k3:=(k2.alloc (.cells #[.int .i64 n2,.bool r,.int .i64 n4,.string ⟨D.toArray⟩] 160)).grown hg3 hk3;have X3:=k3.cell;have o3':w3.ownsRow w.heap.size 160 4 (.slice A3 (acc++[(⟨n2,r,n4,D⟩:Blk)]).length cap3) (acc++[(⟨n2,r,n4,D⟩:Blk)]).length (zS (acc++[(⟨n2,r,n4,D⟩:Blk)])):=by
      rw[xE,List.length_append];exact o3
     have hol:(acc++[(⟨n2,r,n4,D⟩:Blk)]).length=acc.length+1:=(by simp);have HOL:=Go.Lib.hid hol;have HOK2:Hid (∀b ∈ acc++[(⟨n2,r,n4,D⟩:Blk)],b.ok=true):=fun b hb=>by
      rcases List.mem_append.1 hb with h|h
      ·exact HOK.out b h
      ·simp at h;subst h;exact HBOK.out
     clear o3 hg3 o2 g2 hol k2 k3 hk3 o1;go_wp2;go_roundw
     case rel=>exact⟨A3,cap3,m',y,_,(by rw[HOL.out]),(by rw[HS2.out]),rfl,by omega,by omega,by rw[HOL.out];omega,HOK2,HG2,o3',g3⟩
     case measure=>simp [intOf];omega
    ·have hd:(n2 != (acc.length:Int))=true:=by simpa using hn
     have HG2:=Go.Lib.hid (HGN.out hn);clear HGY HGN hn;go_wp2_with fail;refine(cP _).mono ?_;rintro e w2 ⟨rfl,hb2⟩;have y2:=hb2.size;have g2:=hb.trans (hb2.mono oo);clear cP hb2 hb hown;go_wp2;go_ret2;have h:=HG2.out;subst h;exact⟨_,0,rfl,vK (size:=4) (Bk.newAt _ _ _ (by first|rfl|simp)) (by first|omega|(simp;omega)),zu⟩
   ·have hp':yM l x=false:=by simpa using hp
    have cP:=fun w=>QR l x w oo oo oo hp';have HG2:Hid (G=none):=(by show _=_;rw[HG.out,qo hxn (fun h=>hp h.1)]);clear hp hp' HG hxn;generalize zn acc=S at*;go_wp2_with fail;refine(cP _).mono ?_;rintro e w2 ⟨rfl,hb2⟩;have y2:=hb2.size;have g2:=hb.trans (hb2.mono oo);clear cP hb2 hb hown;go_wp2;go_ret2;have h:=HG2.out;subst h;exact⟨_,0,rfl,vK (size:=4) (Bk.newAt _ _ _ (by first|rfl|simp)) (by first|omega|(simp;omega)),zu⟩
  ·have hxi:¬(x:Int)<l.length:=oo
   have HGE:Hid (G=if zn acc≤2000 then some acc else none):=(by show _=_;rw[HG.out,fQ (by omega)]);clear HG;by_cases hz:zn acc≤2000
   ·have hz':¬2000<zn acc:=oo
    have HG2:Hid (G=some acc):=(by show _=_;rw[HGE.out,if_pos hz]);clear HGE;go_wp2;go_ret2;have h:=HG2.out;subst h;exact⟨A,cap,rfl,hown,hb⟩
   ·have hz':2000<zn acc:=oo
    have HG2:Hid (G=none):=(by show _=_;rw[HGE.out,if_neg hz]);clear HGE;go_wp2;go_ret2;have h:=HG2.out;subst h;exact⟨_,0,rfl,vK (size:=4) (Bk.newAt _ _ _ (by first|rfl|simp)) (by first|omega|(simp;omega)),zu⟩
end Go.Proofs.YtfppmajoidkooaaGreatDoor
namespace Go.Proofs.YtfppmajoidkooaaGreatDoor
open Go.RowKit
set_option maxRecDepth 100000
def Blk.dat (K:Kn)(b:Blk):Option Bs:=
 if b.raw=true then some b.body else
 if(uP K b.body).2.1≠0∨(uP K b.body).2.2≠b.body.length∨((uP K b.body).1.length:Int)≠b.size then none else some (uP K b.body).1
def xY (o:Option Bs):Ending:=.returned (.tuple #[sv (o.getD []),.bool o.isSome])
end Go.Proofs.YtfppmajoidkooaaGreatDoor
namespace Go.Proofs.YtfppmajoidkooaaGreatDoor
open Go.RowKit
set_option maxRecDepth 100000
attribute [local go_sem high] zy zA zB zO zK zY zx zk zl zq zi zo yP zD yt zF
section
variable {B : Nat}
end
def Apart (v v':Value):Prop:=∀k,v.ownBlock=some k→v'.ownBlock=some k→False
theorem Apart.symm {v v':Value}(h:Apart v v'):Apart v' v:=fun k h1 h2=>h k h2 h1
end Go.Proofs.YtfppmajoidkooaaGreatDoor
namespace Go.Proofs.YtfppmajoidkooaaGreatDoor
open Go.RowKit
def xJ (K:Kn)(n:Int)(d:Bs):Blk:=match vG K d with
 |some s=>if s.length<d.length then⟨n,false,d.length,s⟩ else⟨n,true,d.length,d⟩
 |none=>⟨n,true,d.length,d⟩
theorem KP (o l m:Int)(dict:Bs)(n:Int)(d:Bs):lF o l m dict n d=xJ (zt o l m dict) n d:=rfl
theorem Xi {K:Kn}{n:Int}{d s:Bs}(h:vG K d=some s):xJ K n d=if s.length<d.length then⟨n,false,d.length,s⟩ else⟨n,true,d.length,d⟩:=by unfold xJ;rw[h]
theorem Xb {K:Kn}{n:Int}{d:Bs}(h:vG K d=none):xJ K n d=⟨n,true,d.length,d⟩:=by unfold xJ;rw[h]
theorem eU (K:Kn)(n:Int)(d:Bs):(xJ K n d).size=d.length:=by
 unfold xJ;split
 ·split<;>rfl
 ·rfl
theorem Uh (K:Kn)(n:Int)(d:Bs)(k:Int):({ xJ K n d with num:=k } :Blk)=xJ K k d:=by
 unfold xJ;split
 ·split<;>rfl
 ·rfl
theorem OG (K:Kn)(c:Int)(r:List Int)(hw:1≤K.width):1≤(K.bits (c::r)).length:=by
 unfold Kn.bits;rw[nG,List.zip_cons_cons,List.flatMap_cons,List.length_append,xx];simp only;omega
theorem Oz {K:Kn}(hk:K.ok)(d:Bs):1≤(K.comp d).length:=by
 unfold Kn.comp;rw[fH];have h:1≤(K.bits (K.yc d)).length:=(by unfold Kn.yc;exact OG K _ _ (lu hk).1);omega
theorem WZ {K:Kn}(hk:K.ok){n:Int}(h0:0≤n)(h1:n<40){d:Bs}(hd0:1≤d.length)(hd1:d.length≤64):(xJ K n d).ok=true:=by
 have hr:(⟨n,true,(d.length:Int),d⟩:Blk).ok=true:=by rw[Blk.lZ];simp;omega
 cases hc:vG K d with
 |none=>rw[Xb hc];exact hr
 |some s=>
  rw[Xi hc];split
  ·rename_i hs
   have hp:1≤s.length:=by
    unfold vG at hc;split at hc
    ·injection hc with hc;rw[←hc];exact Oz hk d
    ·cases hc
   rw[Blk.lZ];simp;omega
  ·exact hr
def chunks (size:Nat):Nat→Bs→List Bs
 |0,_=>[]
 |n+1,d=>if d=[] then[] else d.take size::chunks size n (d.drop size)
theorem qZ (size n:Nat):chunks size n []=[]:=by
 cases n with
 |zero=>rfl
 |succ n=>unfold chunks;rw[if_pos rfl]
theorem kM (size n:Nat){d:Bs}(h:d≠[]):chunks size (n+1) d=d.take size::chunks size n (d.drop size):=by rw[chunks,if_neg h]
theorem nH (size:Nat)(hs:1≤size):∀(n:Nat) (d:Bs),∀x ∈ chunks size n d,1≤x.length∧x.length≤size
 |0,d,x,h=>by cases h
 |n+1,d,x,h=>by
  by_cases hd:d=[]
  ·rw[hd,qZ] at h;cases h
  ·have hp:=List.length_pos_iff.2 hd
   rw[kM _ _ hd] at h;rcases List.mem_cons.1 h with rfl|h
   ·rw[List.length_take];omega
   ·exact nH size hs n _ x h
theorem uS (size:Nat)(hs:1≤size):∀(k n:Nat) (d:Bs),d.length≤k*size→(chunks size n d).length≤k
 |0,n,d,h=>by
  have:d=[]:=List.eq_nil_of_length_eq_zero oo;rw[this,qZ];simp
 |k+1,0,d,h=>by simp [chunks]
 |k+1,n+1,d,h=>by
  by_cases hd:d=[]
  ·rw[hd,qZ];simp
  ·rw[kM _ _ hd,List.length_cons]
   have:=uS size hs k n (d.drop size) (by rw[List.length_drop];rw[Nat.add_mul] at h;omega);omega
theorem mG (size:Nat)(hs:1≤size):∀(n:Nat) (d:Bs),d.length≤n→((chunks size n d).flatten=d)
 |0,d,h=>by
  have:d=[]:=List.eq_nil_of_length_eq_zero oo;rw[this];rfl
 |n+1,d,h=>by
  by_cases hd:d=[]
  ·rw[hd,qZ];rfl
  ·have hp:=List.length_pos_iff.2 hd
   rw[kM _ _ hd,List.flatten_cons,mG size hs n _ (by rw[List.length_drop];omega),List.take_append_drop]
def mks (K:Kn)(size n:Nat)(d:Bs):List Blk:=(chunks size n d).map (xJ K 0)
theorem X9 (K:Kn)(size n:Nat):mks K size n []=[]:=by unfold mks;rw[qZ];rfl
theorem SN (K:Kn)(size n:Nat){d:Bs}(h:d≠[]):mks K size (n+1) d=xJ K 0 (d.take size)::mks K size n (d.drop size):=by unfold mks;rw[kM _ _ h];rfl
theorem Zu {K:Kn}(hk:K.ok)(size n:Nat)(hs:1≤size)(hs2:size≤64)(d:Bs):∀b ∈ mks K size n d,b.ok=true:=by
 intro b hb;unfold mks at hb;obtain⟨x,hx,rfl⟩:=List.mem_map.1 hb;have h:=nH size hs n d x hx;exact WZ hk oo oo h.1 oo
theorem PY (K:Kn)(ls:List Bs):zn (ls.map (xJ K 0))=(ls.flatten.length:Int):=by
 induction ls with
 |nil=>rfl
 |cons x ls ih=>rw[List.map_cons,rD,ih,eU,List.flatten_cons,List.length_append];omega
theorem XV (K:Kn)(size n:Nat)(hs:1≤size)(d:Bs)(h:d.length≤n):zn (mks K size n d)=(d.length:Int):=by
 unfold mks;rw[PY,mG size hs n d h]
def vC :Nat→List Blk→List Blk
 |_,[]=>[]
 |f,b::bs=> { b with num:=(f:Int) } ::vC (f+1) bs
theorem bz (f:Nat)(bs:List Blk):(vC f bs).length=bs.length:=by
 induction bs generalizing f with
 |nil=>rfl
 |cons b bs ih=>simp [vC,ih]
theorem Xg (f:Nat)(bs:List Blk)(b:Blk):vC f (bs++[b])=vC f bs++[{ b with num:=((f+bs.length:Nat):Int) }]:=by
 induction bs generalizing f with
 |nil=>simp [vC]
 |cons c bs ih=>rw[List.cons_append,vC,ih,vC,List.cons_append,List.length_cons];congr 4;omega
theorem Zj (f:Nat)(bs:List Blk):zn (vC f bs)=zn bs:=by
 induction bs generalizing f with
 |nil=>rfl
 |cons b bs ih=>rw[vC,rD,rD,ih]
theorem Ti {b:Blk}(h:b.ok=true){n:Int}(h0:0≤n)(h1:n<40):({ b with num:=n } :Blk).ok=true:=by
 rw[Blk.lZ] at*;obtain⟨x,r,s,t⟩:=b;simp only at*;exact⟨h0,h1,h.2.2⟩
theorem aP (o l m:Int)(dict:Bs)(size:Nat):∀(n f:Nat) (d:Bs),YU o l m dict size n f d=wQ (vC f (mks (zt o l m dict) size n d))
 |0,f,d=>rfl
 |n+1,f,d=>by
  by_cases hd:d=[]
  ·rw[hd,iU,X9];rfl
  ·rw[QC _ _ _ _ _ _ _ _ hd,SN _ _ _ hd,vC,oV,Uh,aP o l m dict size n (f+1),KP]
def mcO (bs:List Blk):Option Bs:=if bs.length≤40∧zn bs≤2000 then some (wQ (vC 0 bs)) else none
theorem Lu (o l m:Int)(dict d:Bs)(size:Nat)(hs:1≤size)(hl:d.length≤40*size)(h2:d.length≤2000):mcO (mks (zt o l m dict) size d.length d)=some (mkB o l m dict size 0 d):=by
 unfold mcO;rw[if_pos ⟨by unfold mks;rw[List.length_map];exact uS size hs 40 _ d hl,by rw[XV _ _ _ hs d (Nat.le_refl _)];omega⟩];unfold mkB;rw[aP]
end Go.Proofs.YtfppmajoidkooaaGreatDoor
