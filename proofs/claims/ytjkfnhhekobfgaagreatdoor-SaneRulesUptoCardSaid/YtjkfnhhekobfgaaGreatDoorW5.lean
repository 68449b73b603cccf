/- Sorting by insertion, by rotation, by merging. No condition. -/
import Derived.Test.YtjkfnhhekobfgaaGreatDoorW4
import Derived.Test.YtjkfnhhekobfgaaGreatDoorA5
set_option maxRecDepth 10000
set_option maxHeartbeats 2000000
set_option linter.all false
noncomputable section W25s
namespace Go.Ab
open Go.Ab
theorem gv {l:List rl} (h:l.length≤8) (b:Bool):bg Pg I.gv [.sl 77 (l.map iD) b] (jE (rU l)):=by
 refine ai.intro T.gv (by simp[F.gv]) ?_
 simp[F.gv,aj,aF,jE]
 refine fb.fG l.length (λ_=>True) [2,3,6,7,8] (λi=>[(3,.rs 3 [] 0 (rU (l.take i)).length (rU (l.take i)).length 1 .tip),(8,.int .i64 i)]) (λi=>[(3,.arr 1 ((rU (l.take i)).map (λn:Int=>PV.int .u32 n)))]) [.vt 3 3 1] ?_
 simp[show rU []=[] from rfl]
 refine⟨λi hi K hK=> ?_,λK=> ?_⟩
 ·have hx:l[i]? =some l[i]:=gJ hi
  have hlen:=sG (l.take i)
  have G9:(l.take i).length≤i:=by rw[lJ];omega
  rw[Dl hi]at hK
  generalize rU (l.take i)=out at*
  by_cases h1:l[i].has=true
  ·simp[↓ah,hx,hi,h1,cu hi (by omega)]
   refine⟨⟨by omega,by omega⟩,[.keep [2,3,6,7,8],.dr 5],?_⟩
   simp[eI,fE,ae,af]
   exact hK _ (by simp[h1])
  ·simp[↓ah,hx,hi,h1,cu hi (by omega)]
   refine⟨[.keep [2,3,6,7,8],.dr 5],?_⟩
   simp[eI,fE,ae,af]
   exact hK _ (by simp[h1])
 ·simp[↓ah]
  refine al.plain [.keep [2],.fz 3,.wk 2] ?_
  simp
theorem fD (r:nO):bg Pg I.fD [gi r] (jE (rU [r.p,r.c,r.n])):=by
 refine ai.intro T.fD (by simp[F.fD]) ?_
 simp[F.fD,aj,aF]
 refine an.ret (gv (l:=[r.p,r.c,r.n]) (by simp) false) (by simp) (by simp) (by simp) ?_
 simp
 refine al.plain [] ?_
 simp
def pos (x:cS):List cS->Nat
 |[]=>0
 |y::l=>if y.index≤x.index then pos x l+1 else 0
def ins (x:cS):List cS->List cS
 |[]=>[x]
 |y::l=>if y.index≤x.index then y::ins x l else x::y::l
def rK (l:List cS):List cS:=l.foldl (λa x=>ins x a) []
def lR (l:List cS):Prop:=l.Pairwise (λa b=>a.index≤b.index)
theorem Fs (x:cS):∀l:List cS,ins x l=l.take (pos x l)++x::l.drop (pos x l)
 |[]=>rfl
 |
  y::l=>by
  simp only[ins,pos]
  split
  ·rw[Fs x l];simp
  ·simp
theorem LA (x:cS):∀l:List cS,pos x l≤l.length
 |[]=>by simp[pos]
 |
  y::l=>by
  have:=LA x l
  simp only[pos];split<;>simp<;>omega
theorem LB {x:cS}:∀ {l:List cS} {j:Nat},j<pos x l->(hj:j<l.length)->l[j].index≤x.index
 |[],j,h,hj=>by simp at hj
 |
  y::l,j,h,hj=>by
  simp only[pos]at h
  split at h
  ·rename_i hy
   cases j with
   |zero=>exact hy
   |succ j=>exact LB (l:=l) (j:=j) (by omega) (by simpa using hj)
  ·omega
theorem LC {x:cS}:∀ {l:List cS},lR l->∀ {j:Nat},pos x l≤j->(hj:j<l.length)->x.index<l[j].index
 |[],_,j,_,hj=>by simp at hj
 |
  y::l,h,j,hp,hj=>by
  have h1:=List.pairwise_cons.1 h
  simp only[pos]at hp
  split at hp
  ·cases j with
   |zero=>omega
   |succ j=>exact LC (l:=l) h1.2 (j:=j) (by omega) (by simpa using hj)
  ·rename_i hy
   cases j with
   |zero=>show x.index<y.index;omega
   |
    succ j=>
    have zQ:j<l.length:=by simpa using hj
    have:=h1.1 l[j] (List.getElem_mem zQ)
    show x.index<l[j].index
    omega
theorem DK (x:cS) (l:List cS):(ins x l).Perm (x::l):=by
 rw[Fs]
 refine List.perm_middle.trans (List.Perm.cons x ?_)
 rw[List.take_append_drop]
theorem GW {x:cS}:∀ {l:List cS},lR l->lR (ins x l)
 |[],_=>by simp[ins,lR]
 |
  y::l,h=>by
  have h1:=List.pairwise_cons.1 h
  simp only[ins]
  split
  ·rename_i hy
   refine List.pairwise_cons.2 ⟨λz hz=> ?_,GW h1.2⟩
   rcases List.mem_cons.1 ((DK x l).mem_iff.1 hz)with e|hz
   ·rw[e];exact hy
   ·exact h1.1 z hz
  ·rename_i hy
   refine List.pairwise_cons.2 ⟨λz hz=> ?_,h⟩
   rcases List.mem_cons.1 hz with e|hz
   ·rw[e];omega
   ·have:=h1.1 z hz;omega
theorem LD (l:List cS) (x:cS):rK (l++[x])=ins x (rK l):=by simp[rK]
theorem AM:∀(l a:List cS),(l.foldl (λa x=>ins x a) a).Perm (a++l)
 |[],a=>by simp
 |
  x::l,a=>by
  refine(AM l (ins x a)).trans ?_
  refine((DK x a).append_right l).trans ?_
  exact(List.perm_middle (l₁:=a) (a:=x) (l₂:=l)).symm
theorem DL:∀(l a:List cS),lR a->lR (l.foldl (λa x=>ins x a) a)
 |[],a,h=>h
 |x::l,a,h=>DL l _ (GW h)
theorem mw (l:List cS):(rK l).Perm l:=by simpa[rK]using AM l []
theorem pU (l:List cS):lR (rK l):=DL l [] .nil
theorem uniq:∀ {a b:List cS},a.Pairwise (λx y=>x.index<y.index)->lR b->a.Perm b->a=b
 |[],b,_,_,h=>by rw[h.nil_eq]
 |x::a,[],_,_,h=>by have:=h.length_eq;simp at this
 |
  x::a,y::b,ha,hb,h=>by
  have h1:=List.pairwise_cons.1 ha
  have h2:=List.pairwise_cons.1 hb
  have VG:x=y:=by
   have hy:y∈x::a:=h.mem_iff.2 (by simp)
   have hx:x∈y::b:=h.mem_iff.1 (by simp)
   rcases List.mem_cons.1 hy with e|hy
   ·exact e.symm
   ·rcases List.mem_cons.1 hx with e|hx
    ·exact e
    ·have:=h1.1 y hy
     have:=h2.1 x hx
     omega
  subst VG
  rw[uniq h1.2 h2.2 (h.cons_inv)]
instance:DecidableEq cS:=λa b=>if h:a.index=b.index∧a.peer=b.peer∧a.pk=b.pk then isTrue (by rcases a with⟨i,p,s⟩;rcases b with⟨j,q,t⟩;simp at h;simp[h])else isFalse (λe=>h (by rw[e];exact⟨rfl,rfl,rfl⟩))
theorem eSl (a b:cS):PV.beq (aM a) (aM b)=decide (a=b):=by
 have h:=gr a.peer b.peer
 rcases a with⟨i,p,s⟩
 rcases b with⟨j,q,t⟩
 simp only at h
 rw[Bool.eq_iff_iff]
 simp[aM,PV.beq,PV.mF,h]
def MR (l m:List cS) (i:Nat):Bool:=match l[i]?,m[i]?with
 |some a,some b=> !decide (a=b)
 |_,_=>false
theorem GX {l m:List cS} {i:Nat} {a b:cS} (ha:l[i]? =some a) (hb:m[i]? =some b):MR l m i= !decide (a=b):=by simp only[MR,ha,hb]
theorem Pn {l m:List cS} (h:l.length=m.length):decide (l=m)=decide (fst (MR l m) l.length=l.length):=by
 congr 1
 apply propext
 rw[j5]
 constructor
 ·rintro rfl i hi
  have hx:l[i]? =some l[i]:=gJ hi
  rw[GX hx hx];simp
 ·intro hh
  refine List.ext_getElem h λi h1 h2=> ?_
  have:=hh i h1
  rw[GX (gJ h1) (gJ h2)]at this
  simpa using this
theorem Va {l m:List cS} (hl:l.length≤1048576):bg Pg I.bF [b6 l,b6 m] (.bl (decide (l=m))):=by
 refine ai.intro T.bF (by simp[F.bF]) ?_
 by_cases hlen:l.length=m.length
 ·have hr:=Pn hlen
  have hle:=gu (MR l m) l.length
  have jP:∀i,i<fst (MR l m) l.length->MR l m i=false:=λi h=>gD h
  have jQ:fst (MR l m) l.length<l.length->MR l m (fst (MR l m) l.length)=true:=gN
  generalize fst (MR l m) l.length=n at*
  rw[hr]
  simp[F.bF,aj,aF,hlen]
  refine fb.fG n (λ_=>True) [0,1,4,11,12,13] (λi=>[(13,.int .i64 i)]) (λi=>[]) [.keep [0,1,4,11,12,13]] ?_
  simp
  refine⟨λi hi K hK=> ?_,λK=> ?_⟩
  ·have eS:i<l.length:=by omega
   have Ef:i<m.length:=by omega
   have hx:l[i]? =some l[i]:=gJ eS
   have hy:m[i]? =some m[i]:=gJ Ef
   have hb:=jP i hi
   rw[GX hx hy]at hb
   have he:l[i]=m[i]:=by simpa using hb
   rw[←he]at hy
   have hf:=pO l[i]
   have hbq:=H6 l[i]
   generalize l[i]=a at*
   simp[↓ah,hx,hy,eS,Ef,hf,hbq,cu Ef (by omega),-getElem?_pos]
   refine⟨[.keep [0,1,4,11,12,13]],?_⟩
   simp
   exact hK _ (by simp)
  ·by_cases hn:n<l.length
   ·have Ef:n<m.length:=by omega
    have bS:¬n=l.length:=by omega
    have pW:¬n=m.length:=by omega
    have hx:l[n]? =some l[n]:=gJ hn
    have hy:m[n]? =some m[n]:=gJ Ef
    have hb:=jQ hn
    rw[GX hx hy]at hb
    have hf:=pO l[n]
    have hf2:=pO m[n]
    have hbq:=eSl l[n] m[n]
    rw[show decide (l[n]=m[n])=false by simpa using hb]at hbq
    generalize l[n]=a at*
    generalize m[n]=b at*
    simp[↓ah,hx,hy,hn,Ef,hf,hf2,hbq,-getElem?_pos]
    refine al.plain [] ?_
    simp[bS,pW]
   ·have bS:n=m.length:=by omega
    have mC:¬((n:Int)<m.length):=by omega
    have DX:¬n<m.length:=by omega
    simp[↓ah,mC,DX]
    refine al.plain [] ?_
    simp[bS]
 ·have bS:¬((l.length:Int)=m.length):=by omega
  have pW:¬l=m:=λe=>hlen (by rw[e])
  simp[F.bF,aj,aF,bS,hlen]
  refine al.plain [] ?_
  simp[pW]
end Go.Ab
end W25s
noncomputable section W26s
namespace Go.Ab
open Go.Ab
def rL (s:cS):Prop:=0≤s.index∧s.index<4294967296
theorem AN {a b:cS} (ha:rL a) (hb:rL b):bg Pg I.bh [aM a,aM b] (.int .i64 (a.index-b.index)):=by
 refine ai.intro T.bh (by simp[F.bh]) ?_
 unfold rL at ha hb
 have w1:IntKind.i64.wrap a.index=a.index:=wrap_i64 (by omega)
 have w2:IntKind.i64.wrap b.index=b.index:=wrap_i64 (by omega)
 have w3:IntKind.i64.wrap (a.index-b.index)=a.index-b.index:=wrap_i64 (by omega)
 simp[F.bh,aj,aF,w1,w2,w3]
 refine al.plain [] ?_
 simp
theorem lW (l:List cS):(rK l).length=l.length:=(mw l).length_eq
def IQ (pre rest:List cS) (x:cS) (k:Nat):List cS:=pre.take k++x::(pre.drop k++rest)
theorem acb {pre rest:List cS} {x:cS} {k:Nat} (h:k≤pre.length):(IQ pre rest x k)[k]? =some x:=by
 unfold IQ
 rw[List.getElem?_append_right (by rw[lJ];omega),lJ,show k-min k pre.length=0 by omega];rfl
theorem acd {pre rest:List cS} {x:cS} {k:Nat} (h:k<pre.length):(IQ pre rest x (k+1))[k]? =some pre[k]:=by
 unfold IQ
 rw[List.getElem?_append_left (by rw[lJ];omega),List.getElem?_take,if_pos (by omega),gJ h]
theorem Vb {pre rest:List cS} {x:cS} {k:Nat} (h:k<pre.length):((IQ pre rest x (k+1)).set (k+1) pre[k]).set k x=IQ pre rest x k:=by
 unfold IQ
 have e1:pre.take (k+1)=pre.take k++[pre[k]]:=List.take_succ_eq_append_getElem h
 have e2:pre.drop k=pre[k]::pre.drop (k+1):=List.drop_eq_getElem_cons h
 have hl:(pre.take k).length=k:=by rw[lJ];omega
 rw[e1,e2,List.append_assoc,List.set_append_right _ _ (by omega),hl,show k+1-k=1 by omega]
 simp only[List.singleton_append,List.set_cons_succ,List.set_cons_zero]
 rw[List.set_append_right _ _ (by omega),hl,Nat.sub_self,List.set_cons_zero]
 rfl
theorem Po {pre rest:List cS} {x:cS} {k:Nat}:(IQ pre rest x k).length=pre.length+1+rest.length:=by
 unfold IQ;simp[lJ];omega
def zc (A pre rest:List cS) (x:cS) (k:Nat):List cS:=A++IQ pre rest x k
theorem RV {A pre rest:List cS} {x:cS} {k g:Nat} (h:k≤pre.length) (hg:g=A.length+k):(zc A pre rest x k)[g]? =some x:=by
 unfold zc;rw[List.getElem?_append_right (by omega),show g-A.length=k by omega];exact acb h
theorem RW {A pre rest:List cS} {x:cS} {k g:Nat} (h:k<pre.length) (hg:g=A.length+k):(zc A pre rest x (k+1))[g]? =some pre[k]:=by
 unfold zc;rw[List.getElem?_append_right (by omega),show g-A.length=k by omega];exact acd h
theorem Vc {A pre rest:List cS} {x:cS} {k g:Nat} (h:k<pre.length) (hg:g=A.length+k):((zc A pre rest x (k+1)).set (g+1) pre[k]).set g x=zc A pre rest x k:=by
 unfold zc
 rw[List.set_append_right _ _ (by omega),List.set_append_right _ _ (by omega),show g+1-A.length=k+1 by omega,show g-A.length=k by omega,Vb h]
theorem GY {A pre rest:List cS} {x:cS} {k:Nat}:(zc A pre rest x k).length=A.length+(pre.length+1+rest.length):=by
 unfold zc;rw[List.length_append,Po]
def Pp (A L B:List cS) (i:Nat):List cS:=A++(rK (L.take (i+1))++(L.drop (i+1)++B))
theorem ahX (A L B:List cS):Pp A L B 0=A++(L++B):=by
 cases L with
 |nil=>rfl
 |cons x l=>simp[Pp,rK,ins]
theorem ace {A L B:List cS} {i:Nat} (h:i+1<L.length):Pp A L B i=zc A (rK (L.take (i+1))) (L.drop (i+2)++B) L[i+1] (i+1):=by
 unfold Pp zc IQ
 have hl:(rK (L.take (i+1))).length=i+1:=by rw[lW,lJ];omega
 generalize rK (L.take (i+1))=pre at*
 have t1:pre.take (i+1)=pre:=tJ (by omega)
 have t2:pre.drop (i+1)=[]:=List.drop_of_length_le (by omega)
 rw[t1,t2,List.drop_eq_getElem_cons h]
 rfl
theorem acf {A L B:List cS} {i:Nat} (h:i+1<L.length):Pp A L B (i+1)=zc A (rK (L.take (i+1))) (L.drop (i+2)++B) L[i+1] (pos L[i+1] (rK (L.take (i+1)))):=by
 unfold Pp zc IQ
 rw[List.take_succ_eq_append_getElem h,LD,Fs]
 simp
theorem LF {A L B:List cS} {N c e:Nat} (hc:c=A.length) (he0:e=c+L.length) (IZ:N=A.length+(L.length+B.length)) (hN:N≤64) (hb:∀s∈L,rL s):
  ai Pg I.aL [.rs KB [] 0 N N 34 .tip,.int .i64 c,.int .i64 e,.fn (.func I.bh) [] []] [.arr 34 ((A++(L++B)).map aM)]
   (λr fp=>r= .tup []∧fp=[.arr 34 ((A++(rK L++B)).map aM)]):=by
 refine ai.intro T.aL (by simp[F.aL]) ?_
 have w0:IntKind.i64.wrap ((c:Int)+1)=(c:Int)+1:=wrap_i64 (by omega)
 rw[←ahX]
 simp[F.aL,aj,aF,w0]
 refine fb.fG (L.length-1) (λ_=>True) [0,1,2,3,8] (λi=>[(8,.int .i64 ((c:Int)+i+1))]) (λi=>[(KB,.arr 34 ((Pp A L B i).map aM))]) [.keep [0,1,2,3,8]] ?_
 simp
 refine⟨λi hi K hK=> ?_,λK=> ?_⟩
 ·have h1:i+1<L.length:=by omega
  have vD:IntKind.i64.wrap ((c:Int)+i+1+1)=(c:Int)+((i:Int)+1)+1:=by rw[wrap_i64 (by omega)];omega
  have dG:(c:Int)+i+1<e:=by omega
  rw[ace h1]
  rw[acf h1]at hK
  have hpm:∀s∈rK (L.take (i+1)),rL s:=λs hs=>hb s (List.mem_of_mem_take ((mw _).mem_iff.1 hs))
  have hl:(rK (L.take (i+1))).length=i+1:=by rw[lW,lJ];omega
  have hs:=pU (L.take (i+1))
  have hx:=hb _ (List.getElem_mem h1)
  have og:(L.drop (i+2)++B).length=L.length-(i+2)+B.length:=by simp
  generalize rK (L.take (i+1))=pre at*
  generalize L[i+1]=x at*
  generalize L.drop (i+2)++B=rest at*
  have hp:=LA x pre
  simp[↓ah,dG]
  refine fb.fG (i+1-pos x pre) (λ_=>True) [0,1,2,3,8,9] (λt=>[(9,.int .i64 ((c:Int)+i+1-t))]) (λt=>[(KB,.arr 34 ((zc A pre rest x (i+1-t)).map aM))]) [.keep [0,1,2,3,8,9]] ?_
  simp
  refine⟨λt ht K2 lX=> ?_,λK2=> ?_⟩
  ·obtain⟨k,hk⟩:∃k,i+1-t=k+1:=⟨i-t,by omega⟩
   obtain⟨g,hg⟩:∃g,g=A.length+k:=⟨_,rfl⟩
   have lY:(c:Int)+i+1-t=(g:Int)+1:=by omega
   have AW:i-t=k:=by omega
   have hk3:(c:Int)+i+1-((t:Int)+1)=g:=by omega
   rw[AW,hk3]at lX
   rw[hk,lY]
   have Sv:k<pre.length:=by omega
   have Wc:=LC (x:=x) hs (j:=k) (by omega) Sv
   have IC:=hpm _ (List.getElem_mem Sv)
   have hn:=GY (A:=A) (pre:=pre) (rest:=rest) (x:=x) (k:=k+1)
   have g1:(zc A pre rest x (k+1))[g+1]? =some x:=RV (by omega) (by omega)
   have g2:(zc A pre rest x (k+1))[g]? =some pre[k]:=RW Sv hg
   have YY:=Vc (A:=A) (pre:=pre) (rest:=rest) (x:=x) Sv hg
   have Mq:=AN hx IC
   have IJ:IntKind.i64.wrap (g:Int)=(g:Int):=wrap_i64 (by omega)
   have DR:(zc A pre rest x (k+1)).length=N:=by omega
   have hk4:(g:Int)+1<N:=by omega
   have hk5:(g:Int)<N:=by omega
   have hk6:g<N:=by omega
   have hk7:g+1<N:=by omega
   have hk8:(0:Int)≤(g:Int)+1:=by omega
   have oi:((g:Int)+1).toNat=g+1:=by omega
   have gF:(c:Int)<(g:Int)+1:=by omega
   have na:x.index-pre[k].index<0:=by omega
   generalize pre[k]=y at*
   simp[↓ah,gF,IJ,oi,g1,g2,DR,hk4,hk6,hk8,-getElem?_pos]
   refine aU.ret Mq (by simp) (by simp) (by simp) ?_
   simp[na,IJ,oi,g1,g2,DR,hk4,hk6,hk8,-getElem?_pos]
   refine qD.run [KB] rfl ?_
   simp[na,IJ,oi,g1,g2,DR,hk4,hk6,hk8,-getElem?_pos]
   have Cf:((List.map aM (zc A pre rest x (k+1))).set (g+1) (aM y)).set g (aM x)=List.map aM (zc A pre rest x k):=by
    rw[←List.map_set,←List.map_set,YY]
   rw[Cf]
   refine⟨[.keep [0,1,2,3,8,9]],?_⟩
   simp
   exact lX _ (by simp)
  ·have he:i+1-(i+1-pos x pre)=pos x pre:=by omega
   obtain⟨g,hg⟩:∃g,g=A.length+pos x pre:=⟨_,rfl⟩
   have PE:(c:Int)+i+1-((i+1-pos x pre:Nat):Int)=(g:Int):=by omega
   rw[he,PE]
   by_cases h0:pos x pre=0
   ·have hng:¬(c:Int)<g:=by omega
    simp[↓ah,hng,vD]
    refine⟨[.keep [0,1,2,3,8]],?_⟩
    simp
    exact hK _ (by simp)
   ·obtain⟨k,hk⟩:∃k,pos x pre=k+1:=⟨pos x pre-1,by omega⟩
    obtain⟨g,rfl⟩:∃g',g=g'+1:=⟨g-1,by omega⟩
    have Sv:k<pre.length:=by omega
    have hgk:g=A.length+k:=by omega
    have hle:=LB (x:=x) (l:=pre) (j:=k) (by omega) Sv
    have IC:=hpm _ (List.getElem_mem Sv)
    rw[hk]at hK⊢
    have hn:=GY (A:=A) (pre:=pre) (rest:=rest) (x:=x) (k:=k+1)
    have g1:(zc A pre rest x (k+1))[g+1]? =some x:=RV (by omega) (by omega)
    have g2:(zc A pre rest x (k+1))[g]? =some pre[k]:=RW Sv hgk
    have Mq:=AN hx IC
    have IJ:IntKind.i64.wrap (g:Int)=(g:Int):=wrap_i64 (by omega)
    have DR:(zc A pre rest x (k+1)).length=N:=by omega
    have hk4:(g:Int)+1<N:=by omega
    have hk6:g<N:=by omega
    have hk8:(0:Int)≤(g:Int)+1:=by omega
    have oi:((g:Int)+1).toNat=g+1:=by omega
    have gF:(c:Int)<(g:Int)+1:=by omega
    have na:¬x.index-pre[k].index<0:=by omega
    generalize pre[k]=y at*
    simp[↓ah,gF,IJ,oi,g1,g2,DR,hk4,hk6,hk8,-getElem?_pos]
    refine aU.ret Mq (by simp) (by simp) (by simp) ?_
    simp[↓ah,na,vD]
    refine⟨[.keep [0,1,2,3,8]],?_⟩
    simp
    exact hK _ (by simp)
 ·have hd:Pp A L B (L.length-1)=A++(rK L++B):=by
   unfold Pp
   by_cases h0:L.length=0
   ·rw[List.length_eq_zero_iff.1 h0];rfl
   ·rw[tJ (by omega),List.drop_of_length_le (by omega),List.nil_append]
  have mC:¬(c:Int)+((L.length-1:Nat):Int)+1<e:=by omega
  rw[hd]
  simp[↓ah,mC]
  refine al.with [] [KB] ?_
  simp[af,aE,ae,aB,aD,ab,cT]
end Go.Ab
end W26s
noncomputable section W27s
namespace Go.Ab
open Go.Ab
section
variable {α:Type} {X Y Z:List α} {p q:α} {g h:Nat}
theorem Vd (hg:g=X.length):(X++p::(Y++q::Z))[g]? =some p:=by
 rw[List.getElem?_append_right (by omega),hg,Nat.sub_self];rfl
theorem Ve (hh:h=X.length+1+Y.length):(X++p::(Y++q::Z))[h]? =some q:=by
 rw[List.getElem?_append_right (by omega),show h-X.length=Y.length+1 by omega,List.getElem?_cons_succ,List.getElem?_append_right (by omega),Nat.sub_self];rfl
theorem Vf (hg:g=X.length) (hh:h=X.length+1+Y.length):((X++p::(Y++q::Z)).set g q).set h p=X++q::(Y++p::Z):=by
 rw[List.set_append_right _ _ (by omega),hg,Nat.sub_self,List.set_cons_zero,List.set_append_right _ _ (by omega),show h-X.length=Y.length+1 by omega,List.set_cons_succ,List.set_append_right _ _ (by omega),Nat.sub_self,List.set_cons_zero]
def blk (A P M Q B:List α) (i:Nat):List α:=A++(Q.take i++(P.drop i++(M++(P.take i++(Q.drop i++B)))))
variable {A P M Q B:List α} {i:Nat}
theorem acg (h1:i<P.length) (h2:i<Q.length):blk A P M Q B i=(A++Q.take i)++P[i]::((P.drop (i+1)++(M++P.take i))++Q[i]::(Q.drop (i+1)++B)):=by
 unfold blk
 rw[List.drop_eq_getElem_cons h1,List.drop_eq_getElem_cons h2]
 simp only[List.append_assoc,List.cons_append]
theorem ach (h1:i<P.length) (h2:i<Q.length):blk A P M Q B (i+1)=(A++Q.take i)++Q[i]::((P.drop (i+1)++(M++P.take i))++P[i]::(Q.drop (i+1)++B)):=by
 unfold blk
 rw[List.take_succ_eq_append_getElem h1,List.take_succ_eq_append_getElem h2]
 simp only[List.append_assoc,List.cons_append,List.nil_append]
theorem aci:blk A P M Q B 0=A++(P++(M++(Q++B))):=by simp[blk]
theorem acj (h:P.length=Q.length):blk A P M Q B P.length=A++(Q++(M++(P++B))):=by
 unfold blk
 rw[List.take_length,List.drop_length,h,List.take_length,List.drop_length];rfl
end
theorem LG {A P M Q B:List cS} {N a b n:Nat} (ha:a=A.length) (hn:n=P.length) (hq:P.length=Q.length) (hb:b=a+(P.length+M.length)) (IZ:N=A.length+(P.length+(M.length+(Q.length+B.length)))) (hN:N≤64):
  ai Pg I.bL [.rs KB [] 0 N N 34 .tip,.int .i64 a,.int .i64 b,.int .i64 n,.fn (.func I.bh) [] []] [.arr 34 ((A++(P++(M++(Q++B)))).map aM)]
   (λr fp=>r= .tup []∧fp=[.arr 34 ((A++(Q++(M++(P++B)))).map aM)]):=by
 refine ai.intro T.bL (by simp[F.bL]) ?_
 rw[←aci,←acj hq,←hn]
 have hln:∀i,(blk A P M Q B i).length=N:=λi=>by
  simp only[blk,List.length_append,lJ,List.length_drop];omega
 simp[F.bL,aj,aF]
 refine fb.fG n (λ_=>True) [0,1,2,3,4,10] (λi=>[(10,.int .i64 i)]) (λi=>[(KB,.arr 34 ((blk A P M Q B i).map aM))]) [.keep [0,1,2,3,4,10]] ?_
 simp
 refine⟨λi hi K hK=> ?_,λK=> ?_⟩
 ·have h1:i<P.length:=by omega
  have h2:i<Q.length:=by omega
  have hl:=hln i
  rw[ach h1 h2]at hK
  rw[acg h1 h2]at hl⊢
  have hX:(A++Q.take i).length=a+i:=by rw[List.length_append,lJ];omega
  have hY:(P.drop (i+1)++(M++P.take i)).length=P.length-1+M.length:=by rw[List.length_append,List.length_append,lJ,List.length_drop];omega
  generalize A++Q.take i=X at*
  generalize P.drop (i+1)++(M++P.take i)=Y at*
  generalize Q.drop (i+1)++B=Z at*
  generalize P[i]=p at*
  generalize Q[i]=q at*
  obtain⟨g,hg⟩:∃g,g=a+i:=⟨_,rfl⟩
  obtain⟨h,hh⟩:∃h,h=b+i:=⟨_,rfl⟩
  have wg:IntKind.i64.wrap ((a:Int)+i)=(g:Int):=by rw[wrap_i64 (by omega)];omega
  have wh:IntKind.i64.wrap ((b:Int)+i)=(h:Int):=by rw[wrap_i64 (by omega)];omega
  have wi:IntKind.i64.wrap ((i:Int)+1)=(i:Int)+1:=wrap_i64 (by omega)
  have g1:=Vd (X:=X) (p:=p) (Y:=Y) (q:=q) (Z:=Z) (g:=g) (by omega)
  have g2:=Ve (X:=X) (p:=p) (Y:=Y) (q:=q) (Z:=Z) (h:=h) (by omega)
  have gs:=Vf (X:=X) (p:=p) (Y:=Y) (q:=q) (Z:=Z) (g:=g) (h:=h) (by omega) (by omega)
  have P5:g<N:=by omega
  have IG:h<N:=by omega
  generalize X++p::(Y++q::Z)=D at*
  generalize X++q::(Y++p::Z)=E at*
  have za:(i:Int)<n:=by omega
  simp[↓ah,za,hi]
  refine qD.run [KB] rfl ?_
  simp[wg,wh,g1,g2,hl,P5,IG,wi,-getElem?_pos]
  have Cf:((List.map aM D).set g (aM q)).set h (aM p)=List.map aM E:=by
   rw[←List.map_set,←List.map_set,gs]
  have da:((List.map aM D).set g (aM q))[h]? =some (aM q):=by
   rw[List.getElem?_set_ne (by omega),List.getElem?_map,g2];rfl
  simp[da,Cf,-getElem?_pos]
  refine⟨[.keep [0,1,2,3,4,10]],?_⟩
  simp
  exact hK _ (by simp)
 ·simp[↓ah]
  refine al.with [] [KB] ?_
  simp[af,aE,ae,aB,aD,ab,cT]
end Go.Ab
end W27s
noncomputable section W28s
namespace Go.Ab
open Go.Ab
theorem az (l:List cS):cD (l.map aM):=dQ yn l
inductive DM:Nat->Nat->Nat->Prop
 |done (i:Nat):DM i i 0
 |left {i j n:Nat} (h:j<i) (hs:DM (i-j) j n):DM i j (n+1)
 |right {i j n:Nat} (h:i<j) (hs:DM i (j-i) n):DM i j (n+1)
theorem DM.ex:∀(k i j:Nat),i+j≤k->0<i->0<j->∃n,DM i j n
 |0,i,j,h,hi,hj=>by omega
 |
  k+1,i,j,h,hi,hj=>by
  by_cases e:i=j
  ·subst e;exact⟨0,.done i⟩
  ·by_cases h2:j<i
   ·obtain⟨n,hn⟩:=DM.ex k (i-j) j (by omega) (by omega) hj
    exact⟨n+1,.left h2 hn⟩
   ·obtain⟨n,hn⟩:=DM.ex k i (j-i) (by omega) hi (by omega)
    exact⟨n+1,.right (by omega) hn⟩
theorem DM.zero {i j n:Nat} (h:DM i j n) (hn:n=0):i=j:=by cases h<;>first|rfl|omega
theorem DM.succ {i j n k:Nat} (h:DM i j n) (hn:n=k+1):(j<i∧DM (i-j) j k)∨(i<j∧DM i (j-i) k):=by
 cases h with
 |done=>omega
 |left h1 h2=>cases Nat.succ.inj hn;exact .inl ⟨h1,h2⟩
 |right h1 h2=>cases Nat.succ.inj hn;exact .inr ⟨h1,h2⟩
abbrev R4:=List cS×List cS×List cS×List cS
def sT (y:R4):List cS:=y.1++(y.2.1++(y.2.2.1++y.2.2.2))
def Vg (y:R4):List cS:=y.1++(y.2.2.1++(y.2.1++y.2.2.2))
structure Pq (T:List cS) (m N k:Nat) (y:R4):Prop where
 t:Vg y=T
 m:y.1.length+y.2.1.length=m
 x0:0<y.2.1.length
 y0:0<y.2.2.1.length
 n:N=y.1.length+(y.2.1.length+(y.2.2.1.length+y.2.2.2.length))
 s:DM y.2.1.length y.2.2.1.length k
theorem ahY {A X Y B:List cS} {N a m b:Nat} (hm:m=A.length+X.length) (IT:0<X.length) (hy0:0<Y.length) (ha:a=A.length) (hb:b=m+Y.length) (IZ:N=A.length+(X.length+(Y.length+B.length))) (hN:N≤64):
  ai Pg I.bt [.rs KB [] 0 N N 34 .tip,.int .i64 a,.int .i64 m,.int .i64 b,.fn (.func I.bh) [] []] [.arr 34 ((A++(X++(Y++B))).map aM)]
   (λr fp=>r= .tup []∧fp=[.arr 34 ((A++(Y++(X++B))).map aM)]):=by
 refine ai.intro T.bt (by simp[F.bt]) ?_
 obtain⟨n,Wb⟩:=DM.ex _ X.length Y.length (Nat.le_refl _) IT hy0
 have w1:IntKind.i64.wrap ((m:Int)-a)=(X.length:Int):=by rw[wrap_i64 (by omega)];omega
 have w2:IntKind.i64.wrap ((b:Int)-m)=(Y.length:Int):=by rw[wrap_i64 (by omega)];omega
 obtain⟨T,hT⟩:∃T,T=A++(Y++(X++B)):=⟨_,rfl⟩
 rw[←hT]
 have hI:Pq T m N (n-0) (A,X,Y,B):=⟨hT.symm,hm.symm,IT,hy0,IZ,Wb⟩
 have ajn:A++(X++(Y++B))=sT (A,X,Y,B):=rfl
 rw[ajn]
 simp[F.bt,aj,aF,w1,w2]
 refine fb.C9 n (A,X,Y,B) (λi y=>Pq T m N (n-i) y) [0,1,2,3,4,10,11] (λi y=>[(10,.int .i64 y.2.1.length),(11,.int .i64 y.2.2.1.length)]) (λi y=>[(KB,.arr 34 ((sT y).map aM))]) [.keep [0,1,2,3,4,10,11]] ?_
 simp
 refine⟨hI,λi A' X' Y' B' hi hy K hK=> ?_,λA' X' Y' B' hy K=> ?_⟩
 ·obtain⟨h1,h2,h3,h4,h5,h6⟩:=hy
  simp only at h1 h2 h3 h4 h5 h6
  obtain⟨k,hk⟩:∃k,n-i=k+1:=⟨n-i-1,by omega⟩
  have wa:IntKind.i64.wrap ((m:Int)-X'.length)=(A'.length:Int):=by rw[wrap_i64 (by omega)];omega
  rcases h6.succ hk with⟨dG,hs⟩|⟨dG,hs⟩
  ·have bS:¬((X'.length:Int)=Y'.length):=by omega
   have DY:(Y'.length:Int)<X'.length:=by omega
   have e1:(X'.take Y'.length).length=Y'.length:=by rw[lJ];omega
   have e2:(X'.drop Y'.length).length=X'.length-Y'.length:=by rw[List.length_drop]
   have e3:X'=X'.take Y'.length++X'.drop Y'.length:=(List.take_append_drop _ _).symm
   have wj:IntKind.i64.wrap ((X'.length:Int)-Y'.length)=((X'.drop Y'.length).length:Int):=by rw[e2,wrap_i64 (by omega)];omega
   have hc:=LG (A:=A') (P:=X'.take Y'.length) (M:=X'.drop Y'.length) (Q:=Y') (B:=B') (N:=N) (a:=A'.length) (b:=m) (n:=Y'.length) rfl e1.symm e1 (by omega) (by omega) hN
   have r1:A'++(X'.take Y'.length++(X'.drop Y'.length++(Y'++B')))=sT (A',X',Y',B'):=by
    unfold sT;simp only;rw[←List.append_assoc (X'.take _),←e3]
   have r2:A'++(Y'++(X'.drop Y'.length++(X'.take Y'.length++B')))=sT (A'++Y',X'.drop Y'.length,X'.take Y'.length,B'):=by
    simp[sT]
   rw[r1,r2]at hc
   have hI2:Pq T m N (n-(i+1)) (A'++Y',X'.drop Y'.length,X'.take Y'.length,B'):=by
    refine⟨?_,?_,?_,?_,?_,?_⟩
    ·rw[←h1];simp only[Vg,List.append_assoc];rw[←List.append_assoc (X'.take _),←e3]
    ·simp only[List.length_append];omega
    ·simp only;omega
    ·simp only;omega
    ·simp only[List.length_append];omega
    ·simp only[e1,e2];rw[show n-(i+1)=k by omega];exact hs
   have e1':((X'.take Y'.length).length:Int)=Y'.length:=by rw[e1]
   have lX:=λs2 h=>hK (A'++Y') (X'.drop Y'.length) (X'.take Y'.length) B' s2 h hI2
   rw[e1']at lX
   generalize sT (A',X',Y',B')=D at*
   generalize sT (A'++Y',X'.drop Y'.length,X'.take Y'.length,B')=E at*
   generalize (X'.drop Y'.length).length=z at*
   simp[↓ah,bS,DY,wa,wj]
   refine an.gen [KB] [] [.arr 34 (D.map aM)] hc (by simp[getAll]) (by simp) (by simp) (by simp[ab,ae,bM,idx]) (by simp[af,(az D).refs]) (by simp[aD,aB,bp,idx]) (by simp[aE,(az D).aB]) (by simp[af,ae,ab,(az E).refs]) ?_
   simp[bb,aE,aB,aD,dv,(az E).aB,wj]
   refine⟨[.keep [0,1,2,3,4,10,11]],?_⟩
   simp
   exact lX _ (by simp)
  ·have bS:¬((X'.length:Int)=Y'.length):=by omega
   have DY:¬(Y'.length:Int)<X'.length:=by omega
   obtain⟨u,hu⟩:∃u,u=Y'.length-X'.length:=⟨_,rfl⟩
   have e1:(Y'.take u).length=u:=by rw[lJ];omega
   have e2:(Y'.drop u).length=X'.length:=by rw[List.length_drop];omega
   have e3:Y'=Y'.take u++Y'.drop u:=(List.take_append_drop _ _).symm
   have wj:IntKind.i64.wrap ((Y'.length:Int)-X'.length)=(u:Int):=by rw[wrap_i64 (by omega)];omega
   have wp:IntKind.i64.wrap ((m:Int)+Y'.length)=(m:Int)+Y'.length:=wrap_i64 (by omega)
   have wq:IntKind.i64.wrap ((m:Int)+Y'.length-X'.length)=((m+u:Nat):Int):=by rw[wrap_i64 (by omega)];omega
   have hc:=LG (A:=A') (P:=X') (M:=Y'.take u) (Q:=Y'.drop u) (B:=B') (N:=N) (a:=A'.length) (b:=m+u) (n:=X'.length) rfl rfl e2.symm (by omega) (by omega) hN
   have r1:A'++(X'++(Y'.take u++(Y'.drop u++B')))=sT (A',X',Y',B'):=by
    unfold sT;simp only;rw[←List.append_assoc (Y'.take _),←e3]
   have r2:A'++(Y'.drop u++(Y'.take u++(X'++B')))=sT (A',Y'.drop u,Y'.take u,X'++B'):=rfl
   rw[r1,r2]at hc
   have hI2:Pq T m N (n-(i+1)) (A',Y'.drop u,Y'.take u,X'++B'):=by
    refine⟨?_,?_,?_,?_,?_,?_⟩
    ·rw[←h1];simp only[Vg];rw[←List.append_assoc (Y'.take _),←e3]
    ·simp only;omega
    ·simp only;omega
    ·simp only;omega
    ·simp only[List.length_append];omega
    ·simp only[e1,e2];rw[show n-(i+1)=k by omega,hu];exact hs
   have e1':((Y'.take u).length:Int)=u:=by rw[e1]
   have e2':((Y'.drop u).length:Int)=X'.length:=by rw[e2]
   have lX:=λs2 h=>hK A' (Y'.drop u) (Y'.take u) (X'++B') s2 h hI2
   rw[e1',e2']at lX
   generalize sT (A',X',Y',B')=D at*
   generalize sT (A',Y'.drop u,Y'.take u,X'++B')=E at*
   have wq':=wq
   simp at wq'
   simp at hc
   simp[↓ah,bS,DY,wa,wj,wp,wq']
   refine an.gen [KB] [] [.arr 34 (D.map aM)] hc (by simp[getAll]) (by simp) (by simp) (by simp[ab,ae,bM,idx]) (by simp[af,(az D).refs]) (by simp[aD,aB,bp,idx]) (by simp[aE,(az D).aB]) (by simp[af,ae,ab,(az E).refs]) ?_
   simp[bb,aE,aB,aD,dv,(az E).aB,wj]
   refine⟨[.keep [0,1,2,3,4,10,11]],?_⟩
   simp
   exact lX _ (by simp)
 ·obtain⟨h1,h2,h3,h4,h5,h6⟩:=hy
  simp only at h1 h2 h3 h4 h5 h6
  have he:=h6.zero (by omega)
  have wa:IntKind.i64.wrap ((m:Int)-Y'.length)=(A'.length:Int):=by rw[wrap_i64 (by omega)];omega
  have hc:=LG (A:=A') (P:=X') (M:=[]) (Q:=Y') (B:=B') (N:=N) (a:=A'.length) (b:=m) (n:=Y'.length) rfl he.symm he (by simp;omega) (by simp;omega) hN
  rw[List.nil_append,List.nil_append]at hc
  have r1:A'++(X'++(Y'++B'))=sT (A',X',Y',B'):=rfl
  have r2:A'++(Y'++(X'++B'))=T:=h1
  rw[r1,r2]at hc
  generalize sT (A',X',Y',B')=D at*
  simp[↓ah,he,wa]
  refine an.gen [KB] [] [.arr 34 (D.map aM)] hc (by simp[getAll]) (by simp) (by simp) (by simp[ab,ae,bM,idx]) (by simp[af,(az D).refs]) (by simp[aD,aB,bp,idx]) (by simp[aE,(az D).aB]) (by simp[af,ae,ab,(az T).refs]) ?_
  simp[bb,aE,aB,aD,dv,(az T).aB]
  refine al.with [] [KB] ?_
  simp[af,aE,ae,aB,aD,ab,cT]
end Go.Ab
end W28s
noncomputable section W29s
namespace Go.Ab
open Go.Ab
def lo (x:cS) (y:cS):Bool:=decide (y.index<x.index)
def qe:List cS->List cS->List cS
 |[],m=>m
 |x::l,m=>m.takeWhile (lo x)++x::qe l (m.dropWhile (lo x))
theorem rC:∀l:List cS,qe l []=l
 |[]=>rfl
 |x::l=>by simp[qe,rC l]
theorem Ft {α:Type} {p:α->Bool}:∀ {a b:List α},(∀x∈a,p x=true)->(a++b).takeWhile p=a++b.takeWhile p∧(a++b).dropWhile p=b.dropWhile p
 |[],b,_=>⟨rfl,rfl⟩
 |
  x::a,b,h=>by
  have h1:=h x (by simp)
  obtain⟨i1,i2⟩:=Ft (a:=a) (b:=b) (λy hy=>h y (by simp[hy]))
  simp[h1,i1,i2]
theorem GZ {α:Type} {p:α->Bool}:∀ {b:List α},(∀x∈b,p x=false)->b.takeWhile p=[]∧b.dropWhile p=b
 |[],_=>⟨rfl,rfl⟩
 |x::b,h=>by simp[h x (by simp)]
theorem LH {α:Type} {p:α->Bool}:∀ {a b:List α},(∀x∈b,p x=false)->(a++b).takeWhile p=a.takeWhile p∧(a++b).dropWhile p=a.dropWhile p++b
 |[],b,h=>by simpa using GZ h
 |
  x::a,b,h=>by
  obtain⟨i1,i2⟩:=LH (a:=a) (b:=b) h
  by_cases h1:p x=true
  ·simp[h1,i1,i2]
  ·simp[h1]
theorem rD:∀ {X1 X2 Y1 Y2:List cS},(∀x∈X1,∀y∈Y2,x.index≤y.index)->(∀y∈Y1,∀x∈X2,y.index<x.index)->qe (X1++X2) (Y1++Y2)=qe X1 Y1++qe X2 Y2
 |[],[],Y1,Y2,_,_=>by simp[qe]
 |
  [],x::l,Y1,Y2,_,h2=>by
  obtain⟨i1,i2⟩:=Ft (p:=lo x) (a:=Y1) (b:=Y2) (λy hy=>by have:=h2 y hy x (by simp);simp[lo,this])
  simp[qe,i1,i2]
 |
  x::l,X2,Y1,Y2,h1,h2=>by
  obtain⟨i1,i2⟩:=LH (p:=lo x) (a:=Y1) (b:=Y2) (λy hy=>by have:=h1 x (by simp) y hy;simp[lo,this])
  have ih:=rD (X1:=l) (X2:=X2) (Y1:=Y1.dropWhile (lo x)) (Y2:=Y2) (λa ha=>h1 a (by simp[ha])) (λy hy=>h2 y ((List.dropWhile_sublist _).subset hy))
  simp only[List.cons_append,qe,i1,i2,ih,List.append_assoc]
theorem qS:∀X Y:List cS,(qe X Y).Perm (X++Y)
 |[],Y=> .refl _
 |
  x::l,Y=>by
  have ih:=qS l (Y.dropWhile (lo x))
  simp only[qe,List.cons_append]
  refine List.perm_middle.trans (List.Perm.cons x ?_)
  refine(List.Perm.append_left _ ih).trans ?_
  rw[←List.append_assoc]
  refine(List.perm_append_comm.append_right _).trans ?_
  rw[List.append_assoc,List.takeWhile_append_dropWhile]
theorem LI {x:cS}:∀ {Y:List cS},lR Y->∀y∈Y.dropWhile (lo x),x.index≤y.index
 |[],_,y,h=>by simp at h
 |
  z::Y,hs,y,h=>by
  have h1:=List.pairwise_cons.1 hs
  by_cases hz:lo x z=true
  ·simp[hz]at h
   exact LI h1.2 y h
  ·simp[hz]at h
   have hz':x.index≤z.index:=by simpa[lo]using hz
   rcases h with rfl|h
   ·exact hz'
   ·have:=h1.1 y h;omega
theorem RX {x:cS}:∀ {Y:List cS},∀y∈Y.takeWhile (lo x),y.index<x.index
 |[],y,h=>by simp at h
 |
  z::Y,y,h=>by
  by_cases hz:lo x z=true
  ·simp[hz]at h
   rcases h with rfl|h
   ·simpa[lo]using hz
   ·exact RX y h
  ·simp[hz]at h
theorem G0:∀ {X Y:List cS},lR X->lR Y->lR (qe X Y)
 |[],Y,_,h=>h
 |
  x::l,Y,hx,hy=>by
  have h1:=List.pairwise_cons.1 hx
  have hd:lR (Y.dropWhile (lo x)):=hy.sublist (List.dropWhile_sublist _)
  have ih:=G0 h1.2 hd
  refine List.pairwise_append.2 ⟨hy.sublist (List.takeWhile_sublist _),List.pairwise_cons.2 ⟨λz hz=> ?_,ih⟩,λa ha b hb=> ?_⟩
  ·rcases List.mem_append.1 ((qS _ _).mem_iff.1 hz)with h|h
   ·exact h1.1 z h
   ·exact LI hy z h
  ·have h2:=RX a ha
   rcases List.mem_cons.1 hb with rfl|hb
   ·omega
   ·rcases List.mem_append.1 ((qS _ _).mem_iff.1 hb)with h|h
    ·have:=h1.1 b h;omega
    ·have:=LI hy b h;omega
theorem Pr {x:cS} {Y1 Y2:List cS} (h1:∀y∈Y1,y.index<x.index) (h2:∀y∈Y2,x.index≤y.index):qe [x] (Y1++Y2)=Y1++x::Y2:=by
 obtain⟨i1,i2⟩:=Ft (p:=lo x) (a:=Y1) (b:=Y2) (λy hy=>by have:=h1 y hy;simp[lo,this])
 obtain⟨j1,j2⟩:=GZ (p:=lo x) (b:=Y2) (λy hy=>by have:=h2 y hy;simp[lo,this])
 simp[qe,i1,i2,j1,j2]
theorem LJ {y:cS} {X1 X2:List cS} (h1:∀x∈X1,x.index≤y.index) (h2:∀x∈X2,y.index<x.index):qe (X1++X2) [y]=X1++y::X2:=by
 cases X2 with
 |
  nil=>
  have:=rD (X1:=X1) (X2:=[]) (Y1:=[]) (Y2:=[y]) (λx hx z hz=>by simp at hz;subst hz;exact h1 x hx) (by simp)
  simpa[qe,rC]using this
 |
  cons z l=>
  have:=rD (X1:=X1) (X2:=z::l) (Y1:=[]) (Y2:=[y]) (λx hx z hz=>by simp at hz;subst hz;exact h1 x hx) (by simp)
  have hz:=h2 z (by simp)
  simp only[List.nil_append,rC]at this
  rw[this]
  simp[qe,lo,hz,rC]
end Go.Ab
end W29s
noncomputable section W30s
namespace Go.Ab
open Go.Ab
inductive Bs (p:Nat->Bool):Nat->Nat->Nat->Prop
 |done (i:Nat):Bs p i i 0
 |up {i j n:Nat} (h:i<j) (hp:p ((i+j)/2)=true) (hs:Bs p ((i+j)/2+1) j n):Bs p i j (n+1)
 |dn {i j n:Nat} (h:i<j) (hp:p ((i+j)/2)=false) (hs:Bs p i ((i+j)/2) n):Bs p i j (n+1)
theorem Bs.ex (p:Nat->Bool):∀(k i j:Nat),j-i≤k->i≤j->∃n,Bs p i j n
 |0,i,j,h,hi=>by
             obtain rfl:i=j:=by omega
             exact⟨0,.done i⟩
 |
  k+1,i,j,h,hi=>by
  by_cases e:i=j
  ·subst e;exact⟨0,.done i⟩
  ·cases hp:p ((i+j)/2)
   ·obtain⟨n,hn⟩:=Bs.ex p k i ((i+j)/2) (by omega) (by omega)
    exact⟨n+1,.dn (by omega) hp hn⟩
   ·obtain⟨n,hn⟩:=Bs.ex p k ((i+j)/2+1) j (by omega) (by omega)
    exact⟨n+1,.up (by omega) hp hn⟩
theorem Bs.zero {p:Nat->Bool} {i j n:Nat} (h:Bs p i j n) (hn:n=0):i=j:=by cases h<;>first|rfl|omega
theorem Bs.succ {p:Nat->Bool} {i j n k:Nat} (h:Bs p i j n) (hn:n=k+1):i<j∧((p ((i+j)/2)=true∧Bs p ((i+j)/2+1) j k)∨(p ((i+j)/2)=false∧Bs p i ((i+j)/2) k)):=by
 cases h with
 |done=>omega
 |up h1 h2 h3=>cases Nat.succ.inj hn;exact⟨h1,.inl ⟨h2,h3⟩⟩
 |dn h1 h2 h3=>cases Nat.succ.inj hn;exact⟨h1,.inr ⟨h2,h3⟩⟩
structure B6 (p:Nat->Bool) (lo hi k:Nat) (y:Nat×Nat):Prop where
 a:lo≤y.1
 b:y.2≤hi
 c:y.1≤y.2
 t:∀t,lo≤t->t<y.1->p t=true
 f:∀t,y.2≤t->t<hi->p t=false
 s:Bs p y.1 y.2 k
theorem B6.step {p:Nat->Bool} {lo hi n i:Nat} {y:Nat×Nat} (hm:∀s t,lo≤s->s≤t->t<hi->p t=true->p s=true) (h:B6 p lo hi (n-i) y) (za:i<n):
  y.1<y.2∧((p ((y.1+y.2)/2)=true∧B6 p lo hi (n-(i+1)) ((y.1+y.2)/2+1,y.2))∨(p ((y.1+y.2)/2)=false∧B6 p lo hi (n-(i+1)) (y.1,(y.1+y.2)/2))):=by
 obtain⟨a,b,c,t,f,s⟩:=h
 obtain⟨h1,h2⟩:=s.succ (show n-i=(n-(i+1))+1 by omega)
 refine⟨h1,?_⟩
 rcases h2 with⟨e,s2⟩|⟨e,s2⟩
 ·refine .inl ⟨e,?_,b,?_,λu hu FE=> ?_,f,s2⟩
  ·simp only;omega
  ·simp only;omega
  ·simp only at FE;exact hm u _ hu (by omega) (by omega) e
 ·refine .inr ⟨e,a,?_,?_,t,λu hu FE=> ?_,s2⟩
  ·simp only;omega
  ·simp only;omega
  ·simp only at hu
   cases h3:p u
   ·rfl
   ·rw[hm _ u (by omega) hu FE h3]at e;cases e
theorem Bs.start {p:Nat->Bool} {lo hi:Nat} (h:lo≤hi):∃n,B6 p lo hi (n-0) (lo,hi):=by
 obtain⟨n,hn⟩:=Bs.ex p _ lo hi (Nat.le_refl _) h
 exact⟨n,Nat.le_refl _,Nat.le_refl _,h,λt h1 h2=>by simp only at h2;omega,λt h1 h2=>by simp only at h1;omega,hn⟩
theorem half {i j:Nat} (h:i+j≤1000):IntKind.i64.wrap ((IntKind.u64.wrap (IntKind.i64.wrap ((i:Int)+j))).fdiv (2^min 1 IntKind.u64.bits))=(((i+j)/2:Nat):Int):=by
 have h1:IntKind.i64.wrap ((i:Int)+j)=(i:Int)+j:=wrap_i64 (by omega)
 have h2:IntKind.u64.wrap ((i:Int)+j)=(i:Int)+j:=wrap_u64 (by omega)
 have h3:(2:Int)^min 1 IntKind.u64.bits=2:=by decide
 rw[h1,h2,h3,Int.fdiv_eq_ediv_of_nonneg _ (by omega),wrap_i64 (by omega)]
 omega
def ky (D:List cS) (i:Nat):Int:=(D.getD i zSl).index
theorem od {D:List cS} {i:Nat} {s:cS} (h:D[i]? =some s):ky D i=s.index:=by simp[ky,List.getD,h]
def Fu (A:List cS) (x:cS) (Y B:List cS) (t:Nat):List cS:=(A++Y.take t)++x::(Y.drop t++B)
theorem ack {A B Y:List cS} {x:cS} {t:Nat} (h:t<Y.length):Fu A x Y B t=(A++Y.take t)++x::([]++Y[t]::(Y.drop (t+1)++B)):=by
 unfold Fu;rw[List.drop_eq_getElem_cons h];rfl
theorem acm {A B Y:List cS} {x:cS} {t:Nat} (h:t<Y.length):Fu A x Y B (t+1)=(A++Y.take t)++Y[t]::([]++x::(Y.drop (t+1)++B)):=by
 unfold Fu;rw[List.take_succ_eq_append_getElem h];simp only[List.append_assoc,List.cons_append,List.nil_append]
theorem acn {A Y B:List cS} {x:cS} {N a m b:Nat} (hY:0<Y.length) (hs:lR Y) (hx:rL x) (hu:∀s∈Y,rL s) (ha:a=A.length) (hm:m=a+1) (hb:b=m+Y.length) (IZ:N=A.length+(1+(Y.length+B.length))) (hN:N≤64):
  ai Pg I.au [.rs KB [] 0 N N 34 .tip,.int .i64 a,.int .i64 m,.int .i64 b,.fn (.func I.bh) [] []] [.arr 34 ((A++(x::(Y++B))).map aM)]
   (λr fp=>r= .tup []∧fp=[.arr 34 ((A++(qe [x] Y++B)).map aM)]):=by
 refine ai.intro T.au (by simp[F.au]) ?_
 have Wo:Fu A x Y B 0=A++(x::(Y++B)):=by simp[Fu]
 obtain⟨T,hT⟩:∃T,T=A++(qe [x] Y++B):=⟨_,rfl⟩
 rw[←Wo,←hT]
 have hlen:∀t,(Fu A x Y B t).length=N:=λt=>by
  simp only[Fu,List.length_append,List.length_cons,lJ,List.length_drop];omega
 have I0:(Fu A x Y B 0)[a]? =some x:=by rw[Wo,List.getElem?_append_right (by omega),ha,Nat.sub_self];rfl
 have I1:∀t (h:t<Y.length),(Fu A x Y B 0)[m+t]? =some Y[t]:=λt h=>by
  rw[Wo,List.getElem?_append_right (by omega),show m+t-A.length=t+1 by omega,List.getElem?_cons_succ,List.getElem?_append_left h,gJ h]
 obtain⟨p,hp⟩:∃p:Nat->Bool,p=λt=>decide (ky (Fu A x Y B 0) t<x.index):=⟨_,rfl⟩
 have Ck:∀t (h:t<Y.length),p (m+t)=decide (Y[t].index<x.index):=λt h=>by rw[hp];simp only[od (I1 t h)]
 have A0:∀s t,m≤s->s≤t->t<b->p t=true->p s=true:=λs t h1 h2 h3 h4=>by
  obtain⟨u,rfl⟩:∃u,s=m+u:=⟨s-m,by omega⟩
  obtain⟨v,rfl⟩:∃v,t=m+v:=⟨t-m,by omega⟩
  rw[Ck v (by omega)]at h4
  rw[Ck u (by omega)]
  have h5:Y[u].index≤Y[v].index:=by
   by_cases e:u=v
   ·subst e;exact Int.le_refl _
   ·exact List.pairwise_iff_getElem.1 hs u v (by omega) (by omega) (by omega)
  have:=of_decide_eq_true h4
  exact decide_eq_true (by omega)
 obtain⟨n,hB⟩:=Bs.start (p:=p) (lo:=m) (hi:=b) (by omega)
 have w1:IntKind.i64.wrap ((m:Int)-a)=1:=by rw[wrap_i64 (by omega)];omega
 have xg:=hlen 0
 have Mr:∀r,m≤r->r≤b->(∀t,m≤t->t<r->p t=true)->(∀t,r≤t->t<b->p t=false)->Fu A x Y B (r-m)=T:=λr h1 h2 h3 h4=>by
  have e:=Pr (x:=x) (Y1:=Y.take (r-m)) (Y2:=Y.drop (r-m)) (λy hy=>by
   obtain⟨i,hi,rfl⟩:=List.mem_iff_getElem.1 hy
   rw[lJ]at hi
   have:=h3 (m+i) (by omega) (by omega)
   rw[Ck i (by omega)]at this
   rw[List.getElem_take];exact of_decide_eq_true this) (λy hy=>by
   obtain⟨i,hi,rfl⟩:=List.mem_iff_getElem.1 hy
   rw[List.length_drop]at hi
   have:=h4 (m+(r-m+i)) (by omega) (by omega)
   rw[Ck (r-m+i) (by omega)]at this
   rw[List.getElem_drop];have:=of_decide_eq_false this;omega)
  rw[List.take_append_drop]at e
  rw[hT,e];simp[Fu]
 simp[F.au,aj,aF,w1]
 refine fb.C9 n (m,b) (λi y=>B6 p m b (n-i) y) [0,1,2,3,4,10,11] (λi y=>[(10,.int .i64 (y.1:Nat)),(11,.int .i64 (y.2:Nat))]) (λi y=>[]) [.keep [0,1,2,3,4,10,11]] ?_
 simp
 refine⟨hB,λk i j hk hy K hK=> ?_,λi j hy K=> ?_⟩
 ·obtain⟨h1,h2⟩:=hy.step A0 hk
  have DZ:=hy.a
  have oA:=hy.b
  simp only at h1 h2 DZ oA
  have uu:(i:Int)<j:=by omega
  have wh:=half (i:=i) (j:=j) (by omega)
  have YZ:i≤(i+j)/2∧(i+j)/2<j:=by omega
  generalize (i+j)/2=h at*
  obtain⟨u,FE⟩:∃u,h=m+u:=⟨h-m,by omega⟩
  have huY:u<Y.length:=by omega
  have Ms:=I1 u huY
  have D3:=Ck u huY
  rw[←FE]at Ms D3
  have Mq:=AN (hu _ (List.getElem_mem huY)) hx
  have haN:a<N:=by omega
  have IG:(h:Int)<N:=by omega
  have FR:h<N:=by omega
  have wh1:IntKind.i64.wrap ((h:Int)+1)=((h+1:Nat):Int):=by rw[wrap_i64 (by omega)];omega
  generalize Y[u]=y at*
  generalize Fu A x Y B 0=D at*
  simp[↓ah,uu,wh,Ms,I0,xg,haN,IG,FR,-getElem?_pos]
  refine aU.ret Mq (by simp) (by simp) (by simp) ?_
  rcases h2 with⟨e,hI⟩|⟨e,hI⟩
  ·rw[D3]at e
   have na:y.index-x.index<0:=by have:=of_decide_eq_true e;omega
   simp[na,wh1]
   refine⟨[.keep [0,1,2,3,4,10,11]],?_⟩
   simp
   exact hK _ _ _ (by simp) hI
  ·rw[D3]at e
   have na:¬y.index-x.index<0:=by have:=of_decide_eq_false e;omega
   simp[na]
   refine⟨[.keep [0,1,2,3,4,10,11]],?_⟩
   simp
   exact hK _ _ _ (by simp) hI
 ·have he:=hy.s.zero (by omega)
  simp only at he
  subst he
  have DZ:=hy.a
  have oA:=hy.b
  simp only at DZ oA
  have Wp:=Mr i DZ oA hy.t hy.f
  have wi1:IntKind.i64.wrap ((i:Int)-1)=(i:Int)-1:=wrap_i64 (by omega)
  simp[↓ah]
  refine fb.fG (i-m) (λ_=>True) [0,1,2,3,4,10,13] (λt=>[(13,.int .i64 ((a:Int)+t))]) (λt=>[(KB,.arr 34 ((Fu A x Y B t).map aM))]) [.keep [0,1,2,3,4,10,13]] ?_
  simp
  refine⟨λt ht K2 lX=> ?_,λK2=> ?_⟩
  ·have htY:t<Y.length:=by omega
   have hl:=hlen t
   rw[acm htY]at lX
   rw[ack htY]at hl⊢
   have hX:(A++Y.take t).length=a+t:=by rw[List.length_append,lJ];omega
   generalize A++Y.take t=X at*
   generalize Y.drop (t+1)++B=Z at*
   generalize Y[t]=q at*
   obtain⟨g,hg⟩:∃g,g=a+t:=⟨_,rfl⟩
   have g1:=Vd (X:=X) (p:=x) (Y:=[]) (q:=q) (Z:=Z) (g:=g) (by omega)
   have g2:=Ve (X:=X) (p:=x) (Y:=[]) (q:=q) (Z:=Z) (h:=g+1) (by simp;omega)
   have gs:=Vf (X:=X) (p:=x) (Y:=[]) (q:=q) (Z:=Z) (g:=g) (h:=g+1) (by omega) (by simp;omega)
   have eg:(a:Int)+t=(g:Int):=by omega
   have eg2:(a:Int)+((t:Int)+1)=(g:Int)+1:=by omega
   have wg1:IntKind.i64.wrap ((g:Int)+1)=(g:Int)+1:=wrap_i64 (by omega)
   have oi:((g:Int)+1).toNat=g+1:=by omega
   have P5:g<N:=by omega
   have IG:(g:Int)+1<N:=by omega
   have FR:g+1<N:=by omega
   have hh0:(0:Int)≤(g:Int)+1:=by omega
   have dG:(g:Int)<(i:Int)-1:=by omega
   rw[eg2]at lX
   rw[eg]
   generalize X++x::([]++q::Z)=D at*
   generalize X++q::([]++x::Z)=E at*
   have da:((List.map aM D).set g (aM q))[g+1]? =some (aM x)∨True:= .inr trivial
   have Mt:((List.map aM D).set g (aM q))[g+1]? =some (aM q):=by
    rw[List.getElem?_set_ne (by omega),List.getElem?_map,g2];rfl
   have Cf:((List.map aM D).set g (aM q)).set (g+1) (aM x)=List.map aM E:=by
    rw[←List.map_set,←List.map_set,gs]
   simp[↓ah,wi1,dG]
   refine qD.run [KB] rfl ?_
   simp[wg1,oi,g1,g2,hl,P5,IG,FR,hh0,-getElem?_pos]
   simp[Mt,Cf,-getElem?_pos]
   refine⟨[.keep [0,1,2,3,4,10,13]],?_⟩
   simp
   exact lX _ (by simp)
  ·have dG:¬(a:Int)+((i-m:Nat):Int)<(i:Int)-1:=by omega
   rw[Wp]
   simp[↓ah,wi1,dG]
   refine al.with [] [KB] ?_
   simp[af,aE,ae,aB,aD,ab,cT]
end Go.Ab
end W30s
noncomputable section W31s
namespace Go.Ab
open Go.Ab
theorem aco {α:Type} {X Y Z:List α} {p q:α} {g h:Nat} (hg:g=X.length) (hh:h=X.length+1+Y.length):((X++p::(Y++q::Z)).set h p).set g q=X++q::(Y++p::Z):=by
 rw[List.set_comm _ _ (by omega)];exact Vf hg hh
def Fv (A X:List cS) (y:cS) (B:List cS) (c:Nat):List cS:=(A++X.take c)++y::(X.drop c++B)
theorem RY {A B X:List cS} {y:cS} {d:Nat} (h:d<X.length):Fv A X y B (d+1)=(A++X.take d)++X[d]::([]++y::(X.drop (d+1)++B)):=by
 unfold Fv;rw[List.take_succ_eq_append_getElem h];simp only[List.append_assoc,List.cons_append,List.nil_append]
theorem acp {A B X:List cS} {y:cS} {d:Nat} (h:d<X.length):Fv A X y B d=(A++X.take d)++y::([]++X[d]::(X.drop (d+1)++B)):=by
 unfold Fv;rw[List.drop_eq_getElem_cons h];rfl
theorem acq {A X B:List cS} {y:cS} {N a m b:Nat} (hX1:1<X.length) (hs:lR X) (hx:rL y) (hu:∀s∈X,rL s) (ha:a=A.length) (hm:m=a+X.length) (hb:b=m+1) (IZ:N=A.length+(X.length+(1+B.length))) (hN:N≤64):
  ai Pg I.au [.rs KB [] 0 N N 34 .tip,.int .i64 a,.int .i64 m,.int .i64 b,.fn (.func I.bh) [] []] [.arr 34 ((A++(X++(y::B))).map aM)]
   (λr fp=>r= .tup []∧fp=[.arr 34 ((A++(qe X [y]++B)).map aM)]):=by
 refine ai.intro T.au (by simp[F.au]) ?_
 have Wo:Fv A X y B X.length=A++(X++(y::B)):=by simp[Fv]
 obtain⟨T,hT⟩:∃T,T=A++(qe X [y]++B):=⟨_,rfl⟩
 rw[←Wo,←hT]
 have hlen:∀t,(Fv A X y B t).length=N:=λt=>by
  simp only[Fv,List.length_append,List.length_cons,lJ,List.length_drop];omega
 have I1:(Fv A X y B X.length)[m]? =some y:=by rw[Wo,List.getElem?_append_right (by omega),show m-A.length=X.length by omega,List.getElem?_append_right (by omega),Nat.sub_self];rfl
 have I0:∀t (h:t<X.length),(Fv A X y B X.length)[a+t]? =some X[t]:=λt h=>by
  rw[Wo,List.getElem?_append_right (by omega),show a+t-A.length=t by omega,List.getElem?_append_left h,gJ h]
 obtain⟨p,hp⟩:∃p:Nat->Bool,p=λt=>decide (ky (Fv A X y B X.length) t≤y.index):=⟨_,rfl⟩
 have Ck:∀t (h:t<X.length),p (a+t)=decide (X[t].index≤y.index):=λt h=>by rw[hp];simp only[od (I0 t h)]
 have A0:∀s t,a≤s->s≤t->t<m->p t=true->p s=true:=λs t h1 h2 h3 h4=>by
  obtain⟨u,rfl⟩:∃u,s=a+u:=⟨s-a,by omega⟩
  obtain⟨v,rfl⟩:∃v,t=a+v:=⟨t-a,by omega⟩
  rw[Ck v (by omega)]at h4
  rw[Ck u (by omega)]
  have h5:X[u].index≤X[v].index:=by
   by_cases e:u=v
   ·subst e;exact Int.le_refl _
   ·exact List.pairwise_iff_getElem.1 hs u v (by omega) (by omega) (by omega)
  have:=of_decide_eq_true h4
  exact decide_eq_true (by omega)
 obtain⟨n,hB⟩:=Bs.start (p:=p) (lo:=a) (hi:=m) (by omega)
 have w1:IntKind.i64.wrap ((m:Int)-a)=(X.length:Int):=by rw[wrap_i64 (by omega)];omega
 have w2:IntKind.i64.wrap ((b:Int)-m)=1:=by rw[wrap_i64 (by omega)];omega
 have P6:¬(X.length:Int)=1:=by omega
 have Hi:¬X.length=1:=by omega
 have Mr:∀r,a≤r->r≤m->(∀t,a≤t->t<r->p t=true)->(∀t,r≤t->t<m->p t=false)->Fv A X y B (r-a)=T:=λr h1 h2 h3 h4=>by
  have e:=LJ (y:=y) (X1:=X.take (r-a)) (X2:=X.drop (r-a)) (λx hx=>by
   obtain⟨i,hi,rfl⟩:=List.mem_iff_getElem.1 hx
   rw[lJ]at hi
   have:=h3 (a+i) (by omega) (by omega)
   rw[Ck i (by omega)]at this
   rw[List.getElem_take];exact of_decide_eq_true this) (λx hx=>by
   obtain⟨i,hi,rfl⟩:=List.mem_iff_getElem.1 hx
   rw[List.length_drop]at hi
   have:=h4 (a+(r-a+i)) (by omega) (by omega)
   rw[Ck (r-a+i) (by omega)]at this
   rw[List.getElem_drop];have:=of_decide_eq_false this;omega)
  rw[List.take_append_drop]at e
  rw[hT,e];simp[Fv]
 obtain⟨D0,Wq⟩:∃D0,D0=Fv A X y B X.length:=⟨_,rfl⟩
 rw[←Wq]at I1 I0⊢
 have xg:D0.length=N:=by rw[Wq];exact hlen _
 simp[F.au,aj,aF,w1,w2,P6,Hi]
 simp[↓ah,w2]
 refine fb.C9 n (a,m) (λi y=>B6 p a m (n-i) y) [0,1,2,3,4,14,15] (λi y=>[(14,.int .i64 (y.1:Nat)),(15,.int .i64 (y.2:Nat))]) (λi y=>[]) [.keep [0,1,2,3,4,14,15]] ?_
 simp
 refine⟨hB,λk i j hk hy K hK=> ?_,λi j hy K=> ?_⟩
 ·obtain⟨h1,h2⟩:=hy.step A0 hk
  have DZ:=hy.a
  have oA:=hy.b
  simp only at h1 h2 DZ oA
  have uu:(i:Int)<j:=by omega
  have wh:=half (i:=i) (j:=j) (by omega)
  have YZ:i≤(i+j)/2∧(i+j)/2<j:=by omega
  generalize (i+j)/2=h at*
  obtain⟨u,FE⟩:∃u,h=a+u:=⟨h-a,by omega⟩
  have huX:u<X.length:=by omega
  have Ms:=I0 u huX
  have D3:=Ck u huX
  rw[←FE]at Ms D3
  have Mq:=AN hx (hu _ (List.getElem_mem huX))
  have haN:m<N:=by omega
  have IG:(h:Int)<N:=by omega
  have FR:h<N:=by omega
  have wh1:IntKind.i64.wrap ((h:Int)+1)=((h+1:Nat):Int):=by rw[wrap_i64 (by omega)];omega
  generalize X[u]=x at*
  simp[↓ah,uu,wh,Ms,I1,xg,haN,IG,FR,-getElem?_pos]
  refine aU.ret Mq (by simp) (by simp) (by simp) ?_
  rcases h2 with⟨e,hI⟩|⟨e,hI⟩
  ·rw[D3]at e
   have na:¬y.index-x.index<0:=by have:=of_decide_eq_true e;omega
   simp[na,wh1]
   refine⟨[.keep [0,1,2,3,4,14,15]],?_⟩
   simp
   exact hK _ _ _ (by simp) hI
  ·rw[D3]at e
   have na:y.index-x.index<0:=by have:=of_decide_eq_false e;omega
   simp[na]
   refine⟨[.keep [0,1,2,3,4,14,15]],?_⟩
   simp
   exact hK _ _ _ (by simp) hI
 ·have he:=hy.s.zero (by omega)
  simp only at he
  subst he
  have DZ:=hy.a
  have oA:=hy.b
  simp only at DZ oA
  have Wp:=Mr i DZ oA hy.t hy.f
  rw[Wq]
  simp[↓ah]
  refine fb.fG (m-i) (λ_=>True) [0,1,2,3,4,14,17] (λt=>[(17,.int .i64 ((m:Int)-t))]) (λt=>[(KB,.arr 34 ((Fv A X y B (X.length-t)).map aM))]) [.keep [0,1,2,3,4,14,17]] ?_
  simp
  refine⟨λt ht K2 lX=> ?_,λK2=> ?_⟩
  ·obtain⟨d,hd⟩:∃d,X.length-t=d+1:=⟨X.length-t-1,by omega⟩
   have PD:X.length-(t+1)=d:=by omega
   have hdX:d<X.length:=by omega
   have hl:=hlen (d+1)
   rw[PD,acp hdX]at lX
   rw[hd,RY hdX]
   rw[RY hdX]at hl
   have hXl:(A++X.take d).length=a+d:=by rw[List.length_append,lJ];omega
   generalize A++X.take d=W at*
   generalize X.drop (d+1)++B=Z at*
   generalize X[d]=q at*
   obtain⟨g,hg⟩:∃g,g=a+d:=⟨_,rfl⟩
   have g1:=Vd (X:=W) (p:=q) (Y:=[]) (q:=y) (Z:=Z) (g:=g) (by omega)
   have g2:=Ve (X:=W) (p:=q) (Y:=[]) (q:=y) (Z:=Z) (h:=g+1) (by simp;omega)
   have gs:=aco (X:=W) (p:=q) (Y:=[]) (q:=y) (Z:=Z) (g:=g) (h:=g+1) (by omega) (by simp;omega)
   have eg:(m:Int)-t=(g:Int)+1:=by omega
   have eg2:(m:Int)-((t:Int)+1)=(g:Int):=by omega
   have wg0:IntKind.i64.wrap (g:Int)=(g:Int):=wrap_i64 (by omega)
   have oi:((g:Int)+1).toNat=g+1:=by omega
   have P5:g<N:=by omega
   have IG:(g:Int)+1<N:=by omega
   have FR:g+1<N:=by omega
   have hh0:(0:Int)≤(g:Int)+1:=by omega
   have dG:(i:Int)<(g:Int)+1:=by omega
   rw[eg2]at lX
   rw[eg]
   generalize W++q::([]++y::Z)=D at*
   generalize W++y::([]++q::Z)=E at*
   have Mt:((List.map aM D).set (g+1) (aM q))[g]? =some (aM q):=by
    rw[List.getElem?_set_ne (by omega),List.getElem?_map,g1];rfl
   have Cf:((List.map aM D).set (g+1) (aM q)).set g (aM y)=List.map aM E:=by
    rw[←List.map_set,←List.map_set,gs]
   simp[↓ah,dG]
   refine qD.run [KB] rfl ?_
   simp[wg0,oi,g1,g2,hl,P5,IG,FR,hh0,-getElem?_pos]
   simp[Mt,Cf,-getElem?_pos]
   refine⟨[.keep [0,1,2,3,4,14,17]],?_⟩
   simp
   exact lX _ (by simp)
  ·have dG:¬(i:Int)<(m:Int)-((m-i:Nat):Int):=by omega
   have hXm:X.length-(m-i)=i-a:=by omega
   rw[hXm,Wp]
   simp[↓ah,dG]
   refine al.with [] [KB] ?_
   simp[af,aE,ae,aB,aD,ab,cT]
end Go.Ab
end W31s
