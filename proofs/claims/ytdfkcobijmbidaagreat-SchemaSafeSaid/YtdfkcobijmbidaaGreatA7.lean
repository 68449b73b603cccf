/- A reckoning that finds that a function returns a value of a shape. No condition. -/
import Derived.Test.YtdfkcobijmbidaaGreatA5
import Derived.Test.YtdfkcobijmbidaaGreatA4
set_option linter.all false
namespace Go.Ab
inductive AV where
 |un
 |no
 |bl (b:Option Bool)
 |int (k:IntKind) (n:Option Int)
 |str (l:List UInt8)
 |st (w:Nat) (l:List AV)
 |ar (sz n:Nat) (l:List AV)
 |tup (l:List AV)
 |sl (sz:Nat) (l:List AV) (c:Bool)
 |rs (k:Nat) (p:List Step) (off len aC sz:Nat) (c:jb)
 |pt (k:Nat) (p:List Step) (aC:Nat)
 |fp (sz:Nat) (l:List AV) (p:List Step)
 |np
 |gd (b:Bool) (v:AV)
 deriving Inhabited
def AV.isNum:AV->Bool
 | .int .. =>true
 |_=>false
mutual
def gm:AV->PV->Prop
 | .un,_=>True
 | .no,v=>v= .un
 | .bl b,.bl x=>∀y,b=some y->x=y
 | .int k n,.int k' m=>k'=k∧∀y,n=some y->m=y
 | .str l,.str m=>m=l
 | .st w l,.st w' m=>w'=w∧bH l m
 | .ar sz n l,.ar bB n' m=>(bB=sz∧n'=n)∧bH l m
 | .tup l,.tup m=>bH l m
 | .sl sz l c,.sl bB m c'=>(bB=sz∧c'=c)∧bH l m
 | .rs k p off len aC sz c,v=>v= .rs k p off len aC sz c
 | .pt k p aC,v=>v= .pt k p aC
 | .fp sz l p,.fp bB m p'=>(bB=sz∧p'=p)∧bH l m
 | .np,v=>v= .np
 | .gd b v,.gd b' p=>b'=b∧gm v p
 |_,_=>False
def bH:List AV->List PV->Prop
 |[],[]=>True
 |a::l,p::m=>gm a p∧bH l m
 |_,_=>False
end
theorem bH.length:∀ {l:List AV} {m:List PV},bH l m->m.length=l.length
 |[],[],_=>rfl
 |[],_::_,h=>by simp[bH]at h
 |_::_,[],h=>by simp[bH]at h
 |a::l,p::m,h=>by simp only[bH]at h;simp[bH.length h.2]
theorem bH.at:∀ {l:List AV} {m:List PV} {i:Nat} {a:AV},bH l m->l[i]? =some a->∃p,m[i]? =some p∧gm a p
 |[],_,i,a,_,h=>by simp at h
 |_::_,[],_,_,h,_=>by simp[bH]at h
 |b::l,p::m,0,a,h,ha=>by simp at ha;subst ha;simp only[bH]at h;exact⟨p,rfl,h.1⟩
 |b::l,p::m,i+1,a,h,ha=>by simp only[bH]at h;simp at ha;simpa using bH.at h.2 ha
theorem bH.set:∀ {l:List AV} {m:List PV} {i:Nat} {a:AV} {p:PV},bH l m->gm a p->bH (l.set i a) (m.set i p)
 |[],[],_,_,_,_,_=>by simp[bH]
 |[],_::_,_,_,_,h,_=>by simp[bH]at h
 |_::_,[],_,_,_,h,_=>by simp[bH]at h
 |b::l,q::m,0,a,p,h,ha=>by simp only[bH]at h;simp[bH,ha,h.2]
 |b::l,q::m,i+1,a,p,h,ha=>by simp only[bH]at h;simp[bH,h.1,bH.set h.2 ha]
theorem bH.take:∀ {l:List AV} {m:List PV} (i:Nat),bH l m->bH (l.take i) (m.take i)
 |[],[],_,_=>by simp[bH]
 |[],_::_,_,h=>by simp[bH]at h
 |_::_,[],_,h=>by simp[bH]at h
 |b::l,q::m,0,h=>by simp[bH]
 |b::l,q::m,i+1,h=>by simp only[bH]at h;simp[bH,h.1,bH.take i h.2]
theorem bH.drop:∀ {l:List AV} {m:List PV} (i:Nat),bH l m->bH (l.drop i) (m.drop i)
 |[],[],_,_=>by simp[bH]
 |[],_::_,_,h=>by simp[bH]at h
 |_::_,[],_,h=>by simp[bH]at h
 |b::l,q::m,0,h=>by simpa using h
 |b::l,q::m,i+1,h=>by simp only[bH]at h;simpa using bH.drop i h.2
theorem bH.append:∀ {l:List AV} {m:List PV} {l':List AV} {m':List PV},bH l m->bH l' m'->bH (l++l') (m++m')
 |[],[],_,_,_,h=>by simpa using h
 |[],_::_,_,_,h,_=>by simp[bH]at h
 |_::_,[],_,_,h,_=>by simp[bH]at h
 |b::l,q::m,_,_,h,h'=>by simp only[bH]at h;simp[bH,h.1,bH.append h.2 h']
theorem bH.rep {a:AV} {p:PV} (h:gm a p):∀n,bH (List.replicate n a) (List.replicate n p)
 |0=>by simp[bH]
 |n+1=>by simp[List.replicate_succ,bH,h,bH.rep h n]
def AV.width:AV->Option Nat
 | .un=>none
 | .st w _=>some w
 | .ar sz n _=>some (n*sz)
 |_=>some 1
def AV.agg:AV->Option Bool
 | .un=>none
 | .st .. | .ar .. =>some true
 |_=>some false
def AV.QO:AV->Bool
 | .un| .no| .tup _| .gd .. =>false
 |_=>true
def WT:List AV->Option Nat
 |[]=>some 0
 |a::l=>match a.width,WT l with|some x,some y=>some (x+y)|_,_=>none
theorem gm.width {a:AV} {p:PV} (h:gm a p) {w:Nat} (hw:a.width=some w):p.width=w:=by
 cases a<;>simp[AV.width]at hw<;>subst hw<;>cases p<;>simp[gm]at h<;>simp[PV.width,h]
theorem gm.agg {a:AV} {p:PV} (h:gm a p) {w:Bool} (hw:a.agg=some w):p.isAgg=w:=by
 cases a<;>simp[AV.agg]at hw<;>subst hw<;>cases p<;>simp[gm]at h<;>simp[PV.isAgg]
theorem gm.QO {a:AV} {p:PV} (h:gm a p) (hw:a.QO=true):p.bj=true:=by
 cases a<;>simp[AV.QO]at hw<;>cases p<;>simp[gm]at h<;>simp[PV.bj]
theorem bH.av:∀ {l:List AV} {m:List PV} {w:Nat},bH l m->WT l=some w->av m=w
 |[],[],w,_,h=>by simp[WT]at h;subst h;rfl
 |[],_::_,_,h,_=>by simp[bH]at h
 |_::_,[],_,h,_=>by simp[bH]at h
 |
  a::l,p::m,w,h,hw=>by
  simp only[bH]at h
  simp only[WT]at hw
  split at hw<;>simp only[sJ,reduceCtorEq]at hw
  rename_i x y h1 h2
  subst hw
  simp only[Ab.av,h.1.width h1,bH.av h.2 h2]
def we:AV->List Step->Option AV
 |v,[]=>some v
 | .st _ l,.f i o::r=>if WT (l.take i)=some o then(match l[i]?with|some c=>we c r|none=>none)else none
 | .ar sz _ l,.i j s::r=>if s=sz then(match l[j]?with|some c=>we c r|none=>none)else none
 | .ar sz _ l,.w o n s::r=>if s=sz∧o+n≤l.length then we (.ar sz n ((l.drop o).take n)) r else none
 |_,_=>none
def Bk:AV->List Step->AV->Option AV
 |v,[],x=>match x.width,v.width with|some a,some b=>if a=b then some x else none|_,_=>none
 | .st w l,.f i o::r,x=>if WT (l.take i)=some o then(match l[i]?with|some c=>(match Bk c r x with|some c'=>some (.st w (l.set i c'))|none=>none)|none=>none)else none
 | .ar sz n l,.i j s::r,x=>if s=sz then(match l[j]?with|some c=>(match Bk c r x with|some c'=>some (.ar sz n (l.set j c'))|none=>none)|none=>none)else none
 |_,_,_=>none
theorem oK:∀ {r:List Step} {a b:AV} {p:PV},gm a p->we a r=some b->∃q,aQ p r=some q∧gm b q
 |
  [],a,b,p,h,hb=>by
  have:we a []=some a:=by cases a<;>rfl
  rw[this]at hb
  cases hb
  exact⟨p,by cases p<;>rfl,h⟩
 |
  .f i o::r,a,b,p,h,hb=>by
  cases a<;>simp only[we,reduceCtorEq]at hb
  rename_i w l
  split at hb
  ·rename_i ho
   split at hb
   ·rename_i c hc
    cases p<;>simp only[gm]at h
    rename_i w' m
    obtain⟨q,hq,hg⟩:=h.2.at hc
    obtain⟨x,hx,Ti⟩:=oK hg hb
    refine⟨x,?_,Ti⟩
    simp only[aQ,(h.2.take i).av ho,if_true,hq,hx]
   ·simp at hb
  ·simp at hb
 |
  .i j s::r,a,b,p,h,hb=>by
  cases a<;>simp only[we,reduceCtorEq]at hb
  rename_i sz n l
  split at hb
  ·rename_i ho
   split at hb
   ·rename_i c hc
    cases p<;>simp only[gm]at h
    rename_i bB n' m
    obtain⟨q,hq,hg⟩:=h.2.at hc
    obtain⟨x,hx,Ti⟩:=oK hg hb
    refine⟨x,?_,Ti⟩
    simp only[aQ,h.1.1,ho,if_true,hq,hx]
   ·simp at hb
  ·simp at hb
 |
  .w o n s::r,a,b,p,h,hb=>by
  cases a<;>simp only[we,reduceCtorEq]at hb
  rename_i sz n0 l
  split at hb
  ·rename_i ho
   cases p<;>simp only[gm]at h
   rename_i bB n' m
   have hl:=h.2.length
   obtain⟨x,hx,Ti⟩:=oK (p:= .ar bB n ((m.drop o).take n)) (by simp only[gm];exact⟨⟨h.1.1,trivial⟩,(h.2.drop o).take n⟩) hb
   refine⟨x,?_,Ti⟩
   simp only[aQ]
   rw[if_pos ⟨by rw[h.1.1];exact ho.1,by omega⟩]
   exact hx
  ·simp at hb
theorem uH:∀ {r:List Step} {a x b:AV} {p q:PV},gm a p->gm x q->Bk a r x=some b->∃p',dD p r q=some p'∧gm b p'
 |
  [],a,x,b,p,q,h,hx,hb=>by
  have e:Bk a [] x=match x.width,a.width with|some u,some v=>if u=v then some x else none|_,_=>none:=by cases a<;>rfl
  rw[e]at hb
  split at hb
  ·rename_i u v h1 h2
   split at hb<;>simp only[sJ,reduceCtorEq]at hb
   subst hb
   rename_i huv
   refine⟨q,?_,hx⟩
   have e2:dD p [] q=if q.width=p.width then some q else none:=by cases p<;>rfl
   rw[e2,hx.width h1,h.width h2,if_pos huv]
  ·simp at hb
 |
  .f i o::r,a,x,b,p,q,h,hx,hb=>by
  cases a<;>simp only[Bk,reduceCtorEq]at hb
  rename_i w l
  split at hb
  ·rename_i ho
   split at hb
   ·rename_i c hc
    split at hb<;>simp only[sJ,reduceCtorEq]at hb
    rename_i c' Bz
    subst hb
    cases p<;>simp only[gm]at h
    rename_i w' m
    obtain⟨y,hy,hg⟩:=h.2.at hc
    obtain⟨z,hz,hgz⟩:=uH hg hx Bz
    refine⟨.st w' (m.set i z),?_,?_⟩
    ·simp only[dD,(h.2.take i).av ho,if_true,hy,hz]
    ·simp only[gm];exact⟨h.1,h.2.set hgz⟩
   ·simp at hb
  ·simp at hb
 |
  .i j s::r,a,x,b,p,q,h,hx,hb=>by
  cases a<;>simp only[Bk,reduceCtorEq]at hb
  rename_i sz n l
  split at hb
  ·rename_i ho
   split at hb
   ·rename_i c hc
    split at hb<;>simp only[sJ,reduceCtorEq]at hb
    rename_i c' Bz
    subst hb
    cases p<;>simp only[gm]at h
    rename_i bB n' m
    obtain⟨y,hy,hg⟩:=h.2.at hc
    obtain⟨z,hz,hgz⟩:=uH hg hx Bz
    refine⟨.ar bB n' (m.set j z),?_,?_⟩
    ·simp only[dD,h.1.1,ho,if_true,hy,hz]
    ·simp only[gm];exact⟨h.1,h.2.set hgz⟩
   ·simp at hb
  ·simp at hb
 | .w o n s::r,a,x,b,p,q,h,hx,hb=>by cases a<;>simp[Bk]at hb
inductive AB where
 |box (v:AV)
 |arr (sz:Nat) (l:List AV)
def AB.aC:AB->Nat
 | .box _=>0
 | .arr _ l=>l.length
def gB:AB->a9->Prop
 | .box a,.box p=>gm a p
 | .arr sz l,.arr bB m=>bB=sz∧bH l m
 |_,_=>False
theorem gB.aC {a:AB} {b:a9} (h:gB a b):b.aC=a.aC:=by
 cases a<;>cases b<;>simp only[gB]at h
 ·rfl
 ·exact h.2.length
def xn:AB->List Step->Option AV
 | .box v,p=>we v p
 | .arr sz l,.i j s::r=>if s=sz then(match l[j]?with|some c=>we c r|none=>none)else none
 | .arr sz l,.w o n s::r=>if s=sz∧o+n≤l.length then we (.ar sz n ((l.drop o).take n)) r else none
 | .arr _ _,_=>none
def Aa:AB->List Step->AV->Option AB
 | .box v,p,x=>match Bk v p x with|some v'=>some (.box v')|none=>none
 | .arr sz l,.i j s::r,x=>if s=sz then(match l[j]?with|some c=>(match Bk c r x with|some c'=>some (.arr sz (l.set j c'))|none=>none)|none=>none)else none
 | .arr _ _,_,_=>none
theorem E3 {r:List Step} {a:AB} {b:AV} {p:a9} (h:gB a p) (hb:xn a r=some b):∃q,mb p r=some q∧gm b q:=by
 cases a<;>cases p<;>simp only[gB]at h
 ·obtain⟨q,h1,h2⟩:=oK h (by simpa only[xn]using hb)
  exact⟨q,by simpa only[mb]using h1,h2⟩
 ·match r,hb with
  |[],hb=>simp[xn]at hb
  | .f _ _::_,hb=>simp[xn]at hb
  |
   .i j s::r,hb=>
   simp only[xn]at hb
   split at hb
   ·rename_i ho
    split at hb
    ·rename_i c hc
     obtain⟨q,hq,hg⟩:=h.2.at hc
     obtain⟨x,hx,Ti⟩:=oK hg hb
     exact⟨x,by simp only[mb,h.1,ho,if_true,hq,hx],Ti⟩
    ·simp at hb
   ·simp at hb
  |
   .w o n s::r,hb=>
   simp only[xn]at hb
   split at hb
   ·rename_i sz l bB m ho
    have hl:=h.2.length
    obtain⟨x,hx,Ti⟩:=oK (p:= .ar bB n ((m.drop o).take n)) (by simp only[gm];exact⟨⟨h.1,trivial⟩,(h.2.drop o).take n⟩) hb
    refine⟨x,?_,Ti⟩
    simp only[mb]
    rw[if_pos ⟨by rw[h.1];exact ho.1,by omega⟩]
    exact hx
   ·simp at hb
theorem MF {r:List Step} {a b:AB} {x:AV} {q:PV} {p:a9} (h:gB a p) (hx:gm x q) (hb:Aa a r x=some b):∃p',pv p r q=some p'∧gB b p':=by
 cases a<;>cases p<;>simp only[gB]at h
 ·simp only[Aa]at hb
  split at hb<;>simp only[sJ,reduceCtorEq]at hb
  rename_i v' hv
  subst hb
  obtain⟨z,h1,h2⟩:=uH h hx hv
  exact⟨.box z,by simp only[pv,h1],h2⟩
 ·match r,hb with
  |[],hb=>simp[Aa]at hb
  | .f _ _::_,hb=>simp[Aa]at hb
  | .w _ _ _::_,hb=>simp[Aa]at hb
  |
   .i j s::r,hb=>
   simp only[Aa]at hb
   split at hb
   ·rename_i ho
    split at hb
    ·rename_i c hc
     split at hb<;>simp only[sJ,reduceCtorEq]at hb
     rename_i c' Bz
     subst hb
     obtain⟨y,hy,hg⟩:=h.2.at hc
     obtain⟨z,hz,hgz⟩:=uH hg hx Bz
     refine⟨_,by simp only[pv,h.1,ho,if_true,hy,hz];rfl,?_⟩
     simp[gB,h.2.set hgz]
    ·simp at hb
   ·simp at hb
mutual
def E4:PV->AV
 | .bl b=> .bl (some b)
 | .int k n=> .int k (some n)
 | .str l=> .str l
 | .st w l=> .st w (G3 l)
 | .ar sz n l=> .ar sz n (G3 l)
 | .sl sz l c=> .sl sz (G3 l) c
 | .np=> .np
 |_=> .un
def G3:List PV->List AV
 |[]=>[]
 |p::l=>E4 p::G3 l
end
mutual
theorem wg:∀p:PV,gm (E4 p) p
 | .bl b=>by simp[E4,gm]
 | .int k n=>by simp[E4,gm]
 | .str l=>by simp[E4,gm]
 | .st w l=>by simp[E4,gm,uK l]
 | .ar sz n l=>by simp[E4,gm,uK l]
 | .sl sz l c=>by simp[E4,gm,uK l]
 | .np=>by simp[E4,gm]
 | .un| .tup _| .rs .. | .pt .. | .fp .. | .fn .. | .nf| .gd .. | .ifc .. | .ni| .mp .. =>by simp[E4,gm]
theorem uK:∀l:List PV,bH (G3 l) l
 |[]=>by simp[G3,bH]
 |p::l=>by simp[G3,bH,wg p,uK l]
end
mutual
def AV.pure:AV->Bool
 | .bl _| .int .. | .str _| .np=>true
 | .st _ l| .ar _ _ l| .sl _ l _=>lQ l
 |_=>false
def lQ:List AV->Bool
 |[]=>true
 |a::l=>a.pure&&lQ l
end
mutual
theorem gm.refs:∀ {a:AV} {p:PV},gm a p->a.pure=true->ab (λ_=>false) p=true
 | .bl _,p,h,_=>by cases p<;>simp[gm]at h<;>rfl
 | .int _ _,p,h,_=>by cases p<;>simp[gm]at h<;>rfl
 | .str _,p,h,_=>by cases p<;>simp[gm]at h<;>rfl
 | .np,p,h,_=>by simp only[gm]at h;subst h;rfl
 |
  .st _ l,p,h,hp=>by
  cases p<;>simp only[gm]at h
  simp only[ab];exact bH.refs h.2 (by simpa[AV.pure]using hp)
 |
  .ar _ _ l,p,h,hp=>by
  cases p<;>simp only[gm]at h
  simp only[ab];exact bH.refs h.2 (by simpa[AV.pure]using hp)
 |
  .sl _ l _,p,h,hp=>by
  cases p<;>simp only[gm]at h
  simp only[ab];exact bH.refs h.2 (by simpa[AV.pure]using hp)
 | .un,_,_,hp| .no,_,_,hp| .tup _,_,_,hp| .rs ..,_,_,hp| .pt ..,_,_,hp| .fp ..,_,_,hp| .gd ..,_,_,hp=>by simp[AV.pure]at hp
theorem bH.refs:∀ {l:List AV} {m:List PV},bH l m->lQ l=true->ae (λ_=>false) m=true
 |[],[],_,_=>rfl
 |[],_::_,h,_=>by simp[bH]at h
 |_::_,[],h,_=>by simp[bH]at h
 |
  a::l,p::m,h,hp=>by
  simp only[bH]at h
  simp only[lQ,aJ]at hp
  simp[ae,h.1.refs hp.1,h.2.refs hp.2]
end
theorem gm.aeE [eg] {a:AV} {p:PV} (h:gm a p) (hp:a.pure=true):Pure p:=Pure.of (h.refs hp)
theorem bH.uM [eg] {l:List AV} {m:List PV} (h:bH l m) (hp:lQ l=true):aB m:=aB.of (h.refs hp)
end Go.Ab
namespace Go.Ab
variable [eg]
variable {P:Program}
structure AS where
 env:List (Nat×AV)
 bx:List (Nat×AB)
def uN {α:Type}:List (Nat×α)->Prop
 |[]=>True
 |(k,_)::r=>(∀j x,get r j=some x->k<j)∧uN r
theorem uN.put {α:Type}:∀ {l:List (Nat×α)} (n:Nat) (x:α),uN l->uN (put l n x)
 |[],n,x,_=>by simp[uN]
 |
  (k,v)::r,n,x,h=>by
  obtain⟨h1,h2⟩:=h
  simp only[Ab.put]
  split
  ·rename_i hk;subst hk;exact⟨h1,h2⟩
  ·split
   ·rename_i hk fZ
    refine⟨λj y hj=> ?_,h1,h2⟩
    simp only[get]at hj
    split at hj
    ·omega
    ·have:=h1 j y hj;omega
   ·rename_i hk fZ
    refine⟨λj y hj=> ?_,h2.put n x⟩
    rw[fg]at hj
    split at hj
    ·omega
    ·exact h1 j y hj
theorem uN.mem {α:Type}:∀ {l:List (Nat×α)} {k:Nat} {x:α},uN l->(k,x)∈l->get l k=some x
 |[],_,_,_,h=>by simp at h
 |
  (k,v)::r,n,x,hs,h=>by
  rcases List.mem_cons.1 h with h|h
  ·cases h;simp
  ·have:=hs.2.mem h
   simp only[get]
   rw[if_neg,this]
   intro e
   have:=hs.1 n x this
   omega
structure gS (σ:AS) (s:St):Prop where
 env:∀k a,get σ.env k=some a->∃p,get s.env k=some p∧gm a p
 none:∀k,get σ.bx k=none->get s.bx k=none
 bx:∀k b,get σ.bx k=some b->∃blk,get s.bx k=some blk∧gB b blk
 se:uN s.env
 sb:uN s.bx
def AS.put (σ:AS) (d:Option Nat) (a:AV):AS:=
 match d with
 |some d=> {σ with env:=Ab.put σ.env d a}
 |none=>σ
theorem gS.put {σ:AS} {s:St} (h:gS σ s) (d:Option Nat) {a:AV} {p:PV} (ha:gm a p):gS (σ.put d a) (s.put d p):=by
 cases d with
 |none=>exact h
 |
  some d=>
  refine⟨λk b hb=> ?_,h.none,h.bx,h.se.put _ _,h.sb⟩
  simp only[AS.put,fg]at hb
  simp only[St.put,fg]
  split at hb
  ·rename_i e;cases hb;rw[if_pos e];exact⟨p,rfl,ha⟩
  ·rename_i e;rw[if_neg e];exact h.env k b hb
theorem gS.J0 {σ:AS} {s:St} (h:gS σ s) (k:Nat) {b:AB} {blk:a9} (hb:gB b blk):gS {σ with bx:=Ab.put σ.bx k b} {s with bx:=Ab.put s.bx k blk}:=by
 refine⟨h.env,λj hj=> ?_,λj c hc=> ?_,h.se,h.sb.put _ _⟩
 ·simp only[fg]at hj⊢
  split at hj
  ·simp at hj
  ·rename_i e;rw[if_neg e];exact h.none j hj
 ·simp only[fg]at hc⊢
  split at hc
  ·rename_i e;cases hc;rw[if_pos e];exact⟨blk,rfl,hb⟩
  ·rename_i e;rw[if_neg e];exact h.bx j c hc
def WV (σ:AS):AX->Option AV
 | .t n=>get σ.env n
 | .c p=>some (E4 p)
theorem kf {σ:AS} {s:St} (h:gS σ s) {x:AX} {a:AV} (hx:WV σ x=some a):gm a (vx s x):=by
 cases x with
 |
  t n=>
  obtain⟨p,h1,h2⟩:=h.env n a hx
  simp only[vx,h1,Option.getD_some];exact h2
 |c p=>simp only[WV,sJ]at hx;subst hx;exact wg p
def pn (g:Bool) (σ:AS) (x:AX):Option AV:=
 match WV σ x with
 |some (.gd b v)=>if g&& !b then none else some v
 |some .un=>none
 |r=>r
theorem dW {σ:AS} {s:St} (h:gS σ s) {g:Bool} {x:AX} {a:AV} (hx:pn g σ x=some a):∃p,gm a p∧∀K:PV->Prop,K p->vg g s x K:=by
 unfold pn at hx
 split at hx
 ·rename_i b v hv
  split at hx<;>simp only[sJ,reduceCtorEq]at hx
  rename_i hb
  subst hx
  have:=kf h hv
  unfold vg
  generalize vx s x=q at this
  cases q<;>simp only[gm]at this
  rename_i b' p
  refine⟨p,this.2,λK hK=>⟨λhg=> ?_,hK⟩⟩
  rw[this.1]
  cases b<;>simp_all
 ·simp at hx
 ·rename_i r h1 h2
  have:=kf h hx
  refine⟨vx s x,this,λK hK=> ?_⟩
  unfold vg
  generalize vx s x=q at this hK
  cases q<;>first|exact hK|skip
  cases a<;>simp only[gm]at this
  ·exact absurd hx h2
  all_goals first|exact(h1 _ _ hx).elim|exact absurd this (by simp)
def G4 (g:Bool) (σ:AS):List AX->Option (List AV)
 |[]=>some []
 |x::r=>match pn g σ x,G4 g σ r with|some a,some l=>some (a::l)|_,_=>none
theorem yr {σ:AS} {s:St} (h:gS σ s) {g:Bool}:∀ {xs:List AX} {l:List AV},G4 g σ xs=some l->∃ps,bH l ps∧∀K:List PV->Prop,K ps->s8 g s xs K
 |[],l,hx=>by simp only[G4,sJ]at hx;subst hx;exact⟨[],by simp[bH],λK hK=>hK⟩
 |
  x::r,l,hx=>by
  simp only[G4]at hx
  split at hx<;>simp only[sJ,reduceCtorEq]at hx
  rename_i a l' h1 h2
  subst hx
  obtain⟨p,g1,g2⟩:=dW h h1
  obtain⟨ps,g3,g4⟩:=yr h h2
  exact⟨p::ps,by simp[bH,g1,g3],λK hK=>g2 _ (g4 _ hK)⟩
def J1 (g:Bool) (σ:AS):List (Nat×AX)->Option (List (Nat×AV))
 |[]=>some []
 |(i,x)::r=>match pn g σ x,J1 g σ r with|some a,some l=>some ((i,a)::l)|_,_=>none
def my:List AV->List (Nat×AV)->Option (List AV)
 |l,[]=>some l
 |
  l,(i,p)::r=>match l[i]?with
  |some q=>(match p.width,q.width with|some a,some b=>if a=b∧p.QO=true then my (l.set i p) r else none|_,_=>none)
  |none=>none
theorem yu {σ:AS} {s:St} (h:gS σ s) {g:Bool}:∀ {xs:List (Nat×AX)} {l:List (Nat×AV)},J1 g σ xs=some l->∃ps:List (Nat×PV),(ps.map (·.1)=l.map (·.1)∧bH (l.map (·.2)) (ps.map (·.2)))∧∀K:List (Nat×PV)->Prop,K ps->yd g s xs K
 |[],l,hx=>by simp only[J1,sJ]at hx;subst hx;exact⟨[],by simp[bH],λK hK=>hK⟩
 |
  (i,x)::r,l,hx=>by
  simp only[J1]at hx
  split at hx<;>simp only[sJ,reduceCtorEq]at hx
  rename_i a l' h1 h2
  subst hx
  obtain⟨p,g1,g2⟩:=dW h h1
  obtain⟨ps,⟨g3,g5⟩,g4⟩:=yu h h2
  exact⟨(i,p)::ps,by simp[bH,g1,g3,g5],λK hK=>g2 _ (g4 _ hK)⟩
theorem nF:∀ {qs:List (Nat×AV)} {ps:List (Nat×PV)} {l l':List AV} {m:List PV},bH l m->ps.map (·.1)=qs.map (·.1)->bH (qs.map (·.2)) (ps.map (·.2))->my l qs=some l'->∃m',dJ m ps=some m'∧bH l' m'
 |[],[],l,l',m,h,_,_,hs=>by simp only[my,sJ]at hs;subst hs;exact⟨m,rfl,h⟩
 |[],_::_,_,_,_,_,h,_,_=>by simp at h
 |_::_,[],_,_,_,_,h,_,_=>by simp at h
 |
  (i,a)::qs,(j,p)::ps,l,l',m,h,hi,hg,hs=>by
  simp only[List.map_cons,List.cons.injEq,bH]at hi hg
  obtain⟨rfl,hi⟩:=hi
  simp only[my]at hs
  split at hs
  ·rename_i q hq
   split at hs
   ·rename_i x y h1 h2
    split at hs
    ·rename_i KU
     obtain⟨q',h3,h4⟩:=h.at hq
     obtain⟨m',h5,h6⟩:=nF (h.set hg.1) hi hg.2 hs
     refine⟨m',?_,h6⟩
     simp only[dJ,h3]
     rw[if_pos ⟨by rw[hg.1.width h1,h4.width h2];exact KU.1,hg.1.QO KU.2⟩]
     exact h5
    ·simp at hs
   ·simp at hs
  ·simp at hs
def G5 (a b:Option Int) (f:Int->Int->Int):Option Int:=match a,b with|some x,some y=>some (f x y)|_,_=>none
def T4 (a b:Option Int) (f:Int->Int->Bool):Option Bool:=match a,b with|some x,some y=>some (f x y)|_,_=>none
def MG (op:BinOp) (k:IntKind) (a b:Option Int):Option AV:=
 match op with
 | .add=>some (.int k (G5 a b λx y=>k.wrap (x+y)))
 | .sub=>some (.int k (G5 a b λx y=>k.wrap (x-y)))
 | .mul=>some (.int k (G5 a b λx y=>k.wrap (x*y)))
 | .quo=>(match b with|some y=>if y≠0 then some (.int k (G5 a b λx y=>k.wrap (x.tdiv y)))else none|none=>none)
 | .rem=>(match b with|some y=>if y≠0 then some (.int k (G5 a b λx y=>x.tmod y))else none|none=>none)
 | .and=>some (.int k (G5 a b λx y=>bits .and k x y))
 | .or=>some (.int k (G5 a b λx y=>bits .or k x y))
 | .xor=>some (.int k (G5 a b λx y=>bits .xor k x y))
 | .andNot=>some (.int k (G5 a b λx y=>bits .andNot k x y))
 | .eql=>some (.bl (T4 a b λx y=>x==y))
 | .neq=>some (.bl (T4 a b λx y=>x !=y))
 | .lss=>some (.bl (T4 a b λx y=>decide (x<y)))
 | .leq=>some (.bl (T4 a b λx y=>decide (x≤y)))
 | .gtr=>some (.bl (T4 a b λx y=>decide (x>y)))
 | .geq=>some (.bl (T4 a b λx y=>decide (x≥y)))
 | .shl=>(match b with|some y=>if 0≤y then some (.int k (G5 a b λx y=>k.wrap (x*2^min y.toNat k.bits)))else none|none=>none)
 | .shr=>(match b with|some y=>if 0≤y then some (.int k (G5 a b λx y=>x.fdiv (2^min y.toNat k.bits)))else none|none=>none)
theorem G6 {a b:Option Int} {x y:Int} {f:Int->Int->Int} (ha:∀z,a=some z->x=z) (hb:∀z,b=some z->y=z):∀z,G5 a b f=some z->f x y=z:=by
 intro z hz
 unfold G5 at hz
 split at hz<;>simp only[sJ,reduceCtorEq]at hz
 rw[←hz,ha _ rfl,hb _ rfl]
theorem WW {a b:Option Int} {x y:Int} {f:Int->Int->Bool} (ha:∀z,a=some z->x=z) (hb:∀z,b=some z->y=z):∀z,T4 a b f=some z->f x y=z:=by
 intro z hz
 unfold T4 at hz
 split at hz<;>simp only[sJ,reduceCtorEq]at hz
 rw[←hz,ha _ rfl,hb _ rfl]
theorem mU {k:IntKind} {a:Option Int} {x:Int} (h:∀z,a=some z->x=z):gm (.int k a) (.int k x):=by simp only[gm,true_and];exact h
theorem Ac {a:Option Bool} {x:Bool} (h:∀z,a=some z->x=z):gm (.bl a) (.bl x):=by simp only[gm];exact h
theorem MH {op:BinOp} {k:IntKind} {a b:Option Int} {x y:Int} {r:AV} (ha:∀z,a=some z->x=z) (hb:∀z,b=some z->y=z) (h:MG op k a b=some r):∃p,gm r p∧∀K:PV->Prop,K p->oB op k x y K:=by
 cases op<;>simp only[MG,sJ]at h
 case quo|rem|shl|shr=>
  split at h
  ·rename_i z
   split at h<;>simp only[sJ,reduceCtorEq]at h
   rename_i hz
   subst h
   have:=hb z rfl
   exact⟨_,mU (G6 ha hb),λK hK=>⟨by rw[this];exact hz,hK⟩⟩
  ·simp at h
 all_goals
  subst h
  first|exact⟨_,mU (G6 ha hb),λK hK=>hK⟩|exact⟨_,Ac (WW ha hb),λK hK=>hK⟩
mutual
def Bl:Sh->AV->Bool
 | .b,.bl _=>true
 | .i k,.int k' _=>decide (k=k')
 | .s,.str _=>true
 | .st l,.st w m=>decide (w=tY l)&&B7 l m
 | .ar n e,.ar sz k m=>decide (sz=qf e∧k=n∧m.length=n)&&Ir e m
 |_,_=>false
def B7:List Sh->List AV->Bool
 |[],[]=>true
 |x::l,y::m=>Bl x y&&B7 l m
 |_,_=>false
def Ir:Sh->List AV->Bool
 |_,[]=>true
 |e,y::m=>Bl e y&&Ir e m
end
mutual
theorem yv:∀ {x:Sh} {a:AV} {p:PV},gm a p->Bl x a=true->fits x p=true
 | .b,a,p,h,hf=>by cases a<;>simp[Bl]at hf;cases p<;>simp[gm]at h;rfl
 | .i k,a,p,h,hf=>by cases a<;>simp[Bl]at hf;cases p<;>simp[gm]at h;simp[fits,hf,h.1]
 | .s,a,p,h,hf=>by cases a<;>simp[Bl]at hf;cases p<;>simp[gm]at h;rfl
 |
  .st l,a,p,h,hf=>by
  cases a<;>simp only[Bl,aJ,decide_eq_true_eq,reduceCtorEq]at hf
  cases p<;>simp only[gm]at h
  simp[fits,h.1,hf.1,E5 h.2 hf.2]
 |
  .ar n e,a,p,h,hf=>by
  cases a<;>simp only[Bl,aJ,decide_eq_true_eq,reduceCtorEq]at hf
  cases p<;>simp only[gm]at h
  have hl:=h.2.length
  simp[fits,h.1.1,h.1.2,hf.1.1,hf.1.2.1,hl,hf.1.2.2,E6 h.2 hf.2]
theorem E5:∀ {l:List Sh} {m:List AV} {ps:List PV},bH m ps->B7 l m=true->kE l ps=true
 |[],[],[],_,_=>rfl
 |[],[],_::_,h,_=>by simp[bH]at h
 |[],_::_,_,_,hf=>by simp[B7]at hf
 |_::_,[],_,_,hf=>by simp[B7]at hf
 |_::_,_::_,[],h,_=>by simp[bH]at h
 |
  x::l,y::m,p::ps,h,hf=>by
  simp only[bH]at h
  simp only[B7,aJ]at hf
  simp[kE,yv h.1 hf.1,E5 h.2 hf.2]
theorem E6:∀ {e:Sh} {m:List AV} {ps:List PV},bH m ps->Ir e m=true->kR e ps=true
 |_,[],[],_,_=>rfl
 |_,[],_::_,h,_=>by simp[bH]at h
 |_,_::_,[],h,_=>by simp[bH]at h
 |
  e,y::m,p::ps,h,hf=>by
  simp only[bH]at h
  simp only[Ir,aJ]at hf
  simp[kR,yv h.1 hf.1,E6 h.2 hf.2]
end
def MI (op:BinOp) (eqs:ET) (p q:AV):Option AV:=
 match eqs,p,q with
 | .no,.int k a,.int k' b=>if op= .shl∨op= .shr∨k=k' then MG op k a b else none
 |
  .bl,.bl a,.bl b=>(match op with
  | .eql=>some (.bl (match a,b with|some x,some y=>some (x==y)|_,_=>none))
  | .neq=>some (.bl (match a,b with|some x,some y=>some (!(x==y))|_,_=>none))
  |_=>none)
 | .sh x,p,q=>if Bl x p=true∧Bl x q=true then(match op with| .eql| .neq=>some (.bl none)|_=>none)else none
 |_,_,_=>none
theorem MJ {s:St} {op:BinOp} {e:ET} {a b r:AV} {p q:PV} (ha:gm a p) (hb:gm b q) (h:MI op e a b=some r):∃v,gm r v∧∀K:PV->Prop,K v->py s op e p q K:=by
 unfold MI at h
 split at h
 ·rename_i k x k' y
  split at h<;>(try simp only[reduceCtorEq]at h)
  rename_i hk
  cases p<;>simp only[gm]at ha
  cases q<;>simp only[gm]at hb
  obtain⟨v,h1,h2⟩:=MH ha.2 hb.2 h
  refine⟨v,?_,λK hK=>⟨?_,?_⟩⟩
  ·exact h1
  ·rw[ha.1,hb.1];exact hk
  ·rw[ha.1];exact h2 K hK
 ·rename_i x y
  cases p<;>simp only[gm]at ha
  cases q<;>simp only[gm]at hb
  rename_i u v
  split at h<;>simp only[sJ,reduceCtorEq]at h
  ·subst h
   refine⟨.bl (u==v),λz hz=> ?_,λK hK=>hK⟩
   split at hz<;>simp only[sJ,reduceCtorEq]at hz
   rw[←hz,ha _ rfl,hb _ rfl]
  ·subst h
   refine⟨.bl (!(u==v)),λz hz=> ?_,λK hK=>hK⟩
   split at hz<;>simp only[sJ,reduceCtorEq]at hz
   rw[←hz,ha _ rfl,hb _ rfl]
 ·rename_i x p' q'
  split at h<;>(try simp only[reduceCtorEq]at h)
  rename_i hf
  have h1:=yv ha hf.1
  have h2:=yv hb hf.2
  split at h<;>simp only[sJ,reduceCtorEq]at h<;>subst h
  ·exact⟨.bl (PV.beq p q),by simp[gm],λK hK=>⟨⟨h1,h2⟩,hK⟩⟩
  ·exact⟨.bl (!PV.beq p q),by simp[gm],λK hK=>⟨⟨h1,h2⟩,hK⟩⟩
 ·simp at h
end Go.Ab
namespace Go.Ab
variable [eg]
variable {P:Program}
def loA (g:Bool) (σ:AS) (x:Option AX) (dflt most:Nat):Option Nat:=
 match x with
 |none=>some dflt
 |
  some x=>match pn g σ x with
  |some (.int _ (some h))=>if 0≤h∧h≤most then some h.toNat else none
  |_=>none
def E7 (g:Bool) (σ:AS) (lo hi:Option AX) (len cap:Nat):Option (Nat×Nat):=
 match loA g σ hi len cap with
 |some h=>(match loA g σ lo 0 h with|some l=>some (l,h)|none=>none)
 |none=>none
theorem nG {σ:AS} {s:St} (h:gS σ s) {g:Bool} {x:AX} {k:IntKind} {n:Int} (hx:pn g σ x=some (.int k (some n))):∀K:PV->Prop,K (.int k n)->vg g s x K:=by
 obtain⟨p,h1,h2⟩:=dW h hx
 cases p<;>simp only[gm]at h1
 obtain⟨rfl,h3⟩:=h1
 rw[h3 n rfl]at h2
 exact h2
theorem Ad {σ:AS} {s:St} (h:gS σ s) {g:Bool} {lo hi:Option AX} {len cap a b:Nat} (hx:E7 g σ lo hi len cap=some (a,b)):∀K:Nat->Nat->Prop,K a b->j2 g s lo hi len cap K:=by
 intro K hK
 unfold E7 at hx
 split at hx
 ·rename_i h' hh
  split at hx<;>simp only[sJ,Prod.mk.injEq,reduceCtorEq]at hx
  rename_i l' hl
  obtain⟨rfl,rfl⟩:=hx
  have HN:∀J:Nat->Prop,J l'->(match lo with|none=>λ(J:Nat->Prop)=>J 0|some x=>λJ=>vg g s x λp=>mc p λl=>(0≤l∧l≤h')∧J l.toNat) J:=by
   intro J hJ
   cases lo with
   |none=>simp only[loA,sJ]at hl;subst hl;exact hJ
   |
    some x=>
    simp only[loA]at hl
    split at hl
    ·rename_i k n hv
     split at hl<;>simp only[sJ,reduceCtorEq]at hl
     rename_i hc
     subst hl
     exact nG h hv _ ⟨hc,hJ⟩
    ·simp at hl
  cases hi with
  |
   none=>
   simp only[loA,sJ]at hh;subst hh
   exact HN _ hK
  |
   some x=>
   simp only[loA]at hh
   split at hh
   ·rename_i k n hv
    split at hh<;>simp only[sJ,reduceCtorEq]at hh
    rename_i hc
    subst hh
    exact nG h hv _ ⟨hc,HN _ hK⟩
   ·simp at hh
 ·simp at hx
def E8:List AV->Option (List (Option Int))
 |[]=>some []
 | .int _ n::r=>(match E8 r with|some l=>some (n::l)|none=>none)
 |_=>none
def E9 (mx:Bool):Option Int->List (Option Int)->Option Int
 |a,[]=>a
 |a,b::r=>E9 mx (G5 a b λx y=>if mx then max x y else min x y) r
theorem Fa {mx:Bool}:∀ {r:List AV} {l:List (Option Int)} {ps:List PV} {a:Option Int} {x:Int},E8 r=some l->bH r ps->(∀z,a=some z->x=z)->∃y,(∀z,E9 mx a l=some z->y=z)∧∀K:Int->Prop,K y->lH mx x ps K
 |
  [],l,[],a,x,h,_,ha=>by
  simp only[E8,sJ]at h;subst h
  exact⟨x,by simpa only[E9]using ha,λK hK=>hK⟩
 |[],_,_::_,_,_,_,h,_=>by simp[bH]at h
 |_::_,_,[],_,_,_,h,_=>by simp[bH]at h
 |
  b::r,l,p::ps,a,x,h,hg,ha=>by
  cases b<;>simp only[E8,reduceCtorEq]at h
  rename_i k n
  split at h<;>simp only[sJ,reduceCtorEq]at h
  rename_i l' hl
  subst h
  simp only[bH]at hg
  cases p<;>simp only[gm,false_and]at hg
  rename_i k' m
  obtain⟨y,h1,h2⟩:=Fa (mx:=mx) (a:=G5 a n λx y=>if mx then max x y else min x y) (x:=if mx then max x m else min x m) hl hg.2 (G6 ha hg.1.2)
  exact⟨y,by simpa only[E9]using h1,λK hK=>h2 K hK⟩
def xM (σ:AS) (k aC:Nat):Option AB:=match get σ.bx k with|some b=>if aC=b.aC then some b else none|none=>none
theorem mF {σ:AS} {s:St} (h:gS σ s) {k aC:Nat} {b:AB} (hb:xM σ k aC=some b):∃blk,get s.bx k=some blk∧aC=blk.aC∧gB b blk:=by
 unfold xM at hb
 split at hb
 ·rename_i b' hg
  split at hb<;>simp only[sJ,reduceCtorEq]at hb
  rename_i ht;subst hb
  obtain⟨blk,h1,h2⟩:=h.bx k _ hg
  exact⟨blk,h1,by rw[h2.aC];exact ht,h2⟩
 ·simp at hb
def okW (u:AV) (w:Nat) (agg:Bool):Option AV:=match u.width,u.agg with|some a,some b=>if a=w∧b=agg then some u else none|_,_=>none
theorem G7 {u r:AV} {w:Nat} {agg:Bool} {q:PV} (h:okW u w agg=some r) (hq:gm u q):u=r∧q.width=w∧q.isAgg=agg:=by
 unfold okW at h
 split at h
 ·rename_i a b h1 h2
  split at h<;>simp only[sJ,reduceCtorEq]at h
  rename_i hc
  exact⟨h,by rw[hq.width h1];exact hc.1,by rw[hq.agg h2];exact hc.2⟩
 ·simp at h
def tT (g:Bool) (σ:AS):AK->Option AV
 | .mv x=>pn g σ x
 |
  .pick c a b=>match pn g σ c,WV σ a,WV σ b with
  |some (.bl x),some (.bl ya),some (.bl yb)=>some (.bl (match x with|some x=>bif x then ya else yb|none=>none))
  |some (.bl x),some (.bl ya),some (.gd gb (.bl yb))=>if gb=true∨x=some true then some (.bl (match x with|some x=>bif x then ya else yb|none=>none))else none
  |some (.bl x),some (.gd ga (.bl ya)),some (.bl yb)=>if ga=true∨x=some false then some (.bl (match x with|some x=>bif x then ya else yb|none=>none))else none
  |some (.bl (some true)),some (.bl ya),some .no=>some (.bl ya)
  |some (.bl (some false)),some .no,some (.bl yb)=>some (.bl yb)
  |_,_,_=>none
 |
  .build z parts=>match J1 g σ parts,E4 z with
  |some ps,.st w l=>(match my l ps with|some l'=>some (.st w l')|none=>none)
  |some ps,.ar sz n l=>(match my l ps with|some l'=>some (.ar sz n l')|none=>none)
  |_,_=>none
 |
  .load agg w x=>match pn g σ x with
  |some (.pt k p aC)=>(match xM σ k aC with|some b=>(match xn b p with|some u=>okW u w agg|none=>none)|none=>none)
  |some (.fp sz l p)=>(match xn (.arr sz l) p with|some u=>okW u w agg|none=>none)
  |_=>none
 |
  .nilCheck x=>match pn g σ x with
  |some (.pt k p aC)=>(match xM σ k aC with|some _=>some (.pt k p aC)|none=>none)
  |some (.fp sz l p)=>some (.fp sz l p)
  |_=>none
 | .bin op eqs x y=>match pn g σ x,pn g σ y with|some p,some q=>MI op eqs p q|_,_=>none
 |
  .un op x=>match op,pn g σ x with
  | .not,some (.bl b)=>some (.bl (b.map λy=> !y))
  | .neg,some (.int k n)=>some (.int k (n.map λy=>k.wrap (0-y)))
  | .xor,some (.int k n)=>some (.int k (n.map λy=>bits .xor k (if k.signed then-1 else k.max) y))
  |_,_=>none
 | .convI k x=>match pn g σ x with|some (.int _ n)=>some (.int k (n.map λy=>k.wrap y))|_=>none
 |
  .slice (.sl sz) x lo hi none=>match pn g σ x with
  |some (.sl bB l clip)=>if bB=sz then(match E7 g σ lo hi l.length l.length with|some (a,b)=>some (.sl sz ((l.take b).drop a) (clip&&decide (b=l.length)))|none=>none)else none
  |
   some (.rs k p off len aC bB c)=>if bB=sz then(match xM σ k aC with
   |some _=>(match E7 g σ lo hi len (yR c off len aC)with|some (a,b)=>some (.rs k p (off+a) (b-a) aC sz (CJ c a (decide (b=len))))|none=>none)
   |none=>none)else none
  |_=>none
 |
  .slice (.ar n sz) x lo hi none=>match pn g σ x with
  |
   some (.pt k p aC)=>(match xM σ k aC with
   |some _=>(match E7 g σ lo hi n n with|some (a,b)=>some (.rs k p a (b-a) aC sz (if b=n then .clip else .any))|none=>none)
   |none=>none)
  |_=>none
 |
  .fieldA i off x=>match pn g σ x with
  |some (.pt k p aC)=>(match xM σ k aC with|some _=>some (.pt k (p++[.f i off]) aC)|none=>none)
  |some (.fp sz l p)=>some (.fp sz l (p++[.f i off]))
  |_=>none
 |
  .s2a n sz x=>match pn g σ x with
  |some (.sl bB l _)=>if bB=sz∧0<n∧n≤l.length then some (.fp sz l [.w 0 n sz])else none
  |some (.rs k p off len aC bB _)=>(match xM σ k aC with|some _=>if bB=sz∧0<n∧n≤len then some (.pt k (p++[.w off n sz]) aC)else none|none=>none)
  |_=>none
 |
  .field i off agg w x=>match pn g σ x with
  |some (.st _ l)=>(match l[i]?with|some c=>if WT (l.take i)=some off then okW c w agg else none|none=>none)
  |_=>none
 |
  .indexA (.sl sz) x i=>match pn g σ x,pn g σ i with
  |some (.sl bB l _),some (.int _ (some j))=>if bB=sz∧0≤j∧j<l.length then some (.fp sz l [.i j.toNat sz])else none
  |some (.rs k p off len aC bB _),some (.int _ (some j))=>(match xM σ k aC with|some _=>if bB=sz∧0≤j∧j<len then some (.pt k (p++[.i (off+j.toNat) sz]) aC)else none|none=>none)
  |_,_=>none
 |
  .indexA (.ar n sz) x i=>match pn g σ x,pn g σ i with
  |some (.pt k p aC),some (.int _ (some j))=>if 0≤j∧j<n then(match xM σ k aC with|some _=>some (.pt k (p++[.i j.toNat sz]) aC)|none=>none)else none
  |some (.fp bB l p),some (.int _ (some j))=>if 0≤j∧j<n then some (.fp bB l (p++[.i j.toNat sz]))else none
  |_,_=>none
 |
  .index agg n w x i=>match pn g σ x,pn g σ i with
  |some (.ar sz n' l),some (.int _ (some j))=>(match l[j.toNat]?with|some c=>if 0≤j∧j<n∧n'=n∧sz=w∧c.agg=some agg then some c else none|none=>none)
  |_,_=>none
 | .extract i x=>match WV σ x with|some (.tup l)=>l[i]? |_=>none
 |
  .len x=>match pn g σ x with
  |some (.sl _ l _)=>some (.int .i64 (some l.length))
  |some (.rs k _ _ len aC _ _)=>(match xM σ k aC with|some _=>some (.int .i64 (some len))|none=>none)
  |_=>none
 | .lenS x=>match pn g σ x with|some (.str b)=>some (.int .i64 (some b.length))|_=>none
 | .lenC n=>some (.int .i64 (some n))
 |
  .mm mx xs=>match G4 g σ xs with
  |some (.int k a::r)=>(match E8 r with|some l=>some (.int k (E9 mx a l))|none=>none)
  |_=>none
 |_=>none
theorem G8 {n:Option Int} {m:Int} {f:Int->Int} (h:∀y,n=some y->m=y):∀z,n.map f=some z->f m=z:=by
 intro z hz
 cases n with
 |none=>simp at hz
 |some y=>simp at hz;rw[h y rfl];exact hz
theorem G9 {x ya yb:Option Bool} {u v w:Bool} (hx:∀z,x=some z->u=z) (ha:∀z,ya=some z->v=z) (hb:∀z,yb=some z->w=z):
  ∀z,(match x with|some x=>bif x then ya else yb|none=>none)=some z->(bif u then v else w)=z:=by
 intro z hz
 cases x with
 |none=>simp at hz
 |
  some x=>
  rw[hx x rfl]
  cases x
  ·exact hb z hz
  ·exact ha z hz
theorem WX {l:List AV} {p:PV} (h:gm (.tup l) p):∃m,p= .tup m∧bH l m:=by
 cases p<;>simp only[gm]at h
 exact⟨_,rfl,h⟩
theorem Ae {σ:AS} {s:St} (h:gS σ s) {g:Bool}:∀ {k:AK} {r:AV},tT g σ k=some r->∃p,gm r p∧∀K:PV->Prop,K p->ev g s k K:=by
 intro k r hr
 cases k with
 |mv x=>exact dW h hr
 |
  pick c a b=>
  simp only[tT]at hr
  split at hr
  ·rename_i x ya yb h1 h2 h3
   simp only[sJ]at hr;subst hr
   obtain⟨pc,g1,g2⟩:=dW h h1
   have ha:=kf h h2
   have hb:=kf h h3
   cases pc<;>simp only[gm]at g1
   cases OO:vx s a<;>rw[OO]at ha<;>simp only[gm]at ha
   cases OP:vx s b<;>rw[OP]at hb<;>simp only[gm]at hb
   refine⟨_,Ac (G9 g1 ha hb),λK hK=>g2 _ ?_⟩
   simp only[OO,OP]
   exact hK
  ·rename_i x ya gb yb h1 h2 h3
   split at hr<;>simp only[sJ,reduceCtorEq]at hr
   rename_i hc
   subst hr
   obtain⟨pc,g1,g2⟩:=dW h h1
   have ha:=kf h h2
   have hb:=kf h h3
   cases pc<;>simp only[gm]at g1
   rename_i u
   cases OO:vx s a<;>rw[OO]at ha<;>simp only[gm]at ha
   cases OP:vx s b<;>rw[OP]at hb<;>simp only[gm]at hb
   rename_i gb' q
   cases q<;>simp only[gm,and_false]at hb
   refine⟨_,Ac (G9 g1 ha hb.2),λK hK=>g2 _ ?_⟩
   simp only[OO,OP]
   refine⟨λhu=> ?_,hK⟩
   rcases hc with hc|hc
   ·rw[hb.1];exact hc
   ·have:=g1 true hc;rw[this]at hu;cases hu
  ·rename_i x ga ya yb h1 h2 h3
   split at hr<;>simp only[sJ,reduceCtorEq]at hr
   rename_i hc
   subst hr
   obtain⟨pc,g1,g2⟩:=dW h h1
   have ha:=kf h h2
   have hb:=kf h h3
   cases pc<;>simp only[gm]at g1
   rename_i u
   cases OP:vx s b<;>rw[OP]at hb<;>simp only[gm]at hb
   cases OO:vx s a<;>rw[OO]at ha<;>simp only[gm]at ha
   rename_i ga' q
   cases q<;>simp only[gm,and_false]at ha
   refine⟨_,Ac (G9 g1 ha.2 hb),λK hK=>g2 _ ?_⟩
   simp only[OO,OP]
   refine⟨λhu=> ?_,hK⟩
   rcases hc with hc|hc
   ·rw[ha.1];exact hc
   ·have:=g1 false hc;rw[this]at hu;cases hu
  ·rename_i ya h1 h2 h3
   simp only[sJ]at hr;subst hr
   obtain⟨pc,g1,g2⟩:=dW h h1
   have ha:=kf h h2
   have hb:=kf h h3
   cases pc<;>simp only[gm]at g1
   rename_i u
   have hu:=g1 true rfl
   subst hu
   cases OO:vx s a<;>rw[OO]at ha<;>simp only[gm]at ha
   simp only[gm]at hb
   rename_i v
   refine⟨_,Ac ha,λK hK=>g2 _ ?_⟩
   simp only[OO,hb]
   exact⟨by trivial,hK⟩
  ·rename_i yb h1 h2 h3
   simp only[sJ]at hr;subst hr
   obtain⟨pc,g1,g2⟩:=dW h h1
   have ha:=kf h h2
   have hb:=kf h h3
   cases pc<;>simp only[gm]at g1
   rename_i u
   have hu:=g1 false rfl
   subst hu
   cases OP:vx s b<;>rw[OP]at hb<;>simp only[gm]at hb
   simp only[gm]at ha
   refine⟨_,Ac hb,λK hK=>g2 _ ?_⟩
   simp only[OP,ha]
   exact⟨by trivial,hK⟩
  ·simp at hr
 |
  build z parts=>
  simp only[tT]at hr
  have hz:=wg z
  split at hr
  ·rename_i ps w l h1 h2
   split at hr<;>simp only[sJ,reduceCtorEq]at hr
   rename_i l' h3
   subst hr
   obtain⟨qs,⟨g1,g2⟩,g3⟩:=yu h h1
   rw[h2]at hz
   cases z<;>simp only[gm]at hz
   obtain⟨m',g4,g5⟩:=nF hz.2 g1 g2 h3
   exact⟨.st _ m',by simp only[gm];exact⟨hz.1,g5⟩,λK hK=>g3 _ (by simp only[g4];exact hK)⟩
  ·rename_i ps sz n l h1 h2
   split at hr<;>simp only[sJ,reduceCtorEq]at hr
   rename_i l' h3
   subst hr
   obtain⟨qs,⟨g1,g2⟩,g3⟩:=yu h h1
   rw[h2]at hz
   cases z<;>simp only[gm]at hz
   obtain⟨m',g4,g5⟩:=nF hz.2 g1 g2 h3
   exact⟨.ar _ _ m',by simp only[gm];exact⟨hz.1,g5⟩,λK hK=>g3 _ (by simp only[g4];exact hK)⟩
  ·simp at hr
 |
  load agg w x=>
  simp only[tT]at hr
  split at hr
  ·rename_i k p aC h1
   split at hr
   ·rename_i b hb
    split at hr
    ·rename_i u hu
     obtain⟨q,g1,g2⟩:=dW h h1
     simp only[gm]at g1;subst g1
     obtain⟨blk,b1,b2,b3⟩:=mF h hb
     obtain⟨v,c1,c2⟩:=E3 b3 hu
     obtain⟨rfl,d1,d2⟩:=G7 hr c2
     exact⟨v,c2,λK hK=>g2 _ (by simp only[b1,c1];exact⟨⟨b2,d1,d2⟩,hK⟩)⟩
    ·simp at hr
   ·simp at hr
  ·rename_i sz l p h1
   split at hr
   ·rename_i u hu
    obtain⟨q,g1,g2⟩:=dW h h1
    cases q<;>simp only[gm]at g1
    obtain⟨⟨rfl,rfl⟩,g3⟩:=g1
    rename_i sz m p
    obtain⟨v,c1,c2⟩:=E3 (p:= .arr sz m) (a:= .arr sz l) (by simp only[gB];exact⟨trivial,g3⟩) hu
    obtain⟨rfl,d1,d2⟩:=G7 hr c2
    exact⟨v,c2,λK hK=>g2 _ (by simp only[c1];exact⟨⟨d1,d2⟩,hK⟩)⟩
   ·simp at hr
  ·simp at hr
 |
  nilCheck x=>
  simp only[tT]at hr
  split at hr
  ·rename_i k p aC h1
   split at hr<;>simp only[sJ,reduceCtorEq]at hr
   rename_i b hb
   subst hr
   obtain⟨q,g1,g2⟩:=dW h h1
   simp only[gm]at g1;subst g1
   obtain⟨blk,b1,b2,b3⟩:=mF h hb
   exact⟨.pt k p aC,by simp only[gm],λK hK=>g2 _ (by simp only[b1];exact⟨b2,hK⟩)⟩
  ·rename_i sz l p h1
   simp only[sJ]at hr;subst hr
   obtain⟨q,g1,g2⟩:=dW h h1
   have g1':=g1
   cases q<;>simp only[gm]at g1
   exact⟨_,g1',λK hK=>g2 _ hK⟩
  ·simp at hr
 |
  bin op eqs x y=>
  simp only[tT]at hr
  split at hr
  ·rename_i p q h1 h2
   obtain⟨u,g1,g2⟩:=dW h h1
   obtain⟨v,g3,g4⟩:=dW h h2
   obtain⟨w,g5,g6⟩:=MJ (s:=s) g1 g3 hr
   exact⟨w,g5,λK hK=>g2 _ (g4 _ (g6 K hK))⟩
  ·simp at hr
 |
  un op x=>
  simp only[tT]at hr
  split at hr
  ·rename_i b h1
   simp only[sJ]at hr;subst hr
   obtain⟨u,g1,g2⟩:=dW h h1
   cases u<;>simp only[gm]at g1
   rename_i x
   refine⟨.bl (!x),Ac λz hz=> ?_,λK hK=>g2 _ hK⟩
   cases b with
   |none=>simp at hz
   |some y=>rw[g1 y rfl];simpa using hz
  ·rename_i k n h1
   simp only[sJ]at hr;subst hr
   obtain⟨u,g1,g2⟩:=dW h h1
   cases u<;>simp only[gm]at g1
   obtain⟨rfl,g1⟩:=g1
   exact⟨_,mU (G8 g1),λK hK=>g2 _ hK⟩
  ·rename_i k n h1
   simp only[sJ]at hr;subst hr
   obtain⟨u,g1,g2⟩:=dW h h1
   cases u<;>simp only[gm]at g1
   obtain⟨rfl,g1⟩:=g1
   exact⟨_,mU (G8 g1),λK hK=>g2 _ hK⟩
  ·simp at hr
 |
  convI k x=>
  simp only[tT]at hr
  split at hr<;>simp only[sJ,reduceCtorEq]at hr
  rename_i k' n h1
  subst hr
  obtain⟨u,g1,g2⟩:=dW h h1
  cases u<;>simp only[gm]at g1
  exact⟨_,mU (G8 g1.2),λK hK=>g2 _ hK⟩
 |
  slice kd x lo hi mx=>
  cases mx with
  |some m=>cases kd<;>simp[tT]at hr
  |
   none=>
   cases kd with
   |str=>simp[tT]at hr
   |
    sl sz=>
    simp only[tT]at hr
    split at hr
    ·rename_i bB l clip h1
     split at hr
     ·rename_i hs
      split at hr<;>simp only[sJ,reduceCtorEq]at hr
      rename_i a b hl
      subst hr hs
      obtain⟨u,g1,g2⟩:=dW h h1
      cases u<;>simp only[gm]at g1
      obtain⟨⟨rfl,rfl⟩,g3⟩:=g1
      rename_i sz m c
      have hlen:=g3.length
      refine⟨.sl sz ((m.take b).drop a) (c&&decide (b=m.length)),?_,λK hK=>g2 _ ?_⟩
      ·simp only[gm,hlen,true_and]
       first|exact(g3.take b).drop a|exact⟨trivial,(g3.take b).drop a⟩
      ·simp only
       rw[hlen]
       refine Ad h hl _ ⟨by trivial,?_⟩
       rw[←hlen];exact hK
     ·simp at hr
    ·rename_i k p off len aC bB c h1
     split at hr
     ·rename_i hs
      split at hr
      ·rename_i bb hb
       split at hr<;>simp only[sJ,reduceCtorEq]at hr
       rename_i a b hl
       subst hr hs
       obtain⟨u,g1,g2⟩:=dW h h1
       simp only[gm]at g1;subst g1
       obtain⟨blk,b1,b2,b3⟩:=mF h hb
       refine⟨.rs _ _ _ _ _ _ _,by simp only[gm];rfl,λK hK=>g2 _ ?_⟩
       simp only[b1]
       exact⟨⟨b2,by trivial⟩,Ad h hl _ hK⟩
      ·simp at hr
     ·simp at hr
    ·simp at hr
   |
    ar n sz=>
    simp only[tT]at hr
    split at hr
    ·rename_i k p aC h1
     split at hr
     ·rename_i bb hb
      split at hr<;>simp only[sJ,reduceCtorEq]at hr
      rename_i a b hl
      subst hr
      obtain⟨u,g1,g2⟩:=dW h h1
      simp only[gm]at g1;subst g1
      obtain⟨blk,b1,b2,b3⟩:=mF h hb
      refine⟨.rs _ _ _ _ _ _ _,by simp only[gm];rfl,λK hK=>g2 _ ?_⟩
      simp only[b1]
      exact⟨b2,by trivial,Ad h hl _ hK⟩
     ·simp at hr
    ·simp at hr
 |
  fieldA i off x=>
  simp only[tT]at hr
  split at hr
  ·rename_i k p aC h1
   split at hr<;>simp only[sJ,reduceCtorEq]at hr
   rename_i b hb
   subst hr
   obtain⟨q,g1,g2⟩:=dW h h1
   simp only[gm]at g1;subst g1
   obtain⟨blk,b1,b2,b3⟩:=mF h hb
   exact⟨.pt k (p++[.f i off]) aC,by simp only[gm],λK hK=>g2 _ (by simp only[b1];exact⟨b2,hK⟩)⟩
  ·rename_i sz l p h1
   simp only[sJ]at hr;subst hr
   obtain⟨q,g1,g2⟩:=dW h h1
   cases q<;>simp only[gm]at g1
   rename_i bB m p'
   refine⟨.fp bB m (p'++[.f i off]),by simp only[gm];exact⟨⟨g1.1.1,by rw[g1.1.2]⟩,g1.2⟩,λK hK=>g2 _ hK⟩
  ·simp at hr
 |
  s2a n sz x=>
  simp only[tT]at hr
  split at hr
  ·rename_i bB l c h1
   split at hr<;>simp only[sJ,reduceCtorEq]at hr
   rename_i hc
   subst hr
   obtain⟨q,g1,g2⟩:=dW h h1
   cases q<;>simp only[gm]at g1
   have hlen:=g1.2.length
   rename_i sz2 m c2
   refine⟨.fp sz m [.w 0 n sz],by simp only[gm];exact⟨⟨trivial,trivial⟩,g1.2⟩,λK hK=>g2 _ ?_⟩
   exact⟨⟨g1.1.1.trans hc.1,hc.2.1,by rw[hlen];exact hc.2.2⟩,hK⟩
  ·rename_i k p off len aC bB c h1
   split at hr
   ·rename_i b hb
    split at hr<;>simp only[sJ,reduceCtorEq]at hr
    rename_i hc
    subst hr
    obtain⟨q,g1,g2⟩:=dW h h1
    simp only[gm]at g1;subst g1
    obtain⟨blk,b1,b2,b3⟩:=mF h hb
    exact⟨.pt k (p++[.w off n sz]) aC,by simp only[gm],λK hK=>g2 _ (by simp only[b1];exact⟨⟨b2,hc.1,hc.2.1,hc.2.2⟩,hK⟩)⟩
   ·simp at hr
  ·simp at hr
 |
  field i off agg w x=>
  simp only[tT]at hr
  split at hr
  ·rename_i w' l h1
   split at hr
   ·rename_i c hc
    split at hr
    ·rename_i ho
     obtain⟨q,g1,g2⟩:=dW h h1
     cases q<;>simp only[gm]at g1
     obtain⟨v,c1,c2⟩:=g1.2.at hc
     obtain⟨rfl,d1,d2⟩:=G7 hr c2
     exact⟨v,c2,λK hK=>g2 _ (by simp only[c1];exact⟨⟨(g1.2.take i).av ho,d1,d2⟩,hK⟩)⟩
    ·simp at hr
   ·simp at hr
  ·simp at hr
 |
  indexA kd x i=>
  cases kd with
  |str=>simp[tT]at hr
  |
   sl sz=>
   simp only[tT]at hr
   split at hr
   ·rename_i bB l c k' j h1 h2
    split at hr<;>simp only[sJ,reduceCtorEq]at hr
    rename_i hc
    subst hr
    obtain⟨q,g1,g2⟩:=dW h h1
    have g3:=nG h h2
    cases q<;>simp only[gm]at g1
    have hlen:=g1.2.length
    rename_i sz2 m c2
    refine⟨.fp sz m [.i j.toNat sz],by simp only[gm];exact⟨⟨trivial,trivial⟩,g1.2⟩,λK hK=>g2 _ (g3 _ ?_)⟩
    exact⟨⟨g1.1.1.trans hc.1,hc.2.1,by rw[hlen];exact hc.2.2⟩,hK⟩
   ·rename_i k p off len aC bB c k' j h1 h2
    split at hr
    ·rename_i b hb
     split at hr<;>simp only[sJ,reduceCtorEq]at hr
     rename_i hc
     subst hr
     obtain⟨q,g1,g2⟩:=dW h h1
     have g3:=nG h h2
     simp only[gm]at g1;subst g1
     obtain⟨blk,b1,b2,b3⟩:=mF h hb
     refine⟨.pt _ _ _,by simp only[gm];rfl,λK hK=>g2 _ (g3 _ ?_)⟩
     simp only[mc,b1]
     exact⟨⟨b2,hc⟩,hK⟩
    ·simp at hr
   ·simp at hr
  |
   ar n sz=>
   simp only[tT]at hr
   split at hr
   ·rename_i k p aC k' j h1 h2
    split at hr
    ·rename_i hc
     split at hr<;>simp only[sJ,reduceCtorEq]at hr
     rename_i b hb
     subst hr
     obtain⟨q,g1,g2⟩:=dW h h1
     have g3:=nG h h2
     simp only[gm]at g1;subst g1
     obtain⟨blk,b1,b2,b3⟩:=mF h hb
     refine⟨.pt _ _ _,by simp only[gm];rfl,λK hK=>g2 _ (g3 _ ?_)⟩
     simp only[mc,b1]
     exact⟨hc,b2,hK⟩
    ·simp at hr
   ·rename_i bB l p k' j h1 h2
    split at hr<;>simp only[sJ,reduceCtorEq]at hr
    rename_i hc
    subst hr
    obtain⟨q,g1,g2⟩:=dW h h1
    have g3:=nG h h2
    cases q<;>simp only[gm]at g1
    rename_i sz2 m p2
    refine⟨.fp sz2 m (p2++[.i j.toNat sz]),by simp only[gm];exact⟨⟨g1.1.1,by rw[g1.1.2]⟩,g1.2⟩,λK hK=>g2 _ (g3 _ ⟨hc,hK⟩)⟩
   ·simp at hr
 |
  index agg n w x i=>
  simp only[tT]at hr
  split at hr
  ·rename_i sz n' l k' j h1 h2
   split at hr
   ·rename_i c hc
    split at hr<;>simp only[sJ,reduceCtorEq]at hr
    rename_i ho
    subst hr
    obtain⟨q,g1,g2⟩:=dW h h1
    have g3:=nG h h2
    cases q<;>simp only[gm]at g1
    obtain⟨v,c1,c2⟩:=g1.2.at hc
    refine⟨v,c2,λK hK=>g2 _ (g3 _ ?_)⟩
    simp only[mc,c1]
    exact⟨⟨ho.1,ho.2.1,by rw[g1.1.2];exact ho.2.2.1,by rw[g1.1.1];exact ho.2.2.2.1,c2.agg ho.2.2.2.2⟩,hK⟩
   ·simp at hr
  ·simp at hr
 |
  extract i x=>
  simp only[tT]at hr
  split at hr
  ·rename_i l h1
   obtain⟨m,g1,g2⟩:=WX (kf h h1)
   obtain⟨v,c1,c2⟩:=g2.at hr
   exact⟨v,c2,λK hK=>by simp only[ev,g1,c1];exact hK⟩
  ·simp at hr
 |
  len x=>
  simp only[tT]at hr
  split at hr
  ·rename_i sz l c h1
   simp only[sJ]at hr;subst hr
   obtain⟨q,g1,g2⟩:=dW h h1
   cases q<;>simp only[gm]at g1
   exact⟨_,mU (λz hz=>by cases hz;rw[g1.2.length]),λK hK=>g2 _ hK⟩
  ·rename_i k p off len aC sz c h1
   split at hr<;>simp only[sJ,reduceCtorEq]at hr
   rename_i b hb
   subst hr
   obtain⟨q,g1,g2⟩:=dW h h1
   simp only[gm]at g1;subst g1
   obtain⟨blk,b1,b2,b3⟩:=mF h hb
   exact⟨_,mU (λz hz=>by cases hz;rfl),λK hK=>g2 _ (by simp only[b1];exact⟨b2,hK⟩)⟩
  ·simp at hr
 |
  lenS x=>
  simp only[tT]at hr
  split at hr<;>simp only[sJ,reduceCtorEq]at hr
  rename_i b h1
  subst hr
  obtain⟨q,g1,g2⟩:=dW h h1
  cases q<;>simp only[gm]at g1
  subst g1
  exact⟨_,mU (λz hz=>by cases hz;rfl),λK hK=>g2 _ hK⟩
 |
  lenC n=>
  simp only[tT,sJ]at hr;subst hr
  exact⟨_,mU (λz hz=>by cases hz;rfl),λK hK=>hK⟩
 |
  mm mx xs=>
  simp only[tT]at hr
  split at hr
  ·rename_i k a r' h1
   split at hr<;>simp only[sJ,reduceCtorEq]at hr
   rename_i l hl
   subst hr
   obtain⟨ps,g1,g2⟩:=yr h h1
   cases ps<;>simp only[bH]at g1
   rename_i p ps
   cases p<;>simp only[gm,false_and]at g1
   obtain⟨⟨rfl,g3⟩,g4⟩:=g1
   obtain⟨y,d1,d2⟩:=Fa (mx:=mx) hl g4 g3
   exact⟨_,mU d1,λK hK=>g2 _ (d2 _ hK)⟩
  ·simp at hr
 |_=>simp[tT]at hr
end Go.Ab
namespace Go.Ab
variable [eg]
variable {P:Program}
mutual
def oZ:AV->AV
 | .sl sz l _=> .sl sz (Bm l) false
 | .st w l=> .st w (Bm l)
 | .ar z n l=> .ar z n (Bm l)
 | .tup l=> .tup (Bm l)
 |p=>p
def Bm:List AV->List AV
 |[]=>[]
 |p::l=>oZ p::Bm l
end
mutual
theorem uO:∀ {a:AV} {p:PV},gm a p->gm (oZ a) (wk p)
 | .un,p,_=>by simp[oZ,gm]
 | .no,p,h=>by simp only[gm]at h;subst h;simp[oZ,wk,gm]
 | .bl _,p,h=>by cases p<;>simp only[gm]at h;simpa only[oZ,wk,gm]using h
 | .int _ _,p,h=>by cases p<;>simp only[gm]at h;simpa only[oZ,wk,gm]using h
 | .str _,p,h=>by cases p<;>simp only[gm]at h;simpa only[oZ,wk,gm]using h
 | .st _ l,p,h=>by cases p<;>simp only[gm]at h;simp only[oZ,wk,gm];exact⟨h.1,qC h.2⟩
 | .ar _ _ l,p,h=>by cases p<;>simp only[gm]at h;simp only[oZ,wk,gm];exact⟨h.1,qC h.2⟩
 | .tup l,p,h=>by cases p<;>simp only[gm]at h;simp only[oZ,wk,gm];exact qC h
 | .sl _ l _,p,h=>by cases p<;>simp only[gm]at h;simp only[oZ,wk,gm];exact⟨⟨h.1.1,trivial⟩,qC h.2⟩
 | .rs ..,p,h=>by simp only[gm]at h;subst h;simp[oZ,wk,gm]
 | .pt ..,p,h=>by simp only[gm]at h;subst h;simp[oZ,wk,gm]
 | .np,p,h=>by simp only[gm]at h;subst h;simp[oZ,wk,gm]
 | .fp ..,p,h=>by cases p<;>simp only[gm]at h;simpa only[oZ,wk,gm]using h
 | .gd ..,p,h=>by cases p<;>simp only[gm]at h;simpa only[oZ,wk,gm]using h
theorem qC:∀ {l:List AV} {m:List PV},bH l m->bH (Bm l) (jj m)
 |[],[],_=>by simp[Bm,jj,bH]
 |[],_::_,h=>by simp[bH]at h
 |_::_,[],h=>by simp[bH]at h
 |a::l,p::m,h=>by simp only[bH]at h;simp[Bm,jj,bH,uO h.1,qC h.2]
end
def aeF:AB->AV->AV
 | .arr _ _,v=>oZ v
 | .box _,v=>v
theorem QP {b:AB} {blk:a9} {a:AV} {p:PV} (hb:gB b blk) (h:gm a p):gm (aeF b a) (Ts blk p):=by
 cases b<;>cases blk<;>simp only[gB]at hb
 ·exact h
 ·exact uO h
def pM (σ:AS):AV->Option (Nat×List AV)
 | .sl sz l _=>some (sz,l)
 |
  .rs k p off len aC sz _=>match get σ.bx k with
  |some (.arr bB l)=>if aC=l.length∧p=[]∧sz=bB∧off+len≤l.length then some (sz,(l.drop off).take len)else none
  |some (.box v)=>(match we v p with|some (.ar bB n l)=>if aC=0∧sz=bB∧off+len≤n then some (sz,(l.drop off).take len)else none|_=>none)
  |none=>none
 |_=>none
theorem xo {σ:AS} {s:St} (h:gS σ s) {a:AV} {p:PV} (hp:gm a p) {sz:Nat} {l:List AV} (hc:pM σ a=some (sz,l)):∃m,bH l m∧∀K:Nat->List PV->Prop,K sz m->content s p K:=by
 cases a<;>simp only[pM,reduceCtorEq,sJ,Prod.mk.injEq]at hc
 ·cases p<;>simp only[gm]at hp
  obtain⟨rfl,rfl⟩:=hc
  exact⟨_,hp.2,λK hK=>by rw[←hp.1.1]at hK;exact hK⟩
 ·simp only[gm]at hp;subst hp
  split at hc
  ·rename_i bB l' hb
   split at hc<;>simp only[sJ,Prod.mk.injEq,reduceCtorEq]at hc
   rename_i ho
   obtain⟨rfl,rfl⟩:=hc
   obtain⟨blk,h1,h2⟩:=h.bx _ _ hb
   cases blk<;>simp only[gB]at h2
   have hl:=h2.2.length
   refine⟨_,(h2.2.drop _).take _,λK hK=> ?_⟩
   simp only[content,h1]
   exact⟨⟨by rw[hl];exact ho.1,ho.2.1,by rw[h2.1];exact ho.2.2.1,by rw[hl];exact ho.2.2.2⟩,hK⟩
  ·rename_i v hb
   split at hc
   ·rename_i bB n l' hg
    split at hc<;>simp only[sJ,Prod.mk.injEq,reduceCtorEq]at hc
    rename_i ho
    obtain⟨rfl,rfl⟩:=hc
    obtain⟨blk,h1,h2⟩:=h.bx _ _ hb
    cases blk<;>simp only[gB]at h2
    obtain⟨q,g1,g2⟩:=oK h2 hg
    cases q<;>simp only[gm]at g2
    refine⟨_,(g2.2.drop _).take _,λK hK=> ?_⟩
    simp only[content,h1,g1]
    exact⟨⟨ho.1,by rw[g2.1.1];exact ho.2.1,by rw[g2.1.2];exact ho.2.2⟩,hK⟩
   ·simp at hc
  ·simp at hc
def MK (σ:AS) (str:Bool) (sz:Nat) (q:AV):Option (List AV):=
 if str then(match q with| .str bs=>if sz=1 then some (bs.map λb=> .int .u8 (some b.toNat))else none|_=>none)
 else match pM σ q with|some (bB,ys)=>if ys.isEmpty=true∨bB=sz then some ys else none|none=>none
theorem Is (bs:List UInt8):bH (bs.map λb=>AV.int .u8 (some (b.toNat:Int))) (bs.map u8):=by
 induction bs with
 |nil=>simp[bH]
 |cons b bs ih=>simp[bH,gm,u8,ih]
theorem It {σ:AS} {s:St} (h:gS σ s) {str:Bool} {sz:Nat} {a:AV} {p:PV} (hp:gm a p) {l:List AV} (hc:MK σ str sz a=some l):∃m,bH l m∧∀K:List PV->Prop,K m->src s str sz p K:=by
 unfold MK at hc
 split at hc
 ·rename_i hs
  split at hc<;>(try simp only[reduceCtorEq]at hc)
  rename_i bs
  split at hc<;>simp only[sJ,reduceCtorEq]at hc
  rename_i h1
  subst hc h1
  cases p<;>simp only[gm]at hp
  subst hp
  exact⟨_,Is _,λK hK=>by unfold src;rw[if_pos hs];exact⟨rfl,hK⟩⟩
 ·rename_i hs
  split at hc<;>(try simp only[reduceCtorEq]at hc)
  rename_i bB ys hy
  split at hc<;>simp only[sJ,reduceCtorEq]at hc
  rename_i ho
  subst hc
  obtain⟨m,g1,g2⟩:=xo h hp hy
  refine⟨m,g1,λK hK=> ?_⟩
  unfold src
  rw[if_neg hs]
  refine g2 _ ⟨?_,hK⟩
  rcases ho with ho|ho
  ·left
   have:=g1.length
   rw[List.isEmpty_iff.1 ho]at this
   exact List.length_eq_zero_iff.1 this
  ·exact .inr ho
def K1 (σ:AS) (d:Option Nat):AK->Option AS
 | .alloc z=>match d with|some k=>if(get σ.bx k).isNone=true then some {env:=put σ.env k (.pt k [] 0),bx:=put σ.bx k (.box (E4 z))}else none|none=>none
 | .box x=>match d,pn true σ x with|some k,some a=>if(get σ.bx k).isNone=true∧a.QO=true then some {env:=put σ.env k (.pt k [] 0),bx:=put σ.bx k (.box a)}else none|_,_=>none
 |
  .store n x y=>match pn true σ x,pn true σ y with
  |
   some (.pt k pth aC),some v=>(match xM σ k aC with
   |some b=>(match Aa b pth (aeF b v)with|some b'=>if v.width=some n∧v.QO=true then some {σ with bx:=put σ.bx k b'}else none|none=>none)
   |none=>none)
  |_,_=>none
 |
  .buildSlice own sz z n parts=>match J1 true σ parts with
  |
   some ps=>(match my (List.replicate n (E4 z)) (ps.map λx=>(x.1,oZ x.2))with
   |some l=>if own=true then(match d with
     |some k=>if(get σ.bx k).isNone=true then some {env:=put σ.env k (.rs k [] 0 n n sz .tip),bx:=put σ.bx k (.arr sz l)}else none
     |none=>none)else some (σ.put d (.sl sz l true))
   |none=>none)
  |none=>none
 |
  .makeSlice sz bytes z len cap=>match d,pn true σ len,pn true σ cap with
  |some k,some (.int _ (some l)),some (.int _ (some c))=>if(get σ.bx k).isNone=true∧0≤l∧l≤c∧c*bytes≤281474976710656∧c≤9223372036854775807 then
    some {env:=put σ.env k (.rs k [] 0 l.toNat l.toNat sz .tip),bx:=put σ.bx k (.arr sz (List.replicate l.toNat (E4 z)))}else none
  |_,_,_=>none
 |
  .append sz bytes str x y=>match d,pn true σ x,pn true σ y with
  |
   some d,some p,some q=>(match MK σ str sz q with
   |
    some ys=>(match p with
    | .sl sz0 l true=>if(get σ.bx d).isNone=true∧(l.isEmpty=true∨(sz0=sz∧ys.isEmpty=false))∧(l.length+ys.length)*bytes≤140737488355328∧l.length+ys.length≤9223372036854775807 then
      some {env:=put σ.env d (.rs d [] 0 (l.length+ys.length) (l.length+ys.length) sz .tip),bx:=put σ.bx d (.arr sz (l++ys))}else none
    |
     .rs k [] 0 len aC bB .tip=>(match get σ.bx k with
     |
      some (.arr sz'' l)=>if aC=l.length∧len=l.length∧bB=sz∧sz''=sz∧(l.length+ys.length)*bytes≤140737488355328∧l.length+ys.length≤9223372036854775807 then
      some {env:=put σ.env d (.rs k [] 0 (l.length+ys.length) (l.length+ys.length) sz .tip),bx:=put σ.bx k (.arr sz (l++ys))}else none
     |_=>none)
    |_=>none)
   |none=>none)
  |_,_,_=>none
 |
  .copy sz x y=>match pn true σ x,pn true σ y with
  |
   some (.rs k pth off len aC bB _),some q=>(match MK σ (match q with| .str _=>true|_=>false) sz q with
   |
    some ys=>(match get σ.bx k with
    |some (.arr sz'' l)=>if aC=l.length∧pth=[]∧bB=sz∧sz''=sz∧off+len≤l.length then
      some (AS.put {σ with bx:=put σ.bx k (.arr sz (l.take off++ys.take (min ys.length len)++l.drop (off+min ys.length len)))} d (.int .i64 (some (min ys.length len:Nat))))else none
    |
     some (.box v)=>(match we v pth with
     |
      some (.ar sz'' n l)=>(match Bk v pth (.ar sz'' n (l.take off++ys.take (min ys.length len)++l.drop (off+min ys.length len)))with
      |some v'=>if aC=0∧bB=sz∧sz''=sz∧off+len≤n then some (AS.put {σ with bx:=put σ.bx k (.box v')} d (.int .i64 (some (min ys.length len:Nat))))else none
      |none=>none)
     |_=>none)
    |none=>none)
   |none=>none)
  |_,_=>none
 |
  .convL x=>match pn true σ x with
  |
   some (.rs k pth off len aC sz c)=>(match get σ.bx k with
   |some (.arr bB l)=>if pth=[]∧off=0∧sz=1∧bB=1∧c= .tip∧len=l.length∧aC=l.length∧l.isEmpty=false∧l.all AV.isNum=true then
     some (AS.put {σ with bx:=put σ.bx k (.arr 1 (l++[.int .u8 (some 0)]))} d (.sl 1 l false))else none
   |_=>none)
  |_=>none
 | .convB x=>match pn true σ x with|some (.str bs)=>some (σ.put d (.sl 1 (bs.map λb=> .int .u8 (some b.toNat)) false))|_=>none
 |_=>none
def dk:Option Nat->List Nat
 |some d=>[d]
 |none=>[]
def J2 (σ:AS) (d:Option Nat):AK->List Nat
 | .store _ x _=>match pn true σ x with|some (.pt k _ _)=>[k]|_=>[]
 | .append _ _ _ x _=>match pn true σ x with|some (.rs k _ _ _ _ _ _)=>[k]|_=>dk d
 | .copy _ x _=>match pn true σ x with|some (.rs k _ _ _ _ _ _)=>[k]|_=>[]
 | .convL x=>match pn true σ x with|some (.rs k _ _ _ _ _ _)=>[k]|_=>[]
 | .buildSlice own .. =>if own=true then dk d else []
 | .alloc _| .box _| .makeSlice .. | .call .. =>dk d
 |_=>[]
def Kp (l:List Nat) (s s':St):Prop:=∀k,k∉l->get s'.bx k=get s.bx k
theorem Kp.new {s:St} {k:Nat} {e:List (Nat×PV)} {b:a9}:Kp [k] s {env:=e,bx:=Ab.put s.bx k b}:=by
 intro j hj
 simp only[fg]
 rw[if_neg]
 rintro rfl;simp at hj
theorem Kp.same {s:St} {l:List Nat} {d:Option Nat} {p:PV}:Kp l s (s.put d p):=by cases d<;>exact λ_ _=>rfl
theorem Kp.put {s s':St} {l:List Nat} {d:Option Nat} {p:PV} (h:Kp l s s'):Kp l s (s'.put d p):=by cases d<;>exact h
theorem gS.new {σ:AS} {s:St} (h:gS σ s) (k:Nat) {a:AV} {p:PV} {b:AB} {blk:a9} (ha:gm a p) (hb:gB b blk):gS {env:=Ab.put σ.env k a,bx:=Ab.put σ.bx k b} {env:=Ab.put s.env k p,bx:=Ab.put s.bx k blk}:=
 (h.J0 k hb).put (some k) ha
theorem lR {α:Type} {o:Option α} (h:o.isNone=true):o=none:=by cases o<;>simp_all
theorem Fb:∀ {l:List AV} {m:List PV},bH l m->l.all AV.isNum=true->m.all PV.isNum=true
 |[],[],_,_=>rfl
 |[],_::_,h,_=>by simp[bH]at h
 |_::_,[],h,_=>by simp[bH]at h
 |
  a::l,p::m,h,hn=>by
  simp only[bH]at h
  simp only[List.all_cons,aJ]at hn⊢
  refine⟨?_,Fb h.2 hn.2⟩
  cases a<;>simp[AV.isNum]at hn
  cases p<;>simp[gm]at h
  rfl
theorem WY {σ σ':AS} {s:St} (h:gS σ s) {d:Option Nat} {k:AK} (hr:K1 σ d k=some σ'):∃s',gS σ' s'∧Kp (J2 σ d k) s s'∧∀K:St->Prop,K s'->ex s d k K:=by
 cases k with
 |
  alloc z=>
  simp only[K1]at hr
  split at hr<;>(try simp only[reduceCtorEq]at hr)
  split at hr<;>simp only[sJ,reduceCtorEq]at hr
  rename_i k hn
  subst hr
  exact⟨_,h.new k (p:= .pt k [] 0) (by simp only[gm]) (b:= .box (E4 z)) (blk:= .box z) (by simp only[gB];exact wg z),Kp.new,λK hK=>⟨h.none k (lR hn),hK⟩⟩
 |
  box x=>
  simp only[K1]at hr
  split at hr<;>(try simp only[reduceCtorEq]at hr)
  rename_i k a h1
  split at hr<;>simp only[sJ,reduceCtorEq]at hr
  rename_i hn
  subst hr
  obtain⟨p,g1,g2⟩:=dW h h1
  exact⟨_,h.new k (p:= .pt k [] 0) (by simp only[gm]) (b:= .box a) (blk:= .box p) (by simp only[gB];exact g1),Kp.new,λK hK=>g2 _ ⟨⟨h.none k (lR hn.1),g1.QO hn.2⟩,hK⟩⟩
 |
  store n x y=>
  simp only[K1]at hr
  split at hr<;>(try simp only[reduceCtorEq]at hr)
  rename_i k pth aC v h1 h2
  split at hr<;>(try simp only[reduceCtorEq]at hr)
  rename_i b hb
  split at hr<;>(try simp only[reduceCtorEq]at hr)
  rename_i b' re
  split at hr<;>simp only[sJ,reduceCtorEq]at hr
  rename_i hn
  subst hr
  obtain⟨p,g1,g2⟩:=dW h h1
  simp only[gm]at g1;subst g1
  obtain⟨q,g3,g4⟩:=dW h h2
  obtain⟨blk,b1,b2,b3⟩:=mF h hb
  obtain⟨cB,c1,c2⟩:=MF b3 (QP b3 g3) re
  refine⟨_,h.J0 k c2,by simp only[J2,h1];exact Kp.new,λK hK=>g2 _ (g4 _ ?_)⟩
  simp only[b1,c1]
  exact⟨⟨b2,g3.width hn.1,g3.QO hn.2⟩,hK⟩
 |
  buildSlice own sz z n parts=>
  simp only[K1]at hr
  split at hr<;>(try simp only[reduceCtorEq]at hr)
  rename_i ps h1
  split at hr<;>(try simp only[reduceCtorEq]at hr)
  rename_i l hl
  obtain⟨qs,⟨g1,g2⟩,g3⟩:=yu h h1
  have Vt:∀ {as:List (Nat×AV)} {bs:List (Nat×PV)},bH (as.map (·.2)) (bs.map (·.2))->bH ((as.map λx=>(x.1,oZ x.2)).map (·.2)) ((bs.map λx=>(x.1,wk x.2)).map (·.2)):=by
   intro as
   induction as with
   |nil=>intro bs h;cases bs with|nil=>simp[bH]|cons b bs=>simp[bH]at h
   |
    cons a as ih=>
    intro bs h
    cases bs with
    |nil=>simp[bH]at h
    |
     cons b bs=>
     simp only[List.map_cons,bH]at h⊢
     exact⟨uO h.1,ih h.2⟩
  obtain⟨m,g4,g5⟩:=nF (bH.rep (wg z) n) (ps:=qs.map λx=>(x.1,wk x.2)) (by simp only[List.map_map];simpa[Function.comp_def]using g1) (Vt g2) hl
  split at hr
  ·rename_i ho
   split at hr<;>(try simp only[reduceCtorEq]at hr)
   rename_i k
   split at hr<;>simp only[sJ,reduceCtorEq]at hr
   rename_i hn
   subst hr
   refine⟨_,h.new k (p:= .rs k [] 0 n n sz .tip) (by simp only[gm]) (b:= .arr sz l) (blk:= .arr sz m) (by simp only[gB,true_and];exact g5),by simp only[J2,ho,if_true,dk];exact Kp.new,λK hK=>g3 _ ?_⟩
   simp only[g4,ho,if_true]
   exact⟨h.none k (lR hn),hK⟩
  ·rename_i ho
   simp only[sJ]at hr
   subst hr
   refine⟨_,h.put d (p:= .sl sz m true) (by simp only[gm,true_and];exact g5),Kp.same,λK hK=>g3 _ ?_⟩
   simp only[g4]
   rw[if_neg ho]
   exact hK
 |
  makeSlice sz bytes z len cap=>
  simp only[K1]at hr
  split at hr<;>(try simp only[reduceCtorEq]at hr)
  rename_i k k1 l k2 c h1 h2
  split at hr<;>simp only[sJ,reduceCtorEq]at hr
  rename_i hn
  subst hr
  refine⟨_,h.new k (p:= .rs k [] 0 l.toNat l.toNat sz .tip) (by simp only[gm]) (b:= .arr sz (List.replicate l.toNat (E4 z))) (blk:= .arr sz (List.replicate l.toNat z)) (by simp only[gB,true_and];exact bH.rep (wg z) _),Kp.new,λK hK=>nG h h1 _ ?_⟩
  exact nG h h2 _ ⟨⟨h.none k (lR hn.1),hn.2⟩,hK⟩
 |
  append sz bytes str x y=>
  simp only[K1]at hr
  split at hr<;>(try simp only[reduceCtorEq]at hr)
  rename_i dd p q h1 h2
  split at hr<;>(try simp only[reduceCtorEq]at hr)
  rename_i ys hy
  obtain⟨pp,g1,g2⟩:=dW h h1
  obtain⟨qq,g3,g4⟩:=dW h h2
  obtain⟨m,g5,g6⟩:=It h g3 hy
  have Jh:=g5.length
  split at hr<;>(try simp only[reduceCtorEq]at hr)
  ·rename_i sz0 l
   split at hr<;>simp only[sJ,reduceCtorEq]at hr
   rename_i hn
   subst hr
   cases pp<;>simp only[gm]at g1
   rename_i sz1 l1 c1
   obtain⟨⟨rfl,rfl⟩,g1⟩:=g1
   have tS:=g1.length
   refine⟨{env:=Ab.put s.env dd (.rs dd [] 0 (l1.length+m.length) (l1.length+m.length) sz .tip),bx:=Ab.put s.bx dd (.arr sz (l1++m))},h.new dd (by simp only[gm,tS,Jh]) (by simp only[gB,true_and];exact g1.append g5),by simp only[J2,h1];exact Kp.new,λK hK=>g2 _ (g4 _ (g6 _ ?_))⟩
   simp only[gE]
   refine⟨⟨h.none dd (lR hn.1),?_,by rw[tS,Jh];exact hn.2.2.1,by rw[tS,Jh];exact hn.2.2.2⟩,hK⟩
   rcases hn.2.1 with h0|h0
   ·left;rw[List.isEmpty_iff.1 h0]at tS;exact List.length_eq_zero_iff.1 tS
   ·right
    refine⟨h0.1,λhe=> ?_⟩
    rw[he]at Jh
    have:=List.length_eq_zero_iff.1 Jh.symm
    rw[this]at h0
    simp at h0
  ·rename_i k len aC bB
   split at hr<;>(try simp only[reduceCtorEq]at hr)
   rename_i sz'' l hb
   split at hr<;>simp only[sJ,reduceCtorEq]at hr
   rename_i hn
   subst hr
   simp only[gm]at g1;subst g1
   obtain⟨blk,b1,b2⟩:=h.bx _ _ hb
   cases blk<;>simp only[gB]at b2
   rename_i sz3 l1
   obtain⟨rfl,b2⟩:=b2
   have tS:=b2.length
   refine⟨{env:=Ab.put s.env dd (.rs k [] 0 (l1.length+m.length) (l1.length+m.length) sz .tip),bx:=Ab.put s.bx k (.arr sz (l1++m))},(h.J0 k (by simp only[gB,true_and];exact b2.append g5)).put (some dd) (by simp only[gm,tS,Jh]),by simp only[J2,h1];exact Kp.new,λK hK=>g2 _ (g4 _ (g6 _ ?_))⟩
   simp only[gE,b1]
   rw[tS,Jh]at*
   exact⟨hn,hK⟩
 |
  copy sz x y=>
  simp only[K1]at hr
  split at hr<;>(try simp only[reduceCtorEq]at hr)
  rename_i k pth off len aC bB c q h1 h2
  split at hr<;>(try simp only[reduceCtorEq]at hr)
  rename_i ys hy
  obtain⟨pp,g1,g2⟩:=dW h h1
  simp only[gm]at g1;subst g1
  obtain⟨qq,g3,g4⟩:=dW h h2
  obtain⟨m,g5,g6⟩:=It h g3 hy
  have Jh:=g5.length
  have SX:∀K:St->Prop,jd s d sz (.rs k pth off len aC bB c) m K->ex s d (.copy sz x y) K:=by
   intro K hK
   simp only[ex]
   refine g2 _ (g4 _ ?_)
   have:=g6 (λys=>jd s d sz (.rs k pth off len aC bB c) ys K) hK
   cases q<;>cases qq<;>simp only[gm,reduceCtorEq]at g3<;>first|exact this|(simp[MK,pM]at hy;done)|(exact absurd g3 (by simp))
  split at hr<;>(try simp only[reduceCtorEq]at hr)
  ·rename_i sz'' l hb
   split at hr<;>simp only[sJ,reduceCtorEq]at hr
   rename_i hn
   subst hr
   obtain⟨blk,b1,b2⟩:=h.bx _ _ hb
   cases blk<;>simp only[gB]at b2
   rename_i sz3 l1
   obtain⟨rfl,b2⟩:=b2
   have tS:=b2.length
   refine⟨_,(h.J0 k (b:= .arr sz (l.take off++ys.take (min ys.length len)++l.drop (off+min ys.length len))) (blk:= .arr sz (l1.take off++m.take (min m.length len)++l1.drop (off+min m.length len))) ?_).put d (mU (x:=((min m.length len:Nat):Int)) ?_),by simp only[J2,h1];exact Kp.put Kp.new,λK hK=>SX K ?_⟩
   ·simp only[gB,true_and,Jh]
    exact((b2.take _).append (g5.take _)).append (b2.drop _)
   ·intro z hz;cases hz;rw[Jh]
   ·simp only[jd,b1]
    exact⟨⟨by rw[tS];exact hn.1,hn.2.1,hn.2.2.1,hn.2.2.2.1,by rw[tS];exact hn.2.2.2.2⟩,hK⟩
  ·rename_i v hb
   split at hr<;>(try simp only[reduceCtorEq]at hr)
   rename_i sz'' n l hg
   split at hr<;>(try simp only[reduceCtorEq]at hr)
   rename_i v' hv
   split at hr<;>simp only[sJ,reduceCtorEq]at hr
   rename_i hn
   subst hr
   obtain⟨blk,b1,b2⟩:=h.bx _ _ hb
   cases blk<;>simp only[gB]at b2
   rename_i u
   obtain⟨w,c1,c2⟩:=oK b2 hg
   cases w<;>simp only[gm]at c2
   rename_i sz3 n3 l1
   obtain⟨⟨rfl,rfl⟩,c2⟩:=c2
   have AT:gm (.ar sz3 n3 (l.take off++ys.take (min ys.length len)++l.drop (off+min ys.length len))) (.ar sz3 n3 (l1.take off++m.take (min m.length len)++l1.drop (off+min m.length len))):=by
    simp only[gm,true_and,Jh]
    exact((c2.take _).append (g5.take _)).append (c2.drop _)
   obtain⟨u',e1,e2⟩:=uH b2 AT hv
   refine⟨_,(h.J0 k (b:= .box v') (blk:= .box u') (by simp only[gB];exact e2)).put d (mU (x:=((min m.length len:Nat):Int)) ?_),by simp only[J2,h1];exact Kp.put Kp.new,λK hK=>SX K ?_⟩
   ·intro z hz;cases hz;rw[Jh]
   ·simp only[jd,b1,c1,e1]
    exact⟨hn,hK⟩
 |
  convL x=>
  simp only[K1]at hr
  split at hr<;>(try simp only[reduceCtorEq]at hr)
  rename_i k pth off len aC sz c h1
  split at hr<;>(try simp only[reduceCtorEq]at hr)
  rename_i bB l hb
  split at hr<;>simp only[sJ,reduceCtorEq]at hr
  rename_i hn
  obtain⟨rfl,rfl,rfl,rfl,rfl,rfl,rfl,fc,YX⟩:=hn
  subst hr
  obtain⟨pp,g1,g2⟩:=dW h h1
  simp only[gm]at g1;subst g1
  obtain⟨blk,b1,b2⟩:=h.bx _ _ hb
  cases blk<;>simp only[gB]at b2
  rename_i sz3 l1
  obtain⟨rfl,b2⟩:=b2
  have tS:=b2.length
  refine⟨_,(h.J0 k (b:= .arr 1 (l++[.int .u8 (some 0)])) (blk:= .arr 1 (l1++[.int .u8 0])) ?_).put d (p:= .sl 1 l1 false) (by simp only[gm,true_and];exact b2),by simp only[J2,h1];exact Kp.put Kp.new,λK hK=> ?_⟩
  ·simp only[gB,true_and]
   exact b2.append (by simp[bH,gm])
  ·simp only[ex]
   refine g2 _ ?_
   simp only[b1]
   refine⟨⟨trivial,trivial,trivial,trivial,trivial,tS.symm,tS.symm,?_,Fb b2 YX⟩,hK⟩
   rintro rfl
   cases l<;>simp at fc tS
 |
  convB x=>
  simp only[K1]at hr
  split at hr<;>simp only[sJ,reduceCtorEq]at hr
  rename_i bs h1
  subst hr
  obtain⟨p,g1,g2⟩:=dW h h1
  cases p<;>simp only[gm]at g1
  subst g1
  rename_i l
  exact⟨_,h.put d (p:= .sl 1 (l.map u8) false) (by simp only[gm,true_and];exact Is l),Kp.same,λK hK=>g2 _ hK⟩
 |_=>simp[K1]at hr
end Go.Ab
namespace Go.Ab
variable [eg]
theorem Af:zeroOf=ko:=by
 funext P t
 cases h:ko P t with
 |none=>simp only[zeroOf,h]
 |
  some z=>
  simp only[zeroOf,h]
  rw[gC]
  unfold ko at h
  split at h
  ·rename_i z' i hz hi
   rw[hz]
   (repeat' split at h)<;>first|exact h|(simp at h;done)
  ·simp at h
def tv (P:Program) (b:Builtin) (args:List Operand) (tys:List TypeId):Option AK:=
 match b,args,tys with
 |
  .len,[x],[t]=>match P.underlying t,gq x with
  |some .string,some y=>some (.lenS y)
  |some (.slice _),some y=>some (.len y)
  |some (.array n _),some _=>some (.lenC n)
  |some (.pointer a),some _=>match P.underlying a with|some (.array n _)=>some (.lenC n)|_=>none
  |_,_=>none
 |
  .cap,[x],[t]=>match P.underlying t,gq x with
  |some (.slice _),some y=>some (.cap y)
  |_,_=>none
 | .min,xs,_=>match qg xs with|some l=>some (.mm false l)|none=>none
 | .max,xs,_=>match qg xs with|some l=>some (.mm true l)|none=>none
 |
  .append,[x,y],[t,u]=>match P.underlying t,P.underlying u,gq x,gq y with
  |
   some (.slice e),some d,some x,some y=>match P.info? e with
   |
    some i=>match i.zero with
    |
     some z=>if z.cells.size=i.size∧0<i.size∧z.cells.toList.all fY=true then(match d with
     | .slice _=>some (.append i.size i.bytes false x y)
     | .string=>if i.size=1 then some (.append i.size i.bytes true x y)else none
     | .int _=>match ko P e with|some zz=>some (.appendZ i.size i.bytes zz x y)|none=>none
     |_=>none)else none
    |none=>none
   |none=>none
  |_,_,_,_=>none
 |
  .clear,[x],[t]=>match P.underlying t,gq x with
  |some (.slice e),some x=>match gx P e,ko P e with|some n,some z=>if 0<n then some (.fill n z x)else none|_,_=>none
  |_,_=>none
 |
  .copy,[x,y],[t,_]=>match P.underlying t,gq x,gq y with
  |some (.slice e),some x,some y=>match gx P e with|some n=>some (.copy n x y)|none=>none
  |_,_,_=>none
 |_,_,_=>none
def WZ (P:Program) (own:Bool):Op->Option AK
 | .move x| .assign x=>match gq x with|some y=>some (.mv y)|none=>none
 | .pick c a b=>match gq c,gq a,gq b with|some c,some a,some b=>some (.pick c a b)|_,_,_=>none
 | .alloc t=>match ko P t with|some z=>some (.alloc z)|none=>none
 | .box _ x=>match gq x with|some y=>some (.box y)|none=>none
 |
  .build t parts=>match ko P t,nu parts.toList,P.underlying t with
  |some (.st w l),some ps,some (.struct fs)=>if fs.toList.map (λf=>(f.offset,P.cellsOf f.type))=Jk 0 l∧fs.toList.all (λf=>(P.info? f.type).isSome)=true then some (.build (.st w l) ps)else none
  |some (.ar sz n l),some ps,some (.array _ e)=>if gx P e=some sz then some (.build (.ar sz n l) ps)else none
  |_,_,_=>none
 |
  .buildSlice t n parts=>match P.underlying t,nu parts.toList with
  |
   some (.slice e),some ps=>match ko P e,gx P e with
   |some z,some sz=>if 0<sz∧n*sz≤2^24 then some (.buildSlice own sz z n ps)else none
   |_,_=>none
  |_,_=>none
 |
  .load t a=>match lq P t,gx P t,gq a with
  |some g,some n,some x=>if g=true∨n=1 then some (.load g n x)else none
  |_,_,_=>none
 | .store t a v=>match gx P t,gq a,gq v with|some n,some x,some y=>some (.store n x y)|_,_,_=>none
 | .nilCheck x=>match gq x with|some y=>some (.nilCheck y)|none=>none
 |
  .binOp op t x y _=>match gq x,gq y with
  |some p,some q=>if op= .eql∨op= .neq then(match P.underlying t with
    |some (.int _)|some .string=>some (.bin op .no p q)
    |some .bool=>some (.bin op .bl p q)
    |some (.pointer _)=>some (.bin op .ptr p q)
    |some (.slice _)=>(match y with| .const (.slice none 0 0)=>some (.isNil (decide (op= .neq)) p)|_=>none)
    |some (.struct _)|some (.array _ _)=>if P.eqGuardType P.depth t=false then(match yU P 20 t with|some sh=>some (.bin op (.sh sh) p q)|none=>none)else none
    |_=>none)else some (.bin op .no p q)
  |_,_=>none
 | .unOp op _ x=>match gq x with|some y=>some (.un op y)|none=>none
 |
  .convert s d x=>match P.underlying s,P.underlying d,gq x with
  |some (.int _),some (.int k),some y=>some (.convI k y)
  |some (.slice e),some .string,some y=>(match P.underlying e with|some (.int .u8)=>some (.convS y)|_=>none)
  |some .string,some (.slice e),some y=>(match P.underlying e with|some (.int .u8)=>some (.convB y)|_=>none)
  |some (.slice _),some (.slice e),some y=>if s=d then(match P.underlying e with|some (.int .u8)=>some (.convL y)|_=>none)else none
  |_,_,_=>none
 | .makeFunc f a b=>match qg a.toList,qg b.toList with|some p,some q=>some (.mkFunc f p q)|_,_=>none
 |
  .makeSlice t l c=>match P.underlying t,gq l,gq c with
  |some (.slice e),some l,some c=>(match ko P e,P.info? e with|some z,some i=>if 0<i.size then some (.makeSlice i.size i.bytes z l c)else none|_,_=>none)
  |_,_,_=>none
 |
  .slice t x lo hi mx=>match P.underlying t,gq x,A4 lo,A4 hi,A4 mx with
  |some .string,some x,some lo,some hi,some mx=>some (.slice .str x lo hi mx)
  |some (.slice e),some x,some lo,some hi,some mx=>(match gx P e with|some n=>if mx.isSome=true->hi.isSome=true then some (.slice (.sl n) x lo hi mx)else none|none=>none)
  |some (.array n e),some x,some lo,some hi,some mx=>(match gx P e with|some sz=>some (.slice (.ar n sz) x lo hi mx)|none=>none)
  |_,_,_,_,_=>none
 |
  .fieldAddr t x f=>match P.underlying t,gq x with
  |
   some (.struct fs),some y=>(match fs[f]?with
   |some g=>(match gx P g.type with|some (_+1)=>some (.fieldA f g.offset y)|_=>none)
   |none=>none)
  |_,_=>none
 |
  .field t x f=>match P.underlying t,gq x with
  |
   some (.struct fs),some y=>(match fs[f]?with
   |some g=>(match lq P g.type,gx P g.type with|some a,some n=>if a=true∨n=1 then some (.field f g.offset a n y)else none|_,_=>none)
   |none=>none)
  |_,_=>none
 |
  .indexAddr t x i=>match P.underlying t,gq x,gq i with
  |some (.slice e),some x,some i=>(match gx P e with|some n=>some (.indexA (.sl n) x i)|none=>none)
  |some (.array k e),some x,some i=>(match gx P e with|some n=>some (.indexA (.ar k n) x i)|none=>none)
  |_,_,_=>none
 |
  .index t x i=>match P.underlying t,gq x,gq i with
  |some (.array k e),some x,some i=>(match lq P e,gx P e with|some a,some n=>if a=true∨n=1 then some (.index a k n x i)else none|_,_=>none)
  |some .string,some x,some i=>some (.indexS x i)
  |_,_,_=>none
 | .extract x i=>match gq x with|some y=>some (.extract i y)|none=>none
 | .call {callee:= .value f,args,..}=>match gq f,qg args.toList with|some g,some l=>some (.call g l)|_,_=>none
 | .call {callee:= .builtin b,args,argTypes}=>tv P b args.toList argTypes.toList
 |
  .sliceToArrayPointer t x=>match P.underlying t,gq x with
  |some (.array n e),some y=>(match gx P e with|some sz=>some (.s2a n sz y)|none=>none)
  |_,_=>none
 |_=>none
def Df (P:Program) (nt:Nat) (ops:Array Oper) (own sp:List Nat) (draw:Bool) (o:Oper):Option AO:=
 match WZ P (match o.dst with|some d=>own.contains d|none=>false) o.op,rW ops o.guard with
 |some k,some g=>if uk nt o.dst k=true then some ⟨o.dst,g,pG k&& !(match o.dst with|some d=>sp.contains d|none=>false),um P (draw&& !PX own o.dst) o.type k⟩else none
 |_,_=>none
def pN (P:Program) (nt:Nat) (ops:Array Oper) (own sp:List Nat) (draw:Bool):List Oper->Option (List AO)
 |[]=>some []
 |o::r=>match Df P nt ops own sp draw o,pN P nt ops own sp draw r with|some x,some l=>some (x::l)|_,_=>none
def iD (P:Program) (nt:Nat) (own sp:List Nat):Code->Option cU
 | .skip=>some .skip
 | .region _ ops false=>match pN P nt ops own sp false ops.toList with|some l=>some (.region l)|none=>none
 | .region _ ops true=>match pN P nt ops own sp true ops.toList with|some l=>if P.follows .mixedOrders=true then(if zq ops l=true then some (.region l)else match acK own l with|some (p,q)=>(if yn ops l (BY ops l p q) p q (BZ ops l p q) (Da ops l p q)=true then some (.regionE l (BY ops l p q) p q (BZ ops l p q) (Da ops l p q))else none)|none=>if sd ops l (rr ops l) (yk ops l)=true then some (.regionD l (rr ops l) (yk ops l))else none)else none|none=>none
 | .seq x y=>match iD P nt own sp x,iD P nt own sp y with|some x,some y=>some (.seq x y)|_,_=>none
 | .cond c x y=>match gq c,iD P nt own sp x,iD P nt own sp y with|some c,some x,some y=>some (.cond c x y)|_,_,_=>none
 | .block id x=>match iD P nt own sp x with|some x=>some (.block id x)|none=>none
 | .loop x=>match iD P nt own sp x with|some x=>some (.loop x)|none=>none
 | .exit id=>some (.exit id)
 | .ret=>some .ret
 |
  .rangeFunc g ps x y=>match gq g,iD P nt own sp x,iD P nt own sp y with
  |some g,some x,some y=>if(ps.toList.all (λt=>decide (t<nt))&&qw x&&qw y)=true then some (.rangeF g ps.toList x y)else none
  |_,_,_=>none
 |_=>none
def Ha (P:Program) (own sp:List Nat) (f:FuncId):Option di:=
 match P.funcs[f]?with
 |
  some fn=>if(fn.name== "runtime.NumGoroutine")=false then(match fn.body with
  |
   some c=>match iD P fn.ntmps own sp c,allM (zQ P) fn.results.toList with
   |some ac,some rs=>some ⟨fn.ntmps,rs,ac⟩
   |_,_=>none
  |none=>none)else none
 |none=>none
theorem Fc:dh=tv:=by
 funext P b x y
 unfold dh tv
 rw[Af]
 rfl
theorem aeG:kK=WZ:=by
 funext P b x
 unfold kK WZ
 rw[Af,Fc]
 rfl
theorem ML:mT=Df:=by
 funext P nt ops own sp d o
 unfold mT Df
 rw[aeG]
 rfl
theorem B8 (P:Program) (nt:Nat) (ops:Array Oper) (own sp:List Nat) (draw:Bool):∀l,kq P nt ops own sp draw l=pN P nt ops own sp draw l
 |[]=>by unfold kq pN;rfl
 |
  o::r=>by
  unfold kq pN
  rw[ML,B8 P nt ops own sp draw r]
  rfl
theorem MM (P:Program) (nt:Nat) (own sp:List Nat):∀c,eW P nt own sp c=iD P nt own sp c:=by
 intro c
 induction c with
 |seq x y ihx ihy=>(simp only[eW,iD,ihx,ihy];rfl)
 |cond c x y ihx ihy=>(simp only[eW,iD,ihx,ihy];rfl)
 |block id x ih=>(simp only[eW,iD,ih];rfl)
 |loop x ih=>(simp only[eW,iD,ih];rfl)
 |rangeFunc g ps x y ihx ihy=>(simp only[eW,iD,ihx,ihy];rfl)
 |region id ops d=>cases d<;>(simp only[eW,iD,B8];rfl)
 |_=>simp only[eW,iD]
theorem QQ:ka=Ha:=by
 funext P own sp f
 unfold ka Ha
 have e:eW=iD:=by funext P nt own sp c;exact MM P nt own sp c
 rw[e]
 rfl
end Go.Ab
namespace Go.Ab
variable [eg]
variable {P:Program} [iE]
mutual
def J3:AV->AV->Bool
 |_,.un=>true
 | .bl x,.bl y=>(match y with|none=>true|some y=>(match x with|some x=>x==y|none=>false))
 | .int k n,.int k' m=>decide (k=k')&&(match m with|none=>true|some y=>(match n with|some x=>decide (x=y)|none=>false))
 | .str l,.str m=>decide (l=m)
 | .st w l,.st w' m=>decide (w=w')&&xN l m
 | .ar sz n l,.ar bB n' m=>decide (sz=bB∧n=n')&&xN l m
 | .sl sz l c,.sl bB m c'=>decide (sz=bB∧c=c')&&xN l m
 | .tup l,.tup m=>xN l m
 | .np,.np=>true
 |_,_=>false
def xN:List AV->List AV->Bool
 |[],[]=>true
 |a::l,b::m=>J3 a b&&xN l m
 |_,_=>false
end
mutual
theorem Hb:∀ {a b:AV} {p:PV},J3 a b=true->gm a p->gm b p:=by
 intro a b p h hp
 cases b with
 |un=>simp[gm]
 |
  bl y=>
  cases a<;>simp only[J3,fJ]at h
  cases p<;>simp only[gm]at hp⊢
  intro z hz;subst hz
  simp only at h
  split at h
  ·rename_i x;have:x=z:=by simpa using h
   subst this;exact hp _ rfl
  ·simp at h
 |
  int k' m=>
  cases a<;>simp only[J3,aJ,decide_eq_true_eq,fJ]at h
  cases p<;>simp only[gm]at hp⊢
  refine⟨hp.1.trans h.1,λz hz=> ?_⟩
  subst hz
  have h2:=h.2
  simp only at h2
  split at h2
  ·rename_i x;have:x=z:=by simpa using h2
   subst this;exact hp.2 _ rfl
  ·simp at h2
 |
  str m=>
  cases a<;>simp only[J3,decide_eq_true_eq,fJ]at h
  cases p<;>simp only[gm]at hp⊢
  rw[hp,h]
 |
  st w m=>
  cases a<;>simp only[J3,aJ,decide_eq_true_eq,fJ]at h
  cases p<;>simp only[gm]at hp⊢
  exact⟨hp.1.trans h.1,oL h.2 hp.2⟩
 |
  ar sz n m=>
  cases a<;>simp only[J3,aJ,decide_eq_true_eq,fJ]at h
  cases p<;>simp only[gm]at hp⊢
  exact⟨⟨hp.1.1.trans h.1.1,hp.1.2.trans h.1.2⟩,oL h.2 hp.2⟩
 |
  sl sz m c=>
  cases a<;>simp only[J3,aJ,decide_eq_true_eq,fJ]at h
  cases p<;>simp only[gm]at hp⊢
  exact⟨⟨hp.1.1.trans h.1.1,hp.1.2.trans h.1.2⟩,oL h.2 hp.2⟩
 |
  tup m=>
  cases a<;>simp only[J3,fJ]at h
  cases p<;>simp only[gm]at hp⊢
  exact oL h hp
 |np=>cases a<;>simp only[J3,fJ]at h;exact hp
 |_=>cases a<;>simp[J3]at h
theorem oL:∀ {l m:List AV} {ps:List PV},xN l m=true->bH l ps->bH m ps
 |[],[],_,_,h=>h
 |[],_::_,_,h,_=>by simp[xN]at h
 |_::_,[],_,h,_=>by simp[xN]at h
 |a::l,b::m,[],_,h=>by simp[bH]at h
 |
  a::l,b::m,p::ps,h,hg=>by
  simp only[xN,aJ]at h
  simp only[bH]at hg⊢
  exact⟨Hb h.1 hg.1,oL h.2 hg.2⟩
end
inductive SR where
 |val (a:AV)
 |own (sz:Nat) (l:List AV)
 |gen (r:AV) (sz:Nat) (l:List AV)
structure Spec where
 f:FuncId
 args:List AV
 res:SR
def AV.pO:AV->Bool
 | .tup l=>lQ l
 |a=>a.pure
def O5 (k:Nat):AV->Bool
 | .rs k' _ _ _ _ _ _=>decide (k'=k)
 |_=>false
def J4 (k:Nat):AV->Bool
 | .tup l=>l.all λa=>a.pure||O5 k a
 |_=>false
def rnA (k':Nat):AV->AV
 | .rs _ p o le t s c=> .rs k' p o le t s c
 |a=>a
def Gc (k':Nat):AV->AV
 | .tup l=> .tup (l.map (rnA k'))
 |a=>a
theorem MN {k:Nat} (ρ:Nat->Nat):∀ {l:List AV} {m:List PV},bH l m->(l.all λa=>a.pure||O5 k a)=true->bH (l.map (rnA (ρ k))) (aK ρ m)
 |[],[],_,_=>by simp[bH,aK]
 |[],_::_,h,_=>by simp[bH]at h
 |_::_,[],h,_=>by simp[bH]at h
 |
  a::l,p::m,h,hp=>by
  simp only[bH]at h
  simp only[List.all_cons,aJ,Bool.or_eq_true]at hp
  simp only[List.map_cons,aK,bH]
  refine⟨?_,MN ρ h.2 hp.2⟩
  rcases hp.1 with hq|hq
  ·rw[jm (h.1.refs hq)]
   have:rnA (ρ k) a=a:=by cases a<;>first|rfl|simp[AV.pure]at hq
   rw[this];exact h.1
  ·cases a<;>simp only[O5,decide_eq_true_eq,fJ]at hq
   subst hq
   have h1:=h.1
   simp only[gm]at h1
   subst h1
   simp only[rnA,aF,gm]
theorem T5 {k:Nat} {f:Nat->Bool} (hf:f k=true):∀ {l:List AV} {m:List PV},bH l m->(l.all λa=>a.pure||O5 k a)=true->ae f m=true
 |[],[],_,_=>rfl
 |[],_::_,h,_=>by simp[bH]at h
 |_::_,[],h,_=>by simp[bH]at h
 |
  a::l,p::m,h,hp=>by
  simp only[bH]at h
  simp only[List.all_cons,aJ,Bool.or_eq_true]at hp
  simp only[ae,aJ]
  refine⟨?_,T5 hf h.2 hp.2⟩
  rcases hp.1 with hq|hq
  ·exact gL (by simp) p (h.1.refs hq)
  ·cases a<;>simp only[O5,decide_eq_true_eq,fJ]at hq
   subst hq
   have h1:=h.1
   simp only[gm]at h1
   subst h1
   simpa only[ab]using hf
theorem Dg {k:Nat} (ρ:Nat->Nat) {r:AV} {v:PV} (h:gm r v) (ho:J4 k r=true):gm (Gc (ρ k) r) (aF ρ v):=by
 cases r<;>simp only[J4,fJ]at ho
 cases v<;>simp only[gm]at h
 simp only[Gc,aF,gm]
 exact MN ρ h ho
theorem Ag {k:Nat} {f:Nat->Bool} (hf:f k=true) {r:AV} {v:PV} (h:gm r v) (ho:J4 k r=true):ab f v=true:=by
 cases r<;>simp only[J4,fJ]at ho
 cases v<;>simp only[gm]at h
 simp only[ab]
 exact T5 hf h ho
theorem QR {k k':Nat} {r:AV} (ho:J4 k r=true):J4 k' (Gc k' r)=true:=by
 cases r<;>simp only[J4,fJ]at ho
 rename_i l
 simp only[Gc,J4,List.all_map]
 rw[List.all_eq_true]at ho⊢
 intro a ha
 have:=ho a ha
 simp only[Bool.or_eq_true,Function.comp]at this⊢
 rcases this with h|h
 ·left
  cases a<;>first|exact h|simp[AV.pure]at h
 ·right
  cases a<;>simp only[O5,decide_eq_true_eq,fJ]at h
  simp[rnA,O5]
theorem QS {k k':Nat} (r:AV):Gc k (Gc k' r)=Gc k r:=by
 cases r<;>simp only[Gc,List.map_map]
 congr 1
 apply List.map_congr_left
 intro a _
 cases a<;>rfl
def Spec.ok (P:Program) (e:Spec):Prop:=∀ps,bH e.args ps->match e.res with
 | .val r=>r.pO=true∧∃v,gm r v∧bI P e.f ps v
 | .own sz l=>lQ l=true∧∃m,bH l m∧qV P e.f ps sz m
 | .gen r sz l=>(J4 KB r=true∧lQ l=true)∧∃v m,gm r v∧bH l m∧ah P e.f ps [] (λr' fp=>r'=v∧fp=[.arr sz m])
def az (P:Program) (l:List Spec):Prop:=∀e∈l,e.ok P
theorem az.nil:az P []:=λ_ h=>by cases h
theorem az.cons {e:Spec} {l:List Spec} (h:e.ok P) (hl:az P l):az P (e::l):=by
 intro x hx
 rcases List.mem_cons.1 hx with rfl|hx
 ·exact h
 ·exact hl x hx
theorem gm.pO {a:AV} {p:PV} (h:gm a p) (hp:a.pO=true):Pure p:=by
 cases a<;>simp only[AV.pO]at hp
 case tup l=>
  cases p<;>simp only[gm]at h
  exact Pure.of (by simp only[ab];exact h.refs hp)
 all_goals exact h.aeE hp
def Fe:AV->List Nat
 | .rs k _ _ _ _ _ _=>[k]
 |_=>[]
def iH:List AV->List Nat
 |[]=>[]
 | .sl _ l _::r=>(l.map Fe).flatten++iH r
 |a::r=>Fe a++iH r
def dd:List Nat->List Nat
 |[]=>[]
 |k::r=>if(dd r).contains k=true then dd r else k::dd r
theorem Hc:∀ {l:List Nat} {k:Nat},k∈l->k∈dd l
 |[],_,h=>h
 |
  x::r,k,h=>by
  simp only[dd]
  split
  ·rename_i hc
   rcases List.mem_cons.1 h with rfl|h
   ·simpa using hc
   ·exact Hc h
  ·rcases List.mem_cons.1 h with rfl|h
   ·simp
   ·exact List.mem_cons_of_mem _ (Hc h)
theorem Ah:∀l:List Nat,(dd l).Nodup
 |[]=>by simp[dd]
 |
  x::r=>by
  simp only[dd]
  split
  ·exact Ah r
  ·rename_i hc
   exact List.nodup_cons.2 ⟨by simpa using hc,Ah r⟩
def AB.pure:AB->Bool
 | .box v=>v.pure
 | .arr _ l=>lQ l
def fzA (σ:AS):AV->Option AV
 | .rs k p off len aC sz c=>match pM σ (.rs k p off len aC sz c)with|some (_,l)=>if lQ l=true∧0<sz then some (.sl sz l false)else none|none=>none
 |a=>if a.pure=true∧(oZ a).pure=true then some (oZ a)else none
def fzL (σ:AS):List AV->Option (List AV)
 |[]=>some []
 |a::r=>match fzA σ a,fzL σ r with|some x,some l=>some (x::l)|_,_=>none
def vwA (σ:AS):AV->Option AV
 | .sl sz l _=>match fzL σ l with|some l'=>some (.sl sz l' false)|none=>none
 |a=>fzA σ a
def vwL (σ:AS):List AV->Option (List AV)
 |[]=>some []
 |a::r=>match vwA σ a,vwL σ r with|some x,some l=>some (x::l)|_,_=>none
structure Bn (s:St) (ks:List Nat) (bf:List a9):Prop where
 g:getAll s.bx ks=some bf
 p:∀b∈bf,af (λ_=>false) b=true
theorem nH {f:Nat->Bool} {b:a9} (h:af (λ_=>false) b=true):af f b=true:=by
 cases b with
 |box v=>exact gL (by simp) v h
 |arr sz l=>exact eU (by simp) l h
 |map b ks vs l=>rfl
theorem J5 {ρ:Nat->Nat} {b:a9} (h:af (λ_=>false) b=true):a0 ρ b=b:=by
 cases b with
 |box v=>simp only[a0];rw[jm h]
 |arr sz l=>simp only[a0];rw[lN h]
 |map b ks vs l=>rfl
theorem Bn.aF {s:St} {ks:List Nat} {bf:List a9} (h:Bn s ks bf) (ρ:Nat->Nat):bf.map (a0 ρ)=bf:=by
 have:∀l:List a9,(∀b∈l,af (λ_=>false) b=true)->l.map (a0 ρ)=l:=by
  intro l
  induction l with
  |nil=>intro _;rfl
  |cons b l ih=>intro hl;rw[List.map_cons,J5 (hl b (by simp)),ih λx hx=>hl x (by simp[hx])]
 exact this bf h.p
theorem Iu:∀ {l:List Nat} {k:Nat},k∈l->∃i,idx l k=some i
 |[],_,h=>by cases h
 |
  x::r,k,h=>by
  by_cases hx:x=k
  ·exact⟨0,by simp[idx,hx]⟩
  ·obtain⟨i,hi⟩:=Iu (l:=r) (k:=k) (by rcases List.mem_cons.1 h with h|h;exact absurd h.symm hx;exact h)
   exact⟨i+1,by simp[idx,hx,hi]⟩
theorem Bn.at {s:St} {ks:List Nat} {bf:List a9} (h:Bn s ks bf) {k:Nat} (hk:k∈ks):∃b,get s.bx k=some b∧get (aG 0 bf) (aT ks k)=some b∧bg ks k=true:=by
 obtain⟨i,hi⟩:=Iu hk
 obtain⟨h1,h2⟩:=eQ h.g
 obtain⟨b,h3,h4⟩:=h2 i k (kZ hi)
 refine⟨b,h3,?_,by simp[bg,hi]⟩
 rw[fT]
 simp only[aT,hi]
 rw[if_pos (by omega),show KB+i-KB-0=i by omega]
 exact h4
theorem Ff {s s':St} {k k' off len aC sz:Nat} {p:List Step} {c:jb} (h:get s.bx k=get s'.bx k') (K:Nat->List PV->Prop):content s (.rs k p off len aC sz c) K=content s' (.rs k' p off len aC sz c) K:=by
 simp only[content,h]
theorem MO {σ:AS} {s:St} (h:gS σ s) {ks:List Nat} {bf:List a9} (hL:Bn s ks bf) {a b:AV} {p:PV} (hp:gm a p) (hf:fzA σ a=some b) (hk:∀k∈Fe a,k∈ks):
  ∃q,gm b q∧V0 (aG 0 bf) (wk (aF (aT ks) p)) q∧ab (bg ks) p=true:=by
 unfold fzA at hf
 split at hf
 ·rename_i k pth off len aC sz c
  split at hf<;>(try simp only[reduceCtorEq]at hf)
  rename_i z l hc
  split at hf<;>simp only[sJ,reduceCtorEq]at hf
  rename_i BE
  subst hf
  have hp':=hp
  simp only[gm]at hp;subst hp
  obtain⟨m,g1,g2⟩:=xo h hp' hc
  obtain⟨b,h1,h2,h3⟩:=hL.at (hk k (by simp[Fe]))
  refine⟨.sl sz m false,by simp only[gm,true_and];exact g1,?_,by simpa only[ab]using h3⟩
  simp only[aF,wk]
  have hz:z=sz:=by
   have:=g2 (λa _=>a=z) rfl
   simp only[content]at this
   simp only[pM]at hc
   split at hc
   ·split at hc<;>simp only[sJ,Prod.mk.injEq,reduceCtorEq]at hc;exact hc.1.symm
   ·split at hc
    ·split at hc<;>simp only[sJ,Prod.mk.injEq,reduceCtorEq]at hc;exact hc.1.symm
    ·simp at hc
   ·simp at hc
  refine .inr ⟨_,pth,off,len,aC,sz,c,m,rfl,?_,g1.refs BE.1,BE.2,rfl⟩
  rw[Ff (s:=⟨[],aG 0 bf⟩) (s':=s) (k':=k) (by rw[h1];exact h2)]
  exact g2 _ ⟨hz,rfl⟩
 ·rename_i fc
  split at hf<;>simp only[sJ,reduceCtorEq]at hf
  rename_i BE
  subst hf
  have hr:=hp.refs BE.1
  refine⟨wk p,uO hp,?_,gL (by simp) p hr⟩
  rw[jm hr]
  exact .inl ⟨rfl,(uO hp).refs BE.2⟩
theorem MP {σ:AS} {s:St} (h:gS σ s) {ks:List Nat} {bf:List a9} (hL:Bn s ks bf):∀ {l m:List AV} {ps:List PV},bH l ps->fzL σ l=some m->(∀k∈(l.map Fe).flatten,k∈ks)->
  ∃qs,bH m qs∧Ip (aG 0 bf) (jj (aK (aT ks) ps)) qs∧ae (bg ks) ps=true
 |[],m,[],_,hf,_=>by simp only[fzL,sJ]at hf;subst hf;exact⟨[],by simp[bH],by simp[aK,Ip],rfl⟩
 |[],_,_::_,h,_,_=>by simp[bH]at h
 |_::_,_,[],h,_,_=>by simp[bH]at h
 |
  a::l,m,p::ps,hg,hf,hk=>by
  simp only[bH]at hg
  simp only[fzL]at hf
  split at hf<;>simp only[sJ,reduceCtorEq]at hf
  rename_i x l' h1 h2
  subst hf
  simp only[List.map_cons,List.flatten_cons,List.mem_append]at hk
  obtain⟨q,a1,a2,a3⟩:=MO h hL hg.1 h1 (λk F3=>hk k (.inl F3))
  obtain⟨qs,b1,b2,b3⟩:=MP h hL hg.2 h2 (λk F3=>hk k (.inr F3))
  exact⟨q::qs,by simp only[bH];exact⟨a1,b1⟩,by simp only[aK,jj,Ip];exact⟨a2,b2⟩,by simp[ae,a3,b3]⟩
theorem W0 {σ:AS} {s:St} (h:gS σ s) {ks:List Nat} {bf:List a9} (hL:Bn s ks bf) {a b:AV} {p:PV} (hp:gm a p) (hf:vwA σ a=some b) (hk:∀k∈iH [a],k∈ks):
  ∃q,gm b q∧V1 (aG 0 bf) (wk (aF (aT ks) p)) q∧ab (bg ks) p=true:=by
 unfold vwA at hf
 split at hf
 ·rename_i sz l c
  split at hf<;>simp only[sJ,reduceCtorEq]at hf
  rename_i l' hl
  subst hf
  cases p<;>simp only[gm]at hp
  obtain⟨⟨rfl,rfl⟩,hp⟩:=hp
  simp only[iH,List.append_nil]at hk
  obtain⟨qs,b1,b2,b3⟩:=MP h hL hp hl hk
  refine⟨.sl _ qs false,by simp only[gm];exact⟨⟨rfl,trivial⟩,b1⟩,?_,by simpa only[ab]using b3⟩
  simp only[aF,wk]
  exact .inr (.inl ⟨_,_,qs,false,rfl,b2,rfl⟩)
 ·rename_i fc
  have F3:∀k∈Fe a,k∈ks:=by
   intro k hkk
   cases a<;>simp[Fe]at hkk
   subst hkk
   exact hk _ (by simp[iH,Fe])
  obtain⟨q,a1,a2,a3⟩:=MO h hL hp hf F3
  exact⟨q,a1,.inl a2,a3⟩
theorem MQ {σ:AS} {s:St} (h:gS σ s) {ks:List Nat} {bf:List a9} (hL:Bn s ks bf):∀ {l m:List AV} {ps:List PV},bH l ps->vwL σ l=some m->(∀k∈iH l,k∈ks)->
  ∃qs,bH m qs∧O4 (aG 0 bf) (jj (aK (aT ks) ps)) qs∧ae (bg ks) ps=true
 |[],m,[],_,hf,_=>by simp only[vwL,sJ]at hf;subst hf;exact⟨[],by simp[bH],by simp[aK,O4],rfl⟩
 |[],_,_::_,h,_,_=>by simp[bH]at h
 |_::_,_,[],h,_,_=>by simp[bH]at h
 |
  a::l,m,p::ps,hg,hf,hk=>by
  simp only[bH]at hg
  simp only[vwL]at hf
  split at hf<;>simp only[sJ,reduceCtorEq]at hf
  rename_i x l' h1 h2
  subst hf
  have hka:∀k∈iH [a],k∈ks:=λk F3=>hk k (by cases a<;>simp[iH]at F3⊢<;>first|exact .inl F3|skip)
  have rT:∀k∈iH l,k∈ks:=λk F3=>hk k (by cases a<;>simp[iH,F3])
  obtain⟨q,a1,a2,a3⟩:=W0 h hL hg.1 h1 hka
  obtain⟨qs,b1,b2,b3⟩:=MQ h hL hg.2 h2 rT
  exact⟨q::qs,by simp only[bH];exact⟨a1,b1⟩,by simp only[aK,jj,O4];exact⟨a2,b2⟩,by simp[ae,a3,b3]⟩
end Go.Ab
namespace Go.Ab
variable [eg]
variable {P:Program} [iE]
theorem al.Fg {s:St} {d:Option Nat} {f:FuncId} {args fQ:List PV} {jO:List a9} {R:PV->List a9->Prop} {K:St->Prop} {t:Tg K} (ks os:List Nat) (bf:List a9) (hA:ah P f fQ jO R)
  (hg:getAll s.bx ks=some bf) (hn:(ks++os).Nodup) (PB:∀o∈os,get s.bx o=none) (ha:ae (bg ks) args=true) (hb:bf.all (af (bg ks))=true)
  (ha':jj (aK (aT ks) args)=fQ) (re:bf.map (a0 (aT ks))=jO)
  (h:∀r fp,R r fp->(fp.length=(ks++os).length∧ab (fR fp.length) r=true∧fp.all (af (fR fp.length))=true)∧K ({s with bx:=bC s.bx (ks++os) (fp.map (a0 (eO (ks++os))))}.put d (aF (eO (ks++os)) r))):al P s d f args K t:=by
 subst ha' re
 exact⟨ks,os,bf,R,hg,hn,PB,ha,hb,ah.TN hA,h⟩
theorem al.view {s:St} {d:Option Nat} {f:FuncId} {args fQ xA:List PV} {jO:List a9} {R:PV->List a9->Prop} {K:St->Prop} {t:Tg K} (ks os:List Nat) (bf:List a9) (hA:ah P f xA [] R)
  (hg:getAll s.bx ks=some bf) (hn:(ks++os).Nodup) (PB:∀o∈os,get s.bx o=none) (ha:ae (bg ks) args=true) (hb:bf.all (af (bg ks))=true)
  (ha':jj (aK (aT ks) args)=fQ) (re:bf.map (a0 (aT ks))=jO) (hV:O4 (aG 0 jO) fQ xA) (hR:∀r new,R r new->(qR r=true∧new.all B6=true)∧new.length=os.length)
  (h:∀r new,R r new->(ab (fR (jO.length+new.length)) (aF (·+jO.length) r)=true∧(jO++new.map (a0 (·+jO.length))).all (af (fR (jO.length+new.length)))=true)∧
   K ({s with bx:=bC s.bx (ks++os) ((jO++new.map (a0 (·+jO.length))).map (a0 (eO (ks++os))))}.put d (aF (eO (ks++os)) (aF (·+jO.length) r)))):al P s d f args K t:=by
 refine al.Fg ks os bf (ah.view hA hV λr new hr=>(hR r new hr).1) hg hn PB ha hb ha' re ?_
 rintro r fp ⟨r0,new,hr,rfl,rfl⟩
 have hl:jO.length=ks.length:=by rw[←re,List.length_map];exact(eQ hg).1
 obtain⟨⟨h1,h2⟩,h3⟩:=h r0 new hr
 have e:(jO++new.map (a0 (·+jO.length))).length=jO.length+new.length:=by simp
 rw[e]
 exact⟨⟨by rw[List.length_append,hl,(hR r0 new hr).2],h1,h2⟩,h3⟩
mutual
def uP:AV->Bool
 | .sl _ l _=>l.isEmpty
 | .st _ l| .ar _ _ l=>tw l
 | .bl _| .int .. | .str _| .np=>true
 |_=>false
def tw:List AV->Bool
 |[]=>true
 |a::l=>uP a&&tw l
end
mutual
theorem Ai:∀ {a:AV} {p:PV},gm a p->uP a=true->md p=true
 |
  .sl _ l _,p,h,hp=>by
  cases p<;>simp only[gm]at h
  simp only[uP,List.isEmpty_iff]at hp
  subst hp
  simp only[md,List.isEmpty_iff]
  exact List.length_eq_zero_iff.1 h.2.length
 | .st _ l,p,h,hp=>by cases p<;>simp only[gm]at h;simp only[md];exact nT h.2 (by simpa[uP]using hp)
 | .ar _ _ l,p,h,hp=>by cases p<;>simp only[gm]at h;simp only[md];exact nT h.2 (by simpa[uP]using hp)
 | .bl _,p,h,_=>by cases p<;>simp only[gm]at h;rfl
 | .int ..,p,h,_=>by cases p<;>simp only[gm]at h;rfl
 | .str _,p,h,_=>by cases p<;>simp only[gm]at h;rfl
 | .np,p,h,_=>by simp only[gm]at h;subst h;rfl
 | .un,_,_,hp| .no,_,_,hp| .tup _,_,_,hp| .rs ..,_,_,hp| .pt ..,_,_,hp| .fp ..,_,_,hp| .gd ..,_,_,hp=>by simp[uP]at hp
theorem nT:∀ {l:List AV} {m:List PV},bH l m->tw l=true->ig m=true
 |[],[],_,_=>rfl
 |[],_::_,h,_=>by simp[bH]at h
 |_::_,[],h,_=>by simp[bH]at h
 |
  a::l,p::m,h,hp=>by
  simp only[bH]at h
  simp only[tw,aJ]at hp
  simp[ig,Ai h.1 hp.1,nT h.2 hp.2]
end
def Dh:AV->Bool
 | .tup l=>tw l
 |a=>uP a
theorem J6 {a:AV} {p:PV} (h:gm a p) (hp:Dh a=true):qR p=true:=by
 cases a
 case tup l=>
  cases p<;>simp only[gm]at h
  simp only[qR]
  exact nT h (by simpa only[Dh]using hp)
 all_goals exact My (Ai h (by simpa only[Dh]using hp))
def MR:AV->Bool
 | .tup l=>l.all λa=>uP a||O5 KB a
 |_=>false
theorem B9:∀ {l:List AV} {m:List PV},bH l m->(l.all λa=>uP a||O5 KB a)=true->ig m=true
 |[],[],_,_=>rfl
 |[],_::_,h,_=>by simp[bH]at h
 |_::_,[],h,_=>by simp[bH]at h
 |
  a::l,p::m,h,hp=>by
  simp only[bH]at h
  simp only[List.all_cons,aJ,Bool.or_eq_true]at hp
  simp only[ig,aJ]
  refine⟨?_,B9 h.2 hp.2⟩
  rcases hp.1 with hq|hq
  ·exact Ai h.1 hq
  ·cases a<;>simp only[O5,fJ]at hq
   have h1:=h.1
   simp only[gm]at h1
   subst h1;rfl
theorem MS {r:AV} {v:PV} (h:gm r v) (hp:MR r=true):qR v=true:=by
 cases r<;>simp only[MR,fJ]at hp
 cases v<;>simp only[gm]at h
 simp only[qR]
 exact B9 h hp
def oi (f:FuncId) (bs:List AV):List Spec->Option SR
 |[]=>none
 |e::r=>if decide (e.f=f)&&xN bs e.args then some e.res else oi f bs r
theorem gX {f:FuncId} {bs:List AV} {qs:List PV} (hg:bH bs qs):∀ {SP:List Spec} {r:SR},az P SP->oi f bs SP=some r->match r with
  | .val r=>r.pO=true∧∃v,gm r v∧bI P f qs v
  | .own sz l=>lQ l=true∧∃m,bH l m∧qV P f qs sz m
  | .gen r sz l=>(J4 KB r=true∧lQ l=true)∧∃v m,gm r v∧bH l m∧ah P f qs [] (λr' fp=>r'=v∧fp=[.arr sz m])
 |[],_,_,h=>by simp[oi]at h
 |
  e::SP,r,hS,h=>by
  simp only[oi]at h
  split at h
  ·rename_i hc
   simp only[aJ,decide_eq_true_eq]at hc
   simp only[sJ]at h
   subst h
   have:=hS e (by simp) qs (oL hc.2 hg)
   rw[hc.1]at this
   exact this
  ·exact gX hg (λx hx=>hS x (by simp[hx])) h
def MT (SP:List Spec) (σ:AS) (d:Option Nat) (f:AX) (args:List AX):Option AS:=
 match f,G4 true σ args with
 | .c (.fn (.func fid) [] []),some as=>if lQ as=true then(match oi fid (Bm as) SP with
   |some (.val r)=>some (σ.put d r)
   |some (.own sz l)=>(match d with|some k=>if(get σ.bx k).isNone=true then some {env:=put σ.env k (.rs k [] 0 l.length l.length sz .tip),bx:=put σ.bx k (.arr sz l)}else none|none=>none)
   |some (.gen r sz l)=>(match d with|some k=>if(get σ.bx k).isNone=true then some {env:=put σ.env k (Gc k r),bx:=put σ.bx k (.arr sz l)}else none|none=>none)
   |none=>none)
  else(match vwL σ as with
   |some bs=>if((dd (iH as)).all λk=>match get σ.bx k with|some b=>b.pure|none=>false)=true then(match oi fid bs SP with
     |some (.val r)=>if Dh r=true then some (σ.put d r)else none
     |some (.own sz l)=>(match d with|some k=>if(get σ.bx k).isNone=true∧tw l=true then some {env:=put σ.env k (.rs k [] 0 l.length l.length sz .tip),bx:=put σ.bx k (.arr sz l)}else none|none=>none)
     |some (.gen r sz l)=>(match d with|some k=>if(get σ.bx k).isNone=true∧MR r=true∧tw l=true then some {env:=put σ.env k (Gc k r),bx:=put σ.bx k (.arr sz l)}else none|none=>none)
     |none=>none)else none
   |none=>none)
 |_,_=>none
theorem gB.pure {b:AB} {blk:a9} (h:gB b blk) (hp:b.pure=true):af (λ_=>false) blk=true:=by
 cases b<;>cases blk<;>simp only[gB]at h<;>simp only[AB.pure]at hp<;>simp only[af]
 ·exact h.refs hp
 ·exact h.2.refs hp
theorem Iv {σ:AS} {s:St} (h:gS σ s):∀ {ks:List Nat},(ks.all λk=>match get σ.bx k with|some b=>b.pure|none=>false)=true->∃bf,Bn s ks bf
 |[],_=>⟨[],rfl,by simp⟩
 |
  k::r,hk=>by
  simp only[List.all_cons,aJ]at hk
  obtain⟨bs,h1,h2⟩:=Iv h hk.2
  have h3:=hk.1
  split at h3
  ·rename_i b hb
   obtain⟨blk,h4,h5⟩:=h.bx _ _ hb
   refine⟨blk::bs,by simp only[getAll,h4,h1],λx hx=> ?_⟩
   rcases List.mem_cons.1 hx with rfl|hx
   ·exact h5.pure h3
   ·exact h2 x hx
  ·simp at h3
theorem Aj:∀ {ks:List Nat} {bs:List a9} {bx:List (Nat×a9)},uN bx->uN (bC bx ks bs)
 |[],[],_,h=>h
 |[],_::_,_,h=>h
 |_::_,[],_,h=>h
 |k::ks,b::bs,_,h=>by simp only[bC];exact Aj (h.put k b)
theorem uQ {s:St} {ks:List Nat} {bf:List a9} (hL:Bn s ks bf) (hn:ks.Nodup) (k:Nat):get (bC s.bx ks bf) k=get s.bx k:=by
 obtain⟨h1,h2⟩:=eQ hL.g
 rw[qk k hn h1]
 split
 ·rename_i i hi
  obtain⟨b,h3,h4⟩:=h2 i k (kZ hi)
  rw[h3,h4]
 ·rfl
theorem gS.same {σ:AS} {s s':St} (h:gS σ s) (he:s'.env=s.env) (hb:∀k,get s'.bx k=get s.bx k) (hs:uN s'.bx):gS σ s':=
 ⟨λk a hk=>by rw[he];exact h.env k a hk,λk hk=>by rw[hb];exact h.none k hk,λk b hk=>by rw[hb];exact h.bx k b hk,by rw[he];exact h.se,hs⟩
theorem rB {b:a9} {o:Nat}:∀ {ks:List Nat} {bf:List a9} {bx:List (Nat×a9)},bf.length=ks.length->bC bx (ks++[o]) (bf++[b])=put (bC bx ks bf) o b
 |[],[],_,_=>rfl
 |[],_::_,_,h=>by simp at h
 |_::_,[],_,h=>by simp at h
 |k::ks,x::bf,_,h=>by simp only[List.cons_append,bC];exact rB (by simpa using h)
theorem MU {SP:List Spec} (hS:az P SP) {σ σ':AS} {s:St} (h:gS σ s) {d:Option Nat} {f:AX} {args:List AX} (hr:MT SP σ d f args=some σ'):∃s',gS σ' s'∧Kp (dk d) s s'∧∀K:St->Prop,K s'->kF P s d f args K:=by
 unfold MT at hr
 split at hr<;>(try simp only[reduceCtorEq]at hr)
 rename_i fid as h1
 obtain⟨ps,g1,g2⟩:=yr h h1
 have key:∀(s':St),(∀(K:St->Prop),K s'->al P s d fid ps K .mk)->∀K:St->Prop,K s'->kF P s d (.c (.fn (.func fid) [] [])) args K:=by
  intro s' hc K hK
  unfold kF
  refine g2 _ ?_
  show∃ks os,sM P s d fid ([]++ps++[]) ks os K
  rw[List.nil_append,List.append_nil]
  exact hc K hK
 split at hr
 ·rename_i BE
  have yc:=g1.uM BE
  have g3:=qC g1
  split at hr<;>(try simp only[reduceCtorEq]at hr)
  ·rename_i r hf
   simp only[sJ]at hr
   subst hr
   obtain⟨e1,v,e2,e3⟩:=gX g3 hS hf
   exact⟨_,h.put d e2,Kp.same,key _ λK hK=>al.ret e3 rfl yc (e2.pO e1) hK⟩
  ·rename_i sz l hf
   split at hr<;>(try simp only[reduceCtorEq]at hr)
   rename_i k
   split at hr<;>simp only[sJ,reduceCtorEq]at hr
   rename_i hn
   subst hr
   obtain⟨e1,m,e2,e3⟩:=gX g3 hS hf
   have hl:=e2.length
   exact⟨_,h.new k (p:= .rs k [] 0 m.length m.length sz .tip) (by simp only[gm,hl]) (b:= .arr sz l) (blk:= .arr sz m) (by simp only[gB,true_and];exact e2),Kp.new,key _ λK hK=>al.own k e3 rfl yc (e2.uM e1) (h.none k (lR hn)) hK⟩
  ·rename_i r sz l hf
   split at hr<;>(try simp only[reduceCtorEq]at hr)
   rename_i k
   split at hr<;>simp only[sJ,reduceCtorEq]at hr
   rename_i hn
   subst hr
   obtain⟨⟨e0,e1⟩,v,m,e2,e3,e4⟩:=gX g3 hS hf
   have hm:=e3.uM e1
   have m7:eO [k] KB=k:=by simp[eO]
   have hg:gm (Gc k r) (aF (eO [k]) v):=by have:=Dg (eO [k]) e2 e0;rwa [m7]at this
   refine⟨{env:=put s.env k (aF (eO [k]) v),bx:=put s.bx k (.arr sz m)},h.new k (p:=aF (eO [k]) v) hg (b:= .arr sz l) (blk:= .arr sz m) (by simp only[gB,true_and];exact e3),Kp.new,key _ λK hK=>al.Fg [] [k] [] e4 rfl (by simp) (by simpa using h.none k (lR hn)) (yc.refs _) rfl (by rw[yc.aF]) rfl ?_⟩
   rintro r' fp ⟨rfl,rfl⟩
   refine⟨⟨rfl,Ag (by simp[fR]) e2 e0,by simp[af,hm.refs]⟩,?_⟩
   simp only[List.nil_append,List.map_cons,List.map_nil,a0,hm.aF,bC]
   exact hK
 ·split at hr<;>(try simp only[reduceCtorEq]at hr)
  rename_i bs HM
  split at hr<;>(try simp only[reduceCtorEq]at hr)
  rename_i ff
  obtain⟨bf,hL⟩:=Iv h ff
  have yM:=Ah (iH as)
  obtain⟨qs,q1,q2,q3⟩:=MQ h hL g1 HM (λk hk=>Hc hk)
  have F9:=hL.aF
  have HP:bf.all (af (bg (dd (iH as))))=true:=List.all_eq_true.2 λb hb=>nH (hL.p b hb)
  have Zm:∀n,bf.all (af (fR n))=true:=λn=>List.all_eq_true.2 λb hb=>nH (hL.p b hb)
  have kX:gS σ {s with bx:=bC s.bx (dd (iH as)) bf}:=h.same rfl (λk=>uQ hL yM k) (Aj h.sb)
  have hlen:bf.length=(dd (iH as)).length:=(eQ hL.g).1
  split at hr<;>(try simp only[reduceCtorEq]at hr)
  ·rename_i r hf
   split at hr<;>simp only[sJ,reduceCtorEq]at hr
   rename_i hns
   subst hr
   obtain⟨e1,v,e2,e3⟩:=gX q1 hS hf
   have hv:=e2.pO e1
   refine⟨_,kX.put d e2,Kp.put (λj _=>uQ hL yM j),key _ λK hK=>al.view (dd (iH as)) [] bf e3 hL.g (by simpa using yM) (by simp) q3 HP rfl (F9 _) q2 ?_ ?_⟩
   ·rintro r new ⟨rfl,rfl⟩
    exact⟨⟨J6 e2 hns,rfl⟩,rfl⟩
   ·rintro r new ⟨rfl,rfl⟩
    refine⟨⟨by rw[hv.aF];exact hv.refs _,by simp only[List.map_nil,List.append_nil];exact Zm _⟩,?_⟩
    simp only[List.map_nil,List.append_nil,F9,hv.aF]
    exact hK
  ·rename_i sz l hf
   split at hr<;>(try simp only[reduceCtorEq]at hr)
   rename_i k
   split at hr<;>simp only[sJ,reduceCtorEq]at hr
   rename_i hn
   subst hr
   obtain⟨e1,m,e2,e3⟩:=gX q1 hS hf
   have hm:=e2.uM e1
   have hl:=e2.length
   have mS:get s.bx k=none:=h.none k (lR hn.1)
   have hkn:k∉dd (iH as):=λhk=>by
    obtain⟨b,hb,_⟩:=hL.at hk
    rw[mS]at hb;cases hb
   refine⟨{env:=put s.env k (.rs k [] 0 m.length m.length sz .tip),bx:=put (bC s.bx (dd (iH as)) bf) k (.arr sz m)},kX.new k (p:= .rs k [] 0 m.length m.length sz .tip) (by simp only[gm,hl]) (b:= .arr sz l) (blk:= .arr sz m) (by simp only[gB,true_and];exact e2),
    λj hj=>by
     simp only[fg]
     rw[if_neg (by rintro rfl;simp[dk]at hj)]
     exact uQ hL yM j,
    key _ λK hK=>al.view (dd (iH as)) [k] bf e3 hL.g (by rw[List.nodup_append];exact⟨yM,by simp,by simp;intro a ha e;subst e;exact hkn ha⟩) (by simpa using mS) q3 HP rfl (F9 _) q2 ?_ ?_⟩
   ·rintro r new ⟨rfl,rfl⟩
    exact⟨⟨rfl,by simp only[List.all_cons,List.all_nil,Bool.and_true,B6];exact nT e2 hn.2⟩,rfl⟩
   ·rintro r new ⟨rfl,rfl⟩
    have m7:eO (dd (iH as)++[k]) (KB+bf.length)=k:=by
     unfold eO
     rw[if_pos (by omega),show KB+bf.length-KB=bf.length by omega,hlen,List.getElem?_append_right (Nat.le_refl _)]
     simp
    refine⟨⟨?_,?_⟩,?_⟩
    ·simp only[aF,ab,fR,List.length_cons,List.length_nil,decide_eq_true_eq];omega
    ·simp only[List.map_cons,List.map_nil,List.all_append,aJ,List.all_cons,List.all_nil,Bool.and_true]
     exact⟨Zm _,nH (by simp only[a0,af,hm.aF];exact hm.refs _)⟩
    ·have e4:(bf++[a9.arr sz m].map (a0 (·+bf.length))).map (a0 (eO (dd (iH as)++[k])))=bf++[.arr sz m]:=by
      simp only[List.map_append,F9,List.map_cons,List.map_nil,a0,hm.aF]
     rw[e4,rB hlen]
     simp only[aF,m7]
     exact hK
  ·rename_i r sz l hf
   split at hr<;>(try simp only[reduceCtorEq]at hr)
   rename_i k
   split at hr<;>simp only[sJ,reduceCtorEq]at hr
   rename_i hn
   subst hr
   obtain⟨⟨e0,e1⟩,v,m,e2,e3,e4⟩:=gX q1 hS hf
   have hm:=e3.uM e1
   have mS:get s.bx k=none:=h.none k (lR hn.1)
   have hkn:k∉dd (iH as):=λhk=>by
    obtain⟨b,hb,_⟩:=hL.at hk
    rw[mS]at hb;cases hb
   have m7:eO (dd (iH as)++[k]) (KB+bf.length)=k:=by
    unfold eO
    rw[if_pos (by omega),show KB+bf.length-KB=bf.length by omega,hlen,List.getElem?_append_right (Nat.le_refl _)]
    simp
   have hg1:gm (Gc (KB+bf.length) r) (aF (·+bf.length) v):=Dg (·+bf.length) e2 e0
   have SG:J4 (KB+bf.length) (Gc (KB+bf.length) r)=true:=QR e0
   have hg:gm (Gc k r) (aF (eO (dd (iH as)++[k])) (aF (·+bf.length) v)):=by
    have:=Dg (eO (dd (iH as)++[k])) hg1 SG
    rwa [m7,QS]at this
   refine⟨{env:=put s.env k (aF (eO (dd (iH as)++[k])) (aF (·+bf.length) v)),bx:=put (bC s.bx (dd (iH as)) bf) k (.arr sz m)},kX.new k (p:=aF (eO (dd (iH as)++[k])) (aF (·+bf.length) v)) hg (b:= .arr sz l) (blk:= .arr sz m) (by simp only[gB,true_and];exact e3),
    λj hj=>by
     simp only[fg]
     rw[if_neg (by rintro rfl;simp[dk]at hj)]
     exact uQ hL yM j,
    key _ λK hK=>al.view (dd (iH as)) [k] bf e4 hL.g (by rw[List.nodup_append];exact⟨yM,by simp,by simp;intro a ha e;subst e;exact hkn ha⟩) (by simpa using mS) q3 HP rfl (F9 _) q2 ?_ ?_⟩
   ·rintro r new ⟨rfl,rfl⟩
    exact⟨⟨MS e2 hn.2.1,by simp only[List.all_cons,List.all_nil,Bool.and_true,B6];exact nT e3 hn.2.2⟩,rfl⟩
   ·rintro r' new ⟨rfl,rfl⟩
    refine⟨⟨?_,?_⟩,?_⟩
    ·exact Ag (by simp[fR]) hg1 SG
    ·simp only[List.map_cons,List.map_nil,List.all_append,aJ,List.all_cons,List.all_nil,Bool.and_true]
     exact⟨Zm _,nH (by simp only[a0,af,hm.aF];exact hm.refs _)⟩
    ·have e4:(bf++[a9.arr sz m].map (a0 (·+bf.length))).map (a0 (eO (dd (iH as)++[k])))=bf++[.arr sz m]:=by
      simp only[List.map_append,F9,List.map_cons,List.map_nil,a0,hm.aF]
     rw[e4,rB hlen]
     exact hK
def Hd (SP:List Spec) (σ:AS) (d:Option Nat) (f:AX) (args:List AX):Option AS:=
 match f,G4 true σ args with
 | .c (.fn (.func fid) [] []),some as=>if lQ as=true then(match oi fid (Bm as) SP with
   |some (.val r)=>some (σ.put d r)
   |_=>none)else none
 |_,_=>none
theorem J7 {SP:List Spec} (hS:az P SP) {σ σ':AS} {s:St} (h:gS σ s) {d:Option Nat} {f:AX} {args:List AX} (hr:Hd SP σ d f args=some σ'):∃s',gS σ' s'∧Kp [] s s'∧∀K:St->Prop,K s'->mI P s d f args K:=by
 unfold Hd at hr
 split at hr<;>(try simp only[reduceCtorEq]at hr)
 rename_i fid as h1
 obtain⟨ps,g1,g2⟩:=yr h h1
 split at hr<;>(try simp only[reduceCtorEq]at hr)
 rename_i BE
 have yc:=g1.uM BE
 split at hr<;>simp only[sJ,reduceCtorEq]at hr
 rename_i r hf
 subst hr
 obtain⟨e1,v,e2,e3⟩:=gX (qC g1) hS hf
 refine⟨_,h.put d e2,Kp.same,λK hK=> ?_⟩
 unfold mI
 refine g2 _ ?_
 show∃v,(ae (λ_=>false) ([]++ps++[])=true∧ab (λ_=>false) v=true)∧ah P fid ([]++ps++[]) [] (λr fp=>r=v∧fp=[])∧K (s.put d v)
 rw[List.nil_append,List.append_nil]
 exact⟨v,⟨yc.refs _,(e2.pO e1).refs _⟩,ah.TN e3,hK⟩
def MV (SP:List Spec) (σ:AS) (o:AO):Option AS:=
 match o.k with
 | .call f args=>MT SP σ o.dst f args
 | .callq f args=>Hd SP σ o.dst f args
 |k=>if nA k=true then K1 σ o.dst k else(match tT true σ k with|some a=>some (σ.put o.dst a)|none=>none)
theorem Dk {SP:List Spec} (hS:az P SP) {σ σ':AS} {s:St} (h:gS σ s) {o:AO} (hr:MV SP σ o=some σ'):∃s',gS σ' s'∧Kp (J2 σ o.dst o.k) s s'∧∀K:St->Prop,K s'->kG P s o K:=by
 unfold MV at hr
 unfold kG
 split at hr
 ·rename_i f args hk
  obtain⟨s',h1,CG,h2⟩:=MU hS h hr
  exact⟨s',h1,by rw[hk];exact CG,λK hK=>by simp only[hk];exact h2 K hK⟩
 ·rename_i f args hk
  obtain⟨s',h1,CG,h2⟩:=J7 hS h hr
  exact⟨s',h1,by rw[hk];exact CG,λK hK=>by simp only[hk];exact h2 K hK⟩
 ·rename_i k n1 n2
  split at hr
  ·rename_i he
   obtain⟨s',h1,CG,h2⟩:=WY h hr
   refine⟨s',h1,CG,λK hK=> ?_⟩
   split
   ·rename_i f args hk;exact absurd hk (by intro e;exact n1 _ _ e)
   ·rename_i f args hk;exact absurd hk (by intro e;exact n2 _ _ e)
   ·rw[if_pos he];exact h2 K hK
  ·rename_i he
   split at hr<;>simp only[sJ,reduceCtorEq]at hr
   rename_i a ha
   subst hr
   obtain⟨p,h1,h2⟩:=Ae h ha
   refine⟨_,h.put _ h1,Kp.same,λK hK=> ?_⟩
   split
   ·rename_i f args hk;exact absurd hk (by intro e;exact n1 _ _ e)
   ·rename_i f args hk;exact absurd hk (by intro e;exact n2 _ _ e)
   ·rw[if_neg he];exact h2 _ hK
def He (SP:List Spec) (σ:AS) (o:AO):Option AS:=
 match o.guard with
 |none=>MV SP σ o
 |
  some (sl,want)=>match get σ.env sl with
  |some (.bl (some b))=>if o.mg=true then(match tT (b==want) σ o.k with|some p=>some (σ.put o.dst (.gd (b==want) p))|none=>none)
    else if b=want then MV SP σ o else some (σ.put o.dst .no)
  |some (.gd true (.bl (some b)))=>if o.mg=true then(match tT (b==want) σ o.k with|some p=>some (σ.put o.dst (.gd (b==want) p))|none=>none)
    else if b=want then MV SP σ o else some (σ.put o.dst .no)
  |some (.gd false (.bl (some b)))=>if o.mg=true then(match tT false σ o.k with|some p=>some (σ.put o.dst (.gd false p))|none=>none)
    else some (σ.put o.dst .no)
  |_=>none
theorem yw {SP:List Spec} (hS:az P SP) {σ σ':AS} {s:St} (h:gS σ s) {o:AO} (hr:He SP σ o=some σ'):∃s',gS σ' s'∧Kp (J2 σ o.dst o.k) s s'∧∀K:St->Prop,K s'->im P s o K:=by
 unfold He at hr
 unfold im
 split at hr
 ·rename_i hg
  rw[hg]
  exact Dk hS h hr
 ·rename_i sl want hg
  rw[hg]
  simp only
  split at hr<;>(try simp only[reduceCtorEq]at hr)
  ·rename_i b hb
   obtain⟨q,g1,g2⟩:=h.env _ _ hb
   cases q<;>simp only[gm]at g2
   have:=g2 b rfl
   subst this
   rw[g1]
   simp only[Option.getD_some]
   split at hr
   ·rename_i hm
    split at hr<;>simp only[sJ,reduceCtorEq]at hr
    rename_i p hp
    subst hr
    obtain⟨v,e1,e2⟩:=Ae h hp
    refine⟨_,h.put _ (p:= .gd _ v) (by simp only[gm];exact⟨rfl,e1⟩),Kp.same,λK hK=> ?_⟩
    rw[if_pos hm];exact e2 _ hK
   ·rename_i hm
    split at hr
    ·rename_i hw
     obtain⟨s',e1,ek,e2⟩:=Dk hS h hr
     refine⟨s',e1,ek,λK hK=> ?_⟩
     rw[if_neg hm]
     exact⟨λ_=>e2 K hK,λfc=>absurd hw fc⟩
    ·rename_i hw
     simp only[sJ]at hr
     subst hr
     refine⟨_,h.put _ (p:= .un) (by simp only[gm]),Kp.same,λK hK=> ?_⟩
     rw[if_neg hm]
     exact⟨λhe=>absurd he hw,λ_=>hK⟩
  ·rename_i b hb
   obtain⟨q,g1,g2⟩:=h.env _ _ hb
   cases q<;>simp only[gm]at g2
   rename_i g' q
   obtain⟨rfl,g2⟩:=g2
   cases q<;>simp only[gm]at g2
   have:=g2 b rfl
   subst this
   rw[g1]
   simp only[Option.getD_some,Bool.true_and]
   split at hr
   ·rename_i hm
    split at hr<;>simp only[sJ,reduceCtorEq]at hr
    rename_i p hp
    subst hr
    obtain⟨v,e1,e2⟩:=Ae h hp
    refine⟨_,h.put _ (p:= .gd _ v) (by simp only[gm];exact⟨rfl,e1⟩),Kp.same,λK hK=> ?_⟩
    rw[if_pos hm];exact e2 _ hK
   ·rename_i hm
    split at hr
    ·rename_i hw
     obtain⟨s',e1,ek,e2⟩:=Dk hS h hr
     refine⟨s',e1,ek,λK hK=> ?_⟩
     rw[if_neg hm]
     exact⟨λ_ _=>e2 K hK,λfc=>absurd hw (fc (by trivial))⟩
    ·rename_i hw
     simp only[sJ]at hr
     subst hr
     refine⟨_,h.put _ (p:= .un) (by simp only[gm]),Kp.same,λK hK=> ?_⟩
     rw[if_neg hm]
     exact⟨λ_ he=>absurd he hw,λ_=>hK⟩
  ·rename_i b hb
   obtain⟨q,g1,g2⟩:=h.env _ _ hb
   cases q<;>simp only[gm]at g2
   rename_i g' q
   obtain⟨rfl,g2⟩:=g2
   cases q<;>simp only[gm]at g2
   rw[g1]
   simp only[Option.getD_some,Bool.false_and]
   split at hr
   ·rename_i hm
    split at hr<;>simp only[sJ,reduceCtorEq]at hr
    rename_i p hp
    subst hr
    obtain⟨v,e1,e2⟩:=Ae h hp
    refine⟨_,h.put _ (p:= .gd _ v) (by simp only[gm];exact⟨rfl,e1⟩),Kp.same,λK hK=> ?_⟩
    rw[if_pos hm];exact e2 _ hK
   ·rename_i hm
    simp only[sJ]at hr
    subst hr
    refine⟨_,h.put _ (p:= .un) (by simp only[gm]),Kp.same,λK hK=> ?_⟩
    rw[if_neg hm]
    first|exact⟨λhe=>by cases he,λ_=>hK⟩|simpa using hK
def MW (SP:List Spec):AS->List AO->Option AS
 |σ,[]=>some σ
 |σ,o::l=>match He SP σ o with|some σ'=>MW SP σ' l|none=>none
theorem Iw {SP:List Spec} (hS:az P SP):∀ {l:List AO} {σ σ':AS} {s:St},gS σ s->MW SP σ l=some σ'->∃s',gS σ' s'∧∀K:St->Prop,K s'->GB P s l K
 |[],σ,σ',s,h,hr=>by simp only[MW,sJ]at hr;subst hr;exact⟨s,h,λK hK=>hK⟩
 |
  o::l,σ,σ',s,h,hr=>by
  simp only[MW]at hr
  split at hr<;>(try simp only[reduceCtorEq]at hr)
  rename_i σ1 h1
  obtain⟨s1,e1,_,e2⟩:=yw hS h h1
  obtain⟨s2,e3,e4⟩:=Iw hS e1 hr
  exact⟨s2,e3,λK hK=>e2 _ (e4 _ hK)⟩
def AS.less (σ:AS) (W:List Nat):AS:= {σ with bx:=σ.bx.filter λp=> !W.contains p.1}
theorem rC {W:List Nat} (k:Nat):∀l:List (Nat×AB),get (l.filter λp=> !W.contains p.1) k=if W.contains k=true then none else get l k
 |[]=>by simp[get]
 |
  (n,v)::r=>by
  have ih:=rC (W:=W) k r
  by_cases hn:W.contains n=true
  ·rw[List.filter_cons_of_neg (by simpa using hn),ih]
   by_cases hk:n=k
   ·subst hk;rw[if_pos hn,if_pos hn]
   ·simp only[get,if_neg hk]
  ·rw[List.filter_cons_of_pos (by simpa using hn)]
   simp only[get,ih]
   by_cases hk:n=k
   ·subst hk;rw[if_pos rfl,if_neg hn,if_pos rfl]
   ·rw[if_neg hk,if_neg hk]
theorem tx {W:List Nat}:∀ {l:List (Nat×a9)},uN l->uN (l.filter λp=> !W.contains p.1)
 |[],_=>trivial
 |
  (n,v)::r,h=>by
  by_cases hn:W.contains n=true
  ·rw[List.filter_cons_of_neg (by simpa using hn)];exact tx h.2
  ·rw[List.filter_cons_of_pos (by simpa using hn)]
   refine⟨λj x hj=> ?_,tx h.2⟩
   rw[get_filter (c:=λn=> !W.contains n)]at hj
   split at hj
   ·exact h.1 j x hj
   ·simp at hj
theorem W2 {W:List Nat} (hW:C7 W=false) (l:List (Nat×a9)):((l.filter λp=>C7 W|| !W.contains p.1).map λp=>(p.1,sx W p.1 p.2))=l.filter λp=> !W.contains p.1:=by
 simp only[hW,Bool.false_or]
 conv=>rhs;rw[←List.map_id (l.filter λp=> !W.contains p.1)]
 refine List.map_congr_left λp _=> ?_
 obtain⟨k,b⟩:=p
 cases b<;>simp[sx,hW]
theorem gS.less {σ:AS} {s:St} (h:gS σ s) {W:List Nat} (hW:C7 W=false):gS (σ.less W) (s.less W):=by
 have he:(s.less W).bx=s.bx.filter λp=> !W.contains p.1:=W2 hW _
 refine⟨h.env,λk hk=> ?_,λk b hk=> ?_,h.se,by rw[he];exact tx h.sb⟩
 ·rw[he]
  simp only[AS.less,rC]at hk⊢
  rw[get_filter (c:=λn=> !W.contains n)]
  split at hk
  ·rename_i hw;rw[hw];simp
  ·rename_i hw;rw[if_pos (by simpa using hw)];exact h.none k hk
 ·rw[he]
  simp only[AS.less,rC]at hk⊢
  rw[get_filter (c:=λn=> !W.contains n)]
  split at hk
  ·simp at hk
  ·rename_i hw;rw[if_pos (by simpa using hw)];exact h.bx k b hk
def MX (l:List AO) (σ:AS) (o:List Nat):Bool:=o.all λi=>match l[i]?with|some x=>(match x.gQ with|some k=>(get σ.bx k).isNone|none=>true)|none=>true
theorem MY {σ:AS} {s:St} (h:gS σ s) {l:List AO} {o:List Nat} (hf:MX l σ o=true):fU l s o=true:=by
 unfold MX at hf
 unfold fU
 rw[List.all_eq_true]at hf⊢
 intro i hi
 have:=hf i hi
 cases hl:l[i]?with
 |none=>simp
 |
  some x=>
  simp only[hl]at this⊢
  cases hk:x.gQ with
  |none=>rfl
  |
   some k=>
   simp only[hk]at this⊢
   rw[h.none k (lR this)];rfl
def W3 (SP:List Spec) (l:List AO) (u W:List Nat):AS->List Nat->Option AS
 |σ,[]=>some σ
 |
  σ,i::r=>match l[i]?with
  |some x=>if MX l σ (i::r)=true then(if x.quiet=true then(if u.contains i=true then(match He SP (σ.less W) x with
      |some τ=>if(J2 (σ.less W) x.dst x.k).isEmpty=true then W3 SP l u W {τ with bx:=σ.bx} r else none
      |none=>none)else(match He SP σ x with|some τ=>W3 SP l u W τ r|none=>none))
     else(match He SP σ x with|some τ=>if(!u.contains i||(J2 σ x.dst x.k).all λk=>W.contains k)=true then W3 SP l u W τ r else none|none=>none))else none
  |none=>none
theorem Dl {SP:List Spec} (hS:az P SP) {l:List AO} {u W:List Nat} (hW:C7 W=false):∀ {o:List Nat} {σ σ':AS} {s:St},gS σ s->W3 SP l u W σ o=some σ'->∃s',gS σ' s'∧∀K:St->Prop,K s'->iT P l u.contains W s o K
 |[],σ,σ',s,h,hr=>by simp only[W3,sJ]at hr;subst hr;exact⟨s,h,λK hK=>hK⟩
 |
  i::r,σ,σ',s,h,hr=>by
  simp only[W3]at hr
  split at hr<;>(try simp only[reduceCtorEq]at hr)
  rename_i x hx
  split at hr<;>(try simp only[reduceCtorEq]at hr)
  rename_i hf
  have nr:=MY h hf
  split at hr
  ·rename_i hq
   split at hr
   ·rename_i hu
    split at hr<;>(try simp only[reduceCtorEq]at hr)
    rename_i τ ht
    split at hr<;>(try simp only[reduceCtorEq]at hr)
    obtain⟨t1,e1,_,e2⟩:=yw hS (h.less hW) ht
    have h2:gS {τ with bx:=σ.bx} {t1 with bx:=s.bx}:=⟨e1.env,h.none,h.bx,e1.se,h.sb⟩
    obtain⟨s',e3,e4⟩:=Dl hS hW h2 hr
    refine⟨s',e3,λK hK=> ?_⟩
    simp only[iT,hx]
    refine⟨nr,?_⟩
    unfold jv
    rw[if_pos hq,if_pos hu]
    exact e2 _ (e4 K hK)
   ·rename_i hu
    split at hr<;>(try simp only[reduceCtorEq]at hr)
    rename_i τ ht
    obtain⟨t1,e1,_,e2⟩:=yw hS h ht
    obtain⟨s',e3,e4⟩:=Dl hS hW e1 hr
    refine⟨s',e3,λK hK=> ?_⟩
    simp only[iT,hx]
    refine⟨nr,?_⟩
    unfold jv
    rw[if_pos hq,if_neg hu]
    exact e2 _ (e4 K hK)
  ·rename_i hq
   split at hr<;>(try simp only[reduceCtorEq]at hr)
   rename_i τ ht
   split at hr<;>(try simp only[reduceCtorEq]at hr)
   rename_i hw
   obtain⟨t1,e1,ek,e2⟩:=yw hS h ht
   obtain⟨s',e3,e4⟩:=Dl hS hW e1 hr
   refine⟨s',e3,λK hK=> ?_⟩
   simp only[iT,hx]
   refine⟨nr,?_⟩
   unfold jv
   rw[if_neg hq]
   refine e2 _ ⟨λhu k b hk hb=> ?_,e4 K hK⟩
   rw[ek k,hb]
   ·exact⟨b,rfl,rfl⟩
   intro w7
   rw[Bool.or_eq_true]at hw
   rcases hw with hw|hw
   ·exact absurd (by simpa using hu) (by simpa using hw)
   ·have:=List.all_eq_true.1 hw k w7
    rw[this,hW]at hk;cases hk
def drW (SP:List Spec) (l:List AO) (u:List Nat):AS->List Nat->List Nat
 |_,[]=>[]
 |
  σ,i::r=>match l[i]?with
  |some x=>(if x.quiet=false&&u.contains i then J2 σ x.dst x.k else [])++(match He SP σ x with|some τ=>drW SP l u τ r|none=>[])
  |none=>[]
end Go.Ab
