/- A reckoning that finds that a function returns a value of a shape. No condition. -/
import Derived.Test.YtdfkcobijmbidaaGreatA5
import Derived.Test.YtdfkcobijmbidaaGreatA4
set_option linter.all false
namespace Go.Ab
inductive AV where
 |un
 |no
 |bl (b:Option Bool)
 |int (k:IntKind) (n:Option Int)
 |str (l:List UInt8)
 |st (w:Nat) (l:List AV)
 |ar (sz n:Nat) (l:List AV)
 |tup (l:List AV)
 |sl (sz:Nat) (l:List AV) (c:Bool)
 |rs (k:Nat) (p:List Step) (off len aE sz:Nat) (c:jA)
 |pt (k:Nat) (p:List Step) (aE:Nat)
 |fp (sz:Nat) (l:List AV) (p:List Step)
 |np
 |gd (b:Bool) (v:AV)
 deriving Inhabited
def AV.isNum:AV->Bool
 | .int .. =>true
 |_=>false
mutual
def gm:AV->PV->Prop
 | .un,_=>True
 | .no,v=>v= .un
 | .bl b,.bl x=>∀y,b=some y->x=y
 | .int k n,.int k' m=>k'=k∧∀y,n=some y->m=y
 | .str l,.str m=>m=l
 | .st w l,.st w' m=>w'=w∧bT l m
 | .ar sz n l,.ar bL n' m=>(bL=sz∧n'=n)∧bT l m
 | .tup l,.tup m=>bT l m
 | .sl sz l c,.sl bL m c'=>(bL=sz∧c'=c)∧bT l m
 | .rs k p off len aE sz c,v=>v= .rs k p off len aE sz c
 | .pt k p aE,v=>v= .pt k p aE
 | .fp sz l p,.fp bL m p'=>(bL=sz∧p'=p)∧bT l m
 | .np,v=>v= .np
 | .gd b v,.gd b' p=>b'=b∧gm v p
 |_,_=>False
def bT:List AV->List PV->Prop
 |[],[]=>True
 |a::l,p::m=>gm a p∧bT l m
 |_,_=>False
end
theorem bT.length:∀ {l:List AV} {m:List PV},bT l m->m.length=l.length
 |[],[],_=>rfl
 |[],_::_,h=>by simp[bT]at h
 |_::_,[],h=>by simp[bT]at h
 |a::l,p::m,h=>by simp only[bT]at h;simp[bT.length h.2]
theorem bT.at:∀ {l:List AV} {m:List PV} {i:Nat} {a:AV},bT l m->l[i]? =some a->∃p,m[i]? =some p∧gm a p
 |[],_,i,a,_,h=>by simp at h
 |_::_,[],_,_,h,_=>by simp[bT]at h
 |b::l,p::m,0,a,h,ha=>by simp at ha;subst ha;simp only[bT]at h;exact⟨p,rfl,h.1⟩
 |b::l,p::m,i+1,a,h,ha=>by simp only[bT]at h;simp at ha;simpa using bT.at h.2 ha
theorem bT.set:∀ {l:List AV} {m:List PV} {i:Nat} {a:AV} {p:PV},bT l m->gm a p->bT (l.set i a) (m.set i p)
 |[],[],_,_,_,_,_=>by simp[bT]
 |[],_::_,_,_,_,h,_=>by simp[bT]at h
 |_::_,[],_,_,_,h,_=>by simp[bT]at h
 |b::l,q::m,0,a,p,h,ha=>by simp only[bT]at h;simp[bT,ha,h.2]
 |b::l,q::m,i+1,a,p,h,ha=>by simp only[bT]at h;simp[bT,h.1,bT.set h.2 ha]
theorem bT.take:∀ {l:List AV} {m:List PV} (i:Nat),bT l m->bT (l.take i) (m.take i)
 |[],[],_,_=>by simp[bT]
 |[],_::_,_,h=>by simp[bT]at h
 |_::_,[],_,h=>by simp[bT]at h
 |b::l,q::m,0,h=>by simp[bT]
 |b::l,q::m,i+1,h=>by simp only[bT]at h;simp[bT,h.1,bT.take i h.2]
theorem bT.drop:∀ {l:List AV} {m:List PV} (i:Nat),bT l m->bT (l.drop i) (m.drop i)
 |[],[],_,_=>by simp[bT]
 |[],_::_,_,h=>by simp[bT]at h
 |_::_,[],_,h=>by simp[bT]at h
 |b::l,q::m,0,h=>by simpa using h
 |b::l,q::m,i+1,h=>by simp only[bT]at h;simpa using bT.drop i h.2
theorem bT.append:∀ {l:List AV} {m:List PV} {l':List AV} {m':List PV},bT l m->bT l' m'->bT (l++l') (m++m')
 |[],[],_,_,_,h=>by simpa using h
 |[],_::_,_,_,h,_=>by simp[bT]at h
 |_::_,[],_,_,h,_=>by simp[bT]at h
 |b::l,q::m,_,_,h,h'=>by simp only[bT]at h;simp[bT,h.1,bT.append h.2 h']
theorem bT.rep {a:AV} {p:PV} (h:gm a p):∀n,bT (List.replicate n a) (List.replicate n p)
 |0=>by simp[bT]
 |n+1=>by simp[List.replicate_succ,bT,h,bT.rep h n]
def AV.width:AV->Option Nat
 | .un=>none
 | .st w _=>some w
 | .ar sz n _=>some (n*sz)
 |_=>some 1
def AV.agg:AV->Option Bool
 | .un=>none
 | .st .. | .ar .. =>some true
 |_=>some false
def AV.RC:AV->Bool
 | .un| .no| .tup _| .gd .. =>false
 |_=>true
def XU:List AV->Option Nat
 |[]=>some 0
 |a::l=>match a.width,XU l with|some x,some y=>some (x+y)|_,_=>none
theorem gm.width {a:AV} {p:PV} (h:gm a p) {w:Nat} (hw:a.width=some w):p.width=w:=by
 cases a<;>simp[AV.width]at hw<;>subst hw<;>cases p<;>simp[gm]at h<;>simp[PV.width,h]
theorem gm.agg {a:AV} {p:PV} (h:gm a p) {w:Bool} (hw:a.agg=some w):p.isAgg=w:=by
 cases a<;>simp[AV.agg]at hw<;>subst hw<;>cases p<;>simp[gm]at h<;>simp[PV.isAgg]
theorem gm.RC {a:AV} {p:PV} (h:gm a p) (hw:a.RC=true):p.bp=true:=by
 cases a<;>simp[AV.RC]at hw<;>cases p<;>simp[gm]at h<;>simp[PV.bp]
theorem bT.az:∀ {l:List AV} {m:List PV} {w:Nat},bT l m->XU l=some w->az m=w
 |[],[],w,_,h=>by simp[XU]at h;subst h;rfl
 |[],_::_,_,h,_=>by simp[bT]at h
 |_::_,[],_,h,_=>by simp[bT]at h
 |
  a::l,p::m,w,h,hw=>by
  simp only[bT]at h
  simp only[XU]at hw
  split at hw<;>simp only[sJ,reduceCtorEq]at hw
  rename_i x y h1 h2
  subst hw
  simp only[Ab.az,h.1.width h1,bT.az h.2 h2]
def xp:AV->List Step->Option AV
 |v,[]=>some v
 | .st _ l,.f i o::r=>if XU (l.take i)=some o then(match l[i]?with|some c=>xp c r|none=>none)else none
 | .ar sz _ l,.i j s::r=>if s=sz then(match l[j]?with|some c=>xp c r|none=>none)else none
 | .ar sz _ l,.w o n s::r=>if s=sz∧o+n≤l.length then xp (.ar sz n ((l.drop o).take n)) r else none
 |_,_=>none
def Cb:AV->List Step->AV->Option AV
 |v,[],x=>match x.width,v.width with|some a,some b=>if a=b then some x else none|_,_=>none
 | .st w l,.f i o::r,x=>if XU (l.take i)=some o then(match l[i]?with|some c=>(match Cb c r x with|some c'=>some (.st w (l.set i c'))|none=>none)|none=>none)else none
 | .ar sz n l,.i j s::r,x=>if s=sz then(match l[j]?with|some c=>(match Cb c r x with|some c'=>some (.ar sz n (l.set j c'))|none=>none)|none=>none)else none
 |_,_,_=>none
theorem pH:∀ {r:List Step} {a b:AV} {p:PV},gm a p->xp a r=some b->∃q,aQ p r=some q∧gm b q
 |
  [],a,b,p,h,hb=>by
  have:xp a []=some a:=by cases a<;>rfl
  rw[this]at hb
  cases hb
  exact⟨p,by cases p<;>rfl,h⟩
 |
  .f i o::r,a,b,p,h,hb=>by
  cases a<;>simp only[xp,reduceCtorEq]at hb
  rename_i w l
  split at hb
  ·rename_i ho
   split at hb
   ·rename_i c hc
    cases p<;>simp only[gm]at h
    rename_i w' m
    obtain⟨q,hq,hg⟩:=h.2.at hc
    obtain⟨x,hx,T4⟩:=pH hg hb
    refine⟨x,?_,T4⟩
    simp only[aQ,(h.2.take i).az ho,if_true,hq,hx]
   ·simp at hb
  ·simp at hb
 |
  .i j s::r,a,b,p,h,hb=>by
  cases a<;>simp only[xp,reduceCtorEq]at hb
  rename_i sz n l
  split at hb
  ·rename_i ho
   split at hb
   ·rename_i c hc
    cases p<;>simp only[gm]at h
    rename_i bL n' m
    obtain⟨q,hq,hg⟩:=h.2.at hc
    obtain⟨x,hx,T4⟩:=pH hg hb
    refine⟨x,?_,T4⟩
    simp only[aQ,h.1.1,ho,if_true,hq,hx]
   ·simp at hb
  ·simp at hb
 |
  .w o n s::r,a,b,p,h,hb=>by
  cases a<;>simp only[xp,reduceCtorEq]at hb
  rename_i sz n0 l
  split at hb
  ·rename_i ho
   cases p<;>simp only[gm]at h
   rename_i bL n' m
   have hl:=h.2.length
   obtain⟨x,hx,T4⟩:=pH (p:= .ar bL n ((m.drop o).take n)) (by simp only[gm];exact⟨⟨h.1.1,trivial⟩,(h.2.drop o).take n⟩) hb
   refine⟨x,?_,T4⟩
   simp only[aQ]
   rw[if_pos ⟨by rw[h.1.1];exact ho.1,by omega⟩]
   exact hx
  ·simp at hb
theorem vH:∀ {r:List Step} {a x b:AV} {p q:PV},gm a p->gm x q->Cb a r x=some b->∃p',di p r q=some p'∧gm b p'
 |
  [],a,x,b,p,q,h,hx,hb=>by
  have e:Cb a [] x=match x.width,a.width with|some u,some v=>if u=v then some x else none|_,_=>none:=by cases a<;>rfl
  rw[e]at hb
  split at hb
  ·rename_i u v h1 h2
   split at hb<;>simp only[sJ,reduceCtorEq]at hb
   subst hb
   rename_i huv
   refine⟨q,?_,hx⟩
   have e2:di p [] q=if q.width=p.width then some q else none:=by cases p<;>rfl
   rw[e2,hx.width h1,h.width h2,if_pos huv]
  ·simp at hb
 |
  .f i o::r,a,x,b,p,q,h,hx,hb=>by
  cases a<;>simp only[Cb,reduceCtorEq]at hb
  rename_i w l
  split at hb
  ·rename_i ho
   split at hb
   ·rename_i c hc
    split at hb<;>simp only[sJ,reduceCtorEq]at hb
    rename_i c' Co
    subst hb
    cases p<;>simp only[gm]at h
    rename_i w' m
    obtain⟨y,hy,hg⟩:=h.2.at hc
    obtain⟨z,hz,hgz⟩:=vH hg hx Co
    refine⟨.st w' (m.set i z),?_,?_⟩
    ·simp only[di,(h.2.take i).az ho,if_true,hy,hz]
    ·simp only[gm];exact⟨h.1,h.2.set hgz⟩
   ·simp at hb
  ·simp at hb
 |
  .i j s::r,a,x,b,p,q,h,hx,hb=>by
  cases a<;>simp only[Cb,reduceCtorEq]at hb
  rename_i sz n l
  split at hb
  ·rename_i ho
   split at hb
   ·rename_i c hc
    split at hb<;>simp only[sJ,reduceCtorEq]at hb
    rename_i c' Co
    subst hb
    cases p<;>simp only[gm]at h
    rename_i bL n' m
    obtain⟨y,hy,hg⟩:=h.2.at hc
    obtain⟨z,hz,hgz⟩:=vH hg hx Co
    refine⟨.ar bL n' (m.set j z),?_,?_⟩
    ·simp only[di,h.1.1,ho,if_true,hy,hz]
    ·simp only[gm];exact⟨h.1,h.2.set hgz⟩
   ·simp at hb
  ·simp at hb
 | .w o n s::r,a,x,b,p,q,h,hx,hb=>by cases a<;>simp[Cb]at hb
inductive AB where
 |box (v:AV)
 |arr (sz:Nat) (l:List AV)
def AB.aE:AB->Nat
 | .box _=>0
 | .arr _ l=>l.length
def gB:AB->bh->Prop
 | .box a,.box p=>gm a p
 | .arr sz l,.arr bL m=>bL=sz∧bT l m
 |_,_=>False
theorem gB.aE {a:AB} {b:bh} (h:gB a b):b.aE=a.aE:=by
 cases a<;>cases b<;>simp only[gB]at h
 ·rfl
 ·exact h.2.length
def yv:AB->List Step->Option AV
 | .box v,p=>xp v p
 | .arr sz l,.i j s::r=>if s=sz then(match l[j]?with|some c=>xp c r|none=>none)else none
 | .arr sz l,.w o n s::r=>if s=sz∧o+n≤l.length then xp (.ar sz n ((l.drop o).take n)) r else none
 | .arr _ _,_=>none
def A5:AB->List Step->AV->Option AB
 | .box v,p,x=>match Cb v p x with|some v'=>some (.box v')|none=>none
 | .arr sz l,.i j s::r,x=>if s=sz then(match l[j]?with|some c=>(match Cb c r x with|some c'=>some (.arr sz (l.set j c'))|none=>none)|none=>none)else none
 | .arr _ _,_,_=>none
theorem FU {r:List Step} {a:AB} {b:AV} {p:bh} (h:gB a p) (hb:yv a r=some b):∃q,mL p r=some q∧gm b q:=by
 cases a<;>cases p<;>simp only[gB]at h
 ·obtain⟨q,h1,h2⟩:=pH h (by simpa only[yv]using hb)
  exact⟨q,by simpa only[mL]using h1,h2⟩
 ·match r,hb with
  |[],hb=>simp[yv]at hb
  | .f _ _::_,hb=>simp[yv]at hb
  |
   .i j s::r,hb=>
   simp only[yv]at hb
   split at hb
   ·rename_i ho
    split at hb
    ·rename_i c hc
     obtain⟨q,hq,hg⟩:=h.2.at hc
     obtain⟨x,hx,T4⟩:=pH hg hb
     exact⟨x,by simp only[mL,h.1,ho,if_true,hq,hx],T4⟩
    ·simp at hb
   ·simp at hb
  |
   .w o n s::r,hb=>
   simp only[yv]at hb
   split at hb
   ·rename_i sz l bL m ho
    have hl:=h.2.length
    obtain⟨x,hx,T4⟩:=pH (p:= .ar bL n ((m.drop o).take n)) (by simp only[gm];exact⟨⟨h.1,trivial⟩,(h.2.drop o).take n⟩) hb
    refine⟨x,?_,T4⟩
    simp only[mL]
    rw[if_pos ⟨by rw[h.1];exact ho.1,by omega⟩]
    exact hx
   ·simp at hb
theorem NF {r:List Step} {a b:AB} {x:AV} {q:PV} {p:bh} (h:gB a p) (hx:gm x q) (hb:A5 a r x=some b):∃p',qf p r q=some p'∧gB b p':=by
 cases a<;>cases p<;>simp only[gB]at h
 ·simp only[A5]at hb
  split at hb<;>simp only[sJ,reduceCtorEq]at hb
  rename_i v' hv
  subst hb
  obtain⟨z,h1,h2⟩:=vH h hx hv
  exact⟨.box z,by simp only[qf,h1],h2⟩
 ·match r,hb with
  |[],hb=>simp[A5]at hb
  | .f _ _::_,hb=>simp[A5]at hb
  | .w _ _ _::_,hb=>simp[A5]at hb
  |
   .i j s::r,hb=>
   simp only[A5]at hb
   split at hb
   ·rename_i ho
    split at hb
    ·rename_i c hc
     split at hb<;>simp only[sJ,reduceCtorEq]at hb
     rename_i c' Co
     subst hb
     obtain⟨y,hy,hg⟩:=h.2.at hc
     obtain⟨z,hz,hgz⟩:=vH hg hx Co
     refine⟨_,by simp only[qf,h.1,ho,if_true,hy,hz];rfl,?_⟩
     simp[gB,h.2.set hgz]
    ·simp at hb
   ·simp at hb
mutual
def FX:PV->AV
 | .bl b=> .bl (some b)
 | .int k n=> .int k (some n)
 | .str l=> .str l
 | .st w l=> .st w (HM l)
 | .ar sz n l=> .ar sz n (HM l)
 | .sl sz l c=> .sl sz (HM l) c
 | .np=> .np
 |_=> .un
def HM:List PV->List AV
 |[]=>[]
 |p::l=>FX p::HM l
end
mutual
theorem xq:∀p:PV,gm (FX p) p
 | .bl b=>by simp[FX,gm]
 | .int k n=>by simp[FX,gm]
 | .str l=>by simp[FX,gm]
 | .st w l=>by simp[FX,gm,vI l]
 | .ar sz n l=>by simp[FX,gm,vI l]
 | .sl sz l c=>by simp[FX,gm,vI l]
 | .np=>by simp[FX,gm]
 | .un| .tup _| .rs .. | .pt .. | .fp .. | .fn .. | .nf| .gd .. | .ifc .. | .ni| .mp .. =>by simp[FX,gm]
theorem vI:∀l:List PV,bT (HM l) l
 |[]=>by simp[HM,bT]
 |p::l=>by simp[HM,bT,xq p,vI l]
end
mutual
def AV.pure:AV->Bool
 | .bl _| .int .. | .str _| .np=>true
 | .st _ l| .ar _ _ l| .sl _ l _=>my l
 |_=>false
def my:List AV->Bool
 |[]=>true
 |a::l=>a.pure&&my l
end
mutual
theorem gm.refs:∀ {a:AV} {p:PV},gm a p->a.pure=true->ab (λ_=>false) p=true
 | .bl _,p,h,_=>by cases p<;>simp[gm]at h<;>rfl
 | .int _ _,p,h,_=>by cases p<;>simp[gm]at h<;>rfl
 | .str _,p,h,_=>by cases p<;>simp[gm]at h<;>rfl
 | .np,p,h,_=>by simp only[gm]at h;subst h;rfl
 |
  .st _ l,p,h,hp=>by
  cases p<;>simp only[gm]at h
  simp only[ab];exact bT.refs h.2 (by simpa[AV.pure]using hp)
 |
  .ar _ _ l,p,h,hp=>by
  cases p<;>simp only[gm]at h
  simp only[ab];exact bT.refs h.2 (by simpa[AV.pure]using hp)
 |
  .sl _ l _,p,h,hp=>by
  cases p<;>simp only[gm]at h
  simp only[ab];exact bT.refs h.2 (by simpa[AV.pure]using hp)
 | .un,_,_,hp| .no,_,_,hp| .tup _,_,_,hp| .rs ..,_,_,hp| .pt ..,_,_,hp| .fp ..,_,_,hp| .gd ..,_,_,hp=>by simp[AV.pure]at hp
theorem bT.refs:∀ {l:List AV} {m:List PV},bT l m->my l=true->ae (λ_=>false) m=true
 |[],[],_,_=>rfl
 |[],_::_,h,_=>by simp[bT]at h
 |_::_,[],h,_=>by simp[bT]at h
 |
  a::l,p::m,h,hp=>by
  simp only[bT]at h
  simp only[my,aJ]at hp
  simp[ae,h.1.refs hp.1,h.2.refs hp.2]
end
theorem gm.aga [eE] {a:AV} {p:PV} (h:gm a p) (hp:a.pure=true):Pure p:=Pure.of (h.refs hp)
theorem bT.vJ [eE] {l:List AV} {m:List PV} (h:bT l m) (hp:my l=true):aB m:=aB.of (h.refs hp)
end Go.Ab
namespace Go.Ab
variable [eE]
variable {P:Program}
structure AS where
 env:List (Nat×AV)
 bx:List (Nat×AB)
def vK {α:Type}:List (Nat×α)->Prop
 |[]=>True
 |(k,_)::r=>(∀j x,get r j=some x->k<j)∧vK r
theorem vK.put {α:Type}:∀ {l:List (Nat×α)} (n:Nat) (x:α),vK l->vK (put l n x)
 |[],n,x,_=>by simp[vK]
 |
  (k,v)::r,n,x,h=>by
  obtain⟨h1,h2⟩:=h
  simp only[Ab.put]
  split
  ·rename_i hk;subst hk;exact⟨h1,h2⟩
  ·split
   ·rename_i hk gG
    refine⟨λj y hj=> ?_,h1,h2⟩
    simp only[get]at hj
    split at hj
    ·omega
    ·have:=h1 j y hj;omega
   ·rename_i hk gG
    refine⟨λj y hj=> ?_,h2.put n x⟩
    rw[fC]at hj
    split at hj
    ·omega
    ·exact h1 j y hj
theorem vK.mem {α:Type}:∀ {l:List (Nat×α)} {k:Nat} {x:α},vK l->(k,x)∈l->get l k=some x
 |[],_,_,_,h=>by simp at h
 |
  (k,v)::r,n,x,hs,h=>by
  rcases List.mem_cons.1 h with h|h
  ·cases h;simp
  ·have:=hs.2.mem h
   simp only[get]
   rw[if_neg,this]
   intro e
   have:=hs.1 n x this
   omega
structure gS (σ:AS) (s:St):Prop where
 env:∀k a,get σ.env k=some a->∃p,get s.env k=some p∧gm a p
 none:∀k,get σ.bx k=none->get s.bx k=none
 bx:∀k b,get σ.bx k=some b->∃blk,get s.bx k=some blk∧gB b blk
 se:vK s.env
 sb:vK s.bx
def AS.put (σ:AS) (d:Option Nat) (a:AV):AS:=
 match d with
 |some d=> {σ with env:=Ab.put σ.env d a}
 |none=>σ
theorem gS.put {σ:AS} {s:St} (h:gS σ s) (d:Option Nat) {a:AV} {p:PV} (ha:gm a p):gS (σ.put d a) (s.put d p):=by
 cases d with
 |none=>exact h
 |
  some d=>
  refine⟨λk b hb=> ?_,h.none,h.bx,h.se.put _ _,h.sb⟩
  simp only[AS.put,fC]at hb
  simp only[St.put,fC]
  split at hb
  ·rename_i e;cases hb;rw[if_pos e];exact⟨p,rfl,ha⟩
  ·rename_i e;rw[if_neg e];exact h.env k b hb
theorem gS.KP {σ:AS} {s:St} (h:gS σ s) (k:Nat) {b:AB} {blk:bh} (hb:gB b blk):gS {σ with bx:=Ab.put σ.bx k b} {s with bx:=Ab.put s.bx k blk}:=by
 refine⟨h.env,λj hj=> ?_,λj c hc=> ?_,h.se,h.sb.put _ _⟩
 ·simp only[fC]at hj⊢
  split at hj
  ·simp at hj
  ·rename_i e;rw[if_neg e];exact h.none j hj
 ·simp only[fC]at hc⊢
  split at hc
  ·rename_i e;cases hc;rw[if_pos e];exact⟨blk,rfl,hb⟩
  ·rename_i e;rw[if_neg e];exact h.bx j c hc
def XV (σ:AS):AX->Option AV
 | .t n=>get σ.env n
 | .c p=>some (FX p)
theorem kM {σ:AS} {s:St} (h:gS σ s) {x:AX} {a:AV} (hx:XV σ x=some a):gm a (vx s x):=by
 cases x with
 |
  t n=>
  obtain⟨p,h1,h2⟩:=h.env n a hx
  simp only[vx,h1,Option.getD_some];exact h2
 |c p=>simp only[XV,sJ]at hx;subst hx;exact xq p
def qd (g:Bool) (σ:AS) (x:AX):Option AV:=
 match XV σ x with
 |some (.gd b v)=>if g&& !b then none else some v
 |some .un=>none
 |r=>r
theorem eu {σ:AS} {s:St} (h:gS σ s) {g:Bool} {x:AX} {a:AV} (hx:qd g σ x=some a):∃p,gm a p∧∀K:PV->Prop,K p->vg g s x K:=by
 unfold qd at hx
 split at hx
 ·rename_i b v hv
  split at hx<;>simp only[sJ,reduceCtorEq]at hx
  rename_i hb
  subst hx
  have:=kM h hv
  unfold vg
  generalize vx s x=q at this
  cases q<;>simp only[gm]at this
  rename_i b' p
  refine⟨p,this.2,λK hK=>⟨λhg=> ?_,hK⟩⟩
  rw[this.1]
  cases b<;>simp_all
 ·simp at hx
 ·rename_i r h1 h2
  have:=kM h hx
  refine⟨vx s x,this,λK hK=> ?_⟩
  unfold vg
  generalize vx s x=q at this hK
  cases q<;>first|exact hK|skip
  cases a<;>simp only[gm]at this
  ·exact absurd hx h2
  all_goals first|exact(h1 _ _ hx).elim|exact absurd this (by simp)
def HN (g:Bool) (σ:AS):List AX->Option (List AV)
 |[]=>some []
 |x::r=>match qd g σ x,HN g σ r with|some a,some l=>some (a::l)|_,_=>none
theorem zo {σ:AS} {s:St} (h:gS σ s) {g:Bool}:∀ {xs:List AX} {l:List AV},HN g σ xs=some l->∃ps,bT l ps∧∀K:List PV->Prop,K ps->tR g s xs K
 |[],l,hx=>by simp only[HN,sJ]at hx;subst hx;exact⟨[],by simp[bT],λK hK=>hK⟩
 |
  x::r,l,hx=>by
  simp only[HN]at hx
  split at hx<;>simp only[sJ,reduceCtorEq]at hx
  rename_i a l' h1 h2
  subst hx
  obtain⟨p,g1,g2⟩:=eu h h1
  obtain⟨ps,g3,g4⟩:=zo h h2
  exact⟨p::ps,by simp[bT,g1,g3],λK hK=>g2 _ (g4 _ hK)⟩
def KQ (g:Bool) (σ:AS):List (Nat×AX)->Option (List (Nat×AV))
 |[]=>some []
 |(i,x)::r=>match qd g σ x,KQ g σ r with|some a,some l=>some ((i,a)::l)|_,_=>none
def mY:List AV->List (Nat×AV)->Option (List AV)
 |l,[]=>some l
 |
  l,(i,p)::r=>match l[i]?with
  |some q=>(match p.width,q.width with|some a,some b=>if a=b∧p.RC=true then mY (l.set i p) r else none|_,_=>none)
  |none=>none
theorem zp {σ:AS} {s:St} (h:gS σ s) {g:Bool}:∀ {xs:List (Nat×AX)} {l:List (Nat×AV)},KQ g σ xs=some l->∃ps:List (Nat×PV),(ps.map (·.1)=l.map (·.1)∧bT (l.map (·.2)) (ps.map (·.2)))∧∀K:List (Nat×PV)->Prop,K ps->za g s xs K
 |[],l,hx=>by simp only[KQ,sJ]at hx;subst hx;exact⟨[],by simp[bT],λK hK=>hK⟩
 |
  (i,x)::r,l,hx=>by
  simp only[KQ]at hx
  split at hx<;>simp only[sJ,reduceCtorEq]at hx
  rename_i a l' h1 h2
  subst hx
  obtain⟨p,g1,g2⟩:=eu h h1
  obtain⟨ps,⟨g3,g5⟩,g4⟩:=zp h h2
  exact⟨(i,p)::ps,by simp[bT,g1,g3,g5],λK hK=>g2 _ (g4 _ hK)⟩
theorem oj:∀ {qs:List (Nat×AV)} {ps:List (Nat×PV)} {l l':List AV} {m:List PV},bT l m->ps.map (·.1)=qs.map (·.1)->bT (qs.map (·.2)) (ps.map (·.2))->mY l qs=some l'->∃m',dT m ps=some m'∧bT l' m'
 |[],[],l,l',m,h,_,_,hs=>by simp only[mY,sJ]at hs;subst hs;exact⟨m,rfl,h⟩
 |[],_::_,_,_,_,_,h,_,_=>by simp at h
 |_::_,[],_,_,_,_,h,_,_=>by simp at h
 |
  (i,a)::qs,(j,p)::ps,l,l',m,h,hi,hg,hs=>by
  simp only[List.map_cons,List.cons.injEq,bT]at hi hg
  obtain⟨rfl,hi⟩:=hi
  simp only[mY]at hs
  split at hs
  ·rename_i q hq
   split at hs
   ·rename_i x y h1 h2
    split at hs
    ·rename_i LX
     obtain⟨q',h3,h4⟩:=h.at hq
     obtain⟨m',h5,h6⟩:=oj (h.set hg.1) hi hg.2 hs
     refine⟨m',?_,h6⟩
     simp only[dT,h3]
     rw[if_pos ⟨by rw[hg.1.width h1,h4.width h2];exact LX.1,hg.1.RC LX.2⟩]
     exact h5
    ·simp at hs
   ·simp at hs
  ·simp at hs
def HO (a b:Option Int) (f:Int->Int->Int):Option Int:=match a,b with|some x,some y=>some (f x y)|_,_=>none
def UP (a b:Option Int) (f:Int->Int->Bool):Option Bool:=match a,b with|some x,some y=>some (f x y)|_,_=>none
def NG (op:BinOp) (k:IntKind) (a b:Option Int):Option AV:=
 match op with
 | .add=>some (.int k (HO a b λx y=>k.wrap (x+y)))
 | .sub=>some (.int k (HO a b λx y=>k.wrap (x-y)))
 | .mul=>some (.int k (HO a b λx y=>k.wrap (x*y)))
 | .quo=>(match b with|some y=>if y≠0 then some (.int k (HO a b λx y=>k.wrap (x.tdiv y)))else none|none=>none)
 | .rem=>(match b with|some y=>if y≠0 then some (.int k (HO a b λx y=>x.tmod y))else none|none=>none)
 | .and=>some (.int k (HO a b λx y=>bits .and k x y))
 | .or=>some (.int k (HO a b λx y=>bits .or k x y))
 | .xor=>some (.int k (HO a b λx y=>bits .xor k x y))
 | .andNot=>some (.int k (HO a b λx y=>bits .andNot k x y))
 | .eql=>some (.bl (UP a b λx y=>x==y))
 | .neq=>some (.bl (UP a b λx y=>x !=y))
 | .lss=>some (.bl (UP a b λx y=>decide (x<y)))
 | .leq=>some (.bl (UP a b λx y=>decide (x≤y)))
 | .gtr=>some (.bl (UP a b λx y=>decide (x>y)))
 | .geq=>some (.bl (UP a b λx y=>decide (x≥y)))
 | .shl=>(match b with|some y=>if 0≤y then some (.int k (HO a b λx y=>k.wrap (x*2^min y.toNat k.bits)))else none|none=>none)
 | .shr=>(match b with|some y=>if 0≤y then some (.int k (HO a b λx y=>x.fdiv (2^min y.toNat k.bits)))else none|none=>none)
theorem HP {a b:Option Int} {x y:Int} {f:Int->Int->Int} (ha:∀z,a=some z->x=z) (hb:∀z,b=some z->y=z):∀z,HO a b f=some z->f x y=z:=by
 intro z hz
 unfold HO at hz
 split at hz<;>simp only[sJ,reduceCtorEq]at hz
 rw[←hz,ha _ rfl,hb _ rfl]
theorem XW {a b:Option Int} {x y:Int} {f:Int->Int->Bool} (ha:∀z,a=some z->x=z) (hb:∀z,b=some z->y=z):∀z,UP a b f=some z->f x y=z:=by
 intro z hz
 unfold UP at hz
 split at hz<;>simp only[sJ,reduceCtorEq]at hz
 rw[←hz,ha _ rfl,hb _ rfl]
theorem nN {k:IntKind} {a:Option Int} {x:Int} (h:∀z,a=some z->x=z):gm (.int k a) (.int k x):=by simp only[gm,true_and];exact h
theorem A6 {a:Option Bool} {x:Bool} (h:∀z,a=some z->x=z):gm (.bl a) (.bl x):=by simp only[gm];exact h
theorem NH {op:BinOp} {k:IntKind} {a b:Option Int} {x y:Int} {r:AV} (ha:∀z,a=some z->x=z) (hb:∀z,b=some z->y=z) (h:NG op k a b=some r):∃p,gm r p∧∀K:PV->Prop,K p->pn op k x y K:=by
 cases op<;>simp only[NG,sJ]at h
 case quo|rem|shl|shr=>
  split at h
  ·rename_i z
   split at h<;>simp only[sJ,reduceCtorEq]at h
   rename_i hz
   subst h
   have:=hb z rfl
   exact⟨_,nN (HP ha hb),λK hK=>⟨by rw[this];exact hz,hK⟩⟩
  ·simp at h
 all_goals
  subst h
  first|exact⟨_,nN (HP ha hb),λK hK=>hK⟩|exact⟨_,A6 (XW ha hb),λK hK=>hK⟩
mutual
def Cc:Sh->AV->Bool
 | .b,.bl _=>true
 | .i k,.int k' _=>decide (k=k')
 | .s,.str _=>true
 | .st l,.st w m=>decide (w=pW l)&&CS l m
 | .ar n e,.ar sz k m=>decide (sz=pj e∧k=n∧m.length=n)&&Jf e m
 |_,_=>false
def CS:List Sh->List AV->Bool
 |[],[]=>true
 |x::l,y::m=>Cc x y&&CS l m
 |_,_=>false
def Jf:Sh->List AV->Bool
 |_,[]=>true
 |e,y::m=>Cc e y&&Jf e m
end
mutual
theorem zq:∀ {x:Sh} {a:AV} {p:PV},gm a p->Cc x a=true->fits x p=true
 | .b,a,p,h,hf=>by cases a<;>simp[Cc]at hf;cases p<;>simp[gm]at h;rfl
 | .i k,a,p,h,hf=>by cases a<;>simp[Cc]at hf;cases p<;>simp[gm]at h;simp[fits,hf,h.1]
 | .s,a,p,h,hf=>by cases a<;>simp[Cc]at hf;cases p<;>simp[gm]at h;rfl
 |
  .st l,a,p,h,hf=>by
  cases a<;>simp only[Cc,aJ,decide_eq_true_eq,reduceCtorEq]at hf
  cases p<;>simp only[gm]at h
  simp[fits,h.1,hf.1,FY h.2 hf.2]
 |
  .ar n e,a,p,h,hf=>by
  cases a<;>simp only[Cc,aJ,decide_eq_true_eq,reduceCtorEq]at hf
  cases p<;>simp only[gm]at h
  have hl:=h.2.length
  simp[fits,h.1.1,h.1.2,hf.1.1,hf.1.2.1,hl,hf.1.2.2,FZ h.2 hf.2]
theorem FY:∀ {l:List Sh} {m:List AV} {ps:List PV},bT m ps->CS l m=true->jd l ps=true
 |[],[],[],_,_=>rfl
 |[],[],_::_,h,_=>by simp[bT]at h
 |[],_::_,_,_,hf=>by simp[CS]at hf
 |_::_,[],_,_,hf=>by simp[CS]at hf
 |_::_,_::_,[],h,_=>by simp[bT]at h
 |
  x::l,y::m,p::ps,h,hf=>by
  simp only[bT]at h
  simp only[CS,aJ]at hf
  simp[jd,zq h.1 hf.1,FY h.2 hf.2]
theorem FZ:∀ {e:Sh} {m:List AV} {ps:List PV},bT m ps->Jf e m=true->lj e ps=true
 |_,[],[],_,_=>rfl
 |_,[],_::_,h,_=>by simp[bT]at h
 |_,_::_,[],h,_=>by simp[bT]at h
 |
  e,y::m,p::ps,h,hf=>by
  simp only[bT]at h
  simp only[Jf,aJ]at hf
  simp[lj,zq h.1 hf.1,FZ h.2 hf.2]
end
def NI (op:BinOp) (eqs:ET) (p q:AV):Option AV:=
 match eqs,p,q with
 | .no,.int k a,.int k' b=>if op= .shl∨op= .shr∨k=k' then NG op k a b else none
 |
  .bl,.bl a,.bl b=>(match op with
  | .eql=>some (.bl (match a,b with|some x,some y=>some (x==y)|_,_=>none))
  | .neq=>some (.bl (match a,b with|some x,some y=>some (!(x==y))|_,_=>none))
  |_=>none)
 | .sh x,p,q=>if Cc x p=true∧Cc x q=true then(match op with| .eql| .neq=>some (.bl none)|_=>none)else none
 |_,_,_=>none
theorem NJ {s:St} {op:BinOp} {e:ET} {a b r:AV} {p q:PV} (ha:gm a p) (hb:gm b q) (h:NI op e a b=some r):∃v,gm r v∧∀K:PV->Prop,K v->qh s op e p q K:=by
 unfold NI at h
 split at h
 ·rename_i k x k' y
  split at h<;>(try simp only[reduceCtorEq]at h)
  rename_i hk
  cases p<;>simp only[gm]at ha
  cases q<;>simp only[gm]at hb
  obtain⟨v,h1,h2⟩:=NH ha.2 hb.2 h
  refine⟨v,?_,λK hK=>⟨?_,?_⟩⟩
  ·exact h1
  ·rw[ha.1,hb.1];exact hk
  ·rw[ha.1];exact h2 K hK
 ·rename_i x y
  cases p<;>simp only[gm]at ha
  cases q<;>simp only[gm]at hb
  rename_i u v
  split at h<;>simp only[sJ,reduceCtorEq]at h
  ·subst h
   refine⟨.bl (u==v),λz hz=> ?_,λK hK=>hK⟩
   split at hz<;>simp only[sJ,reduceCtorEq]at hz
   rw[←hz,ha _ rfl,hb _ rfl]
  ·subst h
   refine⟨.bl (!(u==v)),λz hz=> ?_,λK hK=>hK⟩
   split at hz<;>simp only[sJ,reduceCtorEq]at hz
   rw[←hz,ha _ rfl,hb _ rfl]
 ·rename_i x p' q'
  split at h<;>(try simp only[reduceCtorEq]at h)
  rename_i hf
  have h1:=zq ha hf.1
  have h2:=zq hb hf.2
  split at h<;>simp only[sJ,reduceCtorEq]at h<;>subst h
  ·exact⟨.bl (PV.beq p q),by simp[gm],λK hK=>⟨⟨h1,h2⟩,hK⟩⟩
  ·exact⟨.bl (!PV.beq p q),by simp[gm],λK hK=>⟨⟨h1,h2⟩,hK⟩⟩
 ·simp at h
end Go.Ab
namespace Go.Ab
variable [eE]
variable {P:Program}
def loA (g:Bool) (σ:AS) (x:Option AX) (dflt most:Nat):Option Nat:=
 match x with
 |none=>some dflt
 |
  some x=>match qd g σ x with
  |some (.int _ (some h))=>if 0≤h∧h≤most then some h.toNat else none
  |_=>none
def F0 (g:Bool) (σ:AS) (lo hi:Option AX) (len cap:Nat):Option (Nat×Nat):=
 match loA g σ hi len cap with
 |some h=>(match loA g σ lo 0 h with|some l=>some (l,h)|none=>none)
 |none=>none
theorem om {σ:AS} {s:St} (h:gS σ s) {g:Bool} {x:AX} {k:IntKind} {n:Int} (hx:qd g σ x=some (.int k (some n))):∀K:PV->Prop,K (.int k n)->vg g s x K:=by
 obtain⟨p,h1,h2⟩:=eu h hx
 cases p<;>simp only[gm]at h1
 obtain⟨rfl,h3⟩:=h1
 rw[h3 n rfl]at h2
 exact h2
theorem A7 {σ:AS} {s:St} (h:gS σ s) {g:Bool} {lo hi:Option AX} {len cap a b:Nat} (hx:F0 g σ lo hi len cap=some (a,b)):∀K:Nat->Nat->Prop,K a b->jM g s lo hi len cap K:=by
 intro K hK
 unfold F0 at hx
 split at hx
 ·rename_i h' hh
  split at hx<;>simp only[sJ,Prod.mk.injEq,reduceCtorEq]at hx
  rename_i l' hl
  obtain⟨rfl,rfl⟩:=hx
  have IF:∀J:Nat->Prop,J l'->(match lo with|none=>λ(J:Nat->Prop)=>J 0|some x=>λJ=>vg g s x λp=>mM p λl=>(0≤l∧l≤h')∧J l.toNat) J:=by
   intro J hJ
   cases lo with
   |none=>simp only[loA,sJ]at hl;subst hl;exact hJ
   |
    some x=>
    simp only[loA]at hl
    split at hl
    ·rename_i k n hv
     split at hl<;>simp only[sJ,reduceCtorEq]at hl
     rename_i hc
     subst hl
     exact om h hv _ ⟨hc,hJ⟩
    ·simp at hl
  cases hi with
  |
   none=>
   simp only[loA,sJ]at hh;subst hh
   exact IF _ hK
  |
   some x=>
   simp only[loA]at hh
   split at hh
   ·rename_i k n hv
    split at hh<;>simp only[sJ,reduceCtorEq]at hh
    rename_i hc
    subst hh
    exact om h hv _ ⟨hc,IF _ hK⟩
   ·simp at hh
 ·simp at hx
def F1:List AV->Option (List (Option Int))
 |[]=>some []
 | .int _ n::r=>(match F1 r with|some l=>some (n::l)|none=>none)
 |_=>none
def F2 (mx:Bool):Option Int->List (Option Int)->Option Int
 |a,[]=>a
 |a,b::r=>F2 mx (HO a b λx y=>if mx then max x y else min x y) r
theorem F3 {mx:Bool}:∀ {r:List AV} {l:List (Option Int)} {ps:List PV} {a:Option Int} {x:Int},F1 r=some l->bT r ps->(∀z,a=some z->x=z)->∃y,(∀z,F2 mx a l=some z->y=z)∧∀K:Int->Prop,K y->mh mx x ps K
 |
  [],l,[],a,x,h,_,ha=>by
  simp only[F1,sJ]at h;subst h
  exact⟨x,by simpa only[F2]using ha,λK hK=>hK⟩
 |[],_,_::_,_,_,_,h,_=>by simp[bT]at h
 |_::_,_,[],_,_,_,h,_=>by simp[bT]at h
 |
  b::r,l,p::ps,a,x,h,hg,ha=>by
  cases b<;>simp only[F1,reduceCtorEq]at h
  rename_i k n
  split at h<;>simp only[sJ,reduceCtorEq]at h
  rename_i l' hl
  subst h
  simp only[bT]at hg
  cases p<;>simp only[gm,false_and]at hg
  rename_i k' m
  obtain⟨y,h1,h2⟩:=F3 (mx:=mx) (a:=HO a n λx y=>if mx then max x y else min x y) (x:=if mx then max x m else min x m) hl hg.2 (HP ha hg.1.2)
  exact⟨y,by simpa only[F2]using h1,λK hK=>h2 K hK⟩
def yQ (σ:AS) (k aE:Nat):Option AB:=match get σ.bx k with|some b=>if aE=b.aE then some b else none|none=>none
theorem nn {σ:AS} {s:St} (h:gS σ s) {k aE:Nat} {b:AB} (hb:yQ σ k aE=some b):∃blk,get s.bx k=some blk∧aE=blk.aE∧gB b blk:=by
 unfold yQ at hb
 split at hb
 ·rename_i b' hg
  split at hb<;>simp only[sJ,reduceCtorEq]at hb
  rename_i ht;subst hb
  obtain⟨blk,h1,h2⟩:=h.bx k _ hg
  exact⟨blk,h1,by rw[h2.aE];exact ht,h2⟩
 ·simp at hb
def okW (u:AV) (w:Nat) (agg:Bool):Option AV:=match u.width,u.agg with|some a,some b=>if a=w∧b=agg then some u else none|_,_=>none
theorem HQ {u r:AV} {w:Nat} {agg:Bool} {q:PV} (h:okW u w agg=some r) (hq:gm u q):u=r∧q.width=w∧q.isAgg=agg:=by
 unfold okW at h
 split at h
 ·rename_i a b h1 h2
  split at h<;>simp only[sJ,reduceCtorEq]at h
  rename_i hc
  exact⟨h,by rw[hq.width h1];exact hc.1,by rw[hq.agg h2];exact hc.2⟩
 ·simp at h
def uQ (g:Bool) (σ:AS):AK->Option AV
 | .mv x=>qd g σ x
 |
  .pick c a b=>match qd g σ c,XV σ a,XV σ b with
  |some (.bl x),some (.bl ya),some (.bl yb)=>some (.bl (match x with|some x=>bif x then ya else yb|none=>none))
  |some (.bl x),some (.bl ya),some (.gd gb (.bl yb))=>if gb=true∨x=some true then some (.bl (match x with|some x=>bif x then ya else yb|none=>none))else none
  |some (.bl x),some (.gd ga (.bl ya)),some (.bl yb)=>if ga=true∨x=some false then some (.bl (match x with|some x=>bif x then ya else yb|none=>none))else none
  |some (.bl (some true)),some (.bl ya),some .no=>some (.bl ya)
  |some (.bl (some false)),some .no,some (.bl yb)=>some (.bl yb)
  |_,_,_=>none
 |
  .build z parts=>match KQ g σ parts,FX z with
  |some ps,.st w l=>(match mY l ps with|some l'=>some (.st w l')|none=>none)
  |some ps,.ar sz n l=>(match mY l ps with|some l'=>some (.ar sz n l')|none=>none)
  |_,_=>none
 |
  .load agg w x=>match qd g σ x with
  |some (.pt k p aE)=>(match yQ σ k aE with|some b=>(match yv b p with|some u=>okW u w agg|none=>none)|none=>none)
  |some (.fp sz l p)=>(match yv (.arr sz l) p with|some u=>okW u w agg|none=>none)
  |_=>none
 |
  .nilCheck x=>match qd g σ x with
  |some (.pt k p aE)=>(match yQ σ k aE with|some _=>some (.pt k p aE)|none=>none)
  |some (.fp sz l p)=>some (.fp sz l p)
  |_=>none
 | .bin op eqs x y=>match qd g σ x,qd g σ y with|some p,some q=>NI op eqs p q|_,_=>none
 |
  .un op x=>match op,qd g σ x with
  | .not,some (.bl b)=>some (.bl (b.map λy=> !y))
  | .neg,some (.int k n)=>some (.int k (n.map λy=>k.wrap (0-y)))
  | .xor,some (.int k n)=>some (.int k (n.map λy=>bits .xor k (if k.signed then-1 else k.max) y))
  |_,_=>none
 | .convI k x=>match qd g σ x with|some (.int _ n)=>some (.int k (n.map λy=>k.wrap y))|_=>none
 |
  .slice (.sl sz) x lo hi none=>match qd g σ x with
  |some (.sl bL l clip)=>if bL=sz then(match F0 g σ lo hi l.length l.length with|some (a,b)=>some (.sl sz ((l.take b).drop a) (clip&&decide (b=l.length)))|none=>none)else none
  |
   some (.rs k p off len aE bL c)=>if bL=sz then(match yQ σ k aE with
   |some _=>(match F0 g σ lo hi len (z9 c off len aE)with|some (a,b)=>some (.rs k p (off+a) (b-a) aE sz (Dv c a (decide (b=len))))|none=>none)
   |none=>none)else none
  |_=>none
 |
  .slice (.ar n sz) x lo hi none=>match qd g σ x with
  |
   some (.pt k p aE)=>(match yQ σ k aE with
   |some _=>(match F0 g σ lo hi n n with|some (a,b)=>some (.rs k p a (b-a) aE sz (if b=n then .clip else .any))|none=>none)
   |none=>none)
  |_=>none
 |
  .fieldA i off x=>match qd g σ x with
  |some (.pt k p aE)=>(match yQ σ k aE with|some _=>some (.pt k (p++[.f i off]) aE)|none=>none)
  |some (.fp sz l p)=>some (.fp sz l (p++[.f i off]))
  |_=>none
 |
  .s2a n sz x=>match qd g σ x with
  |some (.sl bL l _)=>if bL=sz∧0<n∧n≤l.length then some (.fp sz l [.w 0 n sz])else none
  |some (.rs k p off len aE bL _)=>(match yQ σ k aE with|some _=>if bL=sz∧0<n∧n≤len then some (.pt k (p++[.w off n sz]) aE)else none|none=>none)
  |_=>none
 |
  .field i off agg w x=>match qd g σ x with
  |some (.st _ l)=>(match l[i]?with|some c=>if XU (l.take i)=some off then okW c w agg else none|none=>none)
  |_=>none
 |
  .indexA (.sl sz) x i=>match qd g σ x,qd g σ i with
  |some (.sl bL l _),some (.int _ (some j))=>if bL=sz∧0≤j∧j<l.length then some (.fp sz l [.i j.toNat sz])else none
  |some (.rs k p off len aE bL _),some (.int _ (some j))=>(match yQ σ k aE with|some _=>if bL=sz∧0≤j∧j<len then some (.pt k (p++[.i (off+j.toNat) sz]) aE)else none|none=>none)
  |_,_=>none
 |
  .indexA (.ar n sz) x i=>match qd g σ x,qd g σ i with
  |some (.pt k p aE),some (.int _ (some j))=>if 0≤j∧j<n then(match yQ σ k aE with|some _=>some (.pt k (p++[.i j.toNat sz]) aE)|none=>none)else none
  |some (.fp bL l p),some (.int _ (some j))=>if 0≤j∧j<n then some (.fp bL l (p++[.i j.toNat sz]))else none
  |_,_=>none
 |
  .index agg n w x i=>match qd g σ x,qd g σ i with
  |some (.ar sz n' l),some (.int _ (some j))=>(match l[j.toNat]?with|some c=>if 0≤j∧j<n∧n'=n∧sz=w∧c.agg=some agg then some c else none|none=>none)
  |_,_=>none
 | .extract i x=>match XV σ x with|some (.tup l)=>l[i]? |_=>none
 |
  .len x=>match qd g σ x with
  |some (.sl _ l _)=>some (.int .i64 (some l.length))
  |some (.rs k _ _ len aE _ _)=>(match yQ σ k aE with|some _=>some (.int .i64 (some len))|none=>none)
  |_=>none
 | .lenS x=>match qd g σ x with|some (.str b)=>some (.int .i64 (some b.length))|_=>none
 | .lenC n=>some (.int .i64 (some n))
 |
  .mm mx xs=>match HN g σ xs with
  |some (.int k a::r)=>(match F1 r with|some l=>some (.int k (F2 mx a l))|none=>none)
  |_=>none
 |_=>none
theorem HR {n:Option Int} {m:Int} {f:Int->Int} (h:∀y,n=some y->m=y):∀z,n.map f=some z->f m=z:=by
 intro z hz
 cases n with
 |none=>simp at hz
 |some y=>simp at hz;rw[h y rfl];exact hz
theorem HS {x ya yb:Option Bool} {u v w:Bool} (hx:∀z,x=some z->u=z) (ha:∀z,ya=some z->v=z) (hb:∀z,yb=some z->w=z):
  ∀z,(match x with|some x=>bif x then ya else yb|none=>none)=some z->(bif u then v else w)=z:=by
 intro z hz
 cases x with
 |none=>simp at hz
 |
  some x=>
  rw[hx x rfl]
  cases x
  ·exact hb z hz
  ·exact ha z hz
theorem XX {l:List AV} {p:PV} (h:gm (.tup l) p):∃m,p= .tup m∧bT l m:=by
 cases p<;>simp only[gm]at h
 exact⟨_,rfl,h⟩
theorem A8 {σ:AS} {s:St} (h:gS σ s) {g:Bool}:∀ {k:AK} {r:AV},uQ g σ k=some r->∃p,gm r p∧∀K:PV->Prop,K p->ev g s k K:=by
 intro k r hr
 cases k with
 |mv x=>exact eu h hr
 |
  pick c a b=>
  simp only[uQ]at hr
  split at hr
  ·rename_i x ya yb h1 h2 h3
   simp only[sJ]at hr;subst hr
   obtain⟨pc,g1,g2⟩:=eu h h1
   have ha:=kM h h2
   have hb:=kM h h3
   cases pc<;>simp only[gm]at g1
   cases PB:vx s a<;>rw[PB]at ha<;>simp only[gm]at ha
   cases PC:vx s b<;>rw[PC]at hb<;>simp only[gm]at hb
   refine⟨_,A6 (HS g1 ha hb),λK hK=>g2 _ ?_⟩
   simp only[PB,PC]
   exact hK
  ·rename_i x ya gb yb h1 h2 h3
   split at hr<;>simp only[sJ,reduceCtorEq]at hr
   rename_i hc
   subst hr
   obtain⟨pc,g1,g2⟩:=eu h h1
   have ha:=kM h h2
   have hb:=kM h h3
   cases pc<;>simp only[gm]at g1
   rename_i u
   cases PB:vx s a<;>rw[PB]at ha<;>simp only[gm]at ha
   cases PC:vx s b<;>rw[PC]at hb<;>simp only[gm]at hb
   rename_i gb' q
   cases q<;>simp only[gm,and_false]at hb
   refine⟨_,A6 (HS g1 ha hb.2),λK hK=>g2 _ ?_⟩
   simp only[PB,PC]
   refine⟨λhu=> ?_,hK⟩
   rcases hc with hc|hc
   ·rw[hb.1];exact hc
   ·have:=g1 true hc;rw[this]at hu;cases hu
  ·rename_i x ga ya yb h1 h2 h3
   split at hr<;>simp only[sJ,reduceCtorEq]at hr
   rename_i hc
   subst hr
   obtain⟨pc,g1,g2⟩:=eu h h1
   have ha:=kM h h2
   have hb:=kM h h3
   cases pc<;>simp only[gm]at g1
   rename_i u
   cases PC:vx s b<;>rw[PC]at hb<;>simp only[gm]at hb
   cases PB:vx s a<;>rw[PB]at ha<;>simp only[gm]at ha
   rename_i ga' q
   cases q<;>simp only[gm,and_false]at ha
   refine⟨_,A6 (HS g1 ha.2 hb),λK hK=>g2 _ ?_⟩
   simp only[PB,PC]
   refine⟨λhu=> ?_,hK⟩
   rcases hc with hc|hc
   ·rw[ha.1];exact hc
   ·have:=g1 false hc;rw[this]at hu;cases hu
  ·rename_i ya h1 h2 h3
   simp only[sJ]at hr;subst hr
   obtain⟨pc,g1,g2⟩:=eu h h1
   have ha:=kM h h2
   have hb:=kM h h3
   cases pc<;>simp only[gm]at g1
   rename_i u
   have hu:=g1 true rfl
   subst hu
   cases PB:vx s a<;>rw[PB]at ha<;>simp only[gm]at ha
   simp only[gm]at hb
   rename_i v
   refine⟨_,A6 ha,λK hK=>g2 _ ?_⟩
   simp only[PB,hb]
   exact⟨by trivial,hK⟩
  ·rename_i yb h1 h2 h3
   simp only[sJ]at hr;subst hr
   obtain⟨pc,g1,g2⟩:=eu h h1
   have ha:=kM h h2
   have hb:=kM h h3
   cases pc<;>simp only[gm]at g1
   rename_i u
   have hu:=g1 false rfl
   subst hu
   cases PC:vx s b<;>rw[PC]at hb<;>simp only[gm]at hb
   simp only[gm]at ha
   refine⟨_,A6 hb,λK hK=>g2 _ ?_⟩
   simp only[PC,ha]
   exact⟨by trivial,hK⟩
  ·simp at hr
 |
  build z parts=>
  simp only[uQ]at hr
  have hz:=xq z
  split at hr
  ·rename_i ps w l h1 h2
   split at hr<;>simp only[sJ,reduceCtorEq]at hr
   rename_i l' h3
   subst hr
   obtain⟨qs,⟨g1,g2⟩,g3⟩:=zp h h1
   rw[h2]at hz
   cases z<;>simp only[gm]at hz
   obtain⟨m',g4,g5⟩:=oj hz.2 g1 g2 h3
   exact⟨.st _ m',by simp only[gm];exact⟨hz.1,g5⟩,λK hK=>g3 _ (by simp only[g4];exact hK)⟩
  ·rename_i ps sz n l h1 h2
   split at hr<;>simp only[sJ,reduceCtorEq]at hr
   rename_i l' h3
   subst hr
   obtain⟨qs,⟨g1,g2⟩,g3⟩:=zp h h1
   rw[h2]at hz
   cases z<;>simp only[gm]at hz
   obtain⟨m',g4,g5⟩:=oj hz.2 g1 g2 h3
   exact⟨.ar _ _ m',by simp only[gm];exact⟨hz.1,g5⟩,λK hK=>g3 _ (by simp only[g4];exact hK)⟩
  ·simp at hr
 |
  load agg w x=>
  simp only[uQ]at hr
  split at hr
  ·rename_i k p aE h1
   split at hr
   ·rename_i b hb
    split at hr
    ·rename_i u hu
     obtain⟨q,g1,g2⟩:=eu h h1
     simp only[gm]at g1;subst g1
     obtain⟨blk,b1,b2,b3⟩:=nn h hb
     obtain⟨v,c1,c2⟩:=FU b3 hu
     obtain⟨rfl,d1,d2⟩:=HQ hr c2
     exact⟨v,c2,λK hK=>g2 _ (by simp only[b1,c1];exact⟨⟨b2,d1,d2⟩,hK⟩)⟩
    ·simp at hr
   ·simp at hr
  ·rename_i sz l p h1
   split at hr
   ·rename_i u hu
    obtain⟨q,g1,g2⟩:=eu h h1
    cases q<;>simp only[gm]at g1
    obtain⟨⟨rfl,rfl⟩,g3⟩:=g1
    rename_i sz m p
    obtain⟨v,c1,c2⟩:=FU (p:= .arr sz m) (a:= .arr sz l) (by simp only[gB];exact⟨trivial,g3⟩) hu
    obtain⟨rfl,d1,d2⟩:=HQ hr c2
    exact⟨v,c2,λK hK=>g2 _ (by simp only[c1];exact⟨⟨d1,d2⟩,hK⟩)⟩
   ·simp at hr
  ·simp at hr
 |
  nilCheck x=>
  simp only[uQ]at hr
  split at hr
  ·rename_i k p aE h1
   split at hr<;>simp only[sJ,reduceCtorEq]at hr
   rename_i b hb
   subst hr
   obtain⟨q,g1,g2⟩:=eu h h1
   simp only[gm]at g1;subst g1
   obtain⟨blk,b1,b2,b3⟩:=nn h hb
   exact⟨.pt k p aE,by simp only[gm],λK hK=>g2 _ (by simp only[b1];exact⟨b2,hK⟩)⟩
  ·rename_i sz l p h1
   simp only[sJ]at hr;subst hr
   obtain⟨q,g1,g2⟩:=eu h h1
   have g1':=g1
   cases q<;>simp only[gm]at g1
   exact⟨_,g1',λK hK=>g2 _ hK⟩
  ·simp at hr
 |
  bin op eqs x y=>
  simp only[uQ]at hr
  split at hr
  ·rename_i p q h1 h2
   obtain⟨u,g1,g2⟩:=eu h h1
   obtain⟨v,g3,g4⟩:=eu h h2
   obtain⟨w,g5,g6⟩:=NJ (s:=s) g1 g3 hr
   exact⟨w,g5,λK hK=>g2 _ (g4 _ (g6 K hK))⟩
  ·simp at hr
 |
  un op x=>
  simp only[uQ]at hr
  split at hr
  ·rename_i b h1
   simp only[sJ]at hr;subst hr
   obtain⟨u,g1,g2⟩:=eu h h1
   cases u<;>simp only[gm]at g1
   rename_i x
   refine⟨.bl (!x),A6 λz hz=> ?_,λK hK=>g2 _ hK⟩
   cases b with
   |none=>simp at hz
   |some y=>rw[g1 y rfl];simpa using hz
  ·rename_i k n h1
   simp only[sJ]at hr;subst hr
   obtain⟨u,g1,g2⟩:=eu h h1
   cases u<;>simp only[gm]at g1
   obtain⟨rfl,g1⟩:=g1
   exact⟨_,nN (HR g1),λK hK=>g2 _ hK⟩
  ·rename_i k n h1
   simp only[sJ]at hr;subst hr
   obtain⟨u,g1,g2⟩:=eu h h1
   cases u<;>simp only[gm]at g1
   obtain⟨rfl,g1⟩:=g1
   exact⟨_,nN (HR g1),λK hK=>g2 _ hK⟩
  ·simp at hr
 |
  convI k x=>
  simp only[uQ]at hr
  split at hr<;>simp only[sJ,reduceCtorEq]at hr
  rename_i k' n h1
  subst hr
  obtain⟨u,g1,g2⟩:=eu h h1
  cases u<;>simp only[gm]at g1
  exact⟨_,nN (HR g1.2),λK hK=>g2 _ hK⟩
 |
  slice kd x lo hi mx=>
  cases mx with
  |some m=>cases kd<;>simp[uQ]at hr
  |
   none=>
   cases kd with
   |str=>simp[uQ]at hr
   |
    sl sz=>
    simp only[uQ]at hr
    split at hr
    ·rename_i bL l clip h1
     split at hr
     ·rename_i hs
      split at hr<;>simp only[sJ,reduceCtorEq]at hr
      rename_i a b hl
      subst hr hs
      obtain⟨u,g1,g2⟩:=eu h h1
      cases u<;>simp only[gm]at g1
      obtain⟨⟨rfl,rfl⟩,g3⟩:=g1
      rename_i sz m c
      have hlen:=g3.length
      refine⟨.sl sz ((m.take b).drop a) (c&&decide (b=m.length)),?_,λK hK=>g2 _ ?_⟩
      ·simp only[gm,hlen,true_and]
       first|exact(g3.take b).drop a|exact⟨trivial,(g3.take b).drop a⟩
      ·simp only
       rw[hlen]
       refine A7 h hl _ ⟨by trivial,?_⟩
       rw[←hlen];exact hK
     ·simp at hr
    ·rename_i k p off len aE bL c h1
     split at hr
     ·rename_i hs
      split at hr
      ·rename_i bb hb
       split at hr<;>simp only[sJ,reduceCtorEq]at hr
       rename_i a b hl
       subst hr hs
       obtain⟨u,g1,g2⟩:=eu h h1
       simp only[gm]at g1;subst g1
       obtain⟨blk,b1,b2,b3⟩:=nn h hb
       refine⟨.rs _ _ _ _ _ _ _,by simp only[gm];rfl,λK hK=>g2 _ ?_⟩
       simp only[b1]
       exact⟨⟨b2,by trivial⟩,A7 h hl _ hK⟩
      ·simp at hr
     ·simp at hr
    ·simp at hr
   |
    ar n sz=>
    simp only[uQ]at hr
    split at hr
    ·rename_i k p aE h1
     split at hr
     ·rename_i bb hb
      split at hr<;>simp only[sJ,reduceCtorEq]at hr
      rename_i a b hl
      subst hr
      obtain⟨u,g1,g2⟩:=eu h h1
      simp only[gm]at g1;subst g1
      obtain⟨blk,b1,b2,b3⟩:=nn h hb
      refine⟨.rs _ _ _ _ _ _ _,by simp only[gm];rfl,λK hK=>g2 _ ?_⟩
      simp only[b1]
      exact⟨b2,by trivial,A7 h hl _ hK⟩
     ·simp at hr
    ·simp at hr
 |
  fieldA i off x=>
  simp only[uQ]at hr
  split at hr
  ·rename_i k p aE h1
   split at hr<;>simp only[sJ,reduceCtorEq]at hr
   rename_i b hb
   subst hr
   obtain⟨q,g1,g2⟩:=eu h h1
   simp only[gm]at g1;subst g1
   obtain⟨blk,b1,b2,b3⟩:=nn h hb
   exact⟨.pt k (p++[.f i off]) aE,by simp only[gm],λK hK=>g2 _ (by simp only[b1];exact⟨b2,hK⟩)⟩
  ·rename_i sz l p h1
   simp only[sJ]at hr;subst hr
   obtain⟨q,g1,g2⟩:=eu h h1
   cases q<;>simp only[gm]at g1
   rename_i bL m p'
   refine⟨.fp bL m (p'++[.f i off]),by simp only[gm];exact⟨⟨g1.1.1,by rw[g1.1.2]⟩,g1.2⟩,λK hK=>g2 _ hK⟩
  ·simp at hr
 |
  s2a n sz x=>
  simp only[uQ]at hr
  split at hr
  ·rename_i bL l c h1
   split at hr<;>simp only[sJ,reduceCtorEq]at hr
   rename_i hc
   subst hr
   obtain⟨q,g1,g2⟩:=eu h h1
   cases q<;>simp only[gm]at g1
   have hlen:=g1.2.length
   rename_i sz2 m c2
   refine⟨.fp sz m [.w 0 n sz],by simp only[gm];exact⟨⟨trivial,trivial⟩,g1.2⟩,λK hK=>g2 _ ?_⟩
   exact⟨⟨g1.1.1.trans hc.1,hc.2.1,by rw[hlen];exact hc.2.2⟩,hK⟩
  ·rename_i k p off len aE bL c h1
   split at hr
   ·rename_i b hb
    split at hr<;>simp only[sJ,reduceCtorEq]at hr
    rename_i hc
    subst hr
    obtain⟨q,g1,g2⟩:=eu h h1
    simp only[gm]at g1;subst g1
    obtain⟨blk,b1,b2,b3⟩:=nn h hb
    exact⟨.pt k (p++[.w off n sz]) aE,by simp only[gm],λK hK=>g2 _ (by simp only[b1];exact⟨⟨b2,hc.1,hc.2.1,hc.2.2⟩,hK⟩)⟩
   ·simp at hr
  ·simp at hr
 |
  field i off agg w x=>
  simp only[uQ]at hr
  split at hr
  ·rename_i w' l h1
   split at hr
   ·rename_i c hc
    split at hr
    ·rename_i ho
     obtain⟨q,g1,g2⟩:=eu h h1
     cases q<;>simp only[gm]at g1
     obtain⟨v,c1,c2⟩:=g1.2.at hc
     obtain⟨rfl,d1,d2⟩:=HQ hr c2
     exact⟨v,c2,λK hK=>g2 _ (by simp only[c1];exact⟨⟨(g1.2.take i).az ho,d1,d2⟩,hK⟩)⟩
    ·simp at hr
   ·simp at hr
  ·simp at hr
 |
  indexA kd x i=>
  cases kd with
  |str=>simp[uQ]at hr
  |
   sl sz=>
   simp only[uQ]at hr
   split at hr
   ·rename_i bL l c k' j h1 h2
    split at hr<;>simp only[sJ,reduceCtorEq]at hr
    rename_i hc
    subst hr
    obtain⟨q,g1,g2⟩:=eu h h1
    have g3:=om h h2
    cases q<;>simp only[gm]at g1
    have hlen:=g1.2.length
    rename_i sz2 m c2
    refine⟨.fp sz m [.i j.toNat sz],by simp only[gm];exact⟨⟨trivial,trivial⟩,g1.2⟩,λK hK=>g2 _ (g3 _ ?_)⟩
    exact⟨⟨g1.1.1.trans hc.1,hc.2.1,by rw[hlen];exact hc.2.2⟩,hK⟩
   ·rename_i k p off len aE bL c k' j h1 h2
    split at hr
    ·rename_i b hb
     split at hr<;>simp only[sJ,reduceCtorEq]at hr
     rename_i hc
     subst hr
     obtain⟨q,g1,g2⟩:=eu h h1
     have g3:=om h h2
     simp only[gm]at g1;subst g1
     obtain⟨blk,b1,b2,b3⟩:=nn h hb
     refine⟨.pt _ _ _,by simp only[gm];rfl,λK hK=>g2 _ (g3 _ ?_)⟩
     simp only[mM,b1]
     exact⟨⟨b2,hc⟩,hK⟩
    ·simp at hr
   ·simp at hr
  |
   ar n sz=>
   simp only[uQ]at hr
   split at hr
   ·rename_i k p aE k' j h1 h2
    split at hr
    ·rename_i hc
     split at hr<;>simp only[sJ,reduceCtorEq]at hr
     rename_i b hb
     subst hr
     obtain⟨q,g1,g2⟩:=eu h h1
     have g3:=om h h2
     simp only[gm]at g1;subst g1
     obtain⟨blk,b1,b2,b3⟩:=nn h hb
     refine⟨.pt _ _ _,by simp only[gm];rfl,λK hK=>g2 _ (g3 _ ?_)⟩
     simp only[mM,b1]
     exact⟨hc,b2,hK⟩
    ·simp at hr
   ·rename_i bL l p k' j h1 h2
    split at hr<;>simp only[sJ,reduceCtorEq]at hr
    rename_i hc
    subst hr
    obtain⟨q,g1,g2⟩:=eu h h1
    have g3:=om h h2
    cases q<;>simp only[gm]at g1
    rename_i sz2 m p2
    refine⟨.fp sz2 m (p2++[.i j.toNat sz]),by simp only[gm];exact⟨⟨g1.1.1,by rw[g1.1.2]⟩,g1.2⟩,λK hK=>g2 _ (g3 _ ⟨hc,hK⟩)⟩
   ·simp at hr
 |
  index agg n w x i=>
  simp only[uQ]at hr
  split at hr
  ·rename_i sz n' l k' j h1 h2
   split at hr
   ·rename_i c hc
    split at hr<;>simp only[sJ,reduceCtorEq]at hr
    rename_i ho
    subst hr
    obtain⟨q,g1,g2⟩:=eu h h1
    have g3:=om h h2
    cases q<;>simp only[gm]at g1
    obtain⟨v,c1,c2⟩:=g1.2.at hc
    refine⟨v,c2,λK hK=>g2 _ (g3 _ ?_)⟩
    simp only[mM,c1]
    exact⟨⟨ho.1,ho.2.1,by rw[g1.1.2];exact ho.2.2.1,by rw[g1.1.1];exact ho.2.2.2.1,c2.agg ho.2.2.2.2⟩,hK⟩
   ·simp at hr
  ·simp at hr
 |
  extract i x=>
  simp only[uQ]at hr
  split at hr
  ·rename_i l h1
   obtain⟨m,g1,g2⟩:=XX (kM h h1)
   obtain⟨v,c1,c2⟩:=g2.at hr
   exact⟨v,c2,λK hK=>by simp only[ev,g1,c1];exact hK⟩
  ·simp at hr
 |
  len x=>
  simp only[uQ]at hr
  split at hr
  ·rename_i sz l c h1
   simp only[sJ]at hr;subst hr
   obtain⟨q,g1,g2⟩:=eu h h1
   cases q<;>simp only[gm]at g1
   exact⟨_,nN (λz hz=>by cases hz;rw[g1.2.length]),λK hK=>g2 _ hK⟩
  ·rename_i k p off len aE sz c h1
   split at hr<;>simp only[sJ,reduceCtorEq]at hr
   rename_i b hb
   subst hr
   obtain⟨q,g1,g2⟩:=eu h h1
   simp only[gm]at g1;subst g1
   obtain⟨blk,b1,b2,b3⟩:=nn h hb
   exact⟨_,nN (λz hz=>by cases hz;rfl),λK hK=>g2 _ (by simp only[b1];exact⟨b2,hK⟩)⟩
  ·simp at hr
 |
  lenS x=>
  simp only[uQ]at hr
  split at hr<;>simp only[sJ,reduceCtorEq]at hr
  rename_i b h1
  subst hr
  obtain⟨q,g1,g2⟩:=eu h h1
  cases q<;>simp only[gm]at g1
  subst g1
  exact⟨_,nN (λz hz=>by cases hz;rfl),λK hK=>g2 _ hK⟩
 |
  lenC n=>
  simp only[uQ,sJ]at hr;subst hr
  exact⟨_,nN (λz hz=>by cases hz;rfl),λK hK=>hK⟩
 |
  mm mx xs=>
  simp only[uQ]at hr
  split at hr
  ·rename_i k a r' h1
   split at hr<;>simp only[sJ,reduceCtorEq]at hr
   rename_i l hl
   subst hr
   obtain⟨ps,g1,g2⟩:=zo h h1
   cases ps<;>simp only[bT]at g1
   rename_i p ps
   cases p<;>simp only[gm,false_and]at g1
   obtain⟨⟨rfl,g3⟩,g4⟩:=g1
   obtain⟨y,d1,d2⟩:=F3 (mx:=mx) hl g4 g3
   exact⟨_,nN d1,λK hK=>g2 _ (d2 _ hK)⟩
  ·simp at hr
 |_=>simp[uQ]at hr
end Go.Ab
namespace Go.Ab
variable [eE]
variable {P:Program}
mutual
def pZ:AV->AV
 | .sl sz l _=> .sl sz (Cd l) false
 | .st w l=> .st w (Cd l)
 | .ar z n l=> .ar z n (Cd l)
 | .tup l=> .tup (Cd l)
 |p=>p
def Cd:List AV->List AV
 |[]=>[]
 |p::l=>pZ p::Cd l
end
mutual
theorem vL:∀ {a:AV} {p:PV},gm a p->gm (pZ a) (wk p)
 | .un,p,_=>by simp[pZ,gm]
 | .no,p,h=>by simp only[gm]at h;subst h;simp[pZ,wk,gm]
 | .bl _,p,h=>by cases p<;>simp only[gm]at h;simpa only[pZ,wk,gm]using h
 | .int _ _,p,h=>by cases p<;>simp only[gm]at h;simpa only[pZ,wk,gm]using h
 | .str _,p,h=>by cases p<;>simp only[gm]at h;simpa only[pZ,wk,gm]using h
 | .st _ l,p,h=>by cases p<;>simp only[gm]at h;simp only[pZ,wk,gm];exact⟨h.1,rz h.2⟩
 | .ar _ _ l,p,h=>by cases p<;>simp only[gm]at h;simp only[pZ,wk,gm];exact⟨h.1,rz h.2⟩
 | .tup l,p,h=>by cases p<;>simp only[gm]at h;simp only[pZ,wk,gm];exact rz h
 | .sl _ l _,p,h=>by cases p<;>simp only[gm]at h;simp only[pZ,wk,gm];exact⟨⟨h.1.1,trivial⟩,rz h.2⟩
 | .rs ..,p,h=>by simp only[gm]at h;subst h;simp[pZ,wk,gm]
 | .pt ..,p,h=>by simp only[gm]at h;subst h;simp[pZ,wk,gm]
 | .np,p,h=>by simp only[gm]at h;subst h;simp[pZ,wk,gm]
 | .fp ..,p,h=>by cases p<;>simp only[gm]at h;simpa only[pZ,wk,gm]using h
 | .gd ..,p,h=>by cases p<;>simp only[gm]at h;simpa only[pZ,wk,gm]using h
theorem rz:∀ {l:List AV} {m:List PV},bT l m->bT (Cd l) (jO m)
 |[],[],_=>by simp[Cd,jO,bT]
 |[],_::_,h=>by simp[bT]at h
 |_::_,[],h=>by simp[bT]at h
 |a::l,p::m,h=>by simp only[bT]at h;simp[Cd,jO,bT,vL h.1,rz h.2]
end
def agb:AB->AV->AV
 | .arr _ _,v=>pZ v
 | .box _,v=>v
theorem RD {b:AB} {blk:bh} {a:AV} {p:PV} (hb:gB b blk) (h:gm a p):gm (agb b a) (Ue blk p):=by
 cases b<;>cases blk<;>simp only[gB]at hb
 ·exact h
 ·exact vL h
def qw (σ:AS):AV->Option (Nat×List AV)
 | .sl sz l _=>some (sz,l)
 |
  .rs k p off len aE sz _=>match get σ.bx k with
  |some (.arr bL l)=>if aE=l.length∧p=[]∧sz=bL∧off+len≤l.length then some (sz,(l.drop off).take len)else none
  |some (.box v)=>(match xp v p with|some (.ar bL n l)=>if aE=0∧sz=bL∧off+len≤n then some (sz,(l.drop off).take len)else none|_=>none)
  |none=>none
 |_=>none
theorem yw {σ:AS} {s:St} (h:gS σ s) {a:AV} {p:PV} (hp:gm a p) {sz:Nat} {l:List AV} (hc:qw σ a=some (sz,l)):∃m,bT l m∧∀K:Nat->List PV->Prop,K sz m->content s p K:=by
 cases a<;>simp only[qw,reduceCtorEq,sJ,Prod.mk.injEq]at hc
 ·cases p<;>simp only[gm]at hp
  obtain⟨rfl,rfl⟩:=hc
  exact⟨_,hp.2,λK hK=>by rw[←hp.1.1]at hK;exact hK⟩
 ·simp only[gm]at hp;subst hp
  split at hc
  ·rename_i bL l' hb
   split at hc<;>simp only[sJ,Prod.mk.injEq,reduceCtorEq]at hc
   rename_i ho
   obtain⟨rfl,rfl⟩:=hc
   obtain⟨blk,h1,h2⟩:=h.bx _ _ hb
   cases blk<;>simp only[gB]at h2
   have hl:=h2.2.length
   refine⟨_,(h2.2.drop _).take _,λK hK=> ?_⟩
   simp only[content,h1]
   exact⟨⟨by rw[hl];exact ho.1,ho.2.1,by rw[h2.1];exact ho.2.2.1,by rw[hl];exact ho.2.2.2⟩,hK⟩
  ·rename_i v hb
   split at hc
   ·rename_i bL n l' hg
    split at hc<;>simp only[sJ,Prod.mk.injEq,reduceCtorEq]at hc
    rename_i ho
    obtain⟨rfl,rfl⟩:=hc
    obtain⟨blk,h1,h2⟩:=h.bx _ _ hb
    cases blk<;>simp only[gB]at h2
    obtain⟨q,g1,g2⟩:=pH h2 hg
    cases q<;>simp only[gm]at g2
    refine⟨_,(g2.2.drop _).take _,λK hK=> ?_⟩
    simp only[content,h1,g1]
    exact⟨⟨ho.1,by rw[g2.1.1];exact ho.2.1,by rw[g2.1.2];exact ho.2.2⟩,hK⟩
   ·simp at hc
  ·simp at hc
def NK (σ:AS) (str:Bool) (sz:Nat) (q:AV):Option (List AV):=
 if str then(match q with| .str bs=>if sz=1 then some (bs.map λb=> .int .u8 (some b.toNat))else none|_=>none)
 else match qw σ q with|some (bL,ys)=>if ys.isEmpty=true∨bL=sz then some ys else none|none=>none
theorem Jg (bs:List UInt8):bT (bs.map λb=>AV.int .u8 (some (b.toNat:Int))) (bs.map u8):=by
 induction bs with
 |nil=>simp[bT]
 |cons b bs ih=>simp[bT,gm,u8,ih]
theorem Jh {σ:AS} {s:St} (h:gS σ s) {str:Bool} {sz:Nat} {a:AV} {p:PV} (hp:gm a p) {l:List AV} (hc:NK σ str sz a=some l):∃m,bT l m∧∀K:List PV->Prop,K m->src s str sz p K:=by
 unfold NK at hc
 split at hc
 ·rename_i hs
  split at hc<;>(try simp only[reduceCtorEq]at hc)
  rename_i bs
  split at hc<;>simp only[sJ,reduceCtorEq]at hc
  rename_i h1
  subst hc h1
  cases p<;>simp only[gm]at hp
  subst hp
  exact⟨_,Jg _,λK hK=>by unfold src;rw[if_pos hs];exact⟨rfl,hK⟩⟩
 ·rename_i hs
  split at hc<;>(try simp only[reduceCtorEq]at hc)
  rename_i bL ys hy
  split at hc<;>simp only[sJ,reduceCtorEq]at hc
  rename_i ho
  subst hc
  obtain⟨m,g1,g2⟩:=yw h hp hy
  refine⟨m,g1,λK hK=> ?_⟩
  unfold src
  rw[if_neg hs]
  refine g2 _ ⟨?_,hK⟩
  rcases ho with ho|ho
  ·left
   have:=g1.length
   rw[List.isEmpty_iff.1 ho]at this
   exact List.length_eq_zero_iff.1 this
  ·exact .inr ho
def L7 (σ:AS) (d:Option Nat):AK->Option AS
 | .alloc z=>match d with|some k=>if(get σ.bx k).isNone=true then some {env:=put σ.env k (.pt k [] 0),bx:=put σ.bx k (.box (FX z))}else none|none=>none
 | .box x=>match d,qd true σ x with|some k,some a=>if(get σ.bx k).isNone=true∧a.RC=true then some {env:=put σ.env k (.pt k [] 0),bx:=put σ.bx k (.box a)}else none|_,_=>none
 |
  .store n x y=>match qd true σ x,qd true σ y with
  |
   some (.pt k pth aE),some v=>(match yQ σ k aE with
   |some b=>(match A5 b pth (agb b v)with|some b'=>if v.width=some n∧v.RC=true then some {σ with bx:=put σ.bx k b'}else none|none=>none)
   |none=>none)
  |_,_=>none
 |
  .buildSlice own sz z n parts=>match KQ true σ parts with
  |
   some ps=>(match mY (List.replicate n (FX z)) (ps.map λx=>(x.1,pZ x.2))with
   |some l=>if own=true then(match d with
     |some k=>if(get σ.bx k).isNone=true then some {env:=put σ.env k (.rs k [] 0 n n sz .tip),bx:=put σ.bx k (.arr sz l)}else none
     |none=>none)else some (σ.put d (.sl sz l true))
   |none=>none)
  |none=>none
 |
  .makeSlice sz bytes z len cap=>match d,qd true σ len,qd true σ cap with
  |some k,some (.int _ (some l)),some (.int _ (some c))=>if(get σ.bx k).isNone=true∧0≤l∧l≤c∧c*bytes≤281474976710656∧c≤9223372036854775807 then
    some {env:=put σ.env k (.rs k [] 0 l.toNat l.toNat sz .tip),bx:=put σ.bx k (.arr sz (List.replicate l.toNat (FX z)))}else none
  |_,_,_=>none
 |
  .append sz bytes str x y=>match d,qd true σ x,qd true σ y with
  |
   some d,some p,some q=>(match NK σ str sz q with
   |
    some ys=>(match p with
    | .sl sz0 l true=>if(get σ.bx d).isNone=true∧(l.isEmpty=true∨(sz0=sz∧ys.isEmpty=false))∧(l.length+ys.length)*bytes≤140737488355328∧l.length+ys.length≤9223372036854775807 then
      some {env:=put σ.env d (.rs d [] 0 (l.length+ys.length) (l.length+ys.length) sz .tip),bx:=put σ.bx d (.arr sz (l++ys))}else none
    |
     .rs k [] 0 len aE bL .tip=>(match get σ.bx k with
     |
      some (.arr sz'' l)=>if aE=l.length∧len=l.length∧bL=sz∧sz''=sz∧(l.length+ys.length)*bytes≤140737488355328∧l.length+ys.length≤9223372036854775807 then
      some {env:=put σ.env d (.rs k [] 0 (l.length+ys.length) (l.length+ys.length) sz .tip),bx:=put σ.bx k (.arr sz (l++ys))}else none
     |_=>none)
    |_=>none)
   |none=>none)
  |_,_,_=>none
 |
  .copy sz x y=>match qd true σ x,qd true σ y with
  |
   some (.rs k pth off len aE bL _),some q=>(match NK σ (match q with| .str _=>true|_=>false) sz q with
   |
    some ys=>(match get σ.bx k with
    |some (.arr sz'' l)=>if aE=l.length∧pth=[]∧bL=sz∧sz''=sz∧off+len≤l.length then
      some (AS.put {σ with bx:=put σ.bx k (.arr sz (l.take off++ys.take (min ys.length len)++l.drop (off+min ys.length len)))} d (.int .i64 (some (min ys.length len:Nat))))else none
    |
     some (.box v)=>(match xp v pth with
     |
      some (.ar sz'' n l)=>(match Cb v pth (.ar sz'' n (l.take off++ys.take (min ys.length len)++l.drop (off+min ys.length len)))with
      |some v'=>if aE=0∧bL=sz∧sz''=sz∧off+len≤n then some (AS.put {σ with bx:=put σ.bx k (.box v')} d (.int .i64 (some (min ys.length len:Nat))))else none
      |none=>none)
     |_=>none)
    |none=>none)
   |none=>none)
  |_,_=>none
 |
  .convL x=>match qd true σ x with
  |
   some (.rs k pth off len aE sz c)=>(match get σ.bx k with
   |some (.arr bL l)=>if pth=[]∧off=0∧sz=1∧bL=1∧c= .tip∧len=l.length∧aE=l.length∧l.isEmpty=false∧l.all AV.isNum=true then
     some (AS.put {σ with bx:=put σ.bx k (.arr 1 (l++[.int .u8 (some 0)]))} d (.sl 1 l false))else none
   |_=>none)
  |_=>none
 | .convB x=>match qd true σ x with|some (.str bs)=>some (σ.put d (.sl 1 (bs.map λb=> .int .u8 (some b.toNat)) false))|_=>none
 |_=>none
def dk:Option Nat->List Nat
 |some d=>[d]
 |none=>[]
def KR (σ:AS) (d:Option Nat):AK->List Nat
 | .store _ x _=>match qd true σ x with|some (.pt k _ _)=>[k]|_=>[]
 | .append _ _ _ x _=>match qd true σ x with|some (.rs k _ _ _ _ _ _)=>[k]|_=>dk d
 | .copy _ x _=>match qd true σ x with|some (.rs k _ _ _ _ _ _)=>[k]|_=>[]
 | .convL x=>match qd true σ x with|some (.rs k _ _ _ _ _ _)=>[k]|_=>[]
 | .buildSlice own .. =>if own=true then dk d else []
 | .alloc _| .box _| .makeSlice .. | .call .. =>dk d
 |_=>[]
def Kp (l:List Nat) (s s':St):Prop:=∀k,k∉l->get s'.bx k=get s.bx k
theorem Kp.new {s:St} {k:Nat} {e:List (Nat×PV)} {b:bh}:Kp [k] s {env:=e,bx:=Ab.put s.bx k b}:=by
 intro j hj
 simp only[fC]
 rw[if_neg]
 rintro rfl;simp at hj
theorem Kp.same {s:St} {l:List Nat} {d:Option Nat} {p:PV}:Kp l s (s.put d p):=by cases d<;>exact λ_ _=>rfl
theorem Kp.put {s s':St} {l:List Nat} {d:Option Nat} {p:PV} (h:Kp l s s'):Kp l s (s'.put d p):=by cases d<;>exact h
theorem gS.new {σ:AS} {s:St} (h:gS σ s) (k:Nat) {a:AV} {p:PV} {b:AB} {blk:bh} (ha:gm a p) (hb:gB b blk):gS {env:=Ab.put σ.env k a,bx:=Ab.put σ.bx k b} {env:=Ab.put s.env k p,bx:=Ab.put s.bx k blk}:=
 (h.KP k hb).put (some k) ha
theorem mA {α:Type} {o:Option α} (h:o.isNone=true):o=none:=by cases o<;>simp_all
theorem F4:∀ {l:List AV} {m:List PV},bT l m->l.all AV.isNum=true->m.all PV.isNum=true
 |[],[],_,_=>rfl
 |[],_::_,h,_=>by simp[bT]at h
 |_::_,[],h,_=>by simp[bT]at h
 |
  a::l,p::m,h,hn=>by
  simp only[bT]at h
  simp only[List.all_cons,aJ]at hn⊢
  refine⟨?_,F4 h.2 hn.2⟩
  cases a<;>simp[AV.isNum]at hn
  cases p<;>simp[gm]at h
  rfl
theorem XY {σ σ':AS} {s:St} (h:gS σ s) {d:Option Nat} {k:AK} (hr:L7 σ d k=some σ'):∃s',gS σ' s'∧Kp (KR σ d k) s s'∧∀K:St->Prop,K s'->ex s d k K:=by
 cases k with
 |
  alloc z=>
  simp only[L7]at hr
  split at hr<;>(try simp only[reduceCtorEq]at hr)
  split at hr<;>simp only[sJ,reduceCtorEq]at hr
  rename_i k hn
  subst hr
  exact⟨_,h.new k (p:= .pt k [] 0) (by simp only[gm]) (b:= .box (FX z)) (blk:= .box z) (by simp only[gB];exact xq z),Kp.new,λK hK=>⟨h.none k (mA hn),hK⟩⟩
 |
  box x=>
  simp only[L7]at hr
  split at hr<;>(try simp only[reduceCtorEq]at hr)
  rename_i k a h1
  split at hr<;>simp only[sJ,reduceCtorEq]at hr
  rename_i hn
  subst hr
  obtain⟨p,g1,g2⟩:=eu h h1
  exact⟨_,h.new k (p:= .pt k [] 0) (by simp only[gm]) (b:= .box a) (blk:= .box p) (by simp only[gB];exact g1),Kp.new,λK hK=>g2 _ ⟨⟨h.none k (mA hn.1),g1.RC hn.2⟩,hK⟩⟩
 |
  store n x y=>
  simp only[L7]at hr
  split at hr<;>(try simp only[reduceCtorEq]at hr)
  rename_i k pth aE v h1 h2
  split at hr<;>(try simp only[reduceCtorEq]at hr)
  rename_i b hb
  split at hr<;>(try simp only[reduceCtorEq]at hr)
  rename_i b' rX
  split at hr<;>simp only[sJ,reduceCtorEq]at hr
  rename_i hn
  subst hr
  obtain⟨p,g1,g2⟩:=eu h h1
  simp only[gm]at g1;subst g1
  obtain⟨q,g3,g4⟩:=eu h h2
  obtain⟨blk,b1,b2,b3⟩:=nn h hb
  obtain⟨cI,c1,c2⟩:=NF b3 (RD b3 g3) rX
  refine⟨_,h.KP k c2,by simp only[KR,h1];exact Kp.new,λK hK=>g2 _ (g4 _ ?_)⟩
  simp only[b1,c1]
  exact⟨⟨b2,g3.width hn.1,g3.RC hn.2⟩,hK⟩
 |
  buildSlice own sz z n parts=>
  simp only[L7]at hr
  split at hr<;>(try simp only[reduceCtorEq]at hr)
  rename_i ps h1
  split at hr<;>(try simp only[reduceCtorEq]at hr)
  rename_i l hl
  obtain⟨qs,⟨g1,g2⟩,g3⟩:=zp h h1
  have Mc:∀ {as:List (Nat×AV)} {bs:List (Nat×PV)},bT (as.map (·.2)) (bs.map (·.2))->bT ((as.map λx=>(x.1,pZ x.2)).map (·.2)) ((bs.map λx=>(x.1,wk x.2)).map (·.2)):=by
   intro as
   induction as with
   |nil=>intro bs h;cases bs with|nil=>simp[bT]|cons b bs=>simp[bT]at h
   |
    cons a as ih=>
    intro bs h
    cases bs with
    |nil=>simp[bT]at h
    |
     cons b bs=>
     simp only[List.map_cons,bT]at h⊢
     exact⟨vL h.1,ih h.2⟩
  obtain⟨m,g4,g5⟩:=oj (bT.rep (xq z) n) (ps:=qs.map λx=>(x.1,wk x.2)) (by simp only[List.map_map];simpa[Function.comp_def]using g1) (Mc g2) hl
  split at hr
  ·rename_i ho
   split at hr<;>(try simp only[reduceCtorEq]at hr)
   rename_i k
   split at hr<;>simp only[sJ,reduceCtorEq]at hr
   rename_i hn
   subst hr
   refine⟨_,h.new k (p:= .rs k [] 0 n n sz .tip) (by simp only[gm]) (b:= .arr sz l) (blk:= .arr sz m) (by simp only[gB,true_and];exact g5),by simp only[KR,ho,if_true,dk];exact Kp.new,λK hK=>g3 _ ?_⟩
   simp only[g4,ho,if_true]
   exact⟨h.none k (mA hn),hK⟩
  ·rename_i ho
   simp only[sJ]at hr
   subst hr
   refine⟨_,h.put d (p:= .sl sz m true) (by simp only[gm,true_and];exact g5),Kp.same,λK hK=>g3 _ ?_⟩
   simp only[g4]
   rw[if_neg ho]
   exact hK
 |
  makeSlice sz bytes z len cap=>
  simp only[L7]at hr
  split at hr<;>(try simp only[reduceCtorEq]at hr)
  rename_i k k1 l k2 c h1 h2
  split at hr<;>simp only[sJ,reduceCtorEq]at hr
  rename_i hn
  subst hr
  refine⟨_,h.new k (p:= .rs k [] 0 l.toNat l.toNat sz .tip) (by simp only[gm]) (b:= .arr sz (List.replicate l.toNat (FX z))) (blk:= .arr sz (List.replicate l.toNat z)) (by simp only[gB,true_and];exact bT.rep (xq z) _),Kp.new,λK hK=>om h h1 _ ?_⟩
  exact om h h2 _ ⟨⟨h.none k (mA hn.1),hn.2⟩,hK⟩
 |
  append sz bytes str x y=>
  simp only[L7]at hr
  split at hr<;>(try simp only[reduceCtorEq]at hr)
  rename_i dd p q h1 h2
  split at hr<;>(try simp only[reduceCtorEq]at hr)
  rename_i ys hy
  obtain⟨pp,g1,g2⟩:=eu h h1
  obtain⟨qq,g3,g4⟩:=eu h h2
  obtain⟨m,g5,g6⟩:=Jh h g3 hy
  have J2:=g5.length
  split at hr<;>(try simp only[reduceCtorEq]at hr)
  ·rename_i sz0 l
   split at hr<;>simp only[sJ,reduceCtorEq]at hr
   rename_i hn
   subst hr
   cases pp<;>simp only[gm]at g1
   rename_i sz1 l1 c1
   obtain⟨⟨rfl,rfl⟩,g1⟩:=g1
   have uO:=g1.length
   refine⟨{env:=Ab.put s.env dd (.rs dd [] 0 (l1.length+m.length) (l1.length+m.length) sz .tip),bx:=Ab.put s.bx dd (.arr sz (l1++m))},h.new dd (by simp only[gm,uO,J2]) (by simp only[gB,true_and];exact g1.append g5),by simp only[KR,h1];exact Kp.new,λK hK=>g2 _ (g4 _ (g6 _ ?_))⟩
   simp only[gZ]
   refine⟨⟨h.none dd (mA hn.1),?_,by rw[uO,J2];exact hn.2.2.1,by rw[uO,J2];exact hn.2.2.2⟩,hK⟩
   rcases hn.2.1 with h0|h0
   ·left;rw[List.isEmpty_iff.1 h0]at uO;exact List.length_eq_zero_iff.1 uO
   ·right
    refine⟨h0.1,λhe=> ?_⟩
    rw[he]at J2
    have:=List.length_eq_zero_iff.1 J2.symm
    rw[this]at h0
    simp at h0
  ·rename_i k len aE bL
   split at hr<;>(try simp only[reduceCtorEq]at hr)
   rename_i sz'' l hb
   split at hr<;>simp only[sJ,reduceCtorEq]at hr
   rename_i hn
   subst hr
   simp only[gm]at g1;subst g1
   obtain⟨blk,b1,b2⟩:=h.bx _ _ hb
   cases blk<;>simp only[gB]at b2
   rename_i sz3 l1
   obtain⟨rfl,b2⟩:=b2
   have uO:=b2.length
   refine⟨{env:=Ab.put s.env dd (.rs k [] 0 (l1.length+m.length) (l1.length+m.length) sz .tip),bx:=Ab.put s.bx k (.arr sz (l1++m))},(h.KP k (by simp only[gB,true_and];exact b2.append g5)).put (some dd) (by simp only[gm,uO,J2]),by simp only[KR,h1];exact Kp.new,λK hK=>g2 _ (g4 _ (g6 _ ?_))⟩
   simp only[gZ,b1]
   rw[uO,J2]at*
   exact⟨hn,hK⟩
 |
  copy sz x y=>
  simp only[L7]at hr
  split at hr<;>(try simp only[reduceCtorEq]at hr)
  rename_i k pth off len aE bL c q h1 h2
  split at hr<;>(try simp only[reduceCtorEq]at hr)
  rename_i ys hy
  obtain⟨pp,g1,g2⟩:=eu h h1
  simp only[gm]at g1;subst g1
  obtain⟨qq,g3,g4⟩:=eu h h2
  obtain⟨m,g5,g6⟩:=Jh h g3 hy
  have J2:=g5.length
  have TV:∀K:St->Prop,jD s d sz (.rs k pth off len aE bL c) m K->ex s d (.copy sz x y) K:=by
   intro K hK
   simp only[ex]
   refine g2 _ (g4 _ ?_)
   have:=g6 (λys=>jD s d sz (.rs k pth off len aE bL c) ys K) hK
   cases q<;>cases qq<;>simp only[gm,reduceCtorEq]at g3<;>first|exact this|(simp[NK,qw]at hy;done)|(exact absurd g3 (by simp))
  split at hr<;>(try simp only[reduceCtorEq]at hr)
  ·rename_i sz'' l hb
   split at hr<;>simp only[sJ,reduceCtorEq]at hr
   rename_i hn
   subst hr
   obtain⟨blk,b1,b2⟩:=h.bx _ _ hb
   cases blk<;>simp only[gB]at b2
   rename_i sz3 l1
   obtain⟨rfl,b2⟩:=b2
   have uO:=b2.length
   refine⟨_,(h.KP k (b:= .arr sz (l.take off++ys.take (min ys.length len)++l.drop (off+min ys.length len))) (blk:= .arr sz (l1.take off++m.take (min m.length len)++l1.drop (off+min m.length len))) ?_).put d (nN (x:=((min m.length len:Nat):Int)) ?_),by simp only[KR,h1];exact Kp.put Kp.new,λK hK=>TV K ?_⟩
   ·simp only[gB,true_and,J2]
    exact((b2.take _).append (g5.take _)).append (b2.drop _)
   ·intro z hz;cases hz;rw[J2]
   ·simp only[jD,b1]
    exact⟨⟨by rw[uO];exact hn.1,hn.2.1,hn.2.2.1,hn.2.2.2.1,by rw[uO];exact hn.2.2.2.2⟩,hK⟩
  ·rename_i v hb
   split at hr<;>(try simp only[reduceCtorEq]at hr)
   rename_i sz'' n l hg
   split at hr<;>(try simp only[reduceCtorEq]at hr)
   rename_i v' hv
   split at hr<;>simp only[sJ,reduceCtorEq]at hr
   rename_i hn
   subst hr
   obtain⟨blk,b1,b2⟩:=h.bx _ _ hb
   cases blk<;>simp only[gB]at b2
   rename_i u
   obtain⟨w,c1,c2⟩:=pH b2 hg
   cases w<;>simp only[gm]at c2
   rename_i sz3 n3 l1
   obtain⟨⟨rfl,rfl⟩,c2⟩:=c2
   have BK:gm (.ar sz3 n3 (l.take off++ys.take (min ys.length len)++l.drop (off+min ys.length len))) (.ar sz3 n3 (l1.take off++m.take (min m.length len)++l1.drop (off+min m.length len))):=by
    simp only[gm,true_and,J2]
    exact((c2.take _).append (g5.take _)).append (c2.drop _)
   obtain⟨u',e1,e2⟩:=vH b2 BK hv
   refine⟨_,(h.KP k (b:= .box v') (blk:= .box u') (by simp only[gB];exact e2)).put d (nN (x:=((min m.length len:Nat):Int)) ?_),by simp only[KR,h1];exact Kp.put Kp.new,λK hK=>TV K ?_⟩
   ·intro z hz;cases hz;rw[J2]
   ·simp only[jD,b1,c1,e1]
    exact⟨hn,hK⟩
 |
  convL x=>
  simp only[L7]at hr
  split at hr<;>(try simp only[reduceCtorEq]at hr)
  rename_i k pth off len aE sz c h1
  split at hr<;>(try simp only[reduceCtorEq]at hr)
  rename_i bL l hb
  split at hr<;>simp only[sJ,reduceCtorEq]at hr
  rename_i hn
  obtain⟨rfl,rfl,rfl,rfl,rfl,rfl,rfl,fB,aal⟩:=hn
  subst hr
  obtain⟨pp,g1,g2⟩:=eu h h1
  simp only[gm]at g1;subst g1
  obtain⟨blk,b1,b2⟩:=h.bx _ _ hb
  cases blk<;>simp only[gB]at b2
  rename_i sz3 l1
  obtain⟨rfl,b2⟩:=b2
  have uO:=b2.length
  refine⟨_,(h.KP k (b:= .arr 1 (l++[.int .u8 (some 0)])) (blk:= .arr 1 (l1++[.int .u8 0])) ?_).put d (p:= .sl 1 l1 false) (by simp only[gm,true_and];exact b2),by simp only[KR,h1];exact Kp.put Kp.new,λK hK=> ?_⟩
  ·simp only[gB,true_and]
   exact b2.append (by simp[bT,gm])
  ·simp only[ex]
   refine g2 _ ?_
   simp only[b1]
   refine⟨⟨trivial,trivial,trivial,trivial,trivial,uO.symm,uO.symm,?_,F4 b2 aal⟩,hK⟩
   rintro rfl
   cases l<;>simp at fB uO
 |
  convB x=>
  simp only[L7]at hr
  split at hr<;>simp only[sJ,reduceCtorEq]at hr
  rename_i bs h1
  subst hr
  obtain⟨p,g1,g2⟩:=eu h h1
  cases p<;>simp only[gm]at g1
  subst g1
  rename_i l
  exact⟨_,h.put d (p:= .sl 1 (l.map u8) false) (by simp only[gm,true_and];exact Jg l),Kp.same,λK hK=>g2 _ hK⟩
 |_=>simp[L7]at hr
end Go.Ab
namespace Go.Ab
variable [eE]
theorem A9:zeroOf=kT:=by
 funext P t
 cases h:kT P t with
 |none=>simp only[zeroOf,h]
 |
  some z=>
  simp only[zeroOf,h]
  rw[gX]
  unfold kT at h
  split at h
  ·rename_i z' i hz hi
   rw[hz]
   (repeat' split at h)<;>first|exact h|(simp at h;done)
  ·simp at h
def uf (P:Program) (b:Builtin) (args:List Operand) (tys:List TypeId):Option AK:=
 match b,args,tys with
 |
  .len,[x],[t]=>match P.underlying t,gN x with
  |some .string,some y=>some (.lenS y)
  |some (.slice _),some y=>some (.len y)
  |some (.array n _),some _=>some (.lenC n)
  |some (.pointer a),some _=>match P.underlying a with|some (.array n _)=>some (.lenC n)|_=>none
  |_,_=>none
 |
  .cap,[x],[t]=>match P.underlying t,gN x with
  |some (.slice _),some y=>some (.cap y)
  |_,_=>none
 | .min,xs,_=>match qU xs with|some l=>some (.mm false l)|none=>none
 | .max,xs,_=>match qU xs with|some l=>some (.mm true l)|none=>none
 |
  .append,[x,y],[t,u]=>match P.underlying t,P.underlying u,gN x,gN y with
  |
   some (.slice e),some d,some x,some y=>match P.info? e with
   |
    some i=>match i.zero with
    |
     some z=>if z.cells.size=i.size∧0<i.size∧z.cells.toList.all gF=true then(match d with
     | .slice _=>some (.append i.size i.bytes false x y)
     | .string=>if i.size=1 then some (.append i.size i.bytes true x y)else none
     | .int _=>match kT P e with|some zz=>some (.appendZ i.size i.bytes zz x y)|none=>none
     |_=>none)else none
    |none=>none
   |none=>none
  |_,_,_,_=>none
 |
  .clear,[x],[t]=>match P.underlying t,gN x with
  |some (.slice e),some x=>match gT P e,kT P e with|some n,some z=>if 0<n then some (.fill n z x)else none|_,_=>none
  |_,_=>none
 |
  .copy,[x,y],[t,_]=>match P.underlying t,gN x,gN y with
  |some (.slice e),some x,some y=>match gT P e with|some n=>some (.copy n x y)|none=>none
  |_,_,_=>none
 |_,_,_=>none
def XZ (P:Program) (own:Bool):Op->Option AK
 | .move x| .assign x=>match gN x with|some y=>some (.mv y)|none=>none
 | .pick c a b=>match gN c,gN a,gN b with|some c,some a,some b=>some (.pick c a b)|_,_,_=>none
 | .alloc t=>match kT P t with|some z=>some (.alloc z)|none=>none
 | .box _ x=>match gN x with|some y=>some (.box y)|none=>none
 |
  .build t parts=>match kT P t,n7 parts.toList,P.underlying t with
  |some (.st w l),some ps,some (.struct fs)=>if fs.toList.map (λf=>(f.offset,P.cellsOf f.type))=J6 0 l∧fs.toList.all (λf=>(P.info? f.type).isSome)=true then some (.build (.st w l) ps)else none
  |some (.ar sz n l),some ps,some (.array _ e)=>if gT P e=some sz then some (.build (.ar sz n l) ps)else none
  |_,_,_=>none
 |
  .buildSlice t n parts=>match P.underlying t,n7 parts.toList with
  |
   some (.slice e),some ps=>match kT P e,gT P e with
   |some z,some sz=>if 0<sz∧n*sz≤2^24 then some (.buildSlice own sz z n ps)else none
   |_,_=>none
  |_,_=>none
 |
  .load t a=>match lV P t,gT P t,gN a with
  |some g,some n,some x=>if g=true∨n=1 then some (.load g n x)else none
  |_,_,_=>none
 | .store t a v=>match gT P t,gN a,gN v with|some n,some x,some y=>some (.store n x y)|_,_,_=>none
 | .nilCheck x=>match gN x with|some y=>some (.nilCheck y)|none=>none
 |
  .binOp op t x y _=>match gN x,gN y with
  |some p,some q=>if op= .eql∨op= .neq then(match P.underlying t with
    |some (.int _)|some .string=>some (.bin op .no p q)
    |some .bool=>some (.bin op .bl p q)
    |some (.pointer _)=>some (.bin op .ptr p q)
    |some (.slice _)=>(match y with| .const (.slice none 0 0)=>some (.isNil (decide (op= .neq)) p)|_=>none)
    |some (.struct _)|some (.array _ _)=>if P.eqGuardType P.depth t=false then(match Aa P 20 t with|some sh=>some (.bin op (.sh sh) p q)|none=>none)else none
    |_=>none)else some (.bin op .no p q)
  |_,_=>none
 | .unOp op _ x=>match gN x with|some y=>some (.un op y)|none=>none
 |
  .convert s d x=>match P.underlying s,P.underlying d,gN x with
  |some (.int _),some (.int k),some y=>some (.convI k y)
  |some (.slice e),some .string,some y=>(match P.underlying e with|some (.int .u8)=>some (.convS y)|_=>none)
  |some .string,some (.slice e),some y=>(match P.underlying e with|some (.int .u8)=>some (.convB y)|_=>none)
  |some (.slice _),some (.slice e),some y=>if s=d then(match P.underlying e with|some (.int .u8)=>some (.convL y)|_=>none)else none
  |_,_,_=>none
 | .makeFunc f a b=>match qU a.toList,qU b.toList with|some p,some q=>some (.mkFunc f p q)|_,_=>none
 |
  .makeSlice t l c=>match P.underlying t,gN l,gN c with
  |some (.slice e),some l,some c=>(match kT P e,P.info? e with|some z,some i=>if 0<i.size then some (.makeSlice i.size i.bytes z l c)else none|_,_=>none)
  |_,_,_=>none
 |
  .slice t x lo hi mx=>match P.underlying t,gN x,BU lo,BU hi,BU mx with
  |some .string,some x,some lo,some hi,some mx=>some (.slice .str x lo hi mx)
  |some (.slice e),some x,some lo,some hi,some mx=>(match gT P e with|some n=>if mx.isSome=true->hi.isSome=true then some (.slice (.sl n) x lo hi mx)else none|none=>none)
  |some (.array n e),some x,some lo,some hi,some mx=>(match gT P e with|some sz=>some (.slice (.ar n sz) x lo hi mx)|none=>none)
  |_,_,_,_,_=>none
 |
  .fieldAddr t x f=>match P.underlying t,gN x with
  |
   some (.struct fs),some y=>(match fs[f]?with
   |some g=>(match gT P g.type with|some (_+1)=>some (.fieldA f g.offset y)|_=>none)
   |none=>none)
  |_,_=>none
 |
  .field t x f=>match P.underlying t,gN x with
  |
   some (.struct fs),some y=>(match fs[f]?with
   |some g=>(match lV P g.type,gT P g.type with|some a,some n=>if a=true∨n=1 then some (.field f g.offset a n y)else none|_,_=>none)
   |none=>none)
  |_,_=>none
 |
  .indexAddr t x i=>match P.underlying t,gN x,gN i with
  |some (.slice e),some x,some i=>(match gT P e with|some n=>some (.indexA (.sl n) x i)|none=>none)
  |some (.array k e),some x,some i=>(match gT P e with|some n=>some (.indexA (.ar k n) x i)|none=>none)
  |_,_,_=>none
 |
  .index t x i=>match P.underlying t,gN x,gN i with
  |some (.array k e),some x,some i=>(match lV P e,gT P e with|some a,some n=>if a=true∨n=1 then some (.index a k n x i)else none|_,_=>none)
  |some .string,some x,some i=>some (.indexS x i)
  |_,_,_=>none
 | .extract x i=>match gN x with|some y=>some (.extract i y)|none=>none
 | .call {callee:= .value f,args,..}=>match gN f,qU args.toList with|some g,some l=>some (.call g l)|_,_=>none
 | .call {callee:= .builtin b,args,argTypes}=>uf P b args.toList argTypes.toList
 |
  .sliceToArrayPointer t x=>match P.underlying t,gN x with
  |some (.array n e),some y=>(match gT P e with|some sz=>some (.s2a n sz y)|none=>none)
  |_,_=>none
 |_=>none
def D5 (P:Program) (nt:Nat) (ops:Array Oper) (own sp:List Nat) (draw:Bool) (o:Oper):Option AO:=
 match XZ P (match o.dst with|some d=>own.contains d|none=>false) o.op,sK ops o.guard with
 |some k,some g=>if vl nt o.dst k=true then some ⟨o.dst,g,qo k&& !(match o.dst with|some d=>sp.contains d|none=>false),vn P (draw&& !QS own o.dst) o.type k⟩else none
 |_,_=>none
def qx (P:Program) (nt:Nat) (ops:Array Oper) (own sp:List Nat) (draw:Bool):List Oper->Option (List AO)
 |[]=>some []
 |o::r=>match D5 P nt ops own sp draw o,qx P nt ops own sp draw r with|some x,some l=>some (x::l)|_,_=>none
def iY (P:Program) (nt:Nat) (own sp:List Nat):Code->Option dc
 | .skip=>some .skip
 | .region _ ops false=>match qx P nt ops own sp false ops.toList with|some l=>some (.region l)|none=>none
 | .region _ ops true=>match qx P nt ops own sp true ops.toList with|some l=>if P.follows .mixedOrders=true then(if AA ops l=true then some (.region l)else match aeh own l with|some (p,q)=>(if zj ops l (CK ops l p q) p q (CL ops l p q) (DY ops l p q)=true then some (.regionE l (CK ops l p q) p q (CL ops l p q) (DY ops l p q))else none)|none=>if sT ops l (sg ops l) (zg ops l)=true then some (.regionD l (sg ops l) (zg ops l))else none)else none|none=>none
 | .seq x y=>match iY P nt own sp x,iY P nt own sp y with|some x,some y=>some (.seq x y)|_,_=>none
 | .cond c x y=>match gN c,iY P nt own sp x,iY P nt own sp y with|some c,some x,some y=>some (.cond c x y)|_,_,_=>none
 | .block id x=>match iY P nt own sp x with|some x=>some (.block id x)|none=>none
 | .loop x=>match iY P nt own sp x with|some x=>some (.loop x)|none=>none
 | .exit id=>some (.exit id)
 | .ret=>some .ret
 |
  .rangeFunc g ps x y=>match gN g,iY P nt own sp x,iY P nt own sp y with
  |some g,some x,some y=>if(ps.toList.all (λt=>decide (t<nt))&&rl x&&rl y)=true then some (.rangeF g ps.toList x y)else none
  |_,_,_=>none
 |_=>none
def HT (P:Program) (own sp:List Nat) (f:FuncId):Option cY:=
 match P.funcs[f]?with
 |
  some fn=>if(fn.name== "runtime.NumGoroutine")=false then(match fn.body with
  |
   some c=>match iY P fn.ntmps own sp c,allM (AR P) fn.results.toList with
   |some ac,some rs=>some ⟨fn.ntmps,rs,ac⟩
   |_,_=>none
  |none=>none)else none
 |none=>none
theorem F5:dB=uf:=by
 funext P b x y
 unfold dB uf
 rw[A9]
 rfl
theorem agc:lv=XZ:=by
 funext P b x
 unfold lv XZ
 rw[A9,F5]
 rfl
theorem NL:nM=D5:=by
 funext P nt ops own sp d o
 unfold nM D5
 rw[agc]
 rfl
theorem CT (P:Program) (nt:Nat) (ops:Array Oper) (own sp:List Nat) (draw:Bool):∀l,kU P nt ops own sp draw l=qx P nt ops own sp draw l
 |[]=>by unfold kU qx;rfl
 |
  o::r=>by
  unfold kU qx
  rw[NL,CT P nt ops own sp draw r]
  rfl
theorem NM (P:Program) (nt:Nat) (own sp:List Nat):∀c,fk P nt own sp c=iY P nt own sp c:=by
 intro c
 induction c with
 |seq x y ihx ihy=>(simp only[fk,iY,ihx,ihy];rfl)
 |cond c x y ihx ihy=>(simp only[fk,iY,ihx,ihy];rfl)
 |block id x ih=>(simp only[fk,iY,ih];rfl)
 |loop x ih=>(simp only[fk,iY,ih];rfl)
 |rangeFunc g ps x y ihx ihy=>(simp only[fk,iY,ihx,ihy];rfl)
 |region id ops d=>cases d<;>(simp only[fk,iY,CT];rfl)
 |_=>simp only[fk,iY]
theorem RE:kJ=HT:=by
 funext P own sp f
 unfold kJ HT
 have e:fk=iY:=by funext P nt own sp c;exact NM P nt own sp c
 rw[e]
 rfl
end Go.Ab
namespace Go.Ab
variable [eE]
variable {P:Program} [iZ]
mutual
def KS:AV->AV->Bool
 |_,.un=>true
 | .bl x,.bl y=>(match y with|none=>true|some y=>(match x with|some x=>x==y|none=>false))
 | .int k n,.int k' m=>decide (k=k')&&(match m with|none=>true|some y=>(match n with|some x=>decide (x=y)|none=>false))
 | .str l,.str m=>decide (l=m)
 | .st w l,.st w' m=>decide (w=w')&&yR l m
 | .ar sz n l,.ar bL n' m=>decide (sz=bL∧n=n')&&yR l m
 | .sl sz l c,.sl bL m c'=>decide (sz=bL∧c=c')&&yR l m
 | .tup l,.tup m=>yR l m
 | .np,.np=>true
 |_,_=>false
def yR:List AV->List AV->Bool
 |[],[]=>true
 |a::l,b::m=>KS a b&&yR l m
 |_,_=>false
end
mutual
theorem HU:∀ {a b:AV} {p:PV},KS a b=true->gm a p->gm b p:=by
 intro a b p h hp
 cases b with
 |un=>simp[gm]
 |
  bl y=>
  cases a<;>simp only[KS,fJ]at h
  cases p<;>simp only[gm]at hp⊢
  intro z hz;subst hz
  simp only at h
  split at h
  ·rename_i x;have:x=z:=by simpa using h
   subst this;exact hp _ rfl
  ·simp at h
 |
  int k' m=>
  cases a<;>simp only[KS,aJ,decide_eq_true_eq,fJ]at h
  cases p<;>simp only[gm]at hp⊢
  refine⟨hp.1.trans h.1,λz hz=> ?_⟩
  subst hz
  have h2:=h.2
  simp only at h2
  split at h2
  ·rename_i x;have:x=z:=by simpa using h2
   subst this;exact hp.2 _ rfl
  ·simp at h2
 |
  str m=>
  cases a<;>simp only[KS,decide_eq_true_eq,fJ]at h
  cases p<;>simp only[gm]at hp⊢
  rw[hp,h]
 |
  st w m=>
  cases a<;>simp only[KS,aJ,decide_eq_true_eq,fJ]at h
  cases p<;>simp only[gm]at hp⊢
  exact⟨hp.1.trans h.1,pI h.2 hp.2⟩
 |
  ar sz n m=>
  cases a<;>simp only[KS,aJ,decide_eq_true_eq,fJ]at h
  cases p<;>simp only[gm]at hp⊢
  exact⟨⟨hp.1.1.trans h.1.1,hp.1.2.trans h.1.2⟩,pI h.2 hp.2⟩
 |
  sl sz m c=>
  cases a<;>simp only[KS,aJ,decide_eq_true_eq,fJ]at h
  cases p<;>simp only[gm]at hp⊢
  exact⟨⟨hp.1.1.trans h.1.1,hp.1.2.trans h.1.2⟩,pI h.2 hp.2⟩
 |
  tup m=>
  cases a<;>simp only[KS,fJ]at h
  cases p<;>simp only[gm]at hp⊢
  exact pI h hp
 |np=>cases a<;>simp only[KS,fJ]at h;exact hp
 |_=>cases a<;>simp[KS]at h
theorem pI:∀ {l m:List AV} {ps:List PV},yR l m=true->bT l ps->bT m ps
 |[],[],_,_,h=>h
 |[],_::_,_,h,_=>by simp[yR]at h
 |_::_,[],_,h,_=>by simp[yR]at h
 |a::l,b::m,[],_,h=>by simp[bT]at h
 |
  a::l,b::m,p::ps,h,hg=>by
  simp only[yR,aJ]at h
  simp only[bT]at hg⊢
  exact⟨HU h.1 hg.1,pI h.2 hg.2⟩
end
inductive SR where
 |val (a:AV)
 |own (sz:Nat) (l:List AV)
 |gen (r:AV) (sz:Nat) (l:List AV)
structure Spec where
 f:FuncId
 args:List AV
 res:SR
def AV.qy:AV->Bool
 | .tup l=>my l
 |a=>a.pure
def PZ (k:Nat):AV->Bool
 | .rs k' _ _ _ _ _ _=>decide (k'=k)
 |_=>false
def KT (k:Nat):AV->Bool
 | .tup l=>l.all λa=>a.pure||PZ k a
 |_=>false
def rnA (k':Nat):AV->AV
 | .rs _ p o le t s c=> .rs k' p o le t s c
 |a=>a
def G3 (k':Nat):AV->AV
 | .tup l=> .tup (l.map (rnA k'))
 |a=>a
theorem NN {k:Nat} (ρ:Nat->Nat):∀ {l:List AV} {m:List PV},bT l m->(l.all λa=>a.pure||PZ k a)=true->bT (l.map (rnA (ρ k))) (aO ρ m)
 |[],[],_,_=>by simp[bT,aO]
 |[],_::_,h,_=>by simp[bT]at h
 |_::_,[],h,_=>by simp[bT]at h
 |
  a::l,p::m,h,hp=>by
  simp only[bT]at h
  simp only[List.all_cons,aJ,Bool.or_eq_true]at hp
  simp only[List.map_cons,aO,bT]
  refine⟨?_,NN ρ h.2 hp.2⟩
  rcases hp.1 with hq|hq
  ·rw[jR (h.1.refs hq)]
   have:rnA (ρ k) a=a:=by cases a<;>first|rfl|simp[AV.pure]at hq
   rw[this];exact h.1
  ·cases a<;>simp only[PZ,decide_eq_true_eq,fJ]at hq
   subst hq
   have h1:=h.1
   simp only[gm]at h1
   subst h1
   simp only[rnA,aI,gm]
theorem UQ {k:Nat} {f:Nat->Bool} (hf:f k=true):∀ {l:List AV} {m:List PV},bT l m->(l.all λa=>a.pure||PZ k a)=true->ae f m=true
 |[],[],_,_=>rfl
 |[],_::_,h,_=>by simp[bT]at h
 |_::_,[],h,_=>by simp[bT]at h
 |
  a::l,p::m,h,hp=>by
  simp only[bT]at h
  simp only[List.all_cons,aJ,Bool.or_eq_true]at hp
  simp only[ae,aJ]
  refine⟨?_,UQ hf h.2 hp.2⟩
  rcases hp.1 with hq|hq
  ·exact ig (by simp) p (h.1.refs hq)
  ·cases a<;>simp only[PZ,decide_eq_true_eq,fJ]at hq
   subst hq
   have h1:=h.1
   simp only[gm]at h1
   subst h1
   simpa only[ab]using hf
theorem D6 {k:Nat} (ρ:Nat->Nat) {r:AV} {v:PV} (h:gm r v) (ho:KT k r=true):gm (G3 (ρ k) r) (aI ρ v):=by
 cases r<;>simp only[KT,fJ]at ho
 cases v<;>simp only[gm]at h
 simp only[G3,aI,gm]
 exact NN ρ h ho
theorem Ba {k:Nat} {f:Nat->Bool} (hf:f k=true) {r:AV} {v:PV} (h:gm r v) (ho:KT k r=true):ab f v=true:=by
 cases r<;>simp only[KT,fJ]at ho
 cases v<;>simp only[gm]at h
 simp only[ab]
 exact UQ hf h ho
theorem RG {k k':Nat} {r:AV} (ho:KT k r=true):KT k' (G3 k' r)=true:=by
 cases r<;>simp only[KT,fJ]at ho
 rename_i l
 simp only[G3,KT,List.all_map]
 rw[List.all_eq_true]at ho⊢
 intro a ha
 have:=ho a ha
 simp only[Bool.or_eq_true,Function.comp]at this⊢
 rcases this with h|h
 ·left
  cases a<;>first|exact h|simp[AV.pure]at h
 ·right
  cases a<;>simp only[PZ,decide_eq_true_eq,fJ]at h
  simp[rnA,PZ]
theorem RH {k k':Nat} (r:AV):G3 k (G3 k' r)=G3 k r:=by
 cases r<;>simp only[G3,List.map_map]
 congr 1
 apply List.map_congr_left
 intro a _
 cases a<;>rfl
def Spec.ok (P:Program) (e:Spec):Prop:=∀ps,bT e.args ps->match e.res with
 | .val r=>r.qy=true∧∃v,gm r v∧bB P e.f ps v
 | .own sz l=>my l=true∧∃m,bT l m∧sk P e.f ps sz m
 | .gen r sz l=>(KT KB r=true∧my l=true)∧∃v m,gm r v∧bT l m∧af P e.f ps [] (λr' fp=>r'=v∧fp=[.arr sz m])
def aA (P:Program) (l:List Spec):Prop:=∀e∈l,e.ok P
theorem aA.nil:aA P []:=λ_ h=>by cases h
theorem aA.cons {e:Spec} {l:List Spec} (h:e.ok P) (hl:aA P l):aA P (e::l):=by
 intro x hx
 rcases List.mem_cons.1 hx with rfl|hx
 ·exact h
 ·exact hl x hx
theorem gm.qy {a:AV} {p:PV} (h:gm a p) (hp:a.qy=true):Pure p:=by
 cases a<;>simp only[AV.qy]at hp
 case tup l=>
  cases p<;>simp only[gm]at h
  exact Pure.of (by simp only[ab];exact h.refs hp)
 all_goals exact h.aga hp
def F6:AV->List Nat
 | .rs k _ _ _ _ _ _=>[k]
 |_=>[]
def je:List AV->List Nat
 |[]=>[]
 | .sl _ l _::r=>(l.map F6).flatten++je r
 |a::r=>F6 a++je r
def dd:List Nat->List Nat
 |[]=>[]
 |k::r=>if(dd r).contains k=true then dd r else k::dd r
theorem HV:∀ {l:List Nat} {k:Nat},k∈l->k∈dd l
 |[],_,h=>h
 |
  x::r,k,h=>by
  simp only[dd]
  split
  ·rename_i hc
   rcases List.mem_cons.1 h with rfl|h
   ·simpa using hc
   ·exact HV h
  ·rcases List.mem_cons.1 h with rfl|h
   ·simp
   ·exact List.mem_cons_of_mem _ (HV h)
theorem Bb:∀l:List Nat,(dd l).Nodup
 |[]=>by simp[dd]
 |
  x::r=>by
  simp only[dd]
  split
  ·exact Bb r
  ·rename_i hc
   exact List.nodup_cons.2 ⟨by simpa using hc,Bb r⟩
def AB.pure:AB->Bool
 | .box v=>v.pure
 | .arr _ l=>my l
def fzA (σ:AS):AV->Option AV
 | .rs k p off len aE sz c=>match qw σ (.rs k p off len aE sz c)with|some (_,l)=>if my l=true∧0<sz then some (.sl sz l false)else none|none=>none
 |a=>if a.pure=true∧(pZ a).pure=true then some (pZ a)else none
def fzL (σ:AS):List AV->Option (List AV)
 |[]=>some []
 |a::r=>match fzA σ a,fzL σ r with|some x,some l=>some (x::l)|_,_=>none
def vwA (σ:AS):AV->Option AV
 | .sl sz l _=>match fzL σ l with|some l'=>some (.sl sz l' false)|none=>none
 |a=>fzA σ a
def vwL (σ:AS):List AV->Option (List AV)
 |[]=>some []
 |a::r=>match vwA σ a,vwL σ r with|some x,some l=>some (x::l)|_,_=>none
structure Ce (s:St) (ks:List Nat) (bm:List bh):Prop where
 g:getAll s.bx ks=some bm
 p:∀b∈bm,ah (λ_=>false) b=true
theorem oo {f:Nat->Bool} {b:bh} (h:ah (λ_=>false) b=true):ah f b=true:=by
 cases b with
 |box v=>exact ig (by simp) v h
 |arr sz l=>exact fi (by simp) l h
 |map b ks vs l=>rfl
theorem KU {ρ:Nat->Nat} {b:bh} (h:ah (λ_=>false) b=true):aZ ρ b=b:=by
 cases b with
 |box v=>simp only[aZ];rw[jR h]
 |arr sz l=>simp only[aZ];rw[mr h]
 |map b ks vs l=>rfl
theorem Ce.aI {s:St} {ks:List Nat} {bm:List bh} (h:Ce s ks bm) (ρ:Nat->Nat):bm.map (aZ ρ)=bm:=by
 have:∀l:List bh,(∀b∈l,ah (λ_=>false) b=true)->l.map (aZ ρ)=l:=by
  intro l
  induction l with
  |nil=>intro _;rfl
  |cons b l ih=>intro hl;rw[List.map_cons,KU (hl b (by simp)),ih λx hx=>hl x (by simp[hx])]
 exact this bm h.p
theorem Ji:∀ {l:List Nat} {k:Nat},k∈l->∃i,idx l k=some i
 |[],_,h=>by cases h
 |
  x::r,k,h=>by
  by_cases hx:x=k
  ·exact⟨0,by simp[idx,hx]⟩
  ·obtain⟨i,hi⟩:=Ji (l:=r) (k:=k) (by rcases List.mem_cons.1 h with h|h;exact absurd h.symm hx;exact h)
   exact⟨i+1,by simp[idx,hx,hi]⟩
theorem Ce.at {s:St} {ks:List Nat} {bm:List bh} (h:Ce s ks bm) {k:Nat} (hk:k∈ks):∃b,get s.bx k=some b∧get (aG 0 bm) (aV ks k)=some b∧bj ks k=true:=by
 obtain⟨i,hi⟩:=Ji hk
 obtain⟨h1,h2⟩:=fc h.g
 obtain⟨b,h3,h4⟩:=h2 i k (lL hi)
 refine⟨b,h3,?_,by simp[bj,hi]⟩
 rw[gp]
 simp only[aV,hi]
 rw[if_pos (by omega),show KB+i-KB-0=i by omega]
 exact h4
theorem F7 {s s':St} {k k' off len aE sz:Nat} {p:List Step} {c:jA} (h:get s.bx k=get s'.bx k') (K:Nat->List PV->Prop):content s (.rs k p off len aE sz c) K=content s' (.rs k' p off len aE sz c) K:=by
 simp only[content,h]
theorem NP {σ:AS} {s:St} (h:gS σ s) {ks:List Nat} {bm:List bh} (hL:Ce s ks bm) {a b:AV} {p:PV} (hp:gm a p) (hf:fzA σ a=some b) (hk:∀k∈F6 a,k∈ks):
  ∃q,gm b q∧V0 (aG 0 bm) (wk (aI (aV ks) p)) q∧ab (bj ks) p=true:=by
 unfold fzA at hf
 split at hf
 ·rename_i k pth off len aE sz c
  split at hf<;>(try simp only[reduceCtorEq]at hf)
  rename_i z l hc
  split at hf<;>simp only[sJ,reduceCtorEq]at hf
  rename_i uU
  subst hf
  have hp':=hp
  simp only[gm]at hp;subst hp
  obtain⟨m,g1,g2⟩:=yw h hp' hc
  obtain⟨b,h1,h2,h3⟩:=hL.at (hk k (by simp[F6]))
  refine⟨.sl sz m false,by simp only[gm,true_and];exact g1,?_,by simpa only[ab]using h3⟩
  simp only[aI,wk]
  have hz:z=sz:=by
   have:=g2 (λa _=>a=z) rfl
   simp only[content]at this
   simp only[qw]at hc
   split at hc
   ·split at hc<;>simp only[sJ,Prod.mk.injEq,reduceCtorEq]at hc;exact hc.1.symm
   ·split at hc
    ·split at hc<;>simp only[sJ,Prod.mk.injEq,reduceCtorEq]at hc;exact hc.1.symm
    ·simp at hc
   ·simp at hc
  refine .inr ⟨_,pth,off,len,aE,sz,c,m,rfl,?_,g1.refs uU.1,uU.2,rfl⟩
  rw[F7 (s:=⟨[],aG 0 bm⟩) (s':=s) (k':=k) (by rw[h1];exact h2)]
  exact g2 _ ⟨hz,rfl⟩
 ·rename_i fB
  split at hf<;>simp only[sJ,reduceCtorEq]at hf
  rename_i uU
  subst hf
  have hr:=hp.refs uU.1
  refine⟨wk p,vL hp,?_,ig (by simp) p hr⟩
  rw[jR hr]
  exact .inl ⟨rfl,(vL hp).refs uU.2⟩
theorem NQ {σ:AS} {s:St} (h:gS σ s) {ks:List Nat} {bm:List bh} (hL:Ce s ks bm):∀ {l m:List AV} {ps:List PV},bT l ps->fzL σ l=some m->(∀k∈(l.map F6).flatten,k∈ks)->
  ∃qs,bT m qs∧Je (aG 0 bm) (jO (aO (aV ks) ps)) qs∧ae (bj ks) ps=true
 |[],m,[],_,hf,_=>by simp only[fzL,sJ]at hf;subst hf;exact⟨[],by simp[bT],by simp[aO,Je],rfl⟩
 |[],_,_::_,h,_,_=>by simp[bT]at h
 |_::_,_,[],h,_,_=>by simp[bT]at h
 |
  a::l,m,p::ps,hg,hf,hk=>by
  simp only[bT]at hg
  simp only[fzL]at hf
  split at hf<;>simp only[sJ,reduceCtorEq]at hf
  rename_i x l' h1 h2
  subst hf
  simp only[List.map_cons,List.flatten_cons,List.mem_append]at hk
  obtain⟨q,a1,a2,a3⟩:=NP h hL hg.1 h1 (λk E1=>hk k (.inl E1))
  obtain⟨qs,b1,b2,b3⟩:=NQ h hL hg.2 h2 (λk E1=>hk k (.inr E1))
  exact⟨q::qs,by simp only[bT];exact⟨a1,b1⟩,by simp only[aO,jO,Je];exact⟨a2,b2⟩,by simp[ae,a3,b3]⟩
theorem X1 {σ:AS} {s:St} (h:gS σ s) {ks:List Nat} {bm:List bh} (hL:Ce s ks bm) {a b:AV} {p:PV} (hp:gm a p) (hf:vwA σ a=some b) (hk:∀k∈je [a],k∈ks):
  ∃q,gm b q∧V1 (aG 0 bm) (wk (aI (aV ks) p)) q∧ab (bj ks) p=true:=by
 unfold vwA at hf
 split at hf
 ·rename_i sz l c
  split at hf<;>simp only[sJ,reduceCtorEq]at hf
  rename_i l' hl
  subst hf
  cases p<;>simp only[gm]at hp
  obtain⟨⟨rfl,rfl⟩,hp⟩:=hp
  simp only[je,List.append_nil]at hk
  obtain⟨qs,b1,b2,b3⟩:=NQ h hL hp hl hk
  refine⟨.sl _ qs false,by simp only[gm];exact⟨⟨rfl,trivial⟩,b1⟩,?_,by simpa only[ab]using b3⟩
  simp only[aI,wk]
  exact .inr (.inl ⟨_,_,qs,false,rfl,b2,rfl⟩)
 ·rename_i fB
  have E1:∀k∈F6 a,k∈ks:=by
   intro k WK
   cases a<;>simp[F6]at WK
   subst WK
   exact hk _ (by simp[je,F6])
  obtain⟨q,a1,a2,a3⟩:=NP h hL hp hf E1
  exact⟨q,a1,.inl a2,a3⟩
theorem NR {σ:AS} {s:St} (h:gS σ s) {ks:List Nat} {bm:List bh} (hL:Ce s ks bm):∀ {l m:List AV} {ps:List PV},bT l ps->vwL σ l=some m->(∀k∈je l,k∈ks)->
  ∃qs,bT m qs∧PY (aG 0 bm) (jO (aO (aV ks) ps)) qs∧ae (bj ks) ps=true
 |[],m,[],_,hf,_=>by simp only[vwL,sJ]at hf;subst hf;exact⟨[],by simp[bT],by simp[aO,PY],rfl⟩
 |[],_,_::_,h,_,_=>by simp[bT]at h
 |_::_,_,[],h,_,_=>by simp[bT]at h
 |
  a::l,m,p::ps,hg,hf,hk=>by
  simp only[bT]at hg
  simp only[vwL]at hf
  split at hf<;>simp only[sJ,reduceCtorEq]at hf
  rename_i x l' h1 h2
  subst hf
  have hka:∀k∈je [a],k∈ks:=λk E1=>hk k (by cases a<;>simp[je]at E1⊢<;>first|exact .inl E1|skip)
  have rY:∀k∈je l,k∈ks:=λk E1=>hk k (by cases a<;>simp[je,E1])
  obtain⟨q,a1,a2,a3⟩:=X1 h hL hg.1 h1 hka
  obtain⟨qs,b1,b2,b3⟩:=NR h hL hg.2 h2 rY
  exact⟨q::qs,by simp only[bT];exact⟨a1,b1⟩,by simp only[aO,jO,PY];exact⟨a2,b2⟩,by simp[ae,a3,b3]⟩
end Go.Ab
namespace Go.Ab
variable [eE]
variable {P:Program} [iZ]
theorem al.F8 {s:St} {d:Option Nat} {f:FuncId} {args gy:List PV} {kg:List bh} {R:PV->List bh->Prop} {K:St->Prop} {t:Tg K} (ks os:List Nat) (bm:List bh) (hA:af P f gy kg R)
  (hg:getAll s.bx ks=some bm) (hn:(ks++os).Nodup) (QA:∀o∈os,get s.bx o=none) (ha:ae (bj ks) args=true) (hb:bm.all (ah (bj ks))=true)
  (ha':jO (aO (aV ks) args)=gy) (rX:bm.map (aZ (aV ks))=kg)
  (h:∀r fp,R r fp->(fp.length=(ks++os).length∧ab (fY fp.length) r=true∧fp.all (ah (fY fp.length))=true)∧K ({s with bx:=bI s.bx (ks++os) (fp.map (aZ (eP (ks++os))))}.put d (aI (eP (ks++os)) r))):al P s d f args K t:=by
 subst ha' rX
 exact⟨ks,os,bm,R,hg,hn,QA,ha,hb,af.Uy hA,h⟩
theorem al.view {s:St} {d:Option Nat} {f:FuncId} {args gy yH:List PV} {kg:List bh} {R:PV->List bh->Prop} {K:St->Prop} {t:Tg K} (ks os:List Nat) (bm:List bh) (hA:af P f yH [] R)
  (hg:getAll s.bx ks=some bm) (hn:(ks++os).Nodup) (QA:∀o∈os,get s.bx o=none) (ha:ae (bj ks) args=true) (hb:bm.all (ah (bj ks))=true)
  (ha':jO (aO (aV ks) args)=gy) (rX:bm.map (aZ (aV ks))=kg) (hV:PY (aG 0 kg) gy yH) (hR:∀r new,R r new->(rO r=true∧new.all CQ=true)∧new.length=os.length)
  (h:∀r new,R r new->(ab (fY (kg.length+new.length)) (aI (·+kg.length) r)=true∧(kg++new.map (aZ (·+kg.length))).all (ah (fY (kg.length+new.length)))=true)∧
   K ({s with bx:=bI s.bx (ks++os) ((kg++new.map (aZ (·+kg.length))).map (aZ (eP (ks++os))))}.put d (aI (eP (ks++os)) (aI (·+kg.length) r)))):al P s d f args K t:=by
 refine al.F8 ks os bm (af.view hA hV λr new hr=>(hR r new hr).1) hg hn QA ha hb ha' rX ?_
 rintro r fp ⟨r0,new,hr,rfl,rfl⟩
 have hl:kg.length=ks.length:=by rw[←rX,List.length_map];exact(fc hg).1
 obtain⟨⟨h1,h2⟩,h3⟩:=h r0 new hr
 have e:(kg++new.map (aZ (·+kg.length))).length=kg.length+new.length:=by simp
 rw[e]
 exact⟨⟨by rw[List.length_append,hl,(hR r0 new hr).2],h1,h2⟩,h3⟩
mutual
def vM:AV->Bool
 | .sl _ l _=>l.isEmpty
 | .st _ l| .ar _ _ l=>ug l
 | .bl _| .int .. | .str _| .np=>true
 |_=>false
def ug:List AV->Bool
 |[]=>true
 |a::l=>vM a&&ug l
end
mutual
theorem Bc:∀ {a:AV} {p:PV},gm a p->vM a=true->mN p=true
 |
  .sl _ l _,p,h,hp=>by
  cases p<;>simp only[gm]at h
  simp only[vM,List.isEmpty_iff]at hp
  subst hp
  simp only[mN,List.isEmpty_iff]
  exact List.length_eq_zero_iff.1 h.2.length
 | .st _ l,p,h,hp=>by cases p<;>simp only[gm]at h;simp only[mN];exact oB h.2 (by simpa[vM]using hp)
 | .ar _ _ l,p,h,hp=>by cases p<;>simp only[gm]at h;simp only[mN];exact oB h.2 (by simpa[vM]using hp)
 | .bl _,p,h,_=>by cases p<;>simp only[gm]at h;rfl
 | .int ..,p,h,_=>by cases p<;>simp only[gm]at h;rfl
 | .str _,p,h,_=>by cases p<;>simp only[gm]at h;rfl
 | .np,p,h,_=>by simp only[gm]at h;subst h;rfl
 | .un,_,_,hp| .no,_,_,hp| .tup _,_,_,hp| .rs ..,_,_,hp| .pt ..,_,_,hp| .fp ..,_,_,hp| .gd ..,_,_,hp=>by simp[vM]at hp
theorem oB:∀ {l:List AV} {m:List PV},bT l m->ug l=true->iH m=true
 |[],[],_,_=>rfl
 |[],_::_,h,_=>by simp[bT]at h
 |_::_,[],h,_=>by simp[bT]at h
 |
  a::l,p::m,h,hp=>by
  simp only[bT]at h
  simp only[ug,aJ]at hp
  simp[iH,Bc h.1 hp.1,oB h.2 hp.2]
end
def D7:AV->Bool
 | .tup l=>ug l
 |a=>vM a
theorem KV {a:AV} {p:PV} (h:gm a p) (hp:D7 a=true):rO p=true:=by
 cases a
 case tup l=>
  cases p<;>simp only[gm]at h
  simp only[rO]
  exact oB h (by simpa only[D7]using hp)
 all_goals exact Nx (Bc h (by simpa only[D7]using hp))
def NS:AV->Bool
 | .tup l=>l.all λa=>vM a||PZ KB a
 |_=>false
theorem CU:∀ {l:List AV} {m:List PV},bT l m->(l.all λa=>vM a||PZ KB a)=true->iH m=true
 |[],[],_,_=>rfl
 |[],_::_,h,_=>by simp[bT]at h
 |_::_,[],h,_=>by simp[bT]at h
 |
  a::l,p::m,h,hp=>by
  simp only[bT]at h
  simp only[List.all_cons,aJ,Bool.or_eq_true]at hp
  simp only[iH,aJ]
  refine⟨?_,CU h.2 hp.2⟩
  rcases hp.1 with hq|hq
  ·exact Bc h.1 hq
  ·cases a<;>simp only[PZ,fJ]at hq
   have h1:=h.1
   simp only[gm]at h1
   subst h1;rfl
theorem NT {r:AV} {v:PV} (h:gm r v) (hp:NS r=true):rO v=true:=by
 cases r<;>simp only[NS,fJ]at hp
 cases v<;>simp only[gm]at h
 simp only[rO]
 exact CU h hp
def oU (f:FuncId) (bs:List AV):List Spec->Option SR
 |[]=>none
 |e::r=>if decide (e.f=f)&&yR bs e.args then some e.res else oU f bs r
theorem iy {f:FuncId} {bs:List AV} {qs:List PV} (hg:bT bs qs):∀ {SP:List Spec} {r:SR},aA P SP->oU f bs SP=some r->match r with
  | .val r=>r.qy=true∧∃v,gm r v∧bB P f qs v
  | .own sz l=>my l=true∧∃m,bT l m∧sk P f qs sz m
  | .gen r sz l=>(KT KB r=true∧my l=true)∧∃v m,gm r v∧bT l m∧af P f qs [] (λr' fp=>r'=v∧fp=[.arr sz m])
 |[],_,_,h=>by simp[oU]at h
 |
  e::SP,r,hS,h=>by
  simp only[oU]at h
  split at h
  ·rename_i hc
   simp only[aJ,decide_eq_true_eq]at hc
   simp only[sJ]at h
   subst h
   have:=hS e (by simp) qs (pI hc.2 hg)
   rw[hc.1]at this
   exact this
  ·exact iy hg (λx hx=>hS x (by simp[hx])) h
def NU (SP:List Spec) (σ:AS) (d:Option Nat) (f:AX) (args:List AX):Option AS:=
 match f,HN true σ args with
 | .c (.fn (.func fid) [] []),some as=>if my as=true then(match oU fid (Cd as) SP with
   |some (.val r)=>some (σ.put d r)
   |some (.own sz l)=>(match d with|some k=>if(get σ.bx k).isNone=true then some {env:=put σ.env k (.rs k [] 0 l.length l.length sz .tip),bx:=put σ.bx k (.arr sz l)}else none|none=>none)
   |some (.gen r sz l)=>(match d with|some k=>if(get σ.bx k).isNone=true then some {env:=put σ.env k (G3 k r),bx:=put σ.bx k (.arr sz l)}else none|none=>none)
   |none=>none)
  else(match vwL σ as with
   |some bs=>if((dd (je as)).all λk=>match get σ.bx k with|some b=>b.pure|none=>false)=true then(match oU fid bs SP with
     |some (.val r)=>if D7 r=true then some (σ.put d r)else none
     |some (.own sz l)=>(match d with|some k=>if(get σ.bx k).isNone=true∧ug l=true then some {env:=put σ.env k (.rs k [] 0 l.length l.length sz .tip),bx:=put σ.bx k (.arr sz l)}else none|none=>none)
     |some (.gen r sz l)=>(match d with|some k=>if(get σ.bx k).isNone=true∧NS r=true∧ug l=true then some {env:=put σ.env k (G3 k r),bx:=put σ.bx k (.arr sz l)}else none|none=>none)
     |none=>none)else none
   |none=>none)
 |_,_=>none
theorem gB.pure {b:AB} {blk:bh} (h:gB b blk) (hp:b.pure=true):ah (λ_=>false) blk=true:=by
 cases b<;>cases blk<;>simp only[gB]at h<;>simp only[AB.pure]at hp<;>simp only[ah]
 ·exact h.refs hp
 ·exact h.2.refs hp
theorem Jj {σ:AS} {s:St} (h:gS σ s):∀ {ks:List Nat},(ks.all λk=>match get σ.bx k with|some b=>b.pure|none=>false)=true->∃bm,Ce s ks bm
 |[],_=>⟨[],rfl,by simp⟩
 |
  k::r,hk=>by
  simp only[List.all_cons,aJ]at hk
  obtain⟨bs,h1,h2⟩:=Jj h hk.2
  have h3:=hk.1
  split at h3
  ·rename_i b hb
   obtain⟨blk,h4,h5⟩:=h.bx _ _ hb
   refine⟨blk::bs,by simp only[getAll,h4,h1],λx hx=> ?_⟩
   rcases List.mem_cons.1 hx with rfl|hx
   ·exact h5.pure h3
   ·exact h2 x hx
  ·simp at h3
theorem Be:∀ {ks:List Nat} {bs:List bh} {bx:List (Nat×bh)},vK bx->vK (bI bx ks bs)
 |[],[],_,h=>h
 |[],_::_,_,h=>h
 |_::_,[],_,h=>h
 |k::ks,b::bs,_,h=>by simp only[bI];exact Be (h.put k b)
theorem vN {s:St} {ks:List Nat} {bm:List bh} (hL:Ce s ks bm) (hn:ks.Nodup) (k:Nat):get (bI s.bx ks bm) k=get s.bx k:=by
 obtain⟨h1,h2⟩:=fc hL.g
 rw[qY k hn h1]
 split
 ·rename_i i hi
  obtain⟨b,h3,h4⟩:=h2 i k (lL hi)
  rw[h3,h4]
 ·rfl
theorem gS.same {σ:AS} {s s':St} (h:gS σ s) (he:s'.env=s.env) (hb:∀k,get s'.bx k=get s.bx k) (hs:vK s'.bx):gS σ s':=
 ⟨λk a hk=>by rw[he];exact h.env k a hk,λk hk=>by rw[hb];exact h.none k hk,λk b hk=>by rw[hb];exact h.bx k b hk,by rw[he];exact h.se,hs⟩
theorem sn {b:bh} {o:Nat}:∀ {ks:List Nat} {bm:List bh} {bx:List (Nat×bh)},bm.length=ks.length->bI bx (ks++[o]) (bm++[b])=put (bI bx ks bm) o b
 |[],[],_,_=>rfl
 |[],_::_,_,h=>by simp at h
 |_::_,[],_,h=>by simp at h
 |k::ks,x::bm,_,h=>by simp only[List.cons_append,bI];exact sn (by simpa using h)
theorem NV {SP:List Spec} (hS:aA P SP) {σ σ':AS} {s:St} (h:gS σ s) {d:Option Nat} {f:AX} {args:List AX} (hr:NU SP σ d f args=some σ'):∃s',gS σ' s'∧Kp (dk d) s s'∧∀K:St->Prop,K s'->lp P s d f args K:=by
 unfold NU at hr
 split at hr<;>(try simp only[reduceCtorEq]at hr)
 rename_i fid as h1
 obtain⟨ps,g1,g2⟩:=zo h h1
 have key:∀(s':St),(∀(K:St->Prop),K s'->al P s d fid ps K .mk)->∀K:St->Prop,K s'->lp P s d (.c (.fn (.func fid) [] [])) args K:=by
  intro s' hc K hK
  unfold lp
  refine g2 _ ?_
  show∃ks os,tB P s d fid ([]++ps++[]) ks os K
  rw[List.nil_append,List.append_nil]
  exact hc K hK
 split at hr
 ·rename_i uU
  have td:=g1.vJ uU
  have g3:=rz g1
  split at hr<;>(try simp only[reduceCtorEq]at hr)
  ·rename_i r hf
   simp only[sJ]at hr
   subst hr
   obtain⟨e1,v,e2,e3⟩:=iy g3 hS hf
   exact⟨_,h.put d e2,Kp.same,key _ λK hK=>al.ret e3 rfl td (e2.qy e1) hK⟩
  ·rename_i sz l hf
   split at hr<;>(try simp only[reduceCtorEq]at hr)
   rename_i k
   split at hr<;>simp only[sJ,reduceCtorEq]at hr
   rename_i hn
   subst hr
   obtain⟨e1,m,e2,e3⟩:=iy g3 hS hf
   have hl:=e2.length
   exact⟨_,h.new k (p:= .rs k [] 0 m.length m.length sz .tip) (by simp only[gm,hl]) (b:= .arr sz l) (blk:= .arr sz m) (by simp only[gB,true_and];exact e2),Kp.new,key _ λK hK=>al.own k e3 rfl td (e2.vJ e1) (h.none k (mA hn)) hK⟩
  ·rename_i r sz l hf
   split at hr<;>(try simp only[reduceCtorEq]at hr)
   rename_i k
   split at hr<;>simp only[sJ,reduceCtorEq]at hr
   rename_i hn
   subst hr
   obtain⟨⟨e0,e1⟩,v,m,e2,e3,e4⟩:=iy g3 hS hf
   have hm:=e3.vJ e1
   have nU:eP [k] KB=k:=by simp[eP]
   have hg:gm (G3 k r) (aI (eP [k]) v):=by have:=D6 (eP [k]) e2 e0;rwa [nU]at this
   refine⟨{env:=put s.env k (aI (eP [k]) v),bx:=put s.bx k (.arr sz m)},h.new k (p:=aI (eP [k]) v) hg (b:= .arr sz l) (blk:= .arr sz m) (by simp only[gB,true_and];exact e3),Kp.new,key _ λK hK=>al.F8 [] [k] [] e4 rfl (by simp) (by simpa using h.none k (mA hn)) (td.refs _) rfl (by rw[td.aI]) rfl ?_⟩
   rintro r' fp ⟨rfl,rfl⟩
   refine⟨⟨rfl,Ba (by simp[fY]) e2 e0,by simp[ah,hm.refs]⟩,?_⟩
   simp only[List.nil_append,List.map_cons,List.map_nil,aZ,hm.aI,bI]
   exact hK
 ·split at hr<;>(try simp only[reduceCtorEq]at hr)
  rename_i bs EL
  split at hr<;>(try simp only[reduceCtorEq]at hr)
  rename_i fu
  obtain⟨bm,hL⟩:=Jj h fu
  have zY:=Bb (je as)
  obtain⟨qs,q1,q2,q3⟩:=NR h hL g1 EL (λk hk=>HV hk)
  have G1:=hL.aI
  have tM:bm.all (ah (bj (dd (je as))))=true:=List.all_eq_true.2 λb hb=>oo (hL.p b hb)
  have hfp:∀n,bm.all (ah (fY n))=true:=λn=>List.all_eq_true.2 λb hb=>oo (hL.p b hb)
  have mG:gS σ {s with bx:=bI s.bx (dd (je as)) bm}:=h.same rfl (λk=>vN hL zY k) (Be h.sb)
  have hlen:bm.length=(dd (je as)).length:=(fc hL.g).1
  split at hr<;>(try simp only[reduceCtorEq]at hr)
  ·rename_i r hf
   split at hr<;>simp only[sJ,reduceCtorEq]at hr
   rename_i hns
   subst hr
   obtain⟨e1,v,e2,e3⟩:=iy q1 hS hf
   have hv:=e2.qy e1
   refine⟨_,mG.put d e2,Kp.put (λj _=>vN hL zY j),key _ λK hK=>al.view (dd (je as)) [] bm e3 hL.g (by simpa using zY) (by simp) q3 tM rfl (G1 _) q2 ?_ ?_⟩
   ·rintro r new ⟨rfl,rfl⟩
    exact⟨⟨KV e2 hns,rfl⟩,rfl⟩
   ·rintro r new ⟨rfl,rfl⟩
    refine⟨⟨by rw[hv.aI];exact hv.refs _,by simp only[List.map_nil,List.append_nil];exact hfp _⟩,?_⟩
    simp only[List.map_nil,List.append_nil,G1,hv.aI]
    exact hK
  ·rename_i sz l hf
   split at hr<;>(try simp only[reduceCtorEq]at hr)
   rename_i k
   split at hr<;>simp only[sJ,reduceCtorEq]at hr
   rename_i hn
   subst hr
   obtain⟨e1,m,e2,e3⟩:=iy q1 hS hf
   have hm:=e2.vJ e1
   have hl:=e2.length
   have nK:get s.bx k=none:=h.none k (mA hn.1)
   have hkn:k∉dd (je as):=λhk=>by
    obtain⟨b,hb,_⟩:=hL.at hk
    rw[nK]at hb;cases hb
   refine⟨{env:=put s.env k (.rs k [] 0 m.length m.length sz .tip),bx:=put (bI s.bx (dd (je as)) bm) k (.arr sz m)},mG.new k (p:= .rs k [] 0 m.length m.length sz .tip) (by simp only[gm,hl]) (b:= .arr sz l) (blk:= .arr sz m) (by simp only[gB,true_and];exact e2),
    λj hj=>by
     simp only[fC]
     rw[if_neg (by rintro rfl;simp[dk]at hj)]
     exact vN hL zY j,
    key _ λK hK=>al.view (dd (je as)) [k] bm e3 hL.g (by rw[List.nodup_append];exact⟨zY,by simp,by simp;intro a ha e;subst e;exact hkn ha⟩) (by simpa using nK) q3 tM rfl (G1 _) q2 ?_ ?_⟩
   ·rintro r new ⟨rfl,rfl⟩
    exact⟨⟨rfl,by simp only[List.all_cons,List.all_nil,Bool.and_true,CQ];exact oB e2 hn.2⟩,rfl⟩
   ·rintro r new ⟨rfl,rfl⟩
    have nU:eP (dd (je as)++[k]) (KB+bm.length)=k:=by
     unfold eP
     rw[if_pos (by omega),show KB+bm.length-KB=bm.length by omega,hlen,List.getElem?_append_right (Nat.le_refl _)]
     simp
    refine⟨⟨?_,?_⟩,?_⟩
    ·simp only[aI,ab,fY,List.length_cons,List.length_nil,decide_eq_true_eq];omega
    ·simp only[List.map_cons,List.map_nil,List.all_append,aJ,List.all_cons,List.all_nil,Bool.and_true]
     exact⟨hfp _,oo (by simp only[aZ,ah,hm.aI];exact hm.refs _)⟩
    ·have e4:(bm++[bh.arr sz m].map (aZ (·+bm.length))).map (aZ (eP (dd (je as)++[k])))=bm++[.arr sz m]:=by
      simp only[List.map_append,G1,List.map_cons,List.map_nil,aZ,hm.aI]
     rw[e4,sn hlen]
     simp only[aI,nU]
     exact hK
  ·rename_i r sz l hf
   split at hr<;>(try simp only[reduceCtorEq]at hr)
   rename_i k
   split at hr<;>simp only[sJ,reduceCtorEq]at hr
   rename_i hn
   subst hr
   obtain⟨⟨e0,e1⟩,v,m,e2,e3,e4⟩:=iy q1 hS hf
   have hm:=e3.vJ e1
   have nK:get s.bx k=none:=h.none k (mA hn.1)
   have hkn:k∉dd (je as):=λhk=>by
    obtain⟨b,hb,_⟩:=hL.at hk
    rw[nK]at hb;cases hb
   have nU:eP (dd (je as)++[k]) (KB+bm.length)=k:=by
    unfold eP
    rw[if_pos (by omega),show KB+bm.length-KB=bm.length by omega,hlen,List.getElem?_append_right (Nat.le_refl _)]
    simp
   have hg1:gm (G3 (KB+bm.length) r) (aI (·+bm.length) v):=D6 (·+bm.length) e2 e0
   have TL:KT (KB+bm.length) (G3 (KB+bm.length) r)=true:=RG e0
   have hg:gm (G3 k r) (aI (eP (dd (je as)++[k])) (aI (·+bm.length) v)):=by
    have:=D6 (eP (dd (je as)++[k])) hg1 TL
    rwa [nU,RH]at this
   refine⟨{env:=put s.env k (aI (eP (dd (je as)++[k])) (aI (·+bm.length) v)),bx:=put (bI s.bx (dd (je as)) bm) k (.arr sz m)},mG.new k (p:=aI (eP (dd (je as)++[k])) (aI (·+bm.length) v)) hg (b:= .arr sz l) (blk:= .arr sz m) (by simp only[gB,true_and];exact e3),
    λj hj=>by
     simp only[fC]
     rw[if_neg (by rintro rfl;simp[dk]at hj)]
     exact vN hL zY j,
    key _ λK hK=>al.view (dd (je as)) [k] bm e4 hL.g (by rw[List.nodup_append];exact⟨zY,by simp,by simp;intro a ha e;subst e;exact hkn ha⟩) (by simpa using nK) q3 tM rfl (G1 _) q2 ?_ ?_⟩
   ·rintro r new ⟨rfl,rfl⟩
    exact⟨⟨NT e2 hn.2.1,by simp only[List.all_cons,List.all_nil,Bool.and_true,CQ];exact oB e3 hn.2.2⟩,rfl⟩
   ·rintro r' new ⟨rfl,rfl⟩
    refine⟨⟨?_,?_⟩,?_⟩
    ·exact Ba (by simp[fY]) hg1 TL
    ·simp only[List.map_cons,List.map_nil,List.all_append,aJ,List.all_cons,List.all_nil,Bool.and_true]
     exact⟨hfp _,oo (by simp only[aZ,ah,hm.aI];exact hm.refs _)⟩
    ·have e4:(bm++[bh.arr sz m].map (aZ (·+bm.length))).map (aZ (eP (dd (je as)++[k])))=bm++[.arr sz m]:=by
      simp only[List.map_append,G1,List.map_cons,List.map_nil,aZ,hm.aI]
     rw[e4,sn hlen]
     exact hK
def HW (SP:List Spec) (σ:AS) (d:Option Nat) (f:AX) (args:List AX):Option AS:=
 match f,HN true σ args with
 | .c (.fn (.func fid) [] []),some as=>if my as=true then(match oU fid (Cd as) SP with
   |some (.val r)=>some (σ.put d r)
   |_=>none)else none
 |_,_=>none
theorem KW {SP:List Spec} (hS:aA P SP) {σ σ':AS} {s:St} (h:gS σ s) {d:Option Nat} {f:AX} {args:List AX} (hr:HW SP σ d f args=some σ'):∃s',gS σ' s'∧Kp [] s s'∧∀K:St->Prop,K s'->nu P s d f args K:=by
 unfold HW at hr
 split at hr<;>(try simp only[reduceCtorEq]at hr)
 rename_i fid as h1
 obtain⟨ps,g1,g2⟩:=zo h h1
 split at hr<;>(try simp only[reduceCtorEq]at hr)
 rename_i uU
 have td:=g1.vJ uU
 split at hr<;>simp only[sJ,reduceCtorEq]at hr
 rename_i r hf
 subst hr
 obtain⟨e1,v,e2,e3⟩:=iy (rz g1) hS hf
 refine⟨_,h.put d e2,Kp.same,λK hK=> ?_⟩
 unfold nu
 refine g2 _ ?_
 show∃v,(ae (λ_=>false) ([]++ps++[])=true∧ab (λ_=>false) v=true)∧af P fid ([]++ps++[]) [] (λr fp=>r=v∧fp=[])∧K (s.put d v)
 rw[List.nil_append,List.append_nil]
 exact⟨v,⟨td.refs _,(e2.qy e1).refs _⟩,af.Uy e3,hK⟩
def NW (SP:List Spec) (σ:AS) (o:AO):Option AS:=
 match o.k with
 | .call f args=>NU SP σ o.dst f args
 | .callq f args=>HW SP σ o.dst f args
 |k=>if oc k=true then L7 σ o.dst k else(match uQ true σ k with|some a=>some (σ.put o.dst a)|none=>none)
theorem D8 {SP:List Spec} (hS:aA P SP) {σ σ':AS} {s:St} (h:gS σ s) {o:AO} (hr:NW SP σ o=some σ'):∃s',gS σ' s'∧Kp (KR σ o.dst o.k) s s'∧∀K:St->Prop,K s'->lq P s o K:=by
 unfold NW at hr
 unfold lq
 split at hr
 ·rename_i f args hk
  obtain⟨s',h1,Dq,h2⟩:=NV hS h hr
  exact⟨s',h1,by rw[hk];exact Dq,λK hK=>by simp only[hk];exact h2 K hK⟩
 ·rename_i f args hk
  obtain⟨s',h1,Dq,h2⟩:=KW hS h hr
  exact⟨s',h1,by rw[hk];exact Dq,λK hK=>by simp only[hk];exact h2 K hK⟩
 ·rename_i k n1 n2
  split at hr
  ·rename_i he
   obtain⟨s',h1,Dq,h2⟩:=XY h hr
   refine⟨s',h1,Dq,λK hK=> ?_⟩
   split
   ·rename_i f args hk;exact absurd hk (by intro e;exact n1 _ _ e)
   ·rename_i f args hk;exact absurd hk (by intro e;exact n2 _ _ e)
   ·rw[if_pos he];exact h2 K hK
  ·rename_i he
   split at hr<;>simp only[sJ,reduceCtorEq]at hr
   rename_i a ha
   subst hr
   obtain⟨p,h1,h2⟩:=A8 h ha
   refine⟨_,h.put _ h1,Kp.same,λK hK=> ?_⟩
   split
   ·rename_i f args hk;exact absurd hk (by intro e;exact n1 _ _ e)
   ·rename_i f args hk;exact absurd hk (by intro e;exact n2 _ _ e)
   ·rw[if_neg he];exact h2 _ hK
def HX (SP:List Spec) (σ:AS) (o:AO):Option AS:=
 match o.guard with
 |none=>NW SP σ o
 |
  some (sl,want)=>match get σ.env sl with
  |some (.bl (some b))=>if o.mg=true then(match uQ (b==want) σ o.k with|some p=>some (σ.put o.dst (.gd (b==want) p))|none=>none)
    else if b=want then NW SP σ o else some (σ.put o.dst .no)
  |some (.gd true (.bl (some b)))=>if o.mg=true then(match uQ (b==want) σ o.k with|some p=>some (σ.put o.dst (.gd (b==want) p))|none=>none)
    else if b=want then NW SP σ o else some (σ.put o.dst .no)
  |some (.gd false (.bl (some b)))=>if o.mg=true then(match uQ false σ o.k with|some p=>some (σ.put o.dst (.gd false p))|none=>none)
    else some (σ.put o.dst .no)
  |_=>none
theorem zt {SP:List Spec} (hS:aA P SP) {σ σ':AS} {s:St} (h:gS σ s) {o:AO} (hr:HX SP σ o=some σ'):∃s',gS σ' s'∧Kp (KR σ o.dst o.k) s s'∧∀K:St->Prop,K s'->iN P s o K:=by
 unfold HX at hr
 unfold iN
 split at hr
 ·rename_i hg
  rw[hg]
  exact D8 hS h hr
 ·rename_i sl want hg
  rw[hg]
  simp only
  split at hr<;>(try simp only[reduceCtorEq]at hr)
  ·rename_i b hb
   obtain⟨q,g1,g2⟩:=h.env _ _ hb
   cases q<;>simp only[gm]at g2
   have:=g2 b rfl
   subst this
   rw[g1]
   simp only[Option.getD_some]
   split at hr
   ·rename_i hm
    split at hr<;>simp only[sJ,reduceCtorEq]at hr
    rename_i p hp
    subst hr
    obtain⟨v,e1,e2⟩:=A8 h hp
    refine⟨_,h.put _ (p:= .gd _ v) (by simp only[gm];exact⟨rfl,e1⟩),Kp.same,λK hK=> ?_⟩
    rw[if_pos hm];exact e2 _ hK
   ·rename_i hm
    split at hr
    ·rename_i hw
     obtain⟨s',e1,ek,e2⟩:=D8 hS h hr
     refine⟨s',e1,ek,λK hK=> ?_⟩
     rw[if_neg hm]
     exact⟨λ_=>e2 K hK,λfB=>absurd hw fB⟩
    ·rename_i hw
     simp only[sJ]at hr
     subst hr
     refine⟨_,h.put _ (p:= .un) (by simp only[gm]),Kp.same,λK hK=> ?_⟩
     rw[if_neg hm]
     exact⟨λhe=>absurd he hw,λ_=>hK⟩
  ·rename_i b hb
   obtain⟨q,g1,g2⟩:=h.env _ _ hb
   cases q<;>simp only[gm]at g2
   rename_i g' q
   obtain⟨rfl,g2⟩:=g2
   cases q<;>simp only[gm]at g2
   have:=g2 b rfl
   subst this
   rw[g1]
   simp only[Option.getD_some,Bool.true_and]
   split at hr
   ·rename_i hm
    split at hr<;>simp only[sJ,reduceCtorEq]at hr
    rename_i p hp
    subst hr
    obtain⟨v,e1,e2⟩:=A8 h hp
    refine⟨_,h.put _ (p:= .gd _ v) (by simp only[gm];exact⟨rfl,e1⟩),Kp.same,λK hK=> ?_⟩
    rw[if_pos hm];exact e2 _ hK
   ·rename_i hm
    split at hr
    ·rename_i hw
     obtain⟨s',e1,ek,e2⟩:=D8 hS h hr
     refine⟨s',e1,ek,λK hK=> ?_⟩
     rw[if_neg hm]
     exact⟨λ_ _=>e2 K hK,λfB=>absurd hw (fB (by trivial))⟩
    ·rename_i hw
     simp only[sJ]at hr
     subst hr
     refine⟨_,h.put _ (p:= .un) (by simp only[gm]),Kp.same,λK hK=> ?_⟩
     rw[if_neg hm]
     exact⟨λ_ he=>absurd he hw,λ_=>hK⟩
  ·rename_i b hb
   obtain⟨q,g1,g2⟩:=h.env _ _ hb
   cases q<;>simp only[gm]at g2
   rename_i g' q
   obtain⟨rfl,g2⟩:=g2
   cases q<;>simp only[gm]at g2
   rw[g1]
   simp only[Option.getD_some,Bool.false_and]
   split at hr
   ·rename_i hm
    split at hr<;>simp only[sJ,reduceCtorEq]at hr
    rename_i p hp
    subst hr
    obtain⟨v,e1,e2⟩:=A8 h hp
    refine⟨_,h.put _ (p:= .gd _ v) (by simp only[gm];exact⟨rfl,e1⟩),Kp.same,λK hK=> ?_⟩
    rw[if_pos hm];exact e2 _ hK
   ·rename_i hm
    simp only[sJ]at hr
    subst hr
    refine⟨_,h.put _ (p:= .un) (by simp only[gm]),Kp.same,λK hK=> ?_⟩
    rw[if_neg hm]
    first|exact⟨λhe=>by cases he,λ_=>hK⟩|simpa using hK
def NX (SP:List Spec):AS->List AO->Option AS
 |σ,[]=>some σ
 |σ,o::l=>match HX SP σ o with|some σ'=>NX SP σ' l|none=>none
theorem Jk {SP:List Spec} (hS:aA P SP):∀ {l:List AO} {σ σ':AS} {s:St},gS σ s->NX SP σ l=some σ'->∃s',gS σ' s'∧∀K:St->Prop,K s'->Hn P s l K
 |[],σ,σ',s,h,hr=>by simp only[NX,sJ]at hr;subst hr;exact⟨s,h,λK hK=>hK⟩
 |
  o::l,σ,σ',s,h,hr=>by
  simp only[NX]at hr
  split at hr<;>(try simp only[reduceCtorEq]at hr)
  rename_i σ1 h1
  obtain⟨s1,e1,_,e2⟩:=zt hS h h1
  obtain⟨s2,e3,e4⟩:=Jk hS e1 hr
  exact⟨s2,e3,λK hK=>e2 _ (e4 _ hK)⟩
def AS.less (σ:AS) (W:List Nat):AS:= {σ with bx:=σ.bx.filter λp=> !W.contains p.1}
theorem sq {W:List Nat} (k:Nat):∀l:List (Nat×AB),get (l.filter λp=> !W.contains p.1) k=if W.contains k=true then none else get l k
 |[]=>by simp[get]
 |
  (n,v)::r=>by
  have ih:=sq (W:=W) k r
  by_cases hn:W.contains n=true
  ·rw[List.filter_cons_of_neg (by simpa using hn),ih]
   by_cases hk:n=k
   ·subst hk;rw[if_pos hn,if_pos hn]
   ·simp only[get,if_neg hk]
  ·rw[List.filter_cons_of_pos (by simpa using hn)]
   simp only[get,ih]
   by_cases hk:n=k
   ·subst hk;rw[if_pos rfl,if_neg hn,if_pos rfl]
   ·rw[if_neg hk,if_neg hk]
theorem uh {W:List Nat}:∀ {l:List (Nat×bh)},vK l->vK (l.filter λp=> !W.contains p.1)
 |[],_=>trivial
 |
  (n,v)::r,h=>by
  by_cases hn:W.contains n=true
  ·rw[List.filter_cons_of_neg (by simpa using hn)];exact uh h.2
  ·rw[List.filter_cons_of_pos (by simpa using hn)]
   refine⟨λj x hj=> ?_,uh h.2⟩
   rw[get_filter (c:=λn=> !W.contains n)]at hj
   split at hj
   ·exact h.1 j x hj
   ·simp at hj
theorem X2 {W:List Nat} (hW:DV W=false) (l:List (Nat×bh)):((l.filter λp=>DV W|| !W.contains p.1).map λp=>(p.1,tf W p.1 p.2))=l.filter λp=> !W.contains p.1:=by
 simp only[hW,Bool.false_or]
 conv=>rhs;rw[←List.map_id (l.filter λp=> !W.contains p.1)]
 refine List.map_congr_left λp _=> ?_
 obtain⟨k,b⟩:=p
 cases b<;>simp[tf,hW]
theorem gS.less {σ:AS} {s:St} (h:gS σ s) {W:List Nat} (hW:DV W=false):gS (σ.less W) (s.less W):=by
 have he:(s.less W).bx=s.bx.filter λp=> !W.contains p.1:=X2 hW _
 refine⟨h.env,λk hk=> ?_,λk b hk=> ?_,h.se,by rw[he];exact uh h.sb⟩
 ·rw[he]
  simp only[AS.less,sq]at hk⊢
  rw[get_filter (c:=λn=> !W.contains n)]
  split at hk
  ·rename_i hw;rw[hw];simp
  ·rename_i hw;rw[if_pos (by simpa using hw)];exact h.none k hk
 ·rw[he]
  simp only[AS.less,sq]at hk⊢
  rw[get_filter (c:=λn=> !W.contains n)]
  split at hk
  ·simp at hk
  ·rename_i hw;rw[if_pos (by simpa using hw)];exact h.bx k b hk
def NY (l:List AO) (σ:AS) (o:List Nat):Bool:=o.all λi=>match l[i]?with|some x=>(match x.ij with|some k=>(get σ.bx k).isNone|none=>true)|none=>true
theorem NZ {σ:AS} {s:St} (h:gS σ s) {l:List AO} {o:List Nat} (hf:NY l σ o=true):gA l s o=true:=by
 unfold NY at hf
 unfold gA
 rw[List.all_eq_true]at hf⊢
 intro i hi
 have:=hf i hi
 cases hl:l[i]?with
 |none=>simp
 |
  some x=>
  simp only[hl]at this⊢
  cases hk:x.ij with
  |none=>rfl
  |
   some k=>
   simp only[hk]at this⊢
   rw[h.none k (mA this)];rfl
def X3 (SP:List Spec) (l:List AO) (u W:List Nat):AS->List Nat->Option AS
 |σ,[]=>some σ
 |
  σ,i::r=>match l[i]?with
  |some x=>if NY l σ (i::r)=true then(if x.quiet=true then(if u.contains i=true then(match HX SP (σ.less W) x with
      |some τ=>if(KR (σ.less W) x.dst x.k).isEmpty=true then X3 SP l u W {τ with bx:=σ.bx} r else none
      |none=>none)else(match HX SP σ x with|some τ=>X3 SP l u W τ r|none=>none))
     else(match HX SP σ x with|some τ=>if(!u.contains i||(KR σ x.dst x.k).all λk=>W.contains k)=true then X3 SP l u W τ r else none|none=>none))else none
  |none=>none
theorem D9 {SP:List Spec} (hS:aA P SP) {l:List AO} {u W:List Nat} (hW:DV W=false):∀ {o:List Nat} {σ σ':AS} {s:St},gS σ s->X3 SP l u W σ o=some σ'->∃s',gS σ' s'∧∀K:St->Prop,K s'->jt P l u.contains W s o K
 |[],σ,σ',s,h,hr=>by simp only[X3,sJ]at hr;subst hr;exact⟨s,h,λK hK=>hK⟩
 |
  i::r,σ,σ',s,h,hr=>by
  simp only[X3]at hr
  split at hr<;>(try simp only[reduceCtorEq]at hr)
  rename_i x hx
  split at hr<;>(try simp only[reduceCtorEq]at hr)
  rename_i hf
  have n6:=NZ h hf
  split at hr
  ·rename_i hq
   split at hr
   ·rename_i hu
    split at hr<;>(try simp only[reduceCtorEq]at hr)
    rename_i τ ht
    split at hr<;>(try simp only[reduceCtorEq]at hr)
    obtain⟨t1,e1,_,e2⟩:=zt hS (h.less hW) ht
    have h2:gS {τ with bx:=σ.bx} {t1 with bx:=s.bx}:=⟨e1.env,h.none,h.bx,e1.se,h.sb⟩
    obtain⟨s',e3,e4⟩:=D9 hS hW h2 hr
    refine⟨s',e3,λK hK=> ?_⟩
    simp only[jt,hx]
    refine⟨n6,?_⟩
    unfold j1
    rw[if_pos hq,if_pos hu]
    exact e2 _ (e4 K hK)
   ·rename_i hu
    split at hr<;>(try simp only[reduceCtorEq]at hr)
    rename_i τ ht
    obtain⟨t1,e1,_,e2⟩:=zt hS h ht
    obtain⟨s',e3,e4⟩:=D9 hS hW e1 hr
    refine⟨s',e3,λK hK=> ?_⟩
    simp only[jt,hx]
    refine⟨n6,?_⟩
    unfold j1
    rw[if_pos hq,if_neg hu]
    exact e2 _ (e4 K hK)
  ·rename_i hq
   split at hr<;>(try simp only[reduceCtorEq]at hr)
   rename_i τ ht
   split at hr<;>(try simp only[reduceCtorEq]at hr)
   rename_i hw
   obtain⟨t1,e1,ek,e2⟩:=zt hS h ht
   obtain⟨s',e3,e4⟩:=D9 hS hW e1 hr
   refine⟨s',e3,λK hK=> ?_⟩
   simp only[jt,hx]
   refine⟨n6,?_⟩
   unfold j1
   rw[if_neg hq]
   refine e2 _ ⟨λhu k b hk hb=> ?_,e4 K hK⟩
   rw[ek k,hb]
   ·exact⟨b,rfl,rfl⟩
   intro yf
   rw[Bool.or_eq_true]at hw
   rcases hw with hw|hw
   ·exact absurd (by simpa using hu) (by simpa using hw)
   ·have:=List.all_eq_true.1 hw k yf
    rw[this,hW]at hk;cases hk
def drW (SP:List Spec) (l:List AO) (u:List Nat):AS->List Nat->List Nat
 |_,[]=>[]
 |
  σ,i::r=>match l[i]?with
  |some x=>(if x.quiet=false&&u.contains i then KR σ x.dst x.k else [])++(match HX SP σ x with|some τ=>drW SP l u τ r|none=>[])
  |none=>[]
end Go.Ab
