/- Rules by which the abstract reading is worked out. No condition. -/
import Derived.Test.YtdfkcobijmbidaaGreatA4
set_option linter.all false
namespace Go.Ab
variable [eE]
variable {P:Program}
structure Pure (p:PV):Prop where
 refs:∀f,ab f p=true
 aI:∀ρ,aI ρ p=p
 gq:∀k sz l0,gq k sz l0 p=p
structure aB (l:List PV):Prop where
 refs:∀f,ae f l=true
 aI:∀ρ,aO ρ l=l
 gq:∀k sz l0,im k sz l0 l=l
theorem Pure.of {p:PV} (h:ab (λ_=>false) p=true):Pure p where
 refs f:=ig (by simp) p h
 aI ρ:=jR h
 gq k sz l0:=DR p (ig (by simp) p h)
theorem aB.of {l:List PV} (h:ae (λ_=>false) l=true):aB l where
 refs f:=fi (by simp) l h
 aI ρ:=mr h
 gq k sz l0:=nk l (fi (by simp) l h)
theorem aB.mk' {l:List PV} (h:∀p∈l,Pure p):aB l:=by
 refine aB.of ?_
 induction l with
 |nil=>rfl
 |cons p l ih=>simp only[ae,aJ];exact⟨(h p (by simp)).refs _,ih λq hq=>h q (by simp[hq])⟩
theorem aB.map {α:Type} {e:α->PV} (h:∀x,Pure (e x)) (l:List α):aB (l.map e):=
 aB.mk' λp hp=>by obtain⟨x,_,rfl⟩:=List.mem_map.1 hp;exact h x
theorem aB.forget {l:List PV} (h:aB l):∀p∈l,Pure p:=by
 intro p hp
 have h0:=h.refs (λ_=>false)
 refine Pure.of ?_
 clear h
 induction l with
 |nil=>simp at hp
 |
  cons q l ih=>
  simp only[ae,aJ]at h0
  rcases List.mem_cons.1 hp with rfl|hp
  ·exact h0.1
  ·exact ih hp h0.2
theorem aB.append {l m:List PV} (h:aB l) (h':aB m):aB (l++m):=
 aB.mk' λp hp=>by rcases List.mem_append.1 hp with hp|hp;exact h.forget p hp;exact h'.forget p hp
theorem aB.take {l:List PV} (h:aB l) (n:Nat):aB (l.take n):=aB.mk' λp hp=>h.forget p (List.mem_of_mem_take hp)
theorem aB.drop {l:List PV} (h:aB l) (n:Nat):aB (l.drop n):=aB.mk' λp hp=>h.forget p (List.mem_of_mem_drop hp)
theorem aB.sl {l:List PV} (h:aB l) (sz:Nat) (c:Bool):Pure (.sl sz l c):=Pure.of (by simp only[ab];exact h.refs _)
theorem aB.st {l:List PV} (h:aB l) (w:Nat):Pure (.st w l):=Pure.of (by simp only[ab];exact h.refs _)
theorem aB.ar {l:List PV} (h:aB l) (sz n:Nat):Pure (.ar sz n l):=Pure.of (by simp only[ab];exact h.refs _)
def si (sz bytes:Nat) (z:PV):cY:=⟨8,[.mv (.t 2)],
 .seq (.region [⟨(some 2),none,true,.mv (.c (.sl sz [] true))⟩])
 (.seq
    (.seq (.region [⟨(some 3),none,true,.mv (.t 0)⟩,
    ⟨(some 4),none,false,.isNil false (.t 3)⟩])
  (.cond (.t 4)
   (.seq (.region [⟨(some 2),none,true,.mv (.c (.sl sz [] true))⟩])
   (.ret))
   (.skip)))
 (.seq (.region [⟨(some 5),none,false,.buildSlice false sz z 0 []⟩,
   ⟨(some 6),none,true,.mv (.t 0)⟩,
   ⟨(some 7),none,false,.append sz bytes false (.t 5) (.t 6)⟩,
   ⟨(some 2),none,true,.mv (.t 7)⟩])
 (.ret)))⟩
theorem CN {f:FuncId} {sz bytes:Nat} {z:PV} (ht:kJ P [] [] f=some (si sz bytes z).er) (iQ:0<sz) {l:List PV} (hr:aB l) (c:Bool) (h1:l.length*bytes≤140737488355328) (h2:l.length≤9223372036854775807):
  af P f [.sl sz l c] [] (λr fp=>r= .rs KB [] 0 l.length l.length sz .tip∧fp=[.arr sz l]):=by
 refine af.intro ht (by simp[si]) ?_
 simp[si,aw,Hn,iN,lq,oc,ev,ex,vg,vx,get,an,zh,aG,St.put,put,za,dT,src,content,gZ]
 refine⟨⟨⟨h1,h2⟩,?_⟩,?_⟩
 ·refine⟨[],[7],?_⟩
  simp[iu,get,FI,ev,vg,vx,getAll,eU,fx,PV.flat,hr.refs,hr.aI,ab,ah,aZ,aI,aV,idx,bj]
 ·rintro rfl
  refine⟨[.vt 2 7 sz],[7],?_⟩
  simp[iu,jT,WW,iQ,get,put,FI,ev,vg,vx,getAll,eU,fx,PV.flat,ab,ae,ah,aZ,aI,aO,aV,idx,bj]
end Go.Ab
namespace Go.Ab
variable [eE]
variable {P:Program} [iZ]
@[congr] theorem aek {mx:Bool} {a a':Int} {l l':List PV} {K:Int->Prop} (h1:a=a') (h2:l=l'):mh mx a l K=mh mx a' l' K:=by subst h1 h2;rfl
@[congr] theorem axe {g g':Bool} {s s':St} {k:AK} {K:PV->Prop} (h:g=g') (h1:s=s'):ev g s k K=ev g' s' k K:=by subst h h1;rfl
@[congr] theorem aqj {s s':St} {o:AO} {K:St->Prop} (h:s=s'):iN P s o K=iN P s' o K:=by subst h;rfl
@[congr] theorem axf {s s':St} {c:dc} {Q:Exit->St->Prop} (h:s=s'):aw P c Q s=aw P c Q s':=by subst h;rfl
@[congr] theorem anF {s s':St} {c:List Cut} {K:St->Prop} (h:s=s'):iu c s K=iu c s' K:=by subst h;rfl
end Go.Ab
namespace Go.Ab
variable [eE]
variable {P:Program} {s:St} {g:Bool}
def dE {α:Type}:Option α->(α->Prop)->Prop
 |some a,K=>K a
 |none,_=>False
@[congr] theorem anG {α:Type} {o o':Option α} {K:α->Prop} (h:o=o'):dE o K=dE o' K:=by subst h;rfl
@[simp↓] theorem CO {α:Type} (a:α) (K:α->Prop):dE (some a) K=K a:=id rfl
@[simp↓] theorem aa8 {α:Type} (K:α->Prop):dE none K=False:=id rfl
def il (g:Bool):PV->(PV->Prop)->Prop
 | .gd b p,K=>(g=true->b=true)∧K p
 |p,K=>K p
@[congr] theorem aqk {g g':Bool} {p p':PV} {K:PV->Prop} (h:g=g') (h1:p=p'):il g p K=il g' p' K:=by subst h h1;rfl
theorem j4 (x:AX) (K:PV->Prop):vg g s x K=il g (vx s x) K:=by unfold vg;cases vx s x<;>rfl
def vF (x:Bool) (K:PV->Prop):PV->PV->Prop
 | .bl ya,.bl yb=>K (.bl (bif x then ya else yb))
 | .bl ya,.gd gb (.bl yb)=>(x=false->gb=true)∧K (.bl (bif x then ya else yb))
 | .gd ga (.bl ya),.bl yb=>(x=true->ga=true)∧K (.bl (bif x then ya else yb))
 | .gd ga (.bl ya),.gd gb (.bl yb)=>((x=true->ga=true)∧(x=false->gb=true))∧K (.bl (bif x then ya else yb))
 | .bl ya,.un=>x=true∧K (.bl ya)
 | .un,.bl yb=>x=false∧K (.bl yb)
 |_,_=>False
@[congr] theorem ael {x x':Bool} {K:PV->Prop} {p p' q q':PV} (h:x=x') (h1:p=p') (h2:q=q'):vF x K p q=vF x' K p' q':=by subst h h1 h2;rfl
def Uj (s:St) (a b:AX) (K:PV->Prop):PV->Prop
 | .bl x=>vF x K (vx s a) (vx s b)
 |_=>False
theorem W4 (c a b:AX) (K:PV->Prop):ev g s (.pick c a b) K=il g (vx s c) (Uj s a b K):=by
 simp only[ev,j4];congr 1
def DZ (ps:List (Nat×PV)) (K:PV->Prop):PV->Prop
 | .st w l=>dE (dT l ps) λl'=>K (.st w l')
 | .ar sz n l=>dE (dT l ps) λl'=>K (.ar sz n l')
 |_=>False
theorem Q1 (z:PV) (parts:List (Nat×AX)) (K:PV->Prop):ev g s (.build z parts) K=za g s parts λps=>DZ ps K z:=by
 simp only[ev];congr 1;funext ps;cases z<;>simp only[DZ]<;>first|rfl|(unfold dE;(repeat' split)<;>simp_all;done)
def Jc (s:St) (agg:Bool) (w:Nat) (K:PV->Prop):PV->Prop
 | .pt k p aE=>dE (get s.bx k) λblk=>dE (mL blk p) λu=>(aE=blk.aE∧u.width=w∧u.isAgg=agg)∧K u
 | .fp sz l p=>dE (mL (.arr sz l) p) λu=>(u.width=w∧u.isAgg=agg)∧K u
 |_=>False
theorem W5 (agg:Bool) (w:Nat) (x:AX) (K:PV->Prop):ev g s (.load agg w x) K=il g (vx s x) (Jc s agg w K):=by
 simp only[ev,j4];congr 1;funext p;cases p<;>simp only[Jc]<;>first|rfl|(unfold dE;(repeat' split)<;>simp_all;done)
def W6 (s:St) (K:PV->Prop):PV->Prop
 | .pt k p aE=>dE (get s.bx k) λblk=>aE=blk.aE∧K (.pt k p aE)
 | .fp sz l p=>K (.fp sz l p)
 | .fn (.func f) a b=>K (.fn (.func f) a b)
 |_=>False
theorem HD (x:AX) (K:PV->Prop):ev g s (.nilCheck x) K=il g (vx s x) (W6 s K):=by
 simp only[ev,j4];congr 1;funext p
 cases p<;>(try (rename_i f a b;cases f))<;>simp only[W6]<;>first|rfl|(unfold dE;(repeat' split)<;>simp_all;done)
def aem (s:St) (op:BinOp) (K:PV->Prop):PV->PV->Prop
 | .np,.np=>tQ op true K
 | .pt k _ aE,.np=>dE (get s.bx k) λblk=>aE=blk.aE∧tQ op false K
 | .fp _ _ _,.np=>tQ op false K
 |_,_=>False
def kW (op:BinOp) (K:PV->Prop):PV->PV->Prop
 | .int k a,.int k' b=>(op= .shl∨op= .shr∨k=k')∧pn op k a b K
 | .str a,.str b=>wT op a b K
 |_,_=>False
def aen (op:BinOp) (K:PV->Prop):PV->PV->Prop
 | .bl a,.bl b=>tQ op (a==b) K
 |_,_=>False
theorem W7 (op:BinOp) (x y:AX) (K:PV->Prop):ev g s (.bin op .no x y) K=il g (vx s x) λp=>il g (vx s y) λq=>kW op K p q:=by
 simp only[ev,j4];congr 1
theorem W8 (op:BinOp) (x y:AX) (K:PV->Prop):ev g s (.bin op .bl x y) K=il g (vx s x) λp=>il g (vx s y) λq=>aen op K p q:=by
 simp only[ev,j4];congr 1
theorem W9 (op:BinOp) (x y:AX) (K:PV->Prop):ev g s (.bin op .ptr x y) K=il g (vx s x) λp=>il g (vx s y) λq=>aem s op K p q:=by
 simp only[ev,j4];congr 1;funext p;congr 1;funext q;cases p<;>cases q<;>simp only[qh,aem]<;>first|rfl|(unfold dE;(repeat' split)<;>simp_all;done)
theorem Xa (op:BinOp) (sh:Sh) (x y:AX) (K:PV->Prop):ev g s (.bin op (.sh sh) x y) K=il g (vx s x) λp=>il g (vx s y) λq=>(fits sh p=true∧fits sh q=true)∧tQ op (PV.beq p q) K:=by
 simp only[ev,j4];congr 1
def sj (K:Int->Prop):PV->Prop
 | .int _ n=>K n
 |_=>False
theorem oP (p:PV) (K:Int->Prop):mM p K=sj K p:=by cases p<;>rfl
def unK (op:UnOp) (K:PV->Prop):PV->Prop
 | .bl b=>(match op with| .not=>K (.bl (!b))|_=>False)
 | .int k n=>(match op with| .neg=>K (.int k (k.wrap (0-n)))| .xor=>K (.int k (bits .xor k (if k.signed then-1 else k.max) n))|_=>False)
 |_=>False
theorem aql (op:UnOp) (x:AX) (K:PV->Prop):ev g s (.un op x) K=il g (vx s x) (unK op K):=by
 simp only[ev,j4];congr 1;funext p;cases p<;>cases op<;>rfl
def xl (s:St) (K:Nat->List PV->Prop):PV->Prop
 | .sl sz l _=>K sz l
 |
  .rs k p off len aE sz _=>dE (get s.bx k) λ
  | .arr bL l=>(aE=l.length∧p=[]∧sz=bL∧off+len≤l.length)∧K sz ((l.drop off).take len)
  |
   .box v=>dE (aQ v p) λ
   | .ar bL n l=>(aE=0∧sz=bL∧off+len≤n)∧K sz ((l.drop off).take len)
   |_=>False
  | .map .. =>False
 |_=>False
theorem sV (p:PV) (K:Nat->List PV->Prop):content s p K=xl s K p:=by
 cases p<;>simp only[content,xl]
 rename_i k p off len aE sz c
 cases get s.bx k with
 |none=>rfl
 |
  some b=>
  cases b with
  |arr bL l=>rfl
  |
   box v=>
   simp only[CO]
   cases aQ v p with
   |none=>rfl
   |some u=>cases u<;>rfl
  |map b ks vs l=>rfl
theorem Q2 (x:AX) (K:PV->Prop):ev g s (.convS x) K=il g (vx s x) (xl s λsz l=>sz=1∧dE (iV l) λbs=>K (.str bs)):=by
 simp only[ev,j4];congr 1;funext p;rw[sV];congr 1;funext sz l;cases iV l<;>rfl
def zk (s:St) (i off:Nat) (K:PV->Prop):PV->Prop
 | .pt k p aE=>dE (get s.bx k) λblk=>aE=blk.aE∧K (.pt k (p++[.f i off]) aE)
 | .fp sz l p=>K (.fp sz l (p++[.f i off]))
 |_=>False
theorem Nc (i off:Nat) (x:AX) (K:PV->Prop):ev g s (.fieldA i off x) K=il g (vx s x) (zk s i off K):=by
 simp only[ev,j4];congr 1;funext p;cases p<;>simp only[zk]<;>first|rfl|(unfold dE;(repeat' split)<;>simp_all;done)
def aeo (s:St) (n sz:Nat) (K:PV->Prop):PV->Prop
 | .sl bL l _=>(bL=sz∧0<n∧n≤l.length)∧K (.fp sz l [.w 0 n sz])
 | .rs k p off len aE bL _=>dE (get s.bx k) λblk=>(aE=blk.aE∧bL=sz∧0<n∧n≤len)∧K (.pt k (p++[.w off n sz]) aE)
 |_=>False
theorem aep (n sz:Nat) (x:AX) (K:PV->Prop):ev g s (.s2a n sz x) K=il g (vx s x) (aeo s n sz K):=by
 simp only[ev,j4];congr 1;funext p;cases p<;>simp only[aeo]<;>first|rfl|(unfold dE;(repeat' split)<;>simp_all;done)
def Nd (i off:Nat) (agg:Bool) (w:Nat) (K:PV->Prop):PV->Prop
 | .st _ l=>dE l[i]? λc=>(az (l.take i)=off∧c.width=w∧c.isAgg=agg)∧K c
 |_=>False
theorem Q3 (i off:Nat) (agg:Bool) (w:Nat) (x:AX) (K:PV->Prop):ev g s (.field i off agg w x) K=il g (vx s x) (Nd i off agg w K):=by
 simp only[ev,j4];congr 1;funext p;cases p<;>simp only[Nd]<;>first|rfl|(unfold dE;(repeat' split)<;>simp_all;done)
def oQ (s:St) (sz:Nat) (j:Int) (K:PV->Prop):PV->Prop
 | .sl bL l _=>(bL=sz∧0≤j∧j<l.length)∧K (.fp sz l [.i j.toNat sz])
 | .rs k p off len aE bL _=>dE (get s.bx k) λblk=>(aE=blk.aE∧bL=sz∧0≤j∧j<len)∧K (.pt k (p++[.i (off+j.toNat) sz]) aE)
 |_=>False
theorem FK (sz:Nat) (x i:AX) (K:PV->Prop):ev g s (.indexA (.sl sz) x i) K=il g (vx s x) λp=>il g (vx s i) (sj λj=>oQ s sz j K p):=by
 simp only[ev,j4,oP];congr 1;funext p;congr 1;funext q;congr 1;funext j;cases p<;>simp only[oQ]<;>first|rfl|(unfold dE;(repeat' split)<;>simp_all;done)
def Nf (s:St) (sz:Nat) (j:Int) (K:PV->Prop):PV->Prop
 | .pt k p aE=>dE (get s.bx k) λblk=>aE=blk.aE∧K (.pt k (p++[.i j.toNat sz]) aE)
 | .fp bL l p=>K (.fp bL l (p++[.i j.toNat sz]))
 |_=>False
theorem FL (n sz:Nat) (x i:AX) (K:PV->Prop):ev g s (.indexA (.ar n sz) x i) K=il g (vx s x) λp=>il g (vx s i) (sj λj=>(0≤j∧j<n)∧Nf s sz j K p):=by
 simp only[ev,j4,oP];congr 1;funext p;congr 1;funext q;congr 1;funext j;cases p<;>simp only[Nf]<;>first|rfl|(unfold dE;(repeat' split)<;>simp_all;done)
@[congr] theorem aeq {s s':St} {sz:Nat} {j j':Int} {K:PV->Prop} {p p':PV} (h:s=s') (h1:j=j') (h2:p=p'):oQ s sz j K p=oQ s' sz j' K p':=by subst h h1 h2;rfl
def aer (agg:Bool) (n w:Nat) (j:Int) (K:PV->Prop):PV->Prop
 | .ar sz n' l=>dE l[j.toNat]? λc=>(0≤j∧j<n∧n'=n∧sz=w∧c.isAgg=agg)∧K c
 |_=>False
theorem Q4 (agg:Bool) (n w:Nat) (x i:AX) (K:PV->Prop):ev g s (.index agg n w x i) K=il g (vx s x) λp=>il g (vx s i) (sj λj=>aer agg n w j K p):=by
 simp only[ev,j4,oP];congr 1;funext p;congr 1;funext q;congr 1;funext j;cases p<;>simp only[aer]<;>first|rfl|(unfold dE;(repeat' split)<;>simp_all;done)
def aes (j:Int) (K:PV->Prop):PV->Prop
 | .str bs=>dE bs[j.toNat]? λc=>0≤j∧K (.int .u8 c.toNat)
 |_=>False
theorem Ng (x i:AX) (K:PV->Prop):ev g s (.indexS x i) K=il g (vx s x) λp=>il g (vx s i) (sj λj=>aes j K p):=by
 simp only[ev,j4,oP];congr 1;funext p;congr 1;funext q;congr 1;funext j;cases p<;>simp only[aes]<;>first|rfl|(unfold dE;(repeat' split)<;>simp_all;done)
def Nh (i:Nat) (K:PV->Prop):PV->Prop
 | .tup l=>dE l[i]? K
 |_=>False
@[congr] theorem anH {i:Nat} {K:PV->Prop} {p p':PV} (h:p=p'):Nh i K p=Nh i K p':=by subst h;rfl
theorem KC (i:Nat) (x:AX) (K:PV->Prop):ev g s (.extract i x) K=Nh i K (vx s x):=by
 simp only[ev];cases vx s x<;>simp only[Nh]<;>first|rfl|(unfold dE;(repeat' split)<;>simp_all;done)
def xm (s:St) (K:PV->Prop):PV->Prop
 | .sl _ l _=>K (.int .i64 l.length)
 | .rs k _ _ len aE _ _=>dE (get s.bx k) λblk=>aE=blk.aE∧K (.int .i64 len)
 |_=>False
theorem aet (x:AX) (K:PV->Prop):ev g s (.len x) K=il g (vx s x) (xm s K):=by
 simp only[ev,j4];congr 1;funext p;cases p<;>simp only[xm]<;>first|rfl|(unfold dE;(repeat' split)<;>simp_all;done)
end Go.Ab
namespace Go.Ab
variable [eE]
variable {P:Program} {s:St} {g:Bool}
def Uk (s:St) (g:Bool) (lo hi mx:Option AX) (K:PV->Prop):PV->Prop
 | .str bs=>mx.isNone=true∧jM g s lo hi bs.length bs.length λl h=>K (.str ((bs.take h).drop l))
 |_=>False
theorem FM (x:AX) (lo hi mx:Option AX) (K:PV->Prop):ev g s (.slice .str x lo hi mx) K=il g (vx s x) (Uk s g lo hi mx K):=by
 simp only[ev,j4];congr 1
def Xb (s:St) (g:Bool) (n sz:Nat) (lo hi mx:Option AX) (K:PV->Prop):PV->Prop
 | .ar z' n' l'=>(z'=sz∧n'=n∧mx.isNone=true)∧jM g s lo hi n n λa b=>K (.sl sz ((l'.take b).drop a) (decide (b=n)))
 |_=>False
def Q5 (s:St) (g:Bool) (n sz:Nat) (lo hi mx:Option AX) (K:PV->Prop):PV->Prop
 | .pt k p aE=>dE (get s.bx k) λblk=>aE=blk.aE∧mx.isNone=true∧jM g s lo hi n n λa b=>K (.rs k p a (b-a) aE sz (if b=n then .clip else .any))
 | .fp z l q=>dE (mL (.arr z l) q) (Xb s g n sz lo hi mx K)
 |_=>False
theorem HE (n sz:Nat) (x:AX) (lo hi mx:Option AX) (K:PV->Prop):ev g s (.slice (.ar n sz) x lo hi mx) K=il g (vx s x) (Q5 s g n sz lo hi mx K):=by
 simp only[ev,j4];congr 1;funext p;cases p<;>simp only[Q5]<;>first|rfl|(unfold dE;(repeat' split)<;>simp_all;done)|(rename_i z l q;cases mL (.arr z l) q with|none=>rfl|some u=>cases u<;>rfl)
def tj (s:St) (g:Bool) (sz:Nat) (lo hi:Option AX) (K:PV->Prop):PV->Prop
 | .sl bL l clip=>jM g s lo hi l.length l.length λa b=>(bL=sz)∧K (.sl sz ((l.take b).drop a) (clip&&decide (b=l.length)))
 | .rs k p off len aE bL c=>dE (get s.bx k) λblk=>(aE=blk.aE∧bL=sz)∧jM g s lo hi len (z9 c off len aE) λa b=>K (.rs k p (off+a) (b-a) aE sz (Dv c a (decide (b=len))))
 |_=>False
theorem HF (sz:Nat) (x:AX) (lo hi:Option AX) (K:PV->Prop):ev g s (.slice (.sl sz) x lo hi none) K=il g (vx s x) (tj s g sz lo hi K):=by
 simp only[ev,j4];congr 1;funext p;cases p<;>simp only[tj]<;>first|rfl|(unfold dE;(repeat' split)<;>simp_all;done)
@[simp] theorem aeu (off len aE:Nat):z9 .tip off len aE=len:=_root_.id rfl
@[simp] theorem aa9 (n off len aE:Nat):z9 (.full n) off len aE=if off+n≤aE∧len≤n then n else len:=_root_.id rfl
@[simp] theorem aev (a:Nat) (e:Bool):Dv .tip a e= .tip:=_root_.id rfl
@[simp] theorem aba (n a:Nat) (e:Bool):Dv (.full n) a e= .full (n-a):=_root_.id rfl
def Ni (s:St) (g:Bool) (sz:Nat) (lo hi:Option AX) (m:AX) (K:PV->Prop):PV->Prop
 | .sl bL l _=>il g (vx s m) (sj λm=>(0≤m∧m≤l.length)∧jM g s lo hi l.length m.toNat λa b=>(bL=sz)∧K (.sl sz ((l.take b).drop a) (decide (b=m.toNat))))
 | .rs k p off len aE bL _=>dE (get s.bx k) λblk=>(aE=blk.aE∧bL=sz)∧il g (vx s m) (sj λm=>(0≤m∧m≤len)∧jM g s lo hi len m.toNat λa b=>K (.rs k p (off+a) (b-a) aE sz (if b=m.toNat then .clip else .any)))
 |_=>False
theorem HG (sz:Nat) (x:AX) (lo hi:Option AX) (m:AX) (K:PV->Prop):ev g s (.slice (.sl sz) x lo hi (some m)) K=il g (vx s x) (Ni s g sz lo hi m K):=by
 simp only[ev,j4];congr 1;funext p;cases p<;>simp only[Ni,oP]<;>first|rfl|(unfold dE;(repeat' split)<;>simp_all;done)
def KD (g:Bool) (s:St) (lo:Option AX) (K:Nat->Nat->Prop) (h:Nat):Prop:=
 match lo with|none=>K 0 h|some x=>il g (vx s x) (sj λl=>(0≤l∧l≤h)∧K l.toNat h)
theorem Nj (lo:Option AX) (len cap:Nat) (K:Nat->Nat->Prop):jM g s lo none len cap K=KD g s lo K len:=by
 cases lo<;>simp only[jM,KD,j4,oP]
theorem Nk (lo:Option AX) (x:AX) (len cap:Nat) (K:Nat->Nat->Prop):jM g s lo (some x) len cap K=il g (vx s x) (sj λh=>(0≤h∧h≤cap)∧KD g s lo K h.toNat):=by
 cases lo<;>simp only[jM,KD,j4,oP]
end Go.Ab
namespace Go.Ab
variable [eE]
variable {P:Program} {s:St} {g:Bool}
def Q6 (s:St) (sz:Nat) (K:List PV->Prop) (q:PV):Prop:=xl s (λbL ys=>(ys=[]∨bL=sz)∧K ys) q
theorem Ul (sz:Nat) (q:PV) (K:List PV->Prop):src s false sz q K=Q6 s sz K q:=by simp only[src,fJ,if_false,Q6,sV]
def aew (sz:Nat) (K:List PV->Prop):PV->Prop
 | .str bs=>sz=1∧K (bs.map u8)
 |_=>False
theorem Nl (sz:Nat) (q:PV) (K:List PV->Prop):src s true sz q K=aew sz K q:=by simp only[src,if_true];cases q<;>rfl
theorem Nm (d:Option Nat) (sz bytes:Nat) (str:Bool) (x y:AX) (K:St->Prop):ex s d (.append sz bytes str x y) K=il true (vx s x) λp=>il true (vx s y) λq=>src s str sz q λys=>gZ s d sz bytes p ys K:=by
 simp only[ex,j4]
theorem Q7 (k:Nat) (z:PV) (K:St->Prop):ex s (some k) (.alloc z) K=(get s.bx k=none∧K {env:=put s.env k (.pt k [] 0),bx:=put s.bx k (.box z)}):=id rfl
theorem aex (k:Nat) (x:AX) (K:St->Prop):ex s (some k) (.box x) K=il true (vx s x) λp=>(get s.bx k=none∧p.bp=true)∧K {env:=put s.env k (.pt k [] 0),bx:=put s.bx k (.box p)}:=by
 simp only[ex,j4]
theorem AT (d:Option Nat) (sz n:Nat) (z:PV) (parts:List (Nat×AX)) (K:St->Prop):ex s d (.buildSlice false sz z n parts) K=za true s parts λps=>dE (dT (List.replicate n z) (ps.map λx=>(x.1,wk x.2))) λl=>K (s.put d (.sl sz l true)):=by
 simp only[ex,fJ,if_false];congr 1;funext ps;cases dT (List.replicate n z) (ps.map λx=>(x.1,wk x.2))<;>rfl
theorem AU (k:Nat) (sz n:Nat) (z:PV) (parts:List (Nat×AX)) (K:St->Prop):ex s (some k) (.buildSlice true sz z n parts) K=za true s parts λps=>dE (dT (List.replicate n z) (ps.map λx=>(x.1,wk x.2))) λl=>get s.bx k=none∧K {env:=put s.env k (.rs k [] 0 n n sz .tip),bx:=put s.bx k (.arr sz l)}:=by
 simp only[ex,if_true];congr 1;funext ps;cases dT (List.replicate n z) (ps.map λx=>(x.1,wk x.2))<;>rfl
def Um (s:St) (d k len aE sz bL bytes:Nat) (ys:List PV) (K:St->Prop):bh->Prop
 | .arr sz'' l=>(aE=l.length∧len=l.length∧bL=sz∧sz''=sz∧(l.length+ys.length)*bytes≤140737488355328∧l.length+ys.length≤9223372036854775807)∧
   K {env:=put s.env d (.rs k [] 0 (l.length+ys.length) (l.length+ys.length) sz .tip),bx:=put s.bx k (.arr sz (l++ys))}
 |_=>False
theorem
    Q8 (d sz bytes sz0:Nat) (l ys:List PV) (K:St->Prop):gZ s (some d) sz bytes (.sl sz0 l true) ys K=((get s.bx d=none∧(l=[]∨(sz0=sz∧ys≠[]))∧(l.length+ys.length)*bytes≤140737488355328∧l.length+ys.length≤9223372036854775807)∧
    K {env:=put s.env d (.rs d [] 0 (l.length+ys.length) (l.length+ys.length) sz .tip),bx:=put s.bx d (.arr sz (l++ys))}):=rfl
theorem Nn (d sz bytes k len aE bL:Nat) (ys:List PV) (K:St->Prop):gZ s (some d) sz bytes (.rs k [] 0 len aE bL .tip) ys K=dE (get s.bx k) (Um s d k len aE sz bL bytes ys K):=by
 simp only[gZ]
 cases get s.bx k with
 |none=>rfl
 |some b=>cases b<;>rfl
def No (s:St) (d k len aE n sz bL bytes:Nat) (ys:List PV) (K:St->Prop):bh->Prop
 | .arr sz'' l=>(aE=l.length∧bL=sz∧sz''=sz∧len≤n∧n≤l.length∧ys≠[]∧get s.bx d=none∧(len+ys.length)*bytes≤140737488355328∧len+ys.length≤9223372036854775807)∧
    (len+ys.length≤n->K {env:=put s.env d (.rs k [] 0 (len+ys.length) aE sz (.full n)),bx:=put s.bx k (.arr sz (l.take len++ys++l.drop (len+ys.length)))})∧
    (n<len+ys.length->K {env:=put s.env d (.rs d [] 0 (len+ys.length) (len+ys.length) sz .tip),bx:=put s.bx d (.arr sz (l.take len++ys))})
 |_=>False
theorem KE (d sz bytes k len aE bL n:Nat) (ys:List PV) (K:St->Prop):gZ s (some d) sz bytes (.rs k [] 0 len aE bL (.full n)) ys K=dE (get s.bx k) (No s d k len aE n sz bL bytes ys K):=by
 simp only[gZ]
 cases get s.bx k with
 |none=>rfl
 |some b=>cases b<;>rfl
def apZ (s:St) (d k len aE n sz bL bytes:Nat) (z:PV) (m:Int) (K:St->Prop):bh->Prop
 | .arr sz'' l=>(get s.bx d=none∧aE=l.length∧bL=sz∧sz''=sz∧len≤n∧n≤l.length∧0<m∧n<len+m.toNat∧(len+m.toNat)*bytes≤140737488355328∧len+m.toNat≤9223372036854775807)∧
    K {env:=put s.env d (.rs d [] 0 (len+m.toNat) (len+m.toNat) sz .tip),bx:=put s.bx d (.arr sz (l.take len++List.replicate m.toNat z))}
 |_=>False
theorem HH (d sz bytes k len aE bL n:Nat) (z:PV) (m:Int) (K:St->Prop):oI s (some d) sz bytes z (.rs k [] 0 len aE bL (.full n)) m K=dE (get s.bx k) (apZ s d k len aE n sz bL bytes z m K):=by
 simp only[oI]
 cases get s.bx k with
 |none=>rfl
 |some b=>cases b<;>rfl
theorem KF (d:Option Nat) (sz bytes:Nat) (z:PV) (x y:AX) (K:St->Prop):ex s d (.appendZ sz bytes z x y) K=il true (vx s x) λp=>il true (vx s y) (sj λm=>oI s d sz bytes z p m K):=by
 simp only[ex,j4,oP]
theorem
    KG (d sz bytes k off len aE bL:Nat) (p:List Step) (ys:List PV) (K:St->Prop):gZ s (some d) sz bytes (.rs k p off len aE bL .clip) ys K=xl s (λsz'' l=>(get s.bx d=none∧sz''=sz∧ys≠[]∧(l.length+ys.length)*bytes≤140737488355328∧l.length+ys.length≤9223372036854775807)∧
    K {env:=put s.env d (.rs d [] 0 (l.length+ys.length) (l.length+ys.length) sz .tip),bx:=put s.bx d (.arr sz (l++ys))}) (.rs k p off len aE bL .clip):=by
 rw[←sV]
 cases p<;>cases off<;>rfl
end Go.Ab
namespace Go.Ab
variable [eE]
variable {P:Program} {s:St} {g:Bool} [iZ]
def HI (s:St) (n:Nat) (v:PV) (K:St->Prop):PV->Prop
 | .pt k pth aE=>dE (get s.bx k) λblk=>dE (qf blk pth (Ue blk v)) λcI=>(aE=blk.aE∧v.width=n∧v.bp=true)∧K {s with bx:=put s.bx k cI}
 |_=>False
theorem Q9 (d:Option Nat) (n:Nat) (x y:AX) (K:St->Prop):ex s d (.store n x y) K=il true (vx s x) λp=>il true (vx s y) λv=>HI s n v K p:=by
 simp only[ex,j4];congr 1;funext p;congr 1;funext v
 cases p<;>simp only[HI]
 rename_i k pth aE
 cases get s.bx k with
 |none=>rfl
 |some b=>simp only[CO];cases qf b pth (Ue b v)<;>rfl
def Np (s:St) (d:Option Nat) (ng:Bool) (K:St->Prop):PV->Prop
 | .sl _ l _=>∀b:Bool,(b=true->l=[])->K (s.put d (.bl (b !=ng)))
 | .rs k _ _ len aE _ _=>dE (get s.bx k) λblk=>aE=blk.aE∧∀b:Bool,(b=true->len=0)->K (s.put d (.bl (b !=ng)))
 |_=>False
theorem Ra (d:Option Nat) (ng:Bool) (x:AX) (K:St->Prop):ex s d (.isNil ng x) K=il true (vx s x) (Np s d ng K):=by
 simp only[ex,j4];congr 1;funext p
 cases p<;>simp only[Np]
 rename_i k _ _ _ _ _ _
 cases get s.bx k<;>rfl
theorem FN (k sz bytes:Nat) (z:PV) (len cap:AX) (K:St->Prop):ex s (some k) (.makeSlice sz bytes z len cap) K=il true (vx s len) (sj λl=>il true (vx s cap) (sj λc=>
  (get s.bx k=none∧0≤l∧l≤c∧c*bytes≤281474976710656∧c≤9223372036854775807)∧
    K {env:=put s.env k (.rs k [] 0 l.toNat l.toNat sz .tip),bx:=put s.bx k (.arr sz (List.replicate l.toNat z))})):=by
 simp only[ex,j4,oP]
def yN (want mg:Bool) (M:Bool->Prop) (D U:Prop):PV->Prop
 | .bl b=>if mg=true then M (b==want)else(b=want->D)∧(b≠want->U)
 | .gd g (.bl b)=>if mg=true then M (g&&b==want)else(g=true->b=want->D)∧((g=true->b≠want)->U)
 |_=>False
@[congr] theorem aqm {want mg:Bool} {M:Bool->Prop} {D U:Prop} {p p':PV} (h:p=p'):yN want mg M D U p=yN want mg M D U p':=by subst h;rfl
theorem Rb (d:Option Nat) (sl:Nat) (want mg:Bool) (k:AK) (K:St->Prop):iN P s ⟨d,some (sl,want),mg,k⟩ K=
  yN want mg (λg=>ev g s k λp=>K (s.put d (.gd g p))) (lq P s ⟨d,some (sl,want),mg,k⟩ K) (K (s.put d .un)) ((get s.env sl).getD .un):=by
 simp only[iN]
 generalize (get s.env sl).getD .un=p
 cases p<;>try rfl
def Xc (A B:Prop):PV->Prop
 | .bl b=>(b=true->A)∧(b=false->B)
 | .gd g (.bl b)=>g=true∧(b=true->A)∧(b=false->B)
 |_=>False
@[congr] theorem aqn {A B:Prop} {p p':PV} (h:p=p'):Xc A B p=Xc A B p':=by subst h;rfl
theorem Xe (c:AX) (x y:dc) (Q:Exit->St->Prop):aw P (.cond c x y) Q s=Xc (aw P x Q s) (aw P y Q s) (vx s c):=by
 simp only[aw]
 generalize vx s c=p
 cases p<;>try rfl
def aey (P:Program) (s:St) (d:Option Nat) (K:St->Prop) (args:List PV):PV->Prop
 | .fn (.func fid) first cap=>∃ks os,tB P s d fid (first++args++cap) ks os K
 | .fn (.yield l) [] []=>Hh s d l args K
 |_=>False
theorem Rc (K:List PV->Prop):tR g s [] K=K []:=id rfl
theorem Rd (x:AX) (xs:List AX) (K:List PV->Prop):tR g s (x::xs) K=il g (vx s x) λp=>tR g s xs λps=>K (p::ps):=by simp only[tR,j4]
theorem Re (K:List (Nat×PV)->Prop):za g s [] K=K []:=id rfl
theorem Rf (i:Nat) (x:AX) (xs:List (Nat×AX)) (K:List (Nat×PV)->Prop):za g s ((i,x)::xs) K=il g (vx s x) λp=>za g s xs λps=>K ((i,p)::ps):=by simp only[za,j4]
theorem Rg (d:Option Nat) (f:AX) (args:List AX) (K:St->Prop):lp P s d f args K=il true (vx s f) λpf=>tR true s args λps=>aey P s d K ps pf:=by
 simp only[lp,j4];congr 1
end Go.Ab
namespace Go.Ab
variable [eE]
@[simp↓] theorem aqo {g:Bool} {K:PV->Prop} (cx:Bool):il g (.bl cx) K=K (.bl cx):=id rfl
@[simp↓] theorem anI {g:Bool} {K:PV->Prop} (ck:IntKind) (cn:Int):il g (.int ck cn) K=K (.int ck cn):=id rfl
@[simp↓] theorem anJ {g:Bool} {K:PV->Prop} (cl:List UInt8):il g (.str cl) K=K (.str cl):=id rfl
@[simp↓] theorem aqp {g:Bool} {K:PV->Prop} (cw:Nat) (cl:List PV):il g (.st cw cl) K=K (.st cw cl):=id rfl
@[simp↓] theorem aqq {g:Bool} {K:PV->Prop} (cz cn:Nat) (cl:List PV):il g (.ar cz cn cl) K=K (.ar cz cn cl):=id rfl
@[simp↓] theorem anK {g:Bool} {K:PV->Prop} (cl:List PV):il g (.tup cl) K=K (.tup cl):=id rfl
@[simp↓] theorem aqr {g:Bool} {K:PV->Prop} (cz:Nat) (cl:List PV) (cc:Bool):il g (.sl cz cl cc) K=K (.sl cz cl cc):=id rfl
@[simp↓] theorem aqs {g:Bool} {K:PV->Prop} (ck:Nat) (cp:List Step) (co cl ct cz:Nat) (cc:jA):il g (.rs ck cp co cl ct cz cc) K=K (.rs ck cp co cl ct cz cc):=id rfl
@[simp↓] theorem aqt {g:Bool} {K:PV->Prop}:il g .np K=K .np:=id rfl
@[simp↓] theorem aqu {g:Bool} {K:PV->Prop} (ck:Nat) (cp:List Step) (ct:Nat):il g (.pt ck cp ct) K=K (.pt ck cp ct):=id rfl
@[simp↓] theorem aqv {g:Bool} {K:PV->Prop} (cz:Nat) (cl:List PV) (cp:List Step):il g (.fp cz cl cp) K=K (.fp cz cl cp):=id rfl
@[simp↓] theorem aqw {g:Bool} {K:PV->Prop} (cf:FuncId) (ca cb:List PV):il g (.fn (.func cf) ca cb) K=K (.fn (.func cf) ca cb):=id rfl
@[simp↓] theorem aqx {g:Bool} {K:PV->Prop} (cb:Bool) (cv:PV):il g (.gd cb cv) K=((g=true->cb=true)∧K cv):=id rfl
@[simp↓] theorem aez {s:St} {agg:Bool} {w:Nat} {K:PV->Prop} (ck:Nat) (cp:List Step) (ct:Nat):Jc s agg w K (.pt ck cp ct)=(dE (get s.bx ck) λblk=>dE (mL blk cp) λu=>(ct=blk.aE∧u.width=w∧u.isAgg=agg)∧K u):=id rfl
@[simp↓] theorem aeA {s:St} {agg:Bool} {w:Nat} {K:PV->Prop} (cz:Nat) (cl:List PV) (cp:List Step):Jc s agg w K (.fp cz cl cp)=(dE (mL (.arr cz cl) cp) λu=>(u.width=w∧u.isAgg=agg)∧K u):=id rfl
@[simp↓] theorem anL {s:St} {K:PV->Prop} (ck:Nat) (cp:List Step) (ct:Nat):W6 s K (.pt ck cp ct)=(dE (get s.bx ck) λblk=>ct=blk.aE∧K (.pt ck cp ct)):=id rfl
@[simp↓] theorem abb {ps:List (Nat×PV)} {K:PV->Prop} (cw:Nat) (cl:List PV):DZ ps K (.st cw cl)=(dE (dT cl ps) λl'=>K (.st cw l')):=id rfl
@[simp↓] theorem abc {ps:List (Nat×PV)} {K:PV->Prop} (cz cn:Nat) (cl:List PV):DZ ps K (.ar cz cn cl)=(dE (dT cl ps) λl'=>K (.ar cz cn l')):=id rfl
@[simp↓] theorem aeB {K:Int->Prop} (ck:IntKind) (cn:Int):sj K (.int ck cn)=(K cn):=id rfl
@[simp↓] theorem anM {s:St} {K:Nat->List PV->Prop} (cz:Nat) (cl:List PV) (cc:Bool):xl s K (.sl cz cl cc)=(K cz cl):=id rfl
@[simp↓] theorem Xf {s:St} {i off:Nat} {K:PV->Prop} (ck:Nat) (cp:List Step) (ct:Nat):zk s i off K (.pt ck cp ct)=(dE (get s.bx ck) λblk=>ct=blk.aE∧K (.pt ck (cp++[.f i off]) ct)):=id rfl
@[simp↓] theorem Xh {s:St} {i off:Nat} {K:PV->Prop} (cz:Nat) (cl:List PV) (cp:List Step):zk s i off K (.fp cz cl cp)=(K (.fp cz cl (cp++[.f i off]))):=id rfl
@[simp↓] theorem aeC {s:St} {sz:Nat} {j:Int} {K:PV->Prop} (cz:Nat) (cl:List PV) (cc:Bool):oQ s sz j K (.sl cz cl cc)=((cz=sz∧0≤j∧j<cl.length)∧K (.fp sz cl [.i j.toNat sz])):=id rfl
@[simp↓] theorem aeD {s:St} {sz:Nat} {j:Int} {K:PV->Prop} (ck:Nat) (cp:List Step) (co cl ct cz:Nat) (cc:jA):oQ s sz j K (.rs ck cp co cl ct cz cc)=(dE (get s.bx ck) λblk=>(ct=blk.aE∧cz=sz∧0≤j∧j<cl)∧K (.pt ck (cp++[.i (co+j.toNat) sz]) ct)):=id rfl
@[simp↓] theorem aeE {s:St} {sz:Nat} {j:Int} {K:PV->Prop} (ck:Nat) (cp:List Step) (ct:Nat):Nf s sz j K (.pt ck cp ct)=(dE (get s.bx ck) λblk=>ct=blk.aE∧K (.pt ck (cp++[.i j.toNat sz]) ct)):=id rfl
@[simp↓] theorem aeF {i:Nat} {K:PV->Prop} (cl:List PV):Nh i K (.tup cl)=(dE cl[i]? K):=id rfl
@[simp↓] theorem anN {s:St} {K:PV->Prop} (cz:Nat) (cl:List PV) (cc:Bool):xm s K (.sl cz cl cc)=(K (.int .i64 cl.length)):=id rfl
@[simp↓] theorem anO {s:St} {K:PV->Prop} (ck:Nat) (cp:List Step) (co cl ct cz:Nat) (cc:jA):xm s K (.rs ck cp co cl ct cz cc)=(dE (get s.bx ck) λblk=>ct=blk.aE∧K (.int .i64 cl)):=id rfl
@[simp↓] theorem abd {s:St} {g:Bool} {lo hi mx:Option AX} {K:PV->Prop} (cl:List UInt8):Uk s g lo hi mx K (.str cl)=(mx.isNone=true∧jM g s lo hi cl.length cl.length λl h=>K (.str ((cl.take h).drop l))):=id rfl
@[simp↓] theorem anP {s:St} {g:Bool} {n sz:Nat} {lo hi mx:Option AX} {K:PV->Prop} (cz:Nat) (cl:List PV) (cp:List Step):Q5 s g n sz lo hi mx K (.fp cz cl cp)=dE (mL (.arr cz cl) cp) (Xb s g n sz lo hi mx K):=id rfl
@[simp↓] theorem anQ {s:St} {g:Bool} {n sz:Nat} {lo hi mx:Option AX} {K:PV->Prop} (z' n':Nat) (l':List PV):Xb s g n sz lo hi mx K (.ar z' n' l')=((z'=sz∧n'=n∧mx.isNone=true)∧jM g s lo hi n n λa b=>K (.sl sz ((l'.take b).drop a) (decide (b=n)))):=id rfl
@[simp↓] theorem anR {s:St} {g:Bool} {n sz:Nat} {lo hi mx:Option AX} {K:PV->Prop} (ck:Nat) (cp:List Step) (ct:Nat):Q5 s g n sz lo hi mx K (.pt ck cp ct)=(dE (get s.bx ck) λblk=>ct=blk.aE∧mx.isNone=true∧jM g s lo hi n n λa b=>K (.rs ck cp a (b-a) ct sz (if b=n then .clip else .any))):=id rfl
@[simp↓] theorem abe {s:St} {n:Nat} {v:PV} {K:St->Prop} (ck:Nat) (cp:List Step) (ct:Nat):HI s n v K (.pt ck cp ct)=(dE (get s.bx ck) λblk=>dE (qf blk cp (Ue blk v)) λcI=>(ct=blk.aE∧v.width=n∧v.bp=true)∧K {s with bx:=put s.bx ck cI}):=id rfl
@[simp↓500] theorem aqy {A B:Prop} (cx:Bool):Xc A B (.bl cx)=((cx=true->A)∧(cx=false->B)):=id rfl
@[simp↓] theorem aeG {s:St} {a b:AX} {K:PV->Prop} (cx:Bool):Uj s a b K (.bl cx)=(vF cx K (vx s a) (vx s b)):=id rfl
end Go.Ab
namespace Go.Ab
variable [eE]
variable {P:Program} {s:St} {g:Bool}
theorem aqz (x:AX) (K:PV->Prop):ev g s (.mv x) K=il g (vx s x) K:=by simp only[ev,j4]
theorem Rh (k:IntKind) (x:AX) (K:PV->Prop):ev g s (.convI k x) K=il g (vx s x) (sj λn=>K (.int k (k.wrap n))):=by simp only[ev,j4,oP]
theorem Xi (n:Nat) (K:PV->Prop):ev g s (.lenC n) K=K (.int .i64 n):=id rfl
end Go.Ab
namespace Go.Ab
variable [eE]
variable {P:Program} {s:St} [iZ]
@[simp↓] theorem aqA (d:Option Nat) (gd:Option (Nat×Bool)) (mg:Bool) (x:AX) (K:St->Prop):lq P s ⟨d,gd,mg,.mv x⟩ K=ev true s (.mv x) λp=>K (s.put d p):=id rfl
@[simp↓] theorem aeH (d:Option Nat) (gd:Option (Nat×Bool)) (mg:Bool) (c a b:AX) (K:St->Prop):lq P s ⟨d,gd,mg,.pick c a b⟩ K=ev true s (.pick c a b) λp=>K (s.put d p):=id rfl
@[simp↓] theorem abf (d:Option Nat) (gd:Option (Nat×Bool)) (mg:Bool) (z:PV) (ps:List (Nat×AX)) (K:St->Prop):lq P s ⟨d,gd,mg,.build z ps⟩ K=ev true s (.build z ps) λp=>K (s.put d p):=id rfl
@[simp↓] theorem aeI (d:Option Nat) (gd:Option (Nat×Bool)) (mg:Bool) (a:Bool) (w:Nat) (x:AX) (K:St->Prop):lq P s ⟨d,gd,mg,.load a w x⟩ K=ev true s (.load a w x) λp=>K (s.put d p):=id rfl
@[simp↓] theorem Ri (d:Option Nat) (gd:Option (Nat×Bool)) (mg:Bool) (x:AX) (K:St->Prop):lq P s ⟨d,gd,mg,.nilCheck x⟩ K=ev true s (.nilCheck x) λp=>K (s.put d p):=id rfl
@[simp↓] theorem anS (d:Option Nat) (gd:Option (Nat×Bool)) (mg:Bool) (o:BinOp) (e:ET) (x y:AX) (K:St->Prop):lq P s ⟨d,gd,mg,.bin o e x y⟩ K=ev true s (.bin o e x y) λp=>K (s.put d p):=id rfl
@[simp↓] theorem aqB (d:Option Nat) (gd:Option (Nat×Bool)) (mg:Bool) (o:UnOp) (x:AX) (K:St->Prop):lq P s ⟨d,gd,mg,.un o x⟩ K=ev true s (.un o x) λp=>K (s.put d p):=id rfl
@[simp↓] theorem abg (d:Option Nat) (gd:Option (Nat×Bool)) (mg:Bool) (k:IntKind) (x:AX) (K:St->Prop):lq P s ⟨d,gd,mg,.convI k x⟩ K=ev true s (.convI k x) λp=>K (s.put d p):=id rfl
@[simp↓] theorem abh (d:Option Nat) (gd:Option (Nat×Bool)) (mg:Bool) (x:AX) (K:St->Prop):lq P s ⟨d,gd,mg,.convS x⟩ K=ev true s (.convS x) λp=>K (s.put d p):=id rfl
@[simp↓] theorem Xj (d:Option Nat) (gd:Option (Nat×Bool)) (mg:Bool) (f:Fn) (a b:List AX) (K:St->Prop):lq P s ⟨d,gd,mg,.mkFunc f a b⟩ K=ev true s (.mkFunc f a b) λp=>K (s.put d p):=id rfl
@[simp↓] theorem abi (d:Option Nat) (gd:Option (Nat×Bool)) (mg:Bool) (k:SK) (x:AX) (l h m:Option AX) (K:St->Prop):lq P s ⟨d,gd,mg,.slice k x l h m⟩ K=ev true s (.slice k x l h m) λp=>K (s.put d p):=id rfl
@[simp↓] theorem Xk (d:Option Nat) (gd:Option (Nat×Bool)) (mg:Bool) (i o:Nat) (x:AX) (K:St->Prop):lq P s ⟨d,gd,mg,.fieldA i o x⟩ K=ev true s (.fieldA i o x) λp=>K (s.put d p):=id rfl
@[simp↓] theorem Xm (d:Option Nat) (gd:Option (Nat×Bool)) (mg:Bool) (k:SK) (x i:AX) (K:St->Prop):lq P s ⟨d,gd,mg,.indexA k x i⟩ K=ev true s (.indexA k x i) λp=>K (s.put d p):=id rfl
@[simp↓] theorem Un (d:Option Nat) (gd:Option (Nat×Bool)) (mg:Bool) (i:Nat) (x:AX) (K:St->Prop):lq P s ⟨d,gd,mg,.extract i x⟩ K=ev true s (.extract i x) λp=>K (s.put d p):=id rfl
@[simp↓] theorem anT (d:Option Nat) (gd:Option (Nat×Bool)) (mg:Bool) (x:AX) (K:St->Prop):lq P s ⟨d,gd,mg,.len x⟩ K=ev true s (.len x) λp=>K (s.put d p):=id rfl
@[simp↓] theorem anU (d:Option Nat) (gd:Option (Nat×Bool)) (mg:Bool) (x:AX) (K:St->Prop):lq P s ⟨d,gd,mg,.cap x⟩ K=ev true s (.cap x) λp=>K (s.put d p):=id rfl
@[simp↓] theorem Uo (d:Option Nat) (gd:Option (Nat×Bool)) (mg:Bool) (sz b:Nat) (z:PV) (x y:AX) (K:St->Prop):lq P s ⟨d,gd,mg,.appendZ sz b z x y⟩ K=ex s d (.appendZ sz b z x y) K:=id rfl
@[simp↓] theorem aqC (d:Option Nat) (gd:Option (Nat×Bool)) (mg:Bool) (m:Bool) (xs:List AX) (K:St->Prop):lq P s ⟨d,gd,mg,.mm m xs⟩ K=ev true s (.mm m xs) λp=>K (s.put d p):=id rfl
@[simp↓] theorem abj (d:Option Nat) (gd:Option (Nat×Bool)) (mg:Bool) (z:PV) (K:St->Prop):lq P s ⟨d,gd,mg,.alloc z⟩ K=ex s d (.alloc z) K:=id rfl
@[simp↓] theorem anV (d:Option Nat) (gd:Option (Nat×Bool)) (mg:Bool) (x:AX) (K:St->Prop):lq P s ⟨d,gd,mg,.box x⟩ K=ex s d (.box x) K:=id rfl
@[simp↓] theorem Nq (d:Option Nat) (gd:Option (Nat×Bool)) (mg:Bool) (o:Bool) (sz:Nat) (z:PV) (n:Nat) (ps:List (Nat×AX)) (K:St->Prop):lq P s ⟨d,gd,mg,.buildSlice o sz z n ps⟩ K=ex s d (.buildSlice o sz z n ps) K:=id rfl
@[simp↓] theorem PM (d:Option Nat) (gd:Option (Nat×Bool)) (mg:Bool) (sz b:Nat) (z:PV) (l c:AX) (K:St->Prop):lq P s ⟨d,gd,mg,.makeSlice sz b z l c⟩ K=ex s d (.makeSlice sz b z l c) K:=id rfl
@[simp↓] theorem abk (d:Option Nat) (gd:Option (Nat×Bool)) (mg:Bool) (w:Nat) (a x:AX) (K:St->Prop):lq P s ⟨d,gd,mg,.store w a x⟩ K=ex s d (.store w a x) K:=id rfl
@[simp↓] theorem Xn (d:Option Nat) (gd:Option (Nat×Bool)) (mg:Bool) (sz b:Nat) (st:Bool) (x y:AX) (K:St->Prop):lq P s ⟨d,gd,mg,.append sz b st x y⟩ K=ex s d (.append sz b st x y) K:=id rfl
@[simp↓] theorem aeJ (d:Option Nat) (gd:Option (Nat×Bool)) (mg:Bool) (sz:Nat) (x y:AX) (K:St->Prop):lq P s ⟨d,gd,mg,.copy sz x y⟩ K=ex s d (.copy sz x y) K:=id rfl
@[simp↓] theorem aeK (d:Option Nat) (gd:Option (Nat×Bool)) (mg:Bool) (sz:Nat) (z:PV) (x:AX) (K:St->Prop):lq P s ⟨d,gd,mg,.fill sz z x⟩ K=ex s d (.fill sz z x) K:=id rfl
@[simp↓] theorem abl (d:Option Nat) (gd:Option (Nat×Bool)) (mg:Bool) (x:AX) (K:St->Prop):lq P s ⟨d,gd,mg,.convL x⟩ K=ex s d (.convL x) K:=id rfl
@[simp↓] theorem aeL (d:Option Nat) (gd:Option (Nat×Bool)) (mg:Bool) (f:AX) (l:List AX) (K:St->Prop):lq P s ⟨d,gd,mg,.call f l⟩ K=lp P s d f l K:=id rfl
@[simp↓] theorem abm (d:Option Nat) (gd:Option (Nat×Bool)) (mg:Bool) (f:AX) (l:List AX) (K:St->Prop):lq P s ⟨d,gd,mg,.callq f l⟩ K=nu P s d f l K:=id rfl
end Go.Ab
namespace Go.Ab
variable [eE]
variable {P:Program} {s:St}
theorem HJ {d:Option Nat} {f:FuncId} {args:List PV} {R:PV->Prop} {K:St->Prop} (hA:af P f args [] (λr fp=>R r∧fp=[])) (hp:aB args) (hr:∀r,R r->Pure r) (h:∀r,R r->K (s.put d r)):
  ∃ks os,tB P s d f args ks os K:=by
 refine⟨[],[],[],(λr fp=>R r∧fp=[]),rfl,by simp,by simp,hp.refs _,rfl,?_,?_⟩
 ·rw[hp.aI];exact hA
 ·rintro r fp ⟨hR,rfl⟩
  refine⟨⟨rfl,(hr r hR).refs _,rfl⟩,?_⟩
  rw[(hr r hR).aI]
  exact h r hR
theorem KH {d:Option Nat} {f:FuncId} {args:List PV} {sz:Nat} {R:List PV->Prop} {K:St->Prop} (o:Nat) (hA:af P f args [] (λr fp=>∃l,R l∧r= .rs KB [] 0 l.length l.length sz .tip∧fp=[.arr sz l])) (hp:aB args) (ho:get s.bx o=none)
  (hl:∀l,R l->aB l) (h:∀l,R l->K ({s with bx:=put s.bx o (.arr sz l)}.put d (.rs o [] 0 l.length l.length sz .tip))):∃ks os,tB P s d f args ks os K:=by
 refine⟨[],[o],[],(λr fp=>∃l,R l∧r= .rs KB [] 0 l.length l.length sz .tip∧fp=[.arr sz l]),rfl,by simp,by simpa using ho,hp.refs _,rfl,?_,?_⟩
 ·rw[hp.aI];exact hA
 ·rintro r fp ⟨l,hR,rfl,rfl⟩
  have rU:=hl l hR
  have e:eP [o] KB=o:=by simp[eP]
  refine⟨⟨rfl,by simp[ab,fY],by simp[ah,rU.refs]⟩,?_⟩
  simpa[bI,aZ,rU.aI,aI,e]using h l hR
end Go.Ab
namespace Go.Ab
variable [eE]
variable {P:Program} {s:St} {g:Bool} [iZ]
attribute [simp↓] W4 Q1 W5 HD W9 W7 W8 Xa oP aql sV Q2 Nc aep Q3 FK FL Q4 Ng KC aet
 FM HE HF HG Nj Nk Ul Nl Nm Q7 aex AT AU Q8 Nn KE HH KF KG
 Q9 Ra FN Rc Rd Re Rf aqz Rh Xi
inductive Tg {α:Sort _} (a:α):Type
 |mk
def al (P:Program) (s:St) (d:Option Nat) (f:FuncId) (args:List PV) (K:St->Prop) (_:Tg K):Prop:=∃ks os,tB P s d f args ks os K
def a0 (P:Program) (s:St) (d:Option Nat) (f:FuncId) (args:List PV) (K:St->Prop) (_:Tg K):Prop:=
 ∃v,(ae (λ_=>false) args=true∧ab (λ_=>false) v=true)∧af P f args [] (λr fp=>r=v∧fp=[])∧K (s.put d v)
def yS (s:St) (d:Option Nat) (l:Nat) (args:List PV) (K:St->Prop) (_:Tg K):Prop:=Hh s d l args K
def Nr (P:Program) (s:St) (d:Option Nat) (K:St->Prop) (t:Tg K) (args:List PV):PV->Prop
 | .fn (.func fid) first cap=>al P s d fid (first++args++cap) K t
 | .fn (.yield l) [] []=>yS s d l args K t
 |_=>False
def Ns (P:Program) (s:St) (d:Option Nat) (K:St->Prop) (t:Tg K) (args:List PV):PV->Prop
 | .fn (.func fid) first cap=>a0 P s d fid (first++args++cap) K t
 |_=>False
@[simp↓] theorem abn (d:Option Nat) (K:St->Prop) (t:Tg K) (l a b:List PV) (f:FuncId):Nr P s d K t l (.fn (.func f) a b)=al P s d f (a++l++b) K t:=_root_.id rfl
@[simp↓] theorem abo (d:Option Nat) (K:St->Prop) (t:Tg K) (l a b:List PV) (f:FuncId):Ns P s d K t l (.fn (.func f) a b)=a0 P s d f (a++l++b) K t:=_root_.id rfl
@[simp↓] theorem anW (d:Option Nat) (f:AX) (args:List AX) (K:St->Prop):lp P s d f args K=il true (vx s f) λpf=>tR true s args λps=>Nr P s d K .mk ps pf:=by
 rw[Rg];congr 1
@[simp↓] theorem anX (d:Option Nat) (f:AX) (args:List AX) (K:St->Prop):nu P s d f args K=il true (vx s f) λpf=>tR true s args λps=>Ns P s d K .mk ps pf:=by
 simp only[nu,j4];congr 1
@[simp↓] theorem aAq (n:Nat):vx s (.t n)=(get s.env n).getD .un:=_root_.id rfl
@[simp↓] theorem aAr (p:PV):vx s (.c p)=p:=_root_.id rfl
@[simp↓] theorem get_nil {α:Type} (n:Nat):get ([]:List (Nat×α)) n=none:=_root_.id rfl
@[simp↓] theorem aeM {α:Type} (k n:Nat) (v:α) (r:List (Nat×α)):get ((k,v)::r) n=if k=n then some v else get r n:=_root_.id rfl
@[simp↓] theorem anY {α:Type} (n:Nat) (x:α):put [] n x=[(n,x)]:=_root_.id rfl
@[simp↓] theorem aeN {α:Type} (k n:Nat) (v x:α) (r:List (Nat×α)):put ((k,v)::r) n x=if k=n then(n,x)::r else if n<k then(n,x)::(k,v)::r else(k,v)::put r n x:=_root_.id rfl
@[simp↓] theorem Xo (d:Nat) (p:PV):s.put (some d) p= {s with env:=put s.env d p}:=_root_.id rfl
@[simp↓] theorem Xq (p:PV):s.put none p=s:=_root_.id rfl
@[simp↓] theorem anZ (K:St->Prop):Hn P s [] K=K s:=_root_.id rfl
@[simp↓] theorem aeO (o:AO) (l:List AO) (K:St->Prop):Hn P s (o::l) K=iN P s o λs'=>Hn P s' l K:=_root_.id rfl
def jh (P:Program) (x:dc) (Q:Exit->St->Prop) (_:Tg (x,Q)) (s:St):Prop:=Lp (λQ s=>aw P x Q s) Q s
def Up (P:Program) (x y:dc) (Q:Exit->St->Prop) (_:Tg (x,y,Q)) (s:St):Prop:=Md (λQ s=>aw P x Q s) (λQ s=>aw P y Q s) Q s
def RgS (P:Program) (ps:List Nat) (x y:dc) (Q:Exit->St->Prop) (_:Tg (x,y,Q)) (s:St):PV->Prop
 | .fn (.func fid) [] cap=>Hw P (λQ s=>aw P x Q s) (λQ s=>aw P y Q s) s fid cap ps λs'=>Q .normal s'
 |_=>False
def aeP (n:Nat) (R:List bh->Prop) (_:Tg R) (s:St):Prop:=aee n R s
def aM (n:Nat) (res:List AK) (R:PV->List bh->Prop) (_:Tg R) (s:St):Prop:=Nb n res R s
theorem av (c:dc) (Q:Exit->St->Prop):aw P (lk c) Q s=aw P c Q s:=by rw[Q0]
@[simp↓] theorem an0 (Q:Exit->St->Prop):aw P .skip Q s=Q .normal s:=_root_.id rfl
@[simp↓] theorem abp (l:List AO) (Q:Exit->St->Prop):aw P (.region l) Q s=Hn P s l (Q .normal):=_root_.id rfl
@[simp↓] theorem aqD (x y:dc) (Q:Exit->St->Prop):aw P (.seq x y) Q s=aw P x (zh Q λs'=>aw P y Q s') s:=_root_.id rfl
@[simp↓] theorem an1 (n:Nat) (v:PV) (e:List (Nat×PV)) (b:List (Nat×bh)) (c:AX) (x y:dc) (Q:Exit->St->Prop):aw P (.cond c x y) Q ⟨(n,v)::e,b⟩=Xc (aw P x Q ⟨(n,v)::e,b⟩) (aw P y Q ⟨(n,v)::e,b⟩) (vx ⟨(n,v)::e,b⟩ c):=Xe c x y Q
@[simp↓] theorem axj (n:Nat) (v:PV) (e:List (Nat×PV)) (b:List (Nat×bh)) (d:Option Nat) (mg:Bool) (k:AK) (K:St->Prop):iN P ⟨(n,v)::e,b⟩ ⟨d,none,mg,k⟩ K=lq P ⟨(n,v)::e,b⟩ ⟨d,none,mg,k⟩ K:=_root_.id rfl
@[simp↓] theorem aqE (b:List (Nat×bh)) (d:Option Nat) (mg:Bool) (k:AK) (K:St->Prop):iN P ⟨[],b⟩ ⟨d,none,mg,k⟩ K=lq P ⟨[],b⟩ ⟨d,none,mg,k⟩ K:=_root_.id rfl
@[simp↓] theorem axk (n:Nat) (v:PV) (e:List (Nat×PV)) (b:List (Nat×bh)) (d:Option Nat) (sl:Nat) (want mg:Bool) (k:AK) (K:St->Prop):iN P ⟨(n,v)::e,b⟩ ⟨d,some (sl,want),mg,k⟩ K=
  yN want mg (λg=>ev g ⟨(n,v)::e,b⟩ k λp=>K (St.put ⟨(n,v)::e,b⟩ d (.gd g p))) (lq P ⟨(n,v)::e,b⟩ ⟨d,some (sl,want),mg,k⟩ K) (K (St.put ⟨(n,v)::e,b⟩ d .un)) ((get ((n,v)::e) sl).getD .un):=Rb d sl want mg k K
@[simp↓] theorem aeQ (id:Nat) (x:dc) (Q:Exit->St->Prop):aw P (.block id x) Q s=aw P x (M5 id Q) s:=_root_.id rfl
@[simp↓] theorem an2 (x:dc) (Q:Exit->St->Prop):aw P (.loop x) Q s=jh P x Q .mk s:=_root_.id rfl
@[simp↓] theorem an3 (x y:dc) (Q:Exit->St->Prop):aw P (.seqm x y) Q s=Up P x y Q .mk s:=_root_.id rfl
@[simp↓] theorem an4 (id:Nat) (Q:Exit->St->Prop):aw P (.exit id) Q s=Q (.exit id) s:=_root_.id rfl
@[simp↓] theorem aqF (Q:Exit->St->Prop):aw P .ret Q s=Q .ret s:=_root_.id rfl
@[simp↓] theorem Xr (Q:Exit->St->Prop) (K:St->Prop):zh Q K .normal s=K s:=_root_.id rfl
@[simp↓] theorem an5 (Q:Exit->St->Prop) (K:St->Prop):zh Q K .ret s=Q .ret s:=_root_.id rfl
@[simp↓] theorem aeR (Q:Exit->St->Prop) (K:St->Prop) (i:Nat):zh Q K (.exit i) s=Q (.exit i) s:=_root_.id rfl
@[simp↓] theorem Xt (Q:Exit->St->Prop) (i:Nat):M5 i Q .normal s=Q .normal s:=_root_.id rfl
@[simp↓] theorem an6 (Q:Exit->St->Prop) (i:Nat):M5 i Q .ret s=Q .ret s:=_root_.id rfl
@[simp↓] theorem aeS (Q:Exit->St->Prop) (i j:Nat):M5 i Q (.exit j) s=if j=i then Q .normal s else Q (.exit j) s:=_root_.id rfl
@[simp↓] theorem aeT (n:Nat) (res:List AK) (R:PV->List bh->Prop):ends n res R .ret s=aM n res R .mk s:=_root_.id rfl
@[simp↓] theorem Uq (n:Nat) (res:List AK) (R:PV->List bh->Prop):ends n res R .normal s=aM n res R .mk s:=_root_.id rfl
@[simp↓] theorem aeU (K:St->Prop):iu [] s K=K s:=_root_.id rfl
@[simp↓] theorem fP (c:Cut) (r:List Cut) (K:St->Prop):iu (c::r) s K=jT c s λs'=>iu r s' K:=_root_.id rfl
@[simp↓] theorem abq (sl:List Nat) (K:St->Prop):jT (.keep sl) s K=K {s with env:=kE sl s.env}:=_root_.id rfl
def Xu (s:St) (n k len aE sz:Nat) (K:St->Prop):bh->Prop
 | .arr bL l=>(bL=sz∧aE=l.length)∧∀c j:Nat,(c=l.length+j∨(c=0∧j=0∧len=0))->
    K {env:=put s.env n (.rs k [] 0 len (l.length+j) sz (.full c)),bx:=put s.bx k (.arr sz (l++List.replicate j (IX sz)))}
 |_=>False
def Xv (s:St) (n:Nat) (K:St->Prop):PV->Prop
 | .rs k [] 0 len aE sz .tip=>dE (get s.bx k) (Xu s n k len aE sz K)
 |_=>False
@[simp↓] theorem an7 (n k len aE sz:Nat) (K:St->Prop):Xv s n K (.rs k [] 0 len aE sz .tip)=dE (get s.bx k) (Xu s n k len aE sz K):=_root_.id rfl
@[simp↓] theorem aeV (n k len aE sz bL:Nat) (l:List PV) (K:St->Prop):Xu s n k len aE sz K (.arr bL l)=((bL=sz∧aE=l.length)∧∀c j:Nat,(c=l.length+j∨(c=0∧j=0∧len=0))->
    K {env:=put s.env n (.rs k [] 0 len (l.length+j) sz (.full c)),bx:=put s.bx k (.arr sz (l++List.replicate j (IX sz)))}):=_root_.id rfl
@[simp↓] theorem an8 (n:Nat) (K:St->Prop):jT (.mt n) s K=dE (get s.env n) (Xv s n K):=by
 simp only[jT,mt1]
 cases get s.env n with
 |none=>rfl
 |
  some p=>
  cases p<;>try rfl
  rename_i k pth off len aE sz c
  cases pth<;>try rfl
  cases off<;>try rfl
  cases c<;>try rfl
  simp only[dE,Xv]
  cases get s.bx k with
  |none=>rfl
  |some b=>cases b<;>rfl
def aeW (s:St) (k:Nat) (K:St->Prop):bh->Prop
 | .box v=>K {s with bx:=put s.bx k (.box (wk v))}
 |_=>False
@[simp↓] theorem aeX (k:Nat) (K:St->Prop) (v:PV):aeW s k K (.box v)=K {s with bx:=put s.bx k (.box (wk v))}:=_root_.id rfl
@[simp↓] theorem an9 (k:Nat) (K:St->Prop):jT (.wb k) s K=dE (get s.bx k) (aeW s k K):=by
 simp only[jT,wb1]
 cases get s.bx k with
 |none=>rfl
 |some b=>cases b<;>rfl
def vbP (s:St) (b k sz:Nat) (w:Option PV) (K:St->Prop):PV->Prop
 | .sl _ [] true=>dE w λv'=>(get s.bx k=none∧0<sz)∧K {s with bx:=put (put s.bx k (.arr sz [])) b (.box v')}
 |_=>False
@[simp↓] theorem aqG (b k sz z:Nat) (w:Option PV) (K:St->Prop):vbP s b k sz w K (.sl z [] true)=dE w λv'=>(get s.bx k=none∧0<sz)∧K {s with bx:=put (put s.bx k (.arr sz [])) b (.box v')}:=_root_.id rfl
def vbK (s:St) (b:Nat) (p:List Step) (k sz:Nat) (K:St->Prop):bh->Prop
 | .box v=>dE (aQ v p) (vbP s b k sz (di v p (.rs k [] 0 0 0 sz .tip)) K)
 |_=>False
@[simp↓] theorem aoa (b:Nat) (p:List Step) (k sz:Nat) (v:PV) (K:St->Prop):vbK s b p k sz K (.box v)=dE (aQ v p) (vbP s b k sz (di v p (.rs k [] 0 0 0 sz .tip)) K):=_root_.id rfl
@[simp↓] theorem aob (b:Nat) (p:List Step) (k sz:Nat) (K:St->Prop):jT (.vb b p k sz) s K=dE (get s.bx b) (vbK s b p k sz K):=by
 simp only[jT,vb1]
 cases get s.bx b with
 |none=>rfl
 |
  some x=>
  cases x with
  |arr _ _=>rfl
  |map b ks vs l=>rfl
  |
   box v=>
   simp only[dE,vbK]
   cases h1:aQ v p with
   |none=>cases di v p (.rs k [] 0 0 0 sz .tip)<;>rfl
   |
    some u=>
    cases h2:di v p (.rs k [] 0 0 0 sz .tip)with
    |
     none=>
     simp only[vbP]
     split<;>simp_all
    |
     some v'=>
     simp only[vbP]
     split<;>simp_all
@[simp↓] theorem aoc (n:Nat) (K:St->Prop):jT (.wk n) s K=dE (get s.env n) λp=>K {s with env:=put s.env n (wk p)}:=by
 simp only[jT,wk1];cases get s.env n<;>rfl
def fzK (s:St) (k:Nat) (K:St->Prop):bh->Prop
 | .arr sz l=>(ae (λj=>decide (j≠k)) l=true∧k<KB)∧K {env:=iC (gq k sz l) s.env,bx:=iC (te k sz l) (del s.bx k)}
 |_=>False
@[simp↓] theorem aod (k sz:Nat) (l:List PV) (K:St->Prop):fzK s k K (.arr sz l)=((ae (λj=>decide (j≠k)) l=true∧k<KB)∧K {env:=iC (gq k sz l) s.env,bx:=iC (te k sz l) (del s.bx k)}):=_root_.id rfl
@[simp↓] theorem aoe (k:Nat) (K:St->Prop):jT (.fz k) s K=dE (get s.bx k) (fzK s k K):=by
 simp only[jT,WV];cases get s.bx k with
 |none=>rfl
 |some b=>cases b<;>rfl
def mvK (s:St) (k k':Nat) (K:St->Prop) (b:bh):Prop:=(get s.bx k'=none∧k<KB∧k'<KB∧k≠k')∧K {env:=iC (aI (tY k k')) s.env,bx:=put (iC (aZ (tY k k')) (del s.bx k)) k' (aZ (tY k k') b)}
@[simp↓] theorem aof (k k':Nat) (K:St->Prop):jT (.mv k k') s K=dE (get s.bx k) (mvK s k k' K):=by
 simp only[jT,WX];cases get s.bx k<;>rfl
@[simp↓] theorem axn (k k':Nat) (K:St->Prop) (b:bh):mvK s k k' K b=((get s.bx k'=none∧k<KB∧k'<KB∧k≠k')∧K {env:=iC (aI (tY k k')) s.env,bx:=put (iC (aZ (tY k k')) (del s.bx k)) k' (aZ (tY k k') b)}):=_root_.id rfl
@[simp↓] theorem aog (k:Nat) (K:St->Prop):jT (.dr k) s K=((cr (λj=>decide (j≠k)) s.env=true∧dx (λj=>decide (j≠k)) (del s.bx k)=true∧k<KB)∧K {s with bx:=del s.bx k}):=_root_.id rfl
def vtK (s:St) (n k sz:Nat) (K:St->Prop):PV->Prop
 | .sl _ [] true=>(get s.bx k=none∧0<sz)∧K {env:=put s.env n (.rs k [] 0 0 0 sz .tip),bx:=put s.bx k (.arr sz [])}
 |_=>False
@[simp↓] theorem aqI (n k sz z:Nat) (K:St->Prop):vtK s n k sz K (.sl z [] true)=((get s.bx k=none∧0<sz)∧K {env:=put s.env n (.rs k [] 0 0 0 sz .tip),bx:=put s.bx k (.arr sz [])}):=_root_.id rfl
@[simp↓] theorem aoh (n k sz:Nat) (K:St->Prop):jT (.vt n k sz) s K=dE (get s.env n) (vtK s n k sz K):=by
 simp only[jT,WW];cases get s.env n with
 |none=>rfl
 |
  some p=>
  cases p with
  |sl z l c=>cases l<;>cases c<;>rfl
  |_=>rfl
@[simp] theorem axr {n:Nat} (h:n<9000):n<KB:=h
@[simp↓] theorem aoi (K:List PV->Prop):FI s [] K=K []:=_root_.id rfl
@[simp↓] theorem aeZ (k:AK) (r:List AK) (K:List PV->Prop):FI s (k::r) K=ev true s k λp=>FI s r λps=>K (p::ps):=_root_.id rfl
@[simp↓] theorem Ur:eU 0=[]:=_root_.id rfl
@[simp↓] theorem Xw (bx:List (Nat×bh)):getAll bx []=some []:=_root_.id rfl
@[simp↓] theorem abr (p:PV):fx [p]=p:=_root_.id rfl
@[simp↓] theorem KI (p q:PV) (l:List PV):fx (p::q::l)= .tup (p::q::l):=_root_.id rfl
theorem aM.plain {res:List AK} {R:PV->List bh->Prop} {t:Tg R} (c:List Cut) (h:iu c s λs'=>FI s' res λps=>(ps.all PV.flat=true∧aB ps)∧R (fx ps) []):aM 0 res R t s:=by
 refine⟨c,[],?_⟩
 have hm:∀(c:List Cut) (s:St) (K K':St->Prop),(∀s,K s->K' s)->iu c s K->iu c s K':=by
  intro c
  induction c with
  |nil=>intro s K K' h hk;exact h s hk
  |
   cons x c ih=>
   intro s K K' h hk
   cases x with
   |fz k=>simp only[fP,jT,WV]at hk⊢;split at hk<;>simp_all;exact ih _ _ _ (λs hs=>h s hs) hk.2
   |dr k=>simp only[fP,jT,dr1]at hk⊢;exact⟨hk.1,ih _ _ _ h hk.2⟩
   |keep sl=>simp only[fP,jT]at hk⊢;exact ih _ _ _ h hk
   |vt n k z=>simp only[fP,jT,WW]at hk⊢;split at hk<;>simp_all;exact ih _ _ _ (λs hs=>h s hs) hk.2
   |wk n=>simp only[fP,jT,wk1]at hk⊢;split at hk<;>simp_all;exact ih _ _ _ (λs hs=>h s hs) hk
   |wb n=>simp only[fP,jT,wb1]at hk⊢;split at hk<;>simp_all;exact ih _ _ _ (λs hs=>h s hs) hk
   |vb n p k z=>simp only[fP,jT,vb1]at hk⊢;split at hk<;>simp_all;split at hk<;>simp_all;exact ih _ _ _ (λs hs=>h s hs) hk.2
   |
    mv k k'=>
    simp only[fP,jT,WX]at hk⊢
    split at hk
    ·exact⟨hk.1,ih _ _ _ h hk.2⟩
    ·exact hk.elim
   |
    mt n=>
    simp only[fP,jT,mt1]at hk⊢
    split at hk
    ·split at hk
     ·exact⟨hk.1,λc j e=>ih _ _ _ h (hk.2 c j e)⟩
     ·exact hk.elim
    ·exact hk.elim
 have WB:∀(k:AK) (s:St) (K K':PV->Prop),(∀p,K p->K' p)->ev true s k K->ev true s k K':=by
  intro k s K K' h hk
  obtain⟨p,h1,h2⟩:=rK true s k K hk
  exact h2 K' (h p h1)
 have aaE:∀(l:List AK) (s:St) (K K':List PV->Prop),(∀p,K p->K' p)->FI s l K->FI s l K':=by
  intro l
  induction l with
  |nil=>intro s K K' h hk;exact h _ hk
  |cons x l ih=>intro s K K' h hk;exact WB _ _ _ _ (λp hp=>ih _ _ _ (λq hq=>h _ hq) hp) hk
 refine hm _ _ _ _ (λs' BX=>aaE _ _ _ _ (λps tv=> ?_) BX) h
 obtain⟨⟨h1,h2⟩,h3⟩:=tv
 have hp:Pure (fx ps):=by
  match ps,h2 with
  |[],h2=>exact Pure.of rfl
  |[p],h2=>exact h2.forget p (by simp)
  |p::q::l,h2=>exact Pure.of (by simp only[KI,ab];exact h2.refs _)
 refine⟨[],⟨rfl,by simp,rfl⟩,⟨h1,hp.refs _,rfl⟩,?_⟩
 rw[hp.aI];exact h3
end Go.Ab
namespace Go.Ab
variable [eE]
variable {P:Program} {s:St} [iZ]
theorem FO:∀ {l:List AO} {s:St} {K K':St->Prop},(∀p,K p->K' p)->Hn P s l K->Hn P s l K'
 |[],s,K,K',h,hk=>h _ hk
 |o::l,s,K,K',h,hk=>fj (λs' BX=>FO h BX) hk
theorem AW {W:List Nat} {f:Bool} {o:AO} {K K':St->Prop} (h:∀p,K p->K' p) (hk:j1 P W f s o K):j1 P W f s o K':=by
 unfold j1 at hk⊢
 split at hk
 ·split at hk
  ·rename_i h1 h2;rw[if_pos h1,if_pos h2];exact fj (λt ht=>h _ ht) hk
  ·rename_i h1 h2;rw[if_pos h1,if_neg h2];exact fj h hk
 ·rename_i h1;rw[if_neg h1];exact fj (λt ht=>⟨ht.1,h _ ht.2⟩) hk
theorem sX {aos:List AO} {fl:Nat->Bool} {W:List Nat}:∀ {l:List Nat} {s:St} {K K':St->Prop},(∀p,K p->K' p)->jt P aos fl W s l K->jt P aos fl W s l K'
 |[],s,K,K',h,hk=>h _ hk
 |
  i::l,s,K,K',h,hk=>by
  simp only[jt]at hk⊢
  split at hk
  ·exact⟨hk.1,AW (λt ht=>sX h ht) hk.2⟩
  ·exact hk.elim
theorem Jd:∀ {c:dc} {s:St} {Q Q':Exit->St->Prop},(∀e s,Q e s->Q' e s)->aw P c Q s->aw P c Q' s:=by
 have aaF:∀ {Q Q':Exit->St->Prop} {K K':St->Prop},(∀e s,Q e s->Q' e s)->(∀s,K s->K' s)->∀e s,zh Q K e s->zh Q' K' e s:=by
  intro Q Q' K K' h hk e s he
  cases e<;>first|exact hk _ he|exact h _ _ he
 intro c
 induction c with
 |skip=>intro s Q Q' h hk;exact h _ _ hk
 |region l=>intro s Q Q' h hk;exact FO (h .normal) hk
 |regionD l o u=>intro s Q Q' h hk;obtain⟨W,hk⟩:=hk;exact⟨W,sX (h .normal) hk⟩
 |regionE l a p q b u=>intro s Q Q' h hk;obtain⟨W,hk⟩:=hk;exact⟨W,vE (λt ht=>⟨sX (h .normal) ht.1,sX (h .normal) ht.2⟩) hk⟩
 |seq x y ihx ihy=>intro s Q Q' h hk;exact ihx (aaF h λs hs=>ihy h hs) hk
 |
  cond c x y ihx ihy=>
  intro s Q Q' h hk
  simp only[aw]at hk⊢
  split at hk
  ·exact⟨λe=>ihx h (hk.1 e),λe=>ihy h (hk.2 e)⟩
  ·exact⟨hk.1,λe=>ihx h (hk.2.1 e),λe=>ihy h (hk.2.2 e)⟩
  ·exact hk.elim
 |
  block id x ih=>
  intro s Q Q' h hk
  simp only[aw]at hk⊢
  refine ih (λe s he=> ?_) hk
  cases e<;>simp only[M5]at he⊢<;>first|exact h _ _ he|(split at he<;>rename_i hi<;>simp only[hi,if_true,if_false]<;>exact h _ _ he)
 |
  loop x ih=>
  intro s Q Q' h hk
  obtain⟨I,c,h1,h2⟩:=hk
  exact⟨I,c,h1,λn s hs=>ih (aaF h λs hs=>hs) (h2 n s hs)⟩
 |exit id=>intro s Q Q' h hk;exact h _ _ hk
 |ret=>intro s Q Q' h hk;exact h _ _ hk
 |
  seqm x y ihx ihy=>
  intro s Q Q' h hk
  obtain⟨M,h1,h2⟩:=hk
  exact⟨M,ihx (aaF h λs hs=>hs) h1,λs hs=>ihy h (h2 s hs)⟩
 |
  rangeF g ps x y ihx ihy=>
  intro s Q Q' h hk
  simp only[aw]at hk⊢
  split at hk
  ·obtain⟨GW,ks,bm,Y,R,h1,h2,h3,h4⟩:=hk
   exact⟨GW,ks,bm,Y,R,h1,h2,h3,λfp hR=>⟨(h4 fp hR).1,h _ _ (h4 fp hR).2⟩⟩
  ·exact hk.elim
end Go.Ab
namespace Go.Ab
variable [eE]
variable {P:Program} {s:St} [iZ]
theorem jn:∀(c:List Cut) {s:St} {K K':St->Prop},(∀s,K s->K' s)->iu c s K->iu c s K'
 |[],s,K,K',h,hk=>h s hk
 |
  x::c,s,K,K',h,hk=>by
  cases x with
  |
   fz k=>
   simp only[fP,jT,WV]at hk⊢
   split at hk
   ·exact⟨hk.1,jn c h hk.2⟩
   ·exact hk.elim
  |dr k=>simp only[fP,jT,dr1]at hk⊢;exact⟨hk.1,jn c h hk.2⟩
  |keep sl=>simp only[fP,jT]at hk⊢;exact jn c h hk
  |
   vt n k z=>
   simp only[fP,jT,WW]at hk⊢
   split at hk
   ·exact⟨hk.1,jn c h hk.2⟩
   ·exact hk.elim
  |
   wk n=>
   simp only[fP,jT,wk1]at hk⊢
   split at hk
   ·exact jn c h hk
   ·exact hk.elim
  |
   wb n=>
   simp only[fP,jT,wb1]at hk⊢
   split at hk
   ·exact jn c h hk
   ·exact hk.elim
  |
   vb n p k z=>
   simp only[fP,jT,vb1]at hk⊢
   split at hk
   ·split at hk
    ·exact⟨hk.1,jn c h hk.2⟩
    ·exact hk.elim
   ·exact hk.elim
  |
   mv k k'=>
   simp only[fP,jT,WX]at hk⊢
   split at hk
   ·exact⟨hk.1,jn c h hk.2⟩
   ·exact hk.elim
  |
   mt n=>
   simp only[fP,jT,mt1]at hk⊢
   split at hk
   ·split at hk
    ·exact⟨hk.1,λi j e=>jn c h (hk.2 i j e)⟩
    ·exact hk.elim
   ·exact hk.elim
theorem kK:∀(c d:List Cut) {s:St} {K:St->Prop},iu (c++d) s K=iu c s λs'=>iu d s' K
 |[],d,s,K=>rfl
 |
  x::c,d,s,K=>by
  simp only[List.cons_append,fP]
  congr 1;funext s'
  exact kK c d
def FP {α:Type}:List (Nat×α)->List (Nat×α)->List (Nat×α)
 |l,[]=>l
 |l,x::r=>FP (put l x.1 x.2) r
@[simp↓] theorem ae0 {α:Type} (l:List (Nat×α)):FP l []=l:=id rfl
@[simp↓] theorem abt {α:Type} (l r:List (Nat×α)) (x:Nat×α):FP l (x::r)=FP (put l x.1 x.2) r:=id rfl
@[simp↓] theorem abu {α:Type} (sl:List Nat):kE sl ([]:List (Nat×α))=[]:=id rfl
@[simp↓] theorem Xx {α:Type} (sl:List Nat) (j:Nat) (v:α) (r:List (Nat×α)):kE sl ((j,v)::r)=if sl.contains j=true then(j,v)::kE sl r else kE sl r:=id rfl
@[simp↓] theorem aoj {α:Type} (k:Nat):del ([]:List (Nat×α)) k=[]:=id rfl
@[simp↓] theorem ae1 {α:Type} (j k:Nat) (v:α) (r:List (Nat×α)):del ((j,v)::r) k=if j=k then del r k else(j,v)::del r k:=id rfl
@[simp↓] theorem ae2 {α:Type} (f:α->α):iC f []=[]:=id rfl
@[simp↓] theorem abv {α:Type} (f:α->α) (j:Nat) (v:α) (r:List (Nat×α)):iC f ((j,v)::r)=(j,f v)::iC f r:=id rfl
def kh (s:St) (ks:List Nat) (E:List (Nat×PV)) (B:List (Nat×bh)):St:= {env:=FP (kE ks s.env) E,bx:=FP s.bx B}
@[simp↓] theorem aqJ (e:List (Nat×PV)) (b:List (Nat×bh)) (ks:List Nat) (E:List (Nat×PV)) (B:List (Nat×bh)):kh ⟨e,b⟩ ks E B=⟨FP (kE ks e) E,FP b B⟩:=id rfl
theorem jh.jY {x:dc} {Q:Exit->St->Prop} {t:Tg (x,Q)} (n:Nat) (I:Nat->Prop) (ks:List Nat) (E:Nat->List (Nat×PV)) (B:Nat->List (Nat×bh)) (c0:List Cut)
  (h:iu c0 s λs0=>kh s0 ks (E 0) (B 0)=kh s0 ks [] []∧I 0∧
   (∀i,i<n->I i->∀K:St->Prop,(∀s2,kh s2 ks [] []=kh s0 ks (E (i+1)) (B (i+1))->I (i+1)->K s2)->aw P x (zh Q λs'=>∃c:List Cut,iu c s' K) (kh s0 ks (E i) (B i)))∧
   (I n->∀K:St->Prop,aw P x (zh Q K) (kh s0 ks (E n) (B n)))):jh P x Q t s:=by
 refine⟨λm st=>∃s0 i,i≤n∧m=n-i∧I i∧st=kh s0 ks (E i) (B i)∧
  (∀i,i<n->I i->∀K:St->Prop,(∀s2,kh s2 ks [] []=kh s0 ks (E (i+1)) (B (i+1))->I (i+1)->K s2)->aw P x (zh Q λs'=>∃c:List Cut,iu c s' K) (kh s0 ks (E i) (B i)))∧
   (I n->∀K:St->Prop,aw P x (zh Q K) (kh s0 ks (E n) (B n))),c0++[.keep ks],?_,?_⟩
 ·rw[kK]
  refine jn c0 (λs0 hs=> ?_) h
  obtain⟨h1,h2,h3,h4⟩:=hs
  exact⟨n,s0,0,by omega,by omega,h2,by rw[h1];rfl,h3,h4⟩
 ·rintro m st ⟨s0,i,hi,rfl,hI,rfl,h3,h4⟩
  by_cases gG:i<n
  ·have aaG:∀(K:St->Prop) s',(∃c:List Cut,iu c s' λs2=>iu [.keep ks] s2 K)->∃c:List Cut,iu c s' K:=λK s' ⟨c,hc⟩=>⟨c++[.keep ks],by rw[kK];exact hc⟩
   have:=h3 i gG hI (λs2=>iu [.keep ks] s2 λs'=>∃m,m<n-i∧∃s0 i,i≤n∧m=n-i∧I i∧s'=kh s0 ks (E i) (B i)∧
    (∀i,i<n->I i->∀K:St->Prop,(∀s2,kh s2 ks [] []=kh s0 ks (E (i+1)) (B (i+1))->I (i+1)->K s2)->aw P x (zh Q λs'=>∃c:List Cut,iu c s' K) (kh s0 ks (E i) (B i)))∧
    (I n->∀K:St->Prop,aw P x (zh Q K) (kh s0 ks (E n) (B n))))
    (λs2 e hI'=>⟨n-(i+1),by omega,s0,i+1,by omega,rfl,hI',by rw[←e];rfl,h3,h4⟩)
   refine Jd (λe s' he=> ?_) this
   cases e with
   |normal=>exact aaG _ _ he
   |_=>exact he
  ·have yf:i=n:=by omega
   subst yf
   exact h4 hI _
end Go.Ab
namespace Go.Ab
variable [eE]
variable {P:Program} {s:St} [iZ]
theorem oR {p:PV}:Pure p↔ab (λ_=>false) p=true:=⟨λh=>h.refs _,Pure.of⟩
theorem oy {l:List PV}:aB l↔ae (λ_=>false) l=true:=⟨λh=>h.refs _,aB.of⟩
@[simp] theorem ae3 (k:IntKind) (n:Int):Pure (.int k n):=Pure.of rfl
@[simp] theorem aok (b:Bool):Pure (.bl b):=Pure.of rfl
@[simp] theorem ae4 (b:List UInt8):Pure (.str b):=Pure.of rfl
@[simp] theorem aol:Pure .un:=Pure.of rfl
@[simp] theorem aom (b:UInt8):Pure (u8 b):=Pure.of rfl
@[simp] theorem aon (z:Nat) (l:List PV) (c:Bool):Pure (.sl z l c)↔aB l:=by simp only[oR,oy,ab]
@[simp] theorem aoo (z:Nat) (l:List PV):Pure (.st z l)↔aB l:=by simp only[oR,oy,ab]
@[simp] theorem aop (z n:Nat) (l:List PV):Pure (.ar z n l)↔aB l:=by simp only[oR,oy,ab]
@[simp] theorem ae5 (l:List PV):Pure (.tup l)↔aB l:=by simp only[oR,oy,ab]
@[simp] theorem aoq (b:Bool) (p:PV):Pure (.gd b p)↔Pure p:=by simp only[oR,ab]
@[simp] theorem aor (f:Fn) (a b:List PV):Pure (.fn f a b)↔aB a∧aB b:=by simp only[oR,oy,ab,aJ]
@[simp] theorem mb:aB []:=aB.of rfl
@[simp] theorem rv (p:PV) (l:List PV):aB (p::l)↔Pure p∧aB l:=by simp only[oR,oy,ae,aJ]
@[simp] theorem oh (l m:List PV):aB (l++m)↔aB l∧aB m:=by induction l<;>simp[*,and_assoc]
@[simp] theorem Xy {l:List PV} (h:aB l) (n:Nat):aB (l.take n):=h.take n
@[simp] theorem Xz {l:List PV} (h:aB l) (n:Nat):aB (l.drop n):=h.drop n
@[simp] theorem bR {α:Type} {e:α->PV} (h:∀x,Pure (e x)) (l:List α):aB (l.map e):=aB.map h l
@[simp] theorem yO {p:PV} (h:Pure p) (n:Nat):aB (List.replicate n p):=aB.mk' λq hq=>by rw[(List.mem_replicate.1 hq).2];exact h
@[simp] theorem abw {l:List PV} {p:PV} (h:aB l) (hp:Pure p) (n:Nat):aB (l.set n p):=aB.mk' λq hq=>by rcases List.mem_or_eq_of_mem_set hq with h'|h';exact h.forget q h';rw[h'];exact hp
@[simp] theorem ae6 {p:PV} (h:Pure p) (k z:Nat) (l:List PV):gq k z l p=p:=h.gq k z l
@[simp] theorem abx {p:List PV} (h:aB p) (k z:Nat) (l:List PV):im k z l p=p:=h.gq k z l
@[simp] theorem aqK (k z k' off len aE z':Nat) (l0:List PV) (p:List Step) (c:jA):gq k z l0 (.rs k' p off len aE z' c)=if k'=k then(if aE=l0.length∧p=[]∧z'=z∧off+len≤l0.length then .sl z ((l0.drop off).take len) (decide (c= .clip))else .un)else .rs k' p off len aE z' c:=by simp[gq]
@[simp] theorem aqL (k z k' aE:Nat) (l0:List PV) (p:List Step):gq k z l0 (.pt k' p aE)=if k'=k then(if aE=l0.length then .fp z l0 p else .un)else .pt k' p aE:=by simp[gq]
@[simp] theorem aby (k z:Nat) (l0:List PV) (p:PV) (l:List PV):im k z l0 (p::l)=gq k z l0 p::im k z l0 l:=_root_.id rfl
@[simp] theorem Us (k z:Nat) (l0 l m:List PV):im k z l0 (l++m)=im k z l0 l++im k z l0 m:=by induction l<;>simp[*]
@[simp] theorem aqM (k z w:Nat) (l0 l:List PV):gq k z l0 (.st w l)= .st w (im k z l0 l):=by simp[gq]
@[simp] theorem aqN (k z w:Nat) (l0 l:List PV) (c:Bool):gq k z l0 (.sl w l c)= .sl w (im k z l0 l) c:=by simp[gq]
@[simp] theorem Nt (f:Nat->Bool) (l m:List PV):ae f (l++m)=(ae f l&&ae f m):=by induction l<;>simp[*,ae,Bool.and_assoc]
@[simp] theorem ae7 (k z z':Nat) (l0 l:List PV):te k z l0 (.arr z' l)= .arr z' (im k z l0 l):=id rfl
@[simp] theorem ae8 (k z:Nat) (l0:List PV) (v:PV):te k z l0 (.box v)= .box (gq k z l0 v):=id rfl
@[simp] theorem Rj {l:List PV} (h:aB l) (f:Nat->Bool):ae f l=true:=h.refs f
@[simp] theorem Ut {p:PV} (h:Pure p) (f:Nat->Bool):ab f p=true:=h.refs f
@[simp] theorem abz (f:Nat->Bool) (k:Nat) (p:List Step) (a b c d:Nat) (e:jA):ab f (.rs k p a b c d e)=f k:=by simp[ab]
@[simp] theorem abA (f:Nat->Bool) (k:Nat) (p:List Step) (a:Nat):ab f (.pt k p a)=f k:=by simp[ab]
@[simp] theorem Rk (f:Nat->Bool) (p:PV) (l:List PV):ae f (p::l)=(ab f p&&ae f l):=id rfl
@[simp] theorem Uu (f:Nat->Bool):cr f []=true:=id rfl
@[simp] theorem Rl (f:Nat->Bool) (n:Nat) (p:PV) (r:List (Nat×PV)):cr f ((n,p)::r)=(ab f p&&cr f r):=id rfl
@[simp] theorem XA (f:Nat->Bool):dx f []=true:=id rfl
@[simp] theorem Uv (f:Nat->Bool) (n:Nat) (p:bh) (r:List (Nat×bh)):dx f ((n,p)::r)=(ah f p&&dx f r):=id rfl
@[simp] theorem Uw (f:Nat->Bool) (z:Nat) (l:List PV):ah f (.arr z l)=ae f l:=id rfl
@[simp] theorem Ux (f:Nat->Bool) (v:PV):ah f (.box v)=ab f v:=id rfl
@[simp] theorem axt (z:Nat) (l:List PV) (c:Bool):wk (.sl z l c)= .sl z (jO l) false:=by simp[wk]
@[simp] theorem axu (z:Nat) (l:List PV):wk (.st z l)= .st z (jO l):=by simp[wk]
@[simp] theorem axv (z n:Nat) (l:List PV):wk (.ar z n l)= .ar z n (jO l):=by simp[wk]
@[simp] theorem aqO (k:IntKind) (n:Int):wk (.int k n)= .int k n:=by simp[wk]
@[simp] theorem axw (b:Bool):wk (.bl b)= .bl b:=by simp[wk]
@[simp] theorem aqP (b:List UInt8):wk (.str b)= .str b:=by simp[wk]
@[simp] theorem axx (k:Nat) (p:List Step) (a:Nat):wk (.pt k p a)= .pt k p a:=by simp[wk]
@[simp] theorem axy (k:Nat) (p:List Step) (a b c d:Nat) (e:jA):wk (.rs k p a b c d e)= .rs k p a b c d e:=by simp[wk]
@[simp] theorem axz (b:UInt8):wk (u8 b)=u8 b:=by simp[u8]
@[simp] theorem aot:jO []=[]:=id rfl
@[simp] theorem ae9 (p:PV) (l:List PV):jO (p::l)=wk p::jO l:=id rfl
@[simp] theorem XB (l m:List PV):jO (l++m)=jO l++jO m:=by induction l<;>simp[*]
@[simp] theorem afa (l:List PV) (n:Nat):jO (l.take n)=(jO l).take n:=by simp only[Ai,List.map_take]
@[simp] theorem afb (l:List PV) (n:Nat):jO (l.drop n)=(jO l).drop n:=by simp only[Ai,List.map_drop]
@[simp] theorem D1 {α:Type} {e:α->PV} (h:∀x,wk (e x)=e x) (l:List α):jO (l.map e)=l.map e:=by rw[Ai,List.map_map];congr 1;funext x;exact h x
@[simp] theorem B9 {p:PV} (h:wk p=p) (n:Nat):jO (List.replicate n p)=List.replicate n p:=by rw[Ai,List.map_replicate,h]
def bB (P:Program) (f:FuncId) (args:List PV) (v:PV):Prop:=af P f args [] (λr fp=>r=v∧fp=[])
def sk (P:Program) (f:FuncId) (args:List PV) (sz:Nat) (l:List PV):Prop:=af P f args [] (λr fp=>r= .rs KB [] 0 l.length l.length sz .tip∧fp=[.arr sz l])
theorem ie.jO {Γ:Cx}:∀ {l:List PV} {vs:List Value},ie Γ l vs->ie Γ (Ab.jO l) vs
 |[],[],_=>trivial
 |[],_::_,h=>by simp[ie]at h
 |_::_,[],h=>by simp[ie]at h
 |p::l,v::vs,h=>by simp only[ie,Ab.jO]at h⊢;exact⟨h.1.wk,ie.jO h.2⟩
theorem af.Uy {f:FuncId} {args:List PV} {fp:List bh} {R:PV->List bh->Prop} (h:af P f (jO args) fp R):af P f args fp R:=
 λΓ w vs h1 h2 h3 h4=>h Γ w vs h1 h2 h3 h4.jO
theorem sk.gq {f:FuncId} {args:List PV} {sz:Nat} {l:List PV} (h:sk P f args sz l) (hl:aB l):bB P f args (.sl sz l false):=by
 refine λΓ w vs h1 h2 h3 h4=>(h Γ w vs h1 h2 h3 h4).mono ?_
 rintro e w' ⟨v,r,kS,Γ',e1,⟨rfl,rfl⟩,e3,e4,e5,e6,e7,e8⟩
 have hg:get Γ'.bx KB=some (.arr sz l):=by rw[e5,gp];simp
 have hf:=DS e4 hg (hl.refs _)
 refine⟨v,.sl sz l false,[],{Γ' with bx:=iC (te KB sz l) (del Γ'.bx KB)},e1,⟨rfl,rfl⟩,e3,vy e4 _ (λj blk fB hb=>(e4.blk j blk hb).gq hf),?_,?_,?_,e8⟩
 ·rw[e5];simp[aG]
 ·have:=e6.gq hf
  simpa using this
 ·refine⟨e7.heap,λb hb hm=> ?_,e7.ej,e7.size,λk blk hk=> ?_⟩
  ·obtain⟨k,blk,g1,g2⟩:=hm
   rw[e5]at g1
   simp[aG]at g1
  ·rw[h3]at hk;simp[aG]at hk
theorem al.ret {d:Option Nat} {f:FuncId} {args gy:List PV} {v:PV} {K:St->Prop} {t:Tg K} (hA:bB P f gy v) (ha:jO args=gy) (hp:aB args) (hv:Pure v) (h:K (s.put d v)):al P s d f args K t:=by
 subst ha
 exact HJ (R:=λr=>r=v) (af.Uy hA) hp (by rintro r rfl;exact hv) (by rintro r rfl;exact h)
theorem al.own {d:Option Nat} {f:FuncId} {args gy:List PV} {sz:Nat} {l:List PV} {K:St->Prop} {t:Tg K} (o:Nat) (hA:sk P f gy sz l) (ha:jO args=gy) (hp:aB args) (hl:aB l) (ho:get s.bx o=none)
  (h:K ({s with bx:=put s.bx o (.arr sz l)}.put d (.rs o [] 0 l.length l.length sz .tip))):al P s d f args K t:=by
 subst ha
 refine KH (R:=λl'=>l'=l) o (af.mono (af.Uy hA) ?_) hp ho (by rintro r rfl;exact hl) (by rintro r rfl;exact h)
 rintro r fp ⟨rfl,rfl⟩;exact⟨l,rfl,rfl,rfl⟩
theorem a0.ret {d:Option Nat} {f:FuncId} {args gy:List PV} {v:PV} {K:St->Prop} {t:Tg K} (hA:bB P f gy v) (ha:jO args=gy) (hp:aB args) (hv:Pure v) (h:K (s.put d v)):a0 P s d f args K t:=by
 subst ha
 exact⟨v,⟨hp.refs _,hv.refs _⟩,af.Uy hA,h⟩
end Go.Ab
namespace Go.Ab
variable [eE]
variable {P:Program} {s:St} {K:PV->Prop} [iZ]
@[simp↓] theorem afc (k:IntKind) (a b:Int):kW .add K (.int k a) (.int k b)=K (.int k (k.wrap (a+b))):=by simp[kW,pn]
@[simp↓] theorem afd (k:IntKind) (a b:Int):kW .sub K (.int k a) (.int k b)=K (.int k (k.wrap (a-b))):=by simp[kW,pn]
@[simp↓] theorem afe (k:IntKind) (a b:Int):kW .mul K (.int k a) (.int k b)=K (.int k (k.wrap (a*b))):=by simp[kW,pn]
@[simp↓] theorem aff (k:IntKind) (a b:Int):kW .quo K (.int k a) (.int k b)=(b≠0∧K (.int k (k.wrap (a.tdiv b)))):=by simp[kW,pn]
@[simp↓] theorem afg (k:IntKind) (a b:Int):kW .rem K (.int k a) (.int k b)=(b≠0∧K (.int k (a.tmod b))):=by simp[kW,pn]
@[simp↓] theorem afh (k:IntKind) (a b:Int):kW .and K (.int k a) (.int k b)=K (.int k (bits .and k a b)):=by simp[kW,pn]
@[simp↓] theorem aou (k:IntKind) (a b:Int):kW .or K (.int k a) (.int k b)=K (.int k (bits .or k a b)):=by simp[kW,pn]
@[simp↓] theorem Uz (k:IntKind) (a b:Int):kW .andNot K (.int k a) (.int k b)=K (.int k (bits .andNot k a b)):=by simp[kW,pn]
@[simp↓] theorem afi (k:IntKind) (a b:Int):kW .eql K (.int k a) (.int k b)=K (.bl (decide (a=b))):=by simp[kW,pn];rfl
@[simp↓] theorem afj (k:IntKind) (a b:Int):kW .neq K (.int k a) (.int k b)=K (.bl (decide (a≠b))):=by
 simp only[kW,pn,or_true,true_and]
 congr 2;by_cases h:a=b<;>simp[h]
@[simp↓] theorem afk (k:IntKind) (a b:Int):kW .lss K (.int k a) (.int k b)=K (.bl (decide (a<b))):=by simp[kW,pn]
@[simp↓] theorem afl (k:IntKind) (a b:Int):kW .leq K (.int k a) (.int k b)=K (.bl (decide (a≤b))):=by simp[kW,pn]
@[simp↓] theorem afm (k:IntKind) (a b:Int):kW .gtr K (.int k a) (.int k b)=K (.bl (decide (b<a))):=by simp[kW,pn]
@[simp↓] theorem afn (k:IntKind) (a b:Int):kW .geq K (.int k a) (.int k b)=K (.bl (decide (b≤a))):=by simp[kW,pn]
@[simp↓] theorem afo (k k':IntKind) (a b:Int):kW .shl K (.int k a) (.int k' b)=(0≤b∧K (.int k (k.wrap (a*2^min b.toNat k.bits)))):=by simp[kW,pn]
@[simp↓] theorem afp (k k':IntKind) (a b:Int):kW .shr K (.int k a) (.int k' b)=(0≤b∧K (.int k (a.fdiv (2^min b.toNat k.bits)))):=by simp[kW,pn]
@[simp↓] theorem afq (op:BinOp) (a b:List UInt8):kW op K (.str a) (.str b)=wT op a b K:=id rfl
@[simp↓] theorem afr (a b:List UInt8):wT .add a b K=(a.length+b.length≤9223372036854775807∧K (.str (a++b))):=id rfl
@[simp↓] theorem afs (a b:List UInt8):wT .eql a b K=K (.bl (decide (a=b))):=by
 simp only[wT];congr 2;by_cases h:a=b<;>simp[h]
@[simp↓] theorem aft (a b:List UInt8):wT .neq a b K=K (.bl (decide (a≠b))):=by
 simp only[wT];congr 2;by_cases h:a=b<;>simp[h]
@[simp↓] theorem afu (a b:List UInt8):wT .lss a b K=K (.bl (Op.bytesLess a b)):=id rfl
@[simp↓] theorem afv (b:Bool):tQ .eql b K=K (.bl b):=id rfl
@[simp↓] theorem afw (b:Bool):tQ .neq b K=K (.bl (!b)):=id rfl
@[simp↓] theorem aov (op:BinOp) (a b:Bool):aen op K (.bl a) (.bl b)=tQ op (a==b) K:=id rfl
@[simp↓] theorem aow (b:Bool):unK .not K (.bl b)=K (.bl (!b)):=id rfl
@[simp↓] theorem aox (sz:Nat) (K:List PV->Prop) (q:PV):Q6 s sz K q=xl s (λbL ys=>(ys=[]∨bL=sz)∧K ys) q:=id rfl
@[simp↓] theorem XC (d k len aE n sz bL bytes sz'':Nat) (ys l:List PV) (K:St->Prop):No s d k len aE n sz bL bytes ys K (.arr sz'' l)=((aE=l.length∧bL=sz∧sz''=sz∧len≤n∧n≤l.length∧ys≠[]∧get s.bx d=none∧(len+ys.length)*bytes≤140737488355328∧len+ys.length≤9223372036854775807)∧
    (len+ys.length≤n->K {env:=put s.env d (.rs k [] 0 (len+ys.length) aE sz (.full n)),bx:=put s.bx k (.arr sz (l.take len++ys++l.drop (len+ys.length)))})∧
    (n<len+ys.length->K {env:=put s.env d (.rs d [] 0 (len+ys.length) (len+ys.length) sz .tip),bx:=put s.bx d (.arr sz (l.take len++ys))})):=_root_.id rfl
@[simp↓] theorem aoy (d k len aE n sz bL bytes sz'':Nat) (z:PV) (m:Int) (l:List PV) (K:St->Prop):apZ s d k len aE n sz bL bytes z m K (.arr sz'' l)=((get s.bx d=none∧aE=l.length∧bL=sz∧sz''=sz∧len≤n∧n≤l.length∧0<m∧n<len+m.toNat∧(len+m.toNat)*bytes≤140737488355328∧len+m.toNat≤9223372036854775807)∧
    K {env:=put s.env d (.rs d [] 0 (len+m.toNat) (len+m.toNat) sz .tip),bx:=put s.bx d (.arr sz (l.take len++List.replicate m.toNat z))}):=_root_.id rfl
@[simp↓] theorem abB (d k len aE sz bL bytes sz'':Nat) (ys l:List PV) (K:St->Prop):Um s d k len aE sz bL bytes ys K (.arr sz'' l)=((aE=l.length∧len=l.length∧bL=sz∧sz''=sz∧(l.length+ys.length)*bytes≤140737488355328∧l.length+ys.length≤9223372036854775807)∧
   K {env:=put s.env d (.rs k [] 0 (l.length+ys.length) (l.length+ys.length) sz .tip),bx:=put s.bx k (.arr sz (l++ys))}):=rfl
def Rm (off len aE sz:Nat) (p:List Step) (K:Nat->List PV->Prop):bh->Prop
 | .arr bL l=>(aE=l.length∧p=[]∧sz=bL∧off+len≤l.length)∧K sz ((l.drop off).take len)
 | .box v=>dE (aQ v p) λ
   | .ar bL n l=>(aE=0∧sz=bL∧off+len≤n)∧K sz ((l.drop off).take len)
   |_=>False
 | .map .. =>False
@[simp↓] theorem aoz (K:Nat->List PV->Prop) (k off len aE sz:Nat) (p:List Step) (c:jA):xl s K (.rs k p off len aE sz c)=dE (get s.bx k) (Rm off len aE sz p K):=by
 simp only[xl];congr 1
@[simp↓] theorem afx (off len aE sz bL:Nat) (l:List PV) (p:List Step) (K:Nat->List PV->Prop):Rm off len aE sz p K (.arr bL l)=((aE=l.length∧p=[]∧sz=bL∧off+len≤l.length)∧K sz ((l.drop off).take len)):=id rfl
def afy (off len aE sz:Nat) (K:Nat->List PV->Prop):PV->Prop
 | .ar bL n l=>(aE=0∧sz=bL∧off+len≤n)∧K sz ((l.drop off).take len)
 |_=>False
@[simp↓] theorem afz (off len aE sz:Nat) (v:PV) (p:List Step) (K:Nat->List PV->Prop):Rm off len aE sz p K (.box v)=dE (aQ v p) (afy off len aE sz K):=by
 simp only[Rm];congr 1
@[simp↓] theorem aoA (off len aE sz bL n:Nat) (l:List PV) (K:Nat->List PV->Prop):afy off len aE sz K (.ar bL n l)=((aE=0∧sz=bL∧off+len≤n)∧K sz ((l.drop off).take len)):=id rfl
@[simp↓] theorem sY (g:Bool) (sz z:Nat) (lo hi:Option AX) (l:List PV) (c:Bool):tj s g sz lo hi K (.sl z l c)=jM g s lo hi l.length l.length (λa b=>(z=sz)∧K (.sl sz ((l.take b).drop a) (c&&decide (b=l.length)))):=id rfl
@[simp↓] theorem aoB (g:Bool) (sz z k off len aE:Nat) (p:List Step) (c:jA) (lo hi:Option AX):tj s g sz lo hi K (.rs k p off len aE z c)=dE (get s.bx k) λblk=>(aE=blk.aE∧z=sz)∧jM g s lo hi len (z9 c off len aE) λa b=>K (.rs k p (off+a) (b-a) aE sz (Dv c a (decide (b=len)))):=_root_.id rfl
@[simp↓] theorem aoC (g:Bool) (sz z:Nat) (lo hi:Option AX) (m:AX) (l:List PV) (c:Bool):Ni s g sz lo hi m K (.sl z l c)=il g (vx s m) (sj λm=>(0≤m∧m≤l.length)∧jM g s lo hi l.length m.toNat λa b=>(z=sz)∧K (.sl sz ((l.take b).drop a) (decide (b=m.toNat)))):=id rfl
def XD (e:Bool):jA:=bif e then .clip else .any
@[simp] theorem aqQ:XD true= .clip:=id rfl
@[simp↓] theorem aoD (g:Bool) (sz z k off len aE:Nat) (p:List Step) (c:jA) (lo hi:Option AX) (m:AX):Ni s g sz lo hi m K (.rs k p off len aE z c)=dE (get s.bx k) λblk=>(aE=blk.aE∧z=sz)∧il g (vx s m) (sj λm=>(0≤m∧m≤len)∧jM g s lo hi len m.toNat λa b=>K (.rs k p (off+a) (b-a) aE sz (XD (decide (b=m.toNat))))):=by
 simp only[Ni];congr 1;funext blk;congr 2;congr 1;funext m;congr 2;funext a b;by_cases h:b=m.toNat<;>simp[h,XD]
@[simp↓] theorem aqR (g:Bool) (K:Nat->Nat->Prop) (h:Nat):KD g s none K h=K 0 h:=id rfl
@[simp↓] theorem aqS (g:Bool) (x:AX) (K:Nat->Nat->Prop) (h:Nat):KD g s (some x) K h=il g (vx s x) (sj λl=>(0≤l∧l≤h)∧K l.toNat h):=id rfl
def mmC (mx:Bool) (K:PV->Prop):List PV->Prop
 | .int k a::r=>mh mx a r λn=>K (.int k n)
 |_=>False
@[simp↓] theorem aoE (mx:Bool) (k:IntKind) (a:Int) (r:List PV):mmC mx K (.int k a::r)=mh mx a r λn=>K (.int k n):=id rfl
@[simp↓] theorem aAs (g mx:Bool) (xs:List AX):ev g s (.mm mx xs) K=tR g s xs (mmC mx K):=by
 simp only[ev];congr 1
@[simp↓] theorem abC (mx:Bool) (a:Int) (K:Int->Prop):mh mx a [] K=K a:=id rfl
@[simp↓] theorem abD (a b:Int) (k:IntKind) (r:List PV) (K:Int->Prop):mh true a (.int k b::r) K=mh true (max a b) r K:=by simp[mh]
@[simp↓] theorem abE (a b:Int) (k:IntKind) (r:List PV) (K:Int->Prop):mh false a (.int k b::r) K=mh false (min a b) r K:=by simp[mh]
def XE (s:St) (K:PV->Prop):PV->Prop
 | .rs k _ _ _ aE _ (.full n)=>dE (get s.bx k) λblk=>aE=blk.aE∧K (.int .i64 n)
 |_=>False
@[simp↓] theorem abF (k:Nat) (p:List Step) (off len aE sz n:Nat):XE s K (.rs k p off len aE sz (.full n))=dE (get s.bx k) λblk=>aE=blk.aE∧K (.int .i64 n):=_root_.id rfl
@[simp↓] theorem axB (g:Bool) (x:AX):ev g s (.cap x) K=il g (vx s x) (XE s K):=by
 simp only[ev,j4];congr 1;funext p
 cases p<;>try rfl
 rename_i k p off len aE sz c
 cases c<;>try rfl
 simp only[XE]
 cases get s.bx k<;>rfl
@[simp↓] theorem afA (g:Bool) (f:Fn) (a b:List AX):ev g s (.mkFunc f a b) K=tR g s a λps=>tR g s b λqs=>(ps.all (λp=> !p.isAgg&&p.bp)=true∧qs.all (λp=> !p.isAgg&&p.bp)=true)∧K (.fn f ps qs):=by simp only[ev]
@[simp] theorem ge0 {α:Type} (x:α) (l:List α):(x::l)[0]? =some x:=_root_.id rfl
@[simp↓] theorem aqT (want:Bool) (M:Bool->Prop) (D U:Prop) (b:Bool):yN want true M D U (.bl b)=M (b==want):=id rfl
@[simp↓] theorem aqU (M:Bool->Prop) (D U:Prop):yN true false M D U (.bl true)=D:=by simp[yN]
@[simp↓] theorem aqV (M:Bool->Prop) (D U:Prop):yN true false M D U (.bl false)=U:=by simp[yN]
@[simp↓] theorem aqW (M:Bool->Prop) (D U:Prop):yN false false M D U (.bl true)=U:=by simp[yN]
@[simp↓] theorem aqX (M:Bool->Prop) (D U:Prop):yN false false M D U (.bl false)=D:=by simp[yN]
@[simp↓] theorem axC (A B:Prop):Xc A B (.bl true)=A:=by simp
@[simp↓] theorem axD (A B:Prop):Xc A B (.bl false)=B:=by simp
@[simp↓500] theorem aqY (want:Bool) (M:Bool->Prop) (D U:Prop) (b:Bool):yN want false M D U (.bl b)=((b=want->D)∧(b≠want->U)):=id rfl
@[simp↓] theorem aqZ (want:Bool) (M:Bool->Prop) (D U:Prop) (g b:Bool):yN want true M D U (.gd g (.bl b))=M (g&&b==want):=id rfl
@[simp↓] theorem aoF (M:Bool->Prop) (D U:Prop):yN true false M D U (.gd true (.bl true))=D:=by simp[yN]
@[simp↓] theorem aoG (M:Bool->Prop) (D U:Prop):yN true false M D U (.gd true (.bl false))=U:=by simp[yN]
@[simp↓] theorem aoH (M:Bool->Prop) (D U:Prop):yN false false M D U (.gd true (.bl true))=U:=by simp[yN]
@[simp↓] theorem aoI (M:Bool->Prop) (D U:Prop):yN false false M D U (.gd true (.bl false))=D:=by simp[yN]
@[simp↓] theorem aq0 (w:Bool) (M:Bool->Prop) (D U:Prop) (b:Bool):yN w false M D U (.gd false (.bl b))=U:=by simp[yN]
@[simp↓] theorem afB (x a b:Bool):vF x K (.bl a) (.bl b)=K (.bl (bif x then a else b)):=id rfl
@[simp↓] theorem afC (x a g b:Bool):vF x K (.bl a) (.gd g (.bl b))=((x=false->g=true)∧K (.bl (bif x then a else b))):=id rfl
@[simp↓] theorem afD (x a g b:Bool):vF x K (.gd g (.bl a)) (.bl b)=((x=true->g=true)∧K (.bl (bif x then a else b))):=id rfl
@[simp↓] theorem afE (x a:Bool):vF x K (.bl a) .un=(x=true∧K (.bl a)):=id rfl
@[simp↓] theorem afF (x a:Bool):vF x K .un (.bl a)=(x=false∧K (.bl a)):=id rfl
@[simp] theorem wrap_i64 {n:Int} (h: -9223372036854775808≤n∧n≤9223372036854775807):IntKind.i64.wrap n=n:=by
 simp only[IntKind.wrap,IntKind.bits,IntKind.signed];simp;omega
@[simp] theorem wrap_u8 {n:Int} (h:0≤n∧n≤255):IntKind.u8.wrap n=n:=by
 simp only[IntKind.wrap,IntKind.bits,IntKind.signed];simp;omega
@[simp] theorem wrap_u32 {n:Int} (h:0≤n∧n≤4294967295):IntKind.u32.wrap n=n:=by
 simp only[IntKind.wrap,IntKind.bits,IntKind.signed];simp;omega
@[simp] theorem wrap_u64 {n:Int} (h:0≤n∧n≤18446744073709551615):IntKind.u64.wrap n=n:=by
 simp only[IntKind.wrap,IntKind.bits,IntKind.signed];simp;omega
theorem yr (b:List UInt8):iV (b.map u8)=some b:=by
 induction b with
 |nil=>rfl
 |
  cons x b ih=>
  have h:(x.toNat:Int)<256:=by have:=x.toNat_lt;omega
  simp[u8,iV,ih];omega
@[simp] theorem Rn (b:List UInt8):iV (b.map u8)=some b:=yr b
@[simp↓] theorem abG (sz j s:Nat) (l:List PV) (r:List Step):mL (.arr sz l) (.i j s::r)=if s=sz then l[j]?.bind λc=>aQ c r else none:=by
 first|(simp only[mL];cases l[j]? <;>rfl)|(simp only[aQ];cases l[j]? <;>rfl)
@[simp↓] theorem abH (v:PV) (p:List Step):mL (.box v) p=aQ v p:=by cases p<;>rfl
@[simp↓] theorem afG (v:PV):aQ v []=some v:=by cases v<;>rfl
@[simp↓] theorem aq1 (w i o:Nat) (l:List PV) (r:List Step):aQ (.st w l) (.f i o::r)=if az (l.take i)=o then l[i]?.bind λc=>aQ c r else none:=by
 simp only[aQ];cases l[i]? <;>rfl
@[simp↓] theorem aq2 (sz n j s:Nat) (l:List PV) (r:List Step):aQ (.ar sz n l) (.i j s::r)=if s=sz then l[j]?.bind λc=>aQ c r else none:=by
 first|(simp only[mL];cases l[j]? <;>rfl)|(simp only[aQ];cases l[j]? <;>rfl)
@[simp↓] theorem afH (v x:PV):di v [] x=if x.width=v.width then some x else none:=by cases v<;>rfl
@[simp↓] theorem aq3 (w i o:Nat) (l:List PV) (r:List Step) (x:PV):di (.st w l) (.f i o::r) x=if az (l.take i)=o then l[i]?.bind λc=>(di c r x).bind λc'=>some (.st w (l.set i c'))else none:=by
 simp only[di];cases l[i]?with
 |none=>rfl
 |some c=>simp only[Option.bind_some];cases di c r x<;>rfl
@[simp↓] theorem aq4 (sz n j s:Nat) (l:List PV) (r:List Step) (x:PV):di (.ar sz n l) (.i j s::r) x=if s=sz then l[j]?.bind λc=>(di c r x).bind λc'=>some (.ar sz n (l.set j c'))else none:=by
 simp only[di];cases l[j]?with
 |none=>rfl
 |some c=>simp only[Option.bind_some];cases di c r x<;>rfl
@[simp↓] theorem abI (v x:PV) (p:List Step):qf (.box v) p x=(di v p x).bind λv'=>some (.box v'):=by
 simp only[qf];cases di v p x<;>rfl
@[simp↓] theorem abJ (sz j s:Nat) (l:List PV) (r:List Step) (x:PV):qf (.arr sz l) (.i j s::r) x=if s=sz then l[j]?.bind λc=>(di c r x).bind λc'=>some (.arr sz (l.set j c'))else none:=by
 simp only[qf];cases l[j]?with
 |none=>rfl
 |some c=>simp only[Option.bind_some];cases di c r x<;>rfl
@[simp] theorem aoJ (z:Nat) (l:List PV) (v:PV):Ue (.arr z l) v=wk v:=id rfl
@[simp] theorem aoK (u v:PV):Ue (.box u) v=v:=id rfl
@[simp] theorem UA (z:Nat) (l:List PV):(bh.arr z l).aE=l.length:=id rfl
@[simp] theorem UB (v:PV):(bh.box v).aE=0:=id rfl
@[simp↓] theorem Ro (l:List PV):dT l []=some l:=id rfl
@[simp↓] theorem PN (l:List PV) (i:Nat) (p:PV) (r:List (Nat×PV)):dT l ((i,p)::r)=l[i]?.bind λq=>if p.width=q.width∧p.bp=true then dT (l.set i p) r else none:=by
 simp only[dT];cases l[i]? <;>rfl
@[simp] theorem aAt (w:Nat) (l:List PV):(PV.st w l).width=w:=id rfl
@[simp] theorem aAu (sz n:Nat) (l:List PV):(PV.ar sz n l).width=n*sz:=id rfl
@[simp] theorem axE (k:IntKind) (n:Int):(PV.int k n).width=1:=id rfl
@[simp] theorem aAv (b:Bool):(PV.bl b).width=1:=id rfl
@[simp] theorem aAw (z:Nat) (l:List PV) (c:Bool):(PV.sl z l c).width=1:=id rfl
@[simp] theorem aAx (k:Nat) (p:List Step) (a b c d:Nat) (e:jA):(PV.rs k p a b c d e).width=1:=id rfl
@[simp] theorem aAy (b:UInt8):(u8 b).width=1:=id rfl
@[simp] theorem XF:az []=0:=id rfl
@[simp] theorem UC (p:PV) (l:List PV):az (p::l)=p.width+az l:=id rfl
@[simp] theorem aq5 (w:Nat) (l:List PV):(PV.st w l).isAgg=true:=id rfl
@[simp] theorem aq6 (sz n:Nat) (l:List PV):(PV.ar sz n l).isAgg=true:=id rfl
@[simp] theorem aoL (k:IntKind) (n:Int):(PV.int k n).isAgg=false:=id rfl
@[simp] theorem aq7 (b:Bool):(PV.bl b).isAgg=false:=id rfl
@[simp] theorem aq8 (z:Nat) (l:List PV) (c:Bool):(PV.sl z l c).isAgg=false:=id rfl
@[simp] theorem aq9 (k:Nat) (p:List Step) (a b c d:Nat) (e:jA):(PV.rs k p a b c d e).isAgg=false:=id rfl
@[simp] theorem ara (k:Nat) (p:List Step) (a:Nat):(PV.pt k p a).isAgg=false:=id rfl
@[simp] theorem arb (b:UInt8):(u8 b).isAgg=false:=id rfl
@[simp] theorem arc (w:Nat) (l:List PV):(PV.st w l).bp=true:=id rfl
@[simp] theorem ard (sz n:Nat) (l:List PV):(PV.ar sz n l).bp=true:=id rfl
@[simp] theorem aoM (k:IntKind) (n:Int):(PV.int k n).bp=true:=id rfl
@[simp] theorem are (b:Bool):(PV.bl b).bp=true:=id rfl
@[simp] theorem arf (z:Nat) (l:List PV) (c:Bool):(PV.sl z l c).bp=true:=id rfl
@[simp] theorem arh (k:Nat) (p:List Step) (a b c d:Nat) (e:jA):(PV.rs k p a b c d e).bp=true:=id rfl
@[simp] theorem ari (k:Nat) (p:List Step) (a:Nat):(PV.pt k p a).bp=true:=id rfl
@[simp] theorem arj (f:Fn) (a b:List PV):(PV.fn f a b).bp=true:=id rfl
@[simp] theorem ark (f:Fn) (a b:List PV):(PV.fn f a b).isAgg=false:=id rfl
@[simp] theorem aoN (w:Nat) (l:List PV):(PV.st w l).flat=true:=id rfl
@[simp] theorem aoO (sz n:Nat) (l:List PV):(PV.ar sz n l).flat=true:=id rfl
@[simp] theorem afI (k:IntKind) (n:Int):(PV.int k n).flat=true:=id rfl
@[simp] theorem aoP (b:Bool):(PV.bl b).flat=true:=id rfl
@[simp] theorem afJ (b:List UInt8):(PV.str b).flat=true:=id rfl
@[simp] theorem aoQ (z:Nat) (l:List PV) (c:Bool):(PV.sl z l c).flat=true:=id rfl
@[simp] theorem aoR (k:Nat) (p:List Step) (a b c d:Nat) (e:jA):(PV.rs k p a b c d e).flat=true:=id rfl
@[simp] theorem aoS (k:Nat) (p:List Step) (a:Nat):(PV.pt k p a).flat=true:=id rfl
end Go.Ab
namespace Go.Ab
variable [eE]
variable {P:Program} {s:St} [iZ]
theorem aM.with {n:Nat} {res:List AK} {R:PV->List bh->Prop} {t:Tg R} (c:List Cut) (ks:List Nat)
  (h:iu c s λs'=>FI s' res λps=>dE (getAll s'.bx ks) λbm=>(ks.Nodup∧ks.take n=eU n)∧(ps.all PV.flat=true∧ab (bj ks) (fx ps)=true∧bm.all (ah (bj ks))=true)∧R (aI (aV ks) (fx ps)) (bm.map (aZ (aV ks)))):aM n res R t s:=by
 refine⟨c,ks,jn c (λs' BX=> ?_) h⟩
 have aaE:∀(l:List AK) (s:St) (K K':List PV->Prop),(∀p,K p->K' p)->FI s l K->FI s l K':=by
  intro l
  induction l with
  |nil=>intro s K K' h hk;exact h _ hk
  |cons x l ih=>intro s K K' h hk;exact zf (λp hp=>ih _ _ _ (λq hq=>h _ hq) hp) hk
 refine aaE _ _ _ _ (λps tv=> ?_) BX
 cases hg:getAll s'.bx ks with
 |none=>rw[hg]at tv;exact tv.elim
 |some bm=>rw[hg]at tv;exact⟨bm,⟨rfl,tv.1.1,tv.1.2⟩,tv.2.1,tv.2.2⟩
@[simp] theorem UD (bx:List (Nat×bh)) (k:Nat) (r:List Nat):getAll bx (k::r)=(get bx k).bind λb=>(getAll bx r).bind λl=>some (b::l):=by
 simp only[getAll];cases get bx k<;>cases getAll bx r<;>rfl
@[simp] theorem afK {p:PV} (h:Pure p) (ρ:Nat->Nat):aI ρ p=p:=h.aI ρ
@[simp] theorem abK {p:List PV} (h:aB p) (ρ:Nat->Nat):aO ρ p=p:=h.aI ρ
@[simp] theorem arl (ρ:Nat->Nat) (k:Nat) (p:List Step) (a b c d:Nat) (e:jA):aI ρ (.rs k p a b c d e)= .rs (ρ k) p a b c d e:=by simp[aI]
@[simp] theorem arn (ρ:Nat->Nat) (k:Nat) (p:List Step) (a:Nat):aI ρ (.pt k p a)= .pt (ρ k) p a:=by simp[aI]
@[simp] theorem aoT (ρ:Nat->Nat) (l:List PV):aI ρ (.tup l)= .tup (aO ρ l):=by simp[aI]
@[simp] theorem aro (ρ:Nat->Nat) (w:Nat) (l:List PV):aI ρ (.st w l)= .st w (aO ρ l):=by simp[aI]
@[simp] theorem abL (ρ:Nat->Nat) (p:PV) (l:List PV):aO ρ (p::l)=aI ρ p::aO ρ l:=id rfl
@[simp] theorem afL (ρ:Nat->Nat) (z:Nat) (l:List PV):aZ ρ (.arr z l)= .arr z (aO ρ l):=id rfl
@[simp] theorem afM (ρ:Nat->Nat) (v:PV):aZ ρ (.box v)= .box (aI ρ v):=id rfl
@[simp] theorem abM (k:Nat) (ks:List Nat) (j:Nat):aV (k::ks) j=((idx (k::ks) j).map (KB+·)).getD j:=by
 simp only[aV];cases idx (k::ks) j<;>rfl
@[simp] theorem afN (x:Nat) (r:List Nat) (k:Nat):idx (x::r) k=if x=k then some 0 else(idx r k).map (·+1):=by
 simp only[idx];cases idx r k<;>rfl
@[simp] theorem aoU (ks:List Nat) (k:Nat):bj ks k=(idx ks k).isSome:=id rfl
@[simp] theorem XG (f:Nat->Bool) (l:List PV):ab f (.tup l)=ae f l:=by simp[ab]
@[simp] theorem abN (f:Nat->Bool) (w:Nat) (l:List PV):ab f (.st w l)=ae f l:=by simp[ab]
@[simp] theorem Rp {α β:Type} (f:α->β) (l:List α):(l.map f).take l.length=l.map f:=tJ (by simp)
@[simp] theorem PO {α β:Type} (f:α->β) (l:List α) (x:β):(l.map f++[x]).take (l.length+1)=l.map f++[x]:=tJ (by simp)
@[simp] theorem aoV {p:PV} (h:Pure p) (n:Nat):aB (zr n p):=by rw[gX];exact yO h n
@[simp] theorem axF {p:PV} (h:wk p=p) (n:Nat):jO (zr n p)=zr n p:=by rw[gX];exact B9 h n
theorem KJ (b:List UInt8):aB (b.map u8):=by simp
@[simp] theorem XH (b:List UInt8):aB (b.map u8)↔True:=iff_true_intro (KJ b)
end Go.Ab
namespace Go.Ab
variable [eE]
variable {P:Program} {s:St} [iZ]
def ny (P:Program) (l:List AO) (o u:List Nat) (K:St->Prop) (_:Tg K) (s:St):Prop:=∃W,jt P l u.contains W s o K
@[simp↓] theorem XI (l:List AO) (o u:List Nat) (Q:Exit->St->Prop):aw P (.regionD l o u) Q s=ny P l o u (Q .normal) .mk s:=_root_.id rfl
def kL (s:St):List (AO×Bool)->Bool
 |[]=>true
 |(x,_)::r=>(match x.ij with|some k=>(get s.bx k).isNone|none=>true)&&kL s r
def Nu (P:Program) (W:List Nat) (s:St):List (AO×Bool)->(St->Prop)->Prop
 |[],K=>K s
 |(x,f)::r,K=>kL s ((x,f)::r)=true∧j1 P W f s x λt=>Nu P W t r K
def oS (l:List AO) (u:List Nat):List Nat->Option (List (AO×Bool))
 |[]=>some []
 |i::r=>match l[i]?,oS l u r with|some x,some m=>some ((x,u.contains i)::m)|_,_=>none
theorem vG {l:List AO} {u:List Nat}:∀ {o:List Nat} {m:List (AO×Bool)},oS l u o=some m->kL s m=gA l s o
 |[],m,hm=>by simp[oS]at hm;subst hm;rfl
 |
  i::r,m,hm=>by
  simp only[oS]at hm
  split at hm
  ·rename_i x m' hx s9
   simp only[sJ]at hm;subst hm
   rw[hU]
   simp only[kL,vG s9]
   congr 1
   simp only[gA,List.all_cons,List.all_nil,Bool.and_true,hx]
   cases x.ij<;>rfl
  ·simp at hm
theorem zm {l:List AO} {u:List Nat} {W:List Nat}:∀ {o:List Nat} {m:List (AO×Bool)} {s:St} {K:St->Prop},oS l u o=some m->Nu P W s m K->jt P l u.contains W s o K
 |[],m,s,K,hm,h=>by simp[oS]at hm;subst hm;exact h
 |
  i::r,m,s,K,hm,h=>by
  simp only[oS]at hm
  split at hm
  ·rename_i x m' hx s9
   simp only[sJ]at hm;subst hm
   have hf:kL s ((x,u.contains i)::m')=gA l s (i::r):=vG (u:=u) (by simp only[oS,hx,s9])
   simp only[jt,hx,Nu]at h⊢
   exact⟨hf▸h.1,AW (λt ht=>zm s9 ht) h.2⟩
  ·simp at hm
theorem ny.of {l:List AO} {o u:List Nat} {K:St->Prop} {t:Tg K} (W:List Nat) (m:List (AO×Bool)) (hm:oS l u o=some m) (h:Nu P W s m K):ny P l o u K t s:=⟨W,zm hm h⟩
def D3:Option bh->Bool
 |some (.box _)=>true
 |_=>false
@[simp] theorem afO (v:PV):D3 (some (.box v))=true:=_root_.id rfl
@[simp] theorem afP (sz:Nat) (l:List PV):D3 (some (.arr sz l))=false:=_root_.id rfl
def Rq (W:List Nat) (c:List (Nat×bh)):List (Nat×bh)->Prop
 |[]=>True
 |(k,b)::r=>(if DV W=true then get c k=some b∨W.contains k=true∧D3 (some b)=true∧D3 (get c k)=true else W.contains k=true∨get c k=some b)∧Rq W c r
theorem Nv {W:List Nat} {t:St}:∀ {l:List (Nat×bh)} {e:List (Nat×PV)},Rq W t.bx l->Fr W ⟨e,l⟩ t
 |[],e,_=>λk b _ h=>by simp[get]at h
 |
  (n,v)::r,e,h=>λk b hw hb=>by
  simp only[get]at hb
  split at hb
  ·rename_i hk;subst hk
   simp only[sJ]at hb;subst hb
   have h1:=h.1
   split at h1
   ·rename_i hm
    rcases h1 with h1|⟨h1,h2,h3⟩
    ·exact⟨_,h1,rfl⟩
    ·cases v with
     |
      box x=>
      cases hg:get t.bx n with
      |none=>rw[hg]at h3;simp[D3]at h3
      |
       some c=>
       rw[hg]at h3
       cases c with
       |box y=>exact⟨_,rfl,by simp only[tf,h1,hm,and_self,if_true]⟩
       |_=>simp[D3]at h3
     |_=>simp[D3]at h2
   ·rename_i hm
    rcases h1 with h1|h1
    ·rw[h1]at hw;simp at hw;exact absurd hw hm
    ·exact⟨_,h1,rfl⟩
  ·exact Nv (e:=e) h.2 k b hw hb
def tk (P:Program) (W:List Nat) (s:St):List (AO×Bool)->(St->Prop)->Prop
 |[],K=>K s
 |(x,f)::r,K=>if x.quiet=true then(if f=true then iN P (s.less W) x (λt=>tk P W {t with bx:=s.bx} r K)else iN P s x (λt=>tk P W t r K))
   else kL s ((x,f)::r)=true∧iN P s x (λt=>(f=true->Rq W t.bx s.bx)∧tk P W t r K)
theorem sm {s s':St} (h:s'.bx=s.bx):∀m:List (AO×Bool),kL s' m=kL s m
 |[]=>rfl
 |(x,f)::r=>by simp only[kL,sm h r,h]
theorem xn {W:List Nat}:∀ {m:List (AO×Bool)} {s:St} {K:St->Prop},tk P W s m K->kL s m=true
 |[],s,K,h=>rfl
 |
  (x,f)::r,s,K,h=>by
  simp only[tk]at h
  split at h
  ·rename_i hq
   simp only[kL,kG hq,Bool.true_and]
   split at h
   ·obtain⟨v,h1,_⟩:=sM hq h
    have:=xn h1
    exact(sm (s:=s) (s':= {env:=((s.less W).put x.dst v).env,bx:=s.bx}) rfl r).symm.trans this
   ·obtain⟨v,h1,_⟩:=sM hq h
    have:=xn h1
    rwa [sm (lx _ _)]at this
  ·exact h.1
theorem oz {W:List Nat}:∀ {m:List (AO×Bool)} {s:St} {K:St->Prop},tk P W s m K->Nu P W s m K
 |[],s,K,h=>h
 |
  (x,f)::r,s,K,h=>by
  refine⟨xn h,?_⟩
  simp only[tk,j1]at h⊢
  split at h
  ·rename_i hq
   rw[if_pos hq]
   split at h
   ·rename_i hf;rw[if_pos hf];exact fj (λt ht=>oz ht) h
   ·rename_i hf;rw[if_neg hf];exact fj (λt ht=>oz ht) h
  ·rename_i hq
   rw[if_neg hq]
   exact fj (λt ht=>⟨λe=>Nv (e:=s.env) (ht.1 e),oz ht.2⟩) h.2
@[simp] theorem afQ (W:List Nat) (k:Nat) (v:PV):tf W k (.box v)=if DV W=true∧W.contains k=true then Fq else .box v:=_root_.id rfl
@[simp] theorem afR (W:List Nat) (k sz:Nat) (l:List PV):tf W k (.arr sz l)= .arr sz l:=_root_.id rfl
@[simp] theorem axG:DV []=false:=_root_.id rfl
@[simp] theorem axH (a:Nat):DV [a]=false:=_root_.id rfl
@[simp] theorem axI (a b:Nat) (r:List Nat):DV (a::b::r)=(a==b):=_root_.id rfl
@[simp] theorem aoW:Fq.aE=0:=_root_.id rfl
theorem Rr {W:List Nat} (h:DV W=false) (k:Nat) (b:bh):tf W k b=b:=by cases b<;>simp[tf,h]
def yu (W:List Nat) (b:List (Nat×bh)):List (Nat×bh):=(b.filter λp=>DV W|| !W.contains p.1).map λp=>(p.1,tf W p.1 p.2)
@[simp] theorem abO (W:List Nat):yu W []=[]:=_root_.id rfl
@[simp] theorem XJ (W:List Nat) (k:Nat) (v:bh) (r:List (Nat×bh)):yu W ((k,v)::r)=if DV W=true then(k,tf W k v)::yu W r else if W.contains k=true then yu W r else(k,v)::yu W r:=by
 unfold yu;rw[List.filter_cons]
 cases hm:DV W
 ·cases W.contains k<;>simp[Rr hm]
 ·simp
@[simp] theorem afS (d:Option Nat) (gd:Option (Nat×Bool)) (mg:Bool) (a:AX):AO.quiet ⟨d,gd,mg,.mv a⟩=true:=_root_.id rfl
@[simp] theorem aoX (d:Option Nat) (gd:Option (Nat×Bool)) (mg:Bool) (a:AX):AO.ij ⟨d,gd,mg,.mv a⟩=none:=by simp[AO.ij]
@[simp] theorem UE (d:Option Nat) (gd:Option (Nat×Bool)) (mg:Bool) (z:PV) (ps:List (Nat×AX)):AO.quiet ⟨d,gd,mg,.build z ps⟩=true:=_root_.id rfl
@[simp] theorem XK (d:Option Nat) (gd:Option (Nat×Bool)) (mg:Bool) (z:PV) (ps:List (Nat×AX)):AO.ij ⟨d,gd,mg,.build z ps⟩=none:=by simp[AO.ij]
@[simp] theorem XL (d:Option Nat) (gd:Option (Nat×Bool)) (mg:Bool) (g:Bool) (m:Nat) (a:AX):AO.quiet ⟨d,gd,mg,.load g m a⟩=true:=_root_.id rfl
@[simp] theorem abP (d:Option Nat) (gd:Option (Nat×Bool)) (mg:Bool) (g:Bool) (m:Nat) (a:AX):AO.ij ⟨d,gd,mg,.load g m a⟩=none:=by simp[AO.ij]
@[simp] theorem Nw (d:Option Nat) (gd:Option (Nat×Bool)) (mg:Bool) (a:AX):AO.quiet ⟨d,gd,mg,.nilCheck a⟩=true:=_root_.id rfl
@[simp] theorem PQ (d:Option Nat) (gd:Option (Nat×Bool)) (mg:Bool) (a:AX):AO.ij ⟨d,gd,mg,.nilCheck a⟩=none:=by simp[AO.ij]
@[simp] theorem abQ (d:Option Nat) (gd:Option (Nat×Bool)) (mg:Bool) (o:BinOp) (e:ET) (a b:AX):AO.quiet ⟨d,gd,mg,.bin o e a b⟩=true:=_root_.id rfl
@[simp] theorem afT (d:Option Nat) (gd:Option (Nat×Bool)) (mg:Bool) (o:BinOp) (e:ET) (a b:AX):AO.ij ⟨d,gd,mg,.bin o e a b⟩=none:=by simp[AO.ij]
@[simp] theorem UF (d:Option Nat) (gd:Option (Nat×Bool)) (mg:Bool) (k:IntKind) (a:AX):AO.quiet ⟨d,gd,mg,.convI k a⟩=true:=_root_.id rfl
@[simp] theorem XM (d:Option Nat) (gd:Option (Nat×Bool)) (mg:Bool) (k:IntKind) (a:AX):AO.ij ⟨d,gd,mg,.convI k a⟩=none:=by simp[AO.ij]
@[simp] theorem UG (d:Option Nat) (gd:Option (Nat×Bool)) (mg:Bool) (k:SK) (a:AX) (l h m:Option AX):AO.quiet ⟨d,gd,mg,.slice k a l h m⟩=true:=_root_.id rfl
@[simp] theorem Rs (d:Option Nat) (gd:Option (Nat×Bool)) (mg:Bool) (i o:Nat) (a:AX):AO.quiet ⟨d,gd,mg,.fieldA i o a⟩=true:=_root_.id rfl
@[simp] theorem UH (d:Option Nat) (gd:Option (Nat×Bool)) (mg:Bool) (i o:Nat) (a:AX):AO.ij ⟨d,gd,mg,.fieldA i o a⟩=none:=by simp[AO.ij]
@[simp] theorem Rt (d:Option Nat) (gd:Option (Nat×Bool)) (mg:Bool) (k:SK) (a b:AX):AO.quiet ⟨d,gd,mg,.indexA k a b⟩=true:=_root_.id rfl
@[simp] theorem UI (d:Option Nat) (gd:Option (Nat×Bool)) (mg:Bool) (k:SK) (a b:AX):AO.ij ⟨d,gd,mg,.indexA k a b⟩=none:=by simp[AO.ij]
@[simp] theorem PR (d:Option Nat) (gd:Option (Nat×Bool)) (mg:Bool) (i:Nat) (a:AX):AO.quiet ⟨d,gd,mg,.extract i a⟩=true:=_root_.id rfl
@[simp] theorem Ru (d:Option Nat) (gd:Option (Nat×Bool)) (mg:Bool) (i:Nat) (a:AX):AO.ij ⟨d,gd,mg,.extract i a⟩=none:=by simp[AO.ij]
@[simp] theorem abR (d:Option Nat) (gd:Option (Nat×Bool)) (mg:Bool) (a:AX):AO.quiet ⟨d,gd,mg,.len a⟩=true:=_root_.id rfl
@[simp] theorem afU (d:Option Nat) (gd:Option (Nat×Bool)) (mg:Bool) (a:AX):AO.ij ⟨d,gd,mg,.len a⟩=none:=by simp[AO.ij]
@[simp] theorem afV (d:Option Nat) (gd:Option (Nat×Bool)) (mg:Bool) (g:Bool) (as:List AX):AO.quiet ⟨d,gd,mg,.mm g as⟩=true:=_root_.id rfl
@[simp] theorem aoY (d:Option Nat) (gd:Option (Nat×Bool)) (mg:Bool) (g:Bool) (as:List AX):AO.ij ⟨d,gd,mg,.mm g as⟩=none:=by simp[AO.ij]
@[simp] theorem XN (d:Option Nat) (gd:Option (Nat×Bool)) (mg:Bool) (a:AX) (as:List AX):AO.quiet ⟨d,gd,mg,.call a as⟩=false:=_root_.id rfl
@[simp] theorem abS (d:Option Nat) (gd:Option (Nat×Bool)) (mg:Bool) (a:AX) (as:List AX):AO.ij ⟨d,gd,mg,.call a as⟩=none:=by simp[AO.ij]
@[simp] theorem UJ (d:Option Nat) (gd:Option (Nat×Bool)) (mg:Bool) (a:AX) (as:List AX):AO.quiet ⟨d,gd,mg,.callq a as⟩=true:=_root_.id rfl
@[simp] theorem XO (d:Option Nat) (gd:Option (Nat×Bool)) (mg:Bool) (a:AX) (as:List AX):AO.ij ⟨d,gd,mg,.callq a as⟩=none:=by simp[AO.ij]
@[simp] theorem UK (d:Option Nat) (gd:Option (Nat×Bool)) (mg:Bool) (z:PV):AO.quiet ⟨d,gd,mg,.alloc z⟩=false:=_root_.id rfl
@[simp] theorem UL (d:Option Nat) (gd:Option (Nat×Bool)) (mg:Bool) (m:Nat) (a b:AX):AO.quiet ⟨d,gd,mg,.store m a b⟩=false:=_root_.id rfl
@[simp] theorem XP (d:Option Nat) (gd:Option (Nat×Bool)) (mg:Bool) (m:Nat) (a b:AX):AO.ij ⟨d,gd,mg,.store m a b⟩=none:=by simp[AO.ij]
@[simp] theorem Rv (d:Option Nat) (gd:Option (Nat×Bool)) (mg:Bool) (m m2:Nat) (g:Bool) (a b:AX):AO.quiet ⟨d,gd,mg,.append m m2 g a b⟩=false:=_root_.id rfl
@[simp] theorem UM (d:Option Nat) (gd:Option (Nat×Bool)) (mg:Bool) (m m2:Nat) (g:Bool) (a b:AX):AO.ij ⟨d,gd,mg,.append m m2 g a b⟩=none:=by simp[AO.ij]
@[simp] theorem XQ (d:Option Nat) (gd:Option (Nat×Bool)) (mg:Bool) (m:Nat) (a b:AX):AO.quiet ⟨d,gd,mg,.copy m a b⟩=false:=_root_.id rfl
@[simp] theorem abT (d:Option Nat) (gd:Option (Nat×Bool)) (mg:Bool) (m:Nat) (a b:AX):AO.ij ⟨d,gd,mg,.copy m a b⟩=none:=by simp[AO.ij]
@[simp] theorem abU (d:Option Nat) (gd:Option (Nat×Bool)) (mg:Bool) (m:Nat) (z:PV) (n:Nat) (ps:List (Nat×AX)):AO.quiet ⟨d,gd,mg,.buildSlice false m z n ps⟩=true:=_root_.id rfl
@[simp] theorem afW (d:Option Nat) (gd:Option (Nat×Bool)) (mg:Bool) (m:Nat) (z:PV) (n:Nat) (ps:List (Nat×AX)):AO.ij ⟨d,gd,mg,.buildSlice false m z n ps⟩=none:=by simp[AO.ij]
@[simp] theorem abV (d:Option Nat) (gd:Option (Nat×Bool)) (mg:Bool) (m:Nat) (z:PV) (n:Nat) (ps:List (Nat×AX)):AO.quiet ⟨d,gd,mg,.buildSlice true m z n ps⟩=false:=_root_.id rfl
@[simp] theorem afX (d:Option Nat) (gd:Option (Nat×Bool)) (mg:Bool) (m:Nat) (z:PV) (n:Nat) (ps:List (Nat×AX)):AO.ij ⟨d,gd,mg,.buildSlice true m z n ps⟩=none:=by simp[AO.ij]
theorem ny.run {l:List AO} {o u:List Nat} {K:St->Prop} {t:Tg K} (W:List Nat) {m:List (AO×Bool)} (hm:oS l u o=some m) (h:tk P W s m K):ny P l o u K t s:=ny.of W m hm (oz h)
@[simp↓] theorem afY (W:List Nat) (K:St->Prop):tk P W s [] K=K s:=_root_.id rfl
@[simp↓] theorem arp (W:List Nat) (n:Nat) (v:PV) (e:List (Nat×PV)) (b:List (Nat×bh)) (x:AO) (f:Bool) (r:List (AO×Bool)) (K:St->Prop):tk P W ⟨(n,v)::e,b⟩ ((x,f)::r) K=
  if x.quiet=true then(if f=true then iN P ⟨(n,v)::e,yu W b⟩ x (λt=>tk P W {t with bx:=b} r K)else iN P ⟨(n,v)::e,b⟩ x (λt=>tk P W t r K))
  else(kL ⟨(n,v)::e,b⟩ ((x,f)::r)=true∧iN P ⟨(n,v)::e,b⟩ x (λt=>(f=true->Rq W t.bx b)∧tk P W t r K)):=by
 simp only[tk];rfl
@[simp] theorem aoZ (x:AO) (f:Bool) (r:List (AO×Bool)):kL s ((x,f)::r)=((match x.ij with|some k=>(get s.bx k).isNone|none=>true)&&kL s r):=_root_.id rfl
def DrE (P:Program) (l:List AO) (a:List Nat) (p q:Nat) (b u:List Nat) (K:St->Prop) (_:Tg K) (s:St):Prop:=∃W,mX P l u.contains W (p::q::b) s a λt=>jt P l u.contains W t (p::q::b) K∧jt P l u.contains W t (q::p::b) K
@[simp↓] theorem XR (l:List AO) (a:List Nat) (p q:Nat) (b u:List Nat) (Q:Exit->St->Prop):aw P (.regionE l a p q b u) Q s=DrE P l a p q b u (Q .normal) .mk s:=_root_.id rfl
def nA (P:Program) (W:List Nat) (mE:List (AO×Bool)) (s:St):List (AO×Bool)->(St->Prop)->Prop
 |[],K=>kL s mE=true∧K s
 |(x,f)::r,K=>if x.quiet=true then(if f=true then iN P (s.less W) x (λt=>nA P W mE {t with bx:=s.bx} r K)else iN P s x (λt=>nA P W mE t r K))
   else kL s ((x,f)::(r++mE))=true∧iN P s x (λt=>(f=true->Rq W t.bx s.bx)∧nA P W mE t r K)
theorem FQ {l:List AO} {u:List Nat}:∀ {a b:List Nat} {m n:List (AO×Bool)},oS l u a=some m->oS l u b=some n->oS l u (a++b)=some (m++n)
 |[],b,m,n,h,h2=>by simp[oS]at h;subst h;exact h2
 |
  i::r,b,m,n,h,h2=>by
  simp only[oS]at h
  split at h
  ·rename_i x m' hx s9
   simp only[sJ]at h;subst h
   simp only[List.cons_append,oS,hx,FQ s9 h2]
  ·simp at h
theorem ue {W:List Nat} {mE:List (AO×Bool)}:∀ {m:List (AO×Bool)} {s:St} {K:St->Prop},nA P W mE s m K->kL s (m++mE)=true
 |[],s,K,h=>h.1
 |
  (x,f)::r,s,K,h=>by
  simp only[nA]at h
  split at h
  ·rename_i hq
   simp only[List.cons_append,kL,kG hq,Bool.true_and]
   split at h
   ·obtain⟨v,h1,_⟩:=sM hq h
    have:=ue h1
    exact(sm (s:=s) (s':= {env:=((s.less W).put x.dst v).env,bx:=s.bx}) rfl _).symm.trans this
   ·obtain⟨v,h1,_⟩:=sM hq h
    have:=ue h1
    rwa [sm (lx _ _)]at this
  ·exact h.1
theorem zn {l:List AO} {u:List Nat} {W E:List Nat} {mE:List (AO×Bool)} (hE:oS l u E=some mE):∀ {o:List Nat} {m:List (AO×Bool)} {s:St} {K:St->Prop},oS l u o=some m->nA P W mE s m K->mX P l u.contains W E s o K
 |[],m,s,K,hm,h=>by simp[oS]at hm;subst hm;exact⟨by rw[←vG hE];exact h.1,h.2⟩
 |
  i::r,m,s,K,hm,h=>by
  have Pk:=hm
  simp only[oS]at hm
  split at hm
  ·rename_i x m' hx s9
   simp only[sJ]at hm;subst hm
   have hf:=vG (s:=s) (FQ Pk hE)
   have n6:=ue h
   rw[hf]at n6
   simp only[mX,hx]
   refine⟨by simpa using n6,?_⟩
   simp only[nA,j1]at h⊢
   split at h
   ·rename_i hq
    rw[if_pos hq]
    split at h
    ·rename_i hf;rw[if_pos hf];exact fj (λt ht=>zn hE s9 ht) h
    ·rename_i hf;rw[if_neg hf];exact fj (λt ht=>zn hE s9 ht) h
   ·rename_i hq
    rw[if_neg hq]
    exact fj (λt ht=>⟨λe=>Nv (e:=s.env) (ht.1 e),zn hE s9 ht.2⟩) h.2
  ·simp at hm
theorem sZ {W:List Nat} {mE:List (AO×Bool)}:∀ {m:List (AO×Bool)} {s:St} {K K':St->Prop},(∀t,K t->K' t)->nA P W mE s m K->nA P W mE s m K'
 |[],s,K,K',h,hk=>⟨hk.1,h _ hk.2⟩
 |
  (x,f)::r,s,K,K',h,hk=>by
  simp only[nA]at hk⊢
  split at hk
  ·rename_i hq;rw[if_pos hq]
   split at hk
   ·rename_i hf;rw[if_pos hf];exact fj (λt ht=>sZ h ht) hk
   ·rename_i hf;rw[if_neg hf];exact fj (λt ht=>sZ h ht) hk
  ·rename_i hq;rw[if_neg hq]
   exact⟨hk.1,fj (λt ht=>⟨ht.1,sZ h ht.2⟩) hk.2⟩
theorem DrE.run {l:List AO} {a:List Nat} {p q:Nat} {b u:List Nat} {K:St->Prop} {t:Tg K} (W:List Nat) {m m1 m2:List (AO×Bool)} (hm:oS l u a=some m) (h1:oS l u (p::q::b)=some m1) (h2:oS l u (q::p::b)=some m2)
  (h:nA P W m1 s m λt=>tk P W t m1 K∧tk P W t m2 K):DrE P l a p q b u K t s:=⟨W,zn h1 hm (sZ (λt ht=>⟨zm h1 (oz ht.1),zm h2 (oz ht.2)⟩) h)⟩
@[simp↓] theorem abW (W:List Nat) (mE:List (AO×Bool)) (K:St->Prop):nA P W mE s [] K=(kL s mE=true∧K s):=_root_.id rfl
@[simp↓] theorem ao0 (W:List Nat) (mE:List (AO×Bool)) (n:Nat) (v:PV) (e:List (Nat×PV)) (b:List (Nat×bh)) (x:AO) (f:Bool) (r:List (AO×Bool)) (K:St->Prop):nA P W mE ⟨(n,v)::e,b⟩ ((x,f)::r) K=
  if x.quiet=true then(if f=true then iN P ⟨(n,v)::e,yu W b⟩ x (λt=>nA P W mE {t with bx:=b} r K)else iN P ⟨(n,v)::e,b⟩ x (λt=>nA P W mE t r K))
  else(kL ⟨(n,v)::e,b⟩ ((x,f)::(r++mE))=true∧iN P ⟨(n,v)::e,b⟩ x (λt=>(f=true->Rq W t.bx b)∧nA P W mE t r K)):=by
 simp only[nA];rfl
@[simp↓] theorem abX:kL s []=true:=_root_.id rfl
@[simp↓] theorem af0 (k:Nat) (mg f:Bool) (z:PV) (r:List (AO×Bool)):kL s ((⟨some k,none,mg,.alloc z⟩,f)::r)=((get s.bx k).isNone&&kL s r):=_root_.id rfl
@[simp] theorem ao1 (W:List Nat) (c:List (Nat×bh)):Rq W c []=True:=_root_.id rfl
@[simp] theorem af1 (W:List Nat) (c:List (Nat×bh)) (k:Nat) (b:bh) (r:List (Nat×bh)):Rq W c ((k,b)::r)=((if DV W=true then get c k=some b∨W.contains k=true∧D3 (some b)=true∧D3 (get c k)=true else W.contains k=true∨get c k=some b)∧Rq W c r):=_root_.id rfl
end Go.Ab
namespace Go.Ab
variable [eE]
variable {P:Program} {s:St}
theorem RgS.of {ps:List Nat} {x y:dc} {Q:Exit->St->Prop} {t:Tg (x,y,Q)} {fid:FuncId} {cap uM:List PV} {kg uT:List bh} {Y:List PV->List bh->(List bh->Prop)->Prop} (ks:List Nat) (bm:List bh)
  (hg:getAll s.bx ks=some bm) (hn:ks.Nodup) (hc:ae (bj ks) cap=true) (hb:bm.all (ah (bj ks))=true) (Co:aO (aV ks) cap=uM) (rX:bm.map (aZ (aV ks))=kg)
  (hI:I6 P fid uM kg Y λfp=>fp=uT)
  (hr:∀args fp R1,Y args fp R1->(args.length=ps.length∧fp.length=ks.length)∧aw P x (zh noQ λs'=>aw P y (M7 ks.length R1) s') (DX ks s ps args fp))
  (hl:uT.length=ks.length∧uT.all (ah (fY uT.length))=true) (hK:Q .normal {s with bx:=bI s.bx ks (uT.map (aZ (eP ks)))}):RgS P ps x y Q t s (.fn (.func fid) [] cap):=by
 refine⟨λ_ _ _ _ h=>h,ks,bm,Y,λfp=>fp=uT,⟨hg,hn,hc,hb⟩,by rw[Co,rX];exact hI,hr,?_⟩
 rintro fp rfl
 exact⟨hl,hK⟩
theorem al.gen {d:Option Nat} {f:FuncId} {args gy:List PV} {kg uT:List bh} {r1:PV} {K:St->Prop} {t:Tg K} (ks os:List Nat) (bm:List bh) (hA:af P f gy kg λr fp=>r=r1∧fp=uT)
  (hg:getAll s.bx ks=some bm) (hn:(ks++os).Nodup) (QA:∀o∈os,get s.bx o=none) (ha:ae (bj ks) args=true) (hb:bm.all (ah (bj ks))=true)
  (ha':jO (aO (aV ks) args)=gy) (rX:bm.map (aZ (aV ks))=kg) (hl:uT.length=(ks++os).length∧ab (fY uT.length) r1=true∧uT.all (ah (fY uT.length))=true)
  (h:K ({s with bx:=bI s.bx (ks++os) (uT.map (aZ (eP (ks++os))))}.put d (aI (eP (ks++os)) r1))):al P s d f args K t:=by
 subst ha' rX
 refine⟨ks,os,bm,_,hg,hn,QA,ha,hb,af.Uy hA,?_⟩
 rintro r fp ⟨rfl,rfl⟩
 exact⟨hl,h⟩
theorem aeP.of {n:Nat} {R:List bh->Prop} {t:Tg R} (c:List Cut) (h:iu c s λs'=>∃bm,getAll s'.bx (eU n)=some bm∧bm.all (ah (fY n))=true∧R bm):aeP n R t s:=⟨c,h⟩
@[simp] theorem af2:eU 1=[KB]:=rfl
@[simp] theorem af3:eU 2=[KB,KB+1]:=rfl
@[simp] theorem af4:eU 3=[KB,KB+1,KB+2]:=rfl
@[simp] theorem af5:eU 5=[KB,KB+1,KB+2,KB+3,KB+4]:=rfl
@[simp] theorem axJ {n:Nat} (h:n<9000):(KB=n)=False:=by simp only[KB,eq_iff_iff,iff_false];omega
@[simp] theorem arq {n:Nat} (h:n<9000):(n=KB)=False:=by simp only[KB,eq_iff_iff,iff_false];omega
@[simp] theorem abY {n i:Nat} (h:n<9000):(KB+i=n)=False:=by simp only[KB,eq_iff_iff,iff_false];omega
@[simp] theorem XS {n i:Nat} (h:n<9000):(n=KB+i)=False:=by simp only[KB,eq_iff_iff,iff_false];omega
@[simp] theorem abZ {n:Nat} (h:n<9000):(KB<n)=False:=by simp only[KB,eq_iff_iff,iff_false];omega
@[simp] theorem PT {n i:Nat} (h:n<9000):(KB+i<n)=False:=by simp only[KB,eq_iff_iff,iff_false];omega
@[simp] theorem ao2 {i:Nat}:(KB+i<KB)=False:=by simp
end Go.Ab
namespace Go.Ab
variable [eE]
structure ars (sh:Sh) (p:PV):Prop where
 refs:ab (λ_=>false) p=true
 wk:wk p=p
 width:p.width=pj sh
 agg:p.isAgg=sh.agg
 beq:PV.beq p p=true
 cell:p.bp=true
 flat:p.flat=true
mutual
theorem fF:∀(p:PV) (sh:Sh),fits sh p=true->ars sh p
 | .bl b,.b,_=>⟨rfl,by simp,rfl,rfl,by simp[PV.beq],rfl,rfl⟩
 | .int k n,.i k',h=>⟨rfl,by simp,rfl,rfl,by simp[PV.beq],rfl,rfl⟩
 | .str s,.s,_=>⟨rfl,by simp,rfl,rfl,by simp[PV.beq],rfl,rfl⟩
 |
  .st w m,.st l,h=>by
  simp only[fits,aJ,decide_eq_true_eq]at h
  obtain⟨h1,h2,h3,h4⟩:=AY m l h.2
  exact⟨by simpa[ab]using h1,by simp[h2],by simp[pj,h.1],rfl,by simp[PV.beq,h4],rfl,rfl⟩
 |
  .ar sz k m,.ar n e,h=>by
  simp only[fits,aJ,decide_eq_true_eq]at h
  obtain⟨h1,h2,h4⟩:=AZ m e h.2
  exact⟨by simpa[ab]using h1,by simp[h2],by simp[pj,h.1.1,h.1.2.1],rfl,by simp[PV.beq,h4],rfl,rfl⟩
 | .un,sh,h=>by cases sh<;>simp[fits]at h
 | .tup _,sh,h=>by cases sh<;>simp[fits]at h
 | .sl _ _ _,sh,h=>by cases sh<;>simp[fits]at h
 | .rs _ _ _ _ _ _ _,sh,h=>by cases sh<;>simp[fits]at h
 | .np,sh,h=>by cases sh<;>simp[fits]at h
 | .pt _ _ _,sh,h=>by cases sh<;>simp[fits]at h
 | .fp _ _ _,sh,h=>by cases sh<;>simp[fits]at h
 | .fn _ _ _,sh,h=>by cases sh<;>simp[fits]at h
 | .nf,sh,h=>by cases sh<;>simp[fits]at h
 | .gd _ _,sh,h=>by cases sh<;>simp[fits]at h
 | .ifc _ _,sh,h=>by cases sh<;>simp[fits]at h
 | .ni,sh,h=>by cases sh<;>simp[fits]at h
 | .mp _ _,sh,h=>by cases sh<;>simp[fits]at h
 | .bl _,.i _,h=>by simp[fits]at h
 | .bl _,.s,h=>by simp[fits]at h
 | .bl _,.st _,h=>by simp[fits]at h
 | .bl _,.ar _ _,h=>by simp[fits]at h
 | .int _ _,.b,h=>by simp[fits]at h
 | .int _ _,.s,h=>by simp[fits]at h
 | .int _ _,.st _,h=>by simp[fits]at h
 | .int _ _,.ar _ _,h=>by simp[fits]at h
 | .str _,.b,h=>by simp[fits]at h
 | .str _,.i _,h=>by simp[fits]at h
 | .str _,.st _,h=>by simp[fits]at h
 | .str _,.ar _ _,h=>by simp[fits]at h
 | .st _ _,.b,h=>by simp[fits]at h
 | .st _ _,.i _,h=>by simp[fits]at h
 | .st _ _,.s,h=>by simp[fits]at h
 | .st _ _,.ar _ _,h=>by simp[fits]at h
 | .ar _ _ _,.b,h=>by simp[fits]at h
 | .ar _ _ _,.i _,h=>by simp[fits]at h
 | .ar _ _ _,.s,h=>by simp[fits]at h
 | .ar _ _ _,.st _,h=>by simp[fits]at h
theorem AY:∀(m:List PV) (l:List Sh),jd l m=true->ae (λ_=>false) m=true∧jO m=m∧az m=pW l∧PV.oH m m=true
 |[],[],_=>⟨rfl,rfl,rfl,by simp[PV.oH]⟩
 |
  p::m,x::l,h=>by
  simp only[jd,aJ]at h
  have f:=fF p x h.1
  obtain⟨h1,h2,h3,h4⟩:=AY m l h.2
  exact⟨by simp[ae,f.refs,h1],by simp[f.wk,h2],by simp[pW,f.width,h3],by simp[PV.oH,f.beq,h4]⟩
 |[],_::_,h=>by simp[jd]at h
 |_::_,[],h=>by simp[jd]at h
theorem AZ:∀(m:List PV) (e:Sh),lj e m=true->ae (λ_=>false) m=true∧jO m=m∧PV.oH m m=true
 |[],_,_=>⟨rfl,rfl,by simp[PV.oH]⟩
 |
  p::m,e,h=>by
  simp only[lj,aJ]at h
  have f:=fF p e h.1
  obtain⟨h1,h2,h4⟩:=AZ m e h.2
  exact⟨by simp[ae,f.refs,h1],by simp[f.wk,h2],by simp[PV.oH,f.beq,h4]⟩
end
structure FV (sh:Sh) where
 p:PV
 ok:fits sh p=true
variable {sh:Sh} (v:FV sh)
@[simp] theorem FV.fits:Ab.fits sh v.p=true:=v.ok
@[simp] theorem FV.pure:Pure v.p:=Pure.of (fF v.p sh v.ok).refs
@[simp] theorem FV.wk:Ab.wk v.p=v.p:=(fF v.p sh v.ok).wk
@[simp] theorem FV.width:v.p.width=pj sh:=(fF v.p sh v.ok).width
@[simp] theorem FV.agg:v.p.isAgg=sh.agg:=(fF v.p sh v.ok).agg
@[simp] theorem FV.beq:PV.beq v.p v.p=true:=(fF v.p sh v.ok).beq
@[simp] theorem FV.cell:v.p.bp=true:=(fF v.p sh v.ok).cell
@[simp] theorem FV.flat:v.p.flat=true:=(fF v.p sh v.ok).flat
@[simp↓] theorem FV.il (g:Bool) (K:PV->Prop):Ab.il g v.p K=K v.p:=by
 have:=(fF v.p sh v.ok).flat
 cases h:v.p<;>rw[h]at this<;>simp[PV.flat]at this<;>rfl
end Go.Ab
namespace Go.Ab
variable [eE]
variable {P:Program} {s:St} [iZ]
theorem jh.ko {α:Type} {x:dc} {Q:Exit->St->Prop} {t:Tg (x,Q)} (n:Nat) (x0:α) (I:Nat->α->Prop) (ks:List Nat) (E:Nat->α->List (Nat×PV)) (B:Nat->α->List (Nat×bh)) (c0:List Cut)
  (h:iu c0 s λs0=>kh s0 ks (E 0 x0) (B 0 x0)=kh s0 ks [] []∧I 0 x0∧
   (∀i y,i<n->I i y->∀K:St->Prop,(∀z s2,kh s2 ks [] []=kh s0 ks (E (i+1) z) (B (i+1) z)->I (i+1) z->K s2)->aw P x (zh Q λs'=>∃c:List Cut,iu c s' K) (kh s0 ks (E i y) (B i y)))∧
   (∀y,I n y->∀K:St->Prop,aw P x (zh Q K) (kh s0 ks (E n y) (B n y)))):jh P x Q t s:=by
 let
   R:St->Prop:=λs0=>(∀i y,i<n->I i y->∀K:St->Prop,(∀z s2,kh s2 ks [] []=kh s0 ks (E (i+1) z) (B (i+1) z)->I (i+1) z->K s2)->aw P x (zh Q λs'=>∃c:List Cut,iu c s' K) (kh s0 ks (E i y) (B i y)))∧
   (∀y,I n y->∀K:St->Prop,aw P x (zh Q K) (kh s0 ks (E n y) (B n y)))
 let J:Nat->St->Prop:=λm st=>∃s0 i y,i≤n∧m=n-i∧I i y∧st=kh s0 ks (E i y) (B i y)∧R s0
 refine⟨J,c0++[.keep ks],?_,?_⟩
 ·rw[kK]
  refine jn c0 (λs0 hs=> ?_) h
  obtain⟨h1,h2,h3⟩:=hs
  exact⟨n,s0,0,x0,by omega,by omega,h2,by rw[h1];rfl,h3⟩
 ·rintro m st ⟨s0,i,y,hi,rfl,hI,rfl,h3⟩
  by_cases gG:i<n
  ·have aaG:∀(K:St->Prop) s',(∃c:List Cut,iu c s' λs2=>iu [.keep ks] s2 K)->∃c:List Cut,iu c s' K:=λK s' ⟨c,hc⟩=>⟨c++[.keep ks],by rw[kK];exact hc⟩
   have:=h3.1 i y gG hI (λs2=>iu [.keep ks] s2 λs'=>∃m,m<n-i∧J m s')
    (λz s2 e hI'=>⟨n-(i+1),by omega,s0,i+1,z,by omega,rfl,hI',by rw[←e];rfl,h3⟩)
   refine Jd (λe s' he=> ?_) this
   cases e with
   |normal=>exact aaG _ _ he
   |_=>exact he
  ·have yf:i=n:=by omega
   subst yf
   exact h3.2 y hI _
end Go.Ab
namespace Go.Ab
variable [eE]
variable {P:Program} {s:St} [iZ]
def cpA (s:St) (d:Option Nat) (sz:Nat) (ys:List PV) (K:St->Prop) (k:Nat) (v:PV) (pth:List Step) (off len aE bL:Nat):PV->Prop
 | .ar sz'' n l=>dE (di v pth (.ar sz'' n (l.take off++ys.take (min ys.length len)++l.drop (off+min ys.length len)))) λv'=>(aE=0∧bL=sz∧sz''=sz∧off+len≤n)∧K ({s with bx:=put s.bx k (.box v')}.put d (.int .i64 (min ys.length len:Nat)))
 |_=>False
def cpB (s:St) (d:Option Nat) (sz:Nat) (ys:List PV) (K:St->Prop) (k:Nat) (pth:List Step) (off len aE bL:Nat):bh->Prop
 | .arr sz'' l=>(aE=l.length∧pth=[]∧bL=sz∧sz''=sz∧off+len≤l.length)∧K ({s with bx:=put s.bx k (.arr sz (l.take off++ys.take (min ys.length len)++l.drop (off+min ys.length len)))}.put d (.int .i64 (min ys.length len:Nat)))
 | .box v=>dE (aQ v pth) (cpA s d sz ys K k v pth off len aE bL)
 | .map .. =>False
def PX (s:St) (d:Option Nat) (sz:Nat) (ys:List PV) (K:St->Prop):PV->Prop
 | .rs k pth off len aE bL _=>dE (get s.bx k) (cpB s d sz ys K k pth off len aE bL)
 |_=>False
def cpQ (s:St) (d:Option Nat) (sz:Nat) (p:PV) (K:St->Prop):PV->Prop
 | .str bs=>sz=1∧PX s d sz (bs.map u8) K p
 |q=>xl s (λbL ys=>(ys=[]∨bL=sz)∧PX s d sz ys K p) q
theorem CP (d:Option Nat) (sz:Nat) (p:PV) (ys:List PV) (K:St->Prop):jD s d sz p ys K=PX s d sz ys K p:=by
 cases p<;>try rfl
 rename_i k pth off len aE bL c
 simp only[jD,PX]
 generalize get s.bx k=o
 cases o with
 |none=>rfl
 |
  some b=>
  cases b with
  |arr z l=>rfl
  |
   box v=>
   simp only[dE,cpB]
   generalize aQ v pth=o
   cases o with
   |none=>rfl
   |
    some q=>
    cases q<;>simp only[cpA,dE]
    rename_i z n l
    generalize di v pth (.ar z n (List.take off l++List.take (min ys.length len) ys++List.drop (off+min ys.length len) l))=o
    cases o<;>rfl
  |map b ks vs l=>rfl
@[simp↓] theorem art (d:Option Nat) (sz:Nat) (x y:AX) (K:St->Prop):ex s d (.copy sz x y) K=il true (vx s x) λp=>il true (vx s y) λq=>cpQ s d sz p K q:=by
 simp only[ex,j4]
 congr 1;funext p;congr 1;funext q
 cases q<;>simp only[cpQ,Ul,Nl,Q6,aew,CP]
@[simp↓] theorem aru (d:Option Nat) (sz:Nat) (p:PV) (K:St->Prop) (z:Nat) (l:List PV) (c:Bool):cpQ s d sz p K (.sl z l c)=((l=[]∨z=sz)∧PX s d sz l K p):=_root_.id rfl
@[simp↓] theorem arv (d:Option Nat) (sz:Nat) (ys:List PV) (K:St->Prop) (k:Nat) (pth:List Step) (off len aE bL:Nat) (c:jA):PX s d sz ys K (.rs k pth off len aE bL c)=dE (get s.bx k) (cpB s d sz ys K k pth off len aE bL):=_root_.id rfl
@[simp↓] theorem ao4 (d:Option Nat) (sz:Nat) (ys:List PV) (K:St->Prop) (k:Nat) (pth:List Step) (off len aE bL z:Nat) (l:List PV):cpB s d sz ys K k pth off len aE bL (.arr z l)=((aE=l.length∧pth=[]∧bL=sz∧z=sz∧off+len≤l.length)∧K ({s with bx:=put s.bx k (.arr sz (l.take off++ys.take (min ys.length len)++l.drop (off+min ys.length len)))}.put d (.int .i64 (min ys.length len:Nat)))):=_root_.id rfl
@[simp↓] theorem ao5 (d:Option Nat) (sz:Nat) (ys:List PV) (K:St->Prop) (k:Nat) (pth:List Step) (off len aE bL:Nat) (v:PV):cpB s d sz ys K k pth off len aE bL (.box v)=dE (aQ v pth) (cpA s d sz ys K k v pth off len aE bL):=_root_.id rfl
@[simp↓] theorem arw (d:Option Nat) (sz:Nat) (ys:List PV) (K:St->Prop) (k:Nat) (v:PV) (pth:List Step) (off len aE bL z n:Nat) (l:List PV):cpA s d sz ys K k v pth off len aE bL (.ar z n l)=dE (di v pth (.ar z n (l.take off++ys.take (min ys.length len)++l.drop (off+min ys.length len)))) λv'=>(aE=0∧bL=sz∧z=sz∧off+len≤n)∧K ({s with bx:=put s.bx k (.box v')}.put d (.int .i64 (min ys.length len:Nat))):=_root_.id rfl
def flP (s:St) (sz:Nat) (z:PV) (K:St->Prop):PV->Prop
 | .rs k pth off len aE bL c=>PX s none sz (List.replicate len z) K (.rs k pth off len aE bL c)
 |_=>False
@[simp↓] theorem ary (sz:Nat) (z:PV) (K:St->Prop) (k:Nat) (pth:List Step) (off len aE bL:Nat) (c:jA):flP s sz z K (.rs k pth off len aE bL c)=PX s none sz (List.replicate len z) K (.rs k pth off len aE bL c):=_root_.id rfl
@[simp↓] theorem arz (d:Option Nat) (sz:Nat) (z:PV) (x:AX) (K:St->Prop):ex s d (.fill sz z x) K=il true (vx s x) λp=>d=none∧flP s sz z K p:=by
 simp only[ex,j4]
 congr 1;funext p
 simp only[Mt]
 congr 1
 cases p<;>simp only[flP,CP]
def clB (s:St) (d:Option Nat) (k:Nat) (pth:List Step) (off len aE sz:Nat) (c:jA) (K:St->Prop):bh->Prop
 | .arr bL l=>(pth=[]∧off=0∧sz=1∧bL=1∧c= .tip∧len=l.length∧aE=l.length∧l≠[]∧l.all PV.isNum=true)∧K (St.put {s with bx:=put s.bx k (.arr 1 (l++[.int .u8 0]))} d (.sl 1 l false))
 |_=>False
def clP (s:St) (d:Option Nat) (K:St->Prop):PV->Prop
 | .rs k pth off len aE sz c=>dE (get s.bx k) (clB s d k pth off len aE sz c K)
 |_=>False
@[simp↓] theorem ao6 (d:Option Nat) (x:AX) (K:St->Prop):ex s d (.convL x) K=il true (vx s x) (clP s d K):=by
 simp only[ex,j4]
 congr 1;funext p
 cases p<;>try rfl
 rename_i k pth off len aE sz c
 simp only[clP]
 cases get s.bx k with
 |none=>rfl
 |some x=>cases x<;>rfl
@[simp↓] theorem arC (d:Option Nat) (K:St->Prop) (k:Nat) (pth:List Step) (off len aE sz:Nat) (c:jA):clP s d K (.rs k pth off len aE sz c)=dE (get s.bx k) (clB s d k pth off len aE sz c K):=_root_.id rfl
@[simp↓] theorem ao7 (d:Option Nat) (k:Nat) (pth:List Step) (off len aE sz:Nat) (c:jA) (K:St->Prop) (bL:Nat) (l:List PV):clB s d k pth off len aE sz c K (.arr bL l)=((pth=[]∧off=0∧sz=1∧bL=1∧c= .tip∧len=l.length∧aE=l.length∧l≠[]∧l.all PV.isNum=true)∧K (St.put {s with bx:=put s.bx k (.arr 1 (l++[.int .u8 0]))} d (.sl 1 l false))):=_root_.id rfl
@[simp] theorem ab0 (k:IntKind) (n:Int):PV.isNum (.int k n)=true:=_root_.id rfl
end Go.Ab
namespace Go.Ab
variable [eE]
variable {P:Program} {Γ Δ:Cx}
mutual
def mN:PV->Bool
 | .sl _ l _=>l.isEmpty
 | .fp .. | .fn .. | .ifc .. | .gd .. | .tup _=>false
 | .st _ l=>iH l
 | .ar _ _ l=>iH l
 |_=>true
def iH:List PV->Bool
 |[]=>true
 |p::r=>mN p&&iH r
end
def rO:PV->Bool
 | .tup l=>iH l
 |p=>mN p
theorem Nx {p:PV} (h:mN p=true):rO p=true:=by
 cases p<;>first|exact h|simp[mN]at h
def CQ:bh->Bool
 | .box v=>mN v
 | .arr _ l=>iH l
 | .map .. =>true
structure XT (ρ:Nat->Nat) (Γ Δ:Cx):Prop where
 heap:Δ.heap=Γ.heap
 ref:∀k blk,get Γ.bx k=some blk->∃cI,get Δ.bx (ρ k)=some cI∧cI.aE=blk.aE∧Δ.ι (ρ k)=Γ.ι k
theorem A0 (ρ:Nat->Nat):∀l:List PV,aO ρ l=l.map (Ab.aI ρ)
 |[]=>rfl
 |p::l=>by simp[aO,A0 ρ l]
theorem aF.Rw {ρ:Nat->Nat} (hs:XT ρ Γ Δ) {l:List PV} {cs:List Value} (h:aF Γ l cs):iH l=true->aF Δ (aO ρ l) cs:=by
 induction h with
 |nil=>intro _;exact .nil
 |un h hr ih=>intro hf;simp only[iH,aJ]at hf;exact .un h (ih hf.2)
 |bl x hr ih=>intro hf;simp only[iH,aJ]at hf;exact .bl x (ih hf.2)
 |int k n hr ih=>intro hf;simp only[iH,aJ]at hf;exact .int k n (ih hf.2)
 |str l s h hr ih=>intro hf;simp only[iH,aJ]at hf;exact .str l s h (ih hf.2)
 |st w l hl hw hr ihl ih=>intro hf;simp only[iH,mN,aJ]at hf;exact .st w _ (ihl hf.1) hw (ih hf.2)
 |
  ar sz n l hl hn hw hr ihl ih=>
  intro hf;simp only[iH,mN,aJ]at hf
  refine .ar sz n _ (ihl hf.1) (by rw[lX];exact hn) ?_ (ih hf.2)
  intro x hx
  rw[A0]at hx
  obtain⟨y,hy,rfl⟩:=List.mem_map.1 hx
  rw[ow];exact hw y hy
 |
  sl sz l clip a bF hl hw hc hk hb hr ihl ih=>
  intro hf;simp only[iH,mN,aJ,List.isEmpty_iff]at hf
  obtain⟨rfl,hf2⟩:=hf
  cases hl
  exact .sl sz [] clip a bF .nil (by simp) hc hk (λh=>absurd rfl h) (ih hf2)
 |
  rs k p off len aE sz c v blk hg h1 hv hr ih=>
  intro hf;simp only[iH,mN,aJ]at hf
  obtain⟨cI,g1,g2,g3⟩:=hs.ref k blk hg.1
  refine .rs (ρ k) p off len aE sz c v cI ⟨g1,by rw[g2];exact hg.2⟩ h1 (λht=> ?_) (ih hf.2)
  obtain⟨a,bF,e1,e2⟩:=hv (by rw[ht,g2])
  exact⟨a,bF,e1,e2.aI g3 hs.heap⟩
 |np hr ih=>intro hf;simp only[iH,aJ]at hf;exact .np (ih hf.2)
 |
  pt k p aE v blk hg h1 hv hr ih=>
  intro hf;simp only[iH,mN,aJ]at hf
  obtain⟨cI,g1,g2,g3⟩:=hs.ref k blk hg.1
  refine .pt (ρ k) p aE v cI ⟨g1,by rw[g2];exact hg.2⟩ h1 (λht=> ?_) (ih hf.2)
  obtain⟨b,e1,e2⟩:=hv (by rw[ht,g2])
  exact⟨b,by rw[g3,e1],e2⟩
 |fp=>intro hf;simp[iH,mN]at hf
 |fn=>intro hf;simp[iH,mN]at hf
 |nf hr ih=>intro hf;simp only[iH,aJ]at hf;exact .nf (ih hf.2)
 |ifc=>intro hf;simp[iH,mN]at hf
 |ni hr ih=>intro hf;simp only[iH,aJ]at hf;exact .ni (ih hf.2)
 |mp k b hr ih=>intro hf;simp only[iH,aJ]at hf;exact .mp k b (ih hf.2)
theorem aF.HL {ρ:Nat->Nat} (hs:XT ρ Γ Δ) {p:PV} {cs:List Value} (h:aF Γ [p] cs) (hf:mN p=true):aF Δ [Ab.aI ρ p] cs:=by
 have:=h.Rw hs (by simp[iH,hf])
 simpa only[aO]using this
theorem aP.Rw {ρ:Nat->Nat} (hs:XT ρ Γ Δ) {p:PV} {v:Value} (h:aP Γ p v) (hf:mN p=true):aP Δ (Ab.aI ρ p) v:=by
 cases p
 case un=>trivial
 case st w l=>obtain⟨cs,h1,h2⟩:=h;exact⟨cs,h1,h2.HL hs hf⟩
 case ar sz n l=>obtain⟨cs,h1,h2⟩:=h;exact⟨cs,h1,h2.HL hs hf⟩
 case gd=>simp[mN]at hf
 case tup=>simp[mN]at hf
 all_goals exact aF.HL hs h hf
theorem jG.Rw {ρ:Nat->Nat} (hs:XT ρ Γ Δ) {p:PV} {v:Value} (h:jG Γ p v) (hf:mN p=true):jG Δ (Ab.aI ρ p) v:=by
 cases p
 case un=>trivial
 case st w l=>obtain⟨cs,h1,h2⟩:=h;exact⟨cs,h1,h2.HL hs hf⟩
 case ar sz n l=>obtain⟨cs,h1,h2⟩:=h;exact⟨cs,h1,h2.HL hs hf⟩
 all_goals exact aF.HL hs h hf
theorem kx.Rw {ρ:Nat->Nat} (hs:XT ρ Γ Δ):∀ {l:List PV} {vs:List Value},kx Γ l vs->iH l=true->kx Δ (aO ρ l) vs
 |[],[],_,_=>trivial
 |[],_::_,h,_=>h.elim
 |_::_,[],h,_=>h.elim
 |
  p::l,v::vs,h,hf=>by
  simp only[iH,aJ]at hf
  exact⟨h.1.Rw hs hf.1,kx.Rw hs h.2 hf.2⟩
theorem aP.arD {ρ:Nat->Nat} (hs:XT ρ Γ Δ) {p:PV} {v:Value} (h:aP Γ p v) (hf:rO p=true):aP Δ (Ab.aI ρ p) v:=by
 cases p
 case tup l=>
  obtain⟨vs,h1,h2⟩:=h
  exact⟨vs,h1,h2.Rw hs hf⟩
 all_goals exact h.Rw hs hf
def V0 (bx:List (Nat×bh)) (p p':PV):Prop:=
 (p'=p∧ab (λ_=>false) p=true)∨
 (∃k pth off len aE sz c l,p= .rs k pth off len aE sz c∧content ⟨[],bx⟩ p (λbL l0=>bL=sz∧l0=l)∧ae (λ_=>false) l=true∧0<sz∧p'= .sl sz l false)
def Je (bx:List (Nat×bh)):List PV->List PV->Prop
 |[],[]=>True
 |p::r,p'::r'=>V0 bx p p'∧Je bx r r'
 |_,_=>False
def V1 (bx:List (Nat×bh)) (p p':PV):Prop:=
 V0 bx p p'∨
 (∃sz l l' c,p= .sl sz l c∧Je bx l l'∧p'= .sl sz l' c)∨
 (∃k pth off len aE sz c l l',p= .rs k pth off len aE sz c∧content ⟨[],bx⟩ p (λbL l0=>bL=sz∧l0=l)∧Je bx l l'∧0<sz∧p'= .sl sz l' false)
def PY (bx:List (Nat×bh)):List PV->List PV->Prop
 |[],[]=>True
 |p::r,p'::r'=>V1 bx p p'∧PY bx r r'
 |_,_=>False
def Cx.bare (Γ:Cx):Cx:= {heap:=Γ.heap,ι:=λ_=>none,bx:=[],ej:=λ_=>False}
theorem oA {b:Nat}:¬Γ.bare.own b:=by
 rintro(⟨k,blk,h,_⟩|h)
 ·simp[Cx.bare,get]at h
 ·exact h
theorem KK (hm:Mem Γ):Mem Γ.bare:=by
 refine⟨λk blk h=> ?_,λi j b h=> ?_,λb h=>h.elim,λb h h2=>h2,λb cs h=>⟨λhb=>oA (.inl hb),(hm.yI b cs h).2⟩⟩
 ·simp[Cx.bare,get]at h
 ·simp[Cx.bare,get]at h
theorem xo:sd (λ_=>false) id Γ Γ.bare:=⟨rfl,λb _ _=>oA,λk blk h=>by simp at h⟩
theorem Rx {h:Array Obj} {b o:Nat} {v:Value} (e:cell h b o=some v):b<h.size:=by
 unfold cell at e
 split at e
 ·rename_i c _ _ hb;exact(Array.getElem?_eq_some_iff.1 hb).1
 ·simp at e
theorem af8 (Γ:Cx) (hm:Mem Γ):iB 0 [] ⟨[],Γ.bx⟩ Γ {tmps:= #[],defers:=[]}:=⟨rfl,rfl,rfl,λk p h=>by simp[get]at h,hm⟩
theorem rsV {k:Nat} {pth:List Step} {off len aE sz:Nat} {c:jA} {l:List PV} {cs:List Value} (hm:Mem Γ) (hr:aF Γ [.rs k pth off len aE sz c] cs)
  (hc:content ⟨[],Γ.bx⟩ (.rs k pth off len aE sz c) (λbL l0=>bL=sz∧l0=l)):∃v ad bF us,cs=[v]∧v= .slice ad l.length bF∧aF Γ l us∧(∀x∈l,x.width=sz)∧l.length≤bF∧
   (l≠[]->∃b o,ad=some ⟨b,o,none⟩∧∀i c,us[i]? =some c->cell Γ.heap b (o+i)=some c):=by
 obtain⟨v,rfl⟩:∃v,cs=[v]:=by
  cases hr with
  |rs _ _ _ _ _ _ _ v _ _ _ _ hr=>cases hr;exact⟨v,rfl⟩
 obtain⟨bL,l0,us,ad,bF,⟨rfl,rfl⟩,h2,h3,h4,h5,h6⟩:=pA (v:=v) (af8 Γ hm) hc (by simpa only[aP]using hr)
 exact⟨v,ad,bF,us,rfl,h2,h3,h6,h5,h4⟩
theorem V0.width {bx:List (Nat×bh)} {p p':PV} (h:V0 bx p p'):p'.width=p.width:=by
 rcases h with⟨rfl,_⟩|⟨k,pth,off,len,aE,sz,c,l,rfl,_,_,_,rfl⟩<;>rfl
theorem A1 {l:List PV} {us:List Value} {sz:Nat} {ad:Option Addr} (iQ:0<sz) (h3:aF Γ l us) (h4:∀x∈l,x.width=sz) (fB:l≠[])
  (h6:∃b o,ad=some ⟨b,o,none⟩∧∀i c,us[i]? =some c->cell Γ.heap b (o+i)=some c):
  ∃b o,ad=some ⟨b,o,none⟩∧b<Γ.bare.heap.size∧¬Γ.bare.own b∧∀i c,us[i]? =some c->cell Γ.bare.heap b (o+i)=some c:=by
 obtain⟨b,o,e1,e2⟩:=h6
 have hlen:0<us.length:=by
  rw[h3.length,bY h4]
  have:0<l.length:=List.length_pos_iff.2 fB
  exact Nat.mul_pos this iQ
 exact⟨b,o,e1,Rx (e2 0 _ (gJ hlen)),oA,e2⟩
theorem V0.rep {p p':PV} {cs:List Value} (hm:Mem Γ) (h:V0 Γ.bx p p') (hr:aF Γ [p] cs):aF Γ.bare [p'] cs:=by
 rcases h with⟨rfl,h⟩|⟨k,pth,off,len,aE,sz,c,l,rfl,hc,hl,iQ,rfl⟩
 ·have:=hr.aV xo h
  rwa [vv h]at this
 ·obtain⟨v,ad,bF,us,rfl,rfl,h3,h4,h5,h6⟩:=rsV hm hr hc
  have h3':=h3.aI xo hl
  rw[AE hl]at h3'
  exact .sl sz l false ad bF h3' h4 h5 (by simp) (λfB=>A1 iQ h3 h4 fB (h6 fB)) .nil
theorem Je.rep (hm:Mem Γ):∀ {l l':List PV} {cs:List Value},Je Γ.bx l l'->aF Γ l cs->aF Γ.bare l' cs
 |[],[],cs,_,hr=>by cases hr;exact .nil
 |[],_::_,cs,h,_=>h.elim
 |_::_,[],cs,h,_=>h.elim
 |
  p::r,p'::r',cs,h,hr=>by
  obtain⟨c1,c2,rfl,h1,h2⟩:=aF.split (ps:=[p]) (qs:=r) hr
  exact(h.1.rep hm h1).cons (Je.rep hm h.2 h2)
theorem Je.az {bx:List (Nat×bh)} {sz:Nat}:∀ {l l':List PV},Je bx l l'->(∀x∈l,x.width=sz)->l'.length=l.length∧∀x∈l',x.width=sz
 |[],[],_,_=>⟨rfl,by simp⟩
 |[],_::_,h,_=>h.elim
 |_::_,[],h,_=>h.elim
 |
  p::r,p'::r',h,hw=>by
  obtain⟨h1,h2⟩:=Je.az h.2 (λx hx=>hw x (by simp[hx]))
  refine⟨by simp[h1],λx hx=> ?_⟩
  rcases List.mem_cons.1 hx with rfl|hx
  ·rw[h.1.width];exact hw p (by simp)
  ·exact h2 x hx
theorem V1.rep {p p':PV} {cs:List Value} (hm:Mem Γ) (h:V1 Γ.bx p p') (hr:aF Γ [p] cs):aF Γ.bare [p'] cs:=by
 rcases h with h|⟨sz,l,l',c,rfl,hl,rfl⟩|⟨k,pth,off,len,aE,sz,c,l,l',rfl,hc,hl,iQ,rfl⟩
 ·exact h.rep hm hr
 ·cases hr with
  |
   sl sz l clip a bF h1 hw h2 h3 hb hr=>
   cases hr
   obtain⟨e1,e2⟩:=hl.az hw
   rw[←e1]
   refine .sl sz l' c a bF (Je.rep hm hl h1) e2 (by rw[e1];exact h2) (λh=>by rw[e1];exact h3 h) (λfB=> ?_) .nil
   obtain⟨b,o,f1,f2,_,f3⟩:=hb (λh=>fB (by rw[h]at e1;exact List.length_eq_zero_iff.1 e1))
   exact⟨b,o,f1,f2,oA,f3⟩
 ·obtain⟨v,ad,bF,us,rfl,rfl,h3,h4,h5,h6⟩:=rsV hm hr hc
  obtain⟨e1,e2⟩:=hl.az h4
  rw[←e1]
  refine .sl sz l' false ad bF (Je.rep hm hl h3) e2 (by rw[e1];exact h5) (by simp) (λfB=> ?_) .nil
  have T1:l≠[]:=λh=>fB (by rw[h]at e1;exact List.length_eq_zero_iff.1 e1)
  exact A1 iQ h3 h4 T1 (h6 T1)
theorem V1.Ry {p p':PV} {v:Value} (hm:Mem Γ) (h:V1 Γ.bx p p') (hr:aP Γ p v):aP Γ.bare p' v:=by
 have h':=h
 rcases h with h|⟨sz,l,l',c,rfl,hl,rfl⟩|⟨k,pth,off,len,aE,sz,c,l,l',rfl,hc,hl,iQ,rfl⟩
 ·rcases h with⟨rfl,h⟩|⟨k,pth,off,len,aE,sz,c,l,rfl,hc,hl,iQ,rfl⟩
  ·have:=hr.aI xo h
   rwa [vv h]at this
  ·have:=V1.rep hm h' (by simpa only[aP]using hr)
   simpa only[aP]using this
 ·have:=V1.rep hm h' (by simpa only[aP]using hr)
  simpa only[aP]using this
 ·have:=V1.rep hm h' (by simpa only[aP]using hr)
  simpa only[aP]using this
theorem PY.Ry (hm:Mem Γ):∀ {l l':List PV} {vs:List Value},PY Γ.bx l l'->ie Γ l vs->ie Γ.bare l' vs
 |[],[],[],_,_=>trivial
 |[],[],_::_,_,h=>h.elim
 |[],_::_,_,h,_=>h.elim
 |_::_,[],_,h,_=>h.elim
 |_::_,_::_,[],_,h=>h.elim
 |p::r,p'::r',v::vs,h,hr=>⟨h.1.Ry hm hr.1,PY.Ry hm h.2 hr.2⟩
theorem af.view {f:FuncId} {args gy:List PV} {fp:List bh} {R:PV->List bh->Prop} (hA:af P f gy [] R) (hv:PY (aG 0 fp) args gy)
  (hR:∀r new,R r new->rO r=true∧new.all CQ=true):
  af P f args fp (λr kS=>∃r0 new,R r0 new∧r=aI (·+fp.length) r0∧kS=fp++new.map (aZ (·+fp.length))):=by
 intro Γ w vs h1 h2 h3 h4
 rw[←h3]at hv
 refine(hA Γ.bare w vs h1 (KK h2) (by simp[Cx.bare,aG]) (hv.Ry h2 h4)).mono ?_
 rintro e w' ⟨v,r,new,Γ',e1,e2,e3,e4,e5,e6,e7,e8⟩
 obtain⟨g1,g2⟩:=hR r new e2
 have sG:∀b,b<Γ.heap.size->Γ'.heap[b]? =Γ.heap[b]? :=λb hb=>e7.heap b hb (λh=>oA (.inl h))
 have BK:∀k blk b,get Γ'.bx k=some blk->Γ'.ι k=some b->Γ.heap.size≤b:=by
  intro k blk b hk hb
  rcases Nat.lt_or_ge b Γ.heap.size with h|h
  ·exact absurd (.inl (e7.iM b h ⟨k,blk,hk,hb⟩)) oA
  ·exact h
 let Δ:Cx:= {heap:=Γ'.heap,ι:=λk=>if k<KB+fp.length then Γ.ι k else Γ'.ι (k-fp.length),bx:=aG 0 (fp++new.map (aZ (·+fp.length))),ej:=Γ.ej}
 have GZ:∀k,k<KB+fp.length->get Δ.bx k=get Γ.bx k:=by
  intro k hk
  simp only[Δ,h3,gp]
  split
  ·rw[List.getElem?_append_left (by omega)]
  ·rfl
 have G0:∀k,KB≤k->get Δ.bx (k+fp.length)=(get Γ'.bx k).map (aZ (·+fp.length)):=by
  intro k hk
  simp only[Δ,e5,gp]
  rw[if_pos (show KB+0≤k+fp.length by omega),if_pos (show KB+0≤k by omega),List.getElem?_append_right (by omega),List.getElem?_map,show k+fp.length-KB-0-fp.length=k-KB-0 by omega]
 have hle:Le Γ Δ:=by
  refine⟨λb hb _=>sG b hb,λb hb h=> ?_,rfl,e7.size,λk blk hk=> ?_⟩
  ·obtain⟨k,blk,f1,f2⟩:=h
   by_cases rY:k<KB+fp.length
   ·rw[GZ k rY]at f1
    have f2':Γ.ι k=some b:=by simpa[Δ,rY]using f2
    exact⟨k,blk,f1,f2'⟩
   ·exfalso
    have f2':Γ'.ι (k-fp.length)=some b:=by simpa[Δ,rY]using f2
    have:get Δ.bx (k-fp.length+fp.length)=_:=G0 (k-fp.length) (by omega)
    rw[show k-fp.length+fp.length=k by omega,f1]at this
    obtain⟨b0,f3,_⟩:=Option.map_eq_some_iff.1 this.symm
    have:=BK _ _ _ f3 f2'
    omega
  ·have rY:k<KB+fp.length:=by
    rw[h3,gp]at hk
    split at hk
    ·have:=(List.getElem?_eq_some_iff.1 hk).1;simp at this;omega
    ·simp at hk
   refine⟨blk,by rw[GZ k rY];exact hk,Nat.le_refl _,λ_=>⟨by simp[Δ,rY],λb hb cs e hh=>⟨cs,?_,rfl⟩⟩⟩
   show Γ'.heap[b]? =_
   rw[sG b (h2.lt ⟨k,blk,hk,hb⟩)];exact hh
 have aaH:XT (·+fp.length) Γ' Δ:=by
  refine⟨rfl,λk blk hk=> ?_⟩
  have WE:KB≤k:=by
   rw[e5,gp]at hk
   split at hk
   ·assumption
   ·simp at hk
  refine⟨aZ (·+fp.length) blk,by rw[G0 k WE,hk];rfl,j7 _ _,?_⟩
  show(if k+fp.length<KB+fp.length then _ else _)=_
  rw[if_neg (by omega),Nat.add_sub_cancel]
 have jz:Mem Δ:=by
  refine⟨λk blk hk=> ?_,λi j b hi hj q1 q2=> ?_,λb hb=>Nat.lt_of_lt_of_le (h2.ej b hb) e7.size,λb hb hp=> ?_,h2.mR hle⟩
  ·by_cases rY:k<KB+fp.length
   ·rw[GZ k rY]at hk
    have:=(h2.blk k blk hk).mono hle (λb hb=>sG b (h2.lt ⟨k,blk,hk,hb⟩))
    have e:Δ.ι k=Γ.ι k:=by simp[Δ,rY]
    rw[e];exact this
   ·have Dq:=G0 (k-fp.length) (by omega)
    rw[show k-fp.length+fp.length=k by omega,hk]at Dq
    obtain⟨b0,f3,rfl⟩:=Option.map_eq_some_iff.1 Dq.symm
    have e:Δ.ι k=Γ'.ι (k-fp.length):=by simp[Δ,rY]
    rw[e]
    have y7:CQ b0=true:=by
     rw[e5,gp]at f3
     split at f3
     ·exact List.all_eq_true.1 g2 b0 (List.mem_of_getElem? f3)
     ·simp at f3
    have:=e4.blk _ _ f3
    cases b0 with
    |
     box v=>
     obtain⟨b,c,e,q1,q2,q3⟩:=this
     exact⟨b,c,e,q1,q2,q3.HL aaH y7⟩
    |
     arr sz l=>
     obtain⟨q1,q2,q3⟩:=this
     refine⟨λx hx=> ?_,q2,?_⟩
     ·rw[A0]at hx
      obtain⟨y,hy,rfl⟩:=List.mem_map.1 hx
      rw[ow];exact q1 y hy
     ·cases hι:Γ'.ι (k-fp.length)with
      |none=>trivial
      |
       some b=>
       rw[hι]at q3
       obtain⟨c,e,cs,rest,r1,r2,r3,r4⟩:=q3
       exact⟨c,e,cs,rest,r1,r2,r3.Rw aaH y7,r4⟩
    |map b ks vs l=>exact this
  ·have key:∀k b,(get Δ.bx k).isSome=true->Δ.ι k=some b->(k<KB+fp.length∧(get Γ.bx k).isSome=true∧Γ.ι k=some b∧b<Γ.heap.size)∨(KB+fp.length≤k∧(get Γ'.bx (k-fp.length)).isSome=true∧Γ'.ι (k-fp.length)=some b∧Γ.heap.size≤b):=by
    intro k b hk hb
    by_cases rY:k<KB+fp.length
    ·left
     rw[GZ k rY]at hk
     have rX:Γ.ι k=some b:=by simpa[Δ,rY]using hb
     obtain⟨blk,lB⟩:=Option.isSome_iff_exists.1 hk
     exact⟨rY,hk,rX,h2.lt ⟨k,blk,lB,rX⟩⟩
    ·right
     have Dq:=G0 (k-fp.length) (by omega)
     rw[show k-fp.length+fp.length=k by omega]at Dq
     rw[Dq]at hk
     have hk3:(get Γ'.bx (k-fp.length)).isSome=true:=by simpa using hk
     have rX:Γ'.ι (k-fp.length)=some b:=by simpa[Δ,rY]using hb
     obtain⟨blk,lB⟩:=Option.isSome_iff_exists.1 hk3
     exact⟨by omega,hk3,rX,BK _ _ _ lB rX⟩
   rcases key i b hi q1 with⟨a1,a2,a3,a4⟩|⟨a1,a2,a3,a4⟩<;>rcases key j b hj q2 with⟨c1,c2,c3,c4⟩|⟨c1,c2,c3,c4⟩
   ·exact h2.inj i j b a2 c2 a3 c3
   ·omega
   ·omega
   ·have:=e4.inj _ _ b a2 c2 a3 c3;omega
  ·obtain⟨k,blk,f1,f2⟩:=hb
   by_cases rY:k<KB+fp.length
   ·rw[GZ k rY]at f1
    have f2':Γ.ι k=some b:=by simpa[Δ,rY]using f2
    exact h2.apart b ⟨k,blk,f1,f2'⟩ hp
   ·have f2':Γ'.ι (k-fp.length)=some b:=by simpa[Δ,rY]using f2
    have Dq:=G0 (k-fp.length) (by omega)
    rw[show k-fp.length+fp.length=k by omega,f1]at Dq
    obtain⟨b0,f3,_⟩:=Option.map_eq_some_iff.1 Dq.symm
    have:=BK _ _ _ f3 f2'
    have:=h2.ej b hp
    omega
 exact⟨v,_,_,Δ,e1,⟨r,new,e2,rfl,rfl⟩,e3,jz,rfl,e6.arD aaH g1,hle,e8⟩
end Go.Ab
namespace Go.Ab
variable [eE]
variable {P:Program} {Γ Δ:Cx}
inductive Nz:List PV->List PV->Prop
 |nil:Nz [] []
 |same (p:PV) {l m:List PV}:Nz l m->Nz (p::l) (p::m)
 |sl (z z':Nat) (c c':Bool) {l m:List PV}:(c'=true->c=true)->Nz l m->Nz (.sl z [] c::l) (.sl z' [] c'::m)
 |st (w:Nat) {l' m' l m:List PV}:Nz l' m'->Nz l m->Nz (.st w l'::l) (.st w m'::m)
theorem Nz.refl:∀l,Nz l l
 |[]=> .nil
 |p::l=> .same p (Nz.refl l)
theorem Nz.rep {l m:List PV} (h:Nz l m):∀ {cs:List Value},aF Γ l cs->aF Γ m cs:=by
 induction h with
 |nil=>intro cs h;exact h
 |
  same p _ ih=>
  intro cs h
  obtain⟨c1,c2,rfl,h1,h2⟩:=h.oF
  exact h1.append (ih h2)
 |
  sl z z' c c' hc _ ih=>
  intro cs h
  cases h with
  |
   @sl _ _ G8 _ _ _ ad bF h1 h2 h3 h4 h5 h6=>
   exact .sl z' [] c' ad bF h1 (by simp) h3 (λe=>h4 (hc e)) (λfB=>absurd rfl fB) (ih h6)
 |
  st w _ _ ih1 ih2=>
  intro cs h
  cases h with
  | @st _ vs G8 _ _ h1 h2 h3=>exact .st w _ (ih1 h1) h2 (ih2 h3)
theorem Nz.length {l m:List PV} (h:Nz l m):m.length=l.length:=by induction h<;>simp_all
theorem Nz.wid {l m:List PV} {sz:Nat} (h:Nz l m):(∀x∈l,x.width=sz)->∀x∈m,x.width=sz:=by
 induction h with
 |nil=>intro h;exact h
 |
  same p _ ih=>
  intro h x hx
  rcases List.mem_cons.1 hx with rfl|hx
  ·exact h _ (by simp)
  ·exact ih (λy hy=>h y (by simp[hy])) x hx
 |
  sl z z' c c' _ _ ih=>
  intro h x hx
  rcases List.mem_cons.1 hx with rfl|hx
  ·exact h (.sl z [] c) (by simp)
  ·exact ih (λy hy=>h y (by simp[hy])) x hx
 |
  st w _ _ _ ih=>
  intro h x hx
  rcases List.mem_cons.1 hx with rfl|hx
  ·exact(h _ List.mem_cons_self:w=sz)
  ·exact ih (λy hy=>h y (by simp[hy])) x hx
theorem aP.nz {p q:PV} {v:Value} (h:Nz [p] [q]) (hr:aP Γ p v):aP Γ q v:=by
 generalize hl:[p]=l at h
 generalize hm:[q]=m at h
 cases h with
 |nil=>cases hl
 |same=>cases hl;cases hm;exact hr
 |
  sl z z' c c' hc ht=>
  cases hl;cases hm
  simp only[aP]at hr⊢
  exact(Nz.sl z z' c c' hc .nil).rep hr
 |
  st w h1 h2=>
  cases hl;cases hm
  obtain⟨cs,e,h⟩:=hr
  exact⟨cs,e,(Nz.st w h1 .nil).rep h⟩
theorem jG.nz {p q:PV} {v:Value} (h:Nz [p] [q]) (hr:jG Γ p v):jG Γ q v:=by
 generalize hl:[p]=l at h
 generalize hm:[q]=m at h
 cases h with
 |nil=>cases hl
 |same=>cases hl;cases hm;exact hr
 |
  sl z z' c c' hc ht=>
  cases hl;cases hm
  simp only[jG]at hr⊢
  exact(Nz.sl z z' c c' hc .nil).rep hr
 |
  st w h1 h2=>
  cases hl;cases hm
  obtain⟨cs,e,h⟩:=hr
  exact⟨cs,e,(Nz.st w h1 .nil).rep h⟩
inductive BN:bh->bh->Prop
 |same (b:bh):BN b b
 |arr (sz:Nat) {l m:List PV}:Nz l m->BN (.arr sz l) (.arr sz m)
 |box {v w:PV}:Nz [v] [w]->BN (.box v) (.box w)
theorem BN.aE {b b':bh} (h:BN b b'):b'.aE=b.aE:=by
 cases h with
 |same=>rfl
 |arr sz h=>exact h.length
 |box h=>rfl
theorem BN.rep {b b':bh} {o:Option Nat} (h:BN b b') (hr:b.wL Γ o):b'.wL Γ o:=by
 cases h with
 |same=>exact hr
 |
  arr sz h=>
  obtain⟨h1,h2,h3⟩:=hr
  refine⟨h.wid h1,h2,?_⟩
  cases o with
  |none=>trivial
  |
   some b=>
   obtain⟨c,e,cs,rest,h4,h5,h6,h7⟩:=h3
   exact⟨c,e,cs,rest,h4,h5,h.rep h6,h7⟩
 |
  box h=>
  obtain⟨b,c,e,h1,h2,h3⟩:=hr
  exact⟨b,c,e,h1,h2,h.rep h3⟩
inductive UN:List bh->List bh->Prop
 |nil:UN [] []
 |cons {a b:bh} {l m:List bh}:BN a b->UN l m->UN (a::l) (b::m)
theorem UN.get {l m:List bh} (h:UN l m):∀n k,(∀b,Ab.get (aG n l) k=some b->∃b',Ab.get (aG n m) k=some b'∧BN b b')∧(∀b',Ab.get (aG n m) k=some b'->∃b,Ab.get (aG n l) k=some b∧BN b b'):=by
 induction h with
 |nil=>intro n k;exact⟨λb h=>by simp[aG,Ab.get]at h,λb h=>by simp[aG,Ab.get]at h⟩
 |
  cons h1 _ ih=>
  intro n k
  have ih:=ih (n+1) k
  simp only[aG,Ab.get]
  by_cases e:KB+n=k
  ·simp only[e,if_true]
   exact⟨λb hb=>by cases hb;exact⟨_,rfl,h1⟩,λb hb=>by cases hb;exact⟨_,rfl,h1⟩⟩
  ·simp only[e,if_false];exact ih
theorem UO {fp kS:List bh} (hm:Mem Γ) (hb:Γ.bx=aG 0 fp) (h:UN fp kS):Mem {Γ with bx:=aG 0 kS}∧Le Γ {Γ with bx:=aG 0 kS}∧sd (λ_=>true) id Γ {Γ with bx:=aG 0 kS}:=by
 have hg:=h.get 0
 have aaI:∀x,({Γ with bx:=aG 0 kS}:Cx).iM x->Γ.iM x:=by
  rintro x ⟨k,blk,h1,h2⟩
  obtain⟨b,g1,_⟩:=(hg k).2 blk h1
  exact⟨k,b,by rw[hb];exact g1,h2⟩
 have hs:sd (λ_=>true) id Γ {Γ with bx:=aG 0 kS}:=by
  refine⟨rfl,λb _ hn ho=> ?_,λk blk _ hk=> ?_⟩
  ·rcases ho with ho|ho
   ·exact hn (.inl (aaI b ho))
   ·exact hn (.inr ho)
  ·rw[hb]at hk
   obtain⟨b',g1,g2⟩:=(hg k).1 blk hk
   exact⟨b',g1,g2.aE,rfl⟩
 have nH:∀k,(Ab.get (aG 0 kS) k).isSome=true->(Ab.get Γ.bx k).isSome=true:=by
  intro k hk
  obtain⟨b',e⟩:=Option.isSome_iff_exists.1 hk
  obtain⟨b,g1,_⟩:=(hg k).2 b' e
  rw[hb,g1];rfl
 have hle:Le Γ {Γ with bx:=aG 0 kS}:=by
  refine⟨λ_ _ _=>rfl,λb _ h=>aaI b h,rfl,Nat.le_refl _,λk blk hk=> ?_⟩
  rw[hb]at hk
  obtain⟨b',g1,g2⟩:=(hg k).1 blk hk
  exact⟨b',g1,Nat.le_of_eq g2.aE.symm,λ_=>⟨rfl,λb _ cs e hh=>⟨cs,hh,rfl⟩⟩⟩
 refine⟨⟨λk blk hk=> ?_,λi j b hi hj h1 h2=>hm.inj i j b (nH i hi) (nH j hj) h1 h2,hm.ej,λb h hp=>hm.apart b (aaI b h) hp,hm.mR hle⟩,hle,hs⟩
 obtain⟨b,g1,g2⟩:=(hg k).2 blk hk
 have:=(hm.blk k b (by rw[hb];exact g1)).aI hs (oe b)
 rw[Fo (f:=λ_=>true) (oe b)]at this
 exact g2.rep this
theorem aP.same {kS:List bh} (hs:sd (λ_=>true) id Γ {Γ with bx:=aG 0 kS}) {p:PV} {v:Value} (h:aP Γ p v):aP {Γ with bx:=aG 0 kS} p v:=by
 have:=h.aI hs (ma p)
 rwa [vv (f:=λ_=>true) (ma p)]at this
theorem af.nz {f:FuncId} {args:List PV} {fp:List bh} {R R':PV->List bh->Prop} (h:af P f args fp R) (hr:∀r uT,R r uT->∃r' fp2,Nz [r] [r']∧UN uT fp2∧R' r' fp2):af P f args fp R':=by
 intro Γ w vs h1 h2 h3 h4
 refine(h Γ w vs h1 h2 h3 h4).mono ?_
 rintro e w' ⟨v,r,uT,Γ',e1,e2,e3,e4,e5,e6,e7,e8⟩
 obtain⟨r',fp2,n1,n2,n3⟩:=hr r uT e2
 obtain⟨m1,m2,m3⟩:=UO e4 e5 n2
 exact⟨v,r',fp2,{Γ' with bx:=aG 0 fp2},e1,n3,e3,m1,rfl,(e6.nz n1).same m3,e7.trans m2,e8⟩
inductive CR:List PV->List PV->Prop
 |nil:CR [] []
 |cons {p q:PV} {l m:List PV}:Nz [p] [q]->CR l m->CR (p::l) (q::m)
theorem CR.refl:∀l,CR l l
 |[]=> .nil
 |p::l=> .cons (.refl _) (CR.refl l)
theorem CR.all {kS:List bh} (hs:sd (λ_=>true) id Γ {Γ with bx:=aG 0 kS}) {l m:List PV} (h:CR l m):∀ {vs:List Value},ie Γ l vs->ie {Γ with bx:=aG 0 kS} m vs:=by
 induction h with
 |
  nil=>intro vs h;cases vs with
  |nil=>trivial
  |cons=>exact h.elim
 |
  cons h1 _ ih=>intro vs h;cases vs with
  |nil=>exact h.elim
  |cons v vs=>exact⟨(h.1.nz h1).same hs,ih h.2⟩
theorem CR.af9 {l m:List PV} (h:CR l m):∀ {vs:List Value},kx Γ l vs->kx Γ m vs:=by
 induction h with
 |nil=>intro vs h;exact h
 |
  cons h1 _ ih=>intro vs h;cases vs with
  |nil=>exact h.elim
  |cons v vs=>exact⟨h.1.nz h1,ih h.2⟩
theorem af.nzT {f:FuncId} {args:List PV} {fp:List bh} {R:PV->List bh->Prop} {l l':List PV} (h:af P f args fp (λr kS=>r= .tup l∧kS=[])) (hl:CR l l') (hR:R (.tup l') []):af P f args fp R:=by
 intro Γ w vs h1 h2 h3 h4
 refine(h Γ w vs h1 h2 h3 h4).mono ?_
 rintro e w' ⟨v,r,uT,Γ',e1,⟨rfl,rfl⟩,e3,e4,e5,e6,e7,e8⟩
 obtain⟨us,hv,ha⟩:=e6
 exact⟨v,_,_,Γ',e1,hR,e3,e4,e5,⟨us,hv,hl.af9 ha⟩,e7,e8⟩
theorem af.nzA {f:FuncId} {args gy:List PV} {fp kS:List bh} {R:PV->List bh->Prop} (h:af P f gy kS R) (ha:CR args gy) (hb:UN fp kS):af P f args fp R:=by
 intro Γ w vs h1 h2 h3 h4
 obtain⟨m1,m2,m3⟩:=UO h2 h3 hb
 have h4':=ha.all m3 h4
 refine(h {Γ with bx:=aG 0 kS} w vs h1 m1 rfl h4').mono ?_
 rintro e w' ⟨v,r,uT,Γ',e1,e2,e3,e4,e5,e6,e7,e8⟩
 exact⟨v,r,uT,Γ',e1,e2,e3,e4,e5,e6,m2.trans e7,e8⟩
end Go.Ab
