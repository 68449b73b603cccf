/- Rules by which the abstract reading is worked out. No condition. -/
import Derived.Test.YtdfkcobijmbidaaGreatA4
set_option linter.all false
namespace Go.Ab
variable [eg]
variable {P:Program}
structure Pure (p:PV):Prop where
 refs:∀f,ab f p=true
 aF:∀ρ,aF ρ p=p
 gh:∀k sz l0,gh k sz l0 p=p
structure aB (l:List PV):Prop where
 refs:∀f,ae f l=true
 aF:∀ρ,aK ρ l=l
 gh:∀k sz l0,gW k sz l0 l=l
theorem Pure.of {p:PV} (h:ab (λ_=>false) p=true):Pure p where
 refs f:=gL (by simp) p h
 aF ρ:=jm h
 gh k sz l0:=C4 p (gL (by simp) p h)
theorem aB.of {l:List PV} (h:ae (λ_=>false) l=true):aB l where
 refs f:=eU (by simp) l h
 aF ρ:=lN h
 gh k sz l0:=mD l (eU (by simp) l h)
theorem aB.mk' {l:List PV} (h:∀p∈l,Pure p):aB l:=by
 refine aB.of ?_
 induction l with
 |nil=>rfl
 |cons p l ih=>simp only[ae,aJ];exact⟨(h p (by simp)).refs _,ih λq hq=>h q (by simp[hq])⟩
theorem aB.map {α:Type} {e:α->PV} (h:∀x,Pure (e x)) (l:List α):aB (l.map e):=
 aB.mk' λp hp=>by obtain⟨x,_,rfl⟩:=List.mem_map.1 hp;exact h x
theorem aB.forget {l:List PV} (h:aB l):∀p∈l,Pure p:=by
 intro p hp
 have h0:=h.refs (λ_=>false)
 refine Pure.of ?_
 clear h
 induction l with
 |nil=>simp at hp
 |
  cons q l ih=>
  simp only[ae,aJ]at h0
  rcases List.mem_cons.1 hp with rfl|hp
  ·exact h0.1
  ·exact ih hp h0.2
theorem aB.append {l m:List PV} (h:aB l) (h':aB m):aB (l++m):=
 aB.mk' λp hp=>by rcases List.mem_append.1 hp with hp|hp;exact h.forget p hp;exact h'.forget p hp
theorem aB.take {l:List PV} (h:aB l) (n:Nat):aB (l.take n):=aB.mk' λp hp=>h.forget p (List.mem_of_mem_take hp)
theorem aB.drop {l:List PV} (h:aB l) (n:Nat):aB (l.drop n):=aB.mk' λp hp=>h.forget p (List.mem_of_mem_drop hp)
theorem aB.sl {l:List PV} (h:aB l) (sz:Nat) (c:Bool):Pure (.sl sz l c):=Pure.of (by simp only[ab];exact h.refs _)
theorem aB.st {l:List PV} (h:aB l) (w:Nat):Pure (.st w l):=Pure.of (by simp only[ab];exact h.refs _)
theorem aB.ar {l:List PV} (h:aB l) (sz n:Nat):Pure (.ar sz n l):=Pure.of (by simp only[ab];exact h.refs _)
def rv (sz bytes:Nat) (z:PV):di:=⟨8,[.mv (.t 2)],
 .seq (.region [⟨(some 2),none,true,.mv (.c (.sl sz [] true))⟩])
 (.seq
    (.seq (.region [⟨(some 3),none,true,.mv (.t 0)⟩,
    ⟨(some 4),none,false,.isNil false (.t 3)⟩])
  (.cond (.t 4)
   (.seq (.region [⟨(some 2),none,true,.mv (.c (.sl sz [] true))⟩])
   (.ret))
   (.skip)))
 (.seq (.region [⟨(some 5),none,false,.buildSlice false sz z 0 []⟩,
   ⟨(some 6),none,true,.mv (.t 0)⟩,
   ⟨(some 7),none,false,.append sz bytes false (.t 5) (.t 6)⟩,
   ⟨(some 2),none,true,.mv (.t 7)⟩])
 (.ret)))⟩
theorem B3 {f:FuncId} {sz bytes:Nat} {z:PV} (ht:ka P [] [] f=some (rv sz bytes z).er) (iu:0<sz) {l:List PV} (hr:aB l) (c:Bool) (h1:l.length*bytes≤140737488355328) (h2:l.length≤9223372036854775807):
  ah P f [.sl sz l c] [] (λr fp=>r= .rs KB [] 0 l.length l.length sz .tip∧fp=[.arr sz l]):=by
 refine ah.intro ht (by simp[rv]) ?_
 simp[rv,aw,GB,im,kG,nA,ev,ex,vg,vx,get,au,yl,aG,St.put,put,yd,dJ,src,content,gE]
 refine⟨⟨⟨h1,h2⟩,?_⟩,?_⟩
 ·refine⟨[],[7],?_⟩
  simp[gV,get,EO,ev,vg,vx,getAll,eD,fa,PV.flat,hr.refs,hr.aF,ab,af,a0,aF,aT,idx,bg]
 ·rintro rfl
  refine⟨[.vt 2 7 sz],[7],?_⟩
  simp[gV,jo,VW,iu,get,put,EO,ev,vg,vx,getAll,eD,fa,PV.flat,ab,ae,af,a0,aF,aK,aT,idx,bg]
end Go.Ab
namespace Go.Ab
variable [eg]
variable {P:Program} [iE]
@[congr] theorem acN {mx:Bool} {a a':Int} {l l':List PV} {K:Int->Prop} (h1:a=a') (h2:l=l'):lH mx a l K=lH mx a' l' K:=by subst h1 h2;rfl
@[congr] theorem avx {g g':Bool} {s s':St} {k:AK} {K:PV->Prop} (h:g=g') (h1:s=s'):ev g s k K=ev g' s' k K:=by subst h h1;rfl
@[congr] theorem aoI {s s':St} {o:AO} {K:St->Prop} (h:s=s'):im P s o K=im P s' o K:=by subst h;rfl
@[congr] theorem avy {s s':St} {c:cU} {Q:Exit->St->Prop} (h:s=s'):aw P c Q s=aw P c Q s':=by subst h;rfl
@[congr] theorem alZ {s s':St} {c:List Cut} {K:St->Prop} (h:s=s'):gV c s K=gV c s' K:=by subst h;rfl
end Go.Ab
namespace Go.Ab
variable [eg]
variable {P:Program} {s:St} {g:Bool}
def dm {α:Type}:Option α->(α->Prop)->Prop
 |some a,K=>K a
 |none,_=>False
@[congr] theorem al0 {α:Type} {o o':Option α} {K:α->Prop} (h:o=o'):dm o K=dm o' K:=by subst h;rfl
@[simp↓] theorem B4 {α:Type} (a:α) (K:α->Prop):dm (some a) K=K a:=id rfl
@[simp↓] theorem ZK {α:Type} (K:α->Prop):dm none K=False:=id rfl
def gN (g:Bool):PV->(PV->Prop)->Prop
 | .gd b p,K=>(g=true->b=true)∧K p
 |p,K=>K p
@[congr] theorem aoJ {g g':Bool} {p p':PV} {K:PV->Prop} (h:g=g') (h1:p=p'):gN g p K=gN g' p' K:=by subst h h1;rfl
theorem jC (x:AX) (K:PV->Prop):vg g s x K=gN g (vx s x) K:=by unfold vg;cases vx s x<;>rfl
def uE (x:Bool) (K:PV->Prop):PV->PV->Prop
 | .bl ya,.bl yb=>K (.bl (bif x then ya else yb))
 | .bl ya,.gd gb (.bl yb)=>(x=false->gb=true)∧K (.bl (bif x then ya else yb))
 | .gd ga (.bl ya),.bl yb=>(x=true->ga=true)∧K (.bl (bif x then ya else yb))
 | .gd ga (.bl ya),.gd gb (.bl yb)=>((x=true->ga=true)∧(x=false->gb=true))∧K (.bl (bif x then ya else yb))
 | .bl ya,.un=>x=true∧K (.bl ya)
 | .un,.bl yb=>x=false∧K (.bl yb)
 |_,_=>False
@[congr] theorem acO {x x':Bool} {K:PV->Prop} {p p' q q':PV} (h:x=x') (h1:p=p') (h2:q=q'):uE x K p q=uE x' K p' q':=by subst h h1 h2;rfl
def Tx (s:St) (a b:AX) (K:PV->Prop):PV->Prop
 | .bl x=>uE x K (vx s a) (vx s b)
 |_=>False
theorem V5 (c a b:AX) (K:PV->Prop):ev g s (.pick c a b) K=gN g (vx s c) (Tx s a b K):=by
 simp only[ev,jC];congr 1
def Db (ps:List (Nat×PV)) (K:PV->Prop):PV->Prop
 | .st w l=>dm (dJ l ps) λl'=>K (.st w l')
 | .ar sz n l=>dm (dJ l ps) λl'=>K (.ar sz n l')
 |_=>False
theorem P8 (z:PV) (parts:List (Nat×AX)) (K:PV->Prop):ev g s (.build z parts) K=yd g s parts λps=>Db ps K z:=by
 simp only[ev];congr 1;funext ps;cases z<;>simp only[Db]<;>first|rfl|(unfold dm;(repeat' split)<;>simp_all;done)
def Im (s:St) (agg:Bool) (w:Nat) (K:PV->Prop):PV->Prop
 | .pt k p aC=>dm (get s.bx k) λblk=>dm (mb blk p) λu=>(aC=blk.aC∧u.width=w∧u.isAgg=agg)∧K u
 | .fp sz l p=>dm (mb (.arr sz l) p) λu=>(u.width=w∧u.isAgg=agg)∧K u
 |_=>False
theorem V6 (agg:Bool) (w:Nat) (x:AX) (K:PV->Prop):ev g s (.load agg w x) K=gN g (vx s x) (Im s agg w K):=by
 simp only[ev,jC];congr 1;funext p;cases p<;>simp only[Im]<;>first|rfl|(unfold dm;(repeat' split)<;>simp_all;done)
def V7 (s:St) (K:PV->Prop):PV->Prop
 | .pt k p aC=>dm (get s.bx k) λblk=>aC=blk.aC∧K (.pt k p aC)
 | .fp sz l p=>K (.fp sz l p)
 | .fn (.func f) a b=>K (.fn (.func f) a b)
 |_=>False
theorem GU (x:AX) (K:PV->Prop):ev g s (.nilCheck x) K=gN g (vx s x) (V7 s K):=by
 simp only[ev,jC];congr 1;funext p
 cases p<;>(try (rename_i f a b;cases f))<;>simp only[V7]<;>first|rfl|(unfold dm;(repeat' split)<;>simp_all;done)
def acP (s:St) (op:BinOp) (K:PV->Prop):PV->PV->Prop
 | .np,.np=>s7 op true K
 | .pt k _ aC,.np=>dm (get s.bx k) λblk=>aC=blk.aC∧s7 op false K
 | .fp _ _ _,.np=>s7 op false K
 |_,_=>False
def kr (op:BinOp) (K:PV->Prop):PV->PV->Prop
 | .int k a,.int k' b=>(op= .shl∨op= .shr∨k=k')∧oB op k a b K
 | .str a,.str b=>yT op a b K
 |_,_=>False
def acQ (op:BinOp) (K:PV->Prop):PV->PV->Prop
 | .bl a,.bl b=>s7 op (a==b) K
 |_,_=>False
theorem V8 (op:BinOp) (x y:AX) (K:PV->Prop):ev g s (.bin op .no x y) K=gN g (vx s x) λp=>gN g (vx s y) λq=>kr op K p q:=by
 simp only[ev,jC];congr 1
theorem V9 (op:BinOp) (x y:AX) (K:PV->Prop):ev g s (.bin op .bl x y) K=gN g (vx s x) λp=>gN g (vx s y) λq=>acQ op K p q:=by
 simp only[ev,jC];congr 1
theorem Wa (op:BinOp) (x y:AX) (K:PV->Prop):ev g s (.bin op .ptr x y) K=gN g (vx s x) λp=>gN g (vx s y) λq=>acP s op K p q:=by
 simp only[ev,jC];congr 1;funext p;congr 1;funext q;cases p<;>cases q<;>simp only[py,acP]<;>first|rfl|(unfold dm;(repeat' split)<;>simp_all;done)
theorem Wb (op:BinOp) (sh:Sh) (x y:AX) (K:PV->Prop):ev g s (.bin op (.sh sh) x y) K=gN g (vx s x) λp=>gN g (vx s y) λq=>(fits sh p=true∧fits sh q=true)∧s7 op (PV.beq p q) K:=by
 simp only[ev,jC];congr 1
def rz (K:Int->Prop):PV->Prop
 | .int _ n=>K n
 |_=>False
theorem oe (p:PV) (K:Int->Prop):mc p K=rz K p:=by cases p<;>rfl
def unK (op:UnOp) (K:PV->Prop):PV->Prop
 | .bl b=>(match op with| .not=>K (.bl (!b))|_=>False)
 | .int k n=>(match op with| .neg=>K (.int k (k.wrap (0-n)))| .xor=>K (.int k (bits .xor k (if k.signed then-1 else k.max) n))|_=>False)
 |_=>False
theorem aoK (op:UnOp) (x:AX) (K:PV->Prop):ev g s (.un op x) K=gN g (vx s x) (unK op K):=by
 simp only[ev,jC];congr 1;funext p;cases p<;>cases op<;>rfl
def xH (s:St) (K:Nat->List PV->Prop):PV->Prop
 | .sl sz l _=>K sz l
 |
  .rs k p off len aC sz _=>dm (get s.bx k) λ
  | .arr bB l=>(aC=l.length∧p=[]∧sz=bB∧off+len≤l.length)∧K sz ((l.drop off).take len)
  |
   .box v=>dm (aQ v p) λ
   | .ar bB n l=>(aC=0∧sz=bB∧off+len≤n)∧K sz ((l.drop off).take len)
   |_=>False
  | .map .. =>False
 |_=>False
theorem si (p:PV) (K:Nat->List PV->Prop):content s p K=xH s K p:=by
 cases p<;>simp only[content,xH]
 rename_i k p off len aC sz c
 cases get s.bx k with
 |none=>rfl
 |
  some b=>
  cases b with
  |arr bB l=>rfl
  |
   box v=>
   simp only[B4]
   cases aQ v p with
   |none=>rfl
   |some u=>cases u<;>rfl
  |map b ks vs l=>rfl
theorem P9 (x:AX) (K:PV->Prop):ev g s (.convS x) K=gN g (vx s x) (xH s λsz l=>sz=1∧dm (iA l) λbs=>K (.str bs)):=by
 simp only[ev,jC];congr 1;funext p;rw[si];congr 1;funext sz l;cases iA l<;>rfl
def yo (s:St) (i off:Nat) (K:PV->Prop):PV->Prop
 | .pt k p aC=>dm (get s.bx k) λblk=>aC=blk.aC∧K (.pt k (p++[.f i off]) aC)
 | .fp sz l p=>K (.fp sz l (p++[.f i off]))
 |_=>False
theorem Me (i off:Nat) (x:AX) (K:PV->Prop):ev g s (.fieldA i off x) K=gN g (vx s x) (yo s i off K):=by
 simp only[ev,jC];congr 1;funext p;cases p<;>simp only[yo]<;>first|rfl|(unfold dm;(repeat' split)<;>simp_all;done)
def acR (s:St) (n sz:Nat) (K:PV->Prop):PV->Prop
 | .sl bB l _=>(bB=sz∧0<n∧n≤l.length)∧K (.fp sz l [.w 0 n sz])
 | .rs k p off len aC bB _=>dm (get s.bx k) λblk=>(aC=blk.aC∧bB=sz∧0<n∧n≤len)∧K (.pt k (p++[.w off n sz]) aC)
 |_=>False
theorem acS (n sz:Nat) (x:AX) (K:PV->Prop):ev g s (.s2a n sz x) K=gN g (vx s x) (acR s n sz K):=by
 simp only[ev,jC];congr 1;funext p;cases p<;>simp only[acR]<;>first|rfl|(unfold dm;(repeat' split)<;>simp_all;done)
def Mf (i off:Nat) (agg:Bool) (w:Nat) (K:PV->Prop):PV->Prop
 | .st _ l=>dm l[i]? λc=>(av (l.take i)=off∧c.width=w∧c.isAgg=agg)∧K c
 |_=>False
theorem Qa (i off:Nat) (agg:Bool) (w:Nat) (x:AX) (K:PV->Prop):ev g s (.field i off agg w x) K=gN g (vx s x) (Mf i off agg w K):=by
 simp only[ev,jC];congr 1;funext p;cases p<;>simp only[Mf]<;>first|rfl|(unfold dm;(repeat' split)<;>simp_all;done)
def pL (s:St) (sz:Nat) (j:Int) (K:PV->Prop):PV->Prop
 | .sl bB l _=>(bB=sz∧0≤j∧j<l.length)∧K (.fp sz l [.i j.toNat sz])
 | .rs k p off len aC bB _=>dm (get s.bx k) λblk=>(aC=blk.aC∧bB=sz∧0≤j∧j<len)∧K (.pt k (p++[.i (off+j.toNat) sz]) aC)
 |_=>False
theorem ER (sz:Nat) (x i:AX) (K:PV->Prop):ev g s (.indexA (.sl sz) x i) K=gN g (vx s x) λp=>gN g (vx s i) (rz λj=>pL s sz j K p):=by
 simp only[ev,jC,oe];congr 1;funext p;congr 1;funext q;congr 1;funext j;cases p<;>simp only[pL]<;>first|rfl|(unfold dm;(repeat' split)<;>simp_all;done)
def Mg (s:St) (sz:Nat) (j:Int) (K:PV->Prop):PV->Prop
 | .pt k p aC=>dm (get s.bx k) λblk=>aC=blk.aC∧K (.pt k (p++[.i j.toNat sz]) aC)
 | .fp bB l p=>K (.fp bB l (p++[.i j.toNat sz]))
 |_=>False
theorem ES (n sz:Nat) (x i:AX) (K:PV->Prop):ev g s (.indexA (.ar n sz) x i) K=gN g (vx s x) λp=>gN g (vx s i) (rz λj=>(0≤j∧j<n)∧Mg s sz j K p):=by
 simp only[ev,jC,oe];congr 1;funext p;congr 1;funext q;congr 1;funext j;cases p<;>simp only[Mg]<;>first|rfl|(unfold dm;(repeat' split)<;>simp_all;done)
@[congr] theorem acT {s s':St} {sz:Nat} {j j':Int} {K:PV->Prop} {p p':PV} (h:s=s') (h1:j=j') (h2:p=p'):pL s sz j K p=pL s' sz j' K p':=by subst h h1 h2;rfl
def acU (agg:Bool) (n w:Nat) (j:Int) (K:PV->Prop):PV->Prop
 | .ar sz n' l=>dm l[j.toNat]? λc=>(0≤j∧j<n∧n'=n∧sz=w∧c.isAgg=agg)∧K c
 |_=>False
theorem Qb (agg:Bool) (n w:Nat) (x i:AX) (K:PV->Prop):ev g s (.index agg n w x i) K=gN g (vx s x) λp=>gN g (vx s i) (rz λj=>acU agg n w j K p):=by
 simp only[ev,jC,oe];congr 1;funext p;congr 1;funext q;congr 1;funext j;cases p<;>simp only[acU]<;>first|rfl|(unfold dm;(repeat' split)<;>simp_all;done)
def acV (j:Int) (K:PV->Prop):PV->Prop
 | .str bs=>dm bs[j.toNat]? λc=>0≤j∧K (.int .u8 c.toNat)
 |_=>False
theorem Mh (x i:AX) (K:PV->Prop):ev g s (.indexS x i) K=gN g (vx s x) λp=>gN g (vx s i) (rz λj=>acV j K p):=by
 simp only[ev,jC,oe];congr 1;funext p;congr 1;funext q;congr 1;funext j;cases p<;>simp only[acV]<;>first|rfl|(unfold dm;(repeat' split)<;>simp_all;done)
def Mi (i:Nat) (K:PV->Prop):PV->Prop
 | .tup l=>dm l[i]? K
 |_=>False
@[congr] theorem al1 {i:Nat} {K:PV->Prop} {p p':PV} (h:p=p'):Mi i K p=Mi i K p':=by subst h;rfl
theorem JN (i:Nat) (x:AX) (K:PV->Prop):ev g s (.extract i x) K=Mi i K (vx s x):=by
 simp only[ev];cases vx s x<;>simp only[Mi]<;>first|rfl|(unfold dm;(repeat' split)<;>simp_all;done)
def v7 (s:St) (K:PV->Prop):PV->Prop
 | .sl _ l _=>K (.int .i64 l.length)
 | .rs k _ _ len aC _ _=>dm (get s.bx k) λblk=>aC=blk.aC∧K (.int .i64 len)
 |_=>False
theorem acW (x:AX) (K:PV->Prop):ev g s (.len x) K=gN g (vx s x) (v7 s K):=by
 simp only[ev,jC];congr 1;funext p;cases p<;>simp only[v7]<;>first|rfl|(unfold dm;(repeat' split)<;>simp_all;done)
end Go.Ab
namespace Go.Ab
variable [eg]
variable {P:Program} {s:St} {g:Bool}
def Ty (s:St) (g:Bool) (lo hi mx:Option AX) (K:PV->Prop):PV->Prop
 | .str bs=>mx.isNone=true∧j2 g s lo hi bs.length bs.length λl h=>K (.str ((bs.take h).drop l))
 |_=>False
theorem EU (x:AX) (lo hi mx:Option AX) (K:PV->Prop):ev g s (.slice .str x lo hi mx) K=gN g (vx s x) (Ty s g lo hi mx K):=by
 simp only[ev,jC];congr 1
def Wc (s:St) (g:Bool) (n sz:Nat) (lo hi mx:Option AX) (K:PV->Prop):PV->Prop
 | .ar z' n' l'=>(z'=sz∧n'=n∧mx.isNone=true)∧j2 g s lo hi n n λa b=>K (.sl sz ((l'.take b).drop a) (decide (b=n)))
 |_=>False
def Qc (s:St) (g:Bool) (n sz:Nat) (lo hi mx:Option AX) (K:PV->Prop):PV->Prop
 | .pt k p aC=>dm (get s.bx k) λblk=>aC=blk.aC∧mx.isNone=true∧j2 g s lo hi n n λa b=>K (.rs k p a (b-a) aC sz (if b=n then .clip else .any))
 | .fp z l q=>dm (mb (.arr z l) q) (Wc s g n sz lo hi mx K)
 |_=>False
theorem GV (n sz:Nat) (x:AX) (lo hi mx:Option AX) (K:PV->Prop):ev g s (.slice (.ar n sz) x lo hi mx) K=gN g (vx s x) (Qc s g n sz lo hi mx K):=by
 simp only[ev,jC];congr 1;funext p;cases p<;>simp only[Qc]<;>first|rfl|(unfold dm;(repeat' split)<;>simp_all;done)|(rename_i z l q;cases mb (.arr z l) q with|none=>rfl|some u=>cases u<;>rfl)
def Qd (s:St) (g:Bool) (sz:Nat) (lo hi:Option AX) (K:PV->Prop):PV->Prop
 | .sl bB l clip=>j2 g s lo hi l.length l.length λa b=>(bB=sz)∧K (.sl sz ((l.take b).drop a) (clip&&decide (b=l.length)))
 | .rs k p off len aC bB c=>dm (get s.bx k) λblk=>(aC=blk.aC∧bB=sz)∧j2 g s lo hi len (yR c off len aC) λa b=>K (.rs k p (off+a) (b-a) aC sz (CJ c a (decide (b=len))))
 |_=>False
theorem GW (sz:Nat) (x:AX) (lo hi:Option AX) (K:PV->Prop):ev g s (.slice (.sl sz) x lo hi none) K=gN g (vx s x) (Qd s g sz lo hi K):=by
 simp only[ev,jC];congr 1;funext p;cases p<;>simp only[Qd]<;>first|rfl|(unfold dm;(repeat' split)<;>simp_all;done)
@[simp] theorem acX (off len aC:Nat):yR .tip off len aC=len:=_root_.id rfl
@[simp] theorem ZL (n off len aC:Nat):yR (.full n) off len aC=if off+n≤aC∧len≤n then n else len:=_root_.id rfl
@[simp] theorem acY (a:Nat) (e:Bool):CJ .tip a e= .tip:=_root_.id rfl
@[simp] theorem ZM (n a:Nat) (e:Bool):CJ (.full n) a e= .full (n-a):=_root_.id rfl
def Mj (s:St) (g:Bool) (sz:Nat) (lo hi:Option AX) (m:AX) (K:PV->Prop):PV->Prop
 | .sl bB l _=>gN g (vx s m) (rz λm=>(0≤m∧m≤l.length)∧j2 g s lo hi l.length m.toNat λa b=>(bB=sz)∧K (.sl sz ((l.take b).drop a) (decide (b=m.toNat))))
 | .rs k p off len aC bB _=>dm (get s.bx k) λblk=>(aC=blk.aC∧bB=sz)∧gN g (vx s m) (rz λm=>(0≤m∧m≤len)∧j2 g s lo hi len m.toNat λa b=>K (.rs k p (off+a) (b-a) aC sz (if b=m.toNat then .clip else .any)))
 |_=>False
theorem GX (sz:Nat) (x:AX) (lo hi:Option AX) (m:AX) (K:PV->Prop):ev g s (.slice (.sl sz) x lo hi (some m)) K=gN g (vx s x) (Mj s g sz lo hi m K):=by
 simp only[ev,jC];congr 1;funext p;cases p<;>simp only[Mj,oe]<;>first|rfl|(unfold dm;(repeat' split)<;>simp_all;done)
def JO (g:Bool) (s:St) (lo:Option AX) (K:Nat->Nat->Prop) (h:Nat):Prop:=
 match lo with|none=>K 0 h|some x=>gN g (vx s x) (rz λl=>(0≤l∧l≤h)∧K l.toNat h)
theorem Mk (lo:Option AX) (len cap:Nat) (K:Nat->Nat->Prop):j2 g s lo none len cap K=JO g s lo K len:=by
 cases lo<;>simp only[j2,JO,jC,oe]
theorem Ml (lo:Option AX) (x:AX) (len cap:Nat) (K:Nat->Nat->Prop):j2 g s lo (some x) len cap K=gN g (vx s x) (rz λh=>(0≤h∧h≤cap)∧JO g s lo K h.toNat):=by
 cases lo<;>simp only[j2,JO,jC,oe]
end Go.Ab
namespace Go.Ab
variable [eg]
variable {P:Program} {s:St} {g:Bool}
def Qe (s:St) (sz:Nat) (K:List PV->Prop) (q:PV):Prop:=xH s (λbB ys=>(ys=[]∨bB=sz)∧K ys) q
theorem Tz (sz:Nat) (q:PV) (K:List PV->Prop):src s false sz q K=Qe s sz K q:=by simp only[src,fJ,if_false,Qe,si]
def acZ (sz:Nat) (K:List PV->Prop):PV->Prop
 | .str bs=>sz=1∧K (bs.map u8)
 |_=>False
theorem Mm (sz:Nat) (q:PV) (K:List PV->Prop):src s true sz q K=acZ sz K q:=by simp only[src,if_true];cases q<;>rfl
theorem Mn (d:Option Nat) (sz bytes:Nat) (str:Bool) (x y:AX) (K:St->Prop):ex s d (.append sz bytes str x y) K=gN true (vx s x) λp=>gN true (vx s y) λq=>src s str sz q λys=>gE s d sz bytes p ys K:=by
 simp only[ex,jC]
theorem Qg (k:Nat) (z:PV) (K:St->Prop):ex s (some k) (.alloc z) K=(get s.bx k=none∧K {env:=put s.env k (.pt k [] 0),bx:=put s.bx k (.box z)}):=id rfl
theorem ac0 (k:Nat) (x:AX) (K:St->Prop):ex s (some k) (.box x) K=gN true (vx s x) λp=>(get s.bx k=none∧p.bj=true)∧K {env:=put s.env k (.pt k [] 0),bx:=put s.bx k (.box p)}:=by
 simp only[ex,jC]
theorem zT (d:Option Nat) (sz n:Nat) (z:PV) (parts:List (Nat×AX)) (K:St->Prop):ex s d (.buildSlice false sz z n parts) K=yd true s parts λps=>dm (dJ (List.replicate n z) (ps.map λx=>(x.1,wk x.2))) λl=>K (s.put d (.sl sz l true)):=by
 simp only[ex,fJ,if_false];congr 1;funext ps;cases dJ (List.replicate n z) (ps.map λx=>(x.1,wk x.2))<;>rfl
theorem zV (k:Nat) (sz n:Nat) (z:PV) (parts:List (Nat×AX)) (K:St->Prop):ex s (some k) (.buildSlice true sz z n parts) K=yd true s parts λps=>dm (dJ (List.replicate n z) (ps.map λx=>(x.1,wk x.2))) λl=>get s.bx k=none∧K {env:=put s.env k (.rs k [] 0 n n sz .tip),bx:=put s.bx k (.arr sz l)}:=by
 simp only[ex,if_true];congr 1;funext ps;cases dJ (List.replicate n z) (ps.map λx=>(x.1,wk x.2))<;>rfl
def TA (s:St) (d k len aC sz bB bytes:Nat) (ys:List PV) (K:St->Prop):a9->Prop
 | .arr sz'' l=>(aC=l.length∧len=l.length∧bB=sz∧sz''=sz∧(l.length+ys.length)*bytes≤140737488355328∧l.length+ys.length≤9223372036854775807)∧
   K {env:=put s.env d (.rs k [] 0 (l.length+ys.length) (l.length+ys.length) sz .tip),bx:=put s.bx k (.arr sz (l++ys))}
 |_=>False
theorem
    Qh (d sz bytes sz0:Nat) (l ys:List PV) (K:St->Prop):gE s (some d) sz bytes (.sl sz0 l true) ys K=((get s.bx d=none∧(l=[]∨(sz0=sz∧ys≠[]))∧(l.length+ys.length)*bytes≤140737488355328∧l.length+ys.length≤9223372036854775807)∧
    K {env:=put s.env d (.rs d [] 0 (l.length+ys.length) (l.length+ys.length) sz .tip),bx:=put s.bx d (.arr sz (l++ys))}):=rfl
theorem Mo (d sz bytes k len aC bB:Nat) (ys:List PV) (K:St->Prop):gE s (some d) sz bytes (.rs k [] 0 len aC bB .tip) ys K=dm (get s.bx k) (TA s d k len aC sz bB bytes ys K):=by
 simp only[gE]
 cases get s.bx k with
 |none=>rfl
 |some b=>cases b<;>rfl
def Mp (s:St) (d k len aC n sz bB bytes:Nat) (ys:List PV) (K:St->Prop):a9->Prop
 | .arr sz'' l=>(aC=l.length∧bB=sz∧sz''=sz∧len≤n∧n≤l.length∧ys≠[]∧get s.bx d=none∧(len+ys.length)*bytes≤140737488355328∧len+ys.length≤9223372036854775807)∧
    (len+ys.length≤n->K {env:=put s.env d (.rs k [] 0 (len+ys.length) aC sz (.full n)),bx:=put s.bx k (.arr sz (l.take len++ys++l.drop (len+ys.length)))})∧
    (n<len+ys.length->K {env:=put s.env d (.rs d [] 0 (len+ys.length) (len+ys.length) sz .tip),bx:=put s.bx d (.arr sz (l.take len++ys))})
 |_=>False
theorem JP (d sz bytes k len aC bB n:Nat) (ys:List PV) (K:St->Prop):gE s (some d) sz bytes (.rs k [] 0 len aC bB (.full n)) ys K=dm (get s.bx k) (Mp s d k len aC n sz bB bytes ys K):=by
 simp only[gE]
 cases get s.bx k with
 |none=>rfl
 |some b=>cases b<;>rfl
def apZ (s:St) (d k len aC n sz bB bytes:Nat) (z:PV) (m:Int) (K:St->Prop):a9->Prop
 | .arr sz'' l=>(get s.bx d=none∧aC=l.length∧bB=sz∧sz''=sz∧len≤n∧n≤l.length∧0<m∧n<len+m.toNat∧(len+m.toNat)*bytes≤140737488355328∧len+m.toNat≤9223372036854775807)∧
    K {env:=put s.env d (.rs d [] 0 (len+m.toNat) (len+m.toNat) sz .tip),bx:=put s.bx d (.arr sz (l.take len++List.replicate m.toNat z))}
 |_=>False
theorem GY (d sz bytes k len aC bB n:Nat) (z:PV) (m:Int) (K:St->Prop):n5 s (some d) sz bytes z (.rs k [] 0 len aC bB (.full n)) m K=dm (get s.bx k) (apZ s d k len aC n sz bB bytes z m K):=by
 simp only[n5]
 cases get s.bx k with
 |none=>rfl
 |some b=>cases b<;>rfl
theorem JQ (d:Option Nat) (sz bytes:Nat) (z:PV) (x y:AX) (K:St->Prop):ex s d (.appendZ sz bytes z x y) K=gN true (vx s x) λp=>gN true (vx s y) (rz λm=>n5 s d sz bytes z p m K):=by
 simp only[ex,jC,oe]
theorem
    JR (d sz bytes k off len aC bB:Nat) (p:List Step) (ys:List PV) (K:St->Prop):gE s (some d) sz bytes (.rs k p off len aC bB .clip) ys K=xH s (λsz'' l=>(get s.bx d=none∧sz''=sz∧ys≠[]∧(l.length+ys.length)*bytes≤140737488355328∧l.length+ys.length≤9223372036854775807)∧
    K {env:=put s.env d (.rs d [] 0 (l.length+ys.length) (l.length+ys.length) sz .tip),bx:=put s.bx d (.arr sz (l++ys))}) (.rs k p off len aC bB .clip):=by
 rw[←si]
 cases p<;>cases off<;>rfl
end Go.Ab
namespace Go.Ab
variable [eg]
variable {P:Program} {s:St} {g:Bool} [iE]
def GZ (s:St) (n:Nat) (v:PV) (K:St->Prop):PV->Prop
 | .pt k pth aC=>dm (get s.bx k) λblk=>dm (pv blk pth (Ts blk v)) λcB=>(aC=blk.aC∧v.width=n∧v.bj=true)∧K {s with bx:=put s.bx k cB}
 |_=>False
theorem Qi (d:Option Nat) (n:Nat) (x y:AX) (K:St->Prop):ex s d (.store n x y) K=gN true (vx s x) λp=>gN true (vx s y) λv=>GZ s n v K p:=by
 simp only[ex,jC];congr 1;funext p;congr 1;funext v
 cases p<;>simp only[GZ]
 rename_i k pth aC
 cases get s.bx k with
 |none=>rfl
 |some b=>simp only[B4];cases pv b pth (Ts b v)<;>rfl
def Mq (s:St) (d:Option Nat) (ng:Bool) (K:St->Prop):PV->Prop
 | .sl _ l _=>∀b:Bool,(b=true->l=[])->K (s.put d (.bl (b !=ng)))
 | .rs k _ _ len aC _ _=>dm (get s.bx k) λblk=>aC=blk.aC∧∀b:Bool,(b=true->len=0)->K (s.put d (.bl (b !=ng)))
 |_=>False
theorem Qj (d:Option Nat) (ng:Bool) (x:AX) (K:St->Prop):ex s d (.isNil ng x) K=gN true (vx s x) (Mq s d ng K):=by
 simp only[ex,jC];congr 1;funext p
 cases p<;>simp only[Mq]
 rename_i k _ _ _ _ _ _
 cases get s.bx k<;>rfl
theorem EV (k sz bytes:Nat) (z:PV) (len cap:AX) (K:St->Prop):ex s (some k) (.makeSlice sz bytes z len cap) K=gN true (vx s len) (rz λl=>gN true (vx s cap) (rz λc=>
  (get s.bx k=none∧0≤l∧l≤c∧c*bytes≤281474976710656∧c≤9223372036854775807)∧
    K {env:=put s.env k (.rs k [] 0 l.toNat l.toNat sz .tip),bx:=put s.bx k (.arr sz (List.replicate l.toNat z))})):=by
 simp only[ex,jC,oe]
def xI (want mg:Bool) (M:Bool->Prop) (D U:Prop):PV->Prop
 | .bl b=>if mg=true then M (b==want)else(b=want->D)∧(b≠want->U)
 | .gd g (.bl b)=>if mg=true then M (g&&b==want)else(g=true->b=want->D)∧((g=true->b≠want)->U)
 |_=>False
@[congr] theorem aoL {want mg:Bool} {M:Bool->Prop} {D U:Prop} {p p':PV} (h:p=p'):xI want mg M D U p=xI want mg M D U p':=by subst h;rfl
theorem Qk (d:Option Nat) (sl:Nat) (want mg:Bool) (k:AK) (K:St->Prop):im P s ⟨d,some (sl,want),mg,k⟩ K=
  xI want mg (λg=>ev g s k λp=>K (s.put d (.gd g p))) (kG P s ⟨d,some (sl,want),mg,k⟩ K) (K (s.put d .un)) ((get s.env sl).getD .un):=by
 simp only[im]
 generalize (get s.env sl).getD .un=p
 cases p<;>try rfl
def Wd (A B:Prop):PV->Prop
 | .bl b=>(b=true->A)∧(b=false->B)
 | .gd g (.bl b)=>g=true∧(b=true->A)∧(b=false->B)
 |_=>False
@[congr] theorem aoM {A B:Prop} {p p':PV} (h:p=p'):Wd A B p=Wd A B p':=by subst h;rfl
theorem We (c:AX) (x y:cU) (Q:Exit->St->Prop):aw P (.cond c x y) Q s=Wd (aw P x Q s) (aw P y Q s) (vx s c):=by
 simp only[aw]
 generalize vx s c=p
 cases p<;>try rfl
def ac1 (P:Program) (s:St) (d:Option Nat) (K:St->Prop) (args:List PV):PV->Prop
 | .fn (.func fid) first cap=>∃ks os,sM P s d fid (first++args++cap) ks os K
 | .fn (.yield l) [] []=>Gu s d l args K
 |_=>False
theorem Ql (K:List PV->Prop):s8 g s [] K=K []:=id rfl
theorem Qm (x:AX) (xs:List AX) (K:List PV->Prop):s8 g s (x::xs) K=gN g (vx s x) λp=>s8 g s xs λps=>K (p::ps):=by simp only[s8,jC]
theorem Qn (K:List (Nat×PV)->Prop):yd g s [] K=K []:=id rfl
theorem Qo (i:Nat) (x:AX) (xs:List (Nat×AX)) (K:List (Nat×PV)->Prop):yd g s ((i,x)::xs) K=gN g (vx s x) λp=>yd g s xs λps=>K ((i,p)::ps):=by simp only[yd,jC]
theorem Qp (d:Option Nat) (f:AX) (args:List AX) (K:St->Prop):kF P s d f args K=gN true (vx s f) λpf=>s8 true s args λps=>ac1 P s d K ps pf:=by
 simp only[kF,jC];congr 1
end Go.Ab
namespace Go.Ab
variable [eg]
@[simp↓] theorem aoN {g:Bool} {K:PV->Prop} (cx:Bool):gN g (.bl cx) K=K (.bl cx):=id rfl
@[simp↓] theorem al2 {g:Bool} {K:PV->Prop} (ck:IntKind) (cn:Int):gN g (.int ck cn) K=K (.int ck cn):=id rfl
@[simp↓] theorem al3 {g:Bool} {K:PV->Prop} (cl:List UInt8):gN g (.str cl) K=K (.str cl):=id rfl
@[simp↓] theorem aoO {g:Bool} {K:PV->Prop} (cw:Nat) (cl:List PV):gN g (.st cw cl) K=K (.st cw cl):=id rfl
@[simp↓] theorem aoP {g:Bool} {K:PV->Prop} (cz cn:Nat) (cl:List PV):gN g (.ar cz cn cl) K=K (.ar cz cn cl):=id rfl
@[simp↓] theorem al4 {g:Bool} {K:PV->Prop} (cl:List PV):gN g (.tup cl) K=K (.tup cl):=id rfl
@[simp↓] theorem aoQ {g:Bool} {K:PV->Prop} (cz:Nat) (cl:List PV) (cc:Bool):gN g (.sl cz cl cc) K=K (.sl cz cl cc):=id rfl
@[simp↓] theorem aoR {g:Bool} {K:PV->Prop} (ck:Nat) (cp:List Step) (co cl ct cz:Nat) (cc:jb):gN g (.rs ck cp co cl ct cz cc) K=K (.rs ck cp co cl ct cz cc):=id rfl
@[simp↓] theorem aoS {g:Bool} {K:PV->Prop}:gN g .np K=K .np:=id rfl
@[simp↓] theorem aoT {g:Bool} {K:PV->Prop} (ck:Nat) (cp:List Step) (ct:Nat):gN g (.pt ck cp ct) K=K (.pt ck cp ct):=id rfl
@[simp↓] theorem aoU {g:Bool} {K:PV->Prop} (cz:Nat) (cl:List PV) (cp:List Step):gN g (.fp cz cl cp) K=K (.fp cz cl cp):=id rfl
@[simp↓] theorem aoV {g:Bool} {K:PV->Prop} (cf:FuncId) (ca cb:List PV):gN g (.fn (.func cf) ca cb) K=K (.fn (.func cf) ca cb):=id rfl
@[simp↓] theorem aoW {g:Bool} {K:PV->Prop} (cb:Bool) (cv:PV):gN g (.gd cb cv) K=((g=true->cb=true)∧K cv):=id rfl
@[simp↓] theorem ac2 {s:St} {agg:Bool} {w:Nat} {K:PV->Prop} (ck:Nat) (cp:List Step) (ct:Nat):Im s agg w K (.pt ck cp ct)=(dm (get s.bx ck) λblk=>dm (mb blk cp) λu=>(ct=blk.aC∧u.width=w∧u.isAgg=agg)∧K u):=id rfl
@[simp↓] theorem ac3 {s:St} {agg:Bool} {w:Nat} {K:PV->Prop} (cz:Nat) (cl:List PV) (cp:List Step):Im s agg w K (.fp cz cl cp)=(dm (mb (.arr cz cl) cp) λu=>(u.width=w∧u.isAgg=agg)∧K u):=id rfl
@[simp↓] theorem al5 {s:St} {K:PV->Prop} (ck:Nat) (cp:List Step) (ct:Nat):V7 s K (.pt ck cp ct)=(dm (get s.bx ck) λblk=>ct=blk.aC∧K (.pt ck cp ct)):=id rfl
@[simp↓] theorem ZN {ps:List (Nat×PV)} {K:PV->Prop} (cw:Nat) (cl:List PV):Db ps K (.st cw cl)=(dm (dJ cl ps) λl'=>K (.st cw l')):=id rfl
@[simp↓] theorem ZO {ps:List (Nat×PV)} {K:PV->Prop} (cz cn:Nat) (cl:List PV):Db ps K (.ar cz cn cl)=(dm (dJ cl ps) λl'=>K (.ar cz cn l')):=id rfl
@[simp↓] theorem ac4 {K:Int->Prop} (ck:IntKind) (cn:Int):rz K (.int ck cn)=(K cn):=id rfl
@[simp↓] theorem al6 {s:St} {K:Nat->List PV->Prop} (cz:Nat) (cl:List PV) (cc:Bool):xH s K (.sl cz cl cc)=(K cz cl):=id rfl
@[simp↓] theorem Wf {s:St} {i off:Nat} {K:PV->Prop} (ck:Nat) (cp:List Step) (ct:Nat):yo s i off K (.pt ck cp ct)=(dm (get s.bx ck) λblk=>ct=blk.aC∧K (.pt ck (cp++[.f i off]) ct)):=id rfl
@[simp↓] theorem Wg {s:St} {i off:Nat} {K:PV->Prop} (cz:Nat) (cl:List PV) (cp:List Step):yo s i off K (.fp cz cl cp)=(K (.fp cz cl (cp++[.f i off]))):=id rfl
@[simp↓] theorem ac5 {s:St} {sz:Nat} {j:Int} {K:PV->Prop} (cz:Nat) (cl:List PV) (cc:Bool):pL s sz j K (.sl cz cl cc)=((cz=sz∧0≤j∧j<cl.length)∧K (.fp sz cl [.i j.toNat sz])):=id rfl
@[simp↓] theorem ac6 {s:St} {sz:Nat} {j:Int} {K:PV->Prop} (ck:Nat) (cp:List Step) (co cl ct cz:Nat) (cc:jb):pL s sz j K (.rs ck cp co cl ct cz cc)=(dm (get s.bx ck) λblk=>(ct=blk.aC∧cz=sz∧0≤j∧j<cl)∧K (.pt ck (cp++[.i (co+j.toNat) sz]) ct)):=id rfl
@[simp↓] theorem ac7 {s:St} {sz:Nat} {j:Int} {K:PV->Prop} (ck:Nat) (cp:List Step) (ct:Nat):Mg s sz j K (.pt ck cp ct)=(dm (get s.bx ck) λblk=>ct=blk.aC∧K (.pt ck (cp++[.i j.toNat sz]) ct)):=id rfl
@[simp↓] theorem ac8 {i:Nat} {K:PV->Prop} (cl:List PV):Mi i K (.tup cl)=(dm cl[i]? K):=id rfl
@[simp↓] theorem al7 {s:St} {K:PV->Prop} (cz:Nat) (cl:List PV) (cc:Bool):v7 s K (.sl cz cl cc)=(K (.int .i64 cl.length)):=id rfl
@[simp↓] theorem al8 {s:St} {K:PV->Prop} (ck:Nat) (cp:List Step) (co cl ct cz:Nat) (cc:jb):v7 s K (.rs ck cp co cl ct cz cc)=(dm (get s.bx ck) λblk=>ct=blk.aC∧K (.int .i64 cl)):=id rfl
@[simp↓] theorem ZP {s:St} {g:Bool} {lo hi mx:Option AX} {K:PV->Prop} (cl:List UInt8):Ty s g lo hi mx K (.str cl)=(mx.isNone=true∧j2 g s lo hi cl.length cl.length λl h=>K (.str ((cl.take h).drop l))):=id rfl
@[simp↓] theorem al9 {s:St} {g:Bool} {n sz:Nat} {lo hi mx:Option AX} {K:PV->Prop} (cz:Nat) (cl:List PV) (cp:List Step):Qc s g n sz lo hi mx K (.fp cz cl cp)=dm (mb (.arr cz cl) cp) (Wc s g n sz lo hi mx K):=id rfl
@[simp↓] theorem ama {s:St} {g:Bool} {n sz:Nat} {lo hi mx:Option AX} {K:PV->Prop} (z' n':Nat) (l':List PV):Wc s g n sz lo hi mx K (.ar z' n' l')=((z'=sz∧n'=n∧mx.isNone=true)∧j2 g s lo hi n n λa b=>K (.sl sz ((l'.take b).drop a) (decide (b=n)))):=id rfl
@[simp↓] theorem amb {s:St} {g:Bool} {n sz:Nat} {lo hi mx:Option AX} {K:PV->Prop} (ck:Nat) (cp:List Step) (ct:Nat):Qc s g n sz lo hi mx K (.pt ck cp ct)=(dm (get s.bx ck) λblk=>ct=blk.aC∧mx.isNone=true∧j2 g s lo hi n n λa b=>K (.rs ck cp a (b-a) ct sz (if b=n then .clip else .any))):=id rfl
@[simp↓] theorem ZQ {s:St} {n:Nat} {v:PV} {K:St->Prop} (ck:Nat) (cp:List Step) (ct:Nat):GZ s n v K (.pt ck cp ct)=(dm (get s.bx ck) λblk=>dm (pv blk cp (Ts blk v)) λcB=>(ct=blk.aC∧v.width=n∧v.bj=true)∧K {s with bx:=put s.bx ck cB}):=id rfl
@[simp↓500] theorem aoX {A B:Prop} (cx:Bool):Wd A B (.bl cx)=((cx=true->A)∧(cx=false->B)):=id rfl
@[simp↓] theorem ac9 {s:St} {a b:AX} {K:PV->Prop} (cx:Bool):Tx s a b K (.bl cx)=(uE cx K (vx s a) (vx s b)):=id rfl
end Go.Ab
namespace Go.Ab
variable [eg]
variable {P:Program} {s:St} {g:Bool}
theorem aoY (x:AX) (K:PV->Prop):ev g s (.mv x) K=gN g (vx s x) K:=by simp only[ev,jC]
theorem Qq (k:IntKind) (x:AX) (K:PV->Prop):ev g s (.convI k x) K=gN g (vx s x) (rz λn=>K (.int k (k.wrap n))):=by simp only[ev,jC,oe]
theorem Wh (n:Nat) (K:PV->Prop):ev g s (.lenC n) K=K (.int .i64 n):=id rfl
end Go.Ab
namespace Go.Ab
variable [eg]
variable {P:Program} {s:St} [iE]
@[simp↓] theorem aoZ (d:Option Nat) (gd:Option (Nat×Bool)) (mg:Bool) (x:AX) (K:St->Prop):kG P s ⟨d,gd,mg,.mv x⟩ K=ev true s (.mv x) λp=>K (s.put d p):=id rfl
@[simp↓] theorem ada (d:Option Nat) (gd:Option (Nat×Bool)) (mg:Bool) (c a b:AX) (K:St->Prop):kG P s ⟨d,gd,mg,.pick c a b⟩ K=ev true s (.pick c a b) λp=>K (s.put d p):=id rfl
@[simp↓] theorem ZR (d:Option Nat) (gd:Option (Nat×Bool)) (mg:Bool) (z:PV) (ps:List (Nat×AX)) (K:St->Prop):kG P s ⟨d,gd,mg,.build z ps⟩ K=ev true s (.build z ps) λp=>K (s.put d p):=id rfl
@[simp↓] theorem adb (d:Option Nat) (gd:Option (Nat×Bool)) (mg:Bool) (a:Bool) (w:Nat) (x:AX) (K:St->Prop):kG P s ⟨d,gd,mg,.load a w x⟩ K=ev true s (.load a w x) λp=>K (s.put d p):=id rfl
@[simp↓] theorem Qr (d:Option Nat) (gd:Option (Nat×Bool)) (mg:Bool) (x:AX) (K:St->Prop):kG P s ⟨d,gd,mg,.nilCheck x⟩ K=ev true s (.nilCheck x) λp=>K (s.put d p):=id rfl
@[simp↓] theorem amc (d:Option Nat) (gd:Option (Nat×Bool)) (mg:Bool) (o:BinOp) (e:ET) (x y:AX) (K:St->Prop):kG P s ⟨d,gd,mg,.bin o e x y⟩ K=ev true s (.bin o e x y) λp=>K (s.put d p):=id rfl
@[simp↓] theorem ao0 (d:Option Nat) (gd:Option (Nat×Bool)) (mg:Bool) (o:UnOp) (x:AX) (K:St->Prop):kG P s ⟨d,gd,mg,.un o x⟩ K=ev true s (.un o x) λp=>K (s.put d p):=id rfl
@[simp↓] theorem ZS (d:Option Nat) (gd:Option (Nat×Bool)) (mg:Bool) (k:IntKind) (x:AX) (K:St->Prop):kG P s ⟨d,gd,mg,.convI k x⟩ K=ev true s (.convI k x) λp=>K (s.put d p):=id rfl
@[simp↓] theorem ZT (d:Option Nat) (gd:Option (Nat×Bool)) (mg:Bool) (x:AX) (K:St->Prop):kG P s ⟨d,gd,mg,.convS x⟩ K=ev true s (.convS x) λp=>K (s.put d p):=id rfl
@[simp↓] theorem Wi (d:Option Nat) (gd:Option (Nat×Bool)) (mg:Bool) (f:Fn) (a b:List AX) (K:St->Prop):kG P s ⟨d,gd,mg,.mkFunc f a b⟩ K=ev true s (.mkFunc f a b) λp=>K (s.put d p):=id rfl
@[simp↓] theorem ZU (d:Option Nat) (gd:Option (Nat×Bool)) (mg:Bool) (k:SK) (x:AX) (l h m:Option AX) (K:St->Prop):kG P s ⟨d,gd,mg,.slice k x l h m⟩ K=ev true s (.slice k x l h m) λp=>K (s.put d p):=id rfl
@[simp↓] theorem Wj (d:Option Nat) (gd:Option (Nat×Bool)) (mg:Bool) (i o:Nat) (x:AX) (K:St->Prop):kG P s ⟨d,gd,mg,.fieldA i o x⟩ K=ev true s (.fieldA i o x) λp=>K (s.put d p):=id rfl
@[simp↓] theorem Wk (d:Option Nat) (gd:Option (Nat×Bool)) (mg:Bool) (k:SK) (x i:AX) (K:St->Prop):kG P s ⟨d,gd,mg,.indexA k x i⟩ K=ev true s (.indexA k x i) λp=>K (s.put d p):=id rfl
@[simp↓] theorem TB (d:Option Nat) (gd:Option (Nat×Bool)) (mg:Bool) (i:Nat) (x:AX) (K:St->Prop):kG P s ⟨d,gd,mg,.extract i x⟩ K=ev true s (.extract i x) λp=>K (s.put d p):=id rfl
@[simp↓] theorem amd (d:Option Nat) (gd:Option (Nat×Bool)) (mg:Bool) (x:AX) (K:St->Prop):kG P s ⟨d,gd,mg,.len x⟩ K=ev true s (.len x) λp=>K (s.put d p):=id rfl
@[simp↓] theorem ame (d:Option Nat) (gd:Option (Nat×Bool)) (mg:Bool) (x:AX) (K:St->Prop):kG P s ⟨d,gd,mg,.cap x⟩ K=ev true s (.cap x) λp=>K (s.put d p):=id rfl
@[simp↓] theorem TC (d:Option Nat) (gd:Option (Nat×Bool)) (mg:Bool) (sz b:Nat) (z:PV) (x y:AX) (K:St->Prop):kG P s ⟨d,gd,mg,.appendZ sz b z x y⟩ K=ex s d (.appendZ sz b z x y) K:=id rfl
@[simp↓] theorem ao1 (d:Option Nat) (gd:Option (Nat×Bool)) (mg:Bool) (m:Bool) (xs:List AX) (K:St->Prop):kG P s ⟨d,gd,mg,.mm m xs⟩ K=ev true s (.mm m xs) λp=>K (s.put d p):=id rfl
@[simp↓] theorem ZV (d:Option Nat) (gd:Option (Nat×Bool)) (mg:Bool) (z:PV) (K:St->Prop):kG P s ⟨d,gd,mg,.alloc z⟩ K=ex s d (.alloc z) K:=id rfl
@[simp↓] theorem amf (d:Option Nat) (gd:Option (Nat×Bool)) (mg:Bool) (x:AX) (K:St->Prop):kG P s ⟨d,gd,mg,.box x⟩ K=ex s d (.box x) K:=id rfl
@[simp↓] theorem Mr (d:Option Nat) (gd:Option (Nat×Bool)) (mg:Bool) (o:Bool) (sz:Nat) (z:PV) (n:Nat) (ps:List (Nat×AX)) (K:St->Prop):kG P s ⟨d,gd,mg,.buildSlice o sz z n ps⟩ K=ex s d (.buildSlice o sz z n ps) K:=id rfl
@[simp↓] theorem OX (d:Option Nat) (gd:Option (Nat×Bool)) (mg:Bool) (sz b:Nat) (z:PV) (l c:AX) (K:St->Prop):kG P s ⟨d,gd,mg,.makeSlice sz b z l c⟩ K=ex s d (.makeSlice sz b z l c) K:=id rfl
@[simp↓] theorem ZW (d:Option Nat) (gd:Option (Nat×Bool)) (mg:Bool) (w:Nat) (a x:AX) (K:St->Prop):kG P s ⟨d,gd,mg,.store w a x⟩ K=ex s d (.store w a x) K:=id rfl
@[simp↓] theorem Wl (d:Option Nat) (gd:Option (Nat×Bool)) (mg:Bool) (sz b:Nat) (st:Bool) (x y:AX) (K:St->Prop):kG P s ⟨d,gd,mg,.append sz b st x y⟩ K=ex s d (.append sz b st x y) K:=id rfl
@[simp↓] theorem ade (d:Option Nat) (gd:Option (Nat×Bool)) (mg:Bool) (sz:Nat) (x y:AX) (K:St->Prop):kG P s ⟨d,gd,mg,.copy sz x y⟩ K=ex s d (.copy sz x y) K:=id rfl
@[simp↓] theorem adf (d:Option Nat) (gd:Option (Nat×Bool)) (mg:Bool) (sz:Nat) (z:PV) (x:AX) (K:St->Prop):kG P s ⟨d,gd,mg,.fill sz z x⟩ K=ex s d (.fill sz z x) K:=id rfl
@[simp↓] theorem ZX (d:Option Nat) (gd:Option (Nat×Bool)) (mg:Bool) (x:AX) (K:St->Prop):kG P s ⟨d,gd,mg,.convL x⟩ K=ex s d (.convL x) K:=id rfl
@[simp↓] theorem adg (d:Option Nat) (gd:Option (Nat×Bool)) (mg:Bool) (f:AX) (l:List AX) (K:St->Prop):kG P s ⟨d,gd,mg,.call f l⟩ K=kF P s d f l K:=id rfl
@[simp↓] theorem ZY (d:Option Nat) (gd:Option (Nat×Bool)) (mg:Bool) (f:AX) (l:List AX) (K:St->Prop):kG P s ⟨d,gd,mg,.callq f l⟩ K=mI P s d f l K:=id rfl
end Go.Ab
namespace Go.Ab
variable [eg]
variable {P:Program} {s:St}
theorem G0 {d:Option Nat} {f:FuncId} {args:List PV} {R:PV->Prop} {K:St->Prop} (hA:ah P f args [] (λr fp=>R r∧fp=[])) (hp:aB args) (hr:∀r,R r->Pure r) (h:∀r,R r->K (s.put d r)):
  ∃ks os,sM P s d f args ks os K:=by
 refine⟨[],[],[],(λr fp=>R r∧fp=[]),rfl,by simp,by simp,hp.refs _,rfl,?_,?_⟩
 ·rw[hp.aF];exact hA
 ·rintro r fp ⟨hR,rfl⟩
  refine⟨⟨rfl,(hr r hR).refs _,rfl⟩,?_⟩
  rw[(hr r hR).aF]
  exact h r hR
theorem JS {d:Option Nat} {f:FuncId} {args:List PV} {sz:Nat} {R:List PV->Prop} {K:St->Prop} (o:Nat) (hA:ah P f args [] (λr fp=>∃l,R l∧r= .rs KB [] 0 l.length l.length sz .tip∧fp=[.arr sz l])) (hp:aB args) (ho:get s.bx o=none)
  (hl:∀l,R l->aB l) (h:∀l,R l->K ({s with bx:=put s.bx o (.arr sz l)}.put d (.rs o [] 0 l.length l.length sz .tip))):∃ks os,sM P s d f args ks os K:=by
 refine⟨[],[o],[],(λr fp=>∃l,R l∧r= .rs KB [] 0 l.length l.length sz .tip∧fp=[.arr sz l]),rfl,by simp,by simpa using ho,hp.refs _,rfl,?_,?_⟩
 ·rw[hp.aF];exact hA
 ·rintro r fp ⟨l,hR,rfl,rfl⟩
  have qZ:=hl l hR
  have e:eO [o] KB=o:=by simp[eO]
  refine⟨⟨rfl,by simp[ab,fR],by simp[af,qZ.refs]⟩,?_⟩
  simpa[bC,a0,qZ.aF,aF,e]using h l hR
end Go.Ab
namespace Go.Ab
variable [eg]
variable {P:Program} {s:St} {g:Bool} [iE]
attribute [simp↓] V5 P8 V6 GU Wa V8 V9 Wb oe aoK si P9 Me acS Qa ER ES Qb Mh JN acW
 EU GV GW GX Mk Ml Tz Mm Mn Qg ac0 zT zV Qh Mo JP GY JQ JR
 Qi Qj EV Ql Qm Qn Qo aoY Qq Wh
inductive Tg {α:Sort _} (a:α):Type
 |mk
def al (P:Program) (s:St) (d:Option Nat) (f:FuncId) (args:List PV) (K:St->Prop) (_:Tg K):Prop:=∃ks os,sM P s d f args ks os K
def a8 (P:Program) (s:St) (d:Option Nat) (f:FuncId) (args:List PV) (K:St->Prop) (_:Tg K):Prop:=
 ∃v,(ae (λ_=>false) args=true∧ab (λ_=>false) v=true)∧ah P f args [] (λr fp=>r=v∧fp=[])∧K (s.put d v)
def yS (s:St) (d:Option Nat) (l:Nat) (args:List PV) (K:St->Prop) (_:Tg K):Prop:=Gu s d l args K
def Ms (P:Program) (s:St) (d:Option Nat) (K:St->Prop) (t:Tg K) (args:List PV):PV->Prop
 | .fn (.func fid) first cap=>al P s d fid (first++args++cap) K t
 | .fn (.yield l) [] []=>yS s d l args K t
 |_=>False
def Mt (P:Program) (s:St) (d:Option Nat) (K:St->Prop) (t:Tg K) (args:List PV):PV->Prop
 | .fn (.func fid) first cap=>a8 P s d fid (first++args++cap) K t
 |_=>False
@[simp↓] theorem ZZ (d:Option Nat) (K:St->Prop) (t:Tg K) (l a b:List PV) (f:FuncId):Ms P s d K t l (.fn (.func f) a b)=al P s d f (a++l++b) K t:=_root_.id rfl
@[simp↓] theorem aaa (d:Option Nat) (K:St->Prop) (t:Tg K) (l a b:List PV) (f:FuncId):Mt P s d K t l (.fn (.func f) a b)=a8 P s d f (a++l++b) K t:=_root_.id rfl
@[simp↓] theorem amg (d:Option Nat) (f:AX) (args:List AX) (K:St->Prop):kF P s d f args K=gN true (vx s f) λpf=>s8 true s args λps=>Ms P s d K .mk ps pf:=by
 rw[Qp];congr 1
@[simp↓] theorem amh (d:Option Nat) (f:AX) (args:List AX) (K:St->Prop):mI P s d f args K=gN true (vx s f) λpf=>s8 true s args λps=>Mt P s d K .mk ps pf:=by
 simp only[mI,jC];congr 1
@[simp↓] theorem ayQ (n:Nat):vx s (.t n)=(get s.env n).getD .un:=_root_.id rfl
@[simp↓] theorem ayR (p:PV):vx s (.c p)=p:=_root_.id rfl
@[simp↓] theorem get_nil {α:Type} (n:Nat):get ([]:List (Nat×α)) n=none:=_root_.id rfl
@[simp↓] theorem adh {α:Type} (k n:Nat) (v:α) (r:List (Nat×α)):get ((k,v)::r) n=if k=n then some v else get r n:=_root_.id rfl
@[simp↓] theorem ami {α:Type} (n:Nat) (x:α):put [] n x=[(n,x)]:=_root_.id rfl
@[simp↓] theorem adi {α:Type} (k n:Nat) (v x:α) (r:List (Nat×α)):put ((k,v)::r) n x=if k=n then(n,x)::r else if n<k then(n,x)::(k,v)::r else(k,v)::put r n x:=_root_.id rfl
@[simp↓] theorem Wm (d:Nat) (p:PV):s.put (some d) p= {s with env:=put s.env d p}:=_root_.id rfl
@[simp↓] theorem Wn (p:PV):s.put none p=s:=_root_.id rfl
@[simp↓] theorem amj (K:St->Prop):GB P s [] K=K s:=_root_.id rfl
@[simp↓] theorem adj (o:AO) (l:List AO) (K:St->Prop):GB P s (o::l) K=im P s o λs'=>GB P s' l K:=_root_.id rfl
def jx (P:Program) (x:cU) (Q:Exit->St->Prop) (_:Tg (x,Q)) (s:St):Prop:=Lp (λQ s=>aw P x Q s) Q s
def TD (P:Program) (x y:cU) (Q:Exit->St->Prop) (_:Tg (x,y,Q)) (s:St):Prop:=Md (λQ s=>aw P x Q s) (λQ s=>aw P y Q s) Q s
def RgS (P:Program) (ps:List Nat) (x y:cU) (Q:Exit->St->Prop) (_:Tg (x,y,Q)) (s:St):PV->Prop
 | .fn (.func fid) [] cap=>GM P (λQ s=>aw P x Q s) (λQ s=>aw P y Q s) s fid cap ps λs'=>Q .normal s'
 |_=>False
def adk (n:Nat) (R:List a9->Prop) (_:Tg R) (s:St):Prop:=acH n R s
def aL (n:Nat) (res:List AK) (R:PV->List a9->Prop) (_:Tg R) (s:St):Prop:=Mc n res R s
theorem aA (c:cU) (Q:Exit->St->Prop):aw P (lk c) Q s=aw P c Q s:=by rw[P7]
@[simp↓] theorem amk (Q:Exit->St->Prop):aw P .skip Q s=Q .normal s:=_root_.id rfl
@[simp↓] theorem aab (l:List AO) (Q:Exit->St->Prop):aw P (.region l) Q s=GB P s l (Q .normal):=_root_.id rfl
@[simp↓] theorem ao2 (x y:cU) (Q:Exit->St->Prop):aw P (.seq x y) Q s=aw P x (yl Q λs'=>aw P y Q s') s:=_root_.id rfl
@[simp↓] theorem aml (n:Nat) (v:PV) (e:List (Nat×PV)) (b:List (Nat×a9)) (c:AX) (x y:cU) (Q:Exit->St->Prop):aw P (.cond c x y) Q ⟨(n,v)::e,b⟩=Wd (aw P x Q ⟨(n,v)::e,b⟩) (aw P y Q ⟨(n,v)::e,b⟩) (vx ⟨(n,v)::e,b⟩ c):=We c x y Q
@[simp↓] theorem avC (n:Nat) (v:PV) (e:List (Nat×PV)) (b:List (Nat×a9)) (d:Option Nat) (mg:Bool) (k:AK) (K:St->Prop):im P ⟨(n,v)::e,b⟩ ⟨d,none,mg,k⟩ K=kG P ⟨(n,v)::e,b⟩ ⟨d,none,mg,k⟩ K:=_root_.id rfl
@[simp↓] theorem ao3 (b:List (Nat×a9)) (d:Option Nat) (mg:Bool) (k:AK) (K:St->Prop):im P ⟨[],b⟩ ⟨d,none,mg,k⟩ K=kG P ⟨[],b⟩ ⟨d,none,mg,k⟩ K:=_root_.id rfl
@[simp↓] theorem avD (n:Nat) (v:PV) (e:List (Nat×PV)) (b:List (Nat×a9)) (d:Option Nat) (sl:Nat) (want mg:Bool) (k:AK) (K:St->Prop):im P ⟨(n,v)::e,b⟩ ⟨d,some (sl,want),mg,k⟩ K=
  xI want mg (λg=>ev g ⟨(n,v)::e,b⟩ k λp=>K (St.put ⟨(n,v)::e,b⟩ d (.gd g p))) (kG P ⟨(n,v)::e,b⟩ ⟨d,some (sl,want),mg,k⟩ K) (K (St.put ⟨(n,v)::e,b⟩ d .un)) ((get ((n,v)::e) sl).getD .un):=Qk d sl want mg k K
@[simp↓] theorem adl (id:Nat) (x:cU) (Q:Exit->St->Prop):aw P (.block id x) Q s=aw P x (L6 id Q) s:=_root_.id rfl
@[simp↓] theorem amm (x:cU) (Q:Exit->St->Prop):aw P (.loop x) Q s=jx P x Q .mk s:=_root_.id rfl
@[simp↓] theorem amn (x y:cU) (Q:Exit->St->Prop):aw P (.seqm x y) Q s=TD P x y Q .mk s:=_root_.id rfl
@[simp↓] theorem amo (id:Nat) (Q:Exit->St->Prop):aw P (.exit id) Q s=Q (.exit id) s:=_root_.id rfl
@[simp↓] theorem ao4 (Q:Exit->St->Prop):aw P .ret Q s=Q .ret s:=_root_.id rfl
@[simp↓] theorem Wo (Q:Exit->St->Prop) (K:St->Prop):yl Q K .normal s=K s:=_root_.id rfl
@[simp↓] theorem amp (Q:Exit->St->Prop) (K:St->Prop):yl Q K .ret s=Q .ret s:=_root_.id rfl
@[simp↓] theorem adm (Q:Exit->St->Prop) (K:St->Prop) (i:Nat):yl Q K (.exit i) s=Q (.exit i) s:=_root_.id rfl
@[simp↓] theorem Wp (Q:Exit->St->Prop) (i:Nat):L6 i Q .normal s=Q .normal s:=_root_.id rfl
@[simp↓] theorem amq (Q:Exit->St->Prop) (i:Nat):L6 i Q .ret s=Q .ret s:=_root_.id rfl
@[simp↓] theorem adn (Q:Exit->St->Prop) (i j:Nat):L6 i Q (.exit j) s=if j=i then Q .normal s else Q (.exit j) s:=_root_.id rfl
@[simp↓] theorem ado (n:Nat) (res:List AK) (R:PV->List a9->Prop):ends n res R .ret s=aL n res R .mk s:=_root_.id rfl
@[simp↓] theorem TE (n:Nat) (res:List AK) (R:PV->List a9->Prop):ends n res R .normal s=aL n res R .mk s:=_root_.id rfl
@[simp↓] theorem adp (K:St->Prop):gV [] s K=K s:=_root_.id rfl
@[simp↓] theorem fx (c:Cut) (r:List Cut) (K:St->Prop):gV (c::r) s K=jo c s λs'=>gV r s' K:=_root_.id rfl
@[simp↓] theorem aac (sl:List Nat) (K:St->Prop):jo (.keep sl) s K=K {s with env:=j6 sl s.env}:=_root_.id rfl
def Wq (s:St) (n k len aC sz:Nat) (K:St->Prop):a9->Prop
 | .arr bB l=>(bB=sz∧aC=l.length)∧∀c j:Nat,(c=l.length+j∨(c=0∧j=0∧len=0))->
    K {env:=put s.env n (.rs k [] 0 len (l.length+j) sz (.full c)),bx:=put s.bx k (.arr sz (l++List.replicate j (H5 sz)))}
 |_=>False
def Wr (s:St) (n:Nat) (K:St->Prop):PV->Prop
 | .rs k [] 0 len aC sz .tip=>dm (get s.bx k) (Wq s n k len aC sz K)
 |_=>False
@[simp↓] theorem amr (n k len aC sz:Nat) (K:St->Prop):Wr s n K (.rs k [] 0 len aC sz .tip)=dm (get s.bx k) (Wq s n k len aC sz K):=_root_.id rfl
@[simp↓] theorem adq (n k len aC sz bB:Nat) (l:List PV) (K:St->Prop):Wq s n k len aC sz K (.arr bB l)=((bB=sz∧aC=l.length)∧∀c j:Nat,(c=l.length+j∨(c=0∧j=0∧len=0))->
    K {env:=put s.env n (.rs k [] 0 len (l.length+j) sz (.full c)),bx:=put s.bx k (.arr sz (l++List.replicate j (H5 sz)))}):=_root_.id rfl
@[simp↓] theorem ams (n:Nat) (K:St->Prop):jo (.mt n) s K=dm (get s.env n) (Wr s n K):=by
 simp only[jo,ZG]
 cases get s.env n with
 |none=>rfl
 |
  some p=>
  cases p<;>try rfl
  rename_i k pth off len aC sz c
  cases pth<;>try rfl
  cases off<;>try rfl
  cases c<;>try rfl
  simp only[dm,Wr]
  cases get s.bx k with
  |none=>rfl
  |some b=>cases b<;>rfl
def adr (s:St) (k:Nat) (K:St->Prop):a9->Prop
 | .box v=>K {s with bx:=put s.bx k (.box (wk v))}
 |_=>False
@[simp↓] theorem ads (k:Nat) (K:St->Prop) (v:PV):adr s k K (.box v)=K {s with bx:=put s.bx k (.box (wk v))}:=_root_.id rfl
@[simp↓] theorem amt (k:Nat) (K:St->Prop):jo (.wb k) s K=dm (get s.bx k) (adr s k K):=by
 simp only[jo,ZI]
 cases get s.bx k with
 |none=>rfl
 |some b=>cases b<;>rfl
def vbP (s:St) (b k sz:Nat) (w:Option PV) (K:St->Prop):PV->Prop
 | .sl _ [] true=>dm w λv'=>(get s.bx k=none∧0<sz)∧K {s with bx:=put (put s.bx k (.arr sz [])) b (.box v')}
 |_=>False
@[simp↓] theorem ao5 (b k sz z:Nat) (w:Option PV) (K:St->Prop):vbP s b k sz w K (.sl z [] true)=dm w λv'=>(get s.bx k=none∧0<sz)∧K {s with bx:=put (put s.bx k (.arr sz [])) b (.box v')}:=_root_.id rfl
def vbK (s:St) (b:Nat) (p:List Step) (k sz:Nat) (K:St->Prop):a9->Prop
 | .box v=>dm (aQ v p) (vbP s b k sz (dD v p (.rs k [] 0 0 0 sz .tip)) K)
 |_=>False
@[simp↓] theorem amu (b:Nat) (p:List Step) (k sz:Nat) (v:PV) (K:St->Prop):vbK s b p k sz K (.box v)=dm (aQ v p) (vbP s b k sz (dD v p (.rs k [] 0 0 0 sz .tip)) K):=_root_.id rfl
@[simp↓] theorem amv (b:Nat) (p:List Step) (k sz:Nat) (K:St->Prop):jo (.vb b p k sz) s K=dm (get s.bx b) (vbK s b p k sz K):=by
 simp only[jo,ZJ]
 cases get s.bx b with
 |none=>rfl
 |
  some x=>
  cases x with
  |arr _ _=>rfl
  |map b ks vs l=>rfl
  |
   box v=>
   simp only[dm,vbK]
   cases h1:aQ v p with
   |none=>cases dD v p (.rs k [] 0 0 0 sz .tip)<;>rfl
   |
    some u=>
    cases h2:dD v p (.rs k [] 0 0 0 sz .tip)with
    |
     none=>
     simp only[vbP]
     split<;>simp_all
    |
     some v'=>
     simp only[vbP]
     split<;>simp_all
@[simp↓] theorem amw (n:Nat) (K:St->Prop):jo (.wk n) s K=dm (get s.env n) λp=>K {s with env:=put s.env n (wk p)}:=by
 simp only[jo,ZH];cases get s.env n<;>rfl
def fzK (s:St) (k:Nat) (K:St->Prop):a9->Prop
 | .arr sz l=>(ae (λj=>decide (j≠k)) l=true∧k<KB)∧K {env:=iq (gh k sz l) s.env,bx:=iq (tj k sz l) (del s.bx k)}
 |_=>False
@[simp↓] theorem amx (k sz:Nat) (l:List PV) (K:St->Prop):fzK s k K (.arr sz l)=((ae (λj=>decide (j≠k)) l=true∧k<KB)∧K {env:=iq (gh k sz l) s.env,bx:=iq (tj k sz l) (del s.bx k)}):=_root_.id rfl
@[simp↓] theorem amy (k:Nat) (K:St->Prop):jo (.fz k) s K=dm (get s.bx k) (fzK s k K):=by
 simp only[jo,VV];cases get s.bx k with
 |none=>rfl
 |some b=>cases b<;>rfl
def mvK (s:St) (k k':Nat) (K:St->Prop) (b:a9):Prop:=(get s.bx k'=none∧k<KB∧k'<KB∧k≠k')∧K {env:=iq (aF (tk k k')) s.env,bx:=put (iq (a0 (tk k k')) (del s.bx k)) k' (a0 (tk k k') b)}
@[simp↓] theorem amz (k k':Nat) (K:St->Prop):jo (.mv k k') s K=dm (get s.bx k) (mvK s k k' K):=by
 simp only[jo,VX];cases get s.bx k<;>rfl
@[simp↓] theorem avG (k k':Nat) (K:St->Prop) (b:a9):mvK s k k' K b=((get s.bx k'=none∧k<KB∧k'<KB∧k≠k')∧K {env:=iq (aF (tk k k')) s.env,bx:=put (iq (a0 (tk k k')) (del s.bx k)) k' (a0 (tk k k') b)}):=_root_.id rfl
@[simp↓] theorem amA (k:Nat) (K:St->Prop):jo (.dr k) s K=((bL (λj=>decide (j≠k)) s.env=true∧cL (λj=>decide (j≠k)) (del s.bx k)=true∧k<KB)∧K {s with bx:=del s.bx k}):=_root_.id rfl
def vtK (s:St) (n k sz:Nat) (K:St->Prop):PV->Prop
 | .sl _ [] true=>(get s.bx k=none∧0<sz)∧K {env:=put s.env n (.rs k [] 0 0 0 sz .tip),bx:=put s.bx k (.arr sz [])}
 |_=>False
@[simp↓] theorem ao7 (n k sz z:Nat) (K:St->Prop):vtK s n k sz K (.sl z [] true)=((get s.bx k=none∧0<sz)∧K {env:=put s.env n (.rs k [] 0 0 0 sz .tip),bx:=put s.bx k (.arr sz [])}):=_root_.id rfl
@[simp↓] theorem amB (n k sz:Nat) (K:St->Prop):jo (.vt n k sz) s K=dm (get s.env n) (vtK s n k sz K):=by
 simp only[jo,VW];cases get s.env n with
 |none=>rfl
 |
  some p=>
  cases p with
  |sl z l c=>cases l<;>cases c<;>rfl
  |_=>rfl
@[simp] theorem avI {n:Nat} (h:n<9000):n<KB:=h
@[simp↓] theorem amC (K:List PV->Prop):EO s [] K=K []:=_root_.id rfl
@[simp↓] theorem adu (k:AK) (r:List AK) (K:List PV->Prop):EO s (k::r) K=ev true s k λp=>EO s r λps=>K (p::ps):=_root_.id rfl
@[simp↓] theorem TG:eD 0=[]:=_root_.id rfl
@[simp↓] theorem Ws (bx:List (Nat×a9)):getAll bx []=some []:=_root_.id rfl
@[simp↓] theorem aad (p:PV):fa [p]=p:=_root_.id rfl
@[simp↓] theorem JT (p q:PV) (l:List PV):fa (p::q::l)= .tup (p::q::l):=_root_.id rfl
theorem aL.plain {res:List AK} {R:PV->List a9->Prop} {t:Tg R} (c:List Cut) (h:gV c s λs'=>EO s' res λps=>(ps.all PV.flat=true∧aB ps)∧R (fa ps) []):aL 0 res R t s:=by
 refine⟨c,[],?_⟩
 have hm:∀(c:List Cut) (s:St) (K K':St->Prop),(∀s,K s->K' s)->gV c s K->gV c s K':=by
  intro c
  induction c with
  |nil=>intro s K K' h hk;exact h s hk
  |
   cons x c ih=>
   intro s K K' h hk
   cases x with
   |fz k=>simp only[fx,jo,VV]at hk⊢;split at hk<;>simp_all;exact ih _ _ _ (λs hs=>h s hs) hk.2
   |dr k=>simp only[fx,jo,dr1]at hk⊢;exact⟨hk.1,ih _ _ _ h hk.2⟩
   |keep sl=>simp only[fx,jo]at hk⊢;exact ih _ _ _ h hk
   |vt n k z=>simp only[fx,jo,VW]at hk⊢;split at hk<;>simp_all;exact ih _ _ _ (λs hs=>h s hs) hk.2
   |wk n=>simp only[fx,jo,ZH]at hk⊢;split at hk<;>simp_all;exact ih _ _ _ (λs hs=>h s hs) hk
   |wb n=>simp only[fx,jo,ZI]at hk⊢;split at hk<;>simp_all;exact ih _ _ _ (λs hs=>h s hs) hk
   |vb n p k z=>simp only[fx,jo,ZJ]at hk⊢;split at hk<;>simp_all;split at hk<;>simp_all;exact ih _ _ _ (λs hs=>h s hs) hk.2
   |
    mv k k'=>
    simp only[fx,jo,VX]at hk⊢
    split at hk
    ·exact⟨hk.1,ih _ _ _ h hk.2⟩
    ·exact hk.elim
   |
    mt n=>
    simp only[fx,jo,ZG]at hk⊢
    split at hk
    ·split at hk
     ·exact⟨hk.1,λc j e=>ih _ _ _ h (hk.2 c j e)⟩
     ·exact hk.elim
    ·exact hk.elim
 have VA:∀(k:AK) (s:St) (K K':PV->Prop),(∀p,K p->K' p)->ev true s k K->ev true s k K':=by
  intro k s K K' h hk
  obtain⟨p,h1,h2⟩:=qN true s k K hk
  exact h2 K' (h p h1)
 have Zg:∀(l:List AK) (s:St) (K K':List PV->Prop),(∀p,K p->K' p)->EO s l K->EO s l K':=by
  intro l
  induction l with
  |nil=>intro s K K' h hk;exact h _ hk
  |cons x l ih=>intro s K K' h hk;exact VA _ _ _ _ (λp hp=>ih _ _ _ (λq hq=>h _ hq) hp) hk
 refine hm _ _ _ _ (λs' A7=>Zg _ _ _ _ (λps tU=> ?_) A7) h
 obtain⟨⟨h1,h2⟩,h3⟩:=tU
 have hp:Pure (fa ps):=by
  match ps,h2 with
  |[],h2=>exact Pure.of rfl
  |[p],h2=>exact h2.forget p (by simp)
  |p::q::l,h2=>exact Pure.of (by simp only[JT,ab];exact h2.refs _)
 refine⟨[],⟨rfl,by simp,rfl⟩,⟨h1,hp.refs _,rfl⟩,?_⟩
 rw[hp.aF];exact h3
end Go.Ab
namespace Go.Ab
variable [eg]
variable {P:Program} {s:St} [iE]
theorem EW:∀ {l:List AO} {s:St} {K K':St->Prop},(∀p,K p->K' p)->GB P s l K->GB P s l K'
 |[],s,K,K',h,hk=>h _ hk
 |o::l,s,K,K',h,hk=>eV (λs' A7=>EW h A7) hk
theorem zX {W:List Nat} {f:Bool} {o:AO} {K K':St->Prop} (h:∀p,K p->K' p) (hk:jv P W f s o K):jv P W f s o K':=by
 unfold jv at hk⊢
 split at hk
 ·split at hk
  ·rename_i h1 h2;rw[if_pos h1,if_pos h2];exact eV (λt ht=>h _ ht) hk
  ·rename_i h1 h2;rw[if_pos h1,if_neg h2];exact eV h hk
 ·rename_i h1;rw[if_neg h1];exact eV (λt ht=>⟨ht.1,h _ ht.2⟩) hk
theorem sj {aos:List AO} {fl:Nat->Bool} {W:List Nat}:∀ {l:List Nat} {s:St} {K K':St->Prop},(∀p,K p->K' p)->iT P aos fl W s l K->iT P aos fl W s l K'
 |[],s,K,K',h,hk=>h _ hk
 |
  i::l,s,K,K',h,hk=>by
  simp only[iT]at hk⊢
  split at hk
  ·exact⟨hk.1,zX (λt ht=>sj h ht) hk.2⟩
  ·exact hk.elim
theorem Io:∀ {c:cU} {s:St} {Q Q':Exit->St->Prop},(∀e s,Q e s->Q' e s)->aw P c Q s->aw P c Q' s:=by
 have Zh:∀ {Q Q':Exit->St->Prop} {K K':St->Prop},(∀e s,Q e s->Q' e s)->(∀s,K s->K' s)->∀e s,yl Q K e s->yl Q' K' e s:=by
  intro Q Q' K K' h hk e s he
  cases e<;>first|exact hk _ he|exact h _ _ he
 intro c
 induction c with
 |skip=>intro s Q Q' h hk;exact h _ _ hk
 |region l=>intro s Q Q' h hk;exact EW (h .normal) hk
 |regionD l o u=>intro s Q Q' h hk;obtain⟨W,hk⟩:=hk;exact⟨W,sj (h .normal) hk⟩
 |regionE l a p q b u=>intro s Q Q' h hk;obtain⟨W,hk⟩:=hk;exact⟨W,uD (λt ht=>⟨sj (h .normal) ht.1,sj (h .normal) ht.2⟩) hk⟩
 |seq x y ihx ihy=>intro s Q Q' h hk;exact ihx (Zh h λs hs=>ihy h hs) hk
 |
  cond c x y ihx ihy=>
  intro s Q Q' h hk
  simp only[aw]at hk⊢
  split at hk
  ·exact⟨λe=>ihx h (hk.1 e),λe=>ihy h (hk.2 e)⟩
  ·exact⟨hk.1,λe=>ihx h (hk.2.1 e),λe=>ihy h (hk.2.2 e)⟩
  ·exact hk.elim
 |
  block id x ih=>
  intro s Q Q' h hk
  simp only[aw]at hk⊢
  refine ih (λe s he=> ?_) hk
  cases e<;>simp only[L6]at he⊢<;>first|exact h _ _ he|(split at he<;>rename_i hi<;>simp only[hi,if_true,if_false]<;>exact h _ _ he)
 |
  loop x ih=>
  intro s Q Q' h hk
  obtain⟨I,c,h1,h2⟩:=hk
  exact⟨I,c,h1,λn s hs=>ih (Zh h λs hs=>hs) (h2 n s hs)⟩
 |exit id=>intro s Q Q' h hk;exact h _ _ hk
 |ret=>intro s Q Q' h hk;exact h _ _ hk
 |
  seqm x y ihx ihy=>
  intro s Q Q' h hk
  obtain⟨M,h1,h2⟩:=hk
  exact⟨M,ihx (Zh h λs hs=>hs) h1,λs hs=>ihy h (h2 s hs)⟩
 |
  rangeF g ps x y ihx ihy=>
  intro s Q Q' h hk
  simp only[aw]at hk⊢
  split at hk
  ·obtain⟨HS,ks,bf,Y,R,h1,h2,h3,h4⟩:=hk
   exact⟨HS,ks,bf,Y,R,h1,h2,h3,λfp hR=>⟨(h4 fp hR).1,h _ _ (h4 fp hR).2⟩⟩
  ·exact hk.elim
end Go.Ab
namespace Go.Ab
variable [eg]
variable {P:Program} {s:St} [iE]
theorem iP:∀(c:List Cut) {s:St} {K K':St->Prop},(∀s,K s->K' s)->gV c s K->gV c s K'
 |[],s,K,K',h,hk=>h s hk
 |
  x::c,s,K,K',h,hk=>by
  cases x with
  |
   fz k=>
   simp only[fx,jo,VV]at hk⊢
   split at hk
   ·exact⟨hk.1,iP c h hk.2⟩
   ·exact hk.elim
  |dr k=>simp only[fx,jo,dr1]at hk⊢;exact⟨hk.1,iP c h hk.2⟩
  |keep sl=>simp only[fx,jo]at hk⊢;exact iP c h hk
  |
   vt n k z=>
   simp only[fx,jo,VW]at hk⊢
   split at hk
   ·exact⟨hk.1,iP c h hk.2⟩
   ·exact hk.elim
  |
   wk n=>
   simp only[fx,jo,ZH]at hk⊢
   split at hk
   ·exact iP c h hk
   ·exact hk.elim
  |
   wb n=>
   simp only[fx,jo,ZI]at hk⊢
   split at hk
   ·exact iP c h hk
   ·exact hk.elim
  |
   vb n p k z=>
   simp only[fx,jo,ZJ]at hk⊢
   split at hk
   ·split at hk
    ·exact⟨hk.1,iP c h hk.2⟩
    ·exact hk.elim
   ·exact hk.elim
  |
   mv k k'=>
   simp only[fx,jo,VX]at hk⊢
   split at hk
   ·exact⟨hk.1,iP c h hk.2⟩
   ·exact hk.elim
  |
   mt n=>
   simp only[fx,jo,ZG]at hk⊢
   split at hk
   ·split at hk
    ·exact⟨hk.1,λi j e=>iP c h (hk.2 i j e)⟩
    ·exact hk.elim
   ·exact hk.elim
theorem kb:∀(c d:List Cut) {s:St} {K:St->Prop},gV (c++d) s K=gV c s λs'=>gV d s' K
 |[],d,s,K=>rfl
 |
  x::c,d,s,K=>by
  simp only[List.cons_append,fx]
  congr 1;funext s'
  exact kb c d
def EY {α:Type}:List (Nat×α)->List (Nat×α)->List (Nat×α)
 |l,[]=>l
 |l,x::r=>EY (put l x.1 x.2) r
@[simp↓] theorem adv {α:Type} (l:List (Nat×α)):EY l []=l:=id rfl
@[simp↓] theorem aae {α:Type} (l r:List (Nat×α)) (x:Nat×α):EY l (x::r)=EY (put l x.1 x.2) r:=id rfl
@[simp↓] theorem aaf {α:Type} (sl:List Nat):j6 sl ([]:List (Nat×α))=[]:=id rfl
@[simp↓] theorem Wt {α:Type} (sl:List Nat) (j:Nat) (v:α) (r:List (Nat×α)):j6 sl ((j,v)::r)=if sl.contains j=true then(j,v)::j6 sl r else j6 sl r:=id rfl
@[simp↓] theorem amD {α:Type} (k:Nat):del ([]:List (Nat×α)) k=[]:=id rfl
@[simp↓] theorem adw {α:Type} (j k:Nat) (v:α) (r:List (Nat×α)):del ((j,v)::r) k=if j=k then del r k else(j,v)::del r k:=id rfl
@[simp↓] theorem adx {α:Type} (f:α->α):iq f []=[]:=id rfl
@[simp↓] theorem aag {α:Type} (f:α->α) (j:Nat) (v:α) (r:List (Nat×α)):iq f ((j,v)::r)=(j,f v)::iq f r:=id rfl
def jP (s:St) (ks:List Nat) (E:List (Nat×PV)) (B:List (Nat×a9)):St:= {env:=EY (j6 ks s.env) E,bx:=EY s.bx B}
@[simp↓] theorem ao8 (e:List (Nat×PV)) (b:List (Nat×a9)) (ks:List Nat) (E:List (Nat×PV)) (B:List (Nat×a9)):jP ⟨e,b⟩ ks E B=⟨EY (j6 ks e) E,EY b B⟩:=id rfl
theorem jx.kl {x:cU} {Q:Exit->St->Prop} {t:Tg (x,Q)} (n:Nat) (I:Nat->Prop) (ks:List Nat) (E:Nat->List (Nat×PV)) (B:Nat->List (Nat×a9)) (c0:List Cut)
  (h:gV c0 s λs0=>jP s0 ks (E 0) (B 0)=jP s0 ks [] []∧I 0∧
   (∀i,i<n->I i->∀K:St->Prop,(∀s2,jP s2 ks [] []=jP s0 ks (E (i+1)) (B (i+1))->I (i+1)->K s2)->aw P x (yl Q λs'=>∃c:List Cut,gV c s' K) (jP s0 ks (E i) (B i)))∧
   (I n->∀K:St->Prop,aw P x (yl Q K) (jP s0 ks (E n) (B n)))):jx P x Q t s:=by
 refine⟨λm st=>∃s0 i,i≤n∧m=n-i∧I i∧st=jP s0 ks (E i) (B i)∧
  (∀i,i<n->I i->∀K:St->Prop,(∀s2,jP s2 ks [] []=jP s0 ks (E (i+1)) (B (i+1))->I (i+1)->K s2)->aw P x (yl Q λs'=>∃c:List Cut,gV c s' K) (jP s0 ks (E i) (B i)))∧
   (I n->∀K:St->Prop,aw P x (yl Q K) (jP s0 ks (E n) (B n))),c0++[.keep ks],?_,?_⟩
 ·rw[kb]
  refine iP c0 (λs0 hs=> ?_) h
  obtain⟨h1,h2,h3,h4⟩:=hs
  exact⟨n,s0,0,by omega,by omega,h2,by rw[h1];rfl,h3,h4⟩
 ·rintro m st ⟨s0,i,hi,rfl,hI,rfl,h3,h4⟩
  by_cases fZ:i<n
  ·have Zi:∀(K:St->Prop) s',(∃c:List Cut,gV c s' λs2=>gV [.keep ks] s2 K)->∃c:List Cut,gV c s' K:=λK s' ⟨c,hc⟩=>⟨c++[.keep ks],by rw[kb];exact hc⟩
   have:=h3 i fZ hI (λs2=>gV [.keep ks] s2 λs'=>∃m,m<n-i∧∃s0 i,i≤n∧m=n-i∧I i∧s'=jP s0 ks (E i) (B i)∧
    (∀i,i<n->I i->∀K:St->Prop,(∀s2,jP s2 ks [] []=jP s0 ks (E (i+1)) (B (i+1))->I (i+1)->K s2)->aw P x (yl Q λs'=>∃c:List Cut,gV c s' K) (jP s0 ks (E i) (B i)))∧
    (I n->∀K:St->Prop,aw P x (yl Q K) (jP s0 ks (E n) (B n))))
    (λs2 e hI'=>⟨n-(i+1),by omega,s0,i+1,by omega,rfl,hI',by rw[←e];rfl,h3,h4⟩)
   refine Io (λe s' he=> ?_) this
   cases e with
   |normal=>exact Zi _ _ he
   |_=>exact he
  ·have w7:i=n:=by omega
   subst w7
   exact h4 hI _
end Go.Ab
namespace Go.Ab
variable [eg]
variable {P:Program} {s:St} [iE]
theorem og {p:PV}:Pure p↔ab (λ_=>false) p=true:=⟨λh=>h.refs _,Pure.of⟩
theorem nQ {l:List PV}:aB l↔ae (λ_=>false) l=true:=⟨λh=>h.refs _,aB.of⟩
@[simp] theorem ady (k:IntKind) (n:Int):Pure (.int k n):=Pure.of rfl
@[simp] theorem amE (b:Bool):Pure (.bl b):=Pure.of rfl
@[simp] theorem adz (b:List UInt8):Pure (.str b):=Pure.of rfl
@[simp] theorem amF:Pure .un:=Pure.of rfl
@[simp] theorem amG (b:UInt8):Pure (u8 b):=Pure.of rfl
@[simp] theorem amH (z:Nat) (l:List PV) (c:Bool):Pure (.sl z l c)↔aB l:=by simp only[og,nQ,ab]
@[simp] theorem amI (z:Nat) (l:List PV):Pure (.st z l)↔aB l:=by simp only[og,nQ,ab]
@[simp] theorem amJ (z n:Nat) (l:List PV):Pure (.ar z n l)↔aB l:=by simp only[og,nQ,ab]
@[simp] theorem adA (l:List PV):Pure (.tup l)↔aB l:=by simp only[og,nQ,ab]
@[simp] theorem amK (b:Bool) (p:PV):Pure (.gd b p)↔Pure p:=by simp only[og,ab]
@[simp] theorem amL (f:Fn) (a b:List PV):Pure (.fn f a b)↔aB a∧aB b:=by simp only[og,nQ,ab,aJ]
@[simp] theorem lA:aB []:=aB.of rfl
@[simp] theorem qA (p:PV) (l:List PV):aB (p::l)↔Pure p∧aB l:=by simp only[og,nQ,ae,aJ]
@[simp] theorem nE (l m:List PV):aB (l++m)↔aB l∧aB m:=by induction l<;>simp[*,and_assoc]
@[simp] theorem Wu {l:List PV} (h:aB l) (n:Nat):aB (l.take n):=h.take n
@[simp] theorem Wv {l:List PV} (h:aB l) (n:Nat):aB (l.drop n):=h.drop n
@[simp] theorem bZ {α:Type} {e:α->PV} (h:∀x,Pure (e x)) (l:List α):aB (l.map e):=aB.map h l
@[simp] theorem xJ {p:PV} (h:Pure p) (n:Nat):aB (List.replicate n p):=aB.mk' λq hq=>by rw[(List.mem_replicate.1 hq).2];exact h
@[simp] theorem aah {l:List PV} {p:PV} (h:aB l) (hp:Pure p) (n:Nat):aB (l.set n p):=aB.mk' λq hq=>by rcases List.mem_or_eq_of_mem_set hq with h'|h';exact h.forget q h';rw[h'];exact hp
@[simp] theorem adB {p:PV} (h:Pure p) (k z:Nat) (l:List PV):gh k z l p=p:=h.gh k z l
@[simp] theorem aai {p:List PV} (h:aB p) (k z:Nat) (l:List PV):gW k z l p=p:=h.gh k z l
@[simp] theorem ao9 (k z k' off len aC z':Nat) (l0:List PV) (p:List Step) (c:jb):gh k z l0 (.rs k' p off len aC z' c)=if k'=k then(if aC=l0.length∧p=[]∧z'=z∧off+len≤l0.length then .sl z ((l0.drop off).take len) (decide (c= .clip))else .un)else .rs k' p off len aC z' c:=by simp[gh]
@[simp] theorem apa (k z k' aC:Nat) (l0:List PV) (p:List Step):gh k z l0 (.pt k' p aC)=if k'=k then(if aC=l0.length then .fp z l0 p else .un)else .pt k' p aC:=by simp[gh]
@[simp] theorem aaj (k z:Nat) (l0:List PV) (p:PV) (l:List PV):gW k z l0 (p::l)=gh k z l0 p::gW k z l0 l:=_root_.id rfl
@[simp] theorem TH (k z:Nat) (l0 l m:List PV):gW k z l0 (l++m)=gW k z l0 l++gW k z l0 m:=by induction l<;>simp[*]
@[simp] theorem apb (k z w:Nat) (l0 l:List PV):gh k z l0 (.st w l)= .st w (gW k z l0 l):=by simp[gh]
@[simp] theorem apc (k z w:Nat) (l0 l:List PV) (c:Bool):gh k z l0 (.sl w l c)= .sl w (gW k z l0 l) c:=by simp[gh]
@[simp] theorem Mu (f:Nat->Bool) (l m:List PV):ae f (l++m)=(ae f l&&ae f m):=by induction l<;>simp[*,ae,Bool.and_assoc]
@[simp] theorem adC (k z z':Nat) (l0 l:List PV):tj k z l0 (.arr z' l)= .arr z' (gW k z l0 l):=id rfl
@[simp] theorem adD (k z:Nat) (l0:List PV) (v:PV):tj k z l0 (.box v)= .box (gh k z l0 v):=id rfl
@[simp] theorem Qs {l:List PV} (h:aB l) (f:Nat->Bool):ae f l=true:=h.refs f
@[simp] theorem TI {p:PV} (h:Pure p) (f:Nat->Bool):ab f p=true:=h.refs f
@[simp] theorem aak (f:Nat->Bool) (k:Nat) (p:List Step) (a b c d:Nat) (e:jb):ab f (.rs k p a b c d e)=f k:=by simp[ab]
@[simp] theorem aal (f:Nat->Bool) (k:Nat) (p:List Step) (a:Nat):ab f (.pt k p a)=f k:=by simp[ab]
@[simp] theorem Qt (f:Nat->Bool) (p:PV) (l:List PV):ae f (p::l)=(ab f p&&ae f l):=id rfl
@[simp] theorem TJ (f:Nat->Bool):bL f []=true:=id rfl
@[simp] theorem Qu (f:Nat->Bool) (n:Nat) (p:PV) (r:List (Nat×PV)):bL f ((n,p)::r)=(ab f p&&bL f r):=id rfl
@[simp] theorem Ww (f:Nat->Bool):cL f []=true:=id rfl
@[simp] theorem TK (f:Nat->Bool) (n:Nat) (p:a9) (r:List (Nat×a9)):cL f ((n,p)::r)=(af f p&&cL f r):=id rfl
@[simp] theorem TL (f:Nat->Bool) (z:Nat) (l:List PV):af f (.arr z l)=ae f l:=id rfl
@[simp] theorem TM (f:Nat->Bool) (v:PV):af f (.box v)=ab f v:=id rfl
@[simp] theorem avJ (z:Nat) (l:List PV) (c:Bool):wk (.sl z l c)= .sl z (jj l) false:=by simp[wk]
@[simp] theorem avK (z:Nat) (l:List PV):wk (.st z l)= .st z (jj l):=by simp[wk]
@[simp] theorem avL (z n:Nat) (l:List PV):wk (.ar z n l)= .ar z n (jj l):=by simp[wk]
@[simp] theorem apd (k:IntKind) (n:Int):wk (.int k n)= .int k n:=by simp[wk]
@[simp] theorem avM (b:Bool):wk (.bl b)= .bl b:=by simp[wk]
@[simp] theorem ape (b:List UInt8):wk (.str b)= .str b:=by simp[wk]
@[simp] theorem avN (k:Nat) (p:List Step) (a:Nat):wk (.pt k p a)= .pt k p a:=by simp[wk]
@[simp] theorem avO (k:Nat) (p:List Step) (a b c d:Nat) (e:jb):wk (.rs k p a b c d e)= .rs k p a b c d e:=by simp[wk]
@[simp] theorem avP (b:UInt8):wk (u8 b)=u8 b:=by simp[u8]
@[simp] theorem amM:jj []=[]:=id rfl
@[simp] theorem adE (p:PV) (l:List PV):jj (p::l)=wk p::jj l:=id rfl
@[simp] theorem Wx (l m:List PV):jj (l++m)=jj l++jj m:=by induction l<;>simp[*]
@[simp] theorem adF (l:List PV) (n:Nat):jj (l.take n)=(jj l).take n:=by simp only[y7,List.map_take]
@[simp] theorem adG (l:List PV) (n:Nat):jj (l.drop n)=(jj l).drop n:=by simp only[y7,List.map_drop]
@[simp] theorem Dc {α:Type} {e:α->PV} (h:∀x,wk (e x)=e x) (l:List α):jj (l.map e)=l.map e:=by rw[y7,List.map_map];congr 1;funext x;exact h x
@[simp] theorem Bi {p:PV} (h:wk p=p) (n:Nat):jj (List.replicate n p)=List.replicate n p:=by rw[y7,List.map_replicate,h]
def bI (P:Program) (f:FuncId) (args:List PV) (v:PV):Prop:=ah P f args [] (λr fp=>r=v∧fp=[])
def qV (P:Program) (f:FuncId) (args:List PV) (sz:Nat) (l:List PV):Prop:=ah P f args [] (λr fp=>r= .rs KB [] 0 l.length l.length sz .tip∧fp=[.arr sz l])
theorem gK.jj {Γ:Cx}:∀ {l:List PV} {vs:List Value},gK Γ l vs->gK Γ (Ab.jj l) vs
 |[],[],_=>trivial
 |[],_::_,h=>by simp[gK]at h
 |_::_,[],h=>by simp[gK]at h
 |p::l,v::vs,h=>by simp only[gK,Ab.jj]at h⊢;exact⟨h.1.wk,gK.jj h.2⟩
theorem ah.TN {f:FuncId} {args:List PV} {fp:List a9} {R:PV->List a9->Prop} (h:ah P f (jj args) fp R):ah P f args fp R:=
 λΓ w vs h1 h2 h3 h4=>h Γ w vs h1 h2 h3 h4.jj
theorem qV.gh {f:FuncId} {args:List PV} {sz:Nat} {l:List PV} (h:qV P f args sz l) (hl:aB l):bI P f args (.sl sz l false):=by
 refine λΓ w vs h1 h2 h3 h4=>(h Γ w vs h1 h2 h3 h4).mono ?_
 rintro e w' ⟨v,r,kP,Γ',e1,⟨rfl,rfl⟩,e3,e4,e5,e6,e7,e8⟩
 have hg:get Γ'.bx KB=some (.arr sz l):=by rw[e5,fT];simp
 have hf:=GD e4 hg (hl.refs _)
 refine⟨v,.sl sz l false,[],{Γ' with bx:=iq (tj KB sz l) (del Γ'.bx KB)},e1,⟨rfl,rfl⟩,e3,yh e4 _ (λj blk fc hb=>(e4.blk j blk hb).gh hf),?_,?_,?_,e8⟩
 ·rw[e5];simp[aG]
 ·have:=e6.gh hf
  simpa using this
 ·refine⟨e7.heap,λb hb hm=> ?_,e7.ef,e7.size,λk blk hk=> ?_⟩
  ·obtain⟨k,blk,g1,g2⟩:=hm
   rw[e5]at g1
   simp[aG]at g1
  ·rw[h3]at hk;simp[aG]at hk
theorem al.ret {d:Option Nat} {f:FuncId} {args fQ:List PV} {v:PV} {K:St->Prop} {t:Tg K} (hA:bI P f fQ v) (ha:jj args=fQ) (hp:aB args) (hv:Pure v) (h:K (s.put d v)):al P s d f args K t:=by
 subst ha
 exact G0 (R:=λr=>r=v) (ah.TN hA) hp (by rintro r rfl;exact hv) (by rintro r rfl;exact h)
theorem al.own {d:Option Nat} {f:FuncId} {args fQ:List PV} {sz:Nat} {l:List PV} {K:St->Prop} {t:Tg K} (o:Nat) (hA:qV P f fQ sz l) (ha:jj args=fQ) (hp:aB args) (hl:aB l) (ho:get s.bx o=none)
  (h:K ({s with bx:=put s.bx o (.arr sz l)}.put d (.rs o [] 0 l.length l.length sz .tip))):al P s d f args K t:=by
 subst ha
 refine JS (R:=λl'=>l'=l) o (ah.mono (ah.TN hA) ?_) hp ho (by rintro r rfl;exact hl) (by rintro r rfl;exact h)
 rintro r fp ⟨rfl,rfl⟩;exact⟨l,rfl,rfl,rfl⟩
theorem a8.ret {d:Option Nat} {f:FuncId} {args fQ:List PV} {v:PV} {K:St->Prop} {t:Tg K} (hA:bI P f fQ v) (ha:jj args=fQ) (hp:aB args) (hv:Pure v) (h:K (s.put d v)):a8 P s d f args K t:=by
 subst ha
 exact⟨v,⟨hp.refs _,hv.refs _⟩,ah.TN hA,h⟩
end Go.Ab
namespace Go.Ab
variable [eg]
variable {P:Program} {s:St} {K:PV->Prop} [iE]
@[simp↓] theorem adH (k:IntKind) (a b:Int):kr .add K (.int k a) (.int k b)=K (.int k (k.wrap (a+b))):=by simp[kr,oB]
@[simp↓] theorem adI (k:IntKind) (a b:Int):kr .sub K (.int k a) (.int k b)=K (.int k (k.wrap (a-b))):=by simp[kr,oB]
@[simp↓] theorem adJ (k:IntKind) (a b:Int):kr .mul K (.int k a) (.int k b)=K (.int k (k.wrap (a*b))):=by simp[kr,oB]
@[simp↓] theorem adK (k:IntKind) (a b:Int):kr .quo K (.int k a) (.int k b)=(b≠0∧K (.int k (k.wrap (a.tdiv b)))):=by simp[kr,oB]
@[simp↓] theorem adL (k:IntKind) (a b:Int):kr .rem K (.int k a) (.int k b)=(b≠0∧K (.int k (a.tmod b))):=by simp[kr,oB]
@[simp↓] theorem adM (k:IntKind) (a b:Int):kr .and K (.int k a) (.int k b)=K (.int k (bits .and k a b)):=by simp[kr,oB]
@[simp↓] theorem amN (k:IntKind) (a b:Int):kr .or K (.int k a) (.int k b)=K (.int k (bits .or k a b)):=by simp[kr,oB]
@[simp↓] theorem TO (k:IntKind) (a b:Int):kr .andNot K (.int k a) (.int k b)=K (.int k (bits .andNot k a b)):=by simp[kr,oB]
@[simp↓] theorem adN (k:IntKind) (a b:Int):kr .eql K (.int k a) (.int k b)=K (.bl (decide (a=b))):=by simp[kr,oB];rfl
@[simp↓] theorem adO (k:IntKind) (a b:Int):kr .neq K (.int k a) (.int k b)=K (.bl (decide (a≠b))):=by
 simp only[kr,oB,or_true,true_and]
 congr 2;by_cases h:a=b<;>simp[h]
@[simp↓] theorem adQ (k:IntKind) (a b:Int):kr .lss K (.int k a) (.int k b)=K (.bl (decide (a<b))):=by simp[kr,oB]
@[simp↓] theorem adR (k:IntKind) (a b:Int):kr .leq K (.int k a) (.int k b)=K (.bl (decide (a≤b))):=by simp[kr,oB]
@[simp↓] theorem adS (k:IntKind) (a b:Int):kr .gtr K (.int k a) (.int k b)=K (.bl (decide (b<a))):=by simp[kr,oB]
@[simp↓] theorem adT (k:IntKind) (a b:Int):kr .geq K (.int k a) (.int k b)=K (.bl (decide (b≤a))):=by simp[kr,oB]
@[simp↓] theorem adU (k k':IntKind) (a b:Int):kr .shl K (.int k a) (.int k' b)=(0≤b∧K (.int k (k.wrap (a*2^min b.toNat k.bits)))):=by simp[kr,oB]
@[simp↓] theorem adV (k k':IntKind) (a b:Int):kr .shr K (.int k a) (.int k' b)=(0≤b∧K (.int k (a.fdiv (2^min b.toNat k.bits)))):=by simp[kr,oB]
@[simp↓] theorem adW (op:BinOp) (a b:List UInt8):kr op K (.str a) (.str b)=yT op a b K:=id rfl
@[simp↓] theorem adX (a b:List UInt8):yT .add a b K=(a.length+b.length≤9223372036854775807∧K (.str (a++b))):=id rfl
@[simp↓] theorem adY (a b:List UInt8):yT .eql a b K=K (.bl (decide (a=b))):=by
 simp only[yT];congr 2;by_cases h:a=b<;>simp[h]
@[simp↓] theorem adZ (a b:List UInt8):yT .lss a b K=K (.bl (Op.bytesLess a b)):=id rfl
@[simp↓] theorem ad0 (b:Bool):s7 .eql b K=K (.bl b):=id rfl
@[simp↓] theorem ad1 (b:Bool):s7 .neq b K=K (.bl (!b)):=id rfl
@[simp↓] theorem amO (op:BinOp) (a b:Bool):acQ op K (.bl a) (.bl b)=s7 op (a==b) K:=id rfl
@[simp↓] theorem amP (b:Bool):unK .not K (.bl b)=K (.bl (!b)):=id rfl
@[simp↓] theorem amQ (sz:Nat) (K:List PV->Prop) (q:PV):Qe s sz K q=xH s (λbB ys=>(ys=[]∨bB=sz)∧K ys) q:=id rfl
@[simp↓] theorem Wy (d k len aC n sz bB bytes sz'':Nat) (ys l:List PV) (K:St->Prop):Mp s d k len aC n sz bB bytes ys K (.arr sz'' l)=((aC=l.length∧bB=sz∧sz''=sz∧len≤n∧n≤l.length∧ys≠[]∧get s.bx d=none∧(len+ys.length)*bytes≤140737488355328∧len+ys.length≤9223372036854775807)∧
    (len+ys.length≤n->K {env:=put s.env d (.rs k [] 0 (len+ys.length) aC sz (.full n)),bx:=put s.bx k (.arr sz (l.take len++ys++l.drop (len+ys.length)))})∧
    (n<len+ys.length->K {env:=put s.env d (.rs d [] 0 (len+ys.length) (len+ys.length) sz .tip),bx:=put s.bx d (.arr sz (l.take len++ys))})):=_root_.id rfl
@[simp↓] theorem amR (d k len aC n sz bB bytes sz'':Nat) (z:PV) (m:Int) (l:List PV) (K:St->Prop):apZ s d k len aC n sz bB bytes z m K (.arr sz'' l)=((get s.bx d=none∧aC=l.length∧bB=sz∧sz''=sz∧len≤n∧n≤l.length∧0<m∧n<len+m.toNat∧(len+m.toNat)*bytes≤140737488355328∧len+m.toNat≤9223372036854775807)∧
    K {env:=put s.env d (.rs d [] 0 (len+m.toNat) (len+m.toNat) sz .tip),bx:=put s.bx d (.arr sz (l.take len++List.replicate m.toNat z))}):=_root_.id rfl
@[simp↓] theorem aam (d k len aC sz bB bytes sz'':Nat) (ys l:List PV) (K:St->Prop):TA s d k len aC sz bB bytes ys K (.arr sz'' l)=((aC=l.length∧len=l.length∧bB=sz∧sz''=sz∧(l.length+ys.length)*bytes≤140737488355328∧l.length+ys.length≤9223372036854775807)∧
   K {env:=put s.env d (.rs k [] 0 (l.length+ys.length) (l.length+ys.length) sz .tip),bx:=put s.bx k (.arr sz (l++ys))}):=rfl
def Qw (off len aC sz:Nat) (p:List Step) (K:Nat->List PV->Prop):a9->Prop
 | .arr bB l=>(aC=l.length∧p=[]∧sz=bB∧off+len≤l.length)∧K sz ((l.drop off).take len)
 | .box v=>dm (aQ v p) λ
   | .ar bB n l=>(aC=0∧sz=bB∧off+len≤n)∧K sz ((l.drop off).take len)
   |_=>False
 | .map .. =>False
@[simp↓] theorem amS (K:Nat->List PV->Prop) (k off len aC sz:Nat) (p:List Step) (c:jb):xH s K (.rs k p off len aC sz c)=dm (get s.bx k) (Qw off len aC sz p K):=by
 simp only[xH];congr 1
@[simp↓] theorem ad3 (off len aC sz bB:Nat) (l:List PV) (p:List Step) (K:Nat->List PV->Prop):Qw off len aC sz p K (.arr bB l)=((aC=l.length∧p=[]∧sz=bB∧off+len≤l.length)∧K sz ((l.drop off).take len)):=id rfl
def ad4 (off len aC sz:Nat) (K:Nat->List PV->Prop):PV->Prop
 | .ar bB n l=>(aC=0∧sz=bB∧off+len≤n)∧K sz ((l.drop off).take len)
 |_=>False
@[simp↓] theorem ad5 (off len aC sz:Nat) (v:PV) (p:List Step) (K:Nat->List PV->Prop):Qw off len aC sz p K (.box v)=dm (aQ v p) (ad4 off len aC sz K):=by
 simp only[Qw];congr 1
@[simp↓] theorem amT (off len aC sz bB n:Nat) (l:List PV) (K:Nat->List PV->Prop):ad4 off len aC sz K (.ar bB n l)=((aC=0∧sz=bB∧off+len≤n)∧K sz ((l.drop off).take len)):=id rfl
@[simp↓] theorem amU (g:Bool) (sz z:Nat) (lo hi:Option AX) (l:List PV) (c:Bool):Qd s g sz lo hi K (.sl z l c)=j2 g s lo hi l.length l.length (λa b=>(z=sz)∧K (.sl sz ((l.take b).drop a) (c&&decide (b=l.length)))):=id rfl
@[simp↓] theorem amV (g:Bool) (sz z k off len aC:Nat) (p:List Step) (c:jb) (lo hi:Option AX):Qd s g sz lo hi K (.rs k p off len aC z c)=dm (get s.bx k) λblk=>(aC=blk.aC∧z=sz)∧j2 g s lo hi len (yR c off len aC) λa b=>K (.rs k p (off+a) (b-a) aC sz (CJ c a (decide (b=len)))):=_root_.id rfl
@[simp↓] theorem amW (g:Bool) (sz z:Nat) (lo hi:Option AX) (m:AX) (l:List PV) (c:Bool):Mj s g sz lo hi m K (.sl z l c)=gN g (vx s m) (rz λm=>(0≤m∧m≤l.length)∧j2 g s lo hi l.length m.toNat λa b=>(z=sz)∧K (.sl sz ((l.take b).drop a) (decide (b=m.toNat)))):=id rfl
def Wz (e:Bool):jb:=bif e then .clip else .any
@[simp] theorem apf:Wz true= .clip:=id rfl
@[simp↓] theorem amX (g:Bool) (sz z k off len aC:Nat) (p:List Step) (c:jb) (lo hi:Option AX) (m:AX):Mj s g sz lo hi m K (.rs k p off len aC z c)=dm (get s.bx k) λblk=>(aC=blk.aC∧z=sz)∧gN g (vx s m) (rz λm=>(0≤m∧m≤len)∧j2 g s lo hi len m.toNat λa b=>K (.rs k p (off+a) (b-a) aC sz (Wz (decide (b=m.toNat))))):=by
 simp only[Mj];congr 1;funext blk;congr 2;congr 1;funext m;congr 2;funext a b;by_cases h:b=m.toNat<;>simp[h,Wz]
@[simp↓] theorem apg (g:Bool) (K:Nat->Nat->Prop) (h:Nat):JO g s none K h=K 0 h:=id rfl
@[simp↓] theorem aph (g:Bool) (x:AX) (K:Nat->Nat->Prop) (h:Nat):JO g s (some x) K h=gN g (vx s x) (rz λl=>(0≤l∧l≤h)∧K l.toNat h):=id rfl
def mmC (mx:Bool) (K:PV->Prop):List PV->Prop
 | .int k a::r=>lH mx a r λn=>K (.int k n)
 |_=>False
@[simp↓] theorem amY (mx:Bool) (k:IntKind) (a:Int) (r:List PV):mmC mx K (.int k a::r)=lH mx a r λn=>K (.int k n):=id rfl
@[simp↓] theorem ayS (g mx:Bool) (xs:List AX):ev g s (.mm mx xs) K=s8 g s xs (mmC mx K):=by
 simp only[ev];congr 1
@[simp↓] theorem aan (mx:Bool) (a:Int) (K:Int->Prop):lH mx a [] K=K a:=id rfl
@[simp↓] theorem aao (a b:Int) (k:IntKind) (r:List PV) (K:Int->Prop):lH true a (.int k b::r) K=lH true (max a b) r K:=by simp[lH]
@[simp↓] theorem aap (a b:Int) (k:IntKind) (r:List PV) (K:Int->Prop):lH false a (.int k b::r) K=lH false (min a b) r K:=by simp[lH]
def WA (s:St) (K:PV->Prop):PV->Prop
 | .rs k _ _ _ aC _ (.full n)=>dm (get s.bx k) λblk=>aC=blk.aC∧K (.int .i64 n)
 |_=>False
@[simp↓] theorem aaq (k:Nat) (p:List Step) (off len aC sz n:Nat):WA s K (.rs k p off len aC sz (.full n))=dm (get s.bx k) λblk=>aC=blk.aC∧K (.int .i64 n):=_root_.id rfl
@[simp↓] theorem avR (g:Bool) (x:AX):ev g s (.cap x) K=gN g (vx s x) (WA s K):=by
 simp only[ev,jC];congr 1;funext p
 cases p<;>try rfl
 rename_i k p off len aC sz c
 cases c<;>try rfl
 simp only[WA]
 cases get s.bx k<;>rfl
@[simp↓] theorem ad6 (g:Bool) (f:Fn) (a b:List AX):ev g s (.mkFunc f a b) K=s8 g s a λps=>s8 g s b λqs=>(ps.all (λp=> !p.isAgg&&p.bj)=true∧qs.all (λp=> !p.isAgg&&p.bj)=true)∧K (.fn f ps qs):=by simp only[ev]
@[simp] theorem ge0 {α:Type} (x:α) (l:List α):(x::l)[0]? =some x:=_root_.id rfl
@[simp↓] theorem api (want:Bool) (M:Bool->Prop) (D U:Prop) (b:Bool):xI want true M D U (.bl b)=M (b==want):=id rfl
@[simp↓] theorem apj (M:Bool->Prop) (D U:Prop):xI true false M D U (.bl true)=D:=by simp[xI]
@[simp↓] theorem apk (M:Bool->Prop) (D U:Prop):xI true false M D U (.bl false)=U:=by simp[xI]
@[simp↓] theorem apl (M:Bool->Prop) (D U:Prop):xI false false M D U (.bl true)=U:=by simp[xI]
@[simp↓] theorem apm (M:Bool->Prop) (D U:Prop):xI false false M D U (.bl false)=D:=by simp[xI]
@[simp↓] theorem avS (A B:Prop):Wd A B (.bl true)=A:=by simp
@[simp↓] theorem avT (A B:Prop):Wd A B (.bl false)=B:=by simp
@[simp↓500] theorem apn (want:Bool) (M:Bool->Prop) (D U:Prop) (b:Bool):xI want false M D U (.bl b)=((b=want->D)∧(b≠want->U)):=id rfl
@[simp↓] theorem apo (want:Bool) (M:Bool->Prop) (D U:Prop) (g b:Bool):xI want true M D U (.gd g (.bl b))=M (g&&b==want):=id rfl
@[simp↓] theorem amZ (M:Bool->Prop) (D U:Prop):xI true false M D U (.gd true (.bl true))=D:=by simp[xI]
@[simp↓] theorem am0 (M:Bool->Prop) (D U:Prop):xI true false M D U (.gd true (.bl false))=U:=by simp[xI]
@[simp↓] theorem am1 (M:Bool->Prop) (D U:Prop):xI false false M D U (.gd true (.bl true))=U:=by simp[xI]
@[simp↓] theorem am2 (M:Bool->Prop) (D U:Prop):xI false false M D U (.gd true (.bl false))=D:=by simp[xI]
@[simp↓] theorem apq (w:Bool) (M:Bool->Prop) (D U:Prop) (b:Bool):xI w false M D U (.gd false (.bl b))=U:=by simp[xI]
@[simp↓] theorem ad7 (x a b:Bool):uE x K (.bl a) (.bl b)=K (.bl (bif x then a else b)):=id rfl
@[simp↓] theorem ad8 (x a g b:Bool):uE x K (.bl a) (.gd g (.bl b))=((x=false->g=true)∧K (.bl (bif x then a else b))):=id rfl
@[simp↓] theorem ad9 (x a g b:Bool):uE x K (.gd g (.bl a)) (.bl b)=((x=true->g=true)∧K (.bl (bif x then a else b))):=id rfl
@[simp↓] theorem aea (x a:Bool):uE x K (.bl a) .un=(x=true∧K (.bl a)):=id rfl
@[simp↓] theorem aeb (x a:Bool):uE x K .un (.bl a)=(x=false∧K (.bl a)):=id rfl
@[simp] theorem wrap_i64 {n:Int} (h: -9223372036854775808≤n∧n≤9223372036854775807):IntKind.i64.wrap n=n:=by
 simp only[IntKind.wrap,IntKind.bits,IntKind.signed];simp;omega
@[simp] theorem wrap_u8 {n:Int} (h:0≤n∧n≤255):IntKind.u8.wrap n=n:=by
 simp only[IntKind.wrap,IntKind.bits,IntKind.signed];simp;omega
@[simp] theorem wrap_u32 {n:Int} (h:0≤n∧n≤4294967295):IntKind.u32.wrap n=n:=by
 simp only[IntKind.wrap,IntKind.bits,IntKind.signed];simp;omega
@[simp] theorem wrap_u64 {n:Int} (h:0≤n∧n≤18446744073709551615):IntKind.u64.wrap n=n:=by
 simp only[IntKind.wrap,IntKind.bits,IntKind.signed];simp;omega
theorem xl (b:List UInt8):iA (b.map u8)=some b:=by
 induction b with
 |nil=>rfl
 |
  cons x b ih=>
  have h:(x.toNat:Int)<256:=by have:=x.toNat_lt;omega
  simp[u8,iA,ih];omega
@[simp] theorem Qx (b:List UInt8):iA (b.map u8)=some b:=xl b
@[simp↓] theorem aar (sz j s:Nat) (l:List PV) (r:List Step):mb (.arr sz l) (.i j s::r)=if s=sz then l[j]?.bind λc=>aQ c r else none:=by
 first|(simp only[mb];cases l[j]? <;>rfl)|(simp only[aQ];cases l[j]? <;>rfl)
@[simp↓] theorem aas (v:PV) (p:List Step):mb (.box v) p=aQ v p:=by cases p<;>rfl
@[simp↓] theorem aec (v:PV):aQ v []=some v:=by cases v<;>rfl
@[simp↓] theorem apr (w i o:Nat) (l:List PV) (r:List Step):aQ (.st w l) (.f i o::r)=if av (l.take i)=o then l[i]?.bind λc=>aQ c r else none:=by
 simp only[aQ];cases l[i]? <;>rfl
@[simp↓] theorem aps (sz n j s:Nat) (l:List PV) (r:List Step):aQ (.ar sz n l) (.i j s::r)=if s=sz then l[j]?.bind λc=>aQ c r else none:=by
 first|(simp only[mb];cases l[j]? <;>rfl)|(simp only[aQ];cases l[j]? <;>rfl)
@[simp↓] theorem aed (v x:PV):dD v [] x=if x.width=v.width then some x else none:=by cases v<;>rfl
@[simp↓] theorem apt (w i o:Nat) (l:List PV) (r:List Step) (x:PV):dD (.st w l) (.f i o::r) x=if av (l.take i)=o then l[i]?.bind λc=>(dD c r x).bind λc'=>some (.st w (l.set i c'))else none:=by
 simp only[dD];cases l[i]?with
 |none=>rfl
 |some c=>simp only[Option.bind_some];cases dD c r x<;>rfl
@[simp↓] theorem apu (sz n j s:Nat) (l:List PV) (r:List Step) (x:PV):dD (.ar sz n l) (.i j s::r) x=if s=sz then l[j]?.bind λc=>(dD c r x).bind λc'=>some (.ar sz n (l.set j c'))else none:=by
 simp only[dD];cases l[j]?with
 |none=>rfl
 |some c=>simp only[Option.bind_some];cases dD c r x<;>rfl
@[simp↓] theorem aat (v x:PV) (p:List Step):pv (.box v) p x=(dD v p x).bind λv'=>some (.box v'):=by
 simp only[pv];cases dD v p x<;>rfl
@[simp↓] theorem aau (sz j s:Nat) (l:List PV) (r:List Step) (x:PV):pv (.arr sz l) (.i j s::r) x=if s=sz then l[j]?.bind λc=>(dD c r x).bind λc'=>some (.arr sz (l.set j c'))else none:=by
 simp only[pv];cases l[j]?with
 |none=>rfl
 |some c=>simp only[Option.bind_some];cases dD c r x<;>rfl
@[simp] theorem am3 (z:Nat) (l:List PV) (v:PV):Ts (.arr z l) v=wk v:=id rfl
@[simp] theorem am4 (u v:PV):Ts (.box u) v=v:=id rfl
@[simp] theorem TP (z:Nat) (l:List PV):(a9.arr z l).aC=l.length:=id rfl
@[simp] theorem TQ (v:PV):(a9.box v).aC=0:=id rfl
@[simp↓] theorem Qy (l:List PV):dJ l []=some l:=id rfl
@[simp↓] theorem OY (l:List PV) (i:Nat) (p:PV) (r:List (Nat×PV)):dJ l ((i,p)::r)=l[i]?.bind λq=>if p.width=q.width∧p.bj=true then dJ (l.set i p) r else none:=by
 simp only[dJ];cases l[i]? <;>rfl
@[simp] theorem ayT (w:Nat) (l:List PV):(PV.st w l).width=w:=id rfl
@[simp] theorem ayU (sz n:Nat) (l:List PV):(PV.ar sz n l).width=n*sz:=id rfl
@[simp] theorem avU (k:IntKind) (n:Int):(PV.int k n).width=1:=id rfl
@[simp] theorem ayV (b:Bool):(PV.bl b).width=1:=id rfl
@[simp] theorem ayW (z:Nat) (l:List PV) (c:Bool):(PV.sl z l c).width=1:=id rfl
@[simp] theorem ayX (k:Nat) (p:List Step) (a b c d:Nat) (e:jb):(PV.rs k p a b c d e).width=1:=id rfl
@[simp] theorem ayY (b:UInt8):(u8 b).width=1:=id rfl
@[simp] theorem WB:av []=0:=id rfl
@[simp] theorem TR (p:PV) (l:List PV):av (p::l)=p.width+av l:=id rfl
@[simp] theorem apv (w:Nat) (l:List PV):(PV.st w l).isAgg=true:=id rfl
@[simp] theorem apw (sz n:Nat) (l:List PV):(PV.ar sz n l).isAgg=true:=id rfl
@[simp] theorem am5 (k:IntKind) (n:Int):(PV.int k n).isAgg=false:=id rfl
@[simp] theorem apx (b:Bool):(PV.bl b).isAgg=false:=id rfl
@[simp] theorem apy (z:Nat) (l:List PV) (c:Bool):(PV.sl z l c).isAgg=false:=id rfl
@[simp] theorem apz (k:Nat) (p:List Step) (a b c d:Nat) (e:jb):(PV.rs k p a b c d e).isAgg=false:=id rfl
@[simp] theorem apA (k:Nat) (p:List Step) (a:Nat):(PV.pt k p a).isAgg=false:=id rfl
@[simp] theorem apB (b:UInt8):(u8 b).isAgg=false:=id rfl
@[simp] theorem apC (w:Nat) (l:List PV):(PV.st w l).bj=true:=id rfl
@[simp] theorem apD (sz n:Nat) (l:List PV):(PV.ar sz n l).bj=true:=id rfl
@[simp] theorem am6 (k:IntKind) (n:Int):(PV.int k n).bj=true:=id rfl
@[simp] theorem apE (b:Bool):(PV.bl b).bj=true:=id rfl
@[simp] theorem apF (z:Nat) (l:List PV) (c:Bool):(PV.sl z l c).bj=true:=id rfl
@[simp] theorem apG (k:Nat) (p:List Step) (a b c d:Nat) (e:jb):(PV.rs k p a b c d e).bj=true:=id rfl
@[simp] theorem apH (k:Nat) (p:List Step) (a:Nat):(PV.pt k p a).bj=true:=id rfl
@[simp] theorem apI (f:Fn) (a b:List PV):(PV.fn f a b).bj=true:=id rfl
@[simp] theorem apJ (f:Fn) (a b:List PV):(PV.fn f a b).isAgg=false:=id rfl
@[simp] theorem am7 (w:Nat) (l:List PV):(PV.st w l).flat=true:=id rfl
@[simp] theorem am8 (sz n:Nat) (l:List PV):(PV.ar sz n l).flat=true:=id rfl
@[simp] theorem aee (k:IntKind) (n:Int):(PV.int k n).flat=true:=id rfl
@[simp] theorem am9 (b:Bool):(PV.bl b).flat=true:=id rfl
@[simp] theorem aef (b:List UInt8):(PV.str b).flat=true:=id rfl
@[simp] theorem ana (z:Nat) (l:List PV) (c:Bool):(PV.sl z l c).flat=true:=id rfl
@[simp] theorem anb (k:Nat) (p:List Step) (a b c d:Nat) (e:jb):(PV.rs k p a b c d e).flat=true:=id rfl
@[simp] theorem anc (k:Nat) (p:List Step) (a:Nat):(PV.pt k p a).flat=true:=id rfl
end Go.Ab
namespace Go.Ab
variable [eg]
variable {P:Program} {s:St} [iE]
theorem aL.with {n:Nat} {res:List AK} {R:PV->List a9->Prop} {t:Tg R} (c:List Cut) (ks:List Nat)
  (h:gV c s λs'=>EO s' res λps=>dm (getAll s'.bx ks) λbf=>(ks.Nodup∧ks.take n=eD n)∧(ps.all PV.flat=true∧ab (bg ks) (fa ps)=true∧bf.all (af (bg ks))=true)∧R (aF (aT ks) (fa ps)) (bf.map (a0 (aT ks)))):aL n res R t s:=by
 refine⟨c,ks,iP c (λs' A7=> ?_) h⟩
 have Zg:∀(l:List AK) (s:St) (K K':List PV->Prop),(∀p,K p->K' p)->EO s l K->EO s l K':=by
  intro l
  induction l with
  |nil=>intro s K K' h hk;exact h _ hk
  |cons x l ih=>intro s K K' h hk;exact yj (λp hp=>ih _ _ _ (λq hq=>h _ hq) hp) hk
 refine Zg _ _ _ _ (λps tU=> ?_) A7
 cases hg:getAll s'.bx ks with
 |none=>rw[hg]at tU;exact tU.elim
 |some bf=>rw[hg]at tU;exact⟨bf,⟨rfl,tU.1.1,tU.1.2⟩,tU.2.1,tU.2.2⟩
@[simp] theorem TS (bx:List (Nat×a9)) (k:Nat) (r:List Nat):getAll bx (k::r)=(get bx k).bind λb=>(getAll bx r).bind λl=>some (b::l):=by
 simp only[getAll];cases get bx k<;>cases getAll bx r<;>rfl
@[simp] theorem aeg {p:PV} (h:Pure p) (ρ:Nat->Nat):aF ρ p=p:=h.aF ρ
@[simp] theorem aav {p:List PV} (h:aB p) (ρ:Nat->Nat):aK ρ p=p:=h.aF ρ
@[simp] theorem apK (ρ:Nat->Nat) (k:Nat) (p:List Step) (a b c d:Nat) (e:jb):aF ρ (.rs k p a b c d e)= .rs (ρ k) p a b c d e:=by simp[aF]
@[simp] theorem apL (ρ:Nat->Nat) (k:Nat) (p:List Step) (a:Nat):aF ρ (.pt k p a)= .pt (ρ k) p a:=by simp[aF]
@[simp] theorem ane (ρ:Nat->Nat) (l:List PV):aF ρ (.tup l)= .tup (aK ρ l):=by simp[aF]
@[simp] theorem apM (ρ:Nat->Nat) (w:Nat) (l:List PV):aF ρ (.st w l)= .st w (aK ρ l):=by simp[aF]
@[simp] theorem aaw (ρ:Nat->Nat) (p:PV) (l:List PV):aK ρ (p::l)=aF ρ p::aK ρ l:=id rfl
@[simp] theorem aeh (ρ:Nat->Nat) (z:Nat) (l:List PV):a0 ρ (.arr z l)= .arr z (aK ρ l):=id rfl
@[simp] theorem aei (ρ:Nat->Nat) (v:PV):a0 ρ (.box v)= .box (aF ρ v):=id rfl
@[simp] theorem aax (k:Nat) (ks:List Nat) (j:Nat):aT (k::ks) j=((idx (k::ks) j).map (KB+·)).getD j:=by
 simp only[aT];cases idx (k::ks) j<;>rfl
@[simp] theorem aej (x:Nat) (r:List Nat) (k:Nat):idx (x::r) k=if x=k then some 0 else(idx r k).map (·+1):=by
 simp only[idx];cases idx r k<;>rfl
@[simp] theorem anf (ks:List Nat) (k:Nat):bg ks k=(idx ks k).isSome:=id rfl
@[simp] theorem WC (f:Nat->Bool) (l:List PV):ab f (.tup l)=ae f l:=by simp[ab]
@[simp] theorem aay (f:Nat->Bool) (w:Nat) (l:List PV):ab f (.st w l)=ae f l:=by simp[ab]
@[simp] theorem Qz {α β:Type} (f:α->β) (l:List α):(l.map f).take l.length=l.map f:=tJ (by simp)
@[simp] theorem OZ {α β:Type} (f:α->β) (l:List α) (x:β):(l.map f++[x]).take (l.length+1)=l.map f++[x]:=tJ (by simp)
@[simp] theorem ang {p:PV} (h:Pure p) (n:Nat):aB (zr n p):=by rw[gC];exact xJ h n
@[simp] theorem avV {p:PV} (h:wk p=p) (n:Nat):jj (zr n p)=zr n p:=by rw[gC];exact Bi h n
theorem JU (b:List UInt8):aB (b.map u8):=by simp
@[simp] theorem WD (b:List UInt8):aB (b.map u8)↔True:=iff_true_intro (JU b)
end Go.Ab
namespace Go.Ab
variable [eg]
variable {P:Program} {s:St} [iE]
def nj (P:Program) (l:List AO) (o u:List Nat) (K:St->Prop) (_:Tg K) (s:St):Prop:=∃W,iT P l u.contains W s o K
@[simp↓] theorem WE (l:List AO) (o u:List Nat) (Q:Exit->St->Prop):aw P (.regionD l o u) Q s=nj P l o u (Q .normal) .mk s:=_root_.id rfl
def kc (s:St):List (AO×Bool)->Bool
 |[]=>true
 |(x,_)::r=>(match x.gQ with|some k=>(get s.bx k).isNone|none=>true)&&kc s r
def Mv (P:Program) (W:List Nat) (s:St):List (AO×Bool)->(St->Prop)->Prop
 |[],K=>K s
 |(x,f)::r,K=>kc s ((x,f)::r)=true∧jv P W f s x λt=>Mv P W t r K
def oh (l:List AO) (u:List Nat):List Nat->Option (List (AO×Bool))
 |[]=>some []
 |i::r=>match l[i]?,oh l u r with|some x,some m=>some ((x,u.contains i)::m)|_,_=>none
theorem uF {l:List AO} {u:List Nat}:∀ {o:List Nat} {m:List (AO×Bool)},oh l u o=some m->kc s m=fU l s o
 |[],m,hm=>by simp[oh]at hm;subst hm;rfl
 |
  i::r,m,hm=>by
  simp only[oh]at hm
  split at hm
  ·rename_i x m' hx sv
   simp only[sJ]at hm;subst hm
   rw[gG]
   simp only[kc,uF sv]
   congr 1
   simp only[fU,List.all_cons,List.all_nil,Bool.and_true,hx]
   cases x.gQ<;>rfl
  ·simp at hm
theorem yp {l:List AO} {u:List Nat} {W:List Nat}:∀ {o:List Nat} {m:List (AO×Bool)} {s:St} {K:St->Prop},oh l u o=some m->Mv P W s m K->iT P l u.contains W s o K
 |[],m,s,K,hm,h=>by simp[oh]at hm;subst hm;exact h
 |
  i::r,m,s,K,hm,h=>by
  simp only[oh]at hm
  split at hm
  ·rename_i x m' hx sv
   simp only[sJ]at hm;subst hm
   have hf:kc s ((x,u.contains i)::m')=fU l s (i::r):=uF (u:=u) (by simp only[oh,hx,sv])
   simp only[iT,hx,Mv]at h⊢
   exact⟨hf▸h.1,zX (λt ht=>yp sv ht) h.2⟩
  ·simp at hm
theorem nj.of {l:List AO} {o u:List Nat} {K:St->Prop} {t:Tg K} (W:List Nat) (m:List (AO×Bool)) (hm:oh l u o=some m) (h:Mv P W s m K):nj P l o u K t s:=⟨W,yp hm h⟩
def Dd:Option a9->Bool
 |some (.box _)=>true
 |_=>false
@[simp] theorem aek (v:PV):Dd (some (.box v))=true:=_root_.id rfl
@[simp] theorem ael (sz:Nat) (l:List PV):Dd (some (.arr sz l))=false:=_root_.id rfl
def QA (W:List Nat) (c:List (Nat×a9)):List (Nat×a9)->Prop
 |[]=>True
 |(k,b)::r=>(if C7 W=true then get c k=some b∨W.contains k=true∧Dd (some b)=true∧Dd (get c k)=true else W.contains k=true∨get c k=some b)∧QA W c r
theorem Mw {W:List Nat} {t:St}:∀ {l:List (Nat×a9)} {e:List (Nat×PV)},QA W t.bx l->Fr W ⟨e,l⟩ t
 |[],e,_=>λk b _ h=>by simp[get]at h
 |
  (n,v)::r,e,h=>λk b hw hb=>by
  simp only[get]at hb
  split at hb
  ·rename_i hk;subst hk
   simp only[sJ]at hb;subst hb
   have h1:=h.1
   split at h1
   ·rename_i hm
    rcases h1 with h1|⟨h1,h2,h3⟩
    ·exact⟨_,h1,rfl⟩
    ·cases v with
     |
      box x=>
      cases hg:get t.bx n with
      |none=>rw[hg]at h3;simp[Dd]at h3
      |
       some c=>
       rw[hg]at h3
       cases c with
       |box y=>exact⟨_,rfl,by simp only[sx,h1,hm,and_self,if_true]⟩
       |_=>simp[Dd]at h3
     |_=>simp[Dd]at h2
   ·rename_i hm
    rcases h1 with h1|h1
    ·rw[h1]at hw;simp at hw;exact absurd hw hm
    ·exact⟨_,h1,rfl⟩
  ·exact Mw (e:=e) h.2 k b hw hb
def sA (P:Program) (W:List Nat) (s:St):List (AO×Bool)->(St->Prop)->Prop
 |[],K=>K s
 |(x,f)::r,K=>if x.quiet=true then(if f=true then im P (s.less W) x (λt=>sA P W {t with bx:=s.bx} r K)else im P s x (λt=>sA P W t r K))
   else kc s ((x,f)::r)=true∧im P s x (λt=>(f=true->QA W t.bx s.bx)∧sA P W t r K)
theorem rA {s s':St} (h:s'.bx=s.bx):∀m:List (AO×Bool),kc s' m=kc s m
 |[]=>rfl
 |(x,f)::r=>by simp only[kc,rA h r,h]
theorem v8 {W:List Nat}:∀ {m:List (AO×Bool)} {s:St} {K:St->Prop},sA P W s m K->kc s m=true
 |[],s,K,h=>rfl
 |
  (x,f)::r,s,K,h=>by
  simp only[sA]at h
  split at h
  ·rename_i hq
   simp only[kc,j8 hq,Bool.true_and]
   split at h
   ·obtain⟨v,h1,_⟩:=rY hq h
    have:=v8 h1
    exact(rA (s:=s) (s':= {env:=((s.less W).put x.dst v).env,bx:=s.bx}) rfl r).symm.trans this
   ·obtain⟨v,h1,_⟩:=rY hq h
    have:=v8 h1
    rwa [rA (kL _ _)]at this
  ·exact h.1
theorem nR {W:List Nat}:∀ {m:List (AO×Bool)} {s:St} {K:St->Prop},sA P W s m K->Mv P W s m K
 |[],s,K,h=>h
 |
  (x,f)::r,s,K,h=>by
  refine⟨v8 h,?_⟩
  simp only[sA,jv]at h⊢
  split at h
  ·rename_i hq
   rw[if_pos hq]
   split at h
   ·rename_i hf;rw[if_pos hf];exact eV (λt ht=>nR ht) h
   ·rename_i hf;rw[if_neg hf];exact eV (λt ht=>nR ht) h
  ·rename_i hq
   rw[if_neg hq]
   exact eV (λt ht=>⟨λe=>Mw (e:=s.env) (ht.1 e),nR ht.2⟩) h.2
@[simp] theorem aem (W:List Nat) (k:Nat) (v:PV):sx W k (.box v)=if C7 W=true∧W.contains k=true then Ex else .box v:=_root_.id rfl
@[simp] theorem aen (W:List Nat) (k sz:Nat) (l:List PV):sx W k (.arr sz l)= .arr sz l:=_root_.id rfl
@[simp] theorem avW:C7 []=false:=_root_.id rfl
@[simp] theorem avX (a:Nat):C7 [a]=false:=_root_.id rfl
@[simp] theorem avY (a b:Nat) (r:List Nat):C7 (a::b::r)=(a==b):=_root_.id rfl
@[simp] theorem anh:Ex.aC=0:=_root_.id rfl
theorem QB {W:List Nat} (h:C7 W=false) (k:Nat) (b:a9):sx W k b=b:=by cases b<;>simp[sx,h]
def xm (W:List Nat) (b:List (Nat×a9)):List (Nat×a9):=(b.filter λp=>C7 W|| !W.contains p.1).map λp=>(p.1,sx W p.1 p.2)
@[simp] theorem aaz (W:List Nat):xm W []=[]:=_root_.id rfl
@[simp] theorem WG (W:List Nat) (k:Nat) (v:a9) (r:List (Nat×a9)):xm W ((k,v)::r)=if C7 W=true then(k,sx W k v)::xm W r else if W.contains k=true then xm W r else(k,v)::xm W r:=by
 unfold xm;rw[List.filter_cons]
 cases hm:C7 W
 ·cases W.contains k<;>simp[QB hm]
 ·simp
@[simp] theorem aeo (d:Option Nat) (gd:Option (Nat×Bool)) (mg:Bool) (a:AX):AO.quiet ⟨d,gd,mg,.mv a⟩=true:=_root_.id rfl
@[simp] theorem ani (d:Option Nat) (gd:Option (Nat×Bool)) (mg:Bool) (a:AX):AO.gQ ⟨d,gd,mg,.mv a⟩=none:=by simp[AO.gQ]
@[simp] theorem TT (d:Option Nat) (gd:Option (Nat×Bool)) (mg:Bool) (z:PV) (ps:List (Nat×AX)):AO.quiet ⟨d,gd,mg,.build z ps⟩=true:=_root_.id rfl
@[simp] theorem WH (d:Option Nat) (gd:Option (Nat×Bool)) (mg:Bool) (z:PV) (ps:List (Nat×AX)):AO.gQ ⟨d,gd,mg,.build z ps⟩=none:=by simp[AO.gQ]
@[simp] theorem WJ (d:Option Nat) (gd:Option (Nat×Bool)) (mg:Bool) (g:Bool) (m:Nat) (a:AX):AO.quiet ⟨d,gd,mg,.load g m a⟩=true:=_root_.id rfl
@[simp] theorem aaA (d:Option Nat) (gd:Option (Nat×Bool)) (mg:Bool) (g:Bool) (m:Nat) (a:AX):AO.gQ ⟨d,gd,mg,.load g m a⟩=none:=by simp[AO.gQ]
@[simp] theorem Mx (d:Option Nat) (gd:Option (Nat×Bool)) (mg:Bool) (a:AX):AO.quiet ⟨d,gd,mg,.nilCheck a⟩=true:=_root_.id rfl
@[simp] theorem O0 (d:Option Nat) (gd:Option (Nat×Bool)) (mg:Bool) (a:AX):AO.gQ ⟨d,gd,mg,.nilCheck a⟩=none:=by simp[AO.gQ]
@[simp] theorem aaB (d:Option Nat) (gd:Option (Nat×Bool)) (mg:Bool) (o:BinOp) (e:ET) (a b:AX):AO.quiet ⟨d,gd,mg,.bin o e a b⟩=true:=_root_.id rfl
@[simp] theorem aep (d:Option Nat) (gd:Option (Nat×Bool)) (mg:Bool) (o:BinOp) (e:ET) (a b:AX):AO.gQ ⟨d,gd,mg,.bin o e a b⟩=none:=by simp[AO.gQ]
@[simp] theorem TU (d:Option Nat) (gd:Option (Nat×Bool)) (mg:Bool) (k:IntKind) (a:AX):AO.quiet ⟨d,gd,mg,.convI k a⟩=true:=_root_.id rfl
@[simp] theorem WK (d:Option Nat) (gd:Option (Nat×Bool)) (mg:Bool) (k:IntKind) (a:AX):AO.gQ ⟨d,gd,mg,.convI k a⟩=none:=by simp[AO.gQ]
@[simp] theorem TV (d:Option Nat) (gd:Option (Nat×Bool)) (mg:Bool) (k:SK) (a:AX) (l h m:Option AX):AO.quiet ⟨d,gd,mg,.slice k a l h m⟩=true:=_root_.id rfl
@[simp] theorem QC (d:Option Nat) (gd:Option (Nat×Bool)) (mg:Bool) (i o:Nat) (a:AX):AO.quiet ⟨d,gd,mg,.fieldA i o a⟩=true:=_root_.id rfl
@[simp] theorem TW (d:Option Nat) (gd:Option (Nat×Bool)) (mg:Bool) (i o:Nat) (a:AX):AO.gQ ⟨d,gd,mg,.fieldA i o a⟩=none:=by simp[AO.gQ]
@[simp] theorem QD (d:Option Nat) (gd:Option (Nat×Bool)) (mg:Bool) (k:SK) (a b:AX):AO.quiet ⟨d,gd,mg,.indexA k a b⟩=true:=_root_.id rfl
@[simp] theorem TX (d:Option Nat) (gd:Option (Nat×Bool)) (mg:Bool) (k:SK) (a b:AX):AO.gQ ⟨d,gd,mg,.indexA k a b⟩=none:=by simp[AO.gQ]
@[simp] theorem O1 (d:Option Nat) (gd:Option (Nat×Bool)) (mg:Bool) (i:Nat) (a:AX):AO.quiet ⟨d,gd,mg,.extract i a⟩=true:=_root_.id rfl
@[simp] theorem QE (d:Option Nat) (gd:Option (Nat×Bool)) (mg:Bool) (i:Nat) (a:AX):AO.gQ ⟨d,gd,mg,.extract i a⟩=none:=by simp[AO.gQ]
@[simp] theorem aeq (d:Option Nat) (gd:Option (Nat×Bool)) (mg:Bool) (g:Bool) (as:List AX):AO.quiet ⟨d,gd,mg,.mm g as⟩=true:=_root_.id rfl
@[simp] theorem anj (d:Option Nat) (gd:Option (Nat×Bool)) (mg:Bool) (g:Bool) (as:List AX):AO.gQ ⟨d,gd,mg,.mm g as⟩=none:=by simp[AO.gQ]
@[simp] theorem WL (d:Option Nat) (gd:Option (Nat×Bool)) (mg:Bool) (a:AX) (as:List AX):AO.quiet ⟨d,gd,mg,.call a as⟩=false:=_root_.id rfl
@[simp] theorem aaC (d:Option Nat) (gd:Option (Nat×Bool)) (mg:Bool) (a:AX) (as:List AX):AO.gQ ⟨d,gd,mg,.call a as⟩=none:=by simp[AO.gQ]
@[simp] theorem TY (d:Option Nat) (gd:Option (Nat×Bool)) (mg:Bool) (a:AX) (as:List AX):AO.quiet ⟨d,gd,mg,.callq a as⟩=true:=_root_.id rfl
@[simp] theorem WM (d:Option Nat) (gd:Option (Nat×Bool)) (mg:Bool) (a:AX) (as:List AX):AO.gQ ⟨d,gd,mg,.callq a as⟩=none:=by simp[AO.gQ]
@[simp] theorem TZ (d:Option Nat) (gd:Option (Nat×Bool)) (mg:Bool) (z:PV):AO.quiet ⟨d,gd,mg,.alloc z⟩=false:=_root_.id rfl
@[simp] theorem T0 (d:Option Nat) (gd:Option (Nat×Bool)) (mg:Bool) (m:Nat) (a b:AX):AO.quiet ⟨d,gd,mg,.store m a b⟩=false:=_root_.id rfl
@[simp] theorem WN (d:Option Nat) (gd:Option (Nat×Bool)) (mg:Bool) (m:Nat) (a b:AX):AO.gQ ⟨d,gd,mg,.store m a b⟩=none:=by simp[AO.gQ]
@[simp] theorem QF (d:Option Nat) (gd:Option (Nat×Bool)) (mg:Bool) (m m2:Nat) (g:Bool) (a b:AX):AO.quiet ⟨d,gd,mg,.append m m2 g a b⟩=false:=_root_.id rfl
@[simp] theorem T1 (d:Option Nat) (gd:Option (Nat×Bool)) (mg:Bool) (m m2:Nat) (g:Bool) (a b:AX):AO.gQ ⟨d,gd,mg,.append m m2 g a b⟩=none:=by simp[AO.gQ]
@[simp] theorem WO (d:Option Nat) (gd:Option (Nat×Bool)) (mg:Bool) (m:Nat) (a b:AX):AO.quiet ⟨d,gd,mg,.copy m a b⟩=false:=_root_.id rfl
@[simp] theorem aaD (d:Option Nat) (gd:Option (Nat×Bool)) (mg:Bool) (m:Nat) (a b:AX):AO.gQ ⟨d,gd,mg,.copy m a b⟩=none:=by simp[AO.gQ]
@[simp] theorem aaE (d:Option Nat) (gd:Option (Nat×Bool)) (mg:Bool) (m:Nat) (z:PV) (n:Nat) (ps:List (Nat×AX)):AO.quiet ⟨d,gd,mg,.buildSlice false m z n ps⟩=true:=_root_.id rfl
@[simp] theorem aer (d:Option Nat) (gd:Option (Nat×Bool)) (mg:Bool) (m:Nat) (z:PV) (n:Nat) (ps:List (Nat×AX)):AO.gQ ⟨d,gd,mg,.buildSlice false m z n ps⟩=none:=by simp[AO.gQ]
@[simp] theorem aaF (d:Option Nat) (gd:Option (Nat×Bool)) (mg:Bool) (m:Nat) (z:PV) (n:Nat) (ps:List (Nat×AX)):AO.quiet ⟨d,gd,mg,.buildSlice true m z n ps⟩=false:=_root_.id rfl
@[simp] theorem aes (d:Option Nat) (gd:Option (Nat×Bool)) (mg:Bool) (m:Nat) (z:PV) (n:Nat) (ps:List (Nat×AX)):AO.gQ ⟨d,gd,mg,.buildSlice true m z n ps⟩=none:=by simp[AO.gQ]
theorem nj.run {l:List AO} {o u:List Nat} {K:St->Prop} {t:Tg K} (W:List Nat) {m:List (AO×Bool)} (hm:oh l u o=some m) (h:sA P W s m K):nj P l o u K t s:=nj.of W m hm (nR h)
@[simp↓] theorem aet (W:List Nat) (K:St->Prop):sA P W s [] K=K s:=_root_.id rfl
@[simp↓] theorem apN (W:List Nat) (n:Nat) (v:PV) (e:List (Nat×PV)) (b:List (Nat×a9)) (x:AO) (f:Bool) (r:List (AO×Bool)) (K:St->Prop):sA P W ⟨(n,v)::e,b⟩ ((x,f)::r) K=
  if x.quiet=true then(if f=true then im P ⟨(n,v)::e,xm W b⟩ x (λt=>sA P W {t with bx:=b} r K)else im P ⟨(n,v)::e,b⟩ x (λt=>sA P W t r K))
  else(kc ⟨(n,v)::e,b⟩ ((x,f)::r)=true∧im P ⟨(n,v)::e,b⟩ x (λt=>(f=true->QA W t.bx b)∧sA P W t r K)):=by
 simp only[sA];rfl
@[simp] theorem ank (x:AO) (f:Bool) (r:List (AO×Bool)):kc s ((x,f)::r)=((match x.gQ with|some k=>(get s.bx k).isNone|none=>true)&&kc s r):=_root_.id rfl
def DrE (P:Program) (l:List AO) (a:List Nat) (p q:Nat) (b u:List Nat) (K:St->Prop) (_:Tg K) (s:St):Prop:=∃W,mu P l u.contains W (p::q::b) s a λt=>iT P l u.contains W t (p::q::b) K∧iT P l u.contains W t (q::p::b) K
@[simp↓] theorem WQ (l:List AO) (a:List Nat) (p q:Nat) (b u:List Nat) (Q:Exit->St->Prop):aw P (.regionE l a p q b u) Q s=DrE P l a p q b u (Q .normal) .mk s:=_root_.id rfl
def mL (P:Program) (W:List Nat) (mE:List (AO×Bool)) (s:St):List (AO×Bool)->(St->Prop)->Prop
 |[],K=>kc s mE=true∧K s
 |(x,f)::r,K=>if x.quiet=true then(if f=true then im P (s.less W) x (λt=>mL P W mE {t with bx:=s.bx} r K)else im P s x (λt=>mL P W mE t r K))
   else kc s ((x,f)::(r++mE))=true∧im P s x (λt=>(f=true->QA W t.bx s.bx)∧mL P W mE t r K)
theorem EZ {l:List AO} {u:List Nat}:∀ {a b:List Nat} {m n:List (AO×Bool)},oh l u a=some m->oh l u b=some n->oh l u (a++b)=some (m++n)
 |[],b,m,n,h,h2=>by simp[oh]at h;subst h;exact h2
 |
  i::r,b,m,n,h,h2=>by
  simp only[oh]at h
  split at h
  ·rename_i x m' hx sv
   simp only[sJ]at h;subst h
   simp only[List.cons_append,oh,hx,EZ sv h2]
  ·simp at h
theorem tu {W:List Nat} {mE:List (AO×Bool)}:∀ {m:List (AO×Bool)} {s:St} {K:St->Prop},mL P W mE s m K->kc s (m++mE)=true
 |[],s,K,h=>h.1
 |
  (x,f)::r,s,K,h=>by
  simp only[mL]at h
  split at h
  ·rename_i hq
   simp only[List.cons_append,kc,j8 hq,Bool.true_and]
   split at h
   ·obtain⟨v,h1,_⟩:=rY hq h
    have:=tu h1
    exact(rA (s:=s) (s':= {env:=((s.less W).put x.dst v).env,bx:=s.bx}) rfl _).symm.trans this
   ·obtain⟨v,h1,_⟩:=rY hq h
    have:=tu h1
    rwa [rA (kL _ _)]at this
  ·exact h.1
theorem yq {l:List AO} {u:List Nat} {W E:List Nat} {mE:List (AO×Bool)} (hE:oh l u E=some mE):∀ {o:List Nat} {m:List (AO×Bool)} {s:St} {K:St->Prop},oh l u o=some m->mL P W mE s m K->mu P l u.contains W E s o K
 |[],m,s,K,hm,h=>by simp[oh]at hm;subst hm;exact⟨by rw[←uF hE];exact h.1,h.2⟩
 |
  i::r,m,s,K,hm,h=>by
  have Ox:=hm
  simp only[oh]at hm
  split at hm
  ·rename_i x m' hx sv
   simp only[sJ]at hm;subst hm
   have hf:=uF (s:=s) (EZ Ox hE)
   have nr:=tu h
   rw[hf]at nr
   simp only[mu,hx]
   refine⟨by simpa using nr,?_⟩
   simp only[mL,jv]at h⊢
   split at h
   ·rename_i hq
    rw[if_pos hq]
    split at h
    ·rename_i hf;rw[if_pos hf];exact eV (λt ht=>yq hE sv ht) h
    ·rename_i hf;rw[if_neg hf];exact eV (λt ht=>yq hE sv ht) h
   ·rename_i hq
    rw[if_neg hq]
    exact eV (λt ht=>⟨λe=>Mw (e:=s.env) (ht.1 e),yq hE sv ht.2⟩) h.2
  ·simp at hm
theorem sk {W:List Nat} {mE:List (AO×Bool)}:∀ {m:List (AO×Bool)} {s:St} {K K':St->Prop},(∀t,K t->K' t)->mL P W mE s m K->mL P W mE s m K'
 |[],s,K,K',h,hk=>⟨hk.1,h _ hk.2⟩
 |
  (x,f)::r,s,K,K',h,hk=>by
  simp only[mL]at hk⊢
  split at hk
  ·rename_i hq;rw[if_pos hq]
   split at hk
   ·rename_i hf;rw[if_pos hf];exact eV (λt ht=>sk h ht) hk
   ·rename_i hf;rw[if_neg hf];exact eV (λt ht=>sk h ht) hk
  ·rename_i hq;rw[if_neg hq]
   exact⟨hk.1,eV (λt ht=>⟨ht.1,sk h ht.2⟩) hk.2⟩
theorem DrE.run {l:List AO} {a:List Nat} {p q:Nat} {b u:List Nat} {K:St->Prop} {t:Tg K} (W:List Nat) {m m1 m2:List (AO×Bool)} (hm:oh l u a=some m) (h1:oh l u (p::q::b)=some m1) (h2:oh l u (q::p::b)=some m2)
  (h:mL P W m1 s m λt=>sA P W t m1 K∧sA P W t m2 K):DrE P l a p q b u K t s:=⟨W,yq h1 hm (sk (λt ht=>⟨yp h1 (nR ht.1),yp h2 (nR ht.2)⟩) h)⟩
@[simp↓] theorem aaG (W:List Nat) (mE:List (AO×Bool)) (K:St->Prop):mL P W mE s [] K=(kc s mE=true∧K s):=_root_.id rfl
@[simp↓] theorem anl (W:List Nat) (mE:List (AO×Bool)) (n:Nat) (v:PV) (e:List (Nat×PV)) (b:List (Nat×a9)) (x:AO) (f:Bool) (r:List (AO×Bool)) (K:St->Prop):mL P W mE ⟨(n,v)::e,b⟩ ((x,f)::r) K=
  if x.quiet=true then(if f=true then im P ⟨(n,v)::e,xm W b⟩ x (λt=>mL P W mE {t with bx:=b} r K)else im P ⟨(n,v)::e,b⟩ x (λt=>mL P W mE t r K))
  else(kc ⟨(n,v)::e,b⟩ ((x,f)::(r++mE))=true∧im P ⟨(n,v)::e,b⟩ x (λt=>(f=true->QA W t.bx b)∧mL P W mE t r K)):=by
 simp only[mL];rfl
@[simp↓] theorem aaH:kc s []=true:=_root_.id rfl
@[simp↓] theorem aev (k:Nat) (mg f:Bool) (z:PV) (r:List (AO×Bool)):kc s ((⟨some k,none,mg,.alloc z⟩,f)::r)=((get s.bx k).isNone&&kc s r):=_root_.id rfl
@[simp] theorem anm (W:List Nat) (c:List (Nat×a9)):QA W c []=True:=_root_.id rfl
@[simp] theorem aew (W:List Nat) (c:List (Nat×a9)) (k:Nat) (b:a9) (r:List (Nat×a9)):QA W c ((k,b)::r)=((if C7 W=true then get c k=some b∨W.contains k=true∧Dd (some b)=true∧Dd (get c k)=true else W.contains k=true∨get c k=some b)∧QA W c r):=_root_.id rfl
end Go.Ab
namespace Go.Ab
variable [eg]
variable {P:Program} {s:St}
theorem RgS.of {ps:List Nat} {x y:cU} {Q:Exit->St->Prop} {t:Tg (x,y,Q)} {fid:FuncId} {cap tQ:List PV} {jO xB:List a9} {Y:List PV->List a9->(List a9->Prop)->Prop} (ks:List Nat) (bf:List a9)
  (hg:getAll s.bx ks=some bf) (hn:ks.Nodup) (hc:ae (bg ks) cap=true) (hb:bf.all (af (bg ks))=true) (Bz:aK (aT ks) cap=tQ) (re:bf.map (a0 (aT ks))=jO)
  (hI:Ig P fid tQ jO Y λfp=>fp=xB)
  (hr:∀args fp R1,Y args fp R1->(args.length=ps.length∧fp.length=ks.length)∧aw P x (yl noQ λs'=>aw P y (L8 ks.length R1) s') (C9 ks s ps args fp))
  (hl:xB.length=ks.length∧xB.all (af (fR xB.length))=true) (hK:Q .normal {s with bx:=bC s.bx ks (xB.map (a0 (eO ks)))}):RgS P ps x y Q t s (.fn (.func fid) [] cap):=by
 refine⟨λ_ _ _ _ h=>h,ks,bf,Y,λfp=>fp=xB,⟨hg,hn,hc,hb⟩,by rw[Bz,re];exact hI,hr,?_⟩
 rintro fp rfl
 exact⟨hl,hK⟩
theorem al.gen {d:Option Nat} {f:FuncId} {args fQ:List PV} {jO xB:List a9} {r1:PV} {K:St->Prop} {t:Tg K} (ks os:List Nat) (bf:List a9) (hA:ah P f fQ jO λr fp=>r=r1∧fp=xB)
  (hg:getAll s.bx ks=some bf) (hn:(ks++os).Nodup) (PB:∀o∈os,get s.bx o=none) (ha:ae (bg ks) args=true) (hb:bf.all (af (bg ks))=true)
  (ha':jj (aK (aT ks) args)=fQ) (re:bf.map (a0 (aT ks))=jO) (hl:xB.length=(ks++os).length∧ab (fR xB.length) r1=true∧xB.all (af (fR xB.length))=true)
  (h:K ({s with bx:=bC s.bx (ks++os) (xB.map (a0 (eO (ks++os))))}.put d (aF (eO (ks++os)) r1))):al P s d f args K t:=by
 subst ha' re
 refine⟨ks,os,bf,_,hg,hn,PB,ha,hb,ah.TN hA,?_⟩
 rintro r fp ⟨rfl,rfl⟩
 exact⟨hl,h⟩
theorem adk.of {n:Nat} {R:List a9->Prop} {t:Tg R} (c:List Cut) (h:gV c s λs'=>∃bf,getAll s'.bx (eD n)=some bf∧bf.all (af (fR n))=true∧R bf):adk n R t s:=⟨c,h⟩
@[simp] theorem aex:eD 1=[KB]:=rfl
@[simp] theorem aey:eD 2=[KB,KB+1]:=rfl
@[simp] theorem aez:eD 3=[KB,KB+1,KB+2]:=rfl
@[simp] theorem aeA:eD 5=[KB,KB+1,KB+2,KB+3,KB+4]:=rfl
@[simp] theorem avZ {n:Nat} (h:n<9000):(KB=n)=False:=by simp only[KB,eq_iff_iff,iff_false];omega
@[simp] theorem apO {n:Nat} (h:n<9000):(n=KB)=False:=by simp only[KB,eq_iff_iff,iff_false];omega
@[simp] theorem aaI {n i:Nat} (h:n<9000):(KB+i=n)=False:=by simp only[KB,eq_iff_iff,iff_false];omega
@[simp] theorem WR {n i:Nat} (h:n<9000):(n=KB+i)=False:=by simp only[KB,eq_iff_iff,iff_false];omega
@[simp] theorem aaJ {n:Nat} (h:n<9000):(KB<n)=False:=by simp only[KB,eq_iff_iff,iff_false];omega
@[simp] theorem O2 {n i:Nat} (h:n<9000):(KB+i<n)=False:=by simp only[KB,eq_iff_iff,iff_false];omega
@[simp] theorem ann {i:Nat}:(KB+i<KB)=False:=by simp
end Go.Ab
namespace Go.Ab
variable [eg]
structure apP (sh:Sh) (p:PV):Prop where
 refs:ab (λ_=>false) p=true
 wk:wk p=p
 width:p.width=qf sh
 agg:p.isAgg=sh.agg
 beq:PV.beq p p=true
 cell:p.bj=true
 flat:p.flat=true
mutual
theorem gT:∀(p:PV) (sh:Sh),fits sh p=true->apP sh p
 | .bl b,.b,_=>⟨rfl,by simp,rfl,rfl,by simp[PV.beq],rfl,rfl⟩
 | .int k n,.i k',h=>⟨rfl,by simp,rfl,rfl,by simp[PV.beq],rfl,rfl⟩
 | .str s,.s,_=>⟨rfl,by simp,rfl,rfl,by simp[PV.beq],rfl,rfl⟩
 |
  .st w m,.st l,h=>by
  simp only[fits,aJ,decide_eq_true_eq]at h
  obtain⟨h1,h2,h3,h4⟩:=zY m l h.2
  exact⟨by simpa[ab]using h1,by simp[h2],by simp[qf,h.1],rfl,by simp[PV.beq,h4],rfl,rfl⟩
 |
  .ar sz k m,.ar n e,h=>by
  simp only[fits,aJ,decide_eq_true_eq]at h
  obtain⟨h1,h2,h4⟩:=zZ m e h.2
  exact⟨by simpa[ab]using h1,by simp[h2],by simp[qf,h.1.1,h.1.2.1],rfl,by simp[PV.beq,h4],rfl,rfl⟩
 | .un,sh,h=>by cases sh<;>simp[fits]at h
 | .tup _,sh,h=>by cases sh<;>simp[fits]at h
 | .sl _ _ _,sh,h=>by cases sh<;>simp[fits]at h
 | .rs _ _ _ _ _ _ _,sh,h=>by cases sh<;>simp[fits]at h
 | .np,sh,h=>by cases sh<;>simp[fits]at h
 | .pt _ _ _,sh,h=>by cases sh<;>simp[fits]at h
 | .fp _ _ _,sh,h=>by cases sh<;>simp[fits]at h
 | .fn _ _ _,sh,h=>by cases sh<;>simp[fits]at h
 | .nf,sh,h=>by cases sh<;>simp[fits]at h
 | .gd _ _,sh,h=>by cases sh<;>simp[fits]at h
 | .ifc _ _,sh,h=>by cases sh<;>simp[fits]at h
 | .ni,sh,h=>by cases sh<;>simp[fits]at h
 | .mp _ _,sh,h=>by cases sh<;>simp[fits]at h
 | .bl _,.i _,h=>by simp[fits]at h
 | .bl _,.s,h=>by simp[fits]at h
 | .bl _,.st _,h=>by simp[fits]at h
 | .bl _,.ar _ _,h=>by simp[fits]at h
 | .int _ _,.b,h=>by simp[fits]at h
 | .int _ _,.s,h=>by simp[fits]at h
 | .int _ _,.st _,h=>by simp[fits]at h
 | .int _ _,.ar _ _,h=>by simp[fits]at h
 | .str _,.b,h=>by simp[fits]at h
 | .str _,.i _,h=>by simp[fits]at h
 | .str _,.st _,h=>by simp[fits]at h
 | .str _,.ar _ _,h=>by simp[fits]at h
 | .st _ _,.b,h=>by simp[fits]at h
 | .st _ _,.i _,h=>by simp[fits]at h
 | .st _ _,.s,h=>by simp[fits]at h
 | .st _ _,.ar _ _,h=>by simp[fits]at h
 | .ar _ _ _,.b,h=>by simp[fits]at h
 | .ar _ _ _,.i _,h=>by simp[fits]at h
 | .ar _ _ _,.s,h=>by simp[fits]at h
 | .ar _ _ _,.st _,h=>by simp[fits]at h
theorem zY:∀(m:List PV) (l:List Sh),kE l m=true->ae (λ_=>false) m=true∧jj m=m∧av m=tY l∧PV.nZ m m=true
 |[],[],_=>⟨rfl,rfl,rfl,by simp[PV.nZ]⟩
 |
  p::m,x::l,h=>by
  simp only[kE,aJ]at h
  have f:=gT p x h.1
  obtain⟨h1,h2,h3,h4⟩:=zY m l h.2
  exact⟨by simp[ae,f.refs,h1],by simp[f.wk,h2],by simp[tY,f.width,h3],by simp[PV.nZ,f.beq,h4]⟩
 |[],_::_,h=>by simp[kE]at h
 |_::_,[],h=>by simp[kE]at h
theorem zZ:∀(m:List PV) (e:Sh),kR e m=true->ae (λ_=>false) m=true∧jj m=m∧PV.nZ m m=true
 |[],_,_=>⟨rfl,rfl,by simp[PV.nZ]⟩
 |
  p::m,e,h=>by
  simp only[kR,aJ]at h
  have f:=gT p e h.1
  obtain⟨h1,h2,h4⟩:=zZ m e h.2
  exact⟨by simp[ae,f.refs,h1],by simp[f.wk,h2],by simp[PV.nZ,f.beq,h4]⟩
end
structure FV (sh:Sh) where
 p:PV
 ok:fits sh p=true
variable {sh:Sh} (v:FV sh)
@[simp] theorem FV.fits:Ab.fits sh v.p=true:=v.ok
@[simp] theorem FV.pure:Pure v.p:=Pure.of (gT v.p sh v.ok).refs
@[simp] theorem FV.wk:Ab.wk v.p=v.p:=(gT v.p sh v.ok).wk
@[simp] theorem FV.width:v.p.width=qf sh:=(gT v.p sh v.ok).width
@[simp] theorem FV.agg:v.p.isAgg=sh.agg:=(gT v.p sh v.ok).agg
@[simp] theorem FV.beq:PV.beq v.p v.p=true:=(gT v.p sh v.ok).beq
@[simp] theorem FV.cell:v.p.bj=true:=(gT v.p sh v.ok).cell
@[simp] theorem FV.flat:v.p.flat=true:=(gT v.p sh v.ok).flat
@[simp↓] theorem FV.gN (g:Bool) (K:PV->Prop):Ab.gN g v.p K=K v.p:=by
 have:=(gT v.p sh v.ok).flat
 cases h:v.p<;>rw[h]at this<;>simp[PV.flat]at this<;>rfl
end Go.Ab
namespace Go.Ab
variable [eg]
variable {P:Program} {s:St} [iE]
theorem jx.mw {α:Type} {x:cU} {Q:Exit->St->Prop} {t:Tg (x,Q)} (n:Nat) (x0:α) (I:Nat->α->Prop) (ks:List Nat) (E:Nat->α->List (Nat×PV)) (B:Nat->α->List (Nat×a9)) (c0:List Cut)
  (h:gV c0 s λs0=>jP s0 ks (E 0 x0) (B 0 x0)=jP s0 ks [] []∧I 0 x0∧
   (∀i y,i<n->I i y->∀K:St->Prop,(∀z s2,jP s2 ks [] []=jP s0 ks (E (i+1) z) (B (i+1) z)->I (i+1) z->K s2)->aw P x (yl Q λs'=>∃c:List Cut,gV c s' K) (jP s0 ks (E i y) (B i y)))∧
   (∀y,I n y->∀K:St->Prop,aw P x (yl Q K) (jP s0 ks (E n y) (B n y)))):jx P x Q t s:=by
 let
   R:St->Prop:=λs0=>(∀i y,i<n->I i y->∀K:St->Prop,(∀z s2,jP s2 ks [] []=jP s0 ks (E (i+1) z) (B (i+1) z)->I (i+1) z->K s2)->aw P x (yl Q λs'=>∃c:List Cut,gV c s' K) (jP s0 ks (E i y) (B i y)))∧
   (∀y,I n y->∀K:St->Prop,aw P x (yl Q K) (jP s0 ks (E n y) (B n y)))
 let J:Nat->St->Prop:=λm st=>∃s0 i y,i≤n∧m=n-i∧I i y∧st=jP s0 ks (E i y) (B i y)∧R s0
 refine⟨J,c0++[.keep ks],?_,?_⟩
 ·rw[kb]
  refine iP c0 (λs0 hs=> ?_) h
  obtain⟨h1,h2,h3⟩:=hs
  exact⟨n,s0,0,x0,by omega,by omega,h2,by rw[h1];rfl,h3⟩
 ·rintro m st ⟨s0,i,y,hi,rfl,hI,rfl,h3⟩
  by_cases fZ:i<n
  ·have Zi:∀(K:St->Prop) s',(∃c:List Cut,gV c s' λs2=>gV [.keep ks] s2 K)->∃c:List Cut,gV c s' K:=λK s' ⟨c,hc⟩=>⟨c++[.keep ks],by rw[kb];exact hc⟩
   have:=h3.1 i y fZ hI (λs2=>gV [.keep ks] s2 λs'=>∃m,m<n-i∧J m s')
    (λz s2 e hI'=>⟨n-(i+1),by omega,s0,i+1,z,by omega,rfl,hI',by rw[←e];rfl,h3⟩)
   refine Io (λe s' he=> ?_) this
   cases e with
   |normal=>exact Zi _ _ he
   |_=>exact he
  ·have w7:i=n:=by omega
   subst w7
   exact h3.2 y hI _
end Go.Ab
namespace Go.Ab
variable [eg]
variable {P:Program} {s:St} [iE]
def cpA (s:St) (d:Option Nat) (sz:Nat) (ys:List PV) (K:St->Prop) (k:Nat) (v:PV) (pth:List Step) (off len aC bB:Nat):PV->Prop
 | .ar sz'' n l=>dm (dD v pth (.ar sz'' n (l.take off++ys.take (min ys.length len)++l.drop (off+min ys.length len)))) λv'=>(aC=0∧bB=sz∧sz''=sz∧off+len≤n)∧K ({s with bx:=put s.bx k (.box v')}.put d (.int .i64 (min ys.length len:Nat)))
 |_=>False
def cpB (s:St) (d:Option Nat) (sz:Nat) (ys:List PV) (K:St->Prop) (k:Nat) (pth:List Step) (off len aC bB:Nat):a9->Prop
 | .arr sz'' l=>(aC=l.length∧pth=[]∧bB=sz∧sz''=sz∧off+len≤l.length)∧K ({s with bx:=put s.bx k (.arr sz (l.take off++ys.take (min ys.length len)++l.drop (off+min ys.length len)))}.put d (.int .i64 (min ys.length len:Nat)))
 | .box v=>dm (aQ v pth) (cpA s d sz ys K k v pth off len aC bB)
 | .map .. =>False
def O3 (s:St) (d:Option Nat) (sz:Nat) (ys:List PV) (K:St->Prop):PV->Prop
 | .rs k pth off len aC bB _=>dm (get s.bx k) (cpB s d sz ys K k pth off len aC bB)
 |_=>False
def cpQ (s:St) (d:Option Nat) (sz:Nat) (p:PV) (K:St->Prop):PV->Prop
 | .str bs=>sz=1∧O3 s d sz (bs.map u8) K p
 |q=>xH s (λbB ys=>(ys=[]∨bB=sz)∧O3 s d sz ys K p) q
theorem B5 (d:Option Nat) (sz:Nat) (p:PV) (ys:List PV) (K:St->Prop):jd s d sz p ys K=O3 s d sz ys K p:=by
 cases p<;>try rfl
 rename_i k pth off len aC bB c
 simp only[jd,O3]
 generalize get s.bx k=o
 cases o with
 |none=>rfl
 |
  some b=>
  cases b with
  |arr z l=>rfl
  |
   box v=>
   simp only[dm,cpB]
   generalize aQ v pth=o
   cases o with
   |none=>rfl
   |
    some q=>
    cases q<;>simp only[cpA,dm]
    rename_i z n l
    generalize dD v pth (.ar z n (List.take off l++List.take (min ys.length len) ys++List.drop (off+min ys.length len) l))=o
    cases o<;>rfl
  |map b ks vs l=>rfl
@[simp↓] theorem apQ (d:Option Nat) (sz:Nat) (x y:AX) (K:St->Prop):ex s d (.copy sz x y) K=gN true (vx s x) λp=>gN true (vx s y) λq=>cpQ s d sz p K q:=by
 simp only[ex,jC]
 congr 1;funext p;congr 1;funext q
 cases q<;>simp only[cpQ,Tz,Mm,Qe,acZ,B5]
@[simp↓] theorem apR (d:Option Nat) (sz:Nat) (p:PV) (K:St->Prop) (z:Nat) (l:List PV) (c:Bool):cpQ s d sz p K (.sl z l c)=((l=[]∨z=sz)∧O3 s d sz l K p):=_root_.id rfl
@[simp↓] theorem apS (d:Option Nat) (sz:Nat) (ys:List PV) (K:St->Prop) (k:Nat) (pth:List Step) (off len aC bB:Nat) (c:jb):O3 s d sz ys K (.rs k pth off len aC bB c)=dm (get s.bx k) (cpB s d sz ys K k pth off len aC bB):=_root_.id rfl
@[simp↓] theorem anp (d:Option Nat) (sz:Nat) (ys:List PV) (K:St->Prop) (k:Nat) (pth:List Step) (off len aC bB z:Nat) (l:List PV):cpB s d sz ys K k pth off len aC bB (.arr z l)=((aC=l.length∧pth=[]∧bB=sz∧z=sz∧off+len≤l.length)∧K ({s with bx:=put s.bx k (.arr sz (l.take off++ys.take (min ys.length len)++l.drop (off+min ys.length len)))}.put d (.int .i64 (min ys.length len:Nat)))):=_root_.id rfl
@[simp↓] theorem anq (d:Option Nat) (sz:Nat) (ys:List PV) (K:St->Prop) (k:Nat) (pth:List Step) (off len aC bB:Nat) (v:PV):cpB s d sz ys K k pth off len aC bB (.box v)=dm (aQ v pth) (cpA s d sz ys K k v pth off len aC bB):=_root_.id rfl
@[simp↓] theorem apT (d:Option Nat) (sz:Nat) (ys:List PV) (K:St->Prop) (k:Nat) (v:PV) (pth:List Step) (off len aC bB z n:Nat) (l:List PV):cpA s d sz ys K k v pth off len aC bB (.ar z n l)=dm (dD v pth (.ar z n (l.take off++ys.take (min ys.length len)++l.drop (off+min ys.length len)))) λv'=>(aC=0∧bB=sz∧z=sz∧off+len≤n)∧K ({s with bx:=put s.bx k (.box v')}.put d (.int .i64 (min ys.length len:Nat))):=_root_.id rfl
def flP (s:St) (sz:Nat) (z:PV) (K:St->Prop):PV->Prop
 | .rs k pth off len aC bB c=>O3 s none sz (List.replicate len z) K (.rs k pth off len aC bB c)
 |_=>False
@[simp↓] theorem apV (sz:Nat) (z:PV) (K:St->Prop) (k:Nat) (pth:List Step) (off len aC bB:Nat) (c:jb):flP s sz z K (.rs k pth off len aC bB c)=O3 s none sz (List.replicate len z) K (.rs k pth off len aC bB c):=_root_.id rfl
@[simp↓] theorem apW (d:Option Nat) (sz:Nat) (z:PV) (x:AX) (K:St->Prop):ex s d (.fill sz z x) K=gN true (vx s x) λp=>d=none∧flP s sz z K p:=by
 simp only[ex,jC]
 congr 1;funext p
 simp only[Lq]
 congr 1
 cases p<;>simp only[flP,B5]
def clB (s:St) (d:Option Nat) (k:Nat) (pth:List Step) (off len aC sz:Nat) (c:jb) (K:St->Prop):a9->Prop
 | .arr bB l=>(pth=[]∧off=0∧sz=1∧bB=1∧c= .tip∧len=l.length∧aC=l.length∧l≠[]∧l.all PV.isNum=true)∧K (St.put {s with bx:=put s.bx k (.arr 1 (l++[.int .u8 0]))} d (.sl 1 l false))
 |_=>False
def clP (s:St) (d:Option Nat) (K:St->Prop):PV->Prop
 | .rs k pth off len aC sz c=>dm (get s.bx k) (clB s d k pth off len aC sz c K)
 |_=>False
@[simp↓] theorem anr (d:Option Nat) (x:AX) (K:St->Prop):ex s d (.convL x) K=gN true (vx s x) (clP s d K):=by
 simp only[ex,jC]
 congr 1;funext p
 cases p<;>try rfl
 rename_i k pth off len aC sz c
 simp only[clP]
 cases get s.bx k with
 |none=>rfl
 |some x=>cases x<;>rfl
@[simp↓] theorem ap0 (d:Option Nat) (K:St->Prop) (k:Nat) (pth:List Step) (off len aC sz:Nat) (c:jb):clP s d K (.rs k pth off len aC sz c)=dm (get s.bx k) (clB s d k pth off len aC sz c K):=_root_.id rfl
@[simp↓] theorem ans (d:Option Nat) (k:Nat) (pth:List Step) (off len aC sz:Nat) (c:jb) (K:St->Prop) (bB:Nat) (l:List PV):clB s d k pth off len aC sz c K (.arr bB l)=((pth=[]∧off=0∧sz=1∧bB=1∧c= .tip∧len=l.length∧aC=l.length∧l≠[]∧l.all PV.isNum=true)∧K (St.put {s with bx:=put s.bx k (.arr 1 (l++[.int .u8 0]))} d (.sl 1 l false))):=_root_.id rfl
@[simp] theorem aaK (k:IntKind) (n:Int):PV.isNum (.int k n)=true:=_root_.id rfl
end Go.Ab
namespace Go.Ab
variable [eg]
variable {P:Program} {Γ Δ:Cx}
mutual
def md:PV->Bool
 | .sl _ l _=>l.isEmpty
 | .fp .. | .fn .. | .ifc .. | .gd .. | .tup _=>false
 | .st _ l=>ig l
 | .ar _ _ l=>ig l
 |_=>true
def ig:List PV->Bool
 |[]=>true
 |p::r=>md p&&ig r
end
def qR:PV->Bool
 | .tup l=>ig l
 |p=>md p
theorem My {p:PV} (h:md p=true):qR p=true:=by
 cases p<;>first|exact h|simp[md]at h
def B6:a9->Bool
 | .box v=>md v
 | .arr _ l=>ig l
 | .map .. =>true
structure WS (ρ:Nat->Nat) (Γ Δ:Cx):Prop where
 heap:Δ.heap=Γ.heap
 ref:∀k blk,get Γ.bx k=some blk->∃cB,get Δ.bx (ρ k)=some cB∧cB.aC=blk.aC∧Δ.ι (ρ k)=Γ.ι k
theorem z5 (ρ:Nat->Nat):∀l:List PV,aK ρ l=l.map (Ab.aF ρ)
 |[]=>rfl
 |p::l=>by simp[aK,z5 ρ l]
theorem aD.QG {ρ:Nat->Nat} (hs:WS ρ Γ Δ) {l:List PV} {cs:List Value} (h:aD Γ l cs):ig l=true->aD Δ (aK ρ l) cs:=by
 induction h with
 |nil=>intro _;exact .nil
 |un h hr ih=>intro hf;simp only[ig,aJ]at hf;exact .un h (ih hf.2)
 |bl x hr ih=>intro hf;simp only[ig,aJ]at hf;exact .bl x (ih hf.2)
 |int k n hr ih=>intro hf;simp only[ig,aJ]at hf;exact .int k n (ih hf.2)
 |str l s h hr ih=>intro hf;simp only[ig,aJ]at hf;exact .str l s h (ih hf.2)
 |st w l hl hw hr ihl ih=>intro hf;simp only[ig,md,aJ]at hf;exact .st w _ (ihl hf.1) hw (ih hf.2)
 |
  ar sz n l hl hn hw hr ihl ih=>
  intro hf;simp only[ig,md,aJ]at hf
  refine .ar sz n _ (ihl hf.1) (by rw[lu];exact hn) ?_ (ih hf.2)
  intro x hx
  rw[z5]at hx
  obtain⟨y,hy,rfl⟩:=List.mem_map.1 hx
  rw[nO];exact hw y hy
 |
  sl sz l clip a bu hl hw hc hk hb hr ihl ih=>
  intro hf;simp only[ig,md,aJ,List.isEmpty_iff]at hf
  obtain⟨rfl,hf2⟩:=hf
  cases hl
  exact .sl sz [] clip a bu .nil (by simp) hc hk (λh=>absurd rfl h) (ih hf2)
 |
  rs k p off len aC sz c v blk hg h1 hv hr ih=>
  intro hf;simp only[ig,md,aJ]at hf
  obtain⟨cB,g1,g2,g3⟩:=hs.ref k blk hg.1
  refine .rs (ρ k) p off len aC sz c v cB ⟨g1,by rw[g2];exact hg.2⟩ h1 (λht=> ?_) (ih hf.2)
  obtain⟨a,bu,e1,e2⟩:=hv (by rw[ht,g2])
  exact⟨a,bu,e1,e2.aF g3 hs.heap⟩
 |np hr ih=>intro hf;simp only[ig,aJ]at hf;exact .np (ih hf.2)
 |
  pt k p aC v blk hg h1 hv hr ih=>
  intro hf;simp only[ig,md,aJ]at hf
  obtain⟨cB,g1,g2,g3⟩:=hs.ref k blk hg.1
  refine .pt (ρ k) p aC v cB ⟨g1,by rw[g2];exact hg.2⟩ h1 (λht=> ?_) (ih hf.2)
  obtain⟨b,e1,e2⟩:=hv (by rw[ht,g2])
  exact⟨b,by rw[g3,e1],e2⟩
 |fp=>intro hf;simp[ig,md]at hf
 |fn=>intro hf;simp[ig,md]at hf
 |nf hr ih=>intro hf;simp only[ig,aJ]at hf;exact .nf (ih hf.2)
 |ifc=>intro hf;simp[ig,md]at hf
 |ni hr ih=>intro hf;simp only[ig,aJ]at hf;exact .ni (ih hf.2)
 |mp k b hr ih=>intro hf;simp only[ig,aJ]at hf;exact .mp k b (ih hf.2)
theorem aD.G1 {ρ:Nat->Nat} (hs:WS ρ Γ Δ) {p:PV} {cs:List Value} (h:aD Γ [p] cs) (hf:md p=true):aD Δ [Ab.aF ρ p] cs:=by
 have:=h.QG hs (by simp[ig,hf])
 simpa only[aK]using this
theorem aN.QG {ρ:Nat->Nat} (hs:WS ρ Γ Δ) {p:PV} {v:Value} (h:aN Γ p v) (hf:md p=true):aN Δ (Ab.aF ρ p) v:=by
 cases p
 case un=>trivial
 case st w l=>obtain⟨cs,h1,h2⟩:=h;exact⟨cs,h1,h2.G1 hs hf⟩
 case ar sz n l=>obtain⟨cs,h1,h2⟩:=h;exact⟨cs,h1,h2.G1 hs hf⟩
 case gd=>simp[md]at hf
 case tup=>simp[md]at hf
 all_goals exact aD.G1 hs h hf
theorem je.QG {ρ:Nat->Nat} (hs:WS ρ Γ Δ) {p:PV} {v:Value} (h:je Γ p v) (hf:md p=true):je Δ (Ab.aF ρ p) v:=by
 cases p
 case un=>trivial
 case st w l=>obtain⟨cs,h1,h2⟩:=h;exact⟨cs,h1,h2.G1 hs hf⟩
 case ar sz n l=>obtain⟨cs,h1,h2⟩:=h;exact⟨cs,h1,h2.G1 hs hf⟩
 all_goals exact aD.G1 hs h hf
theorem jY.QG {ρ:Nat->Nat} (hs:WS ρ Γ Δ):∀ {l:List PV} {vs:List Value},jY Γ l vs->ig l=true->jY Δ (aK ρ l) vs
 |[],[],_,_=>trivial
 |[],_::_,h,_=>h.elim
 |_::_,[],h,_=>h.elim
 |
  p::l,v::vs,h,hf=>by
  simp only[ig,aJ]at hf
  exact⟨h.1.QG hs hf.1,jY.QG hs h.2 hf.2⟩
theorem aN.ap1 {ρ:Nat->Nat} (hs:WS ρ Γ Δ) {p:PV} {v:Value} (h:aN Γ p v) (hf:qR p=true):aN Δ (Ab.aF ρ p) v:=by
 cases p
 case tup l=>
  obtain⟨vs,h1,h2⟩:=h
  exact⟨vs,h1,h2.QG hs hf⟩
 all_goals exact h.QG hs hf
def V0 (bx:List (Nat×a9)) (p p':PV):Prop:=
 (p'=p∧ab (λ_=>false) p=true)∨
 (∃k pth off len aC sz c l,p= .rs k pth off len aC sz c∧content ⟨[],bx⟩ p (λbB l0=>bB=sz∧l0=l)∧ae (λ_=>false) l=true∧0<sz∧p'= .sl sz l false)
def Ip (bx:List (Nat×a9)):List PV->List PV->Prop
 |[],[]=>True
 |p::r,p'::r'=>V0 bx p p'∧Ip bx r r'
 |_,_=>False
def V1 (bx:List (Nat×a9)) (p p':PV):Prop:=
 V0 bx p p'∨
 (∃sz l l' c,p= .sl sz l c∧Ip bx l l'∧p'= .sl sz l' c)∨
 (∃k pth off len aC sz c l l',p= .rs k pth off len aC sz c∧content ⟨[],bx⟩ p (λbB l0=>bB=sz∧l0=l)∧Ip bx l l'∧0<sz∧p'= .sl sz l' false)
def O4 (bx:List (Nat×a9)):List PV->List PV->Prop
 |[],[]=>True
 |p::r,p'::r'=>V1 bx p p'∧O4 bx r r'
 |_,_=>False
def Cx.bare (Γ:Cx):Cx:= {heap:=Γ.heap,ι:=λ_=>none,bx:=[],ef:=λ_=>False}
theorem nS {b:Nat}:¬Γ.bare.own b:=by
 rintro(⟨k,blk,h,_⟩|h)
 ·simp[Cx.bare,get]at h
 ·exact h
theorem JV (hm:Mem Γ):Mem Γ.bare:=by
 refine⟨λk blk h=> ?_,λi j b h=> ?_,λb h=>h.elim,λb h h2=>h2,λb cs h=>⟨λhb=>nS (.inl hb),(hm.xC b cs h).2⟩⟩
 ·simp[Cx.bare,get]at h
 ·simp[Cx.bare,get]at h
theorem v9:rm (λ_=>false) id Γ Γ.bare:=⟨rfl,λb _ _=>nS,λk blk h=>by simp at h⟩
theorem QH {h:Array Obj} {b o:Nat} {v:Value} (e:cell h b o=some v):b<h.size:=by
 unfold cell at e
 split at e
 ·rename_i c _ _ hb;exact(Array.getElem?_eq_some_iff.1 hb).1
 ·simp at e
theorem aeD (Γ:Cx) (hm:Mem Γ):hU 0 [] ⟨[],Γ.bx⟩ Γ {tmps:= #[],defers:=[]}:=⟨rfl,rfl,rfl,λk p h=>by simp[get]at h,hm⟩
theorem rsV {k:Nat} {pth:List Step} {off len aC sz:Nat} {c:jb} {l:List PV} {cs:List Value} (hm:Mem Γ) (hr:aD Γ [.rs k pth off len aC sz c] cs)
  (hc:content ⟨[],Γ.bx⟩ (.rs k pth off len aC sz c) (λbB l0=>bB=sz∧l0=l)):∃v ad bu us,cs=[v]∧v= .slice ad l.length bu∧aD Γ l us∧(∀x∈l,x.width=sz)∧l.length≤bu∧
   (l≠[]->∃b o,ad=some ⟨b,o,none⟩∧∀i c,us[i]? =some c->cell Γ.heap b (o+i)=some c):=by
 obtain⟨v,rfl⟩:∃v,cs=[v]:=by
  cases hr with
  |rs _ _ _ _ _ _ _ v _ _ _ _ hr=>cases hr;exact⟨v,rfl⟩
 obtain⟨bB,l0,us,ad,bu,⟨rfl,rfl⟩,h2,h3,h4,h5,h6⟩:=oD (v:=v) (aeD Γ hm) hc (by simpa only[aN]using hr)
 exact⟨v,ad,bu,us,rfl,h2,h3,h6,h5,h4⟩
theorem V0.width {bx:List (Nat×a9)} {p p':PV} (h:V0 bx p p'):p'.width=p.width:=by
 rcases h with⟨rfl,_⟩|⟨k,pth,off,len,aC,sz,c,l,rfl,_,_,_,rfl⟩<;>rfl
theorem z6 {l:List PV} {us:List Value} {sz:Nat} {ad:Option Addr} (iu:0<sz) (h3:aD Γ l us) (h4:∀x∈l,x.width=sz) (fc:l≠[])
  (h6:∃b o,ad=some ⟨b,o,none⟩∧∀i c,us[i]? =some c->cell Γ.heap b (o+i)=some c):
  ∃b o,ad=some ⟨b,o,none⟩∧b<Γ.bare.heap.size∧¬Γ.bare.own b∧∀i c,us[i]? =some c->cell Γ.bare.heap b (o+i)=some c:=by
 obtain⟨b,o,e1,e2⟩:=h6
 have hlen:0<us.length:=by
  rw[h3.length,bP h4]
  have:0<l.length:=List.length_pos_iff.2 fc
  exact Nat.mul_pos this iu
 exact⟨b,o,e1,QH (e2 0 _ (gJ hlen)),nS,e2⟩
theorem V0.rep {p p':PV} {cs:List Value} (hm:Mem Γ) (h:V0 Γ.bx p p') (hr:aD Γ [p] cs):aD Γ.bare [p'] cs:=by
 rcases h with⟨rfl,h⟩|⟨k,pth,off,len,aC,sz,c,l,rfl,hc,hl,iu,rfl⟩
 ·have:=hr.aT v9 h
  rwa [uw h]at this
 ·obtain⟨v,ad,bu,us,rfl,rfl,h3,h4,h5,h6⟩:=rsV hm hr hc
  have h3':=h3.aF v9 hl
  rw[zu hl]at h3'
  exact .sl sz l false ad bu h3' h4 h5 (by simp) (λfc=>z6 iu h3 h4 fc (h6 fc)) .nil
theorem Ip.rep (hm:Mem Γ):∀ {l l':List PV} {cs:List Value},Ip Γ.bx l l'->aD Γ l cs->aD Γ.bare l' cs
 |[],[],cs,_,hr=>by cases hr;exact .nil
 |[],_::_,cs,h,_=>h.elim
 |_::_,[],cs,h,_=>h.elim
 |
  p::r,p'::r',cs,h,hr=>by
  obtain⟨c1,c2,rfl,h1,h2⟩:=aD.split (ps:=[p]) (qs:=r) hr
  exact(h.1.rep hm h1).cons (Ip.rep hm h.2 h2)
theorem Ip.av {bx:List (Nat×a9)} {sz:Nat}:∀ {l l':List PV},Ip bx l l'->(∀x∈l,x.width=sz)->l'.length=l.length∧∀x∈l',x.width=sz
 |[],[],_,_=>⟨rfl,by simp⟩
 |[],_::_,h,_=>h.elim
 |_::_,[],h,_=>h.elim
 |
  p::r,p'::r',h,hw=>by
  obtain⟨h1,h2⟩:=Ip.av h.2 (λx hx=>hw x (by simp[hx]))
  refine⟨by simp[h1],λx hx=> ?_⟩
  rcases List.mem_cons.1 hx with rfl|hx
  ·rw[h.1.width];exact hw p (by simp)
  ·exact h2 x hx
theorem V1.rep {p p':PV} {cs:List Value} (hm:Mem Γ) (h:V1 Γ.bx p p') (hr:aD Γ [p] cs):aD Γ.bare [p'] cs:=by
 rcases h with h|⟨sz,l,l',c,rfl,hl,rfl⟩|⟨k,pth,off,len,aC,sz,c,l,l',rfl,hc,hl,iu,rfl⟩
 ·exact h.rep hm hr
 ·cases hr with
  |
   sl sz l clip a bu h1 hw h2 h3 hb hr=>
   cases hr
   obtain⟨e1,e2⟩:=hl.av hw
   rw[←e1]
   refine .sl sz l' c a bu (Ip.rep hm hl h1) e2 (by rw[e1];exact h2) (λh=>by rw[e1];exact h3 h) (λfc=> ?_) .nil
   obtain⟨b,o,f1,f2,_,f3⟩:=hb (λh=>fc (by rw[h]at e1;exact List.length_eq_zero_iff.1 e1))
   exact⟨b,o,f1,f2,nS,f3⟩
 ·obtain⟨v,ad,bu,us,rfl,rfl,h3,h4,h5,h6⟩:=rsV hm hr hc
  obtain⟨e1,e2⟩:=hl.av h4
  rw[←e1]
  refine .sl sz l' false ad bu (Ip.rep hm hl h3) e2 (by rw[e1];exact h5) (by simp) (λfc=> ?_) .nil
  have Te:l≠[]:=λh=>fc (by rw[h]at e1;exact List.length_eq_zero_iff.1 e1)
  exact z6 iu h3 h4 Te (h6 Te)
theorem V1.QI {p p':PV} {v:Value} (hm:Mem Γ) (h:V1 Γ.bx p p') (hr:aN Γ p v):aN Γ.bare p' v:=by
 have h':=h
 rcases h with h|⟨sz,l,l',c,rfl,hl,rfl⟩|⟨k,pth,off,len,aC,sz,c,l,l',rfl,hc,hl,iu,rfl⟩
 ·rcases h with⟨rfl,h⟩|⟨k,pth,off,len,aC,sz,c,l,rfl,hc,hl,iu,rfl⟩
  ·have:=hr.aF v9 h
   rwa [uw h]at this
  ·have:=V1.rep hm h' (by simpa only[aN]using hr)
   simpa only[aN]using this
 ·have:=V1.rep hm h' (by simpa only[aN]using hr)
  simpa only[aN]using this
 ·have:=V1.rep hm h' (by simpa only[aN]using hr)
  simpa only[aN]using this
theorem O4.QI (hm:Mem Γ):∀ {l l':List PV} {vs:List Value},O4 Γ.bx l l'->gK Γ l vs->gK Γ.bare l' vs
 |[],[],[],_,_=>trivial
 |[],[],_::_,_,h=>h.elim
 |[],_::_,_,h,_=>h.elim
 |_::_,[],_,h,_=>h.elim
 |_::_,_::_,[],_,h=>h.elim
 |p::r,p'::r',v::vs,h,hr=>⟨h.1.QI hm hr.1,O4.QI hm h.2 hr.2⟩
theorem ah.view {f:FuncId} {args fQ:List PV} {fp:List a9} {R:PV->List a9->Prop} (hA:ah P f fQ [] R) (hv:O4 (aG 0 fp) args fQ)
  (hR:∀r new,R r new->qR r=true∧new.all B6=true):
  ah P f args fp (λr kP=>∃r0 new,R r0 new∧r=aF (·+fp.length) r0∧kP=fp++new.map (a0 (·+fp.length))):=by
 intro Γ w vs h1 h2 h3 h4
 rw[←h3]at hv
 refine(hA Γ.bare w vs h1 (JV h2) (by simp[Cx.bare,aG]) (hv.QI h2 h4)).mono ?_
 rintro e w' ⟨v,r,new,Γ',e1,e2,e3,e4,e5,e6,e7,e8⟩
 obtain⟨g1,g2⟩:=hR r new e2
 have rS:∀b,b<Γ.heap.size->Γ'.heap[b]? =Γ.heap[b]? :=λb hb=>e7.heap b hb (λh=>nS (.inl h))
 have AT:∀k blk b,get Γ'.bx k=some blk->Γ'.ι k=some b->Γ.heap.size≤b:=by
  intro k blk b hk hb
  rcases Nat.lt_or_ge b Γ.heap.size with h|h
  ·exact absurd (.inl (e7.il b h ⟨k,blk,hk,hb⟩)) nS
  ·exact h
 let Δ:Cx:= {heap:=Γ'.heap,ι:=λk=>if k<KB+fp.length then Γ.ι k else Γ'.ι (k-fp.length),bx:=aG 0 (fp++new.map (a0 (·+fp.length))),ef:=Γ.ef}
 have F7:∀k,k<KB+fp.length->get Δ.bx k=get Γ.bx k:=by
  intro k hk
  simp only[Δ,h3,fT]
  split
  ·rw[List.getElem?_append_left (by omega)]
  ·rfl
 have F8:∀k,KB≤k->get Δ.bx (k+fp.length)=(get Γ'.bx k).map (a0 (·+fp.length)):=by
  intro k hk
  simp only[Δ,e5,fT]
  rw[if_pos (show KB+0≤k+fp.length by omega),if_pos (show KB+0≤k by omega),List.getElem?_append_right (by omega),List.getElem?_map,show k+fp.length-KB-0-fp.length=k-KB-0 by omega]
 have hle:Le Γ Δ:=by
  refine⟨λb hb _=>rS b hb,λb hb h=> ?_,rfl,e7.size,λk blk hk=> ?_⟩
  ·obtain⟨k,blk,f1,f2⟩:=h
   by_cases rT:k<KB+fp.length
   ·rw[F7 k rT]at f1
    have f2':Γ.ι k=some b:=by simpa[Δ,rT]using f2
    exact⟨k,blk,f1,f2'⟩
   ·exfalso
    have f2':Γ'.ι (k-fp.length)=some b:=by simpa[Δ,rT]using f2
    have:get Δ.bx (k-fp.length+fp.length)=_:=F8 (k-fp.length) (by omega)
    rw[show k-fp.length+fp.length=k by omega,f1]at this
    obtain⟨b0,f3,_⟩:=Option.map_eq_some_iff.1 this.symm
    have:=AT _ _ _ f3 f2'
    omega
  ·have rT:k<KB+fp.length:=by
    rw[h3,fT]at hk
    split at hk
    ·have:=(List.getElem?_eq_some_iff.1 hk).1;simp at this;omega
    ·simp at hk
   refine⟨blk,by rw[F7 k rT];exact hk,Nat.le_refl _,λ_=>⟨by simp[Δ,rT],λb hb cs e hh=>⟨cs,?_,rfl⟩⟩⟩
   show Γ'.heap[b]? =_
   rw[rS b (h2.lt ⟨k,blk,hk,hb⟩)];exact hh
 have Zj:WS (·+fp.length) Γ' Δ:=by
  refine⟨rfl,λk blk hk=> ?_⟩
  have VE:KB≤k:=by
   rw[e5,fT]at hk
   split at hk
   ·assumption
   ·simp at hk
  refine⟨a0 (·+fp.length) blk,by rw[F8 k VE,hk];rfl,jH _ _,?_⟩
  show(if k+fp.length<KB+fp.length then _ else _)=_
  rw[if_neg (by omega),Nat.add_sub_cancel]
 have iZ:Mem Δ:=by
  refine⟨λk blk hk=> ?_,λi j b hi hj q1 q2=> ?_,λb hb=>Nat.lt_of_lt_of_le (h2.ef b hb) e7.size,λb hb hp=> ?_,h2.mh hle⟩
  ·by_cases rT:k<KB+fp.length
   ·rw[F7 k rT]at hk
    have:=(h2.blk k blk hk).mono hle (λb hb=>rS b (h2.lt ⟨k,blk,hk,hb⟩))
    have e:Δ.ι k=Γ.ι k:=by simp[Δ,rT]
    rw[e];exact this
   ·have CG:=F8 (k-fp.length) (by omega)
    rw[show k-fp.length+fp.length=k by omega,hk]at CG
    obtain⟨b0,f3,rfl⟩:=Option.map_eq_some_iff.1 CG.symm
    have e:Δ.ι k=Γ'.ι (k-fp.length):=by simp[Δ,rT]
    rw[e]
    have AZ:B6 b0=true:=by
     rw[e5,fT]at f3
     split at f3
     ·exact List.all_eq_true.1 g2 b0 (List.mem_of_getElem? f3)
     ·simp at f3
    have:=e4.blk _ _ f3
    cases b0 with
    |
     box v=>
     obtain⟨b,c,e,q1,q2,q3⟩:=this
     exact⟨b,c,e,q1,q2,q3.G1 Zj AZ⟩
    |
     arr sz l=>
     obtain⟨q1,q2,q3⟩:=this
     refine⟨λx hx=> ?_,q2,?_⟩
     ·rw[z5]at hx
      obtain⟨y,hy,rfl⟩:=List.mem_map.1 hx
      rw[nO];exact q1 y hy
     ·cases hι:Γ'.ι (k-fp.length)with
      |none=>trivial
      |
       some b=>
       rw[hι]at q3
       obtain⟨c,e,cs,rest,r1,r2,r3,r4⟩:=q3
       exact⟨c,e,cs,rest,r1,r2,r3.QG Zj AZ,r4⟩
    |map b ks vs l=>exact this
  ·have key:∀k b,(get Δ.bx k).isSome=true->Δ.ι k=some b->(k<KB+fp.length∧(get Γ.bx k).isSome=true∧Γ.ι k=some b∧b<Γ.heap.size)∨(KB+fp.length≤k∧(get Γ'.bx (k-fp.length)).isSome=true∧Γ'.ι (k-fp.length)=some b∧Γ.heap.size≤b):=by
    intro k b hk hb
    by_cases rT:k<KB+fp.length
    ·left
     rw[F7 k rT]at hk
     have re:Γ.ι k=some b:=by simpa[Δ,rT]using hb
     obtain⟨blk,kO⟩:=Option.isSome_iff_exists.1 hk
     exact⟨rT,hk,re,h2.lt ⟨k,blk,kO,re⟩⟩
    ·right
     have CG:=F8 (k-fp.length) (by omega)
     rw[show k-fp.length+fp.length=k by omega]at CG
     rw[CG]at hk
     have hk3:(get Γ'.bx (k-fp.length)).isSome=true:=by simpa using hk
     have re:Γ'.ι (k-fp.length)=some b:=by simpa[Δ,rT]using hb
     obtain⟨blk,kO⟩:=Option.isSome_iff_exists.1 hk3
     exact⟨by omega,hk3,re,AT _ _ _ kO re⟩
   rcases key i b hi q1 with⟨a1,a2,a3,a4⟩|⟨a1,a2,a3,a4⟩<;>rcases key j b hj q2 with⟨c1,c2,c3,c4⟩|⟨c1,c2,c3,c4⟩
   ·exact h2.inj i j b a2 c2 a3 c3
   ·omega
   ·omega
   ·have:=e4.inj _ _ b a2 c2 a3 c3;omega
  ·obtain⟨k,blk,f1,f2⟩:=hb
   by_cases rT:k<KB+fp.length
   ·rw[F7 k rT]at f1
    have f2':Γ.ι k=some b:=by simpa[Δ,rT]using f2
    exact h2.apart b ⟨k,blk,f1,f2'⟩ hp
   ·have f2':Γ'.ι (k-fp.length)=some b:=by simpa[Δ,rT]using f2
    have CG:=F8 (k-fp.length) (by omega)
    rw[show k-fp.length+fp.length=k by omega,f1]at CG
    obtain⟨b0,f3,_⟩:=Option.map_eq_some_iff.1 CG.symm
    have:=AT _ _ _ f3 f2'
    have:=h2.ef b hp
    omega
 exact⟨v,_,_,Δ,e1,⟨r,new,e2,rfl,rfl⟩,e3,iZ,rfl,e6.ap1 Zj g1,hle,e8⟩
end Go.Ab
namespace Go.Ab
variable [eg]
variable {P:Program} {Γ Δ:Cx}
inductive Nz:List PV->List PV->Prop
 |nil:Nz [] []
 |same (p:PV) {l m:List PV}:Nz l m->Nz (p::l) (p::m)
 |sl (z z':Nat) (c c':Bool) {l m:List PV}:(c'=true->c=true)->Nz l m->Nz (.sl z [] c::l) (.sl z' [] c'::m)
 |st (w:Nat) {l' m' l m:List PV}:Nz l' m'->Nz l m->Nz (.st w l'::l) (.st w m'::m)
theorem Nz.refl:∀l,Nz l l
 |[]=> .nil
 |p::l=> .same p (Nz.refl l)
theorem Nz.rep {l m:List PV} (h:Nz l m):∀ {cs:List Value},aD Γ l cs->aD Γ m cs:=by
 induction h with
 |nil=>intro cs h;exact h
 |
  same p _ ih=>
  intro cs h
  obtain⟨c1,c2,rfl,h1,h2⟩:=h.nW
  exact h1.append (ih h2)
 |
  sl z z' c c' hc _ ih=>
  intro cs h
  cases h with
  |
   @sl _ _ Gk _ _ _ ad bu h1 h2 h3 h4 h5 h6=>
   exact .sl z' [] c' ad bu h1 (by simp) h3 (λe=>h4 (hc e)) (λfc=>absurd rfl fc) (ih h6)
 |
  st w _ _ ih1 ih2=>
  intro cs h
  cases h with
  | @st _ vs Gk _ _ h1 h2 h3=>exact .st w _ (ih1 h1) h2 (ih2 h3)
theorem Nz.length {l m:List PV} (h:Nz l m):m.length=l.length:=by induction h<;>simp_all
theorem Nz.wid {l m:List PV} {sz:Nat} (h:Nz l m):(∀x∈l,x.width=sz)->∀x∈m,x.width=sz:=by
 induction h with
 |nil=>intro h;exact h
 |
  same p _ ih=>
  intro h x hx
  rcases List.mem_cons.1 hx with rfl|hx
  ·exact h _ (by simp)
  ·exact ih (λy hy=>h y (by simp[hy])) x hx
 |
  sl z z' c c' _ _ ih=>
  intro h x hx
  rcases List.mem_cons.1 hx with rfl|hx
  ·exact h (.sl z [] c) (by simp)
  ·exact ih (λy hy=>h y (by simp[hy])) x hx
 |
  st w _ _ _ ih=>
  intro h x hx
  rcases List.mem_cons.1 hx with rfl|hx
  ·exact(h _ List.mem_cons_self:w=sz)
  ·exact ih (λy hy=>h y (by simp[hy])) x hx
theorem aN.nz {p q:PV} {v:Value} (h:Nz [p] [q]) (hr:aN Γ p v):aN Γ q v:=by
 generalize hl:[p]=l at h
 generalize hm:[q]=m at h
 cases h with
 |nil=>cases hl
 |same=>cases hl;cases hm;exact hr
 |
  sl z z' c c' hc ht=>
  cases hl;cases hm
  simp only[aN]at hr⊢
  exact(Nz.sl z z' c c' hc .nil).rep hr
 |
  st w h1 h2=>
  cases hl;cases hm
  obtain⟨cs,e,h⟩:=hr
  exact⟨cs,e,(Nz.st w h1 .nil).rep h⟩
theorem je.nz {p q:PV} {v:Value} (h:Nz [p] [q]) (hr:je Γ p v):je Γ q v:=by
 generalize hl:[p]=l at h
 generalize hm:[q]=m at h
 cases h with
 |nil=>cases hl
 |same=>cases hl;cases hm;exact hr
 |
  sl z z' c c' hc ht=>
  cases hl;cases hm
  simp only[je]at hr⊢
  exact(Nz.sl z z' c c' hc .nil).rep hr
 |
  st w h1 h2=>
  cases hl;cases hm
  obtain⟨cs,e,h⟩:=hr
  exact⟨cs,e,(Nz.st w h1 .nil).rep h⟩
inductive BN:a9->a9->Prop
 |same (b:a9):BN b b
 |arr (sz:Nat) {l m:List PV}:Nz l m->BN (.arr sz l) (.arr sz m)
 |box {v w:PV}:Nz [v] [w]->BN (.box v) (.box w)
theorem BN.aC {b b':a9} (h:BN b b'):b'.aC=b.aC:=by
 cases h with
 |same=>rfl
 |arr sz h=>exact h.length
 |box h=>rfl
theorem BN.rep {b b':a9} {o:Option Nat} (h:BN b b') (hr:b.vB Γ o):b'.vB Γ o:=by
 cases h with
 |same=>exact hr
 |
  arr sz h=>
  obtain⟨h1,h2,h3⟩:=hr
  refine⟨h.wid h1,h2,?_⟩
  cases o with
  |none=>trivial
  |
   some b=>
   obtain⟨c,e,cs,rest,h4,h5,h6,h7⟩:=h3
   exact⟨c,e,cs,rest,h4,h5,h.rep h6,h7⟩
 |
  box h=>
  obtain⟨b,c,e,h1,h2,h3⟩:=hr
  exact⟨b,c,e,h1,h2,h.rep h3⟩
inductive T2:List a9->List a9->Prop
 |nil:T2 [] []
 |cons {a b:a9} {l m:List a9}:BN a b->T2 l m->T2 (a::l) (b::m)
theorem T2.get {l m:List a9} (h:T2 l m):∀n k,(∀b,Ab.get (aG n l) k=some b->∃b',Ab.get (aG n m) k=some b'∧BN b b')∧(∀b',Ab.get (aG n m) k=some b'->∃b,Ab.get (aG n l) k=some b∧BN b b'):=by
 induction h with
 |nil=>intro n k;exact⟨λb h=>by simp[aG,Ab.get]at h,λb h=>by simp[aG,Ab.get]at h⟩
 |
  cons h1 _ ih=>
  intro n k
  have ih:=ih (n+1) k
  simp only[aG,Ab.get]
  by_cases e:KB+n=k
  ·simp only[e,if_true]
   exact⟨λb hb=>by cases hb;exact⟨_,rfl,h1⟩,λb hb=>by cases hb;exact⟨_,rfl,h1⟩⟩
  ·simp only[e,if_false];exact ih
theorem T3 {fp kP:List a9} (hm:Mem Γ) (hb:Γ.bx=aG 0 fp) (h:T2 fp kP):Mem {Γ with bx:=aG 0 kP}∧Le Γ {Γ with bx:=aG 0 kP}∧rm (λ_=>true) id Γ {Γ with bx:=aG 0 kP}:=by
 have hg:=h.get 0
 have Zk:∀x,({Γ with bx:=aG 0 kP}:Cx).il x->Γ.il x:=by
  rintro x ⟨k,blk,h1,h2⟩
  obtain⟨b,g1,_⟩:=(hg k).2 blk h1
  exact⟨k,b,by rw[hb];exact g1,h2⟩
 have hs:rm (λ_=>true) id Γ {Γ with bx:=aG 0 kP}:=by
  refine⟨rfl,λb _ hn ho=> ?_,λk blk _ hk=> ?_⟩
  ·rcases ho with ho|ho
   ·exact hn (.inl (Zk b ho))
   ·exact hn (.inr ho)
  ·rw[hb]at hk
   obtain⟨b',g1,g2⟩:=(hg k).1 blk hk
   exact⟨b',g1,g2.aC,rfl⟩
 have mQ:∀k,(Ab.get (aG 0 kP) k).isSome=true->(Ab.get Γ.bx k).isSome=true:=by
  intro k hk
  obtain⟨b',e⟩:=Option.isSome_iff_exists.1 hk
  obtain⟨b,g1,_⟩:=(hg k).2 b' e
  rw[hb,g1];rfl
 have hle:Le Γ {Γ with bx:=aG 0 kP}:=by
  refine⟨λ_ _ _=>rfl,λb _ h=>Zk b h,rfl,Nat.le_refl _,λk blk hk=> ?_⟩
  rw[hb]at hk
  obtain⟨b',g1,g2⟩:=(hg k).1 blk hk
  exact⟨b',g1,Nat.le_of_eq g2.aC.symm,λ_=>⟨rfl,λb _ cs e hh=>⟨cs,hh,rfl⟩⟩⟩
 refine⟨⟨λk blk hk=> ?_,λi j b hi hj h1 h2=>hm.inj i j b (mQ i hi) (mQ j hj) h1 h2,hm.ef,λb h hp=>hm.apart b (Zk b h) hp,hm.mh hle⟩,hle,hs⟩
 obtain⟨b,g1,g2⟩:=(hg k).2 blk hk
 have:=(hm.blk k b (by rw[hb];exact g1)).aF hs (nC b)
 rw[Ev (f:=λ_=>true) (nC b)]at this
 exact g2.rep this
theorem aN.same {kP:List a9} (hs:rm (λ_=>true) id Γ {Γ with bx:=aG 0 kP}) {p:PV} {v:Value} (h:aN Γ p v):aN {Γ with bx:=aG 0 kP} p v:=by
 have:=h.aF hs (ly p)
 rwa [uw (f:=λ_=>true) (ly p)]at this
theorem ah.nz {f:FuncId} {args:List PV} {fp:List a9} {R R':PV->List a9->Prop} (h:ah P f args fp R) (hr:∀r xB,R r xB->∃r' fp2,Nz [r] [r']∧T2 xB fp2∧R' r' fp2):ah P f args fp R':=by
 intro Γ w vs h1 h2 h3 h4
 refine(h Γ w vs h1 h2 h3 h4).mono ?_
 rintro e w' ⟨v,r,xB,Γ',e1,e2,e3,e4,e5,e6,e7,e8⟩
 obtain⟨r',fp2,n1,n2,n3⟩:=hr r xB e2
 obtain⟨m1,m2,m3⟩:=T3 e4 e5 n2
 exact⟨v,r',fp2,{Γ' with bx:=aG 0 fp2},e1,n3,e3,m1,rfl,(e6.nz n1).same m3,e7.trans m2,e8⟩
inductive Iq:List PV->List PV->Prop
 |nil:Iq [] []
 |cons {p q:PV} {l m:List PV}:Nz [p] [q]->Iq l m->Iq (p::l) (q::m)
theorem Iq.refl:∀l,Iq l l
 |[]=> .nil
 |p::l=> .cons (.refl _) (Iq.refl l)
theorem Iq.all {kP:List a9} (hs:rm (λ_=>true) id Γ {Γ with bx:=aG 0 kP}) {l m:List PV} (h:Iq l m):∀ {vs:List Value},gK Γ l vs->gK {Γ with bx:=aG 0 kP} m vs:=by
 induction h with
 |
  nil=>intro vs h;cases vs with
  |nil=>trivial
  |cons=>exact h.elim
 |
  cons h1 _ ih=>intro vs h;cases vs with
  |nil=>exact h.elim
  |cons v vs=>exact⟨(h.1.nz h1).same hs,ih h.2⟩
theorem Iq.ap2 {l m:List PV} (h:Iq l m):∀ {vs:List Value},jY Γ l vs->jY Γ m vs:=by
 induction h with
 |nil=>intro vs h;exact h
 |
  cons h1 _ ih=>intro vs h;cases vs with
  |nil=>exact h.elim
  |cons v vs=>exact⟨h.1.nz h1,ih h.2⟩
theorem ah.nzT {f:FuncId} {args:List PV} {fp:List a9} {R:PV->List a9->Prop} {l l':List PV} (h:ah P f args fp (λr kP=>r= .tup l∧kP=[])) (hl:Iq l l') (hR:R (.tup l') []):ah P f args fp R:=by
 intro Γ w vs h1 h2 h3 h4
 refine(h Γ w vs h1 h2 h3 h4).mono ?_
 rintro e w' ⟨v,r,xB,Γ',e1,⟨rfl,rfl⟩,e3,e4,e5,e6,e7,e8⟩
 obtain⟨us,hv,ha⟩:=e6
 exact⟨v,_,_,Γ',e1,hR,e3,e4,e5,⟨us,hv,hl.ap2 ha⟩,e7,e8⟩
theorem ah.nzA {f:FuncId} {args fQ:List PV} {fp kP:List a9} {R:PV->List a9->Prop} (h:ah P f fQ kP R) (ha:Iq args fQ) (hb:T2 fp kP):ah P f args fp R:=by
 intro Γ w vs h1 h2 h3 h4
 obtain⟨m1,m2,m3⟩:=T3 h2 h3 hb
 have h4':=ha.all m3 h4
 refine(h {Γ with bx:=aG 0 kP} w vs h1 m1 rfl h4').mono ?_
 rintro e w' ⟨v,r,xB,Γ',e1,e2,e3,e4,e5,e6,e7,e8⟩
 exact⟨v,r,xB,Γ',e1,e2,e3,e4,e5,e6,m2.trans e7,e8⟩
end Go.Ab
