/- Rules by which the abstract reading is worked out. No condition. -/
import Derived.Test.YtkbdeacknefoaaaGreatDoorA4
set_option linter.all false
namespace Go.Ab
variable [eo]
variable {P:Program}
structure Pure (p:PV):Prop where
 refs:∀f,ab f p=true
 az:∀ρ,az ρ p=p
 jI:∀k sz l0,jI k sz l0 p=p
structure aB (l:List PV):Prop where
 refs:∀f,ae f l=true
 az:∀ρ,aO ρ l=l
 jI:∀k sz l0,kW k sz l0 l=l
theorem Pure.of {p:PV} (h:ab (λ_=>false) p=true):Pure p where
 refs f:=ki (by simp) p h
 az ρ:=qC h
 jI k sz l0:=CT p (ki (by simp) p h)
theorem aB.of {l:List PV} (h:ae (λ_=>false) l=true):aB l where
 refs f:=fw (by simp) l h
 az ρ:=pL h
 jI k sz l0:=oy l (fw (by simp) l h)
theorem aB.mk' {l:List PV} (h:∀p∈l,Pure p):aB l:=by
 refine aB.of ?_
 induction l with
 |nil=>rfl
 |cons p l ih=>simp only[ae,aJ];exact⟨(h p (by simp)).refs _,ih λq hq=>h q (by simp[hq])⟩
theorem aB.map {α:Type} {e:α->PV} (h:∀x,Pure (e x)) (l:List α):aB (l.map e):=
 aB.mk' λp hp=>by obtain⟨x,_,rfl⟩:=List.mem_map.1 hp;exact h x
theorem aB.forget {l:List PV} (h:aB l):∀p∈l,Pure p:=by
 intro p hp
 have h0:=h.refs (λ_=>false)
 refine Pure.of ?_
 clear h
 induction l with
 |nil=>simp at hp
 |
  cons q l ih=>
  simp only[ae,aJ]at h0
  rcases List.mem_cons.1 hp with rfl|hp
  ·exact h0.1
  ·exact ih hp h0.2
theorem aB.append {l m:List PV} (h:aB l) (h':aB m):aB (l++m):=
 aB.mk' λp hp=>by rcases List.mem_append.1 hp with hp|hp;exact h.forget p hp;exact h'.forget p hp
theorem aB.take {l:List PV} (h:aB l) (n:Nat):aB (l.take n):=aB.mk' λp hp=>h.forget p (List.mem_of_mem_take hp)
theorem aB.drop {l:List PV} (h:aB l) (n:Nat):aB (l.drop n):=aB.mk' λp hp=>h.forget p (List.mem_of_mem_drop hp)
theorem aB.sl {l:List PV} (h:aB l) (sz:Nat) (c:Bool):Pure (.sl sz l c):=Pure.of (by simp only[ab];exact h.refs _)
theorem aB.st {l:List PV} (h:aB l) (w:Nat):Pure (.st w l):=Pure.of (by simp only[ab];exact h.refs _)
theorem aB.ar {l:List PV} (h:aB l) (sz n:Nat):Pure (.ar sz n l):=Pure.of (by simp only[ab];exact h.refs _)
def sn (sz bytes:Nat) (z:PV):aY:=⟨8,[.mv (.t 2)],
 .seq (.region [⟨(some 2),none,true,.mv (.c (.sl sz [] true))⟩])
 (.seq
    (.seq (.region [⟨(some 3),none,true,.mv (.t 0)⟩,
    ⟨(some 4),none,false,.isNil false (.t 3)⟩])
  (.cond (.t 4)
   (.seq (.region [⟨(some 2),none,true,.mv (.c (.sl sz [] true))⟩])
   (.ret))
   (.skip)))
 (.seq (.region [⟨(some 5),none,false,.buildSlice false sz z 0 []⟩,
   ⟨(some 6),none,true,.mv (.t 0)⟩,
   ⟨(some 7),none,false,.append sz bytes false (.t 5) (.t 6)⟩,
   ⟨(some 2),none,true,.mv (.t 7)⟩])
 (.ret)))⟩
theorem BZ {f:FuncId} {sz bytes:Nat} {z:PV} (ht:kL P [] [] f=some (sn sz bytes z).er) (iA:0<sz) {l:List PV} (hr:aB l) (c:Bool) (h1:l.length*bytes≤140737488355328) (h2:l.length≤9223372036854775807):
  af P f [.sl sz l c] [] (λr fp=>r= .rs KB [] 0 l.length l.length sz .tip∧fp=[.arr sz l]):=by
 refine af.intro ht (by simp[sn]) ?_
 simp[sn,aw,Hv,jd,kV,ow,ev,ex,vg,vx,get,ai,th,aG,St.put,put,y5,dJ,src,content,gP]
 refine⟨⟨⟨h1,h2⟩,?_⟩,?_⟩
 ·refine⟨[],[7],?_⟩
  simp[gQ,get,FJ,ev,vg,vx,getAll,eX,gF,PV.flat,hr.refs,hr.az,ab,ah,aM,az,bE,idx,bS]
 ·rintro rfl
  refine⟨[.vt 2 7 sz],[7],?_⟩
  simp[gQ,kj,Uw,iA,get,put,FJ,ev,vg,vx,getAll,eX,gF,PV.flat,ab,ae,ah,aM,az,aO,bE,idx,bS]
end Go.Ab
namespace Go.Ab
variable [eo]
variable {P:Program} [gK]
@[congr] theorem aa5 {mx:Bool} {a a':Int} {l l':List PV} {K:Int->Prop} (h1:a=a') (h2:l=l'):nk mx a l K=nk mx a' l' K:=by subst h1 h2;rfl
@[congr] theorem Sj {s s':St} {d:Option Nat} {sz b:Nat} {p p':PV} {ys ys':List PV} {K:St->Prop} (h:s=s') (h1:p=p') (h2:ys=ys'):gP s d sz b p ys K=gP s' d sz b p' ys' K:=by subst h h1 h2;rfl
@[congr] theorem aiv {s s':St} {o:AO} {K:St->Prop} (h:s=s'):jd P s o K=jd P s' o K:=by subst h;rfl
@[congr] theorem amn {s s':St} {c:dD} {Q:Exit->St->Prop} (h:s=s'):aw P c Q s=aw P c Q s':=by subst h;rfl
@[congr] theorem afW {s s':St} {c:List Cut} {K:St->Prop} (h:s=s'):gQ c s K=gQ c s' K:=by subst h;rfl
end Go.Ab
namespace Go.Ab
variable [eo]
variable {P:Program} {s:St} {g:Bool}
def cU {α:Type}:Option α->(α->Prop)->Prop
 |some a,K=>K a
 |none,_=>False
@[congr] theorem afX {α:Type} {o o':Option α} {K:α->Prop} (h:o=o'):cU o K=cU o' K:=by subst h;rfl
@[simp↓] theorem B4 {α:Type} (a:α) (K:α->Prop):cU (some a) K=K a:=id rfl
@[simp↓] theorem Yp {α:Type} (K:α->Prop):cU none K=False:=id rfl
def iv (g:Bool):PV->(PV->Prop)->Prop
 | .gd b p,K=>(g=true->b=true)∧K p
 |p,K=>K p
@[congr] theorem aiw {g g':Bool} {p p':PV} {K:PV->Prop} (h:g=g') (h1:p=p'):iv g p K=iv g' p' K:=by subst h h1;rfl
theorem j7 (x:AX) (K:PV->Prop):vg g s x K=iv g (vx s x) K:=by unfold vg;cases vx s x<;>rfl
def vn (x:Bool) (K:PV->Prop):PV->PV->Prop
 | .bl ya,.bl yb=>K (.bl (bif x then ya else yb))
 | .bl ya,.gd gb (.bl yb)=>(x=false->gb=true)∧K (.bl (bif x then ya else yb))
 | .gd ga (.bl ya),.bl yb=>(x=true->ga=true)∧K (.bl (bif x then ya else yb))
 | .gd ga (.bl ya),.gd gb (.bl yb)=>((x=true->ga=true)∧(x=false->gb=true))∧K (.bl (bif x then ya else yb))
 | .bl ya,.un=>x=true∧K (.bl ya)
 | .un,.bl yb=>x=false∧K (.bl yb)
 |_,_=>False
@[congr] theorem aa6 {x x':Bool} {K:PV->Prop} {p p' q q':PV} (h:x=x') (h1:p=p') (h2:q=q'):vn x K p q=vn x' K p' q':=by subst h h1 h2;rfl
def Sk (s:St) (a b:AX) (K:PV->Prop):PV->Prop
 | .bl x=>vn x K (vx s a) (vx s b)
 |_=>False
theorem UC (c a b:AX) (K:PV->Prop):ev g s (.pick c a b) K=iv g (vx s c) (Sk s a b K):=by
 simp only[ev,j7];congr 1
def C0 (ps:List (Nat×PV)) (K:PV->Prop):PV->Prop
 | .st w l=>cU (dJ l ps) λl'=>K (.st w l')
 | .ar sz n l=>cU (dJ l ps) λl'=>K (.ar sz n l')
 |_=>False
theorem OU (z:PV) (parts:List (Nat×AX)) (K:PV->Prop):ev g s (.build z parts) K=y5 g s parts λps=>C0 ps K z:=by
 simp only[ev];congr 1;funext ps;cases z<;>simp only[C0]<;>first|rfl|(unfold cU;(repeat' split)<;>simp_all;done)
def HQ (s:St) (agg:Bool) (w:Nat) (K:PV->Prop):PV->Prop
 | .pt k p aK=>cU (get s.bx k) λblk=>cU (ku blk p) λu=>(aK=blk.aK∧u.width=w∧u.isAgg=agg)∧K u
 | .fp sz l p=>cU (ku (.arr sz l) p) λu=>(u.width=w∧u.isAgg=agg)∧K u
 |_=>False
theorem UD (agg:Bool) (w:Nat) (x:AX) (K:PV->Prop):ev g s (.load agg w x) K=iv g (vx s x) (HQ s agg w K):=by
 simp only[ev,j7];congr 1;funext p;cases p<;>simp only[HQ]<;>first|rfl|(unfold cU;(repeat' split)<;>simp_all;done)
def UE (s:St) (K:PV->Prop):PV->Prop
 | .pt k p aK=>cU (get s.bx k) λblk=>aK=blk.aK∧K (.pt k p aK)
 | .fp sz l p=>K (.fp sz l p)
 | .fn (.func f) a b=>K (.fn (.func f) a b)
 |_=>False
theorem Gs (x:AX) (K:PV->Prop):ev g s (.nilCheck x) K=iv g (vx s x) (UE s K):=by
 simp only[ev,j7];congr 1;funext p
 cases p<;>(try(rename_i f a b;cases f))<;>simp only[UE]<;>first|rfl|(unfold cU;(repeat' split)<;>simp_all;done)
def aa7 (s:St) (op:BinOp) (K:PV->Prop):PV->PV->Prop
 | .np,.np=>tM op true K
 | .pt k _ aK,.np=>cU (get s.bx k) λblk=>aK=blk.aK∧tM op false K
 | .fp _ _ _,.np=>tM op false K
 |_,_=>False
def ky (op:BinOp) (K:PV->Prop):PV->PV->Prop
 | .int k a,.int k' b=>(op= .shl∨op= .shr∨k=k')∧pC op k a b K
 | .str a,.str b=>xZ op a b K
 |_,_=>False
def aa8 (op:BinOp) (K:PV->Prop):PV->PV->Prop
 | .bl a,.bl b=>tM op (a==b) K
 |_,_=>False
theorem UF (op:BinOp) (x y:AX) (K:PV->Prop):ev g s (.bin op .no x y) K=iv g (vx s x) λp=>iv g (vx s y) λq=>ky op K p q:=by
 simp only[ev,j7];congr 1
theorem UG (op:BinOp) (x y:AX) (K:PV->Prop):ev g s (.bin op .bl x y) K=iv g (vx s x) λp=>iv g (vx s y) λq=>aa8 op K p q:=by
 simp only[ev,j7];congr 1
theorem UH (op:BinOp) (x y:AX) (K:PV->Prop):ev g s (.bin op .ptr x y) K=iv g (vx s x) λp=>iv g (vx s y) λq=>aa7 s op K p q:=by
 simp only[ev,j7];congr 1;funext p;congr 1;funext q;cases p<;>cases q<;>simp only[qW,aa7]<;>first|rfl|(unfold cU;(repeat' split)<;>simp_all;done)
theorem UI (op:BinOp) (sh:Sh) (x y:AX) (K:PV->Prop):ev g s (.bin op (.sh sh) x y) K=iv g (vx s x) λp=>iv g (vx s y) λq=>(fits sh p=true∧fits sh q=true)∧tM op (PV.beq p q) K:=by
 simp only[ev,j7];congr 1
def rr (K:Int->Prop):PV->Prop
 | .int _ n=>K n
 |_=>False
theorem oW (p:PV) (K:Int->Prop):ot p K=rr K p:=by cases p<;>rfl
def unK (op:UnOp) (K:PV->Prop):PV->Prop
 | .bl b=>(match op with| .not=>K (.bl (!b))|_=>False)
 | .int k n=>(match op with| .neg=>K (.int k (k.wrap (0-n)))| .xor=>K (.int k (bits .xor k (if k.signed then-1 else k.max) n))|_=>False)
 |_=>False
theorem aiy (op:UnOp) (x:AX) (K:PV->Prop):ev g s (.un op x) K=iv g (vx s x) (unK op K):=by
 simp only[ev,j7];congr 1;funext p;cases p<;>cases op<;>rfl
def wQ (s:St) (K:Nat->List PV->Prop):PV->Prop
 | .sl sz l _=>K sz l
 |
  .rs k p off len aK sz _=>cU (get s.bx k) λ
  | .arr cR l=>(aK=l.length∧p=[]∧sz=cR∧off+len≤l.length)∧K sz ((l.drop off).take len)
  |
   .box v=>cU (aX v p) λ
   | .ar cR n l=>(aK=0∧sz=cR∧off+len≤n)∧K sz ((l.drop off).take len)
   |_=>False
  | .map .. =>False
 |_=>False
theorem sY (p:PV) (K:Nat->List PV->Prop):content s p K=wQ s K p:=by
 cases p<;>simp only[content,wQ]
 rename_i k p off len aK sz c
 cases get s.bx k with
 |none=>rfl
 |
  some b=>
  cases b with
  |arr cR l=>rfl
  |
   box v=>
   simp only[B4]
   cases aX v p with
   |none=>rfl
   |some u=>cases u<;>rfl
  |map b ks vs l=>rfl
theorem OV (x:AX) (K:PV->Prop):ev g s (.convS x) K=iv g (vx s x) (wQ s λsz l=>sz=1∧cU (ir l) λbs=>K (.str bs)):=by
 simp only[ev,j7];congr 1;funext p;rw[sY];congr 1;funext sz l;cases ir l<;>rfl
def yG (s:St) (i off:Nat) (K:PV->Prop):PV->Prop
 | .pt k p aK=>cU (get s.bx k) λblk=>aK=blk.aK∧K (.pt k (p++[.f i off]) aK)
 | .fp sz l p=>K (.fp sz l (p++[.f i off]))
 |_=>False
theorem Lz (i off:Nat) (x:AX) (K:PV->Prop):ev g s (.fieldA i off x) K=iv g (vx s x) (yG s i off K):=by
 simp only[ev,j7];congr 1;funext p;cases p<;>simp only[yG]<;>first|rfl|(unfold cU;(repeat' split)<;>simp_all;done)
def UJ (s:St) (n sz:Nat) (K:PV->Prop):PV->Prop
 | .sl cR l _=>(cR=sz∧0<n∧n≤l.length)∧K (.fp sz l [.w 0 n sz])
 | .rs k p off len aK cR _=>cU (get s.bx k) λblk=>(aK=blk.aK∧cR=sz∧0<n∧n≤len)∧K (.pt k (p++[.w off n sz]) aK)
 |_=>False
theorem aa9 (n sz:Nat) (x:AX) (K:PV->Prop):ev g s (.s2a n sz x) K=iv g (vx s x) (UJ s n sz K):=by
 simp only[ev,j7];congr 1;funext p;cases p<;>simp only[UJ]<;>first|rfl|(unfold cU;(repeat' split)<;>simp_all;done)
def LA (i off:Nat) (agg:Bool) (w:Nat) (K:PV->Prop):PV->Prop
 | .st _ l=>cU l[i]? λc=>(av (l.take i)=off∧c.width=w∧c.isAgg=agg)∧K c
 |_=>False
theorem OW (i off:Nat) (agg:Bool) (w:Nat) (x:AX) (K:PV->Prop):ev g s (.field i off agg w x) K=iv g (vx s x) (LA i off agg w K):=by
 simp only[ev,j7];congr 1;funext p;cases p<;>simp only[LA]<;>first|rfl|(unfold cU;(repeat' split)<;>simp_all;done)
def oi (s:St) (sz:Nat) (j:Int) (K:PV->Prop):PV->Prop
 | .sl cR l _=>(cR=sz∧0≤j∧j<l.length)∧K (.fp sz l [.i j.toNat sz])
 | .rs k p off len aK cR _=>cU (get s.bx k) λblk=>(aK=blk.aK∧cR=sz∧0≤j∧j<len)∧K (.pt k (p++[.i (off+j.toNat) sz]) aK)
 |_=>False
theorem Es (sz:Nat) (x i:AX) (K:PV->Prop):ev g s (.indexA (.sl sz) x i) K=iv g (vx s x) λp=>iv g (vx s i) (rr λj=>oi s sz j K p):=by
 simp only[ev,j7,oW];congr 1;funext p;congr 1;funext q;congr 1;funext j;cases p<;>simp only[oi]<;>first|rfl|(unfold cU;(repeat' split)<;>simp_all;done)
def LB (s:St) (sz:Nat) (j:Int) (K:PV->Prop):PV->Prop
 | .pt k p aK=>cU (get s.bx k) λblk=>aK=blk.aK∧K (.pt k (p++[.i j.toNat sz]) aK)
 | .fp cR l p=>K (.fp cR l (p++[.i j.toNat sz]))
 |_=>False
theorem Et (n sz:Nat) (x i:AX) (K:PV->Prop):ev g s (.indexA (.ar n sz) x i) K=iv g (vx s x) λp=>iv g (vx s i) (rr λj=>(0≤j∧j<n)∧LB s sz j K p):=by
 simp only[ev,j7,oW];congr 1;funext p;congr 1;funext q;congr 1;funext j;cases p<;>simp only[LB]<;>first|rfl|(unfold cU;(repeat' split)<;>simp_all;done)
@[congr] theorem aba {s s':St} {sz:Nat} {j j':Int} {K:PV->Prop} {p p':PV} (h:s=s') (h1:j=j') (h2:p=p'):oi s sz j K p=oi s' sz j' K p':=by subst h h1 h2;rfl
def UK (agg:Bool) (n w:Nat) (j:Int) (K:PV->Prop):PV->Prop
 | .ar sz n' l=>cU l[j.toNat]? λc=>(0≤j∧j<n∧n'=n∧sz=w∧c.isAgg=agg)∧K c
 |_=>False
theorem OX (agg:Bool) (n w:Nat) (x i:AX) (K:PV->Prop):ev g s (.index agg n w x i) K=iv g (vx s x) λp=>iv g (vx s i) (rr λj=>UK agg n w j K p):=by
 simp only[ev,j7,oW];congr 1;funext p;congr 1;funext q;congr 1;funext j;cases p<;>simp only[UK]<;>first|rfl|(unfold cU;(repeat' split)<;>simp_all;done)
def UL (j:Int) (K:PV->Prop):PV->Prop
 | .str bs=>cU bs[j.toNat]? λc=>0≤j∧K (.int .u8 c.toNat)
 |_=>False
theorem LC (x i:AX) (K:PV->Prop):ev g s (.indexS x i) K=iv g (vx s x) λp=>iv g (vx s i) (rr λj=>UL j K p):=by
 simp only[ev,j7,oW];congr 1;funext p;congr 1;funext q;congr 1;funext j;cases p<;>simp only[UL]<;>first|rfl|(unfold cU;(repeat' split)<;>simp_all;done)
def LD (i:Nat) (K:PV->Prop):PV->Prop
 | .tup l=>cU l[i]? K
 |_=>False
@[congr] theorem afY {i:Nat} {K:PV->Prop} {p p':PV} (h:p=p'):LD i K p=LD i K p':=by subst h;rfl
theorem Jo (i:Nat) (x:AX) (K:PV->Prop):ev g s (.extract i x) K=LD i K (vx s x):=by
 simp only[ev];cases vx s x<;>simp only[LD]<;>first|rfl|(unfold cU;(repeat' split)<;>simp_all;done)
def vo (s:St) (K:PV->Prop):PV->Prop
 | .sl _ l _=>K (.int .i64 l.length)
 | .rs k _ _ len aK _ _=>cU (get s.bx k) λblk=>aK=blk.aK∧K (.int .i64 len)
 |_=>False
theorem abb (x:AX) (K:PV->Prop):ev g s (.len x) K=iv g (vx s x) (vo s K):=by
 simp only[ev,j7];congr 1;funext p;cases p<;>simp only[vo]<;>first|rfl|(unfold cU;(repeat' split)<;>simp_all;done)
end Go.Ab
namespace Go.Ab
variable [eo]
variable {P:Program} {s:St} {g:Bool}
def Sl (s:St) (g:Bool) (lo hi mx:Option AX) (K:PV->Prop):PV->Prop
 | .str bs=>mx.isNone=true∧kU g s lo hi bs.length bs.length λl h=>K (.str ((bs.take h).drop l))
 |_=>False
theorem Eu (x:AX) (lo hi mx:Option AX) (K:PV->Prop):ev g s (.slice .str x lo hi mx) K=iv g (vx s x) (Sl s g lo hi mx K):=by
 simp only[ev,j7];congr 1
def LF (s:St) (g:Bool) (n sz:Nat) (lo hi mx:Option AX) (K:PV->Prop):PV->Prop
 | .ar z' n' l'=>(z'=sz∧n'=n∧mx.isNone=true)∧kU g s lo hi n n λa b=>K (.sl sz ((l'.take b).drop a) (decide (b=n)))
 |_=>False
def OY (s:St) (g:Bool) (n sz:Nat) (lo hi mx:Option AX) (K:PV->Prop):PV->Prop
 | .pt k p aK=>cU (get s.bx k) λblk=>aK=blk.aK∧mx.isNone=true∧kU g s lo hi n n λa b=>K (.rs k p a (b-a) aK sz (if b=n then .clip else .any))
 | .fp z l q=>cU (ku (.arr z l) q) (LF s g n sz lo hi mx K)
 |_=>False
theorem Gt (n sz:Nat) (x:AX) (lo hi mx:Option AX) (K:PV->Prop):ev g s (.slice (.ar n sz) x lo hi mx) K=iv g (vx s x) (OY s g n sz lo hi mx K):=by
 simp only[ev,j7];congr 1;funext p;cases p<;>simp only[OY]<;>first|rfl|(unfold cU;(repeat' split)<;>simp_all;done)|(rename_i z l q;cases ku (.arr z l) q with|none=>rfl|some u=>cases u<;>rfl)
def OZ (s:St) (g:Bool) (sz:Nat) (lo hi:Option AX) (K:PV->Prop):PV->Prop
 | .sl cR l clip=>kU g s lo hi l.length l.length λa b=>(cR=sz)∧K (.sl sz ((l.take b).drop a) (clip&&decide (b=l.length)))
 | .rs k p off len aK cR c=>cU (get s.bx k) λblk=>(aK=blk.aK∧cR=sz)∧kU g s lo hi len (Bc c off len aK) λa b=>K (.rs k p (off+a) (b-a) aK sz (Cu c a (decide (b=len))))
 |_=>False
theorem Gu (sz:Nat) (x:AX) (lo hi:Option AX) (K:PV->Prop):ev g s (.slice (.sl sz) x lo hi none) K=iv g (vx s x) (OZ s g sz lo hi K):=by
 simp only[ev,j7];congr 1;funext p;cases p<;>simp only[OZ]<;>first|rfl|(unfold cU;(repeat' split)<;>simp_all;done)
@[simp] theorem abc (off len aK:Nat):Bc .tip off len aK=len:=_root_.id rfl
@[simp] theorem Yq (n off len aK:Nat):Bc (.full n) off len aK=if off+n≤aK∧len≤n then n else len:=_root_.id rfl
@[simp] theorem abd (a:Nat) (e:Bool):Cu .tip a e= .tip:=_root_.id rfl
@[simp] theorem Yr (n a:Nat) (e:Bool):Cu (.full n) a e= .full (n-a):=_root_.id rfl
def LG (s:St) (g:Bool) (sz:Nat) (lo hi:Option AX) (m:AX) (K:PV->Prop):PV->Prop
 | .sl cR l _=>iv g (vx s m) (rr λm=>(0≤m∧m≤l.length)∧kU g s lo hi l.length m.toNat λa b=>(cR=sz)∧K (.sl sz ((l.take b).drop a) (decide (b=m.toNat))))
 | .rs k p off len aK cR _=>cU (get s.bx k) λblk=>(aK=blk.aK∧cR=sz)∧iv g (vx s m) (rr λm=>(0≤m∧m≤len)∧kU g s lo hi len m.toNat λa b=>K (.rs k p (off+a) (b-a) aK sz (if b=m.toNat then .clip else .any)))
 |_=>False
theorem Gv (sz:Nat) (x:AX) (lo hi:Option AX) (m:AX) (K:PV->Prop):ev g s (.slice (.sl sz) x lo hi (some m)) K=iv g (vx s x) (LG s g sz lo hi m K):=by
 simp only[ev,j7];congr 1;funext p;cases p<;>simp only[LG,oW]<;>first|rfl|(unfold cU;(repeat' split)<;>simp_all;done)
def Jp (g:Bool) (s:St) (lo:Option AX) (K:Nat->Nat->Prop) (h:Nat):Prop:=
 match lo with|none=>K 0 h|some x=>iv g (vx s x) (rr λl=>(0≤l∧l≤h)∧K l.toNat h)
theorem LH (lo:Option AX) (len cap:Nat) (K:Nat->Nat->Prop):kU g s lo none len cap K=Jp g s lo K len:=by
 cases lo<;>simp only[kU,Jp,j7,oW]
theorem LI (lo:Option AX) (x:AX) (len cap:Nat) (K:Nat->Nat->Prop):kU g s lo (some x) len cap K=iv g (vx s x) (rr λh=>(0≤h∧h≤cap)∧Jp g s lo K h.toNat):=by
 cases lo<;>simp only[kU,Jp,j7,oW]
end Go.Ab
namespace Go.Ab
variable [eo]
variable {P:Program} {s:St} {g:Bool}
def O0 (s:St) (sz:Nat) (K:List PV->Prop) (q:PV):Prop:=wQ s (λcR ys=>(ys=[]∨cR=sz)∧K ys) q
theorem Sm (sz:Nat) (q:PV) (K:List PV->Prop):src s false sz q K=O0 s sz K q:=by simp only[src,fJ,if_false,O0,sY]
def abe (sz:Nat) (K:List PV->Prop):PV->Prop
 | .str bs=>sz=1∧K (bs.map u8)
 |_=>False
theorem LJ (sz:Nat) (q:PV) (K:List PV->Prop):src s true sz q K=abe sz K q:=by simp only[src,if_true];cases q<;>rfl
theorem LK (d:Option Nat) (sz bytes:Nat) (str:Bool) (x y:AX) (K:St->Prop):ex s d (.append sz bytes str x y) K=iv true (vx s x) λp=>iv true (vx s y) λq=>src s str sz q λys=>gP s d sz bytes p ys K:=by
 simp only[ex,j7]
theorem O1 (k:Nat) (z:PV) (K:St->Prop):ex s (some k) (.alloc z) K=(get s.bx k=none∧K {env:=put s.env k (.pt k [] 0),bx:=put s.bx k (.box z)}):=id rfl
theorem abf (k:Nat) (x:AX) (K:St->Prop):ex s (some k) (.box x) K=iv true (vx s x) λp=>(get s.bx k=none∧p.bG=true)∧K {env:=put s.env k (.pt k [] 0),bx:=put s.bx k (.box p)}:=by
 simp only[ex,j7]
theorem Aa (d:Option Nat) (sz n:Nat) (z:PV) (parts:List (Nat×AX)) (K:St->Prop):ex s d (.buildSlice false sz z n parts) K=y5 true s parts λps=>cU (dJ (List.replicate n z) (ps.map λx=>(x.1,wk x.2))) λl=>K (s.put d (.sl sz l true)):=by
 simp only[ex,fJ,if_false];congr 1;funext ps;cases dJ (List.replicate n z) (ps.map λx=>(x.1,wk x.2))<;>rfl
theorem Ac (k:Nat) (sz n:Nat) (z:PV) (parts:List (Nat×AX)) (K:St->Prop):ex s (some k) (.buildSlice true sz z n parts) K=y5 true s parts λps=>cU (dJ (List.replicate n z) (ps.map λx=>(x.1,wk x.2))) λl=>get s.bx k=none∧K {env:=put s.env k (.rs k [] 0 n n sz .tip),bx:=put s.bx k (.arr sz l)}:=by
 simp only[ex,if_true];congr 1;funext ps;cases dJ (List.replicate n z) (ps.map λx=>(x.1,wk x.2))<;>rfl
def Sn (s:St) (d k len aK sz cR bytes:Nat) (ys:List PV) (K:St->Prop):br->Prop
 | .arr sz'' l=>(aK=l.length∧len=l.length∧cR=sz∧sz''=sz∧(l.length+ys.length)*bytes≤140737488355328∧l.length+ys.length≤9223372036854775807)∧
   K {env:=put s.env d (.rs k [] 0 (l.length+ys.length) (l.length+ys.length) sz .tip),bx:=put s.bx k (.arr sz (l++ys))}
 |_=>False
theorem
    O2 (d sz bytes sz0:Nat) (l ys:List PV) (K:St->Prop):gP s (some d) sz bytes (.sl sz0 l true) ys K=((get s.bx d=none∧(l=[]∨(sz0=sz∧ys≠[]))∧(l.length+ys.length)*bytes≤140737488355328∧l.length+ys.length≤9223372036854775807)∧
    K {env:=put s.env d (.rs d [] 0 (l.length+ys.length) (l.length+ys.length) sz .tip),bx:=put s.bx d (.arr sz (l++ys))}):=rfl
theorem LL (d sz bytes k len aK cR:Nat) (ys:List PV) (K:St->Prop):gP s (some d) sz bytes (.rs k [] 0 len aK cR .tip) ys K=cU (get s.bx k) (Sn s d k len aK sz cR bytes ys K):=by
 simp only[gP]
 cases get s.bx k with
 |none=>rfl
 |some b=>cases b<;>rfl
def LM (s:St) (d k len aK n sz cR bytes:Nat) (ys:List PV) (K:St->Prop):br->Prop
 | .arr sz'' l=>(aK=l.length∧cR=sz∧sz''=sz∧len≤n∧n≤l.length∧ys≠[]∧get s.bx d=none∧(len+ys.length)*bytes≤140737488355328∧len+ys.length≤9223372036854775807)∧
    (len+ys.length≤n->K {env:=put s.env d (.rs k [] 0 (len+ys.length) aK sz (.full n)),bx:=put s.bx k (.arr sz (l.take len++ys++l.drop (len+ys.length)))})∧
    (n<len+ys.length->K {env:=put s.env d (.rs d [] 0 (len+ys.length) (len+ys.length) sz .tip),bx:=put s.bx d (.arr sz (l.take len++ys))})
 |_=>False
theorem Jq (d sz bytes k len aK cR n:Nat) (ys:List PV) (K:St->Prop):gP s (some d) sz bytes (.rs k [] 0 len aK cR (.full n)) ys K=cU (get s.bx k) (LM s d k len aK n sz cR bytes ys K):=by
 simp only[gP]
 cases get s.bx k with
 |none=>rfl
 |some b=>cases b<;>rfl
def apZ (s:St) (d k len aK n sz cR bytes:Nat) (z:PV) (m:Int) (K:St->Prop):br->Prop
 | .arr sz'' l=>(get s.bx d=none∧aK=l.length∧cR=sz∧sz''=sz∧len≤n∧n≤l.length∧0<m∧n<len+m.toNat∧(len+m.toNat)*bytes≤140737488355328∧len+m.toNat≤9223372036854775807)∧
    K {env:=put s.env d (.rs d [] 0 (len+m.toNat) (len+m.toNat) sz .tip),bx:=put s.bx d (.arr sz (l.take len++List.replicate m.toNat z))}
 |_=>False
theorem Gw (d sz bytes k len aK cR n:Nat) (z:PV) (m:Int) (K:St->Prop):oO s (some d) sz bytes z (.rs k [] 0 len aK cR (.full n)) m K=cU (get s.bx k) (apZ s d k len aK n sz cR bytes z m K):=by
 simp only[oO]
 cases get s.bx k with
 |none=>rfl
 |some b=>cases b<;>rfl
theorem Jr (d:Option Nat) (sz bytes:Nat) (z:PV) (x y:AX) (K:St->Prop):ex s d (.appendZ sz bytes z x y) K=iv true (vx s x) λp=>iv true (vx s y) (rr λm=>oO s d sz bytes z p m K):=by
 simp only[ex,j7,oW]
theorem
    Js (d sz bytes k off len aK cR:Nat) (p:List Step) (ys:List PV) (K:St->Prop):gP s (some d) sz bytes (.rs k p off len aK cR .clip) ys K=wQ s (λsz'' l=>(get s.bx d=none∧sz''=sz∧ys≠[]∧(l.length+ys.length)*bytes≤140737488355328∧l.length+ys.length≤9223372036854775807)∧
    K {env:=put s.env d (.rs d [] 0 (l.length+ys.length) (l.length+ys.length) sz .tip),bx:=put s.bx d (.arr sz (l++ys))}) (.rs k p off len aK cR .clip):=by
 rw[←sY]
 cases p<;>cases off<;>rfl
end Go.Ab
namespace Go.Ab
variable [eo]
variable {P:Program} {s:St} {g:Bool} [gK]
def Gx (s:St) (n:Nat) (v:PV) (K:St->Prop):PV->Prop
 | .pt k pth aK=>cU (get s.bx k) λblk=>cU (sc blk pth (Us blk v)) λb8=>(aK=blk.aK∧v.width=n∧v.bG=true)∧K {s with bx:=put s.bx k b8}
 |_=>False
theorem O3 (d:Option Nat) (n:Nat) (x y:AX) (K:St->Prop):ex s d (.store n x y) K=iv true (vx s x) λp=>iv true (vx s y) λv=>Gx s n v K p:=by
 simp only[ex,j7];congr 1;funext p;congr 1;funext v
 cases p<;>simp only[Gx]
 rename_i k pth aK
 cases get s.bx k with
 |none=>rfl
 |some b=>simp only[B4];cases sc b pth (Us b v)<;>rfl
def LN (s:St) (d:Option Nat) (ng:Bool) (K:St->Prop):PV->Prop
 | .sl _ l _=>∀b:Bool,(b=true->l=[])->K (s.put d (.bl (b !=ng)))
 | .rs k _ _ len aK _ _=>cU (get s.bx k) λblk=>aK=blk.aK∧∀b:Bool,(b=true->len=0)->K (s.put d (.bl (b !=ng)))
 |_=>False
theorem O4 (d:Option Nat) (ng:Bool) (x:AX) (K:St->Prop):ex s d (.isNil ng x) K=iv true (vx s x) (LN s d ng K):=by
 simp only[ex,j7];congr 1;funext p
 cases p<;>simp only[LN]
 rename_i k _ _ _ _ _ _
 cases get s.bx k<;>rfl
theorem Ev (k sz bytes:Nat) (z:PV) (len cap:AX) (K:St->Prop):ex s (some k) (.makeSlice sz bytes z len cap) K=iv true (vx s len) (rr λl=>iv true (vx s cap) (rr λc=>
  (get s.bx k=none∧0≤l∧l≤c∧c*bytes≤281474976710656∧c≤9223372036854775807)∧
    K {env:=put s.env k (.rs k [] 0 l.toNat l.toNat sz .tip),bx:=put s.bx k (.arr sz (List.replicate l.toNat z))})):=by
 simp only[ex,j7,oW]
def B5 (want mg:Bool) (M:Bool->Prop) (D U:Prop):PV->Prop
 | .bl b=>if mg=true then M (b==want)else(b=want->D)∧(b≠want->U)
 | .gd g (.bl b)=>if mg=true then M (g&&b==want)else(g=true->b=want->D)∧((g=true->b≠want)->U)
 |_=>False
@[congr] theorem aiz {want mg:Bool} {M:Bool->Prop} {D U:Prop} {p p':PV} (h:p=p'):B5 want mg M D U p=B5 want mg M D U p':=by subst h;rfl
theorem O5 (d:Option Nat) (sl:Nat) (want mg:Bool) (k:AK) (K:St->Prop):jd P s ⟨d,some (sl,want),mg,k⟩ K=
  B5 want mg (λg=>ev g s k λp=>K (s.put d (.gd g p))) (kV P s ⟨d,some (sl,want),mg,k⟩ K) (K (s.put d .un)) ((get s.env sl).getD .un):=by
 simp only[jd]
 generalize (get s.env sl).getD .un=p
 cases p<;>try rfl
def O6 (A B:Prop):PV->Prop
 | .bl b=>(b=true->A)∧(b=false->B)
 | .gd g (.bl b)=>g=true∧(b=true->A)∧(b=false->B)
 |_=>False
@[congr] theorem aiA {A B:Prop} {p p':PV} (h:p=p'):O6 A B p=O6 A B p':=by subst h;rfl
theorem UM (c:AX) (x y:dD) (Q:Exit->St->Prop):aw P (.cond c x y) Q s=O6 (aw P x Q s) (aw P y Q s) (vx s c):=by
 simp only[aw]
 generalize vx s c=p
 cases p<;>try rfl
def abg (P:Program) (s:St) (d:Option Nat) (K:St->Prop) (args:List PV):PV->Prop
 | .fn (.func fid) first cap=>∃ks os,uQ P s d fid (first++args++cap) ks os K
 | .fn (.yield l) [] []=>F4 s d l args K
 |_=>False
theorem O7 (K:List PV->Prop):uD g s [] K=K []:=id rfl
theorem O8 (x:AX) (xs:List AX) (K:List PV->Prop):uD g s (x::xs) K=iv g (vx s x) λp=>uD g s xs λps=>K (p::ps):=by simp only[uD,j7]
theorem O9 (K:List (Nat×PV)->Prop):y5 g s [] K=K []:=id rfl
theorem Pa (i:Nat) (x:AX) (xs:List (Nat×AX)) (K:List (Nat×PV)->Prop):y5 g s ((i,x)::xs) K=iv g (vx s x) λp=>y5 g s xs λps=>K ((i,p)::ps):=by simp only[y5,j7]
theorem Pb (d:Option Nat) (f:AX) (args:List AX) (K:St->Prop):mK P s d f args K=iv true (vx s f) λpf=>uD true s args λps=>abg P s d K ps pf:=by
 simp only[mK,j7];congr 1
end Go.Ab
namespace Go.Ab
variable [eo]
@[simp↓] theorem aiB {g:Bool} {K:PV->Prop} (cx:Bool):iv g (.bl cx) K=K (.bl cx):=id rfl
@[simp↓] theorem afZ {g:Bool} {K:PV->Prop} (ck:IntKind) (cn:Int):iv g (.int ck cn) K=K (.int ck cn):=id rfl
@[simp↓] theorem af0 {g:Bool} {K:PV->Prop} (cl:List UInt8):iv g (.str cl) K=K (.str cl):=id rfl
@[simp↓] theorem aiC {g:Bool} {K:PV->Prop} (cw:Nat) (cl:List PV):iv g (.st cw cl) K=K (.st cw cl):=id rfl
@[simp↓] theorem aiD {g:Bool} {K:PV->Prop} (cz cn:Nat) (cl:List PV):iv g (.ar cz cn cl) K=K (.ar cz cn cl):=id rfl
@[simp↓] theorem af1 {g:Bool} {K:PV->Prop} (cl:List PV):iv g (.tup cl) K=K (.tup cl):=id rfl
@[simp↓] theorem aiE {g:Bool} {K:PV->Prop} (cz:Nat) (cl:List PV) (cc:Bool):iv g (.sl cz cl cc) K=K (.sl cz cl cc):=id rfl
@[simp↓] theorem aiF {g:Bool} {K:PV->Prop} (ck:Nat) (cp:List Step) (co cl ct cz:Nat) (cc:iC):iv g (.rs ck cp co cl ct cz cc) K=K (.rs ck cp co cl ct cz cc):=id rfl
@[simp↓] theorem aiG {g:Bool} {K:PV->Prop}:iv g .np K=K .np:=id rfl
@[simp↓] theorem aiH {g:Bool} {K:PV->Prop} (ck:Nat) (cp:List Step) (ct:Nat):iv g (.pt ck cp ct) K=K (.pt ck cp ct):=id rfl
@[simp↓] theorem aiI {g:Bool} {K:PV->Prop} (cz:Nat) (cl:List PV) (cp:List Step):iv g (.fp cz cl cp) K=K (.fp cz cl cp):=id rfl
@[simp↓] theorem aiJ {g:Bool} {K:PV->Prop} (cf:FuncId) (ca cb:List PV):iv g (.fn (.func cf) ca cb) K=K (.fn (.func cf) ca cb):=id rfl
@[simp↓] theorem aiK {g:Bool} {K:PV->Prop} (cb:Bool) (cv:PV):iv g (.gd cb cv) K=((g=true->cb=true)∧K cv):=id rfl
@[simp↓] theorem abh {s:St} {agg:Bool} {w:Nat} {K:PV->Prop} (ck:Nat) (cp:List Step) (ct:Nat):HQ s agg w K (.pt ck cp ct)=(cU (get s.bx ck) λblk=>cU (ku blk cp) λu=>(ct=blk.aK∧u.width=w∧u.isAgg=agg)∧K u):=id rfl
@[simp↓] theorem abi {s:St} {agg:Bool} {w:Nat} {K:PV->Prop} (cz:Nat) (cl:List PV) (cp:List Step):HQ s agg w K (.fp cz cl cp)=(cU (ku (.arr cz cl) cp) λu=>(u.width=w∧u.isAgg=agg)∧K u):=id rfl
@[simp↓] theorem af2 {s:St} {K:PV->Prop} (ck:Nat) (cp:List Step) (ct:Nat):UE s K (.pt ck cp ct)=(cU (get s.bx ck) λblk=>ct=blk.aK∧K (.pt ck cp ct)):=id rfl
@[simp↓] theorem Ys {ps:List (Nat×PV)} {K:PV->Prop} (cw:Nat) (cl:List PV):C0 ps K (.st cw cl)=(cU (dJ cl ps) λl'=>K (.st cw l')):=id rfl
@[simp↓] theorem Yt {ps:List (Nat×PV)} {K:PV->Prop} (cz cn:Nat) (cl:List PV):C0 ps K (.ar cz cn cl)=(cU (dJ cl ps) λl'=>K (.ar cz cn l')):=id rfl
@[simp↓] theorem abj {K:Int->Prop} (ck:IntKind) (cn:Int):rr K (.int ck cn)=(K cn):=id rfl
@[simp↓] theorem af3 {s:St} {K:Nat->List PV->Prop} (cz:Nat) (cl:List PV) (cc:Bool):wQ s K (.sl cz cl cc)=(K cz cl):=id rfl
@[simp↓] theorem UN {s:St} {i off:Nat} {K:PV->Prop} (ck:Nat) (cp:List Step) (ct:Nat):yG s i off K (.pt ck cp ct)=(cU (get s.bx ck) λblk=>ct=blk.aK∧K (.pt ck (cp++[.f i off]) ct)):=id rfl
@[simp↓] theorem UO {s:St} {i off:Nat} {K:PV->Prop} (cz:Nat) (cl:List PV) (cp:List Step):yG s i off K (.fp cz cl cp)=(K (.fp cz cl (cp++[.f i off]))):=id rfl
@[simp↓] theorem af4 {s:St} {n sz:Nat} {K:PV->Prop} (cz:Nat) (cl:List PV) (cc:Bool):UJ s n sz K (.sl cz cl cc)=((cz=sz∧0<n∧n≤cl.length)∧K (.fp sz cl [.w 0 n sz])):=id rfl
@[simp↓] theorem abk {s:St} {sz:Nat} {j:Int} {K:PV->Prop} (cz:Nat) (cl:List PV) (cc:Bool):oi s sz j K (.sl cz cl cc)=((cz=sz∧0≤j∧j<cl.length)∧K (.fp sz cl [.i j.toNat sz])):=id rfl
@[simp↓] theorem abl {s:St} {sz:Nat} {j:Int} {K:PV->Prop} (ck:Nat) (cp:List Step) (co cl ct cz:Nat) (cc:iC):oi s sz j K (.rs ck cp co cl ct cz cc)=(cU (get s.bx ck) λblk=>(ct=blk.aK∧cz=sz∧0≤j∧j<cl)∧K (.pt ck (cp++[.i (co+j.toNat) sz]) ct)):=id rfl
@[simp↓] theorem abm {s:St} {sz:Nat} {j:Int} {K:PV->Prop} (ck:Nat) (cp:List Step) (ct:Nat):LB s sz j K (.pt ck cp ct)=(cU (get s.bx ck) λblk=>ct=blk.aK∧K (.pt ck (cp++[.i j.toNat sz]) ct)):=id rfl
@[simp↓] theorem af5 {agg:Bool} {n w:Nat} {j:Int} {K:PV->Prop} (cz cn:Nat) (cl:List PV):UK agg n w j K (.ar cz cn cl)=(cU cl[j.toNat]? λc=>(0≤j∧j<n∧cn=n∧cz=w∧c.isAgg=agg)∧K c):=id rfl
@[simp↓] theorem abn {j:Int} {K:PV->Prop} (cl:List UInt8):UL j K (.str cl)=(cU cl[j.toNat]? λc=>0≤j∧K (.int .u8 c.toNat)):=id rfl
@[simp↓] theorem abo {i:Nat} {K:PV->Prop} (cl:List PV):LD i K (.tup cl)=(cU cl[i]? K):=id rfl
@[simp↓] theorem af6 {s:St} {K:PV->Prop} (cz:Nat) (cl:List PV) (cc:Bool):vo s K (.sl cz cl cc)=(K (.int .i64 cl.length)):=id rfl
@[simp↓] theorem af7 {s:St} {K:PV->Prop} (ck:Nat) (cp:List Step) (co cl ct cz:Nat) (cc:iC):vo s K (.rs ck cp co cl ct cz cc)=(cU (get s.bx ck) λblk=>ct=blk.aK∧K (.int .i64 cl)):=id rfl
@[simp↓] theorem Yu {s:St} {g:Bool} {lo hi mx:Option AX} {K:PV->Prop} (cl:List UInt8):Sl s g lo hi mx K (.str cl)=(mx.isNone=true∧kU g s lo hi cl.length cl.length λl h=>K (.str ((cl.take h).drop l))):=id rfl
@[simp↓] theorem af8 {s:St} {g:Bool} {n sz:Nat} {lo hi mx:Option AX} {K:PV->Prop} (cz:Nat) (cl:List PV) (cp:List Step):OY s g n sz lo hi mx K (.fp cz cl cp)=cU (ku (.arr cz cl) cp) (LF s g n sz lo hi mx K):=id rfl
@[simp↓] theorem af9 {s:St} {g:Bool} {n sz:Nat} {lo hi mx:Option AX} {K:PV->Prop} (z' n':Nat) (l':List PV):LF s g n sz lo hi mx K (.ar z' n' l')=((z'=sz∧n'=n∧mx.isNone=true)∧kU g s lo hi n n λa b=>K (.sl sz ((l'.take b).drop a) (decide (b=n)))):=id rfl
@[simp↓] theorem aga {s:St} {g:Bool} {n sz:Nat} {lo hi mx:Option AX} {K:PV->Prop} (ck:Nat) (cp:List Step) (ct:Nat):OY s g n sz lo hi mx K (.pt ck cp ct)=(cU (get s.bx ck) λblk=>ct=blk.aK∧mx.isNone=true∧kU g s lo hi n n λa b=>K (.rs ck cp a (b-a) ct sz (if b=n then .clip else .any))):=id rfl
@[simp↓] theorem Yv {s:St} {n:Nat} {v:PV} {K:St->Prop} (ck:Nat) (cp:List Step) (ct:Nat):Gx s n v K (.pt ck cp ct)=(cU (get s.bx ck) λblk=>cU (sc blk cp (Us blk v)) λb8=>(ct=blk.aK∧v.width=n∧v.bG=true)∧K {s with bx:=put s.bx ck b8}):=id rfl
@[simp↓500] theorem aiL {A B:Prop} (cx:Bool):O6 A B (.bl cx)=((cx=true->A)∧(cx=false->B)):=id rfl
@[simp↓] theorem abp {s:St} {a b:AX} {K:PV->Prop} (cx:Bool):Sk s a b K (.bl cx)=(vn cx K (vx s a) (vx s b)):=id rfl
end Go.Ab
namespace Go.Ab
variable [eo]
variable {P:Program} {s:St} {g:Bool}
theorem aiM (x:AX) (K:PV->Prop):ev g s (.mv x) K=iv g (vx s x) K:=by simp only[ev,j7]
theorem Pc (k:IntKind) (x:AX) (K:PV->Prop):ev g s (.convI k x) K=iv g (vx s x) (rr λn=>K (.int k (k.wrap n))):=by simp only[ev,j7,oW]
theorem UP (n:Nat) (K:PV->Prop):ev g s (.lenC n) K=K (.int .i64 n):=id rfl
end Go.Ab
namespace Go.Ab
variable [eo]
variable {P:Program} {s:St} [gK]
@[simp↓] theorem aiN (d:Option Nat) (gd:Option (Nat×Bool)) (mg:Bool) (x:AX) (K:St->Prop):kV P s ⟨d,gd,mg,.mv x⟩ K=ev true s (.mv x) λp=>K (s.put d p):=id rfl
@[simp↓] theorem abq (d:Option Nat) (gd:Option (Nat×Bool)) (mg:Bool) (c a b:AX) (K:St->Prop):kV P s ⟨d,gd,mg,.pick c a b⟩ K=ev true s (.pick c a b) λp=>K (s.put d p):=id rfl
@[simp↓] theorem Yw (d:Option Nat) (gd:Option (Nat×Bool)) (mg:Bool) (z:PV) (ps:List (Nat×AX)) (K:St->Prop):kV P s ⟨d,gd,mg,.build z ps⟩ K=ev true s (.build z ps) λp=>K (s.put d p):=id rfl
@[simp↓] theorem abr (d:Option Nat) (gd:Option (Nat×Bool)) (mg:Bool) (a:Bool) (w:Nat) (x:AX) (K:St->Prop):kV P s ⟨d,gd,mg,.load a w x⟩ K=ev true s (.load a w x) λp=>K (s.put d p):=id rfl
@[simp↓] theorem Pd (d:Option Nat) (gd:Option (Nat×Bool)) (mg:Bool) (x:AX) (K:St->Prop):kV P s ⟨d,gd,mg,.nilCheck x⟩ K=ev true s (.nilCheck x) λp=>K (s.put d p):=id rfl
@[simp↓] theorem agb (d:Option Nat) (gd:Option (Nat×Bool)) (mg:Bool) (o:BinOp) (e:ET) (x y:AX) (K:St->Prop):kV P s ⟨d,gd,mg,.bin o e x y⟩ K=ev true s (.bin o e x y) λp=>K (s.put d p):=id rfl
@[simp↓] theorem aiO (d:Option Nat) (gd:Option (Nat×Bool)) (mg:Bool) (o:UnOp) (x:AX) (K:St->Prop):kV P s ⟨d,gd,mg,.un o x⟩ K=ev true s (.un o x) λp=>K (s.put d p):=id rfl
@[simp↓] theorem Yx (d:Option Nat) (gd:Option (Nat×Bool)) (mg:Bool) (k:IntKind) (x:AX) (K:St->Prop):kV P s ⟨d,gd,mg,.convI k x⟩ K=ev true s (.convI k x) λp=>K (s.put d p):=id rfl
@[simp↓] theorem Yy (d:Option Nat) (gd:Option (Nat×Bool)) (mg:Bool) (x:AX) (K:St->Prop):kV P s ⟨d,gd,mg,.convS x⟩ K=ev true s (.convS x) λp=>K (s.put d p):=id rfl
@[simp↓] theorem UQ (d:Option Nat) (gd:Option (Nat×Bool)) (mg:Bool) (f:Fn) (a b:List AX) (K:St->Prop):kV P s ⟨d,gd,mg,.mkFunc f a b⟩ K=ev true s (.mkFunc f a b) λp=>K (s.put d p):=id rfl
@[simp↓] theorem Yz (d:Option Nat) (gd:Option (Nat×Bool)) (mg:Bool) (k:SK) (x:AX) (l h m:Option AX) (K:St->Prop):kV P s ⟨d,gd,mg,.slice k x l h m⟩ K=ev true s (.slice k x l h m) λp=>K (s.put d p):=id rfl
@[simp↓] theorem UR (d:Option Nat) (gd:Option (Nat×Bool)) (mg:Bool) (i o:Nat) (x:AX) (K:St->Prop):kV P s ⟨d,gd,mg,.fieldA i o x⟩ K=ev true s (.fieldA i o x) λp=>K (s.put d p):=id rfl
@[simp↓] theorem agc (d:Option Nat) (gd:Option (Nat×Bool)) (mg:Bool) (n z:Nat) (x:AX) (K:St->Prop):kV P s ⟨d,gd,mg,.s2a n z x⟩ K=ev true s (.s2a n z x) λp=>K (s.put d p):=id rfl
@[simp↓] theorem US (d:Option Nat) (gd:Option (Nat×Bool)) (mg:Bool) (k:SK) (x i:AX) (K:St->Prop):kV P s ⟨d,gd,mg,.indexA k x i⟩ K=ev true s (.indexA k x i) λp=>K (s.put d p):=id rfl
@[simp↓] theorem YA (d:Option Nat) (gd:Option (Nat×Bool)) (mg:Bool) (a:Bool) (n w:Nat) (x i:AX) (K:St->Prop):kV P s ⟨d,gd,mg,.index a n w x i⟩ K=ev true s (.index a n w x i) λp=>K (s.put d p):=id rfl
@[simp↓] theorem UT (d:Option Nat) (gd:Option (Nat×Bool)) (mg:Bool) (x i:AX) (K:St->Prop):kV P s ⟨d,gd,mg,.indexS x i⟩ K=ev true s (.indexS x i) λp=>K (s.put d p):=id rfl
@[simp↓] theorem So (d:Option Nat) (gd:Option (Nat×Bool)) (mg:Bool) (i:Nat) (x:AX) (K:St->Prop):kV P s ⟨d,gd,mg,.extract i x⟩ K=ev true s (.extract i x) λp=>K (s.put d p):=id rfl
@[simp↓] theorem agd (d:Option Nat) (gd:Option (Nat×Bool)) (mg:Bool) (x:AX) (K:St->Prop):kV P s ⟨d,gd,mg,.len x⟩ K=ev true s (.len x) λp=>K (s.put d p):=id rfl
@[simp↓] theorem age (d:Option Nat) (gd:Option (Nat×Bool)) (mg:Bool) (x:AX) (K:St->Prop):kV P s ⟨d,gd,mg,.cap x⟩ K=ev true s (.cap x) λp=>K (s.put d p):=id rfl
@[simp↓] theorem Sp (d:Option Nat) (gd:Option (Nat×Bool)) (mg:Bool) (sz b:Nat) (z:PV) (x y:AX) (K:St->Prop):kV P s ⟨d,gd,mg,.appendZ sz b z x y⟩ K=ex s d (.appendZ sz b z x y) K:=id rfl
@[simp↓] theorem aiP (d:Option Nat) (gd:Option (Nat×Bool)) (mg:Bool) (m:Bool) (xs:List AX) (K:St->Prop):kV P s ⟨d,gd,mg,.mm m xs⟩ K=ev true s (.mm m xs) λp=>K (s.put d p):=id rfl
@[simp↓] theorem YB (d:Option Nat) (gd:Option (Nat×Bool)) (mg:Bool) (z:PV) (K:St->Prop):kV P s ⟨d,gd,mg,.alloc z⟩ K=ex s d (.alloc z) K:=id rfl
@[simp↓] theorem agf (d:Option Nat) (gd:Option (Nat×Bool)) (mg:Bool) (x:AX) (K:St->Prop):kV P s ⟨d,gd,mg,.box x⟩ K=ex s d (.box x) K:=id rfl
@[simp↓] theorem LO (d:Option Nat) (gd:Option (Nat×Bool)) (mg:Bool) (o:Bool) (sz:Nat) (z:PV) (n:Nat) (ps:List (Nat×AX)) (K:St->Prop):kV P s ⟨d,gd,mg,.buildSlice o sz z n ps⟩ K=ex s d (.buildSlice o sz z n ps) K:=id rfl
@[simp↓] theorem NZ (d:Option Nat) (gd:Option (Nat×Bool)) (mg:Bool) (sz b:Nat) (z:PV) (l c:AX) (K:St->Prop):kV P s ⟨d,gd,mg,.makeSlice sz b z l c⟩ K=ex s d (.makeSlice sz b z l c) K:=id rfl
@[simp↓] theorem YC (d:Option Nat) (gd:Option (Nat×Bool)) (mg:Bool) (w:Nat) (a x:AX) (K:St->Prop):kV P s ⟨d,gd,mg,.store w a x⟩ K=ex s d (.store w a x) K:=id rfl
@[simp↓] theorem UU (d:Option Nat) (gd:Option (Nat×Bool)) (mg:Bool) (sz b:Nat) (st:Bool) (x y:AX) (K:St->Prop):kV P s ⟨d,gd,mg,.append sz b st x y⟩ K=ex s d (.append sz b st x y) K:=id rfl
@[simp↓] theorem abt (d:Option Nat) (gd:Option (Nat×Bool)) (mg:Bool) (sz:Nat) (x y:AX) (K:St->Prop):kV P s ⟨d,gd,mg,.copy sz x y⟩ K=ex s d (.copy sz x y) K:=id rfl
@[simp↓] theorem abu (d:Option Nat) (gd:Option (Nat×Bool)) (mg:Bool) (sz:Nat) (z:PV) (x:AX) (K:St->Prop):kV P s ⟨d,gd,mg,.fill sz z x⟩ K=ex s d (.fill sz z x) K:=id rfl
@[simp↓] theorem YD (d:Option Nat) (gd:Option (Nat×Bool)) (mg:Bool) (x:AX) (K:St->Prop):kV P s ⟨d,gd,mg,.convL x⟩ K=ex s d (.convL x) K:=id rfl
@[simp↓] theorem abv (d:Option Nat) (gd:Option (Nat×Bool)) (mg:Bool) (f:AX) (l:List AX) (K:St->Prop):kV P s ⟨d,gd,mg,.call f l⟩ K=mK P s d f l K:=id rfl
@[simp↓] theorem YE (d:Option Nat) (gd:Option (Nat×Bool)) (mg:Bool) (f:AX) (l:List AX) (K:St->Prop):kV P s ⟨d,gd,mg,.callq f l⟩ K=oR P s d f l K:=id rfl
end Go.Ab
namespace Go.Ab
variable [eo]
variable {P:Program} {s:St}
theorem Gy {d:Option Nat} {f:FuncId} {args:List PV} {R:PV->Prop} {K:St->Prop} (hA:af P f args [] (λr fp=>R r∧fp=[])) (hp:aB args) (hr:∀r,R r->Pure r) (h:∀r,R r->K (s.put d r)):
  ∃ks os,uQ P s d f args ks os K:=by
 refine⟨[],[],[],(λr fp=>R r∧fp=[]),rfl,by simp,by simp,hp.refs _,rfl,?_,?_⟩
 ·rw[hp.az];exact hA
 ·rintro r fp ⟨hR,rfl⟩
  refine⟨⟨rfl,(hr r hR).refs _,rfl⟩,?_⟩
  rw[(hr r hR).az]
  exact h r hR
theorem Jt {d:Option Nat} {f:FuncId} {args:List PV} {sz:Nat} {R:List PV->Prop} {K:St->Prop} (o:Nat) (hA:af P f args [] (λr fp=>∃l,R l∧r= .rs KB [] 0 l.length l.length sz .tip∧fp=[.arr sz l])) (hp:aB args) (ho:get s.bx o=none)
  (hl:∀l,R l->aB l) (h:∀l,R l->K ({s with bx:=put s.bx o (.arr sz l)}.put d (.rs o [] 0 l.length l.length sz .tip))):∃ks os,uQ P s d f args ks os K:=by
 refine⟨[],[o],[],(λr fp=>∃l,R l∧r= .rs KB [] 0 l.length l.length sz .tip∧fp=[.arr sz l]),rfl,by simp,by simpa using ho,hp.refs _,rfl,?_,?_⟩
 ·rw[hp.az];exact hA
 ·rintro r fp ⟨l,hR,rfl,rfl⟩
  have lS:=hl l hR
  have e:fu [o] KB=o:=by simp[fu]
  refine⟨⟨rfl,by simp[ab,eI],by simp[ah,lS.refs]⟩,?_⟩
  simpa[bB,aM,lS.az,az,e]using h l hR
end Go.Ab
namespace Go.Ab
variable [eo]
variable {P:Program} {s:St} {g:Bool} [gK]
attribute [simp↓] UC OU UD Gs UH UF UG UI oW aiy sY OV Lz aa9 OW Es Et OX LC Jo abb
 Eu Gt Gu Gv LH LI Sm LJ LK O1 abf Aa Ac O2 LL Jq Gw Jr Js
 O3 O4 Ev O7 O8 O9 Pa aiM Pc UP
inductive Tg {α:Sort _} (a:α):Type
 |mk
def al (P:Program) (s:St) (d:Option Nat) (f:FuncId) (args:List PV) (K:St->Prop) (_:Tg K):Prop:=∃ks os,uQ P s d f args ks os K
def aU (P:Program) (s:St) (d:Option Nat) (f:FuncId) (args:List PV) (K:St->Prop) (_:Tg K):Prop:=
 ∃v,(ae (λ_=>false) args=true∧ab (λ_=>false) v=true)∧af P f args [] (λr fp=>r=v∧fp=[])∧K (s.put d v)
def yS (s:St) (d:Option Nat) (l:Nat) (args:List PV) (K:St->Prop) (_:Tg K):Prop:=F4 s d l args K
def LP (P:Program) (s:St) (d:Option Nat) (K:St->Prop) (t:Tg K) (args:List PV):PV->Prop
 | .fn (.func fid) first cap=>al P s d fid (first++args++cap) K t
 | .fn (.yield l) [] []=>yS s d l args K t
 |_=>False
def LQ (P:Program) (s:St) (d:Option Nat) (K:St->Prop) (t:Tg K) (args:List PV):PV->Prop
 | .fn (.func fid) first cap=>aU P s d fid (first++args++cap) K t
 |_=>False
@[simp↓] theorem YF (d:Option Nat) (K:St->Prop) (t:Tg K) (l a b:List PV) (f:FuncId):LP P s d K t l (.fn (.func f) a b)=al P s d f (a++l++b) K t:=_root_.id rfl
@[simp↓] theorem YG (d:Option Nat) (K:St->Prop) (t:Tg K) (l a b:List PV) (f:FuncId):LQ P s d K t l (.fn (.func f) a b)=aU P s d f (a++l++b) K t:=_root_.id rfl
@[simp↓] theorem agh (d:Option Nat) (f:AX) (args:List AX) (K:St->Prop):mK P s d f args K=iv true (vx s f) λpf=>uD true s args λps=>LP P s d K .mk ps pf:=by
 rw[Pb];congr 1
@[simp↓] theorem agi (d:Option Nat) (f:AX) (args:List AX) (K:St->Prop):oR P s d f args K=iv true (vx s f) λpf=>uD true s args λps=>LQ P s d K .mk ps pf:=by
 simp only[oR,j7];congr 1
@[simp↓] theorem anM (n:Nat):vx s (.t n)=(get s.env n).getD .un:=_root_.id rfl
@[simp↓] theorem anN (p:PV):vx s (.c p)=p:=_root_.id rfl
@[simp↓] theorem get_nil {α:Type} (n:Nat):get ([]:List (Nat×α)) n=none:=_root_.id rfl
@[simp↓] theorem abw {α:Type} (k n:Nat) (v:α) (r:List (Nat×α)):get ((k,v)::r) n=if k=n then some v else get r n:=_root_.id rfl
@[simp↓] theorem agj {α:Type} (n:Nat) (x:α):put [] n x=[(n,x)]:=_root_.id rfl
@[simp↓] theorem abx {α:Type} (k n:Nat) (v x:α) (r:List (Nat×α)):put ((k,v)::r) n x=if k=n then(n,x)::r else if n<k then(n,x)::(k,v)::r else(k,v)::put r n x:=_root_.id rfl
@[simp↓] theorem UW (d:Nat) (p:PV):s.put (some d) p= {s with env:=put s.env d p}:=_root_.id rfl
@[simp↓] theorem UX (p:PV):s.put none p=s:=_root_.id rfl
@[simp↓] theorem agk (K:St->Prop):Hv P s [] K=K s:=_root_.id rfl
@[simp↓] theorem aby (o:AO) (l:List AO) (K:St->Prop):Hv P s (o::l) K=jd P s o λs'=>Hv P s' l K:=_root_.id rfl
def gR (P:Program) (x:dD) (Q:Exit->St->Prop) (_:Tg (x,Q)) (s:St):Prop:=Lp (λQ s=>aw P x Q s) Q s
def N0 (P:Program) (x y:dD) (Q:Exit->St->Prop) (_:Tg (x,y,Q)) (s:St):Prop:=Md (λQ s=>aw P x Q s) (λQ s=>aw P y Q s) Q s
def RgS (P:Program) (ps:List Nat) (x y:dD) (Q:Exit->St->Prop) (_:Tg (x,y,Q)) (s:St):PV->Prop
 | .fn (.func fid) [] cap=>Gk P (λQ s=>aw P x Q s) (λQ s=>aw P y Q s) s fid cap ps λs'=>Q .normal s'
 |_=>False
def abz (n:Nat) (R:List br->Prop) (_:Tg R) (s:St):Prop:=aa0 n R s
def aC (n:Nat) (res:List AK) (R:PV->List br->Prop) (_:Tg R) (s:St):Prop:=OT n res R s
theorem an (c:dD) (Q:Exit->St->Prop):aw P (lk c) Q s=aw P c Q s:=by rw[Lx]
@[simp↓] theorem agl (Q:Exit->St->Prop):aw P .skip Q s=Q .normal s:=_root_.id rfl
@[simp↓] theorem YH (l:List AO) (Q:Exit->St->Prop):aw P (.region l) Q s=Hv P s l (Q .normal):=_root_.id rfl
@[simp↓] theorem aiQ (x y:dD) (Q:Exit->St->Prop):aw P (.seq x y) Q s=aw P x (th Q λs'=>aw P y Q s') s:=_root_.id rfl
@[simp↓] theorem agm (n:Nat) (v:PV) (e:List (Nat×PV)) (b:List (Nat×br)) (c:AX) (x y:dD) (Q:Exit->St->Prop):aw P (.cond c x y) Q ⟨(n,v)::e,b⟩=O6 (aw P x Q ⟨(n,v)::e,b⟩) (aw P y Q ⟨(n,v)::e,b⟩) (vx ⟨(n,v)::e,b⟩ c):=UM c x y Q
@[simp↓] theorem amq (n:Nat) (v:PV) (e:List (Nat×PV)) (b:List (Nat×br)) (d:Option Nat) (mg:Bool) (k:AK) (K:St->Prop):jd P ⟨(n,v)::e,b⟩ ⟨d,none,mg,k⟩ K=kV P ⟨(n,v)::e,b⟩ ⟨d,none,mg,k⟩ K:=_root_.id rfl
@[simp↓] theorem aiR (b:List (Nat×br)) (d:Option Nat) (mg:Bool) (k:AK) (K:St->Prop):jd P ⟨[],b⟩ ⟨d,none,mg,k⟩ K=kV P ⟨[],b⟩ ⟨d,none,mg,k⟩ K:=_root_.id rfl
@[simp↓] theorem amr (n:Nat) (v:PV) (e:List (Nat×PV)) (b:List (Nat×br)) (d:Option Nat) (sl:Nat) (want mg:Bool) (k:AK) (K:St->Prop):jd P ⟨(n,v)::e,b⟩ ⟨d,some (sl,want),mg,k⟩ K=
  B5 want mg (λg=>ev g ⟨(n,v)::e,b⟩ k λp=>K (St.put ⟨(n,v)::e,b⟩ d (.gd g p))) (kV P ⟨(n,v)::e,b⟩ ⟨d,some (sl,want),mg,k⟩ K) (K (St.put ⟨(n,v)::e,b⟩ d .un)) ((get ((n,v)::e) sl).getD .un):=O5 d sl want mg k K
@[simp↓] theorem abA (id:Nat) (x:dD) (Q:Exit->St->Prop):aw P (.block id x) Q s=aw P x (Sf id Q) s:=_root_.id rfl
@[simp↓] theorem agn (x:dD) (Q:Exit->St->Prop):aw P (.loop x) Q s=gR P x Q .mk s:=_root_.id rfl
@[simp↓] theorem ago (x y:dD) (Q:Exit->St->Prop):aw P (.seqm x y) Q s=N0 P x y Q .mk s:=_root_.id rfl
@[simp↓] theorem agp (id:Nat) (Q:Exit->St->Prop):aw P (.exit id) Q s=Q (.exit id) s:=_root_.id rfl
@[simp↓] theorem aiS (Q:Exit->St->Prop):aw P .ret Q s=Q .ret s:=_root_.id rfl
@[simp↓] theorem UY (Q:Exit->St->Prop) (K:St->Prop):th Q K .normal s=K s:=_root_.id rfl
@[simp↓] theorem agq (Q:Exit->St->Prop) (K:St->Prop):th Q K .ret s=Q .ret s:=_root_.id rfl
@[simp↓] theorem abB (Q:Exit->St->Prop) (K:St->Prop) (i:Nat):th Q K (.exit i) s=Q (.exit i) s:=_root_.id rfl
@[simp↓] theorem UZ (Q:Exit->St->Prop) (i:Nat):Sf i Q .normal s=Q .normal s:=_root_.id rfl
@[simp↓] theorem agr (Q:Exit->St->Prop) (i:Nat):Sf i Q .ret s=Q .ret s:=_root_.id rfl
@[simp↓] theorem abC (Q:Exit->St->Prop) (i j:Nat):Sf i Q (.exit j) s=if j=i then Q .normal s else Q (.exit j) s:=_root_.id rfl
@[simp↓] theorem abD (n:Nat) (res:List AK) (R:PV->List br->Prop):ends n res R .ret s=aC n res R .mk s:=_root_.id rfl
@[simp↓] theorem Sq (n:Nat) (res:List AK) (R:PV->List br->Prop):ends n res R .normal s=aC n res R .mk s:=_root_.id rfl
@[simp↓] theorem abE (K:St->Prop):gQ [] s K=K s:=_root_.id rfl
@[simp↓] theorem fG (c:Cut) (r:List Cut) (K:St->Prop):gQ (c::r) s K=kj c s λs'=>gQ r s' K:=_root_.id rfl
@[simp↓] theorem YI (sl:List Nat) (K:St->Prop):kj (.keep sl) s K=K {s with env:=nQ sl s.env}:=_root_.id rfl
def U0 (s:St) (n k len aK sz:Nat) (K:St->Prop):br->Prop
 | .arr cR l=>(cR=sz∧aK=l.length)∧∀c j:Nat,(c=l.length+j∨(c=0∧j=0∧len=0))->
    K {env:=put s.env n (.rs k [] 0 len (l.length+j) sz (.full c)),bx:=put s.bx k (.arr sz (l++List.replicate j (Gc sz)))}
 |_=>False
def U1 (s:St) (n:Nat) (K:St->Prop):PV->Prop
 | .rs k [] 0 len aK sz .tip=>cU (get s.bx k) (U0 s n k len aK sz K)
 |_=>False
@[simp↓] theorem ags (n k len aK sz:Nat) (K:St->Prop):U1 s n K (.rs k [] 0 len aK sz .tip)=cU (get s.bx k) (U0 s n k len aK sz K):=_root_.id rfl
@[simp↓] theorem abF (n k len aK sz cR:Nat) (l:List PV) (K:St->Prop):U0 s n k len aK sz K (.arr cR l)=((cR=sz∧aK=l.length)∧∀c j:Nat,(c=l.length+j∨(c=0∧j=0∧len=0))->
    K {env:=put s.env n (.rs k [] 0 len (l.length+j) sz (.full c)),bx:=put s.bx k (.arr sz (l++List.replicate j (Gc sz)))}):=_root_.id rfl
@[simp↓] theorem agt (n:Nat) (K:St->Prop):kj (.mt n) s K=cU (get s.env n) (U1 s n K):=by
 simp only[kj,Ym]
 cases get s.env n with
 |none=>rfl
 |
  some p=>
  cases p<;>try rfl
  rename_i k pth off len aK sz c
  cases pth<;>try rfl
  cases off<;>try rfl
  cases c<;>try rfl
  simp only[cU,U1]
  cases get s.bx k with
  |none=>rfl
  |some b=>cases b<;>rfl
def abG (s:St) (k:Nat) (K:St->Prop):br->Prop
 | .box v=>K {s with bx:=put s.bx k (.box (wk v))}
 |_=>False
@[simp↓] theorem abH (k:Nat) (K:St->Prop) (v:PV):abG s k K (.box v)=K {s with bx:=put s.bx k (.box (wk v))}:=_root_.id rfl
@[simp↓] theorem agu (k:Nat) (K:St->Prop):kj (.wb k) s K=cU (get s.bx k) (abG s k K):=by
 simp only[kj,Yn]
 cases get s.bx k with
 |none=>rfl
 |some b=>cases b<;>rfl
def vbP (s:St) (b k sz:Nat) (w:Option PV) (K:St->Prop):PV->Prop
 | .sl _ [] true=>cU w λv'=>(get s.bx k=none∧0<sz)∧K {s with bx:=put (put s.bx k (.arr sz [])) b (.box v')}
 |_=>False
@[simp↓] theorem aiT (b k sz z:Nat) (w:Option PV) (K:St->Prop):vbP s b k sz w K (.sl z [] true)=cU w λv'=>(get s.bx k=none∧0<sz)∧K {s with bx:=put (put s.bx k (.arr sz [])) b (.box v')}:=_root_.id rfl
def vbK (s:St) (b:Nat) (p:List Step) (k sz:Nat) (K:St->Prop):br->Prop
 | .box v=>cU (aX v p) (vbP s b k sz (gN v p (.rs k [] 0 0 0 sz .tip)) K)
 |_=>False
@[simp↓] theorem agv (b:Nat) (p:List Step) (k sz:Nat) (v:PV) (K:St->Prop):vbK s b p k sz K (.box v)=cU (aX v p) (vbP s b k sz (gN v p (.rs k [] 0 0 0 sz .tip)) K):=_root_.id rfl
@[simp↓] theorem agw (b:Nat) (p:List Step) (k sz:Nat) (K:St->Prop):kj (.vb b p k sz) s K=cU (get s.bx b) (vbK s b p k sz K):=by
 simp only[kj,Yo]
 cases get s.bx b with
 |none=>rfl
 |
  some x=>
  cases x with
  |arr _ _=>rfl
  |map b ks vs l=>rfl
  |
   box v=>
   simp only[cU,vbK]
   cases h1:aX v p with
   |none=>cases gN v p (.rs k [] 0 0 0 sz .tip)<;>rfl
   |
    some u=>
    cases h2:gN v p (.rs k [] 0 0 0 sz .tip)with
    |
     none=>
     simp only[vbP]
     split<;>simp_all
    |
     some v'=>
     simp only[vbP]
     split<;>simp_all
@[simp↓] theorem agx (n:Nat) (K:St->Prop):kj (.wk n) s K=cU (get s.env n) λp=>K {s with env:=put s.env n (wk p)}:=by
 simp only[kj,OP];cases get s.env n<;>rfl
def fzK (s:St) (k:Nat) (K:St->Prop):br->Prop
 | .arr sz l=>(ae (λj=>decide (j≠k)) l=true∧k<KB)∧K {env:=mw (jI k sz l) s.env,bx:=mw (zC k sz l) (del s.bx k)}
 |_=>False
@[simp↓] theorem agy (k sz:Nat) (l:List PV) (K:St->Prop):fzK s k K (.arr sz l)=((ae (λj=>decide (j≠k)) l=true∧k<KB)∧K {env:=mw (jI k sz l) s.env,bx:=mw (zC k sz l) (del s.bx k)}):=_root_.id rfl
@[simp↓] theorem agz (k:Nat) (K:St->Prop):kj (.fz k) s K=cU (get s.bx k) (fzK s k K):=by
 simp only[kj,Yj];cases get s.bx k with
 |none=>rfl
 |some b=>cases b<;>rfl
def mvK (s:St) (k k':Nat) (K:St->Prop) (b:br):Prop:=(get s.bx k'=none∧k<KB∧k'<KB∧k≠k')∧K {env:=mw (az (zJ k k')) s.env,bx:=put (mw (aM (zJ k k')) (del s.bx k)) k' (aM (zJ k k') b)}
@[simp↓] theorem agA (k k':Nat) (K:St->Prop):kj (.mv k k') s K=cU (get s.bx k) (mvK s k k' K):=by
 simp only[kj,Yk];cases get s.bx k<;>rfl
@[simp↓] theorem amu (k k':Nat) (K:St->Prop) (b:br):mvK s k k' K b=((get s.bx k'=none∧k<KB∧k'<KB∧k≠k')∧K {env:=mw (az (zJ k k')) s.env,bx:=put (mw (aM (zJ k k')) (del s.bx k)) k' (aM (zJ k k') b)}):=_root_.id rfl
@[simp↓] theorem agB (k:Nat) (K:St->Prop):kj (.dr k) s K=((jq (λj=>decide (j≠k)) s.env=true∧kG (λj=>decide (j≠k)) (del s.bx k)=true∧k<KB)∧K {s with bx:=del s.bx k}):=_root_.id rfl
def vtK (s:St) (n k sz:Nat) (K:St->Prop):PV->Prop
 | .sl _ [] true=>(get s.bx k=none∧0<sz)∧K {env:=put s.env n (.rs k [] 0 0 0 sz .tip),bx:=put s.bx k (.arr sz [])}
 |_=>False
@[simp↓] theorem aiV (n k sz z:Nat) (K:St->Prop):vtK s n k sz K (.sl z [] true)=((get s.bx k=none∧0<sz)∧K {env:=put s.env n (.rs k [] 0 0 0 sz .tip),bx:=put s.bx k (.arr sz [])}):=_root_.id rfl
@[simp↓] theorem agC (n k sz:Nat) (K:St->Prop):kj (.vt n k sz) s K=cU (get s.env n) (vtK s n k sz K):=by
 simp only[kj,Uw];cases get s.env n with
 |none=>rfl
 |
  some p=>
  cases p with
  |sl z l c=>cases l<;>cases c<;>rfl
  |_=>rfl
@[simp] theorem amw {n:Nat} (h:n<9000):n<KB:=h
@[simp↓] theorem agD (K:List PV->Prop):FJ s [] K=K []:=_root_.id rfl
@[simp↓] theorem abJ (k:AK) (r:List AK) (K:List PV->Prop):FJ s (k::r) K=ev true s k λp=>FJ s r λps=>K (p::ps):=_root_.id rfl
@[simp↓] theorem Sr:eX 0=[]:=_root_.id rfl
@[simp↓] theorem U2 (bx:List (Nat×br)):getAll bx []=some []:=_root_.id rfl
@[simp↓] theorem YJ (p:PV):gF [p]=p:=_root_.id rfl
@[simp↓] theorem Ju (p q:PV) (l:List PV):gF (p::q::l)= .tup (p::q::l):=_root_.id rfl
theorem aC.plain {res:List AK} {R:PV->List br->Prop} {t:Tg R} (c:List Cut) (h:gQ c s λs'=>FJ s' res λps=>(ps.all PV.flat=true∧aB ps)∧R (gF ps) []):aC 0 res R t s:=by
 refine⟨c,[],?_⟩
 have hm:∀(c:List Cut) (s:St) (K K':St->Prop),(∀s,K s->K' s)->gQ c s K->gQ c s K':=by
  intro c
  induction c with
  |nil=>intro s K K' h hk;exact h s hk
  |
   cons x c ih=>
   intro s K K' h hk
   cases x with
   |fz k=>simp only[fG,kj,Yj]at hk⊢;split at hk<;>simp_all;exact ih _ _ _ (λs hs=>h s hs) hk.2
   |dr k=>simp only[fG,kj,dr1]at hk⊢;exact⟨hk.1,ih _ _ _ h hk.2⟩
   |keep sl=>simp only[fG,kj]at hk⊢;exact ih _ _ _ h hk
   |vt n k z=>simp only[fG,kj,Uw]at hk⊢;split at hk<;>simp_all;exact ih _ _ _ (λs hs=>h s hs) hk.2
   |wk n=>simp only[fG,kj,OP]at hk⊢;split at hk<;>simp_all;exact ih _ _ _ (λs hs=>h s hs) hk
   |wb n=>simp only[fG,kj,Yn]at hk⊢;split at hk<;>simp_all;exact ih _ _ _ (λs hs=>h s hs) hk
   |vb n p k z=>simp only[fG,kj,Yo]at hk⊢;split at hk<;>simp_all;split at hk<;>simp_all;exact ih _ _ _ (λs hs=>h s hs) hk.2
   |
    mv k k'=>
    simp only[fG,kj,Yk]at hk⊢
    split at hk
    ·exact⟨hk.1,ih _ _ _ h hk.2⟩
    ·exact hk.elim
   |
    mt n=>
    simp only[fG,kj,Ym]at hk⊢
    split at hk
    ·split at hk
     ·exact⟨hk.1,λc j e=>ih _ _ _ h (hk.2 c j e)⟩
     ·exact hk.elim
    ·exact hk.elim
 have Uc:∀(k:AK) (s:St) (K K':PV->Prop),(∀p,K p->K' p)->ev true s k K->ev true s k K':=by
  intro k s K K' h hk
  obtain⟨p,h1,h2⟩:=rL true s k K hk
  exact h2 K' (h p h1)
 have XQ:∀(l:List AK) (s:St) (K K':List PV->Prop),(∀p,K p->K' p)->FJ s l K->FJ s l K':=by
  intro l
  induction l with
  |nil=>intro s K K' h hk;exact h _ hk
  |cons x l ih=>intro s K K' h hk;exact Uc _ _ _ _ (λp hp=>ih _ _ _ (λq hq=>h _ hq) hp) hk
 refine hm _ _ _ _ (λs' pz=>XQ _ _ _ _ (λps BA=> ?_) pz) h
 obtain⟨⟨h1,h2⟩,h3⟩:=BA
 have hp:Pure (gF ps):=by
  match ps,h2 with
  |[],h2=>exact Pure.of rfl
  |[p],h2=>exact h2.forget p (by simp)
  |p::q::l,h2=>exact Pure.of (by simp only[Ju,ab];exact h2.refs _)
 refine⟨[],⟨rfl,by simp,rfl⟩,⟨h1,hp.refs _,rfl⟩,?_⟩
 rw[hp.az];exact h3
end Go.Ab
namespace Go.Ab
variable [eo]
variable {P:Program} {s:St} [gK]
theorem Ew:∀ {l:List AO} {s:St} {K K':St->Prop},(∀p,K p->K' p)->Hv P s l K->Hv P s l K'
 |[],s,K,K',h,hk=>h _ hk
 |o::l,s,K,K',h,hk=>eJ (λs' pz=>Ew h pz) hk
theorem Ad {W:List Nat} {f:Bool} {o:AO} {K K':St->Prop} (h:∀p,K p->K' p) (hk:kI P W f s o K):kI P W f s o K':=by
 unfold kI at hk⊢
 split at hk
 ·split at hk
  ·rename_i h1 h2;rw[if_pos h1,if_pos h2];exact eJ (λt ht=>h _ ht) hk
  ·rename_i h1 h2;rw[if_pos h1,if_neg h2];exact eJ h hk
 ·rename_i h1;rw[if_neg h1];exact eJ (λt ht=>⟨ht.1,h _ ht.2⟩) hk
theorem sZ {aos:List AO} {fl:Nat->Bool} {W:List Nat}:∀ {l:List Nat} {s:St} {K K':St->Prop},(∀p,K p->K' p)->jW P aos fl W s l K->jW P aos fl W s l K'
 |[],s,K,K',h,hk=>h _ hk
 |
  i::l,s,K,K',h,hk=>by
  simp only[jW]at hk⊢
  split at hk
  ·exact⟨hk.1,Ad (λt ht=>sZ h ht) hk.2⟩
  ·exact hk.elim
theorem vp:∀ {c:dD} {s:St} {Q Q':Exit->St->Prop},(∀e s,Q e s->Q' e s)->aw P c Q s->aw P c Q' s:=by
 have XR:∀ {Q Q':Exit->St->Prop} {K K':St->Prop},(∀e s,Q e s->Q' e s)->(∀s,K s->K' s)->∀e s,th Q K e s->th Q' K' e s:=by
  intro Q Q' K K' h hk e s he
  cases e<;>first|exact hk _ he|exact h _ _ he
 intro c
 induction c with
 |skip=>intro s Q Q' h hk;exact h _ _ hk
 |region l=>intro s Q Q' h hk;exact Ew (h .normal) hk
 |regionD l o u=>intro s Q Q' h hk;obtain⟨W,hk⟩:=hk;exact⟨W,sZ (h .normal) hk⟩
 |regionE l a p q b u=>intro s Q Q' h hk;obtain⟨W,hk⟩:=hk;exact⟨W,vk (λt ht=>⟨sZ (h .normal) ht.1,sZ (h .normal) ht.2⟩) hk⟩
 |seq x y ihx ihy=>intro s Q Q' h hk;exact ihx (XR h λs hs=>ihy h hs) hk
 |
  cond c x y ihx ihy=>
  intro s Q Q' h hk
  simp only[aw]at hk⊢
  split at hk
  ·exact⟨λe=>ihx h (hk.1 e),λe=>ihy h (hk.2 e)⟩
  ·exact⟨hk.1,λe=>ihx h (hk.2.1 e),λe=>ihy h (hk.2.2 e)⟩
  ·exact hk.elim
 |
  block id x ih=>
  intro s Q Q' h hk
  simp only[aw]at hk⊢
  refine ih (λe s he=> ?_) hk
  cases e<;>simp only[Sf]at he⊢<;>first|exact h _ _ he|(split at he<;>rename_i hi<;>simp only[hi,if_true,if_false]<;>exact h _ _ he)
 |
  loop x ih=>
  intro s Q Q' h hk
  obtain⟨I,c,h1,h2⟩:=hk
  exact⟨I,c,h1,λn s hs=>ih (XR h λs hs=>hs) (h2 n s hs)⟩
 |exit id=>intro s Q Q' h hk;exact h _ _ hk
 |ret=>intro s Q Q' h hk;exact h _ _ hk
 |
  seqm x y ihx ihy=>
  intro s Q Q' h hk
  obtain⟨M,h1,h2⟩:=hk
  exact⟨M,ihx (XR h λs hs=>hs) h1,λs hs=>ihy h (h2 s hs)⟩
 |
  rangeF g ps x y ihx ihy=>
  intro s Q Q' h hk
  simp only[aw]at hk⊢
  split at hk
  ·obtain⟨DG,ks,cm,Y,R,h1,h2,h3,h4⟩:=hk
   exact⟨DG,ks,cm,Y,R,h1,h2,h3,λfp hR=>⟨(h4 fp hR).1,h _ _ (h4 fp hR).2⟩⟩
  ·exact hk.elim
end Go.Ab
namespace Go.Ab
variable [eo]
variable {P:Program} {s:St} [gK]
theorem gj:∀(c:List Cut) {s:St} {K K':St->Prop},(∀s,K s->K' s)->gQ c s K->gQ c s K'
 |[],s,K,K',h,hk=>h s hk
 |
  x::c,s,K,K',h,hk=>by
  cases x with
  |
   fz k=>
   simp only[fG,kj,Yj]at hk⊢
   split at hk
   ·exact⟨hk.1,gj c h hk.2⟩
   ·exact hk.elim
  |dr k=>simp only[fG,kj,dr1]at hk⊢;exact⟨hk.1,gj c h hk.2⟩
  |keep sl=>simp only[fG,kj]at hk⊢;exact gj c h hk
  |
   vt n k z=>
   simp only[fG,kj,Uw]at hk⊢
   split at hk
   ·exact⟨hk.1,gj c h hk.2⟩
   ·exact hk.elim
  |
   wk n=>
   simp only[fG,kj,OP]at hk⊢
   split at hk
   ·exact gj c h hk
   ·exact hk.elim
  |
   wb n=>
   simp only[fG,kj,Yn]at hk⊢
   split at hk
   ·exact gj c h hk
   ·exact hk.elim
  |
   vb n p k z=>
   simp only[fG,kj,Yo]at hk⊢
   split at hk
   ·split at hk
    ·exact⟨hk.1,gj c h hk.2⟩
    ·exact hk.elim
   ·exact hk.elim
  |
   mv k k'=>
   simp only[fG,kj,Yk]at hk⊢
   split at hk
   ·exact⟨hk.1,gj c h hk.2⟩
   ·exact hk.elim
  |
   mt n=>
   simp only[fG,kj,Ym]at hk⊢
   split at hk
   ·split at hk
    ·exact⟨hk.1,λi j e=>gj c h (hk.2 i j e)⟩
    ·exact hk.elim
   ·exact hk.elim
theorem ij:∀(c d:List Cut) {s:St} {K:St->Prop},gQ (c++d) s K=gQ c s λs'=>gQ d s' K
 |[],d,s,K=>rfl
 |
  x::c,d,s,K=>by
  simp only[List.cons_append,fG]
  congr 1;funext s'
  exact ij c d
def Ex {α:Type}:List (Nat×α)->List (Nat×α)->List (Nat×α)
 |l,[]=>l
 |l,x::r=>Ex (put l x.1 x.2) r
@[simp↓] theorem abK {α:Type} (l:List (Nat×α)):Ex l []=l:=id rfl
@[simp↓] theorem YK {α:Type} (l r:List (Nat×α)) (x:Nat×α):Ex l (x::r)=Ex (put l x.1 x.2) r:=id rfl
@[simp↓] theorem YL {α:Type} (sl:List Nat):nQ sl ([]:List (Nat×α))=[]:=id rfl
@[simp↓] theorem U3 {α:Type} (sl:List Nat) (j:Nat) (v:α) (r:List (Nat×α)):nQ sl ((j,v)::r)=if sl.contains j=true then(j,v)::nQ sl r else nQ sl r:=id rfl
@[simp↓] theorem agE {α:Type} (k:Nat):del ([]:List (Nat×α)) k=[]:=id rfl
@[simp↓] theorem abL {α:Type} (j k:Nat) (v:α) (r:List (Nat×α)):del ((j,v)::r) k=if j=k then del r k else(j,v)::del r k:=id rfl
@[simp↓] theorem abM {α:Type} (f:α->α):mw f []=[]:=id rfl
@[simp↓] theorem YM {α:Type} (f:α->α) (j:Nat) (v:α) (r:List (Nat×α)):mw f ((j,v)::r)=(j,f v)::mw f r:=id rfl
def jD (s:St) (ks:List Nat) (E:List (Nat×PV)) (B:List (Nat×br)):St:= {env:=Ex (nQ ks s.env) E,bx:=Ex s.bx B}
@[simp↓] theorem aiW (e:List (Nat×PV)) (b:List (Nat×br)) (ks:List Nat) (E:List (Nat×PV)) (B:List (Nat×br)):jD ⟨e,b⟩ ks E B=⟨Ex (nQ ks e) E,Ex b B⟩:=id rfl
theorem gR.iw {x:dD} {Q:Exit->St->Prop} {t:Tg (x,Q)} (n:Nat) (I:Nat->Prop) (ks:List Nat) (E:Nat->List (Nat×PV)) (B:Nat->List (Nat×br)) (c0:List Cut)
  (h:gQ c0 s λs0=>jD s0 ks (E 0) (B 0)=jD s0 ks [] []∧I 0∧
   (∀i,i<n->I i->∀K:St->Prop,(∀s2,jD s2 ks [] []=jD s0 ks (E (i+1)) (B (i+1))->I (i+1)->K s2)->aw P x (th Q λs'=>∃c:List Cut,gQ c s' K) (jD s0 ks (E i) (B i)))∧
   (I n->∀K:St->Prop,aw P x (th Q K) (jD s0 ks (E n) (B n)))):gR P x Q t s:=by
 refine⟨λm st=>∃s0 i,i≤n∧m=n-i∧I i∧st=jD s0 ks (E i) (B i)∧
  (∀i,i<n->I i->∀K:St->Prop,(∀s2,jD s2 ks [] []=jD s0 ks (E (i+1)) (B (i+1))->I (i+1)->K s2)->aw P x (th Q λs'=>∃c:List Cut,gQ c s' K) (jD s0 ks (E i) (B i)))∧
   (I n->∀K:St->Prop,aw P x (th Q K) (jD s0 ks (E n) (B n))),c0++[.keep ks],?_,?_⟩
 ·rw[ij]
  refine gj c0 (λs0 hs=> ?_) h
  obtain⟨h1,h2,h3,h4⟩:=hs
  exact⟨n,s0,0,by omega,by omega,h2,by rw[h1];rfl,h3,h4⟩
 ·rintro m st ⟨s0,i,hi,rfl,hI,rfl,h3,h4⟩
  by_cases eu:i<n
  ·have Hj:∀(K:St->Prop) s',(∃c:List Cut,gQ c s' λs2=>gQ [.keep ks] s2 K)->∃c:List Cut,gQ c s' K:=λK s' ⟨c,hc⟩=>⟨c++[.keep ks],by rw[ij];exact hc⟩
   have:=h3 i eu hI (λs2=>gQ [.keep ks] s2 λs'=>∃m,m<n-i∧∃s0 i,i≤n∧m=n-i∧I i∧s'=jD s0 ks (E i) (B i)∧
    (∀i,i<n->I i->∀K:St->Prop,(∀s2,jD s2 ks [] []=jD s0 ks (E (i+1)) (B (i+1))->I (i+1)->K s2)->aw P x (th Q λs'=>∃c:List Cut,gQ c s' K) (jD s0 ks (E i) (B i)))∧
    (I n->∀K:St->Prop,aw P x (th Q K) (jD s0 ks (E n) (B n))))
    (λs2 e Uj=>⟨n-(i+1),by omega,s0,i+1,by omega,rfl,Uj,by rw[←e];rfl,h3,h4⟩)
   refine vp (λe s' he=> ?_) this
   cases e with
   |normal=>exact Hj _ _ he
   |_=>exact he
  ·have y8:i=n:=by omega
   subst y8
   exact h4 hI _
end Go.Ab
namespace Go.Ab
variable [eo]
variable {P:Program} {s:St} [gK]
theorem qH {p:PV}:Pure p↔ab (λ_=>false) p=true:=⟨λh=>h.refs _,Pure.of⟩
theorem oI {l:List PV}:aB l↔ae (λ_=>false) l=true:=⟨λh=>h.refs _,aB.of⟩
@[simp] theorem abN (k:IntKind) (n:Int):Pure (.int k n):=Pure.of rfl
@[simp] theorem agF (b:Bool):Pure (.bl b):=Pure.of rfl
@[simp] theorem abO (b:List UInt8):Pure (.str b):=Pure.of rfl
@[simp] theorem agG:Pure .un:=Pure.of rfl
@[simp] theorem agH (b:UInt8):Pure (u8 b):=Pure.of rfl
@[simp] theorem agI (z:Nat) (l:List PV) (c:Bool):Pure (.sl z l c)↔aB l:=by simp only[qH,oI,ab]
@[simp] theorem agJ (z:Nat) (l:List PV):Pure (.st z l)↔aB l:=by simp only[qH,oI,ab]
@[simp] theorem agK (z n:Nat) (l:List PV):Pure (.ar z n l)↔aB l:=by simp only[qH,oI,ab]
@[simp] theorem abP (l:List PV):Pure (.tup l)↔aB l:=by simp only[qH,oI,ab]
@[simp] theorem agL (f:Fn) (a b:List PV):Pure (.fn f a b)↔aB a∧aB b:=by simp only[qH,oI,ab,aJ]
@[simp] theorem Jv:aB []:=aB.of rfl
@[simp] theorem U4 (p:PV) (l:List PV):aB (p::l)↔Pure p∧aB l:=by simp only[qH,oI,ae,aJ]
@[simp] theorem Pf (l m:List PV):aB (l++m)↔aB l∧aB m:=by induction l<;>simp[*,and_assoc]
@[simp] theorem U5 {l:List PV} (h:aB l) (n:Nat):aB (l.take n):=h.take n
@[simp] theorem U6 {l:List PV} (h:aB l) (n:Nat):aB (l.drop n):=h.drop n
@[simp] theorem aS {α:Type} {e:α->PV} (h:∀x,Pure (e x)) (l:List α):aB (l.map e):=aB.map h l
@[simp] theorem rO {p:PV} (h:Pure p) (n:Nat):aB (List.replicate n p):=aB.mk' λq hq=>by rw[(List.mem_replicate.1 hq).2];exact h
@[simp] theorem abQ {p:PV} (h:Pure p) (k z:Nat) (l:List PV):jI k z l p=p:=h.jI k z l
@[simp] theorem YN {p:List PV} (h:aB p) (k z:Nat) (l:List PV):kW k z l p=p:=h.jI k z l
@[simp] theorem aiX (k z k' off len aK z':Nat) (l0:List PV) (p:List Step) (c:iC):jI k z l0 (.rs k' p off len aK z' c)=if k'=k then(if aK=l0.length∧p=[]∧z'=z∧off+len≤l0.length then .sl z ((l0.drop off).take len) (decide (c= .clip))else .un)else .rs k' p off len aK z' c:=by simp[jI]
@[simp] theorem aiY (k z k' aK:Nat) (l0:List PV) (p:List Step):jI k z l0 (.pt k' p aK)=if k'=k then(if aK=l0.length then .fp z l0 p else .un)else .pt k' p aK:=by simp[jI]
@[simp] theorem YO (k z:Nat) (l0:List PV) (p:PV) (l:List PV):kW k z l0 (p::l)=jI k z l0 p::kW k z l0 l:=_root_.id rfl
@[simp] theorem aiZ (k z w:Nat) (l0 l:List PV):jI k z l0 (.st w l)= .st w (kW k z l0 l):=by simp[jI]
@[simp] theorem ai0 (k z w:Nat) (l0 l:List PV) (c:Bool):jI k z l0 (.sl w l c)= .sl w (kW k z l0 l) c:=by simp[jI]
@[simp] theorem LR (f:Nat->Bool) (l m:List PV):ae f (l++m)=(ae f l&&ae f m):=by induction l<;>simp[*,ae,Bool.and_assoc]
@[simp] theorem abR (k z z':Nat) (l0 l:List PV):zC k z l0 (.arr z' l)= .arr z' (kW k z l0 l):=id rfl
@[simp] theorem abS (k z:Nat) (l0:List PV) (v:PV):zC k z l0 (.box v)= .box (jI k z l0 v):=id rfl
@[simp] theorem Ph {l:List PV} (h:aB l) (f:Nat->Bool):ae f l=true:=h.refs f
@[simp] theorem Ss {p:PV} (h:Pure p) (f:Nat->Bool):ab f p=true:=h.refs f
@[simp] theorem YP (f:Nat->Bool) (k:Nat) (p:List Step) (a b c d:Nat) (e:iC):ab f (.rs k p a b c d e)=f k:=by simp[ab]
@[simp] theorem YQ (f:Nat->Bool) (k:Nat) (p:List Step) (a:Nat):ab f (.pt k p a)=f k:=by simp[ab]
@[simp] theorem Pj (f:Nat->Bool) (p:PV) (l:List PV):ae f (p::l)=(ab f p&&ae f l):=id rfl
@[simp] theorem Su (f:Nat->Bool):jq f []=true:=id rfl
@[simp] theorem Pk (f:Nat->Bool) (n:Nat) (p:PV) (r:List (Nat×PV)):jq f ((n,p)::r)=(ab f p&&jq f r):=id rfl
@[simp] theorem U7 (f:Nat->Bool):kG f []=true:=id rfl
@[simp] theorem Sv (f:Nat->Bool) (n:Nat) (p:br) (r:List (Nat×br)):kG f ((n,p)::r)=(ah f p&&kG f r):=id rfl
@[simp] theorem Sw (f:Nat->Bool) (z:Nat) (l:List PV):ah f (.arr z l)=ae f l:=id rfl
@[simp] theorem Sx (f:Nat->Bool) (v:PV):ah f (.box v)=ab f v:=id rfl
@[simp] theorem amx (z:Nat) (l:List PV) (c:Bool):wk (.sl z l c)= .sl z (jE l) false:=by simp[wk]
@[simp] theorem amy (z:Nat) (l:List PV):wk (.st z l)= .st z (jE l):=by simp[wk]
@[simp] theorem amz (z n:Nat) (l:List PV):wk (.ar z n l)= .ar z n (jE l):=by simp[wk]
@[simp] theorem ai1 (k:IntKind) (n:Int):wk (.int k n)= .int k n:=by simp[wk]
@[simp] theorem amA (b:Bool):wk (.bl b)= .bl b:=by simp[wk]
@[simp] theorem ai2 (b:List UInt8):wk (.str b)= .str b:=by simp[wk]
@[simp] theorem amB (k:Nat) (p:List Step) (a:Nat):wk (.pt k p a)= .pt k p a:=by simp[wk]
@[simp] theorem amC (k:Nat) (p:List Step) (a b c d:Nat) (e:iC):wk (.rs k p a b c d e)= .rs k p a b c d e:=by simp[wk]
@[simp] theorem amD (b:UInt8):wk (u8 b)=u8 b:=by simp[u8]
@[simp] theorem agM:jE []=[]:=id rfl
@[simp] theorem abT (p:PV) (l:List PV):jE (p::l)=wk p::jE l:=id rfl
@[simp] theorem U8 (l m:List PV):jE (l++m)=jE l++jE m:=by induction l<;>simp[*]
@[simp] theorem abU (l:List PV) (n:Nat):jE (l.take n)=(jE l).take n:=by simp only[zd,List.map_take]
@[simp] theorem abV (l:List PV) (n:Nat):jE (l.drop n)=(jE l).drop n:=by simp only[zd,List.map_drop]
@[simp] theorem rv {α:Type} {e:α->PV} (h:∀x,wk (e x)=e x) (l:List α):jE (l.map e)=l.map e:=by rw[zd,List.map_map];congr 1;funext x;exact h x
@[simp] theorem Bl {p:PV} (h:wk p=p) (n:Nat):jE (List.replicate n p)=List.replicate n p:=by rw[zd,List.map_replicate,h]
def a8 (P:Program) (f:FuncId) (args:List PV) (v:PV):Prop:=af P f args [] (λr fp=>r=v∧fp=[])
def Bm (P:Program) (f:FuncId) (args:List PV) (sz:Nat) (l:List PV):Prop:=af P f args [] (λr fp=>r= .rs KB [] 0 l.length l.length sz .tip∧fp=[.arr sz l])
theorem gp.jE {Γ:Cx}:∀ {l:List PV} {vs:List Value},gp Γ l vs->gp Γ (Ab.jE l) vs
 |[],[],_=>trivial
 |[],_::_,h=>by simp[gp]at h
 |_::_,[],h=>by simp[gp]at h
 |p::l,v::vs,h=>by simp only[gp,Ab.jE]at h⊢;exact⟨h.1.wk,gp.jE h.2⟩
theorem af.YR {f:FuncId} {args:List PV} {fp:List br} {R:PV->List br->Prop} (h:af P f (jE args) fp R):af P f args fp R:=
 λΓ w vs h1 h2 h3 h4=>h Γ w vs h1 h2 h3 h4.jE
theorem Bm.jI {f:FuncId} {args:List PV} {sz:Nat} {l:List PV} (h:Bm P f args sz l) (hl:aB l):a8 P f args (.sl sz l false):=by
 refine λΓ w vs h1 h2 h3 h4=>(h Γ w vs h1 h2 h3 h4).mono ?_
 rintro e w' ⟨v,r,rR,Γ',e1,⟨rfl,rfl⟩,e3,e4,e5,e6,e7,e8⟩
 have hg:get Γ'.bx KB=some (.arr sz l):=by rw[e5,ig];simp
 have hf:=K8 e4 hg (hl.refs _)
 refine⟨v,.sl sz l false,[],{Γ' with bx:=mw (zC KB sz l) (del Γ'.bx KB)},e1,⟨rfl,rfl⟩,e3,CU e4 _ (λj blk dF hb=>(e4.blk j blk hb).jI hf),?_,?_,?_,e8⟩
 ·rw[e5];simp[aG]
 ·have:=e6.jI hf
  simpa using this
 ·refine⟨e7.heap,λb hb hm=> ?_,e7.dU,e7.size,λk blk hk=> ?_⟩
  ·obtain⟨k,blk,g1,g2⟩:=hm
   rw[e5]at g1
   simp[aG]at g1
  ·rw[h3]at hk;simp[aG]at hk
theorem al.ret {d:Option Nat} {f:FuncId} {args gI:List PV} {v:PV} {K:St->Prop} {t:Tg K} (hA:a8 P f gI v) (ha:jE args=gI) (hp:aB args) (hv:Pure v) (h:K (s.put d v)):al P s d f args K t:=by
 subst ha
 exact Gy (R:=λr=>r=v) (af.YR hA) hp (by rintro r rfl;exact hv) (by rintro r rfl;exact h)
theorem al.own {d:Option Nat} {f:FuncId} {args gI:List PV} {sz:Nat} {l:List PV} {K:St->Prop} {t:Tg K} (o:Nat) (hA:Bm P f gI sz l) (ha:jE args=gI) (hp:aB args) (hl:aB l) (ho:get s.bx o=none)
  (h:K ({s with bx:=put s.bx o (.arr sz l)}.put d (.rs o [] 0 l.length l.length sz .tip))):al P s d f args K t:=by
 subst ha
 refine Jt (R:=λl'=>l'=l) o (af.mono (af.YR hA) ?_) hp ho (by rintro r rfl;exact hl) (by rintro r rfl;exact h)
 rintro r fp ⟨rfl,rfl⟩;exact⟨l,rfl,rfl,rfl⟩
theorem aU.ret {d:Option Nat} {f:FuncId} {args gI:List PV} {v:PV} {K:St->Prop} {t:Tg K} (hA:a8 P f gI v) (ha:jE args=gI) (hp:aB args) (hv:Pure v) (h:K (s.put d v)):aU P s d f args K t:=by
 subst ha
 exact⟨v,⟨hp.refs _,hv.refs _⟩,af.YR hA,h⟩
end Go.Ab
namespace Go.Ab
variable [eo]
variable {P:Program} {s:St} {K:PV->Prop} [gK]
@[simp↓] theorem abW (k:IntKind) (a b:Int):ky .add K (.int k a) (.int k b)=K (.int k (k.wrap (a+b))):=by simp[ky,pC]
@[simp↓] theorem abX (k:IntKind) (a b:Int):ky .sub K (.int k a) (.int k b)=K (.int k (k.wrap (a-b))):=by simp[ky,pC]
@[simp↓] theorem abY (k:IntKind) (a b:Int):ky .mul K (.int k a) (.int k b)=K (.int k (k.wrap (a*b))):=by simp[ky,pC]
@[simp↓] theorem abZ (k:IntKind) (a b:Int):ky .quo K (.int k a) (.int k b)=(b≠0∧K (.int k (k.wrap (a.tdiv b)))):=by simp[ky,pC]
@[simp↓] theorem ab0 (k:IntKind) (a b:Int):ky .rem K (.int k a) (.int k b)=(b≠0∧K (.int k (a.tmod b))):=by simp[ky,pC]
@[simp↓] theorem ab1 (k:IntKind) (a b:Int):ky .and K (.int k a) (.int k b)=K (.int k (bits .and k a b)):=by simp[ky,pC]
@[simp↓] theorem agN (k:IntKind) (a b:Int):ky .or K (.int k a) (.int k b)=K (.int k (bits .or k a b)):=by simp[ky,pC]
@[simp↓] theorem ab2 (k:IntKind) (a b:Int):ky .xor K (.int k a) (.int k b)=K (.int k (bits .xor k a b)):=by simp[ky,pC]
@[simp↓] theorem Sy (k:IntKind) (a b:Int):ky .andNot K (.int k a) (.int k b)=K (.int k (bits .andNot k a b)):=by simp[ky,pC]
@[simp↓] theorem ab3 (k:IntKind) (a b:Int):ky .eql K (.int k a) (.int k b)=K (.bl (decide (a=b))):=by simp[ky,pC];rfl
@[simp↓] theorem ab4 (k:IntKind) (a b:Int):ky .neq K (.int k a) (.int k b)=K (.bl (decide (a≠b))):=by
 simp only[ky,pC,or_true,true_and]
 congr 2;by_cases h:a=b<;>simp[h]
@[simp↓] theorem ab5 (k:IntKind) (a b:Int):ky .lss K (.int k a) (.int k b)=K (.bl (decide (a<b))):=by simp[ky,pC]
@[simp↓] theorem ab6 (k:IntKind) (a b:Int):ky .leq K (.int k a) (.int k b)=K (.bl (decide (a≤b))):=by simp[ky,pC]
@[simp↓] theorem ab7 (k:IntKind) (a b:Int):ky .gtr K (.int k a) (.int k b)=K (.bl (decide (b<a))):=by simp[ky,pC]
@[simp↓] theorem ab8 (k:IntKind) (a b:Int):ky .geq K (.int k a) (.int k b)=K (.bl (decide (b≤a))):=by simp[ky,pC]
@[simp↓] theorem ab9 (k k':IntKind) (a b:Int):ky .shl K (.int k a) (.int k' b)=(0≤b∧K (.int k (k.wrap (a*2^min b.toNat k.bits)))):=by simp[ky,pC]
@[simp↓] theorem aca (k k':IntKind) (a b:Int):ky .shr K (.int k a) (.int k' b)=(0≤b∧K (.int k (a.fdiv (2^min b.toNat k.bits)))):=by simp[ky,pC]
@[simp↓] theorem acb (op:BinOp) (a b:List UInt8):ky op K (.str a) (.str b)=xZ op a b K:=id rfl
@[simp↓] theorem acd (a b:List UInt8):xZ .add a b K=(a.length+b.length≤9223372036854775807∧K (.str (a++b))):=id rfl
@[simp↓] theorem ace (a b:List UInt8):xZ .eql a b K=K (.bl (decide (a=b))):=by
 simp only[xZ];congr 2;by_cases h:a=b<;>simp[h]
@[simp↓] theorem acf (a b:List UInt8):xZ .neq a b K=K (.bl (decide (a≠b))):=by
 simp only[xZ];congr 2;by_cases h:a=b<;>simp[h]
@[simp↓] theorem acg (a b:List UInt8):xZ .lss a b K=K (.bl (Op.bytesLess a b)):=id rfl
@[simp↓] theorem ach (b:Bool):tM .eql b K=K (.bl b):=id rfl
@[simp↓] theorem aci (b:Bool):tM .neq b K=K (.bl (!b)):=id rfl
@[simp↓] theorem agO (op:BinOp) (a b:Bool):aa8 op K (.bl a) (.bl b)=tM op (a==b) K:=id rfl
@[simp↓] theorem agP (b:Bool):unK .not K (.bl b)=K (.bl (!b)):=id rfl
@[simp↓] theorem agQ (k:IntKind) (n:Int):unK .xor K (.int k n)=K (.int k (bits .xor k (if k.signed then-1 else k.max) n)):=id rfl
@[simp↓] theorem agR (sz:Nat) (K:List PV->Prop) (q:PV):O0 s sz K q=wQ s (λcR ys=>(ys=[]∨cR=sz)∧K ys) q:=id rfl
@[simp↓] theorem U9 (d k len aK n sz cR bytes sz'':Nat) (ys l:List PV) (K:St->Prop):LM s d k len aK n sz cR bytes ys K (.arr sz'' l)=((aK=l.length∧cR=sz∧sz''=sz∧len≤n∧n≤l.length∧ys≠[]∧get s.bx d=none∧(len+ys.length)*bytes≤140737488355328∧len+ys.length≤9223372036854775807)∧
    (len+ys.length≤n->K {env:=put s.env d (.rs k [] 0 (len+ys.length) aK sz (.full n)),bx:=put s.bx k (.arr sz (l.take len++ys++l.drop (len+ys.length)))})∧
    (n<len+ys.length->K {env:=put s.env d (.rs d [] 0 (len+ys.length) (len+ys.length) sz .tip),bx:=put s.bx d (.arr sz (l.take len++ys))})):=_root_.id rfl
@[simp↓] theorem agS (d k len aK n sz cR bytes sz'':Nat) (z:PV) (m:Int) (l:List PV) (K:St->Prop):apZ s d k len aK n sz cR bytes z m K (.arr sz'' l)=((get s.bx d=none∧aK=l.length∧cR=sz∧sz''=sz∧len≤n∧n≤l.length∧0<m∧n<len+m.toNat∧(len+m.toNat)*bytes≤140737488355328∧len+m.toNat≤9223372036854775807)∧
    K {env:=put s.env d (.rs d [] 0 (len+m.toNat) (len+m.toNat) sz .tip),bx:=put s.bx d (.arr sz (l.take len++List.replicate m.toNat z))}):=_root_.id rfl
@[simp↓] theorem YS (d k len aK sz cR bytes sz'':Nat) (ys l:List PV) (K:St->Prop):Sn s d k len aK sz cR bytes ys K (.arr sz'' l)=((aK=l.length∧len=l.length∧cR=sz∧sz''=sz∧(l.length+ys.length)*bytes≤140737488355328∧l.length+ys.length≤9223372036854775807)∧
   K {env:=put s.env d (.rs k [] 0 (l.length+ys.length) (l.length+ys.length) sz .tip),bx:=put s.bx k (.arr sz (l++ys))}):=rfl
def Pl (off len aK sz:Nat) (p:List Step) (K:Nat->List PV->Prop):br->Prop
 | .arr cR l=>(aK=l.length∧p=[]∧sz=cR∧off+len≤l.length)∧K sz ((l.drop off).take len)
 | .box v=>cU (aX v p) λ
   | .ar cR n l=>(aK=0∧sz=cR∧off+len≤n)∧K sz ((l.drop off).take len)
   |_=>False
 | .map .. =>False
@[simp↓] theorem Pm (K:Nat->List PV->Prop) (k off len aK sz:Nat) (p:List Step) (c:iC):wQ s K (.rs k p off len aK sz c)=cU (get s.bx k) (Pl off len aK sz p K):=by
 simp only[wQ];congr 1
@[simp↓] theorem acj (off len aK sz cR:Nat) (l:List PV) (p:List Step) (K:Nat->List PV->Prop):Pl off len aK sz p K (.arr cR l)=((aK=l.length∧p=[]∧sz=cR∧off+len≤l.length)∧K sz ((l.drop off).take len)):=id rfl
def Pn (off len aK sz:Nat) (K:Nat->List PV->Prop):PV->Prop
 | .ar cR n l=>(aK=0∧sz=cR∧off+len≤n)∧K sz ((l.drop off).take len)
 |_=>False
@[simp↓] theorem ack (off len aK sz:Nat) (v:PV) (p:List Step) (K:Nat->List PV->Prop):Pl off len aK sz p K (.box v)=cU (aX v p) (Pn off len aK sz K):=by
 simp only[Pl];congr 1
@[simp↓] theorem agT (off len aK sz cR n:Nat) (l:List PV) (K:Nat->List PV->Prop):Pn off len aK sz K (.ar cR n l)=((aK=0∧sz=cR∧off+len≤n)∧K sz ((l.drop off).take len)):=id rfl
@[simp↓] theorem agU (g:Bool) (sz z:Nat) (lo hi:Option AX) (l:List PV) (c:Bool):OZ s g sz lo hi K (.sl z l c)=kU g s lo hi l.length l.length (λa b=>(z=sz)∧K (.sl sz ((l.take b).drop a) (c&&decide (b=l.length)))):=id rfl
@[simp↓] theorem agV (g:Bool) (sz z k off len aK:Nat) (p:List Step) (c:iC) (lo hi:Option AX):OZ s g sz lo hi K (.rs k p off len aK z c)=cU (get s.bx k) λblk=>(aK=blk.aK∧z=sz)∧kU g s lo hi len (Bc c off len aK) λa b=>K (.rs k p (off+a) (b-a) aK sz (Cu c a (decide (b=len)))):=_root_.id rfl
@[simp↓] theorem agW (g:Bool) (sz z:Nat) (lo hi:Option AX) (m:AX) (l:List PV) (c:Bool):LG s g sz lo hi m K (.sl z l c)=iv g (vx s m) (rr λm=>(0≤m∧m≤l.length)∧kU g s lo hi l.length m.toNat λa b=>(z=sz)∧K (.sl sz ((l.take b).drop a) (decide (b=m.toNat)))):=id rfl
def Va (e:Bool):iC:=bif e then .clip else .any
@[simp] theorem ai3:Va true= .clip:=id rfl
@[simp] theorem ai4 (c:iC):Cu c 0 true=c:=by cases c<;>rfl
@[simp↓] theorem agX (g:Bool) (sz z k off len aK:Nat) (p:List Step) (c:iC) (lo hi:Option AX) (m:AX):LG s g sz lo hi m K (.rs k p off len aK z c)=cU (get s.bx k) λblk=>(aK=blk.aK∧z=sz)∧iv g (vx s m) (rr λm=>(0≤m∧m≤len)∧kU g s lo hi len m.toNat λa b=>K (.rs k p (off+a) (b-a) aK sz (Va (decide (b=m.toNat))))):=by
 simp only[LG];congr 1;funext blk;congr 2;congr 1;funext m;congr 2;funext a b;by_cases h:b=m.toNat<;>simp[h,Va]
@[simp↓] theorem ai5 (g:Bool) (K:Nat->Nat->Prop) (h:Nat):Jp g s none K h=K 0 h:=id rfl
@[simp↓] theorem ai6 (g:Bool) (x:AX) (K:Nat->Nat->Prop) (h:Nat):Jp g s (some x) K h=iv g (vx s x) (rr λl=>(0≤l∧l≤h)∧K l.toNat h):=id rfl
def mmC (mx:Bool) (K:PV->Prop):List PV->Prop
 | .int k a::r=>nk mx a r λn=>K (.int k n)
 |_=>False
@[simp↓] theorem agY (mx:Bool) (k:IntKind) (a:Int) (r:List PV):mmC mx K (.int k a::r)=nk mx a r λn=>K (.int k n):=id rfl
@[simp↓] theorem anO (g mx:Bool) (xs:List AX):ev g s (.mm mx xs) K=uD g s xs (mmC mx K):=by
 simp only[ev];congr 1
@[simp↓] theorem YT (mx:Bool) (a:Int) (K:Int->Prop):nk mx a [] K=K a:=id rfl
@[simp↓] theorem YU (a b:Int) (k:IntKind) (r:List PV) (K:Int->Prop):nk true a (.int k b::r) K=nk true (max a b) r K:=by simp[nk,rr]
@[simp↓] theorem YV (a b:Int) (k:IntKind) (r:List PV) (K:Int->Prop):nk false a (.int k b::r) K=nk false (min a b) r K:=by simp[nk,rr]
def Vb (s:St) (K:PV->Prop):PV->Prop
 | .rs k _ _ _ aK _ (.full n)=>cU (get s.bx k) λblk=>aK=blk.aK∧K (.int .i64 n)
 |_=>False
@[simp↓] theorem YW (k:Nat) (p:List Step) (off len aK sz n:Nat):Vb s K (.rs k p off len aK sz (.full n))=cU (get s.bx k) λblk=>aK=blk.aK∧K (.int .i64 n):=_root_.id rfl
@[simp↓] theorem amF (g:Bool) (x:AX):ev g s (.cap x) K=iv g (vx s x) (Vb s K):=by
 simp only[ev,j7];congr 1;funext p
 cases p<;>try rfl
 rename_i k p off len aK sz c
 cases c<;>try rfl
 simp only[Vb]
 cases get s.bx k<;>rfl
@[simp↓] theorem acm (g:Bool) (f:Fn) (a b:List AX):ev g s (.mkFunc f a b) K=uD g s a λps=>uD g s b λqs=>(ps.all (λp=> !p.isAgg&&p.bG)=true∧qs.all (λp=> !p.isAgg&&p.bG)=true)∧K (.fn f ps qs):=by simp only[ev]
@[simp] theorem ge0 {α:Type} (x:α) (l:List α):(x::l)[0]? =some x:=_root_.id rfl
@[simp↓] theorem ai7 (want:Bool) (M:Bool->Prop) (D U:Prop) (b:Bool):B5 want true M D U (.bl b)=M (b==want):=id rfl
@[simp↓] theorem ai8 (M:Bool->Prop) (D U:Prop):B5 true false M D U (.bl true)=D:=by simp[B5]
@[simp↓] theorem ai9 (M:Bool->Prop) (D U:Prop):B5 true false M D U (.bl false)=U:=by simp[B5]
@[simp↓] theorem aja (M:Bool->Prop) (D U:Prop):B5 false false M D U (.bl true)=U:=by simp[B5]
@[simp↓] theorem ajb (M:Bool->Prop) (D U:Prop):B5 false false M D U (.bl false)=D:=by simp[B5]
@[simp↓] theorem amG (A B:Prop):O6 A B (.bl true)=A:=by simp[O6]
@[simp↓] theorem amH (A B:Prop):O6 A B (.bl false)=B:=by simp[O6]
@[simp↓] theorem ajc (want:Bool) (M:Bool->Prop) (D U:Prop) (g b:Bool):B5 want true M D U (.gd g (.bl b))=M (g&&b==want):=id rfl
@[simp↓] theorem agZ (M:Bool->Prop) (D U:Prop):B5 true false M D U (.gd true (.bl true))=D:=by simp[B5]
@[simp↓] theorem ag0 (M:Bool->Prop) (D U:Prop):B5 true false M D U (.gd true (.bl false))=U:=by simp[B5]
@[simp↓] theorem ajd (w:Bool) (M:Bool->Prop) (D U:Prop) (b:Bool):B5 w false M D U (.gd false (.bl b))=U:=by simp[B5]
@[simp↓] theorem acn (x a b:Bool):vn x K (.bl a) (.bl b)=K (.bl (bif x then a else b)):=id rfl
@[simp↓] theorem aco (x a g b:Bool):vn x K (.bl a) (.gd g (.bl b))=((x=false->g=true)∧K (.bl (bif x then a else b))):=id rfl
@[simp↓] theorem acp (x a g b:Bool):vn x K (.gd g (.bl a)) (.bl b)=((x=true->g=true)∧K (.bl (bif x then a else b))):=id rfl
@[simp↓] theorem acq (x a:Bool):vn x K (.bl a) .un=(x=true∧K (.bl a)):=id rfl
@[simp↓] theorem acr (x a:Bool):vn x K .un (.bl a)=(x=false∧K (.bl a)):=id rfl
@[simp] theorem wrap_i64 {n:Int} (h: -9223372036854775808≤n∧n≤9223372036854775807):IntKind.i64.wrap n=n:=by
 simp only[IntKind.wrap,IntKind.bits,IntKind.signed];simp;omega
@[simp] theorem wrap_u8 {n:Int} (h:0≤n∧n≤255):IntKind.u8.wrap n=n:=by
 simp only[IntKind.wrap,IntKind.bits,IntKind.signed];simp;omega
@[simp] theorem wrap_u32 {n:Int} (h:0≤n∧n≤4294967295):IntKind.u32.wrap n=n:=by
 simp only[IntKind.wrap,IntKind.bits,IntKind.signed];simp;omega
@[simp] theorem wrap_u64 {n:Int} (h:0≤n∧n≤18446744073709551615):IntKind.u64.wrap n=n:=by
 simp only[IntKind.wrap,IntKind.bits,IntKind.signed];simp;omega
theorem sq (b:List UInt8):ir (b.map u8)=some b:=by
 induction b with
 |nil=>rfl
 |
  cons x b ih=>
  have h:(x.toNat:Int)<256:=by have:=x.toNat_lt;omega
  simp[u8,ir,ih];omega
@[simp] theorem Po (b:List UInt8):ir (b.map u8)=some b:=sq b
@[simp↓] theorem YX (sz j s:Nat) (l:List PV) (r:List Step):ku (.arr sz l) (.i j s::r)=if s=sz then l[j]?.bind λc=>aX c r else none:=by
 first|(simp only[ku];cases l[j]? <;>rfl)|(simp only[aX];cases l[j]? <;>rfl)
@[simp↓] theorem YY (sz o n s:Nat) (l:List PV) (r:List Step):ku (.arr sz l) (.w o n s::r)=if s=sz∧o+n≤l.length then aX (.ar sz n ((l.drop o).take n)) r else none:=_root_.id rfl
@[simp↓] theorem YZ (v:PV) (p:List Step):ku (.box v) p=aX v p:=by cases p<;>rfl
@[simp↓] theorem acs (v:PV):aX v []=some v:=by cases v<;>rfl
@[simp↓] theorem aje (w i o:Nat) (l:List PV) (r:List Step):aX (.st w l) (.f i o::r)=if av (l.take i)=o then l[i]?.bind λc=>aX c r else none:=by
 simp only[aX];cases l[i]? <;>rfl
@[simp↓] theorem ajf (sz n j s:Nat) (l:List PV) (r:List Step):aX (.ar sz n l) (.i j s::r)=if s=sz then l[j]?.bind λc=>aX c r else none:=by
 first|(simp only[ku];cases l[j]? <;>rfl)|(simp only[aX];cases l[j]? <;>rfl)
@[simp↓] theorem acu (v x:PV):gN v [] x=if x.width=v.width then some x else none:=by cases v<;>rfl
@[simp↓] theorem ajg (w i o:Nat) (l:List PV) (r:List Step) (x:PV):gN (.st w l) (.f i o::r) x=if av (l.take i)=o then l[i]?.bind λc=>(gN c r x).bind λc'=>some (.st w (l.set i c'))else none:=by
 simp only[gN];cases l[i]?with
 |none=>rfl
 |some c=>simp only[Option.bind_some];cases gN c r x<;>rfl
@[simp↓] theorem ajh (sz n j s:Nat) (l:List PV) (r:List Step) (x:PV):gN (.ar sz n l) (.i j s::r) x=if s=sz then l[j]?.bind λc=>(gN c r x).bind λc'=>some (.ar sz n (l.set j c'))else none:=by
 simp only[gN];cases l[j]?with
 |none=>rfl
 |some c=>simp only[Option.bind_some];cases gN c r x<;>rfl
@[simp↓] theorem Y0 (v x:PV) (p:List Step):sc (.box v) p x=(gN v p x).bind λv'=>some (.box v'):=by
 simp only[sc];cases gN v p x<;>rfl
@[simp↓] theorem Y1 (sz j s:Nat) (l:List PV) (r:List Step) (x:PV):sc (.arr sz l) (.i j s::r) x=if s=sz then l[j]?.bind λc=>(gN c r x).bind λc'=>some (.arr sz (l.set j c'))else none:=by
 simp only[sc];cases l[j]?with
 |none=>rfl
 |some c=>simp only[Option.bind_some];cases gN c r x<;>rfl
@[simp] theorem ag1 (z:Nat) (l:List PV) (v:PV):Us (.arr z l) v=wk v:=id rfl
@[simp] theorem ag2 (u v:PV):Us (.box u) v=v:=id rfl
@[simp] theorem Sz (z:Nat) (l:List PV):(br.arr z l).aK=l.length:=id rfl
@[simp] theorem SA (v:PV):(br.box v).aK=0:=id rfl
@[simp↓] theorem Pp (l:List PV):dJ l []=some l:=id rfl
@[simp↓] theorem N1 (l:List PV) (i:Nat) (p:PV) (r:List (Nat×PV)):dJ l ((i,p)::r)=l[i]?.bind λq=>if p.width=q.width∧p.bG=true then dJ (l.set i p) r else none:=by
 simp only[dJ];cases l[i]? <;>rfl
@[simp] theorem anP (w:Nat) (l:List PV):(PV.st w l).width=w:=id rfl
@[simp] theorem anQ (sz n:Nat) (l:List PV):(PV.ar sz n l).width=n*sz:=id rfl
@[simp] theorem amI (k:IntKind) (n:Int):(PV.int k n).width=1:=id rfl
@[simp] theorem anR (b:Bool):(PV.bl b).width=1:=id rfl
@[simp] theorem amJ (b:List UInt8):(PV.str b).width=1:=id rfl
@[simp] theorem anS (z:Nat) (l:List PV) (c:Bool):(PV.sl z l c).width=1:=id rfl
@[simp] theorem anT (k:Nat) (p:List Step) (a b c d:Nat) (e:iC):(PV.rs k p a b c d e).width=1:=id rfl
@[simp] theorem anU (b:UInt8):(u8 b).width=1:=id rfl
@[simp] theorem Vc:av []=0:=id rfl
@[simp] theorem SB (p:PV) (l:List PV):av (p::l)=p.width+av l:=id rfl
@[simp] theorem aji (w:Nat) (l:List PV):(PV.st w l).isAgg=true:=id rfl
@[simp] theorem ajj (sz n:Nat) (l:List PV):(PV.ar sz n l).isAgg=true:=id rfl
@[simp] theorem ag3 (k:IntKind) (n:Int):(PV.int k n).isAgg=false:=id rfl
@[simp] theorem ajk (b:Bool):(PV.bl b).isAgg=false:=id rfl
@[simp] theorem ajl (z:Nat) (l:List PV) (c:Bool):(PV.sl z l c).isAgg=false:=id rfl
@[simp] theorem ajm (k:Nat) (p:List Step) (a b c d:Nat) (e:iC):(PV.rs k p a b c d e).isAgg=false:=id rfl
@[simp] theorem ajn (k:Nat) (p:List Step) (a:Nat):(PV.pt k p a).isAgg=false:=id rfl
@[simp] theorem ajo (b:UInt8):(u8 b).isAgg=false:=id rfl
@[simp] theorem ajp (w:Nat) (l:List PV):(PV.st w l).bG=true:=id rfl
@[simp] theorem ajq (sz n:Nat) (l:List PV):(PV.ar sz n l).bG=true:=id rfl
@[simp] theorem ag4 (k:IntKind) (n:Int):(PV.int k n).bG=true:=id rfl
@[simp] theorem ajr (b:Bool):(PV.bl b).bG=true:=id rfl
@[simp] theorem ag5 (b:List UInt8):(PV.str b).bG=true:=id rfl
@[simp] theorem ajs (z:Nat) (l:List PV) (c:Bool):(PV.sl z l c).bG=true:=id rfl
@[simp] theorem ajt (k:Nat) (p:List Step) (a b c d:Nat) (e:iC):(PV.rs k p a b c d e).bG=true:=id rfl
@[simp] theorem aju (k:Nat) (p:List Step) (a:Nat):(PV.pt k p a).bG=true:=id rfl
@[simp] theorem ag6 (w:Nat) (l:List PV):(PV.st w l).flat=true:=id rfl
@[simp] theorem ag7 (sz n:Nat) (l:List PV):(PV.ar sz n l).flat=true:=id rfl
@[simp] theorem acv (k:IntKind) (n:Int):(PV.int k n).flat=true:=id rfl
@[simp] theorem ag8 (b:Bool):(PV.bl b).flat=true:=id rfl
@[simp] theorem acw (b:List UInt8):(PV.str b).flat=true:=id rfl
@[simp] theorem ag9 (z:Nat) (l:List PV) (c:Bool):(PV.sl z l c).flat=true:=id rfl
@[simp] theorem aha (k:Nat) (p:List Step) (a b c d:Nat) (e:iC):(PV.rs k p a b c d e).flat=true:=id rfl
@[simp] theorem ahb (k:Nat) (p:List Step) (a:Nat):(PV.pt k p a).flat=true:=id rfl
end Go.Ab
namespace Go.Ab
variable [eo]
variable {P:Program} {s:St} [gK]
theorem aC.with {n:Nat} {res:List AK} {R:PV->List br->Prop} {t:Tg R} (c:List Cut) (ks:List Nat)
  (h:gQ c s λs'=>FJ s' res λps=>cU (getAll s'.bx ks) λcm=>(ks.Nodup∧ks.take n=eX n)∧(ps.all PV.flat=true∧ab (bS ks) (gF ps)=true∧cm.all (ah (bS ks))=true)∧R (az (bE ks) (gF ps)) (cm.map (aM (bE ks)))):aC n res R t s:=by
 refine⟨c,ks,gj c (λs' pz=> ?_) h⟩
 have XQ:∀(l:List AK) (s:St) (K K':List PV->Prop),(∀p,K p->K' p)->FJ s l K->FJ s l K':=by
  intro l
  induction l with
  |nil=>intro s K K' h hk;exact h _ hk
  |cons x l ih=>intro s K K' h hk;exact yE (λp hp=>ih _ _ _ (λq hq=>h _ hq) hp) hk
 refine XQ _ _ _ _ (λps BA=> ?_) pz
 cases hg:getAll s'.bx ks with
 |none=>rw[hg]at BA;exact BA.elim
 |some cm=>rw[hg]at BA;exact⟨cm,⟨rfl,BA.1.1,BA.1.2⟩,BA.2.1,BA.2.2⟩
@[simp] theorem SC (bx:List (Nat×br)) (k:Nat) (r:List Nat):getAll bx (k::r)=(get bx k).bind λb=>(getAll bx r).bind λl=>some (b::l):=by
 simp only[getAll];cases get bx k<;>cases getAll bx r<;>rfl
@[simp] theorem acx {p:PV} (h:Pure p) (ρ:Nat->Nat):az ρ p=p:=h.az ρ
@[simp] theorem Y2 {p:List PV} (h:aB p) (ρ:Nat->Nat):aO ρ p=p:=h.az ρ
@[simp] theorem ajv (ρ:Nat->Nat) (k:Nat) (p:List Step) (a b c d:Nat) (e:iC):az ρ (.rs k p a b c d e)= .rs (ρ k) p a b c d e:=by simp[az]
@[simp] theorem ajw (ρ:Nat->Nat) (k:Nat) (p:List Step) (a:Nat):az ρ (.pt k p a)= .pt (ρ k) p a:=by simp[az]
@[simp] theorem ajx (ρ:Nat->Nat) (w:Nat) (l:List PV):az ρ (.st w l)= .st w (aO ρ l):=by simp[az]
@[simp] theorem acy (ρ:Nat->Nat) (z:Nat) (l:List PV):aM ρ (.arr z l)= .arr z (aO ρ l):=id rfl
@[simp] theorem acz (ρ:Nat->Nat) (v:PV):aM ρ (.box v)= .box (az ρ v):=id rfl
@[simp] theorem Y3 (k:Nat) (ks:List Nat) (j:Nat):bE (k::ks) j=((idx (k::ks) j).map (KB+·)).getD j:=by
 simp only[bE];cases idx (k::ks) j<;>rfl
@[simp] theorem acA (x:Nat) (r:List Nat) (k:Nat):idx (x::r) k=if x=k then some 0 else(idx r k).map (·+1):=by
 simp only[idx];cases idx r k<;>rfl
@[simp] theorem ahc (ks:List Nat) (k:Nat):bS ks k=(idx ks k).isSome:=id rfl
@[simp] theorem Y4 (f:Nat->Bool) (w:Nat) (l:List PV):ab f (.st w l)=ae f l:=by simp[ab]
@[simp] theorem Pq {α β:Type} (f:α->β) (l:List α):(l.map f).take l.length=l.map f:=tJ (by simp)
@[simp] theorem Pr {p:PV} (h:Pure p) (n:Nat):aB (zr n p):=by rw[iq];exact rO h n
@[simp] theorem amK {p:PV} (h:wk p=p) (n:Nat):jE (zr n p)=zr n p:=by rw[iq];exact Bl h n
@[simp] theorem acB (n:Nat) (k:IntKind) (m:Int):aB (zr n (.int k m)):=Pr (by simp) n
@[simp] theorem ajy (n:Nat) (p:PV):(zr n p).length=n:=by rw[iq];exact List.length_replicate
theorem Jw (b:List UInt8):aB (b.map u8):=by simp
@[simp] theorem Vd (b:List UInt8):aB (b.map u8)↔True:=iff_true_intro (Jw b)
end Go.Ab
namespace Go.Ab
variable [eo]
variable {P:Program} {s:St} [gK]
def oJ (P:Program) (l:List AO) (o u:List Nat) (K:St->Prop) (_:Tg K) (s:St):Prop:=∃W,jW P l u.contains W s o K
@[simp↓] theorem Ve (l:List AO) (o u:List Nat) (Q:Exit->St->Prop):aw P (.regionD l o u) Q s=oJ P l o u (Q .normal) .mk s:=_root_.id rfl
def lM (s:St):List (AO×Bool)->Bool
 |[]=>true
 |(x,_)::r=>(match x.je with|some k=>(get s.bx k).isNone|none=>true)&&lM s r
def LS (P:Program) (W:List Nat) (s:St):List (AO×Bool)->(St->Prop)->Prop
 |[],K=>K s
 |(x,f)::r,K=>lM s ((x,f)::r)=true∧kI P W f s x λt=>LS P W t r K
def oX (l:List AO) (u:List Nat):List Nat->Option (List (AO×Bool))
 |[]=>some []
 |i::r=>match l[i]?,oX l u r with|some x,some m=>some ((x,u.contains i)::m)|_,_=>none
theorem vq {l:List AO} {u:List Nat}:∀ {o:List Nat} {m:List (AO×Bool)},oX l u o=some m->lM s m=gr l s o
 |[],m,hm=>by simp[oX]at hm;subst hm;rfl
 |
  i::r,m,hm=>by
  simp only[oX]at hm
  split at hm
  ·rename_i x m' hx tI
   simp only[sJ]at hm;subst hm
   rw[gV]
   simp only[lM,vq tI]
   congr 1
   simp only[gr,List.all_cons,List.all_nil,Bool.and_true,hx]
   cases x.je<;>rfl
  ·simp at hm
theorem yH {l:List AO} {u:List Nat} {W:List Nat}:∀ {o:List Nat} {m:List (AO×Bool)} {s:St} {K:St->Prop},oX l u o=some m->LS P W s m K->jW P l u.contains W s o K
 |[],m,s,K,hm,h=>by simp[oX]at hm;subst hm;exact h
 |
  i::r,m,s,K,hm,h=>by
  simp only[oX]at hm
  split at hm
  ·rename_i x m' hx tI
   simp only[sJ]at hm;subst hm
   have hf:lM s ((x,u.contains i)::m')=gr l s (i::r):=vq (u:=u) (by simp only[oX,hx,tI])
   simp only[jW,hx,LS]at h⊢
   exact⟨hf▸h.1,Ad (λt ht=>yH tI ht) h.2⟩
  ·simp at hm
theorem oJ.of {l:List AO} {o u:List Nat} {K:St->Prop} {t:Tg K} (W:List Nat) (m:List (AO×Bool)) (hm:oX l u o=some m) (h:LS P W s m K):oJ P l o u K t s:=⟨W,yH hm h⟩
def Gz:Option br->Bool
 |some (.box _)=>true
 |_=>false
def SD (W:List Nat) (c:List (Nat×br)):List (Nat×br)->Prop
 |[]=>True
 |(k,b)::r=>(if Hz W=true then get c k=some b∨W.contains k=true∧Gz (some b)=true∧Gz (get c k)=true else W.contains k=true∨get c k=some b)∧SD W c r
theorem LU {W:List Nat} {t:St}:∀ {l:List (Nat×br)} {e:List (Nat×PV)},SD W t.bx l->Fr W ⟨e,l⟩ t
 |[],e,_=>λk b _ h=>by simp[get]at h
 |
  (n,v)::r,e,h=>λk b hw hb=>by
  simp only[get]at hb
  split at hb
  ·rename_i hk;subst hk
   simp only[sJ]at hb;subst hb
   have h1:=h.1
   split at h1
   ·rename_i hm
    rcases h1 with h1|⟨h1,h2,h3⟩
    ·exact⟨_,h1,rfl⟩
    ·cases v with
     |
      box x=>
      cases hg:get t.bx n with
      |none=>rw[hg]at h3;simp[Gz]at h3
      |
       some c=>
       rw[hg]at h3
       cases c with
       |box y=>exact⟨_,rfl,by simp only[yg,h1,hm,and_self,if_true]⟩
       |_=>simp[Gz]at h3
     |_=>simp[Gz]at h2
   ·rename_i hm
    rcases h1 with h1|h1
    ·rw[h1]at hw;simp at hw;exact absurd hw hm
    ·exact⟨_,h1,rfl⟩
  ·exact LU (e:=e) h.2 k b hw hb
def tj (P:Program) (W:List Nat) (s:St):List (AO×Bool)->(St->Prop)->Prop
 |[],K=>K s
 |(x,f)::r,K=>if x.quiet=true then(if f=true then jd P (s.less W) x (λt=>tj P W {t with bx:=s.bx} r K)else jd P s x (λt=>tj P W t r K))
   else lM s ((x,f)::r)=true∧jd P s x (λt=>(f=true->SD W t.bx s.bx)∧tj P W t r K)
theorem sr {s s':St} (h:s'.bx=s.bx):∀m:List (AO×Bool),lM s' m=lM s m
 |[]=>rfl
 |(x,f)::r=>by simp only[lM,sr h r,h]
theorem wR {W:List Nat}:∀ {m:List (AO×Bool)} {s:St} {K:St->Prop},tj P W s m K->lM s m=true
 |[],s,K,h=>rfl
 |
  (x,f)::r,s,K,h=>by
  simp only[tj]at h
  split at h
  ·rename_i hq
   simp only[lM,kJ hq,Bool.true_and]
   split at h
   ·obtain⟨v,h1,_⟩:=sS hq h
    have:=wR h1
    exact(sr (s:=s) (s':= {env:=((s.less W).put x.dst v).env,bx:=s.bx}) rfl r).symm.trans this
   ·obtain⟨v,h1,_⟩:=sS hq h
    have:=wR h1
    rwa [sr (lC _ _)]at this
  ·exact h.1
theorem oK {W:List Nat}:∀ {m:List (AO×Bool)} {s:St} {K:St->Prop},tj P W s m K->LS P W s m K
 |[],s,K,h=>h
 |
  (x,f)::r,s,K,h=>by
  refine⟨wR h,?_⟩
  simp only[tj,kI]at h⊢
  split at h
  ·rename_i hq
   rw[if_pos hq]
   split at h
   ·rename_i hf;rw[if_pos hf];exact eJ (λt ht=>oK ht) h
   ·rename_i hf;rw[if_neg hf];exact eJ (λt ht=>oK ht) h
  ·rename_i hq
   rw[if_neg hq]
   exact eJ (λt ht=>⟨λe=>LU (e:=s.env) (ht.1 e),oK ht.2⟩) h.2
@[simp] theorem amL:Hz []=false:=_root_.id rfl
@[simp] theorem amM (a:Nat):Hz [a]=false:=_root_.id rfl
@[simp] theorem amN (a b:Nat) (r:List Nat):Hz (a::b::r)=(a==b):=_root_.id rfl
theorem Ps {W:List Nat} (h:Hz W=false) (k:Nat) (b:br):yg W k b=b:=by cases b<;>simp[yg,h]
def Ae (W:List Nat) (b:List (Nat×br)):List (Nat×br):=(b.filter λp=>Hz W|| !W.contains p.1).map λp=>(p.1,yg W p.1 p.2)
@[simp] theorem Y5 (W:List Nat):Ae W []=[]:=_root_.id rfl
@[simp] theorem Vf (W:List Nat) (k:Nat) (v:br) (r:List (Nat×br)):Ae W ((k,v)::r)=if Hz W=true then(k,yg W k v)::Ae W r else if W.contains k=true then Ae W r else(k,v)::Ae W r:=by
 unfold Ae;rw[List.filter_cons]
 cases hm:Hz W
 ·cases W.contains k<;>simp[Ps hm]
 ·simp
@[simp] theorem acC (d:Option Nat) (gd:Option (Nat×Bool)) (mg:Bool) (a:AX):AO.quiet ⟨d,gd,mg,.mv a⟩=true:=_root_.id rfl
@[simp] theorem ahd (d:Option Nat) (gd:Option (Nat×Bool)) (mg:Bool) (a:AX):AO.je ⟨d,gd,mg,.mv a⟩=none:=by simp[AO.je]
@[simp] theorem SE (d:Option Nat) (gd:Option (Nat×Bool)) (mg:Bool) (z:PV) (ps:List (Nat×AX)):AO.quiet ⟨d,gd,mg,.build z ps⟩=true:=_root_.id rfl
@[simp] theorem Vg (d:Option Nat) (gd:Option (Nat×Bool)) (mg:Bool) (g:Bool) (m:Nat) (a:AX):AO.quiet ⟨d,gd,mg,.load g m a⟩=true:=_root_.id rfl
@[simp] theorem LV (d:Option Nat) (gd:Option (Nat×Bool)) (mg:Bool) (a:AX):AO.quiet ⟨d,gd,mg,.nilCheck a⟩=true:=_root_.id rfl
@[simp] theorem N2 (d:Option Nat) (gd:Option (Nat×Bool)) (mg:Bool) (a:AX):AO.je ⟨d,gd,mg,.nilCheck a⟩=none:=by simp[AO.je]
@[simp] theorem Y6 (d:Option Nat) (gd:Option (Nat×Bool)) (mg:Bool) (o:BinOp) (e:ET) (a b:AX):AO.quiet ⟨d,gd,mg,.bin o e a b⟩=true:=_root_.id rfl
@[simp] theorem acD (d:Option Nat) (gd:Option (Nat×Bool)) (mg:Bool) (o:BinOp) (e:ET) (a b:AX):AO.je ⟨d,gd,mg,.bin o e a b⟩=none:=by simp[AO.je]
@[simp] theorem SF (d:Option Nat) (gd:Option (Nat×Bool)) (mg:Bool) (k:IntKind) (a:AX):AO.quiet ⟨d,gd,mg,.convI k a⟩=true:=_root_.id rfl
@[simp] theorem Vh (d:Option Nat) (gd:Option (Nat×Bool)) (mg:Bool) (k:IntKind) (a:AX):AO.je ⟨d,gd,mg,.convI k a⟩=none:=by simp[AO.je]
@[simp] theorem SG (d:Option Nat) (gd:Option (Nat×Bool)) (mg:Bool) (k:SK) (a:AX) (l h m:Option AX):AO.quiet ⟨d,gd,mg,.slice k a l h m⟩=true:=_root_.id rfl
@[simp] theorem Pt (d:Option Nat) (gd:Option (Nat×Bool)) (mg:Bool) (i o:Nat) (a:AX):AO.quiet ⟨d,gd,mg,.fieldA i o a⟩=true:=_root_.id rfl
@[simp] theorem SH (d:Option Nat) (gd:Option (Nat×Bool)) (mg:Bool) (i o:Nat) (a:AX):AO.je ⟨d,gd,mg,.fieldA i o a⟩=none:=by simp[AO.je]
@[simp] theorem Pu (d:Option Nat) (gd:Option (Nat×Bool)) (mg:Bool) (k:SK) (a b:AX):AO.quiet ⟨d,gd,mg,.indexA k a b⟩=true:=_root_.id rfl
@[simp] theorem SI (d:Option Nat) (gd:Option (Nat×Bool)) (mg:Bool) (k:SK) (a b:AX):AO.je ⟨d,gd,mg,.indexA k a b⟩=none:=by simp[AO.je]
@[simp] theorem N3 (d:Option Nat) (gd:Option (Nat×Bool)) (mg:Bool) (i:Nat) (a:AX):AO.quiet ⟨d,gd,mg,.extract i a⟩=true:=_root_.id rfl
@[simp] theorem Vi (d:Option Nat) (gd:Option (Nat×Bool)) (mg:Bool) (a:AX) (as:List AX):AO.quiet ⟨d,gd,mg,.call a as⟩=false:=_root_.id rfl
@[simp] theorem Y7 (d:Option Nat) (gd:Option (Nat×Bool)) (mg:Bool) (a:AX) (as:List AX):AO.je ⟨d,gd,mg,.call a as⟩=none:=by simp[AO.je]
@[simp] theorem SJ (d:Option Nat) (gd:Option (Nat×Bool)) (mg:Bool) (a:AX) (as:List AX):AO.quiet ⟨d,gd,mg,.callq a as⟩=true:=_root_.id rfl
@[simp] theorem Vj (d:Option Nat) (gd:Option (Nat×Bool)) (mg:Bool) (a:AX) (as:List AX):AO.je ⟨d,gd,mg,.callq a as⟩=none:=by simp[AO.je]
@[simp] theorem SL (d:Option Nat) (gd:Option (Nat×Bool)) (mg:Bool) (z:PV):AO.quiet ⟨d,gd,mg,.alloc z⟩=false:=_root_.id rfl
@[simp] theorem SM (d:Option Nat) (gd:Option (Nat×Bool)) (mg:Bool) (m:Nat) (a b:AX):AO.quiet ⟨d,gd,mg,.store m a b⟩=false:=_root_.id rfl
@[simp] theorem Vk (d:Option Nat) (gd:Option (Nat×Bool)) (mg:Bool) (m:Nat) (a b:AX):AO.je ⟨d,gd,mg,.store m a b⟩=none:=by simp[AO.je]
@[simp] theorem Pv (d:Option Nat) (gd:Option (Nat×Bool)) (mg:Bool) (m m2:Nat) (g:Bool) (a b:AX):AO.quiet ⟨d,gd,mg,.append m m2 g a b⟩=false:=_root_.id rfl
@[simp] theorem SN (d:Option Nat) (gd:Option (Nat×Bool)) (mg:Bool) (m m2:Nat) (g:Bool) (a b:AX):AO.je ⟨d,gd,mg,.append m m2 g a b⟩=none:=by simp[AO.je]
@[simp] theorem Vl (d:Option Nat) (gd:Option (Nat×Bool)) (mg:Bool) (m:Nat) (a b:AX):AO.quiet ⟨d,gd,mg,.copy m a b⟩=false:=_root_.id rfl
@[simp] theorem Y8 (d:Option Nat) (gd:Option (Nat×Bool)) (mg:Bool) (m:Nat) (a b:AX):AO.je ⟨d,gd,mg,.copy m a b⟩=none:=by simp[AO.je]
@[simp] theorem Kk (d:Option Nat) (gd:Option (Nat×Bool)) (mg:Bool) (m m2:Nat) (z:PV) (a b:AX):AO.quiet ⟨d,gd,mg,.makeSlice m m2 z a b⟩=false:=_root_.id rfl
@[simp] theorem Kl (k:Nat) (mg:Bool) (sz b:Nat) (z:PV) (kl kc:IntKind) (l c:Int):AO.je ⟨some k,none,mg,.makeSlice sz b z (.c (.int kl l)) (.c (.int kc c))⟩=if 0≤l∧l≤c∧c*b≤281474976710656∧c≤9223372036854775807 then some k else none:=_root_.id rfl
@[simp] theorem Y9 (d:Option Nat) (gd:Option (Nat×Bool)) (mg:Bool) (m:Nat) (z:PV) (n:Nat) (ps:List (Nat×AX)):AO.quiet ⟨d,gd,mg,.buildSlice false m z n ps⟩=true:=_root_.id rfl
@[simp] theorem acE (d:Option Nat) (gd:Option (Nat×Bool)) (mg:Bool) (m:Nat) (z:PV) (n:Nat) (ps:List (Nat×AX)):AO.je ⟨d,gd,mg,.buildSlice false m z n ps⟩=none:=by simp[AO.je]
@[simp] theorem Za (d:Option Nat) (gd:Option (Nat×Bool)) (mg:Bool) (m:Nat) (z:PV) (n:Nat) (ps:List (Nat×AX)):AO.quiet ⟨d,gd,mg,.buildSlice true m z n ps⟩=false:=_root_.id rfl
@[simp] theorem acF (d:Option Nat) (gd:Option (Nat×Bool)) (mg:Bool) (m:Nat) (z:PV) (n:Nat) (ps:List (Nat×AX)):AO.je ⟨d,gd,mg,.buildSlice true m z n ps⟩=none:=by simp[AO.je]
theorem oJ.run {l:List AO} {o u:List Nat} {K:St->Prop} {t:Tg K} (W:List Nat) {m:List (AO×Bool)} (hm:oX l u o=some m) (h:tj P W s m K):oJ P l o u K t s:=oJ.of W m hm (oK h)
@[simp↓] theorem acG (W:List Nat) (K:St->Prop):tj P W s [] K=K s:=_root_.id rfl
@[simp↓] theorem ajz (W:List Nat) (n:Nat) (v:PV) (e:List (Nat×PV)) (b:List (Nat×br)) (x:AO) (f:Bool) (r:List (AO×Bool)) (K:St->Prop):tj P W ⟨(n,v)::e,b⟩ ((x,f)::r) K=
  if x.quiet=true then(if f=true then jd P ⟨(n,v)::e,Ae W b⟩ x (λt=>tj P W {t with bx:=b} r K)else jd P ⟨(n,v)::e,b⟩ x (λt=>tj P W t r K))
  else(lM ⟨(n,v)::e,b⟩ ((x,f)::r)=true∧jd P ⟨(n,v)::e,b⟩ x (λt=>(f=true->SD W t.bx b)∧tj P W t r K)):=by
 simp only[tj];rfl
@[simp] theorem ahe (x:AO) (f:Bool) (r:List (AO×Bool)):lM s ((x,f)::r)=((match x.je with|some k=>(get s.bx k).isNone|none=>true)&&lM s r):=_root_.id rfl
def DrE (P:Program) (l:List AO) (a:List Nat) (p q:Nat) (b u:List Nat) (K:St->Prop) (_:Tg K) (s:St):Prop:=∃W,nC P l u.contains W (p::q::b) s a λt=>jW P l u.contains W t (p::q::b) K∧jW P l u.contains W t (q::p::b) K
def ss (P:Program) (W:List Nat) (mE:List (AO×Bool)) (s:St):List (AO×Bool)->(St->Prop)->Prop
 |[],K=>lM s mE=true∧K s
 |(x,f)::r,K=>if x.quiet=true then(if f=true then jd P (s.less W) x (λt=>ss P W mE {t with bx:=s.bx} r K)else jd P s x (λt=>ss P W mE t r K))
   else lM s ((x,f)::(r++mE))=true∧jd P s x (λt=>(f=true->SD W t.bx s.bx)∧ss P W mE t r K)
theorem Ey {l:List AO} {u:List Nat}:∀ {a b:List Nat} {m n:List (AO×Bool)},oX l u a=some m->oX l u b=some n->oX l u (a++b)=some (m++n)
 |[],b,m,n,h,h2=>by simp[oX]at h;subst h;exact h2
 |
  i::r,b,m,n,h,h2=>by
  simp only[oX]at h
  split at h
  ·rename_i x m' hx tI
   simp only[sJ]at h;subst h
   simp only[List.cons_append,oX,hx,Ey tI h2]
  ·simp at h
theorem ua {W:List Nat} {mE:List (AO×Bool)}:∀ {m:List (AO×Bool)} {s:St} {K:St->Prop},ss P W mE s m K->lM s (m++mE)=true
 |[],s,K,h=>h.1
 |
  (x,f)::r,s,K,h=>by
  simp only[ss]at h
  split at h
  ·rename_i hq
   simp only[List.cons_append,lM,kJ hq,Bool.true_and]
   split at h
   ·obtain⟨v,h1,_⟩:=sS hq h
    have:=ua h1
    exact(sr (s:=s) (s':= {env:=((s.less W).put x.dst v).env,bx:=s.bx}) rfl _).symm.trans this
   ·obtain⟨v,h1,_⟩:=sS hq h
    have:=ua h1
    rwa [sr (lC _ _)]at this
  ·exact h.1
theorem yI {l:List AO} {u:List Nat} {W E:List Nat} {mE:List (AO×Bool)} (hE:oX l u E=some mE):∀ {o:List Nat} {m:List (AO×Bool)} {s:St} {K:St->Prop},oX l u o=some m->ss P W mE s m K->nC P l u.contains W E s o K
 |[],m,s,K,hm,h=>by simp[oX]at hm;subst hm;exact⟨by rw[←vq hE];exact h.1,h.2⟩
 |
  i::r,m,s,K,hm,h=>by
  have Ns:=hm
  simp only[oX]at hm
  split at hm
  ·rename_i x m' hx tI
   simp only[sJ]at hm;subst hm
   have hf:=vq (s:=s) (Ey Ns hE)
   have sb:=ua h
   rw[hf]at sb
   simp only[nC,hx]
   refine⟨by simpa using sb,?_⟩
   simp only[ss,kI]at h⊢
   split at h
   ·rename_i hq
    rw[if_pos hq]
    split at h
    ·rename_i hf;rw[if_pos hf];exact eJ (λt ht=>yI hE tI ht) h
    ·rename_i hf;rw[if_neg hf];exact eJ (λt ht=>yI hE tI ht) h
   ·rename_i hq
    rw[if_neg hq]
    exact eJ (λt ht=>⟨λe=>LU (e:=s.env) (ht.1 e),yI hE tI ht.2⟩) h.2
  ·simp at hm
theorem s5 {W:List Nat} {mE:List (AO×Bool)}:∀ {m:List (AO×Bool)} {s:St} {K K':St->Prop},(∀t,K t->K' t)->ss P W mE s m K->ss P W mE s m K'
 |[],s,K,K',h,hk=>⟨hk.1,h _ hk.2⟩
 |
  (x,f)::r,s,K,K',h,hk=>by
  simp only[ss]at hk⊢
  split at hk
  ·rename_i hq;rw[if_pos hq]
   split at hk
   ·rename_i hf;rw[if_pos hf];exact eJ (λt ht=>s5 h ht) hk
   ·rename_i hf;rw[if_neg hf];exact eJ (λt ht=>s5 h ht) hk
  ·rename_i hq;rw[if_neg hq]
   exact⟨hk.1,eJ (λt ht=>⟨ht.1,s5 h ht.2⟩) hk.2⟩
theorem DrE.run {l:List AO} {a:List Nat} {p q:Nat} {b u:List Nat} {K:St->Prop} {t:Tg K} (W:List Nat) {m m1 m2:List (AO×Bool)} (hm:oX l u a=some m) (h1:oX l u (p::q::b)=some m1) (h2:oX l u (q::p::b)=some m2)
  (h:ss P W m1 s m λt=>tj P W t m1 K∧tj P W t m2 K):DrE P l a p q b u K t s:=⟨W,yI h1 hm (s5 (λt ht=>⟨yH h1 (oK ht.1),yH h2 (oK ht.2)⟩) h)⟩
@[simp↓] theorem Zb:lM s []=true:=_root_.id rfl
@[simp↓] theorem acH (k:Nat) (mg f:Bool) (z:PV) (r:List (AO×Bool)):lM s ((⟨some k,none,mg,.alloc z⟩,f)::r)=((get s.bx k).isNone&&lM s r):=_root_.id rfl
@[simp] theorem ahf (W:List Nat) (c:List (Nat×br)):SD W c []=True:=_root_.id rfl
@[simp] theorem acI (W:List Nat) (c:List (Nat×br)) (k:Nat) (b:br) (r:List (Nat×br)):SD W c ((k,b)::r)=((if Hz W=true then get c k=some b∨W.contains k=true∧Gz (some b)=true∧Gz (get c k)=true else W.contains k=true∨get c k=some b)∧SD W c r):=_root_.id rfl
end Go.Ab
namespace Go.Ab
variable [eo]
variable {P:Program} {s:St}
theorem RgS.of {ps:List Nat} {x y:dD} {Q:Exit->St->Prop} {t:Tg (x,y,Q)} {fid:FuncId} {cap uv:List PV} {iK FY:List br} {Y:List PV->List br->(List br->Prop)->Prop} (ks:List Nat) (cm:List br)
  (hg:getAll s.bx ks=some cm) (hn:ks.Nodup) (hc:ae (bS ks) cap=true) (hb:cm.all (ah (bS ks))=true) (G7:aO (bE ks) cap=uv) (A6:cm.map (aM (bE ks))=iK)
  (hI:Sg P fid uv iK Y λfp=>fp=FY)
  (hr:∀args fp R1,Y args fp R1->(args.length=ps.length∧fp.length=ks.length)∧aw P x (th noQ λs'=>aw P y (Lu ks.length R1) s') (CY ks s ps args fp))
  (hl:FY.length=ks.length∧FY.all (ah (eI FY.length))=true) (hK:Q .normal {s with bx:=bB s.bx ks (FY.map (aM (fu ks)))}):RgS P ps x y Q t s (.fn (.func fid) [] cap):=by
 refine⟨λ_ _ _ _ h=>h,ks,cm,Y,λfp=>fp=FY,⟨hg,hn,hc,hb⟩,by rw[G7,A6];exact hI,hr,?_⟩
 rintro fp rfl
 exact⟨hl,hK⟩
theorem al.gen {d:Option Nat} {f:FuncId} {args gI:List PV} {iK FY:List br} {r1:PV} {K:St->Prop} {t:Tg K} (ks os:List Nat) (cm:List br) (hA:af P f gI iK λr fp=>r=r1∧fp=FY)
  (hg:getAll s.bx ks=some cm) (hn:(ks++os).Nodup) (Ou:∀o∈os,get s.bx o=none) (ha:ae (bS ks) args=true) (hb:cm.all (ah (bS ks))=true)
  (ha':jE (aO (bE ks) args)=gI) (A6:cm.map (aM (bE ks))=iK) (hl:FY.length=(ks++os).length∧ab (eI FY.length) r1=true∧FY.all (ah (eI FY.length))=true)
  (h:K ({s with bx:=bB s.bx (ks++os) (FY.map (aM (fu (ks++os))))}.put d (az (fu (ks++os)) r1))):al P s d f args K t:=by
 subst ha' A6
 refine⟨ks,os,cm,_,hg,hn,Ou,ha,hb,af.YR hA,?_⟩
 rintro r fp ⟨rfl,rfl⟩
 exact⟨hl,h⟩
theorem abz.of {n:Nat} {R:List br->Prop} {t:Tg R} (c:List Cut) (h:gQ c s λs'=>∃cm,getAll s'.bx (eX n)=some cm∧cm.all (ah (eI n))=true∧R cm):abz n R t s:=⟨c,h⟩
@[simp] theorem acJ:eX 1=[KB]:=rfl
@[simp] theorem acK:eX 2=[KB,KB+1]:=rfl
@[simp] theorem acL:eX 3=[KB,KB+1,KB+2]:=rfl
@[simp] theorem acM:eX 5=[KB,KB+1,KB+2,KB+3,KB+4]:=rfl
@[simp] theorem amP {n:Nat} (h:n<9000):(KB=n)=False:=by simp only[KB,eq_iff_iff,iff_false];omega
@[simp] theorem ajA {n:Nat} (h:n<9000):(n=KB)=False:=by simp only[KB,eq_iff_iff,iff_false];omega
@[simp] theorem Zc {n i:Nat} (h:n<9000):(KB+i=n)=False:=by simp only[KB,eq_iff_iff,iff_false];omega
@[simp] theorem Vm {n i:Nat} (h:n<9000):(n=KB+i)=False:=by simp only[KB,eq_iff_iff,iff_false];omega
@[simp] theorem Zd {n:Nat} (h:n<9000):(KB<n)=False:=by simp only[KB,eq_iff_iff,iff_false];omega
@[simp] theorem N4 {n i:Nat} (h:n<9000):(KB+i<n)=False:=by simp only[KB,eq_iff_iff,iff_false];omega
@[simp] theorem ahg {i:Nat}:(KB+i<KB)=False:=by simp
end Go.Ab
namespace Go.Ab
variable [eo]
structure ajB (sh:Sh) (p:PV):Prop where
 refs:ab (λ_=>false) p=true
 wk:wk p=p
 width:p.width=rZ sh
 agg:p.isAgg=sh.agg
 beq:PV.beq p p=true
 cell:p.bG=true
 flat:p.flat=true
mutual
theorem fH:∀(p:PV) (sh:Sh),fits sh p=true->ajB sh p
 | .bl b,.b,_=>⟨rfl,by simp,rfl,rfl,by simp[PV.beq],rfl,rfl⟩
 | .int k n,.i k',h=>⟨rfl,by simp,rfl,rfl,by simp[PV.beq],rfl,rfl⟩
 | .str s,.s,_=>⟨rfl,by simp,rfl,rfl,by simp[PV.beq],rfl,rfl⟩
 |
  .st w m,.st l,h=>by
  simp only[fits,aJ,decide_eq_true_eq]at h
  obtain⟨h1,h2,h3,h4⟩:=Af m l h.2
  exact⟨by simpa[ab]using h1,by simp[h2],by simp[rZ,h.1],rfl,by simp[PV.beq,h4],rfl,rfl⟩
 |
  .ar sz k m,.ar n e,h=>by
  simp only[fits,aJ,decide_eq_true_eq]at h
  obtain⟨h1,h2,h4⟩:=Ag m e h.2
  exact⟨by simpa[ab]using h1,by simp[h2],by simp[rZ,h.1.1,h.1.2.1],rfl,by simp[PV.beq,h4],rfl,rfl⟩
 | .un,sh,h=>by cases sh<;>simp[fits]at h
 | .tup _,sh,h=>by cases sh<;>simp[fits]at h
 | .sl _ _ _,sh,h=>by cases sh<;>simp[fits]at h
 | .rs _ _ _ _ _ _ _,sh,h=>by cases sh<;>simp[fits]at h
 | .np,sh,h=>by cases sh<;>simp[fits]at h
 | .pt _ _ _,sh,h=>by cases sh<;>simp[fits]at h
 | .fp _ _ _,sh,h=>by cases sh<;>simp[fits]at h
 | .fn _ _ _,sh,h=>by cases sh<;>simp[fits]at h
 | .nf,sh,h=>by cases sh<;>simp[fits]at h
 | .gd _ _,sh,h=>by cases sh<;>simp[fits]at h
 | .ifc _ _,sh,h=>by cases sh<;>simp[fits]at h
 | .ni,sh,h=>by cases sh<;>simp[fits]at h
 | .mp _ _,sh,h=>by cases sh<;>simp[fits]at h
 | .bl _,.i _,h=>by simp[fits]at h
 | .bl _,.s,h=>by simp[fits]at h
 | .bl _,.st _,h=>by simp[fits]at h
 | .bl _,.ar _ _,h=>by simp[fits]at h
 | .int _ _,.b,h=>by simp[fits]at h
 | .int _ _,.s,h=>by simp[fits]at h
 | .int _ _,.st _,h=>by simp[fits]at h
 | .int _ _,.ar _ _,h=>by simp[fits]at h
 | .str _,.b,h=>by simp[fits]at h
 | .str _,.i _,h=>by simp[fits]at h
 | .str _,.st _,h=>by simp[fits]at h
 | .str _,.ar _ _,h=>by simp[fits]at h
 | .st _ _,.b,h=>by simp[fits]at h
 | .st _ _,.i _,h=>by simp[fits]at h
 | .st _ _,.s,h=>by simp[fits]at h
 | .st _ _,.ar _ _,h=>by simp[fits]at h
 | .ar _ _ _,.b,h=>by simp[fits]at h
 | .ar _ _ _,.i _,h=>by simp[fits]at h
 | .ar _ _ _,.s,h=>by simp[fits]at h
 | .ar _ _ _,.st _,h=>by simp[fits]at h
theorem Af:∀(m:List PV) (l:List Sh),kd l m=true->ae (λ_=>false) m=true∧jE m=m∧av m=rU l∧PV.oN m m=true
 |[],[],_=>⟨rfl,rfl,rfl,by simp[PV.oN]⟩
 |
  p::m,x::l,h=>by
  simp only[kd,aJ]at h
  have f:=fH p x h.1
  obtain⟨h1,h2,h3,h4⟩:=Af m l h.2
  exact⟨by simp[ae,f.refs,h1],by simp[f.wk,h2],by simp[rU,f.width,h3],by simp[PV.oN,f.beq,h4]⟩
 |[],_::_,h=>by simp[kd]at h
 |_::_,[],h=>by simp[kd]at h
theorem Ag:∀(m:List PV) (e:Sh),tu e m=true->ae (λ_=>false) m=true∧jE m=m∧PV.oN m m=true
 |[],_,_=>⟨rfl,rfl,by simp[PV.oN]⟩
 |
  p::m,e,h=>by
  simp only[tu,aJ]at h
  have f:=fH p e h.1
  obtain⟨h1,h2,h4⟩:=Ag m e h.2
  exact⟨by simp[ae,f.refs,h1],by simp[f.wk,h2],by simp[PV.oN,f.beq,h4]⟩
end
structure FV (sh:Sh) where
 p:PV
 ok:fits sh p=true
variable {sh:Sh} (v:FV sh)
@[simp] theorem FV.fits:Ab.fits sh v.p=true:=v.ok
@[simp] theorem FV.pure:Pure v.p:=Pure.of (fH v.p sh v.ok).refs
@[simp] theorem FV.wk:Ab.wk v.p=v.p:=(fH v.p sh v.ok).wk
@[simp] theorem FV.width:v.p.width=rZ sh:=(fH v.p sh v.ok).width
@[simp] theorem FV.agg:v.p.isAgg=sh.agg:=(fH v.p sh v.ok).agg
@[simp] theorem FV.beq:PV.beq v.p v.p=true:=(fH v.p sh v.ok).beq
@[simp] theorem FV.cell:v.p.bG=true:=(fH v.p sh v.ok).cell
@[simp] theorem FV.flat:v.p.flat=true:=(fH v.p sh v.ok).flat
end Go.Ab
namespace Go.Ab
variable [eo]
variable {P:Program} {s:St} [gK]
theorem gR.acN {x:dD} {Q:Exit->St->Prop} {t:Tg (x,Q)} (n:Nat) (I:Nat->Prop) (ks:List Nat) (E:Nat->List (Nat×PV)) (B:Nat->List (Nat×br)) (c0 ce:List Cut)
  (h:gQ c0 s λs0=>jD s0 ks (E 0) (B 0)=jD s0 ks [] []∧I 0∧
   (∀i,i<n->I i->∀K:St->Prop,(∀s2,jD s2 ks [] []=jD s0 ks (E (i+1)) (B (i+1))->I (i+1)->K s2)->aw P x (th Q λs'=>∃c:List Cut,gQ c s' K) (jD s0 ks (E i) (B i)))∧
   (I n->gQ ce (jD s0 ks (E n) (B n)) λst=>∀K:St->Prop,aw P x (th Q K) st)):gR P x Q t s:=by
 let Step:St->Prop:=λs0=>∀i,i<n->I i->∀K:St->Prop,(∀s2,jD s2 ks [] []=jD s0 ks (E (i+1)) (B (i+1))->I (i+1)->K s2)->aw P x (th Q λs'=>∃c:List Cut,gQ c s' K) (jD s0 ks (E i) (B i))
 let End:St->Prop:=λs0=>I n->gQ ce (jD s0 ks (E n) (B n)) λst=>∀K:St->Prop,aw P x (th Q K) st
 let J:Nat->St->Prop:=λm st=>(∃s0 i,i<n∧m=n-i∧I i∧st=jD s0 ks (E i) (B i)∧Step s0∧End s0)∨(m=0∧∀K:St->Prop,aw P x (th Q K) st)
 refine⟨J,if n=0 then c0++([.keep ks]++ce)else c0++[.keep ks],?_,?_⟩
 ·by_cases hn:n=0
  ·rw[if_pos hn,ij]
   refine gj c0 (λs0 hs=> ?_) h
   obtain⟨h1,h2,h3,h4⟩:=hs
   rw[ij]
   have h4:=h4 (by rw[hn];exact h2)
   rw[hn,h1]at h4
   exact gj ce (λst rT=>⟨0,.inr ⟨rfl,rT⟩⟩) h4
  ·rw[if_neg hn,ij]
   refine gj c0 (λs0 hs=> ?_) h
   obtain⟨h1,h2,h3,h4⟩:=hs
   exact⟨n,.inl ⟨s0,0,by omega,by omega,h2,by rw[h1];rfl,h3,h4⟩⟩
 ·rintro m st (⟨s0,i,hi,rfl,hI,rfl,h3,h4⟩|⟨rfl,rT⟩)
  ·by_cases hl:i+1=n
   ·have Hj:∀(K:St->Prop) s',(∃c:List Cut,gQ c s' λs2=>gQ ([.keep ks]++ce) s2 K)->∃c:List Cut,gQ c s' K:=λK s' ⟨c,hc⟩=>⟨c++([.keep ks]++ce),by rw[ij];exact hc⟩
    have:=h3 i hi hI (λs2=>gQ ([.keep ks]++ce) s2 λs'=>∃m,m<n-i∧J m s') (λs2 e Uj=>by
     rw[hl]at e Uj
     have h4:=h4 Uj
     rw[←e]at h4
     rw[ij]
     exact gj ce (λst rT=>⟨0,by omega,.inr ⟨rfl,rT⟩⟩) h4)
    refine vp (λe s' he=> ?_) this
    cases e with
    |normal=>exact Hj _ _ he
    |_=>exact he
   ·have Hj:∀(K:St->Prop) s',(∃c:List Cut,gQ c s' λs2=>gQ [.keep ks] s2 K)->∃c:List Cut,gQ c s' K:=λK s' ⟨c,hc⟩=>⟨c++[.keep ks],by rw[ij];exact hc⟩
    have:=h3 i hi hI (λs2=>gQ [.keep ks] s2 λs'=>∃m,m<n-i∧J m s')
     (λs2 e Uj=>⟨n-(i+1),by omega,.inl ⟨s0,i+1,by omega,rfl,Uj,by rw[←e];rfl,h3,h4⟩⟩)
    refine vp (λe s' he=> ?_) this
    cases e with
    |normal=>exact Hj _ _ he
    |_=>exact he
  ·exact rT _
theorem gR.acO {α:Type} {x:dD} {Q:Exit->St->Prop} {t:Tg (x,Q)} (n:Nat) (x0:α) (I:Nat->α->Prop) (ks:List Nat) (E:Nat->α->List (Nat×PV)) (B:Nat->α->List (Nat×br)) (c0:List Cut)
  (h:gQ c0 s λs0=>jD s0 ks (E 0 x0) (B 0 x0)=jD s0 ks [] []∧I 0 x0∧
   (∀i y,i<n->I i y->∀K:St->Prop,(∀z s2,jD s2 ks [] []=jD s0 ks (E (i+1) z) (B (i+1) z)->I (i+1) z->K s2)->aw P x (th Q λs'=>∃c:List Cut,gQ c s' K) (jD s0 ks (E i y) (B i y)))∧
   (∀y,I n y->∀K:St->Prop,aw P x (th Q K) (jD s0 ks (E n y) (B n y)))):gR P x Q t s:=by
 let
   R:St->Prop:=λs0=>(∀i y,i<n->I i y->∀K:St->Prop,(∀z s2,jD s2 ks [] []=jD s0 ks (E (i+1) z) (B (i+1) z)->I (i+1) z->K s2)->aw P x (th Q λs'=>∃c:List Cut,gQ c s' K) (jD s0 ks (E i y) (B i y)))∧
   (∀y,I n y->∀K:St->Prop,aw P x (th Q K) (jD s0 ks (E n y) (B n y)))
 let J:Nat->St->Prop:=λm st=>∃s0 i y,i≤n∧m=n-i∧I i y∧st=jD s0 ks (E i y) (B i y)∧R s0
 refine⟨J,c0++[.keep ks],?_,?_⟩
 ·rw[ij]
  refine gj c0 (λs0 hs=> ?_) h
  obtain⟨h1,h2,h3⟩:=hs
  exact⟨n,s0,0,x0,by omega,by omega,h2,by rw[h1];rfl,h3⟩
 ·rintro m st ⟨s0,i,y,hi,rfl,hI,rfl,h3⟩
  by_cases eu:i<n
  ·have Hj:∀(K:St->Prop) s',(∃c:List Cut,gQ c s' λs2=>gQ [.keep ks] s2 K)->∃c:List Cut,gQ c s' K:=λK s' ⟨c,hc⟩=>⟨c++[.keep ks],by rw[ij];exact hc⟩
   have:=h3.1 i y eu hI (λs2=>gQ [.keep ks] s2 λs'=>∃m,m<n-i∧J m s')
    (λz s2 e Uj=>⟨n-(i+1),by omega,s0,i+1,z,by omega,rfl,Uj,by rw[←e];rfl,h3⟩)
   refine vp (λe s' he=> ?_) this
   cases e with
   |normal=>exact Hj _ _ he
   |_=>exact he
  ·have y8:i=n:=by omega
   subst y8
   exact h3.2 y hI _
end Go.Ab
namespace Go.Ab
variable [eo]
variable {P:Program} {s:St} [gK]
def cpA (s:St) (d:Option Nat) (sz:Nat) (ys:List PV) (K:St->Prop) (k:Nat) (v:PV) (pth:List Step) (off len aK cR:Nat):PV->Prop
 | .ar sz'' n l=>cU (gN v pth (.ar sz'' n (l.take off++ys.take (min ys.length len)++l.drop (off+min ys.length len)))) λv'=>(aK=0∧cR=sz∧sz''=sz∧off+len≤n)∧K ({s with bx:=put s.bx k (.box v')}.put d (.int .i64 (min ys.length len:Nat)))
 |_=>False
def cpB (s:St) (d:Option Nat) (sz:Nat) (ys:List PV) (K:St->Prop) (k:Nat) (pth:List Step) (off len aK cR:Nat):br->Prop
 | .arr sz'' l=>(aK=l.length∧pth=[]∧cR=sz∧sz''=sz∧off+len≤l.length)∧K ({s with bx:=put s.bx k (.arr sz (l.take off++ys.take (min ys.length len)++l.drop (off+min ys.length len)))}.put d (.int .i64 (min ys.length len:Nat)))
 | .box v=>cU (aX v pth) (cpA s d sz ys K k v pth off len aK cR)
 | .map .. =>False
def N5 (s:St) (d:Option Nat) (sz:Nat) (ys:List PV) (K:St->Prop):PV->Prop
 | .rs k pth off len aK cR _=>cU (get s.bx k) (cpB s d sz ys K k pth off len aK cR)
 |_=>False
def Vn (s:St) (d:Option Nat) (sz:Nat) (p:PV) (K:St->Prop):PV->Prop
 | .str bs=>sz=1∧N5 s d sz (bs.map u8) K p
 |q=>wQ s (λcR ys=>(ys=[]∨cR=sz)∧N5 s d sz ys K p) q
theorem B6 (d:Option Nat) (sz:Nat) (p:PV) (ys:List PV) (K:St->Prop):kE s d sz p ys K=N5 s d sz ys K p:=by
 cases p<;>try rfl
 rename_i k pth off len aK cR c
 simp only[kE,N5]
 generalize get s.bx k=o
 cases o with
 |none=>rfl
 |
  some b=>
  cases b with
  |arr z l=>rfl
  |
   box v=>
   simp only[cU,cpB]
   generalize aX v pth=o
   cases o with
   |none=>rfl
   |
    some q=>
    cases q<;>simp only[cpA,cU]
    rename_i z n l
    generalize gN v pth (.ar z n (List.take off l++List.take (min ys.length len) ys++List.drop (off+min ys.length len) l))=o
    cases o<;>rfl
  |map b ks vs l=>rfl
@[simp↓] theorem ajC (d:Option Nat) (sz:Nat) (x y:AX) (K:St->Prop):ex s d (.copy sz x y) K=iv true (vx s x) λp=>iv true (vx s y) λq=>Vn s d sz p K q:=by
 simp only[ex,j7]
 congr 1;funext p;congr 1;funext q
 cases q<;>simp only[Vn,Sm,LJ,O0,abe,B6]
@[simp↓] theorem GA (d:Option Nat) (sz:Nat) (p:PV) (K:St->Prop) (z:Nat) (l:List PV) (c:Bool):Vn s d sz p K (.sl z l c)=((l=[]∨z=sz)∧N5 s d sz l K p):=_root_.id rfl
@[simp↓] theorem LW (d:Option Nat) (sz:Nat) (ys:List PV) (K:St->Prop) (k:Nat) (pth:List Step) (off len aK cR:Nat) (c:iC):N5 s d sz ys K (.rs k pth off len aK cR c)=cU (get s.bx k) (cpB s d sz ys K k pth off len aK cR):=_root_.id rfl
@[simp↓] theorem ahi (d:Option Nat) (sz:Nat) (ys:List PV) (K:St->Prop) (k:Nat) (pth:List Step) (off len aK cR z:Nat) (l:List PV):cpB s d sz ys K k pth off len aK cR (.arr z l)=((aK=l.length∧pth=[]∧cR=sz∧z=sz∧off+len≤l.length)∧K ({s with bx:=put s.bx k (.arr sz (l.take off++ys.take (min ys.length len)++l.drop (off+min ys.length len)))}.put d (.int .i64 (min ys.length len:Nat)))):=_root_.id rfl
@[simp↓] theorem ahj (d:Option Nat) (sz:Nat) (ys:List PV) (K:St->Prop) (k:Nat) (pth:List Step) (off len aK cR:Nat) (v:PV):cpB s d sz ys K k pth off len aK cR (.box v)=cU (aX v pth) (cpA s d sz ys K k v pth off len aK cR):=_root_.id rfl
@[simp↓] theorem ajD (d:Option Nat) (sz:Nat) (ys:List PV) (K:St->Prop) (k:Nat) (v:PV) (pth:List Step) (off len aK cR z n:Nat) (l:List PV):cpA s d sz ys K k v pth off len aK cR (.ar z n l)=cU (gN v pth (.ar z n (l.take off++ys.take (min ys.length len)++l.drop (off+min ys.length len)))) λv'=>(aK=0∧cR=sz∧z=sz∧off+len≤n)∧K ({s with bx:=put s.bx k (.box v')}.put d (.int .i64 (min ys.length len:Nat))):=_root_.id rfl
def flP (s:St) (sz:Nat) (z:PV) (K:St->Prop):PV->Prop
 | .rs k pth off len aK cR c=>N5 s none sz (List.replicate len z) K (.rs k pth off len aK cR c)
 |_=>False
@[simp↓] theorem ajF (sz:Nat) (z:PV) (K:St->Prop) (k:Nat) (pth:List Step) (off len aK cR:Nat) (c:iC):flP s sz z K (.rs k pth off len aK cR c)=N5 s none sz (List.replicate len z) K (.rs k pth off len aK cR c):=_root_.id rfl
@[simp↓] theorem ajG (d:Option Nat) (sz:Nat) (z:PV) (x:AX) (K:St->Prop):ex s d (.fill sz z x) K=iv true (vx s x) λp=>d=none∧flP s sz z K p:=by
 simp only[ex,j7]
 congr 1;funext p
 simp only[KM]
 congr 1
 cases p<;>simp only[flP,B6]
def clB (s:St) (d:Option Nat) (k:Nat) (pth:List Step) (off len aK sz:Nat) (c:iC) (K:St->Prop):br->Prop
 | .arr cR l=>(pth=[]∧off=0∧sz=1∧cR=1∧c= .tip∧len=l.length∧aK=l.length∧l≠[]∧l.all PV.isNum=true)∧K (St.put {s with bx:=put s.bx k (.arr 1 (l++[.int .u8 0]))} d (.sl 1 l false))
 |_=>False
def clP (s:St) (d:Option Nat) (K:St->Prop):PV->Prop
 | .rs k pth off len aK sz c=>cU (get s.bx k) (clB s d k pth off len aK sz c K)
 |_=>False
@[simp↓] theorem ahk (d:Option Nat) (x:AX) (K:St->Prop):ex s d (.convL x) K=iv true (vx s x) (clP s d K):=by
 simp only[ex,j7]
 congr 1;funext p
 cases p<;>try rfl
 rename_i k pth off len aK sz c
 simp only[clP]
 cases get s.bx k with
 |none=>rfl
 |some x=>cases x<;>rfl
@[simp↓] theorem ajJ (d:Option Nat) (K:St->Prop) (k:Nat) (pth:List Step) (off len aK sz:Nat) (c:iC):clP s d K (.rs k pth off len aK sz c)=cU (get s.bx k) (clB s d k pth off len aK sz c K):=_root_.id rfl
@[simp↓] theorem ahl (d:Option Nat) (k:Nat) (pth:List Step) (off len aK sz:Nat) (c:iC) (K:St->Prop) (cR:Nat) (l:List PV):clB s d k pth off len aK sz c K (.arr cR l)=((pth=[]∧off=0∧sz=1∧cR=1∧c= .tip∧len=l.length∧aK=l.length∧l≠[]∧l.all PV.isNum=true)∧K (St.put {s with bx:=put s.bx k (.arr 1 (l++[.int .u8 0]))} d (.sl 1 l false))):=_root_.id rfl
@[simp] theorem Ze (k:IntKind) (n:Int):PV.isNum (.int k n)=true:=_root_.id rfl
end Go.Ab
namespace Go.Ab
variable [eo]
variable {P:Program} {Γ Δ:Cx}
mutual
def oz:PV->Bool
 | .sl _ l _=>l.isEmpty
 | .fp .. | .fn .. | .ifc .. | .gd .. | .tup _=>false
 | .st _ l=>iT l
 | .ar _ _ l=>iT l
 |_=>true
def iT:List PV->Bool
 |[]=>true
 |p::r=>oz p&&iT r
end
def lN:PV->Bool
 | .tup l=>iT l
 |p=>oz p
theorem Ez {p:PV} (h:oz p=true):lN p=true:=by
 cases p<;>first|exact h|simp[oz]at h
def EA:br->Bool
 | .box v=>oz v
 | .arr _ l=>iT l
 | .map .. =>true
structure Vo (ρ:Nat->Nat) (Γ Δ:Cx):Prop where
 heap:Δ.heap=Γ.heap
 ref:∀k blk,get Γ.bx k=some blk->∃b8,get Δ.bx (ρ k)=some b8∧b8.aK=blk.aK∧Δ.ι (ρ k)=Γ.ι k
theorem Ah (ρ:Nat->Nat):∀l:List PV,aO ρ l=l.map (Ab.az ρ)
 |[]=>rfl
 |p::l=>by simp[aO,Ah ρ l]
theorem aD.Pw {ρ:Nat->Nat} (hs:Vo ρ Γ Δ) {l:List PV} {cs:List Value} (h:aD Γ l cs):iT l=true->aD Δ (aO ρ l) cs:=by
 induction h with
 |nil=>intro _;exact .nil
 |un h hr ih=>intro hf;simp only[iT,aJ]at hf;exact .un h (ih hf.2)
 |bl x hr ih=>intro hf;simp only[iT,aJ]at hf;exact .bl x (ih hf.2)
 |int k n hr ih=>intro hf;simp only[iT,aJ]at hf;exact .int k n (ih hf.2)
 |str l s h hr ih=>intro hf;simp only[iT,aJ]at hf;exact .str l s h (ih hf.2)
 |st w l hl hw hr ihl ih=>intro hf;simp only[iT,oz,aJ]at hf;exact .st w _ (ihl hf.1) hw (ih hf.2)
 |
  ar sz n l hl hn hw hr ihl ih=>
  intro hf;simp only[iT,oz,aJ]at hf
  refine .ar sz n _ (ihl hf.1) (by rw[mh];exact hn) ?_ (ih hf.2)
  intro x hx
  rw[Ah]at hx
  obtain⟨y,hy,rfl⟩:=List.mem_map.1 hx
  rw[oG];exact hw y hy
 |
  sl sz l clip a bt hl hw hc hk hb hr ihl ih=>
  intro hf;simp only[iT,oz,aJ,List.isEmpty_iff]at hf
  obtain⟨rfl,hf2⟩:=hf
  cases hl
  exact .sl sz [] clip a bt .nil (by simp) hc hk (λh=>absurd rfl h) (ih hf2)
 |
  rs k p off len aK sz c v blk hg h1 hv hr ih=>
  intro hf;simp only[iT,oz,aJ]at hf
  obtain⟨b8,g1,g2,g3⟩:=hs.ref k blk hg.1
  refine .rs (ρ k) p off len aK sz c v b8 ⟨g1,by rw[g2];exact hg.2⟩ h1 (λht=> ?_) (ih hf.2)
  obtain⟨a,bt,e1,e2⟩:=hv (by rw[ht,g2])
  exact⟨a,bt,e1,e2.az g3 hs.heap⟩
 |np hr ih=>intro hf;simp only[iT,aJ]at hf;exact .np (ih hf.2)
 |
  pt k p aK v blk hg h1 hv hr ih=>
  intro hf;simp only[iT,oz,aJ]at hf
  obtain⟨b8,g1,g2,g3⟩:=hs.ref k blk hg.1
  refine .pt (ρ k) p aK v b8 ⟨g1,by rw[g2];exact hg.2⟩ h1 (λht=> ?_) (ih hf.2)
  obtain⟨b,e1,e2⟩:=hv (by rw[ht,g2])
  exact⟨b,by rw[g3,e1],e2⟩
 |fp=>intro hf;simp[iT,oz]at hf
 |fn=>intro hf;simp[iT,oz]at hf
 |nf hr ih=>intro hf;simp only[iT,aJ]at hf;exact .nf (ih hf.2)
 |ifc=>intro hf;simp[iT,oz]at hf
 |ni hr ih=>intro hf;simp only[iT,aJ]at hf;exact .ni (ih hf.2)
 |mp k b hr ih=>intro hf;simp only[iT,aJ]at hf;exact .mp k b (ih hf.2)
theorem aD.GB {ρ:Nat->Nat} (hs:Vo ρ Γ Δ) {p:PV} {cs:List Value} (h:aD Γ [p] cs) (hf:oz p=true):aD Δ [Ab.az ρ p] cs:=by
 have:=h.Pw hs (by simp[iT,hf])
 simpa only[aO]using this
theorem aN.Pw {ρ:Nat->Nat} (hs:Vo ρ Γ Δ) {p:PV} {v:Value} (h:aN Γ p v) (hf:oz p=true):aN Δ (Ab.az ρ p) v:=by
 cases p
 case un=>trivial
 case st w l=>obtain⟨cs,h1,h2⟩:=h;exact⟨cs,h1,h2.GB hs hf⟩
 case ar sz n l=>obtain⟨cs,h1,h2⟩:=h;exact⟨cs,h1,h2.GB hs hf⟩
 case gd=>simp[oz]at hf
 case tup=>simp[oz]at hf
 all_goals exact aD.GB hs h hf
theorem kr.Pw {ρ:Nat->Nat} (hs:Vo ρ Γ Δ) {p:PV} {v:Value} (h:kr Γ p v) (hf:oz p=true):kr Δ (Ab.az ρ p) v:=by
 cases p
 case un=>trivial
 case st w l=>obtain⟨cs,h1,h2⟩:=h;exact⟨cs,h1,h2.GB hs hf⟩
 case ar sz n l=>obtain⟨cs,h1,h2⟩:=h;exact⟨cs,h1,h2.GB hs hf⟩
 all_goals exact aD.GB hs h hf
theorem kS.Pw {ρ:Nat->Nat} (hs:Vo ρ Γ Δ):∀ {l:List PV} {vs:List Value},kS Γ l vs->iT l=true->kS Δ (aO ρ l) vs
 |[],[],_,_=>trivial
 |[],_::_,h,_=>h.elim
 |_::_,[],h,_=>h.elim
 |
  p::l,v::vs,h,hf=>by
  simp only[iT,aJ]at hf
  exact⟨h.1.Pw hs hf.1,kS.Pw hs h.2 hf.2⟩
theorem aN.ajK {ρ:Nat->Nat} (hs:Vo ρ Γ Δ) {p:PV} {v:Value} (h:aN Γ p v) (hf:lN p=true):aN Δ (Ab.az ρ p) v:=by
 cases p
 case tup l=>
  obtain⟨vs,h1,h2⟩:=h
  exact⟨vs,h1,h2.Pw hs hf⟩
 all_goals exact h.Pw hs hf
def V0 (bx:List (Nat×br)) (p p':PV):Prop:=
 (p'=p∧ab (λ_=>false) p=true)∨
 (∃k pth off len aK sz c l,p= .rs k pth off len aK sz c∧content ⟨[],bx⟩ p (λcR l0=>cR=sz∧l0=l)∧ae (λ_=>false) l=true∧0<sz∧p'= .sl sz l false)
def LX (bx:List (Nat×br)):List PV->List PV->Prop
 |[],[]=>True
 |p::r,p'::r'=>V0 bx p p'∧LX bx r r'
 |_,_=>False
def V1 (bx:List (Nat×br)) (p p':PV):Prop:=
 V0 bx p p'∨
 (∃sz l l' c,p= .sl sz l c∧LX bx l l'∧p'= .sl sz l' c)∨
 (∃k pth off len aK sz c l l',p= .rs k pth off len aK sz c∧content ⟨[],bx⟩ p (λcR l0=>cR=sz∧l0=l)∧LX bx l l'∧0<sz∧p'= .sl sz l' false)
def Vp (bx:List (Nat×br)):List PV->List PV->Prop
 |[],[]=>True
 |p::r,p'::r'=>V1 bx p p'∧Vp bx r r'
 |_,_=>False
def Cx.bare (Γ:Cx):Cx:= {heap:=Γ.heap,ι:=λ_=>none,bx:=[],dU:=λ_=>False}
theorem oL {b:Nat}:¬Γ.bare.own b:=by
 rintro(⟨k,blk,h,_⟩|h)
 ·simp[Cx.bare,get]at h
 ·exact h
theorem Jx (hm:Mem Γ):Mem Γ.bare:=by
 refine⟨λk blk h=> ?_,λi j b h=> ?_,λb h=>h.elim,λb h h2=>h2,λb cs h=>⟨λhb=>oL (.inl hb),(hm.uI b cs h).2⟩⟩
 ·simp[Cx.bare,get]at h
 ·simp[Cx.bare,get]at h
theorem wS:wA (λ_=>false) id Γ Γ.bare:=⟨rfl,λb _ _=>oL,λk blk h=>by simp at h⟩
theorem Px {h:Array Obj} {b o:Nat} {v:Value} (e:cell h b o=some v):b<h.size:=by
 unfold cell at e
 split at e
 ·rename_i c _ _ hb;exact(Array.getElem?_eq_some_iff.1 hb).1
 ·simp at e
theorem acQ (Γ:Cx) (hm:Mem Γ):iz 0 [] ⟨[],Γ.bx⟩ Γ {tmps:= #[],defers:=[]}:=⟨rfl,rfl,rfl,λk p h=>by simp[get]at h,hm⟩
theorem rsV {k:Nat} {pth:List Step} {off len aK sz:Nat} {c:iC} {l:List PV} {cs:List Value} (hm:Mem Γ) (hr:aD Γ [.rs k pth off len aK sz c] cs)
  (hc:content ⟨[],Γ.bx⟩ (.rs k pth off len aK sz c) (λcR l0=>cR=sz∧l0=l)):∃v ad bt us,cs=[v]∧v= .slice ad l.length bt∧aD Γ l us∧(∀x∈l,x.width=sz)∧l.length≤bt∧
   (l≠[]->∃b o,ad=some ⟨b,o,none⟩∧∀i c,us[i]? =some c->cell Γ.heap b (o+i)=some c):=by
 obtain⟨v,rfl⟩:∃v,cs=[v]:=by
  cases hr with
  |rs _ _ _ _ _ _ _ v _ _ _ _ hr=>cases hr;exact⟨v,rfl⟩
 obtain⟨cR,l0,us,ad,bt,⟨rfl,rfl⟩,h2,h3,h4,h5,h6⟩:=pI (v:=v) (acQ Γ hm) hc (by simpa only[aN]using hr)
 exact⟨v,ad,bt,us,rfl,h2,h3,h6,h5,h4⟩
theorem V0.width {bx:List (Nat×br)} {p p':PV} (h:V0 bx p p'):p'.width=p.width:=by
 rcases h with⟨rfl,_⟩|⟨k,pth,off,len,aK,sz,c,l,rfl,_,_,_,rfl⟩<;>rfl
theorem Ai {l:List PV} {us:List Value} {sz:Nat} {ad:Option Addr} (iA:0<sz) (h3:aD Γ l us) (h4:∀x∈l,x.width=sz) (dF:l≠[])
  (h6:∃b o,ad=some ⟨b,o,none⟩∧∀i c,us[i]? =some c->cell Γ.heap b (o+i)=some c):
  ∃b o,ad=some ⟨b,o,none⟩∧b<Γ.bare.heap.size∧¬Γ.bare.own b∧∀i c,us[i]? =some c->cell Γ.bare.heap b (o+i)=some c:=by
 obtain⟨b,o,e1,e2⟩:=h6
 have hlen:0<us.length:=by
  rw[h3.length,bF h4]
  have:0<l.length:=List.length_pos_iff.2 dF
  exact Nat.mul_pos this iA
 exact⟨b,o,e1,Px (e2 0 _ (gJ hlen)),oL,e2⟩
theorem V0.rep {p p':PV} {cs:List Value} (hm:Mem Γ) (h:V0 Γ.bx p p') (hr:aD Γ [p] cs):aD Γ.bare [p'] cs:=by
 rcases h with⟨rfl,h⟩|⟨k,pth,off,len,aK,sz,c,l,rfl,hc,hl,iA,rfl⟩
 ·have:=hr.bE wS h
  rwa [yC h]at this
 ·obtain⟨v,ad,bt,us,rfl,rfl,h3,h4,h5,h6⟩:=rsV hm hr hc
  have h3':=h3.az wS hl
  rw[zG hl]at h3'
  exact .sl sz l false ad bt h3' h4 h5 (by simp) (λdF=>Ai iA h3 h4 dF (h6 dF)) .nil
theorem LX.rep (hm:Mem Γ):∀ {l l':List PV} {cs:List Value},LX Γ.bx l l'->aD Γ l cs->aD Γ.bare l' cs
 |[],[],cs,_,hr=>by cases hr;exact .nil
 |[],_::_,cs,h,_=>h.elim
 |_::_,[],cs,h,_=>h.elim
 |
  p::r,p'::r',cs,h,hr=>by
  obtain⟨c1,c2,rfl,h1,h2⟩:=aD.split (ps:=[p]) (qs:=r) hr
  exact(h.1.rep hm h1).cons (LX.rep hm h.2 h2)
theorem LX.av {bx:List (Nat×br)} {sz:Nat}:∀ {l l':List PV},LX bx l l'->(∀x∈l,x.width=sz)->l'.length=l.length∧∀x∈l',x.width=sz
 |[],[],_,_=>⟨rfl,by simp⟩
 |[],_::_,h,_=>h.elim
 |_::_,[],h,_=>h.elim
 |
  p::r,p'::r',h,hw=>by
  obtain⟨h1,h2⟩:=LX.av h.2 (λx hx=>hw x (by simp[hx]))
  refine⟨by simp[h1],λx hx=> ?_⟩
  rcases List.mem_cons.1 hx with rfl|hx
  ·rw[h.1.width];exact hw p (by simp)
  ·exact h2 x hx
theorem V1.rep {p p':PV} {cs:List Value} (hm:Mem Γ) (h:V1 Γ.bx p p') (hr:aD Γ [p] cs):aD Γ.bare [p'] cs:=by
 rcases h with h|⟨sz,l,l',c,rfl,hl,rfl⟩|⟨k,pth,off,len,aK,sz,c,l,l',rfl,hc,hl,iA,rfl⟩
 ·exact h.rep hm hr
 ·cases hr with
  |
   sl sz l clip a bt h1 hw h2 h3 hb hr=>
   cases hr
   obtain⟨e1,e2⟩:=hl.av hw
   rw[←e1]
   refine .sl sz l' c a bt (LX.rep hm hl h1) e2 (by rw[e1];exact h2) (λh=>by rw[e1];exact h3 h) (λdF=> ?_) .nil
   obtain⟨b,o,f1,f2,_,f3⟩:=hb (λh=>dF (by rw[h]at e1;exact List.length_eq_zero_iff.1 e1))
   exact⟨b,o,f1,f2,oL,f3⟩
 ·obtain⟨v,ad,bt,us,rfl,rfl,h3,h4,h5,h6⟩:=rsV hm hr hc
  obtain⟨e1,e2⟩:=hl.av h4
  rw[←e1]
  refine .sl sz l' false ad bt (LX.rep hm hl h3) e2 (by rw[e1];exact h5) (by simp) (λdF=> ?_) .nil
  have R0:l≠[]:=λh=>dF (by rw[h]at e1;exact List.length_eq_zero_iff.1 e1)
  exact Ai iA h3 h4 R0 (h6 R0)
theorem V1.Py {p p':PV} {v:Value} (hm:Mem Γ) (h:V1 Γ.bx p p') (hr:aN Γ p v):aN Γ.bare p' v:=by
 have h':=h
 rcases h with h|⟨sz,l,l',c,rfl,hl,rfl⟩|⟨k,pth,off,len,aK,sz,c,l,l',rfl,hc,hl,iA,rfl⟩
 ·rcases h with⟨rfl,h⟩|⟨k,pth,off,len,aK,sz,c,l,rfl,hc,hl,iA,rfl⟩
  ·have:=hr.az wS h
   rwa [yC h]at this
  ·have:=V1.rep hm h' (by simpa only[aN]using hr)
   simpa only[aN]using this
 ·have:=V1.rep hm h' (by simpa only[aN]using hr)
  simpa only[aN]using this
 ·have:=V1.rep hm h' (by simpa only[aN]using hr)
  simpa only[aN]using this
theorem Vp.Py (hm:Mem Γ):∀ {l l':List PV} {vs:List Value},Vp Γ.bx l l'->gp Γ l vs->gp Γ.bare l' vs
 |[],[],[],_,_=>trivial
 |[],[],_::_,_,h=>h.elim
 |[],_::_,_,h,_=>h.elim
 |_::_,[],_,h,_=>h.elim
 |_::_,_::_,[],_,h=>h.elim
 |p::r,p'::r',v::vs,h,hr=>⟨h.1.Py hm hr.1,Vp.Py hm h.2 hr.2⟩
theorem af.view {f:FuncId} {args gI:List PV} {fp:List br} {R:PV->List br->Prop} (hA:af P f gI [] R) (hv:Vp (aG 0 fp) args gI)
  (hR:∀r new,R r new->lN r=true∧new.all EA=true):
  af P f args fp (λr rR=>∃r0 new,R r0 new∧r=az (·+fp.length) r0∧rR=fp++new.map (aM (·+fp.length))):=by
 intro Γ w vs h1 h2 h3 h4
 rw[←h3]at hv
 refine(hA Γ.bare w vs h1 (Jx h2) (by simp[Cx.bare,aG]) (hv.Py h2 h4)).mono ?_
 rintro e w' ⟨v,r,new,Γ',e1,e2,e3,e4,e5,e6,e7,e8⟩
 obtain⟨g1,g2⟩:=hR r new e2
 have sM:∀b,b<Γ.heap.size->Γ'.heap[b]? =Γ.heap[b]? :=λb hb=>e7.heap b hb (λh=>oL (.inl h))
 have vV:∀k blk b,get Γ'.bx k=some blk->Γ'.ι k=some b->Γ.heap.size≤b:=by
  intro k blk b hk hb
  rcases Nat.lt_or_ge b Γ.heap.size with h|h
  ·exact absurd (.inl (e7.iQ b h ⟨k,blk,hk,hb⟩)) oL
  ·exact h
 let Δ:Cx:= {heap:=Γ'.heap,ι:=λk=>if k<KB+fp.length then Γ.ι k else Γ'.ι (k-fp.length),bx:=aG 0 (fp++new.map (aM (·+fp.length))),dU:=Γ.dU}
 have FE:∀k,k<KB+fp.length->get Δ.bx k=get Γ.bx k:=by
  intro k hk
  simp only[Δ,h3,ig]
  split
  ·rw[List.getElem?_append_left (by omega)]
  ·rfl
 have FF:∀k,KB≤k->get Δ.bx (k+fp.length)=(get Γ'.bx k).map (aM (·+fp.length)):=by
  intro k hk
  simp only[Δ,e5,ig]
  rw[if_pos (show KB+0≤k+fp.length by omega),if_pos (show KB+0≤k by omega),List.getElem?_append_right (by omega),List.getElem?_map,show k+fp.length-KB-0-fp.length=k-KB-0 by omega]
 have hle:Le Γ Δ:=by
  refine⟨λb hb _=>sM b hb,λb hb h=> ?_,rfl,e7.size,λk blk hk=> ?_⟩
  ·obtain⟨k,blk,f1,f2⟩:=h
   by_cases oe:k<KB+fp.length
   ·rw[FE k oe]at f1
    have f2':Γ.ι k=some b:=by simpa[Δ,oe]using f2
    exact⟨k,blk,f1,f2'⟩
   ·exfalso
    have f2':Γ'.ι (k-fp.length)=some b:=by simpa[Δ,oe]using f2
    have:get Δ.bx (k-fp.length+fp.length)=_:=FF (k-fp.length) (by omega)
    rw[show k-fp.length+fp.length=k by omega,f1]at this
    obtain⟨b0,f3,_⟩:=Option.map_eq_some_iff.1 this.symm
    have:=vV _ _ _ f3 f2'
    omega
  ·have oe:k<KB+fp.length:=by
    rw[h3,ig]at hk
    split at hk
    ·have:=(List.getElem?_eq_some_iff.1 hk).1;simp at this;omega
    ·simp at hk
   refine⟨blk,by rw[FE k oe];exact hk,Nat.le_refl _,λ_=>⟨by simp[Δ,oe],λb hb cs e hh=>⟨cs,?_,rfl⟩⟩⟩
   show Γ'.heap[b]? =_
   rw[sM b (h2.lt ⟨k,blk,hk,hb⟩)];exact hh
 have XS:Vo (·+fp.length) Γ' Δ:=by
  refine⟨rfl,λk blk hk=> ?_⟩
  have hkb:KB≤k:=by
   rw[e5,ig]at hk
   split at hk
   ·assumption
   ·simp at hk
  refine⟨aM (·+fp.length) blk,by rw[FF k hkb,hk];rfl,ke _ _,?_⟩
  show(if k+fp.length<KB+fp.length then _ else _)=_
  rw[if_neg (by omega),Nat.add_sub_cancel]
 have kp:Mem Δ:=by
  refine⟨λk blk hk=> ?_,λi j b hi hj q1 q2=> ?_,λb hb=>Nat.lt_of_lt_of_le (h2.dU b hb) e7.size,λb hb hp=> ?_,h2.ns hle⟩
  ·by_cases oe:k<KB+fp.length
   ·rw[FE k oe]at hk
    have:=(h2.blk k blk hk).mono hle (λb hb=>sM b (h2.lt ⟨k,blk,hk,hb⟩))
    have e:Δ.ι k=Γ.ι k:=by simp[Δ,oe]
    rw[e];exact this
   ·have A8:=FF (k-fp.length) (by omega)
    rw[show k-fp.length+fp.length=k by omega,hk]at A8
    obtain⟨b0,f3,rfl⟩:=Option.map_eq_some_iff.1 A8.symm
    have e:Δ.ι k=Γ'.ι (k-fp.length):=by simp[Δ,oe]
    rw[e]
    have Ha:EA b0=true:=by
     rw[e5,ig]at f3
     split at f3
     ·exact List.all_eq_true.1 g2 b0 (List.mem_of_getElem? f3)
     ·simp at f3
    have:=e4.blk _ _ f3
    cases b0 with
    |
     box v=>
     obtain⟨b,c,e,q1,q2,q3⟩:=this
     exact⟨b,c,e,q1,q2,q3.GB XS Ha⟩
    |
     arr sz l=>
     obtain⟨q1,q2,q3⟩:=this
     refine⟨λx hx=> ?_,q2,?_⟩
     ·rw[Ah]at hx
      obtain⟨y,hy,rfl⟩:=List.mem_map.1 hx
      rw[oG];exact q1 y hy
     ·cases hι:Γ'.ι (k-fp.length)with
      |none=>trivial
      |
       some b=>
       rw[hι]at q3
       obtain⟨c,e,cs,rest,r1,r2,r3,r4⟩:=q3
       exact⟨c,e,cs,rest,r1,r2,r3.Pw XS Ha,r4⟩
    |map b ks vs l=>exact this
  ·have key:∀k b,(get Δ.bx k).isSome=true->Δ.ι k=some b->(k<KB+fp.length∧(get Γ.bx k).isSome=true∧Γ.ι k=some b∧b<Γ.heap.size)∨(KB+fp.length≤k∧(get Γ'.bx (k-fp.length)).isSome=true∧Γ'.ι (k-fp.length)=some b∧Γ.heap.size≤b):=by
    intro k b hk hb
    by_cases oe:k<KB+fp.length
    ·left
     rw[FE k oe]at hk
     have A6:Γ.ι k=some b:=by simpa[Δ,oe]using hb
     obtain⟨blk,lH⟩:=Option.isSome_iff_exists.1 hk
     exact⟨oe,hk,A6,h2.lt ⟨k,blk,lH,A6⟩⟩
    ·right
     have A8:=FF (k-fp.length) (by omega)
     rw[show k-fp.length+fp.length=k by omega]at A8
     rw[A8]at hk
     have hk3:(get Γ'.bx (k-fp.length)).isSome=true:=by simpa using hk
     have A6:Γ'.ι (k-fp.length)=some b:=by simpa[Δ,oe]using hb
     obtain⟨blk,lH⟩:=Option.isSome_iff_exists.1 hk3
     exact⟨by omega,hk3,A6,vV _ _ _ lH A6⟩
   rcases key i b hi q1 with⟨a1,a2,a3,a4⟩|⟨a1,a2,a3,a4⟩<;>rcases key j b hj q2 with⟨c1,c2,c3,c4⟩|⟨c1,c2,c3,c4⟩
   ·exact h2.inj i j b a2 c2 a3 c3
   ·omega
   ·omega
   ·have:=e4.inj _ _ b a2 c2 a3 c3;omega
  ·obtain⟨k,blk,f1,f2⟩:=hb
   by_cases oe:k<KB+fp.length
   ·rw[FE k oe]at f1
    have f2':Γ.ι k=some b:=by simpa[Δ,oe]using f2
    exact h2.apart b ⟨k,blk,f1,f2'⟩ hp
   ·have f2':Γ'.ι (k-fp.length)=some b:=by simpa[Δ,oe]using f2
    have A8:=FF (k-fp.length) (by omega)
    rw[show k-fp.length+fp.length=k by omega,f1]at A8
    obtain⟨b0,f3,_⟩:=Option.map_eq_some_iff.1 A8.symm
    have:=vV _ _ _ f3 f2'
    have:=h2.dU b hp
    omega
 exact⟨v,_,_,Δ,e1,⟨r,new,e2,rfl,rfl⟩,e3,kp,rfl,e6.ajK XS g1,hle,e8⟩
end Go.Ab
