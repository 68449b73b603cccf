/- Rules by which the abstract reading is worked out. No condition. -/
import Derived.Test.YtddacpkeacbjfaaGreatDoorA4
set_option linter.all false
namespace Go.Ab
variable [cM]
variable {P:Program}
structure Pure (p:PV):Prop where
 refs:∀f,ae f p=true
 aI:∀ρ,aI ρ p=p
 eG:∀k sz l0,eG k sz l0 p=p
structure aB (l:WG):Prop where
 refs:∀f,al f l=true
 aI:∀ρ,bw ρ l=l
 eG:∀k sz l0,fF k sz l0 l=l
def Pure.of {p:PV} (h:ae (λ_=>false) p=true):Pure p where
 refs f:=e9 (by simp) p h
 aI ρ:=iT h
 eG k sz l0:=FQ p (e9 (by simp) p h)
def aB.of {l:WG} (h:al (λ_=>false) l=true):aB l where
 refs f:=di (by simp) l h
 aI ρ:=me h
 eG k sz l0:=nO l (di (by simp) l h)
theorem aB.mk' {l:WG} (h:∀p∈l,Pure p):aB l:=by
 refine aB.of ?_;induction l with
 |nil=>rfl
 |cons p l ih=>simp only[al,aJ];exact⟨(h p (by simp)).refs _,ih λq hq=>h q (by simp[hq])⟩
def aB.map {α:Type} {e:α->PV} (h:∀x,Pure (e x)) (l:List α):aB (l.map e):=
 aB.mk' λp hp=>by obtain⟨x,_,rfl⟩:=JcV.1 hp;exact h x
theorem aB.forget {l:WG} (h:aB l):∀p∈l,Pure p:=by
 intro p hp;have h0:=h.refs (λ_=>false);refine Pure.of ?_;clear h;induction l with
 |nil=>simp at hp
 |
  cons q l ih=>
  simp only[al,aJ]at h0
  rcases cJ.1 hp with rfl|hp
  ·exact h0.1
  ·exact ih hp h0.2
def aB.append {l m:WG} (h:aB l) (h':aB m):aB (l++m):=
 aB.mk' λp hp=>by rcases JaX.1 hp with hp|hp;exact h.forget p hp;exact h'.forget p hp
def aB.take {l:WG} (h:aB l) (n:Nat):aB (l.take n):=aB.mk' λp hp=>h.forget p (JaW hp)
def aB.drop {l:WG} (h:aB l) (n:Nat):aB (l.drop n):=aB.mk' λp hp=>h.forget p (JbW hp)
def aB.sl {l:WG} (h:aB l) (sz:Nat) (c:Bool):Pure (.sl sz l c):=Pure.of (by simp only[ae];exact h.refs _)
def aB.st {l:WG} (h:aB l) (w:Nat):Pure (.st w l):=Pure.of (by simp only[ae];exact h.refs _)
def aB.ar {l:WG} (h:aB l) (sz n:Nat):Pure (.ar sz n l):=Pure.of (by simp only[ae];exact h.refs _)
def ud (sz bytes:Nat) (z:PV):dP:=⟨8,[.mv (.t 2)],
 .seq (.region [⟨(some 2),none,true,.mv (.c (.sl sz [] true))⟩])
 (.seq
    (.seq (.region [⟨(some 3),none,true,.mv (.t 0)⟩,
    ⟨(some 4),none,false,.isNil false (.t 3)⟩])
  (.cond (.t 4)
   (.seq (.region [⟨(some 2),none,true,.mv (.c (.sl sz [] true))⟩])
   (.ret))
   (.skip)))
 (.seq (.region [⟨(some 5),none,false,.buildSlice false sz z 0 []⟩,
   ⟨(some 6),none,true,.mv (.t 0)⟩,
   ⟨(some 7),none,false,.append sz bytes false (.t 5) (.t 6)⟩,
   ⟨(some 2),none,true,.mv (.t 7)⟩])
 (.ret)))⟩
def EH {f:FuncId} {sz bytes:Nat} {z:PV} (ht:eI P [] [] f=some (ud sz bytes z).er) (fP:0<sz) {l:WG} (hr:aB l) (c:Bool) (h1:l.length*bytes≤140737488355328) (h2:l.length≤9223372036854775807):
  ab P f [.sl sz l c] [] (λr fp=>r= .rs KB [] 0 l.length l.length sz .tip∧fp=[.arr sz l]):=by
 refine ab.intro ht (by simp[ud]) ?_;simp[ud,aw,JT,fA,ko,og,ev,ex,vg,vx,get,ah,DH,az,St.put,put,Bf,cD,src,content,eO];refine⟨⟨⟨h1,h2⟩,?_⟩,?_⟩
 ·refine⟨[],[7],?_⟩;simp[fG,get,G6,ev,vg,vx,getAll,dE,dN,PV.flat,hr.refs,hr.aI,ae,af,aG,aI,bV,idx,cW]
 ·rintro rfl;refine⟨[.vt 2 7 sz],[7],?_⟩;simp[fG,gT,vt1,fP,get,put,G6,ev,vg,vx,getAll,dE,dN,PV.flat,ae,al,af,aG,aI,bw,bV,idx,cW]
end Go.Ab
namespace Go.Ab
variable [cM]
variable {P:Program} [gQ]
@[congr] theorem ajG {mx:Bool} {a a':Int} {l l':WG} {K:Int->Prop} (h1:a=a') (h2:l=l'):lX mx a l K=lX mx a' l' K:=by subst h1 h2;rfl
@[congr] theorem aCU {g g':Bool} {s s':St} {k:AK} {K:W7} (h:g=g') (h1:s=s'):ev g s k K=ev g' s' k K:=by subst h h1;rfl
@[congr] theorem avT {s s':St} {o:AO} {K:UD} (h:s=s'):fA P s o K=fA P s' o K:=by subst h;rfl
@[congr] theorem aCV {s s':St} {c:bT} {Q:Exit->UD} (h:s=s'):aw P c Q s=aw P c Q s':=by subst h;rfl
@[congr] theorem asX {s s':St} {c:List Cut} {K:UD} (h:s=s'):fG c s K=fG c s' K:=by subst h;rfl
end Go.Ab
namespace Go.Ab
variable [cM]
variable {P:Program} {s:St} {g:Bool}
def cg {α:Type}:Option α->(α->Prop)->Prop
 |some a,K=>K a
 |none,_=>False
@[congr] theorem asY {α:Type} {o o':Option α} {K:α->Prop} (h:o=o'):cg o K=cg o' K:=by subst h;rfl
@[simp↓] theorem EI {α:Type} (a:α) (K:α->Prop):cg (some a) K=K a:=id rfl
@[simp↓] theorem agE {α:Type} (K:α->Prop):cg none K=False:=id rfl
def eT (g:Bool):PV->(W7)->Prop
 | .gd b p,K=>(g=true->b=true)∧K p
 |p,K=>K p
@[congr] theorem avU {g g':Bool} {p p':PV} {K:W7} (h:g=g') (h1:p=p'):eT g p K=eT g' p' K:=by subst h h1;rfl
theorem jg (x:AX) (K:W7):vg g s x K=eT g (vx s x) K:=by unfold vg;cases vx s x<;>rfl
def xF (x:Bool) (K:W7):PV->W7
 | .bl ya,.bl yb=>K (.bl (bif x then ya else yb))
 | .bl ya,.gd gb (.bl yb)=>(x=false->gb=true)∧K (.bl (bif x then ya else yb))
 | .gd ga (.bl ya),.bl yb=>(x=true->ga=true)∧K (.bl (bif x then ya else yb))
 | .gd ga (.bl ya),.gd gb (.bl yb)=>((x=true->ga=true)∧(x=false->gb=true))∧K (.bl (bif x then ya else yb))
 | .bl ya,.un=>x=true∧K (.bl ya)
 | .un,.bl yb=>x=false∧K (.bl yb)
 |_,_=>False
@[congr] theorem ajH {x x':Bool} {K:W7} {p p' q q':PV} (h:x=x') (h1:p=p') (h2:q=q'):xF x K p q=xF x' K p' q':=by subst h h1 h2;rfl
def Zt (s:St) (a b:AX) (K:W7):W7
 | .bl x=>xF x K (vx s a) (vx s b)
 |_=>False
def aco (c a b:AX) (K:W7):ev g s (.pick c a b) K=eT g (vx s c) (Zt s a b K):=by
 simp only[ev,jg];congr 1
def F2 (ps:List (Nat×PV)) (K:W7):W7
 | .st w l=>cg (cD l ps) λl'=>K (.st w l')
 | .ar sz n l=>cg (cD l ps) λl'=>K (.ar sz n l')
 |_=>False
def Vx (z:PV) (parts:List (Nat×AX)) (K:W7):ev g s (.build z parts) K=Bf g s parts λps=>F2 ps K z:=by
 simp only[ev];congr 1;funext ps;cases z<;>simp only[F2]<;>first|rfl|(unfold cg;(repeat' split)<;>simp_all;done)
def Mb (s:St) (agg:Bool) (w:Nat) (K:W7):W7
 | .pt k p aD=>cg (get s.bx k) λblk=>cg (lW blk p) λu=>(aD=blk.aD∧u.width=w∧u.isAgg=agg)∧K u
 | .fp sz l p=>cg (lW (.arr sz l) p) λu=>(u.width=w∧u.isAgg=agg)∧K u
 |_=>False
def acp (agg:Bool) (w:Nat) (x:AX) (K:W7):ev g s (.load agg w x) K=eT g (vx s x) (Mb s agg w K):=by
 simp only[ev,jg];congr 1;funext p;cases p<;>simp only[Mb]<;>first|rfl|(unfold cg;(repeat' split)<;>simp_all;done)
def acq (s:St) (K:W7):W7
 | .pt k p aD=>cg (get s.bx k) λblk=>aD=blk.aD∧K (.pt k p aD)
 | .fp sz l p=>K (.fp sz l p)
 | .fn (.func f) a b=>K (.fn (.func f) a b)
 |_=>False
def Kc (x:AX) (K:W7):ev g s (.nilCheck x) K=eT g (vx s x) (acq s K):=by
 simp only[ev,jg];congr 1;funext p;cases p<;>(try(rename_i f a b;cases f))<;>simp only[acq]<;>first|rfl|(unfold cg;(repeat' split)<;>simp_all;done)
def ajI (s:St) (op:BinOp) (K:W7):PV->W7
 | .np,.np=>su op true K
 | .pt k _ aD,.np=>cg (get s.bx k) λblk=>aD=blk.aD∧su op false K
 | .fp _ _ _,.np=>su op false K
 |_,_=>False
def kx (op:BinOp) (K:W7):PV->W7
 | .int k a,.int k' b=>(op= .shl∨op= .shr∨k=k')∧qj op k a b K
 | .str a,.str b=>yE op a b K
 |_,_=>False
def ajJ (op:BinOp) (K:W7):PV->W7
 | .bl a,.bl b=>su op (a==b) K
 |_,_=>False
def avV (op:BinOp) (K:W7):PV->W7
 | .nf,.nf=>su op true K
 | .fn _ _ _,.nf=>su op false K
 |_,_=>False
def acr (op:BinOp) (x y:AX) (K:W7):ev g s (.bin op .no x y) K=eT g (vx s x) λp=>eT g (vx s y) λq=>kx op K p q:=by
 simp only[ev,jg];congr 1
def acs (op:BinOp) (x y:AX) (K:W7):ev g s (.bin op .bl x y) K=eT g (vx s x) λp=>eT g (vx s y) λq=>ajJ op K p q:=by
 simp only[ev,jg];congr 1
def acu (op:BinOp) (x y:AX) (K:W7):ev g s (.bin op .fnc x y) K=eT g (vx s x) λp=>eT g (vx s y) λq=>avV op K p q:=by
 simp only[ev,jg];congr 1
def acv (op:BinOp) (x y:AX) (K:W7):ev g s (.bin op .ptr x y) K=eT g (vx s x) λp=>eT g (vx s y) λq=>ajI s op K p q:=by
 simp only[ev,jg];congr 1;funext p;congr 1;funext q;cases p<;>cases q<;>simp only[qN,ajI]<;>first|rfl|(unfold cg;(repeat' split)<;>simp_all;done)
def acw (op:BinOp) (sh:Sh) (x y:AX) (K:W7):ev g s (.bin op (.sh sh) x y) K=eT g (vx s x) λp=>eT g (vx s y) λq=>(fits sh p=true∧fits sh q=true)∧su op (PV.beq p q) K:=by
 simp only[ev,jg];congr 1
def ue (K:Int->Prop):W7
 | .int _ n=>K n
 |_=>False
def pM (p:PV) (K:Int->Prop):mS p K=ue K p:=by cases p<;>rfl
def unK (op:UnOp) (K:W7):W7
 | .bl b=>(match op with| .not=>K (.bl (!b))|_=>False)
 | .int k n=>(match op with| .neg=>K (.int k (k.wrap (0-n)))| .xor=>K (.int k (bits .xor k (if k.signed then-1 else k.max) n))|_=>False)
 |_=>False
def avX (op:UnOp) (x:AX) (K:W7):ev g s (.un op x) K=eT g (vx s x) (unK op K):=by
 simp only[ev,jg];congr 1;funext p;cases p<;>cases op<;>rfl
def AY (s:St) (K:Nat->WG->Prop):W7
 | .sl sz l _=>K sz l
 |
  .rs k p off len aD sz _=>cg (get s.bx k) λ
  | .arr bu l=>(aD=l.length∧p=[]∧sz=bu∧off+len≤l.length)∧K sz ((l.drop off).take len)
  |
   .box v=>cg (aO v p) λ
   | .ar bu n l=>(aD=0∧sz=bu∧off+len≤n)∧K sz ((l.drop off).take len)
   |_=>False
  | .map .. =>False
 |_=>False
theorem vk (p:PV) (K:Nat->WG->Prop):content s p K=AY s K p:=by
 cases p<;>simp only[content,AY];rename_i k p off len aD sz c;cases get s.bx k with
 |none=>rfl
 |
  some b=>
  cases b with
  |arr bu l=>rfl
  |
   box v=>
   simp only[EI]
   cases aO v p with
   |none=>rfl
   |some u=>cases u<;>rfl
  |map b ks vs l=>rfl
def Vy (x:AX) (K:W7):ev g s (.convS x) K=eT g (vx s x) (AY s λsz l=>sz=1∧cg (gH l) λbs=>K (.str bs)):=by
 simp only[ev,jg];congr 1;funext p;rw[vk];congr 1;funext sz l;cases gH l<;>rfl
def Bo (s:St) (i off:Nat) (K:W7):W7
 | .pt k p aD=>cg (get s.bx k) λblk=>aD=blk.aD∧K (.pt k (p++[.f i off]) aD)
 | .fp sz l p=>K (.fp sz l (p++[.f i off]))
 |_=>False
def QK (i off:Nat) (x:AX) (K:W7):ev g s (.fieldA i off x) K=eT g (vx s x) (Bo s i off K):=by
 simp only[ev,jg];congr 1;funext p;cases p<;>simp only[Bo]<;>first|rfl|(unfold cg;(repeat' split)<;>simp_all;done)
def acx (s:St) (n sz:Nat) (K:W7):W7
 | .sl bu l _=>(bu=sz∧0<n∧n≤l.length)∧K (.fp sz l [.w 0 n sz])
 | .rs k p off len aD bu _=>cg (get s.bx k) λblk=>(aD=blk.aD∧bu=sz∧0<n∧n≤len)∧K (.pt k (p++[.w off n sz]) aD)
 |_=>False
def ajK (n sz:Nat) (x:AX) (K:W7):ev g s (.s2a n sz x) K=eT g (vx s x) (acx s n sz K):=by
 simp only[ev,jg];congr 1;funext p;cases p<;>simp only[acx]<;>first|rfl|(unfold cg;(repeat' split)<;>simp_all;done)
def QL (i off:Nat) (agg:Bool) (w:Nat) (K:W7):W7
 | .st _ l=>cg l[i]? λc=>(au (l.take i)=off∧c.width=w∧c.isAgg=agg)∧K c
 |_=>False
def Vz (i off:Nat) (agg:Bool) (w:Nat) (x:AX) (K:W7):ev g s (.field i off agg w x) K=eT g (vx s x) (QL i off agg w K):=by
 simp only[ev,jg];congr 1;funext p;cases p<;>simp only[QL]<;>first|rfl|(unfold cg;(repeat' split)<;>simp_all;done)
def pN (s:St) (sz:Nat) (j:Int) (K:W7):W7
 | .sl bu l _=>(bu=sz∧0≤j∧j<l.length)∧K (.fp sz l [.i j.toNat sz])
 | .rs k p off len aD bu _=>cg (get s.bx k) λblk=>(aD=blk.aD∧bu=sz∧0≤j∧j<len)∧K (.pt k (p++[.i (off+j.toNat) sz]) aD)
 |_=>False
def HP (sz:Nat) (x i:AX) (K:W7):ev g s (.indexA (.sl sz) x i) K=eT g (vx s x) λp=>eT g (vx s i) (ue λj=>pN s sz j K p):=by
 simp only[ev,jg,pM];congr 1;funext p;congr 1;funext q;congr 1;funext j;cases p<;>simp only[pN]<;>first|rfl|(unfold cg;(repeat' split)<;>simp_all;done)
def QM (s:St) (sz:Nat) (j:Int) (K:W7):W7
 | .pt k p aD=>cg (get s.bx k) λblk=>aD=blk.aD∧K (.pt k (p++[.i j.toNat sz]) aD)
 | .fp bu l p=>K (.fp bu l (p++[.i j.toNat sz]))
 |_=>False
def HQ (n sz:Nat) (x i:AX) (K:W7):ev g s (.indexA (.ar n sz) x i) K=eT g (vx s x) λp=>eT g (vx s i) (ue λj=>(0≤j∧j<n)∧QM s sz j K p):=by
 simp only[ev,jg,pM];congr 1;funext p;congr 1;funext q;congr 1;funext j;cases p<;>simp only[QM]<;>first|rfl|(unfold cg;(repeat' split)<;>simp_all;done)
@[congr] theorem ajL {s s':St} {sz:Nat} {j j':Int} {K:W7} {p p':PV} (h:s=s') (h1:j=j') (h2:p=p'):pN s sz j K p=pN s' sz j' K p':=by subst h h1 h2;rfl
def ajM (agg:Bool) (n w:Nat) (j:Int) (K:W7):W7
 | .ar sz n' l=>cg l[j.toNat]? λc=>(0≤j∧j<n∧n'=n∧sz=w∧c.isAgg=agg)∧K c
 |_=>False
def VA (agg:Bool) (n w:Nat) (x i:AX) (K:W7):ev g s (.index agg n w x i) K=eT g (vx s x) λp=>eT g (vx s i) (ue λj=>ajM agg n w j K p):=by
 simp only[ev,jg,pM];congr 1;funext p;congr 1;funext q;congr 1;funext j;cases p<;>simp only[ajM]<;>first|rfl|(unfold cg;(repeat' split)<;>simp_all;done)
def acy (j:Int) (K:W7):W7
 | .str bs=>cg bs[j.toNat]? λc=>0≤j∧K (.int .u8 c.toNat)
 |_=>False
def QN (x i:AX) (K:W7):ev g s (.indexS x i) K=eT g (vx s x) λp=>eT g (vx s i) (ue λj=>acy j K p):=by
 simp only[ev,jg,pM];congr 1;funext p;congr 1;funext q;congr 1;funext j;cases p<;>simp only[acy]<;>first|rfl|(unfold cg;(repeat' split)<;>simp_all;done)
def QO (i:Nat) (K:W7):W7
 | .tup l=>cg l[i]? K
 |_=>False
@[congr] theorem asZ {i:Nat} {K:W7} {p p':PV} (h:p=p'):QO i K p=QO i K p':=by subst h;rfl
theorem N6 (i:Nat) (x:AX) (K:W7):ev g s (.extract i x) K=QO i K (vx s x):=by
 simp only[ev];cases vx s x<;>simp only[QO]<;>first|rfl|(unfold cg;(repeat' split)<;>simp_all;done)
def yZ (s:St) (K:W7):W7
 | .sl _ l _=>K (.int .i64 l.length)
 | .rs k _ _ len aD _ _=>cg (get s.bx k) λblk=>aD=blk.aD∧K (.int .i64 len)
 |_=>False
def ajN (x:AX) (K:W7):ev g s (.len x) K=eT g (vx s x) (yZ s K):=by
 simp only[ev,jg];congr 1;funext p;cases p<;>simp only[yZ]<;>first|rfl|(unfold cg;(repeat' split)<;>simp_all;done)
end Go.Ab
namespace Go.Ab
variable [cM]
variable {P:Program} {s:St} {g:Bool}
def Zu (s:St) (g:Bool) (lo hi mx:Option AX) (K:W7):W7
 | .str bs=>mx.isNone=true∧jX g s lo hi bs.length bs.length λl h=>K (.str ((bs.take h).drop l))
 |_=>False
def HR (x:AX) (lo hi mx:Option AX) (K:W7):ev g s (.slice .str x lo hi mx) K=eT g (vx s x) (Zu s g lo hi mx K):=by
 simp only[ev,jg];congr 1
def acz (s:St) (g:Bool) (n sz:Nat) (lo hi mx:Option AX) (K:W7):W7
 | .ar z' n' l'=>(z'=sz∧n'=n∧mx.isNone=true)∧jX g s lo hi n n λa b=>K (.sl sz ((l'.take b).drop a) (decide (b=n)))
 |_=>False
def VB (s:St) (g:Bool) (n sz:Nat) (lo hi mx:Option AX) (K:W7):W7
 | .pt k p aD=>cg (get s.bx k) λblk=>aD=blk.aD∧mx.isNone=true∧jX g s lo hi n n λa b=>K (.rs k p a (b-a) aD sz (if b=n then .clip else .any))
 | .fp z l q=>cg (lW (.arr z l) q) (acz s g n sz lo hi mx K)
 |_=>False
def Kd (n sz:Nat) (x:AX) (lo hi mx:Option AX) (K:W7):ev g s (.slice (.ar n sz) x lo hi mx) K=eT g (vx s x) (VB s g n sz lo hi mx K):=by
 simp only[ev,jg];congr 1;funext p;cases p<;>simp only[VB]<;>first|rfl|(unfold cg;(repeat' split)<;>simp_all;done)|(rename_i z l q;cases lW (.arr z l) q with|none=>rfl|some u=>cases u<;>rfl)
def VC (s:St) (g:Bool) (sz:Nat) (lo hi:Option AX) (K:W7):W7
 | .sl bu l clip=>jX g s lo hi l.length l.length λa b=>(bu=sz)∧K (.sl sz ((l.take b).drop a) (clip&&decide (b=l.length)))
 | .rs k p off len aD bu c=>cg (get s.bx k) λblk=>(aD=blk.aD∧bu=sz)∧jX g s lo hi len (BU c off len aD) λa b=>K (.rs k p (off+a) (b-a) aD sz (Fv c a (decide (b=len))))
 |_=>False
def Ke (sz:Nat) (x:AX) (lo hi:Option AX) (K:W7):ev g s (.slice (.sl sz) x lo hi none) K=eT g (vx s x) (VC s g sz lo hi K):=by
 simp only[ev,jg];congr 1;funext p;cases p<;>simp only[VC]<;>first|rfl|(unfold cg;(repeat' split)<;>simp_all;done)
@[simp] def ajO (off len aD:Nat):BU .tip off len aD=len:=_root_.id rfl
@[simp] theorem agF (n off len aD:Nat):BU (.full n) off len aD=if off+n≤aD∧len≤n then n else len:=_root_.id rfl
@[simp] theorem ajP (a:Nat) (e:Bool):Fv .tip a e= .tip:=_root_.id rfl
@[simp] theorem agG (n a:Nat) (e:Bool):Fv (.full n) a e= .full (n-a):=_root_.id rfl
def QP (s:St) (g:Bool) (sz:Nat) (lo hi:Option AX) (m:AX) (K:W7):W7
 | .sl bu l _=>eT g (vx s m) (ue λm=>(0≤m∧m≤l.length)∧jX g s lo hi l.length m.toNat λa b=>(bu=sz)∧K (.sl sz ((l.take b).drop a) (decide (b=m.toNat))))
 | .rs k p off len aD bu _=>cg (get s.bx k) λblk=>(aD=blk.aD∧bu=sz)∧eT g (vx s m) (ue λm=>(0≤m∧m≤len)∧jX g s lo hi len m.toNat λa b=>K (.rs k p (off+a) (b-a) aD sz (if b=m.toNat then .clip else .any)))
 |_=>False
def Kf (sz:Nat) (x:AX) (lo hi:Option AX) (m:AX) (K:W7):ev g s (.slice (.sl sz) x lo hi (some m)) K=eT g (vx s x) (QP s g sz lo hi m K):=by
 simp only[ev,jg];congr 1;funext p;cases p<;>simp only[QP,pM]<;>first|rfl|(unfold cg;(repeat' split)<;>simp_all;done)
def N7 (g:Bool) (s:St) (lo:Option AX) (K:Nat->Nat->Prop) (h:Nat):Prop:=
 match lo with|none=>K 0 h|some x=>eT g (vx s x) (ue λl=>(0≤l∧l≤h)∧K l.toNat h)
def QQ (lo:Option AX) (len cap:Nat) (K:Nat->Nat->Prop):jX g s lo none len cap K=N7 g s lo K len:=by
 cases lo<;>simp only[jX,N7,jg,pM]
def QR (lo:Option AX) (x:AX) (len cap:Nat) (K:Nat->Nat->Prop):jX g s lo (some x) len cap K=eT g (vx s x) (ue λh=>(0≤h∧h≤cap)∧N7 g s lo K h.toNat):=by
 cases lo<;>simp only[jX,N7,jg,pM]
end Go.Ab
namespace Go.Ab
variable [cM]
variable {P:Program} {s:St} {g:Bool}
def VE (s:St) (sz:Nat) (K:WG->Prop) (q:PV):Prop:=AY s (λbu ys=>(ys=[]∨bu=sz)∧K ys) q
def Zv (sz:Nat) (q:PV) (K:WG->Prop):src s false sz q K=VE s sz K q:=by simp only[src,fJ,if_false,VE,vk]
def ajQ (sz:Nat) (K:WG->Prop):W7
 | .str bs=>sz=1∧K (bs.map u8)
 |_=>False
def QS (sz:Nat) (q:PV) (K:WG->Prop):src s true sz q K=ajQ sz K q:=by simp only[src,if_true];cases q<;>rfl
def QT (d:Option Nat) (sz bytes:Nat) (str:Bool) (x y:AX) (K:UD):ex s d (.append sz bytes str x y) K=eT true (vx s x) λp=>eT true (vx s y) λq=>src s str sz q λys=>eO s d sz bytes p ys K:=by
 simp only[ex,jg]
def VF (k:Nat) (z:PV) (K:UD):ex s (some k) (.alloc z) K=(get s.bx k=none∧K {env:=put s.env k (.pt k [] 0),bx:=put s.bx k (.box z)}):=id rfl
def ajR (k:Nat) (x:AX) (K:UD):ex s (some k) (.box x) K=eT true (vx s x) λp=>(get s.bx k=none∧p.aV=true)∧K {env:=put s.env k (.pt k [] 0),bx:=put s.bx k (.box p)}:=by
 simp only[ex,jg]
def CE (d:Option Nat) (sz n:Nat) (z:PV) (parts:List (Nat×AX)) (K:UD):ex s d (.buildSlice false sz z n parts) K=Bf true s parts λps=>cg (cD (List.replicate n z) (ps.map λx=>(x.1,wk x.2))) λl=>K (s.put d (.sl sz l true)):=by
 simp only[ex,fJ,if_false];congr 1;funext ps;cases cD (List.replicate n z) (ps.map λx=>(x.1,wk x.2))<;>rfl
def CF (k:Nat) (sz n:Nat) (z:PV) (parts:List (Nat×AX)) (K:UD):ex s (some k) (.buildSlice true sz z n parts) K=Bf true s parts λps=>cg (cD (List.replicate n z) (ps.map λx=>(x.1,wk x.2))) λl=>get s.bx k=none∧K {env:=put s.env k (.rs k [] 0 n n sz .tip),bx:=put s.bx k (.arr sz l)}:=by
 simp only[ex,if_true];congr 1;funext ps;cases cD (List.replicate n z) (ps.map λx=>(x.1,wk x.2))<;>rfl
def Zw (s:St) (d k len aD sz bu bytes:Nat) (ys:WG) (K:UD):aU->Prop
 | .arr sz'' l=>(aD=l.length∧len=l.length∧bu=sz∧sz''=sz∧(l.length+ys.length)*bytes≤140737488355328∧l.length+ys.length≤9223372036854775807)∧
   K {env:=put s.env d (.rs k [] 0 (l.length+ys.length) (l.length+ys.length) sz .tip),bx:=put s.bx k (.arr sz (l++ys))}
 |_=>False
theorem
    VG (d sz bytes sz0:Nat) (l ys:WG) (K:UD):eO s (some d) sz bytes (.sl sz0 l true) ys K=((get s.bx d=none∧(l=[]∨(sz0=sz∧ys≠[]))∧(l.length+ys.length)*bytes≤140737488355328∧l.length+ys.length≤9223372036854775807)∧
    K {env:=put s.env d (.rs d [] 0 (l.length+ys.length) (l.length+ys.length) sz .tip),bx:=put s.bx d (.arr sz (l++ys))}):=rfl
theorem QU (d sz bytes k len aD bu:Nat) (ys:WG) (K:UD):eO s (some d) sz bytes (.rs k [] 0 len aD bu .tip) ys K=cg (get s.bx k) (Zw s d k len aD sz bu bytes ys K):=by
 simp only[eO];cases get s.bx k with
 |none=>rfl
 |some b=>cases b<;>rfl
def QV (s:St) (d k len aD n sz bu bytes:Nat) (ys:WG) (K:UD):aU->Prop
 | .arr sz'' l=>(aD=l.length∧bu=sz∧sz''=sz∧len≤n∧n≤l.length∧ys≠[]∧get s.bx d=none∧(len+ys.length)*bytes≤140737488355328∧len+ys.length≤9223372036854775807)∧
    (len+ys.length≤n->K {env:=put s.env d (.rs k [] 0 (len+ys.length) aD sz (.full n)),bx:=put s.bx k (.arr sz (l.take len++ys++l.drop (len+ys.length)))})∧
    (n<len+ys.length->K {env:=put s.env d (.rs d [] 0 (len+ys.length) (len+ys.length) sz .tip),bx:=put s.bx d (.arr sz (l.take len++ys))})
 |_=>False
theorem N8 (d sz bytes k len aD bu n:Nat) (ys:WG) (K:UD):eO s (some d) sz bytes (.rs k [] 0 len aD bu (.full n)) ys K=cg (get s.bx k) (QV s d k len aD n sz bu bytes ys K):=by
 simp only[eO];cases get s.bx k with
 |none=>rfl
 |some b=>cases b<;>rfl
def apZ (s:St) (d k len aD n sz bu bytes:Nat) (z:PV) (m:Int) (K:UD):aU->Prop
 | .arr sz'' l=>(get s.bx d=none∧aD=l.length∧bu=sz∧sz''=sz∧len≤n∧n≤l.length∧0<m∧n<len+m.toNat∧(len+m.toNat)*bytes≤140737488355328∧len+m.toNat≤9223372036854775807)∧
    K {env:=put s.env d (.rs d [] 0 (len+m.toNat) (len+m.toNat) sz .tip),bx:=put s.bx d (.arr sz (l.take len++List.replicate m.toNat z))}
 |_=>False
theorem Kg (d sz bytes k len aD bu n:Nat) (z:PV) (m:Int) (K:UD):pA s (some d) sz bytes z (.rs k [] 0 len aD bu (.full n)) m K=cg (get s.bx k) (apZ s d k len aD n sz bu bytes z m K):=by
 simp only[pA];cases get s.bx k with
 |none=>rfl
 |some b=>cases b<;>rfl
def N9 (d:Option Nat) (sz bytes:Nat) (z:PV) (x y:AX) (K:UD):ex s d (.appendZ sz bytes z x y) K=eT true (vx s x) λp=>eT true (vx s y) (ue λm=>pA s d sz bytes z p m K):=by
 simp only[ex,jg,pM]
theorem
    Oa (d sz bytes k off len aD bu:Nat) (p:Zy) (ys:WG) (K:UD):eO s (some d) sz bytes (.rs k p off len aD bu .clip) ys K=AY s (λsz'' l=>(get s.bx d=none∧sz''=sz∧ys≠[]∧(l.length+ys.length)*bytes≤140737488355328∧l.length+ys.length≤9223372036854775807)∧
    K {env:=put s.env d (.rs d [] 0 (l.length+ys.length) (l.length+ys.length) sz .tip),bx:=put s.bx d (.arr sz (l++ys))}) (.rs k p off len aD bu .clip):=by
 rw[←vk];cases p<;>cases off<;>rfl
end Go.Ab
namespace Go.Ab
variable [cM]
variable {P:Program} {s:St} {g:Bool} [gQ]
def Kh (s:St) (n:Nat) (v:PV) (K:UD):W7
 | .pt k pth aD=>cg (get s.bx k) λblk=>cg (rz blk pth (Zp blk v)) λbL=>(aD=blk.aD∧v.width=n∧v.aV=true)∧K {s with bx:=put s.bx k bL}
 |_=>False
theorem VH (d:Option Nat) (n:Nat) (x y:AX) (K:UD):ex s d (.store n x y) K=eT true (vx s x) λp=>eT true (vx s y) λv=>Kh s n v K p:=by
 simp only[ex,jg];congr 1;funext p;congr 1;funext v;cases p<;>simp only[Kh];rename_i k pth aD;cases get s.bx k with
 |none=>rfl
 |some b=>simp only[EI];cases rz b pth (Zp b v)<;>rfl
def QW (s:St) (d:Option Nat) (ng:Bool) (K:UD):W7
 | .sl _ l _=>∀b:Bool,(b=true->l=[])->K (s.put d (.bl (b !=ng)))
 | .rs k _ _ len aD _ _=>cg (get s.bx k) λblk=>aD=blk.aD∧∀b:Bool,(b=true->len=0)->K (s.put d (.bl (b !=ng)))
 |_=>False
def VI (d:Option Nat) (ng:Bool) (x:AX) (K:UD):ex s d (.isNil ng x) K=eT true (vx s x) (QW s d ng K):=by
 simp only[ex,jg];congr 1;funext p;cases p<;>simp only[QW];rename_i k _ _ _ _ _ _;cases get s.bx k<;>rfl
def HS (k sz bytes:Nat) (z:PV) (len cap:AX) (K:UD):ex s (some k) (.makeSlice sz bytes z len cap) K=eT true (vx s len) (ue λl=>eT true (vx s cap) (ue λc=>
  (get s.bx k=none∧0≤l∧l≤c∧c*bytes≤281474976710656∧c≤9223372036854775807)∧
    K {env:=put s.env k (.rs k [] 0 l.toNat l.toNat sz .tip),bx:=put s.bx k (.arr sz (List.replicate l.toNat z))})):=by
 simp only[ex,jg,pM]
def AZ (want mg:Bool) (M:Bool->Prop) (D U:Prop):W7
 | .bl b=>if mg=true then M (b==want)else(b=want->D)∧(b≠want->U)
 | .gd g (.bl b)=>if mg=true then M (g&&b==want)else(g=true->b=want->D)∧((g=true->b≠want)->U)
 |_=>False
@[congr] theorem avY {want mg:Bool} {M:Bool->Prop} {D U:Prop} {p p':PV} (h:p=p'):AZ want mg M D U p=AZ want mg M D U p':=by subst h;rfl
theorem VJ (d:Option Nat) (sl:Nat) (want mg:Bool) (k:AK) (K:UD):fA P s ⟨d,some (sl,want),mg,k⟩ K=
  AZ want mg (λg=>ev g s k λp=>K (s.put d (.gd g p))) (ko P s ⟨d,some (sl,want),mg,k⟩ K) (K (s.put d .un)) ((get s.env sl).getD .un):=by
 simp only[fA];generalize (get s.env sl).getD .un=p;cases p<;>try rfl
def cdK (A B:Prop):W7
 | .bl b=>(b=true->A)∧(b=false->B)
 | .gd g (.bl b)=>g=true∧(b=true->A)∧(b=false->B)
 |_=>False
@[congr] theorem avZ {A B:Prop} {p p':PV} (h:p=p'):cdK A B p=cdK A B p':=by subst h;rfl
theorem acB (c:AX) (x y:bT) (Q:Exit->UD):aw P (.cond c x y) Q s=cdK (aw P x Q s) (aw P y Q s) (vx s c):=by
 simp only[aw];generalize vx s c=p;cases p<;>try rfl
def ajS (P:Program) (s:St) (d:Option Nat) (K:UD) (args:WG):W7
 | .fn (.func fid) first cap=>∃ks os,vP P s d fid (first++args++cap) ks os K
 | .fn (.yield l) [] []=>JN s d l args K
 |_=>False
def VK (K:WG->Prop):wh g s [] K=K []:=id rfl
def VL (x:AX) (xs:ZP) (K:WG->Prop):wh g s (x::xs) K=eT g (vx s x) λp=>wh g s xs λps=>K (p::ps):=by simp only[wh,jg]
def VN (K:List (Nat×PV)->Prop):Bf g s [] K=K []:=id rfl
def VO (i:Nat) (x:AX) (xs:List (Nat×AX)) (K:List (Nat×PV)->Prop):Bf g s ((i,x)::xs) K=eT g (vx s x) λp=>Bf g s xs λps=>K ((i,p)::ps):=by simp only[Bf,jg]
def VQ (d:Option Nat) (f:AX) (args:ZP) (K:UD):kD P s d f args K=eT true (vx s f) λpf=>wh true s args λps=>ajS P s d K ps pf:=by
 simp only[kD,jg];congr 1
end Go.Ab
namespace Go.Ab
variable [cM]
@[simp↓] def av0 {g:Bool} {K:W7} (cx:Bool):eT g (.bl cx) K=K (.bl cx):=id rfl
@[simp↓] theorem as0 {g:Bool} {K:W7} (ck:IntKind) (cn:Int):eT g (.int ck cn) K=K (.int ck cn):=id rfl
@[simp↓] theorem as1 {g:Bool} {K:W7} (cl:Zz):eT g (.str cl) K=K (.str cl):=id rfl
@[simp↓] theorem av1 {g:Bool} {K:W7} (cw:Nat) (cl:WG):eT g (.st cw cl) K=K (.st cw cl):=id rfl
@[simp↓] theorem av2 {g:Bool} {K:W7} (cz cn:Nat) (cl:WG):eT g (.ar cz cn cl) K=K (.ar cz cn cl):=id rfl
@[simp↓] theorem as2 {g:Bool} {K:W7} (cl:WG):eT g (.tup cl) K=K (.tup cl):=id rfl
@[simp↓] theorem av3 {g:Bool} {K:W7} (cz:Nat) (cl:WG) (cc:Bool):eT g (.sl cz cl cc) K=K (.sl cz cl cc):=id rfl
@[simp↓] theorem av4 {g:Bool} {K:W7} (ck:Nat) (cp:Zy) (co cl ct cz:Nat) (cc:iO):eT g (.rs ck cp co cl ct cz cc) K=K (.rs ck cp co cl ct cz cc):=id rfl
@[simp↓] theorem av5 {g:Bool} {K:W7}:eT g .np K=K .np:=id rfl
@[simp↓] theorem av6 {g:Bool} {K:W7} (ck:Nat) (cp:Zy) (ct:Nat):eT g (.pt ck cp ct) K=K (.pt ck cp ct):=id rfl
@[simp↓] theorem av7 {g:Bool} {K:W7} (cz:Nat) (cl:WG) (cp:Zy):eT g (.fp cz cl cp) K=K (.fp cz cl cp):=id rfl
@[simp↓] theorem av8 {g:Bool} {K:W7} (cf:FuncId) (ca cb:WG):eT g (.fn (.func cf) ca cb) K=K (.fn (.func cf) ca cb):=id rfl
@[simp↓] theorem av9 {g:Bool} {K:W7} (cb:Bool) (cv:PV):eT g (.gd cb cv) K=((g=true->cb=true)∧K cv):=id rfl
@[simp↓] theorem ajT {s:St} {agg:Bool} {w:Nat} {K:W7} (ck:Nat) (cp:Zy) (ct:Nat):Mb s agg w K (.pt ck cp ct)=(cg (get s.bx ck) λblk=>cg (lW blk cp) λu=>(ct=blk.aD∧u.width=w∧u.isAgg=agg)∧K u):=id rfl
@[simp↓] theorem ajU {s:St} {agg:Bool} {w:Nat} {K:W7} (cz:Nat) (cl:WG) (cp:Zy):Mb s agg w K (.fp cz cl cp)=(cg (lW (.arr cz cl) cp) λu=>(u.width=w∧u.isAgg=agg)∧K u):=id rfl
@[simp↓] theorem as3 {s:St} {K:W7} (ck:Nat) (cp:Zy) (ct:Nat):acq s K (.pt ck cp ct)=(cg (get s.bx ck) λblk=>ct=blk.aD∧K (.pt ck cp ct)):=id rfl
@[simp↓] theorem agH {ps:List (Nat×PV)} {K:W7} (cw:Nat) (cl:WG):F2 ps K (.st cw cl)=(cg (cD cl ps) λl'=>K (.st cw l')):=id rfl
@[simp↓] theorem agI {ps:List (Nat×PV)} {K:W7} (cz cn:Nat) (cl:WG):F2 ps K (.ar cz cn cl)=(cg (cD cl ps) λl'=>K (.ar cz cn l')):=id rfl
@[simp↓] theorem ajV {K:Int->Prop} (ck:IntKind) (cn:Int):ue K (.int ck cn)=(K cn):=id rfl
@[simp↓] theorem as4 {s:St} {K:Nat->WG->Prop} (cz:Nat) (cl:WG) (cc:Bool):AY s K (.sl cz cl cc)=(K cz cl):=id rfl
@[simp↓] theorem acC {s:St} {i off:Nat} {K:W7} (ck:Nat) (cp:Zy) (ct:Nat):Bo s i off K (.pt ck cp ct)=(cg (get s.bx ck) λblk=>ct=blk.aD∧K (.pt ck (cp++[.f i off]) ct)):=id rfl
@[simp↓] theorem acD {s:St} {i off:Nat} {K:W7} (cz:Nat) (cl:WG) (cp:Zy):Bo s i off K (.fp cz cl cp)=(K (.fp cz cl (cp++[.f i off]))):=id rfl
@[simp↓] theorem as5 {s:St} {n sz:Nat} {K:W7} (cz:Nat) (cl:WG) (cc:Bool):acx s n sz K (.sl cz cl cc)=((cz=sz∧0<n∧n≤cl.length)∧K (.fp sz cl [.w 0 n sz])):=id rfl
@[simp↓] theorem ajW {s:St} {sz:Nat} {j:Int} {K:W7} (cz:Nat) (cl:WG) (cc:Bool):pN s sz j K (.sl cz cl cc)=((cz=sz∧0≤j∧j<cl.length)∧K (.fp sz cl [.i j.toNat sz])):=id rfl
@[simp↓] theorem ajX {s:St} {sz:Nat} {j:Int} {K:W7} (ck:Nat) (cp:Zy) (co cl ct cz:Nat) (cc:iO):pN s sz j K (.rs ck cp co cl ct cz cc)=(cg (get s.bx ck) λblk=>(ct=blk.aD∧cz=sz∧0≤j∧j<cl)∧K (.pt ck (cp++[.i (co+j.toNat) sz]) ct)):=id rfl
@[simp↓] theorem ajY {s:St} {sz:Nat} {j:Int} {K:W7} (ck:Nat) (cp:Zy) (ct:Nat):QM s sz j K (.pt ck cp ct)=(cg (get s.bx ck) λblk=>ct=blk.aD∧K (.pt ck (cp++[.i j.toNat sz]) ct)):=id rfl
@[simp↓] theorem ajZ {j:Int} {K:W7} (cl:Zz):acy j K (.str cl)=(cg cl[j.toNat]? λc=>0≤j∧K (.int .u8 c.toNat)):=id rfl
@[simp↓] theorem aj0 {i:Nat} {K:W7} (cl:WG):QO i K (.tup cl)=(cg cl[i]? K):=id rfl
@[simp↓] theorem as6 {s:St} {K:W7} (cz:Nat) (cl:WG) (cc:Bool):yZ s K (.sl cz cl cc)=(K (.int .i64 cl.length)):=id rfl
@[simp↓] theorem as7 {s:St} {K:W7} (ck:Nat) (cp:Zy) (co cl ct cz:Nat) (cc:iO):yZ s K (.rs ck cp co cl ct cz cc)=(cg (get s.bx ck) λblk=>ct=blk.aD∧K (.int .i64 cl)):=id rfl
@[simp↓] theorem agJ {s:St} {g:Bool} {lo hi mx:Option AX} {K:W7} (cl:Zz):Zu s g lo hi mx K (.str cl)=(mx.isNone=true∧jX g s lo hi cl.length cl.length λl h=>K (.str ((cl.take h).drop l))):=id rfl
@[simp↓] theorem as8 {s:St} {g:Bool} {n sz:Nat} {lo hi mx:Option AX} {K:W7} (cz:Nat) (cl:WG) (cp:Zy):VB s g n sz lo hi mx K (.fp cz cl cp)=cg (lW (.arr cz cl) cp) (acz s g n sz lo hi mx K):=id rfl
@[simp↓] theorem as9 {s:St} {g:Bool} {n sz:Nat} {lo hi mx:Option AX} {K:W7} (z' n':Nat) (l':WG):acz s g n sz lo hi mx K (.ar z' n' l')=((z'=sz∧n'=n∧mx.isNone=true)∧jX g s lo hi n n λa b=>K (.sl sz ((l'.take b).drop a) (decide (b=n)))):=id rfl
@[simp↓] theorem ata {s:St} {g:Bool} {n sz:Nat} {lo hi mx:Option AX} {K:W7} (ck:Nat) (cp:Zy) (ct:Nat):VB s g n sz lo hi mx K (.pt ck cp ct)=(cg (get s.bx ck) λblk=>ct=blk.aD∧mx.isNone=true∧jX g s lo hi n n λa b=>K (.rs ck cp a (b-a) ct sz (if b=n then .clip else .any))):=id rfl
@[simp↓] theorem agK {s:St} {n:Nat} {v:PV} {K:UD} (ck:Nat) (cp:Zy) (ct:Nat):Kh s n v K (.pt ck cp ct)=(cg (get s.bx ck) λblk=>cg (rz blk cp (Zp blk v)) λbL=>(ct=blk.aD∧v.width=n∧v.aV=true)∧K {s with bx:=put s.bx ck bL}):=id rfl
@[simp↓500] theorem awa {A B:Prop} (cx:Bool):cdK A B (.bl cx)=((cx=true->A)∧(cx=false->B)):=id rfl
@[simp↓] theorem aj1 {s:St} {a b:AX} {K:W7} (cx:Bool):Zt s a b K (.bl cx)=(xF cx K (vx s a) (vx s b)):=id rfl
end Go.Ab
namespace Go.Ab
variable [cM]
variable {P:Program} {s:St} {g:Bool}
def awb (x:AX) (K:W7):ev g s (.mv x) K=eT g (vx s x) K:=by simp only[ev,jg]
def VR (k:IntKind) (x:AX) (K:W7):ev g s (.convI k x) K=eT g (vx s x) (ue λn=>K (.int k (k.wrap n))):=by simp only[ev,jg,pM]
def acE (n:Nat) (K:W7):ev g s (.lenC n) K=K (.int .i64 n):=id rfl
end Go.Ab
namespace Go.Ab
variable [cM]
variable {P:Program} {s:St} [gQ]
@[simp↓] def awc (d:Option Nat) (gd:Option (Nat×Bool)) (mg:Bool) (x:AX) (K:UD):ko P s ⟨d,gd,mg,.mv x⟩ K=ev true s (.mv x) λp=>K (s.put d p):=id rfl
@[simp↓] theorem aj2 (d:Option Nat) (gd:Option (Nat×Bool)) (mg:Bool) (c a b:AX) (K:UD):ko P s ⟨d,gd,mg,.pick c a b⟩ K=ev true s (.pick c a b) λp=>K (s.put d p):=id rfl
@[simp↓] theorem agL (d:Option Nat) (gd:Option (Nat×Bool)) (mg:Bool) (z:PV) (ps:List (Nat×AX)) (K:UD):ko P s ⟨d,gd,mg,.build z ps⟩ K=ev true s (.build z ps) λp=>K (s.put d p):=id rfl
@[simp↓] theorem aj3 (d:Option Nat) (gd:Option (Nat×Bool)) (mg:Bool) (a:Bool) (w:Nat) (x:AX) (K:UD):ko P s ⟨d,gd,mg,.load a w x⟩ K=ev true s (.load a w x) λp=>K (s.put d p):=id rfl
@[simp↓] theorem VS (d:Option Nat) (gd:Option (Nat×Bool)) (mg:Bool) (x:AX) (K:UD):ko P s ⟨d,gd,mg,.nilCheck x⟩ K=ev true s (.nilCheck x) λp=>K (s.put d p):=id rfl
@[simp↓] theorem atc (d:Option Nat) (gd:Option (Nat×Bool)) (mg:Bool) (o:BinOp) (e:ET) (x y:AX) (K:UD):ko P s ⟨d,gd,mg,.bin o e x y⟩ K=ev true s (.bin o e x y) λp=>K (s.put d p):=id rfl
@[simp↓] theorem awd (d:Option Nat) (gd:Option (Nat×Bool)) (mg:Bool) (o:UnOp) (x:AX) (K:UD):ko P s ⟨d,gd,mg,.un o x⟩ K=ev true s (.un o x) λp=>K (s.put d p):=id rfl
@[simp↓] theorem agM (d:Option Nat) (gd:Option (Nat×Bool)) (mg:Bool) (k:IntKind) (x:AX) (K:UD):ko P s ⟨d,gd,mg,.convI k x⟩ K=ev true s (.convI k x) λp=>K (s.put d p):=id rfl
@[simp↓] theorem agN (d:Option Nat) (gd:Option (Nat×Bool)) (mg:Bool) (x:AX) (K:UD):ko P s ⟨d,gd,mg,.convS x⟩ K=ev true s (.convS x) λp=>K (s.put d p):=id rfl
@[simp↓] theorem acF (d:Option Nat) (gd:Option (Nat×Bool)) (mg:Bool) (f:Fn) (a b:ZP) (K:UD):ko P s ⟨d,gd,mg,.mkFunc f a b⟩ K=ev true s (.mkFunc f a b) λp=>K (s.put d p):=id rfl
@[simp↓] theorem agO (d:Option Nat) (gd:Option (Nat×Bool)) (mg:Bool) (k:SK) (x:AX) (l h m:Option AX) (K:UD):ko P s ⟨d,gd,mg,.slice k x l h m⟩ K=ev true s (.slice k x l h m) λp=>K (s.put d p):=id rfl
@[simp↓] theorem acG (d:Option Nat) (gd:Option (Nat×Bool)) (mg:Bool) (i o:Nat) (x:AX) (K:UD):ko P s ⟨d,gd,mg,.fieldA i o x⟩ K=ev true s (.fieldA i o x) λp=>K (s.put d p):=id rfl
@[simp↓] theorem atd (d:Option Nat) (gd:Option (Nat×Bool)) (mg:Bool) (n z:Nat) (x:AX) (K:UD):ko P s ⟨d,gd,mg,.s2a n z x⟩ K=ev true s (.s2a n z x) λp=>K (s.put d p):=id rfl
@[simp↓] theorem acH (d:Option Nat) (gd:Option (Nat×Bool)) (mg:Bool) (k:SK) (x i:AX) (K:UD):ko P s ⟨d,gd,mg,.indexA k x i⟩ K=ev true s (.indexA k x i) λp=>K (s.put d p):=id rfl
@[simp↓] theorem acI (d:Option Nat) (gd:Option (Nat×Bool)) (mg:Bool) (x i:AX) (K:UD):ko P s ⟨d,gd,mg,.indexS x i⟩ K=ev true s (.indexS x i) λp=>K (s.put d p):=id rfl
@[simp↓] theorem Zx (d:Option Nat) (gd:Option (Nat×Bool)) (mg:Bool) (i:Nat) (x:AX) (K:UD):ko P s ⟨d,gd,mg,.extract i x⟩ K=ev true s (.extract i x) λp=>K (s.put d p):=id rfl
@[simp↓] theorem ate (d:Option Nat) (gd:Option (Nat×Bool)) (mg:Bool) (x:AX) (K:UD):ko P s ⟨d,gd,mg,.len x⟩ K=ev true s (.len x) λp=>K (s.put d p):=id rfl
@[simp↓] theorem atf (d:Option Nat) (gd:Option (Nat×Bool)) (mg:Bool) (x:AX) (K:UD):ko P s ⟨d,gd,mg,.cap x⟩ K=ev true s (.cap x) λp=>K (s.put d p):=id rfl
@[simp↓] theorem LaQ (d:Option Nat) (gd:Option (Nat×Bool)) (mg:Bool) (sz b:Nat) (z:PV) (x y:AX) (K:UD):ko P s ⟨d,gd,mg,.appendZ sz b z x y⟩ K=ex s d (.appendZ sz b z x y) K:=id rfl
@[simp↓] theorem awe (d:Option Nat) (gd:Option (Nat×Bool)) (mg:Bool) (m:Bool) (xs:ZP) (K:UD):ko P s ⟨d,gd,mg,.mm m xs⟩ K=ev true s (.mm m xs) λp=>K (s.put d p):=id rfl
@[simp↓] theorem agP (d:Option Nat) (gd:Option (Nat×Bool)) (mg:Bool) (z:PV) (K:UD):ko P s ⟨d,gd,mg,.alloc z⟩ K=ex s d (.alloc z) K:=id rfl
@[simp↓] theorem atg (d:Option Nat) (gd:Option (Nat×Bool)) (mg:Bool) (x:AX) (K:UD):ko P s ⟨d,gd,mg,.box x⟩ K=ex s d (.box x) K:=id rfl
@[simp↓] theorem QX (d:Option Nat) (gd:Option (Nat×Bool)) (mg:Bool) (o:Bool) (sz:Nat) (z:PV) (n:Nat) (ps:List (Nat×AX)) (K:UD):ko P s ⟨d,gd,mg,.buildSlice o sz z n ps⟩ K=ex s d (.buildSlice o sz z n ps) K:=id rfl
@[simp↓] theorem Ur (d:Option Nat) (gd:Option (Nat×Bool)) (mg:Bool) (sz b:Nat) (z:PV) (l c:AX) (K:UD):ko P s ⟨d,gd,mg,.makeSlice sz b z l c⟩ K=ex s d (.makeSlice sz b z l c) K:=id rfl
@[simp↓] theorem agQ (d:Option Nat) (gd:Option (Nat×Bool)) (mg:Bool) (w:Nat) (a x:AX) (K:UD):ko P s ⟨d,gd,mg,.store w a x⟩ K=ex s d (.store w a x) K:=id rfl
@[simp↓] theorem acJ (d:Option Nat) (gd:Option (Nat×Bool)) (mg:Bool) (sz b:Nat) (st:Bool) (x y:AX) (K:UD):ko P s ⟨d,gd,mg,.append sz b st x y⟩ K=ex s d (.append sz b st x y) K:=id rfl
@[simp↓] theorem aj4 (d:Option Nat) (gd:Option (Nat×Bool)) (mg:Bool) (sz:Nat) (x y:AX) (K:UD):ko P s ⟨d,gd,mg,.copy sz x y⟩ K=ex s d (.copy sz x y) K:=id rfl
@[simp↓] theorem aj5 (d:Option Nat) (gd:Option (Nat×Bool)) (mg:Bool) (sz:Nat) (z:PV) (x:AX) (K:UD):ko P s ⟨d,gd,mg,.fill sz z x⟩ K=ex s d (.fill sz z x) K:=id rfl
@[simp↓] theorem agR (d:Option Nat) (gd:Option (Nat×Bool)) (mg:Bool) (x:AX) (K:UD):ko P s ⟨d,gd,mg,.convL x⟩ K=ex s d (.convL x) K:=id rfl
@[simp↓] theorem aj6 (d:Option Nat) (gd:Option (Nat×Bool)) (mg:Bool) (f:AX) (l:ZP) (K:UD):ko P s ⟨d,gd,mg,.call f l⟩ K=kD P s d f l K:=id rfl
@[simp↓] theorem agS (d:Option Nat) (gd:Option (Nat×Bool)) (mg:Bool) (f:AX) (l:ZP) (K:UD):ko P s ⟨d,gd,mg,.callq f l⟩ K=nR P s d f l K:=id rfl
end Go.Ab
namespace Go.Ab
variable [cM]
variable {P:Program} {s:St}
def Ki {d:Option Nat} {f:FuncId} {args:WG} {R:W7} {K:UD} (hA:ab P f args [] (λr fp=>R r∧fp=[])) (hp:aB args) (hr:∀r,R r->Pure r) (h:∀r,R r->K (s.put d r)):
  ∃ks os,vP P s d f args ks os K:=by
 refine⟨[],[],[],(λr fp=>R r∧fp=[]),rfl,by simp,by simp,hp.refs _,rfl,?_,?_⟩
 ·rw[hp.aI];exact hA
 ·rintro r fp ⟨hR,rfl⟩;refine⟨⟨rfl,(hr r hR).refs _,rfl⟩,?_⟩;rw[(hr r hR).aI];exact h r hR
def Ob {d:Option Nat} {f:FuncId} {args:WG} {sz:Nat} {R:WG->Prop} {K:UD} (o:Nat) (hA:ab P f args [] (λr fp=>∃l,R l∧r= .rs KB [] 0 l.length l.length sz .tip∧fp=[.arr sz l])) (hp:aB args) (ho:get s.bx o=none)
  (hl:∀l,R l->aB l) (h:∀l,R l->K ({s with bx:=put s.bx o (.arr sz l)}.put d (.rs o [] 0 l.length l.length sz .tip))):∃ks os,vP P s d f args ks os K:=by
 refine⟨[],[o],[],(λr fp=>∃l,R l∧r= .rs KB [] 0 l.length l.length sz .tip∧fp=[.arr sz l]),rfl,by simp,by simpa using ho,hp.refs _,rfl,?_,?_⟩
 ·rw[hp.aI];exact hA
 ·rintro r fp ⟨l,hR,rfl,rfl⟩;have mV:=hl l hR;have e:cN [o] KB=o:=by simp[cN]
  refine⟨⟨rfl,by simp[ae,dL],by simp[af,mV.refs]⟩,?_⟩;simpa[aQ,aG,mV.aI,aI,e]using h l hR
end Go.Ab
namespace Go.Ab
variable [cM]
variable {P:Program} {s:St} {g:Bool} [gQ]
attribute [simp↓] aco Vx acp Kc acv acu acr acs acw pM avX vk Vy QK ajK Vz HP HQ VA QN N6 ajN
 HR Kd Ke Kf QQ QR Zv QS QT VF ajR CE CF VG QU N8 Kg N9 Oa
 VH VI HS VK VL VN VO awb VR acE
inductive Tg {α:Sort _} (a:α):Type
 |mk
def aj (P:Program) (s:St) (d:Option Nat) (f:FuncId) (args:WG) (K:UD) (_:Tg K):Prop:=∃ks os,vP P s d f args ks os K
def aK (P:Program) (s:St) (d:Option Nat) (f:FuncId) (args:WG) (K:UD) (_:Tg K):Prop:=
 ∃v,(al (λ_=>false) args=true∧ae (λ_=>false) v=true)∧ab P f args [] (λr fp=>r=v∧fp=[])∧K (s.put d v)
def yS (s:St) (d:Option Nat) (l:Nat) (args:WG) (K:UD) (_:Tg K):Prop:=JN s d l args K
def QY (P:Program) (s:St) (d:Option Nat) (K:UD) (t:Tg K) (args:WG):W7
 | .fn (.func fid) first cap=>aj P s d fid (first++args++cap) K t
 | .fn (.yield l) [] []=>yS s d l args K t
 |_=>False
def QZ (P:Program) (s:St) (d:Option Nat) (K:UD) (t:Tg K) (args:WG):W7
 | .fn (.func fid) first cap=>aK P s d fid (first++args++cap) K t
 |_=>False
@[simp↓] def agT (d:Option Nat) (K:UD) (t:Tg K) (l a b:WG) (f:FuncId):QY P s d K t l (.fn (.func f) a b)=aj P s d f (a++l++b) K t:=_root_.id rfl
@[simp↓] theorem agU (d:Option Nat) (K:UD) (t:Tg K) (l a b:WG) (f:FuncId):QZ P s d K t l (.fn (.func f) a b)=aK P s d f (a++l++b) K t:=_root_.id rfl
@[simp↓] theorem ath (d:Option Nat) (f:AX) (args:ZP) (K:UD):kD P s d f args K=eT true (vx s f) λpf=>wh true s args λps=>QY P s d K .mk ps pf:=by
 rw[VQ];congr 1
@[simp↓] def ati (d:Option Nat) (f:AX) (args:ZP) (K:UD):nR P s d f args K=eT true (vx s f) λpf=>wh true s args λps=>QZ P s d K .mk ps pf:=by
 simp only[nR,jg];congr 1
@[simp↓] def aGb (n:Nat):vx s (.t n)=(get s.env n).getD .un:=_root_.id rfl
@[simp↓] theorem aGc (p:PV):vx s (.c p)=p:=_root_.id rfl
@[simp↓] theorem get_nil {α:Type} (n:Nat):get ([]:List (Nat×α)) n=none:=_root_.id rfl
@[simp↓] theorem aj7 {α:Type} (k n:Nat) (v:α) (r:List (Nat×α)):get ((k,v)::r) n=if k=n then some v else get r n:=_root_.id rfl
@[simp↓] theorem atj {α:Type} (n:Nat) (x:α):put [] n x=[(n,x)]:=_root_.id rfl
@[simp↓] theorem aj8 {α:Type} (k n:Nat) (v x:α) (r:List (Nat×α)):put ((k,v)::r) n x=if k=n then(n,x)::r else if n<k then(n,x)::(k,v)::r else(k,v)::put r n x:=_root_.id rfl
@[simp↓] theorem acK (d:Nat) (p:PV):s.put (some d) p= {s with env:=put s.env d p}:=_root_.id rfl
@[simp↓] theorem acL (p:PV):s.put none p=s:=_root_.id rfl
@[simp↓] theorem atk (K:UD):JT P s [] K=K s:=_root_.id rfl
@[simp↓] theorem aj9 (o:AO) (l:UN) (K:UD):JT P s (o::l) K=fA P s o λs'=>JT P s' l K:=_root_.id rfl
def fa (P:Program) (x:bT) (Q:Exit->UD) (_:Tg (x,Q)) (s:St):Prop:=Lp (λQ s=>aw P x Q s) Q s
def Px (P:Program) (x y:bT) (Q:Exit->UD) (_:Tg (x,y,Q)) (s:St):Prop:=Md (λQ s=>aw P x Q s) (λQ s=>aw P y Q s) Q s
def bj (n:Nat) (res:ZB) (R:PV->WD->Prop) (_:Tg R) (s:St):Prop:=QJ n res R s
def an (c:bT) (Q:Exit->UD):aw P (lk c) Q s=aw P c Q s:=by rw[acm]
@[simp↓] def atl (Q:Exit->UD):aw P .skip Q s=Q .normal s:=_root_.id rfl
@[simp↓] theorem agV (l:UN) (Q:Exit->UD):aw P (.region l) Q s=JT P s l (Q .normal):=_root_.id rfl
@[simp↓] theorem awf (x y:bT) (Q:Exit->UD):aw P (.seq x y) Q s=aw P x (DH Q λs'=>aw P y Q s') s:=_root_.id rfl
@[simp↓] theorem atm (n:Nat) (v:PV) (e:List (Nat×PV)) (b:List (Nat×aU)) (c:AX) (x y:bT) (Q:Exit->UD):aw P (.cond c x y) Q ⟨(n,v)::e,b⟩=cdK (aw P x Q ⟨(n,v)::e,b⟩) (aw P y Q ⟨(n,v)::e,b⟩) (vx ⟨(n,v)::e,b⟩ c):=acB c x y Q
@[simp↓] theorem aCX (n:Nat) (v:PV) (e:List (Nat×PV)) (b:List (Nat×aU)) (d:Option Nat) (mg:Bool) (k:AK) (K:UD):fA P ⟨(n,v)::e,b⟩ ⟨d,none,mg,k⟩ K=ko P ⟨(n,v)::e,b⟩ ⟨d,none,mg,k⟩ K:=_root_.id rfl
@[simp↓] theorem awg (b:List (Nat×aU)) (d:Option Nat) (mg:Bool) (k:AK) (K:UD):fA P ⟨[],b⟩ ⟨d,none,mg,k⟩ K=ko P ⟨[],b⟩ ⟨d,none,mg,k⟩ K:=_root_.id rfl
@[simp↓] theorem aCY (n:Nat) (v:PV) (e:List (Nat×PV)) (b:List (Nat×aU)) (d:Option Nat) (sl:Nat) (want mg:Bool) (k:AK) (K:UD):fA P ⟨(n,v)::e,b⟩ ⟨d,some (sl,want),mg,k⟩ K=
  AZ want mg (λg=>ev g ⟨(n,v)::e,b⟩ k λp=>K (St.put ⟨(n,v)::e,b⟩ d (.gd g p))) (ko P ⟨(n,v)::e,b⟩ ⟨d,some (sl,want),mg,k⟩ K) (K (St.put ⟨(n,v)::e,b⟩ d .un)) ((get ((n,v)::e) sl).getD .un):=VJ d sl want mg k K
@[simp↓] def aka (id:Nat) (x:bT) (Q:Exit->UD):aw P (.block id x) Q s=aw P x (QE id Q) s:=_root_.id rfl
@[simp↓] theorem atn (x:bT) (Q:Exit->UD):aw P (.loop x) Q s=fa P x Q .mk s:=_root_.id rfl
@[simp↓] theorem ato (x y:bT) (Q:Exit->UD):aw P (.seqm x y) Q s=Px P x y Q .mk s:=_root_.id rfl
@[simp↓] theorem atp (id:Nat) (Q:Exit->UD):aw P (.exit id) Q s=Q (.exit id) s:=_root_.id rfl
@[simp↓] theorem awh (Q:Exit->UD):aw P .ret Q s=Q .ret s:=_root_.id rfl
@[simp↓] theorem acM (Q:Exit->UD) (K:UD):DH Q K .normal s=K s:=_root_.id rfl
@[simp↓] theorem atq (Q:Exit->UD) (K:UD):DH Q K .ret s=Q .ret s:=_root_.id rfl
@[simp↓] theorem akb (Q:Exit->UD) (K:UD) (i:Nat):DH Q K (.exit i) s=Q (.exit i) s:=_root_.id rfl
@[simp↓] theorem acN (Q:Exit->UD) (i:Nat):QE i Q .normal s=Q .normal s:=_root_.id rfl
@[simp↓] theorem atr (Q:Exit->UD) (i:Nat):QE i Q .ret s=Q .ret s:=_root_.id rfl
@[simp↓] theorem akc (Q:Exit->UD) (i j:Nat):QE i Q (.exit j) s=if j=i then Q .normal s else Q (.exit j) s:=_root_.id rfl
@[simp↓] theorem akd (n:Nat) (res:ZB) (R:PV->WD->Prop):ends n res R .ret s=bj n res R .mk s:=_root_.id rfl
@[simp↓] theorem LbL (n:Nat) (res:ZB) (R:PV->WD->Prop):ends n res R .normal s=bj n res R .mk s:=_root_.id rfl
@[simp↓] theorem ake (K:UD):fG [] s K=K s:=_root_.id rfl
@[simp↓] theorem cX (c:Cut) (r:List Cut) (K:UD):fG (c::r) s K=gT c s λs'=>fG r s' K:=_root_.id rfl
@[simp↓] theorem agW (sl:Yx) (K:UD):gT (.keep sl) s K=K {s with env:=j2 sl s.env}:=_root_.id rfl
def acO (s:St) (n k len aD sz:Nat) (K:UD):aU->Prop
 | .arr bu l=>(bu=sz∧aD=l.length)∧∀c j:Nat,(c=l.length+j∨(c=0∧j=0∧len=0))->
    K {env:=put s.env n (.rs k [] 0 len (l.length+j) sz (.full c)),bx:=put s.bx k (.arr sz (l++List.replicate j (LX sz)))}
 |_=>False
def acP (s:St) (n:Nat) (K:UD):W7
 | .rs k [] 0 len aD sz .tip=>cg (get s.bx k) (acO s n k len aD sz K)
 |_=>False
@[simp↓] def ats (n k len aD sz:Nat) (K:UD):acP s n K (.rs k [] 0 len aD sz .tip)=cg (get s.bx k) (acO s n k len aD sz K):=_root_.id rfl
@[simp↓] theorem akf (n k len aD sz bu:Nat) (l:WG) (K:UD):acO s n k len aD sz K (.arr bu l)=((bu=sz∧aD=l.length)∧∀c j:Nat,(c=l.length+j∨(c=0∧j=0∧len=0))->
    K {env:=put s.env n (.rs k [] 0 len (l.length+j) sz (.full c)),bx:=put s.bx k (.arr sz (l++List.replicate j (LX sz)))}):=_root_.id rfl
@[simp↓] theorem atu (n:Nat) (K:UD):gT (.mt n) s K=cg (get s.env n) (acP s n K):=by
 simp only[gT,mt1];cases get s.env n with
 |none=>rfl
 |
  some p=>
  cases p<;>try rfl
  rename_i k pth off len aD sz c
  cases pth<;>try rfl
  cases off<;>try rfl
  cases c<;>try rfl
  simp only[cg,acP]
  cases get s.bx k with
  |none=>rfl
  |some b=>cases b<;>rfl
def akg (s:St) (k:Nat) (K:UD):aU->Prop
 | .box v=>K {s with bx:=put s.bx k (.box (wk v))}
 |_=>False
@[simp↓] def akh (k:Nat) (K:UD) (v:PV):akg s k K (.box v)=K {s with bx:=put s.bx k (.box (wk v))}:=_root_.id rfl
@[simp↓] theorem atv (k:Nat) (K:UD):gT (.wb k) s K=cg (get s.bx k) (akg s k K):=by
 simp only[gT,wb1];cases get s.bx k with
 |none=>rfl
 |some b=>cases b<;>rfl
def vbP (s:St) (b k sz:Nat) (w:Option PV) (K:UD):W7
 | .sl _ [] true=>cg w λv'=>(get s.bx k=none∧0<sz)∧K {s with bx:=put (put s.bx k (.arr sz [])) b (.box v')}
 |_=>False
@[simp↓] def awi (b k sz z:Nat) (w:Option PV) (K:UD):vbP s b k sz w K (.sl z [] true)=cg w λv'=>(get s.bx k=none∧0<sz)∧K {s with bx:=put (put s.bx k (.arr sz [])) b (.box v')}:=_root_.id rfl
def vbK (s:St) (b:Nat) (p:Zy) (k sz:Nat) (K:UD):aU->Prop
 | .box v=>cg (aO v p) (vbP s b k sz (cu v p (.rs k [] 0 0 0 sz .tip)) K)
 |_=>False
@[simp↓] def atw (b:Nat) (p:Zy) (k sz:Nat) (v:PV) (K:UD):vbK s b p k sz K (.box v)=cg (aO v p) (vbP s b k sz (cu v p (.rs k [] 0 0 0 sz .tip)) K):=_root_.id rfl
@[simp↓] theorem atx (b:Nat) (p:Zy) (k sz:Nat) (K:UD):gT (.vb b p k sz) s K=cg (get s.bx b) (vbK s b p k sz K):=by
 simp only[gT,vb1];cases get s.bx b with
 |none=>rfl
 |
  some x=>
  cases x with
  |arr _ _=>rfl
  |map b ks vs l=>rfl
  |
   box v=>
   simp only[cg,vbK]
   cases h1:aO v p with
   |none=>cases cu v p (.rs k [] 0 0 0 sz .tip)<;>rfl
   |
    some u=>
    cases h2:cu v p (.rs k [] 0 0 0 sz .tip)with
    |
     none=>
     simp only[vbP]
     split<;>simp_all
    |
     some v'=>
     simp only[vbP]
     split<;>simp_all
@[simp↓] def aty (n:Nat) (K:UD):gT (.wk n) s K=cg (get s.env n) λp=>K {s with env:=put s.env n (wk p)}:=by
 simp only[gT,Qn];cases get s.env n<;>rfl
def fzK (s:St) (k:Nat) (K:UD):aU->Prop
 | .arr sz l=>(al (λj=>decide (j≠k)) l=true∧k<KB)∧K {env:=fX (eG k sz l) s.env,bx:=fX (wz k sz l) (del s.bx k)}
 |_=>False
@[simp↓] def atz (k sz:Nat) (l:WG) (K:UD):fzK s k K (.arr sz l)=((al (λj=>decide (j≠k)) l=true∧k<KB)∧K {env:=fX (eG k sz l) s.env,bx:=fX (wz k sz l) (del s.bx k)}):=_root_.id rfl
@[simp↓] theorem atA (k:Nat) (K:UD):gT (.fz k) s K=cg (get s.bx k) (fzK s k K):=by
 simp only[gT,fz1];cases get s.bx k with
 |none=>rfl
 |some b=>cases b<;>rfl
def mvK (s:St) (k k':Nat) (K:UD) (b:aU):Prop:=(get s.bx k'=none∧k<KB∧k'<KB∧k≠k')∧K {env:=fX (aI (wA k k')) s.env,bx:=put (fX (aG (wA k k')) (del s.bx k)) k' (aG (wA k k') b)}
@[simp↓] def atB (k k':Nat) (K:UD):gT (.mv k k') s K=cg (get s.bx k) (mvK s k k' K):=by
 simp only[gT,mv1];cases get s.bx k<;>rfl
@[simp↓] def aC1 (k k':Nat) (K:UD) (b:aU):mvK s k k' K b=((get s.bx k'=none∧k<KB∧k'<KB∧k≠k')∧K {env:=fX (aI (wA k k')) s.env,bx:=put (fX (aG (wA k k')) (del s.bx k)) k' (aG (wA k k') b)}):=_root_.id rfl
@[simp↓] theorem atC (k:Nat) (K:UD):gT (.dr k) s K=((aW (λj=>decide (j≠k)) s.env=true∧bA (λj=>decide (j≠k)) (del s.bx k)=true∧k<KB)∧K {s with bx:=del s.bx k}):=_root_.id rfl
def vtK (s:St) (n k sz:Nat) (K:UD):W7
 | .sl _ [] true=>(get s.bx k=none∧0<sz)∧K {env:=put s.env n (.rs k [] 0 0 0 sz .tip),bx:=put s.bx k (.arr sz [])}
 |_=>False
@[simp↓] def awk (n k sz z:Nat) (K:UD):vtK s n k sz K (.sl z [] true)=((get s.bx k=none∧0<sz)∧K {env:=put s.env n (.rs k [] 0 0 0 sz .tip),bx:=put s.bx k (.arr sz [])}):=_root_.id rfl
@[simp↓] theorem atD (n k sz:Nat) (K:UD):gT (.vt n k sz) s K=cg (get s.env n) (vtK s n k sz K):=by
 simp only[gT,vt1];cases get s.env n with
 |none=>rfl
 |
  some p=>
  cases p with
  |sl z l c=>cases l<;>cases c<;>rfl
  |_=>rfl
@[simp] def aC3 {n:Nat} (h:n<9000):n<KB:=h
@[simp↓] theorem atE (K:WG->Prop):G6 s [] K=K []:=_root_.id rfl
@[simp↓] theorem akj (k:AK) (r:ZB) (K:WG->Prop):G6 s (k::r) K=ev true s k λp=>G6 s r λps=>K (p::ps):=_root_.id rfl
@[simp↓] theorem ZA:dE 0=[]:=_root_.id rfl
@[simp↓] theorem acQ (bx:List (Nat×aU)):getAll bx []=some []:=_root_.id rfl
@[simp↓] theorem agX (p:PV):dN [p]=p:=_root_.id rfl
@[simp↓] theorem Oc (p q:PV) (l:WG):dN (p::q::l)= .tup (p::q::l):=_root_.id rfl
theorem bj.plain {res:ZB} {R:PV->WD->Prop} {t:Tg R} (c:List Cut) (h:fG c s λs'=>G6 s' res λps=>(ps.all PV.flat=true∧aB ps)∧R (dN ps) []):bj 0 res R t s:=by
 refine⟨c,[],?_⟩
 have hm:∀(c:List Cut) (s:St) (K K':UD),(∀s,K s->K' s)->fG c s K->fG c s K':=by
  intro c;induction c with
  |nil=>intro s K K' h hk;exact h s hk
  |
   cons x c ih=>
   intro s K K' h hk
   cases x with
   |fz k=>simp only[cX,gT,fz1]at hk⊢;split at hk<;>simp_all;exact ih _ _ _ (λs hs=>h s hs) hk.2
   |dr k=>simp only[cX,gT,dr1]at hk⊢;exact⟨hk.1,ih _ _ _ h hk.2⟩
   |keep sl=>simp only[cX,gT]at hk⊢;exact ih _ _ _ h hk
   |vt n k z=>simp only[cX,gT,vt1]at hk⊢;split at hk<;>simp_all;exact ih _ _ _ (λs hs=>h s hs) hk.2
   |wk n=>simp only[cX,gT,Qn]at hk⊢;split at hk<;>simp_all;exact ih _ _ _ (λs hs=>h s hs) hk
   |
    ba n k=>
    simp only[cX,gT,ba1]at hk⊢
    split at hk
    ·exact⟨hk.1,ih _ _ _ h hk.2⟩
    ·exact hk.elim
   |
    es k m=>
    simp only[cX,gT,es1]at hk⊢
    split at hk
    ·exact⟨hk.1,ih _ _ _ h hk.2⟩
    ·exact hk.elim
   |wb n=>simp only[cX,gT,wb1]at hk⊢;split at hk<;>simp_all;exact ih _ _ _ (λs hs=>h s hs) hk
   |vb n p k z=>simp only[cX,gT,vb1]at hk⊢;split at hk<;>simp_all;split at hk<;>simp_all;exact ih _ _ _ (λs hs=>h s hs) hk.2
   |
    mv k k'=>
    simp only[cX,gT,mv1]at hk⊢
    split at hk
    ·exact⟨hk.1,ih _ _ _ h hk.2⟩
    ·exact hk.elim
   |
    mt n=>
    simp only[cX,gT,mt1]at hk⊢
    split at hk
    ·split at hk
     ·exact⟨hk.1,λc j e=>ih _ _ _ h (hk.2 c j e)⟩
     ·exact hk.elim
    ·exact hk.elim
 have hev:∀(k:AK) (s:St) (K K':W7),(∀p,K p->K' p)->ev true s k K->ev true s k K':=by
  intro k s K K' h hk;obtain⟨p,h1,h2⟩:=tD true s k K hk;exact h2 K' (h p h1)
 have af5:∀(l:ZB) (s:St) (K K':WG->Prop),(∀p,K p->K' p)->G6 s l K->G6 s l K':=by
  intro l;induction l with
  |nil=>intro s K K' h hk;exact h _ hk
  |cons x l ih=>intro s K K' h hk;exact hev _ _ _ _ (λp hp=>ih _ _ _ (λq hq=>h _ hq) hp) hk
 refine hm _ _ _ _ (λs' Dv=>af5 _ _ _ _ (λps xh=> ?_) Dv) h;obtain⟨⟨h1,h2⟩,h3⟩:=xh
 have hp:Pure (dN ps):=by
  match ps,h2 with
  |[],h2=>exact Pure.of rfl
  |[p],h2=>exact h2.forget p (by simp)
  |p::q::l,h2=>exact Pure.of (by simp only[Oc,ae];exact h2.refs _)
 refine⟨[],⟨rfl,by simp,rfl⟩,⟨h1,hp.refs _,rfl⟩,?_⟩;rw[hp.aI];exact h3
def bH {res:ZB} {R:PV->WD->Prop} {t:Tg R} (h:fG [] s λs'=>G6 s' res λps=>(ps.all PV.flat=true∧aB ps)∧R (dN ps) []):bj 0 res R t s:=bj.plain [] h
end Go.Ab
namespace Go.Ab
variable [cM]
variable {P:Program} {s:St} [gQ]
theorem HT:∀ {l:UN} {s:St} {K K':UD},(∀p,K p->K' p)->JT P s l K->JT P s l K'
 |[],s,K,K',h,hk=>h _ hk
 |o::l,s,K,K',h,hk=>cr (λs' Dv=>HT h Dv) hk
def CG {W:Yx} {f:Bool} {o:AO} {K K':UD} (h:∀p,K p->K' p) (hk:ig P W f s o K):ig P W f s o K':=by
 unfold ig at hk⊢;split at hk
 ·split at hk
  ·rename_i h1 h2;rw[if_pos h1,if_pos h2];exact cr (λt ht=>h _ ht) hk
  ·rename_i h1 h2;rw[if_pos h1,if_neg h2];exact cr h hk
 ·rename_i h1;rw[if_neg h1];exact cr (λt ht=>⟨ht.1,h _ ht.2⟩) hk
theorem vl {aos:UN} {fl:Nat->Bool} {W:Yx}:∀ {l:Yx} {s:St} {K K':UD},(∀p,K p->K' p)->gL P aos fl W s l K->gL P aos fl W s l K'
 |[],s,K,K',h,hk=>h _ hk
 |
  i::l,s,K,K',h,hk=>by
  simp only[gL]at hk⊢
  split at hk
  ·exact⟨hk.1,CG (λt ht=>vl h ht) hk.2⟩
  ·exact hk.elim
theorem Mc:∀ {c:bT} {s:St} {Q Q':Exit->UD},(∀e s,Q e s->Q' e s)->aw P c Q s->aw P c Q' s:=by
 have af6:∀ {Q Q':Exit->UD} {K K':UD},(∀e s,Q e s->Q' e s)->(∀s,K s->K' s)->∀e s,DH Q K e s->DH Q' K' e s:=by
  intro Q Q' K K' h hk e s he;cases e<;>first|exact hk _ he|exact h _ _ he
 intro c;induction c with
 |skip=>intro s Q Q' h hk;exact h _ _ hk
 |region l=>intro s Q Q' h hk;exact HT (h .normal) hk
 |regionD l o u=>intro s Q Q' h hk;obtain⟨W,hk⟩:=hk;exact⟨W,vl (h .normal) hk⟩
 |regionE l a p q b u=>intro s Q Q' h hk;obtain⟨W,hk⟩:=hk;exact⟨W,xD (λt ht=>⟨vl (h .normal) ht.1,vl (h .normal) ht.2⟩) hk⟩
 |seq x y ihx ihy=>intro s Q Q' h hk;exact ihx (af6 h λs hs=>ihy h hs) hk
 |
  cond c x y ihx ihy=>
  intro s Q Q' h hk
  simp only[aw]at hk⊢
  split at hk
  ·exact⟨λe=>ihx h (hk.1 e),λe=>ihy h (hk.2 e)⟩
  ·exact⟨hk.1,λe=>ihx h (hk.2.1 e),λe=>ihy h (hk.2.2 e)⟩
  ·exact hk.elim
 |
  block id x ih=>
  intro s Q Q' h hk
  simp only[aw]at hk⊢
  refine ih (λe s he=> ?_) hk
  cases e<;>simp only[QE]at he⊢<;>first|exact h _ _ he|(split at he<;>rename_i hi<;>simp only[hi,if_true,if_false]<;>exact h _ _ he)
 |
  loop x ih=>
  intro s Q Q' h hk
  obtain⟨I,c,h1,h2⟩:=hk
  exact⟨I,c,h1,λn s hs=>ih (af6 h λs hs=>hs) (h2 n s hs)⟩
 |exit id=>intro s Q Q' h hk;exact h _ _ hk
 |ret=>intro s Q Q' h hk;exact h _ _ hk
 |
  seqm x y ihx ihy=>
  intro s Q Q' h hk
  obtain⟨M,h1,h2⟩:=hk
  exact⟨M,ihx (af6 h λs hs=>hs) h1,λs hs=>ihy h (h2 s hs)⟩
end Go.Ab
namespace Go.Ab
variable [cM]
variable {P:Program} {s:St} [gQ]
theorem fm:∀(c:List Cut) {s:St} {K K':UD},(∀s,K s->K' s)->fG c s K->fG c s K'
 |[],s,K,K',h,hk=>h s hk
 |
  x::c,s,K,K',h,hk=>by
  cases x with
  |
   fz k=>
   simp only[cX,gT,fz1]at hk⊢
   split at hk
   ·exact⟨hk.1,fm c h hk.2⟩
   ·exact hk.elim
  |dr k=>simp only[cX,gT,dr1]at hk⊢;exact⟨hk.1,fm c h hk.2⟩
  |keep sl=>simp only[cX,gT]at hk⊢;exact fm c h hk
  |
   vt n k z=>
   simp only[cX,gT,vt1]at hk⊢
   split at hk
   ·exact⟨hk.1,fm c h hk.2⟩
   ·exact hk.elim
  |
   wk n=>
   simp only[cX,gT,Qn]at hk⊢
   split at hk
   ·exact fm c h hk
   ·exact hk.elim
  |
   ba n k=>
   simp only[cX,gT,ba1]at hk⊢
   split at hk
   ·exact⟨hk.1,fm c h hk.2⟩
   ·exact hk.elim
  |
   es k m=>
   simp only[cX,gT,es1]at hk⊢
   split at hk
   ·exact⟨hk.1,fm c h hk.2⟩
   ·exact hk.elim
  |
   wb n=>
   simp only[cX,gT,wb1]at hk⊢
   split at hk
   ·exact fm c h hk
   ·exact hk.elim
  |
   vb n p k z=>
   simp only[cX,gT,vb1]at hk⊢
   split at hk
   ·split at hk
    ·exact⟨hk.1,fm c h hk.2⟩
    ·exact hk.elim
   ·exact hk.elim
  |
   mv k k'=>
   simp only[cX,gT,mv1]at hk⊢
   split at hk
   ·exact⟨hk.1,fm c h hk.2⟩
   ·exact hk.elim
  |
   mt n=>
   simp only[cX,gT,mt1]at hk⊢
   split at hk
   ·split at hk
    ·exact⟨hk.1,λi j e=>fm c h (hk.2 i j e)⟩
    ·exact hk.elim
   ·exact hk.elim
theorem j5:∀(c d:List Cut) {s:St} {K:UD},fG (c++d) s K=fG c s λs'=>fG d s' K
 |[],d,s,K=>rfl
 |
  x::c,d,s,K=>by
  simp only[JdV,cX]
  congr 1;funext s'
  exact j5 c d
def HU {α:Type}:List (Nat×α)->List (Nat×α)->List (Nat×α)
 |l,[]=>l
 |l,x::r=>HU (put l x.1 x.2) r
@[simp↓] def akk {α:Type} (l:List (Nat×α)):HU l []=l:=id rfl
@[simp↓] theorem agY {α:Type} (l r:List (Nat×α)) (x:Nat×α):HU l (x::r)=HU (put l x.1 x.2) r:=id rfl
@[simp↓] theorem agZ {α:Type} (sl:Yx):j2 sl ([]:List (Nat×α))=[]:=id rfl
@[simp↓] theorem acR {α:Type} (sl:Yx) (j:Nat) (v:α) (r:List (Nat×α)):j2 sl ((j,v)::r)=if sl.contains j=true then(j,v)::j2 sl r else j2 sl r:=id rfl
@[simp↓] theorem atF {α:Type} (k:Nat):del ([]:List (Nat×α)) k=[]:=id rfl
@[simp↓] theorem akl {α:Type} (j k:Nat) (v:α) (r:List (Nat×α)):del ((j,v)::r) k=if j=k then del r k else(j,v)::del r k:=id rfl
@[simp↓] theorem akm {α:Type} (f:α->α):fX f []=[]:=id rfl
@[simp↓] theorem ag0 {α:Type} (f:α->α) (j:Nat) (v:α) (r:List (Nat×α)):fX f ((j,v)::r)=(j,f v)::fX f r:=id rfl
def jK (s:St) (ks:Yx) (E:List (Nat×PV)) (B:List (Nat×aU)):St:= {env:=HU (j2 ks s.env) E,bx:=HU s.bx B}
@[simp↓] def awl (e:List (Nat×PV)) (b:List (Nat×aU)) (ks:Yx) (E:List (Nat×PV)) (B:List (Nat×aU)):jK ⟨e,b⟩ ks E B=⟨HU (j2 ks e) E,HU b B⟩:=id rfl
theorem fa.fN {x:bT} {Q:Exit->UD} {t:Tg (x,Q)} (n:Nat) (I:Nat->Prop) (ks:Yx) (E:Nat->List (Nat×PV)) (B:Nat->List (Nat×aU)) (c0:List Cut)
  (h:fG c0 s λs0=>jK s0 ks (E 0) (B 0)=jK s0 ks [] []∧I 0∧
   (∀i,i<n->I i->∀K:UD,(∀s2,jK s2 ks [] []=jK s0 ks (E (i+1)) (B (i+1))->I (i+1)->K s2)->aw P x (DH Q λs'=>∃c:List Cut,fG c s' K) (jK s0 ks (E i) (B i)))∧
   (I n->∀K:UD,aw P x (DH Q K) (jK s0 ks (E n) (B n)))):fa P x Q t s:=by
 refine⟨λm st=>∃s0 i,i≤n∧m=n-i∧I i∧st=jK s0 ks (E i) (B i)∧
  (∀i,i<n->I i->∀K:UD,(∀s2,jK s2 ks [] []=jK s0 ks (E (i+1)) (B (i+1))->I (i+1)->K s2)->aw P x (DH Q λs'=>∃c:List Cut,fG c s' K) (jK s0 ks (E i) (B i)))∧
   (I n->∀K:UD,aw P x (DH Q K) (jK s0 ks (E n) (B n))),c0++[.keep ks],?_,?_⟩
 ·rw[j5];refine fm c0 (λs0 hs=> ?_) h;obtain⟨h1,h2,h3,h4⟩:=hs;exact⟨n,s0,0,by omega,by omega,h2,by rw[h1];rfl,h3,h4⟩
 ·rintro m st ⟨s0,i,hi,rfl,hI,rfl,h3,h4⟩;by_cases dx:i<n
  ·have af7:∀(K:UD) s',(∃c:List Cut,fG c s' λs2=>fG [.keep ks] s2 K)->∃c:List Cut,fG c s' K:=λK s' ⟨c,hc⟩=>⟨c++[.keep ks],by rw[j5];exact hc⟩
   have:=h3 i dx hI (λs2=>fG [.keep ks] s2 λs'=>∃m,m<n-i∧∃s0 i,i≤n∧m=n-i∧I i∧s'=jK s0 ks (E i) (B i)∧
    (∀i,i<n->I i->∀K:UD,(∀s2,jK s2 ks [] []=jK s0 ks (E (i+1)) (B (i+1))->I (i+1)->K s2)->aw P x (DH Q λs'=>∃c:List Cut,fG c s' K) (jK s0 ks (E i) (B i)))∧
    (I n->∀K:UD,aw P x (DH Q K) (jK s0 ks (E n) (B n))))
    (λs2 e hI'=>⟨n-(i+1),by omega,s0,i+1,by omega,rfl,hI',by rw[←e];rfl,h3,h4⟩)
   refine Mc (λe s' he=> ?_) this;cases e with
   |normal=>exact af7 _ _ he
   |_=>exact he
  ·have Al:i=n:=by omega
   subst Al;exact h4 hI _
end Go.Ab
namespace Go.Ab
variable [cM]
variable {P:Program} {s:St} [gQ]
def pO {p:PV}:Pure p↔ae (λ_=>false) p=true:=⟨λh=>h.refs _,Pure.of⟩
def oY {l:WG}:aB l↔al (λ_=>false) l=true:=⟨λh=>h.refs _,aB.of⟩
@[simp] def akn (k:IntKind) (n:Int):Pure (.int k n):=Pure.of rfl
@[simp] theorem atG (b:Bool):Pure (.bl b):=Pure.of rfl
@[simp] theorem ako (b:Zz):Pure (.str b):=Pure.of rfl
@[simp] theorem atH:Pure .un:=Pure.of rfl
@[simp] theorem atI (b:UInt8):Pure (u8 b):=Pure.of rfl
@[simp] theorem atJ (z:Nat) (l:WG) (c:Bool):Pure (.sl z l c)↔aB l:=by simp only[pO,oY,ae]
@[simp] theorem atK (z:Nat) (l:WG):Pure (.st z l)↔aB l:=by simp only[pO,oY,ae]
@[simp] theorem atL (z n:Nat) (l:WG):Pure (.ar z n l)↔aB l:=by simp only[pO,oY,ae]
@[simp] theorem akp (l:WG):Pure (.tup l)↔aB l:=by simp only[pO,oY,ae]
@[simp] theorem atM (b:Bool) (p:PV):Pure (.gd b p)↔Pure p:=by simp only[pO,ae]
@[simp] theorem atN (f:Fn) (a b:WG):Pure (.fn f a b)↔aB a∧aB b:=by simp only[pO,oY,ae,aJ]
@[simp] theorem nk:aB []:=aB.of rfl
@[simp] theorem wH (p:PV) (l:WG):aB (p::l)↔Pure p∧aB l:=by simp only[pO,oY,al,aJ]
@[simp] theorem sN (l m:WG):aB (l++m)↔aB l∧aB m:=by induction l<;>simp[*,and_assoc]
@[simp] theorem acS {l:WG} (h:aB l) (n:Nat):aB (l.take n):=h.take n
@[simp] theorem acT {l:WG} (h:aB l) (n:Nat):aB (l.drop n):=h.drop n
@[simp] theorem aL {α:Type} {e:α->PV} (h:∀x,Pure (e x)) (l:List α):aB (l.map e):=aB.map h l
@[simp] theorem A0 {p:PV} (h:Pure p) (n:Nat):aB (List.replicate n p):=aB.mk' λq hq=>by rw[(JnV.1 hq).2];exact h
@[simp] theorem ag1 {l:WG} {p:PV} (h:aB l) (hp:Pure p) (n:Nat):aB (l.set n p):=aB.mk' λq hq=>by rcases JjZ hq with h'|h';exact h.forget q h';rw[h'];exact hp
@[simp] theorem akq {p:PV} (h:Pure p) (k z:Nat) (l:WG):eG k z l p=p:=h.eG k z l
@[simp] theorem ag2 {p:WG} (h:aB p) (k z:Nat) (l:WG):fF k z l p=p:=h.eG k z l
@[simp] theorem awm (k z k' off len aD z':Nat) (l0:WG) (p:Zy) (c:iO):eG k z l0 (.rs k' p off len aD z' c)=if k'=k then(if aD=l0.length∧p=[]∧z'=z∧off+len≤l0.length then .sl z ((l0.drop off).take len) (decide (c= .clip))else .un)else .rs k' p off len aD z' c:=by simp[eG]
@[simp] theorem awn (k z k' aD:Nat) (l0:WG) (p:Zy):eG k z l0 (.pt k' p aD)=if k'=k then(if aD=l0.length then .fp z l0 p else .un)else .pt k' p aD:=by simp[eG]
@[simp] theorem ag3 (k z:Nat) (l0:WG) (p:PV) (l:WG):fF k z l0 (p::l)=eG k z l0 p::fF k z l0 l:=_root_.id rfl
@[simp] theorem LdX (k z:Nat) (l0 l m:WG):fF k z l0 (l++m)=fF k z l0 l++fF k z l0 m:=by induction l<;>simp[*]
@[simp] theorem awo (k z w:Nat) (l0 l:WG):eG k z l0 (.st w l)= .st w (fF k z l0 l):=by simp[eG]
@[simp] theorem awp (k z w:Nat) (l0 l:WG) (c:Bool):eG k z l0 (.sl w l c)= .sl w (fF k z l0 l) c:=by simp[eG]
@[simp] theorem Q0 (f:Nat->Bool) (l m:WG):al f (l++m)=(al f l&&al f m):=by induction l<;>simp[*,al,Bool.and_assoc]
@[simp] theorem akr (k z z':Nat) (l0 l:WG):wz k z l0 (.arr z' l)= .arr z' (fF k z l0 l):=id rfl
@[simp] theorem aks (k z:Nat) (l0:WG) (v:PV):wz k z l0 (.box v)= .box (eG k z l0 v):=id rfl
@[simp] theorem VT {l:WG} (h:aB l) (f:Nat->Bool):al f l=true:=h.refs f
@[simp] theorem ZC {p:PV} (h:Pure p) (f:Nat->Bool):ae f p=true:=h.refs f
@[simp] theorem ag4 (f:Nat->Bool) (k:Nat) (p:Zy) (a b c d:Nat) (e:iO):ae f (.rs k p a b c d e)=f k:=by simp[ae]
@[simp] theorem ag5 (f:Nat->Bool) (k:Nat) (p:Zy) (a:Nat):ae f (.pt k p a)=f k:=by simp[ae]
@[simp] theorem VU (f:Nat->Bool) (p:PV) (l:WG):al f (p::l)=(ae f p&&al f l):=id rfl
@[simp] theorem ZD (f:Nat->Bool):aW f []=true:=id rfl
@[simp] theorem VV (f:Nat->Bool) (n:Nat) (p:PV) (r:List (Nat×PV)):aW f ((n,p)::r)=(ae f p&&aW f r):=id rfl
@[simp] theorem acU (f:Nat->Bool):bA f []=true:=id rfl
@[simp] theorem ZE (f:Nat->Bool) (n:Nat) (p:aU) (r:List (Nat×aU)):bA f ((n,p)::r)=(af f p&&bA f r):=id rfl
@[simp] theorem ZF (f:Nat->Bool) (z:Nat) (l:WG):af f (.arr z l)=al f l:=id rfl
@[simp] theorem ZG (f:Nat->Bool) (v:PV):af f (.box v)=ae f v:=id rfl
@[simp] theorem aC4 (z:Nat) (l:WG) (c:Bool):wk (.sl z l c)= .sl z (gI l) false:=by simp[wk]
@[simp] theorem aC5 (z:Nat) (l:WG):wk (.st z l)= .st z (gI l):=by simp[wk]
@[simp] theorem aC6 (z n:Nat) (l:WG):wk (.ar z n l)= .ar z n (gI l):=by simp[wk]
@[simp] theorem awq (k:IntKind) (n:Int):wk (.int k n)= .int k n:=by simp[wk]
@[simp] theorem aC7 (b:Bool):wk (.bl b)= .bl b:=by simp[wk]
@[simp] theorem awr (b:Zz):wk (.str b)= .str b:=by simp[wk]
@[simp] theorem aC8 (k:Nat) (p:Zy) (a:Nat):wk (.pt k p a)= .pt k p a:=by simp[wk]
@[simp] theorem aC9 (k:Nat) (p:Zy) (a b c d:Nat) (e:iO):wk (.rs k p a b c d e)= .rs k p a b c d e:=by simp[wk]
@[simp] theorem aDa (b:UInt8):wk (u8 b)=u8 b:=by simp[u8]
@[simp] theorem atO:gI []=[]:=id rfl
@[simp] theorem akt (p:PV) (l:WG):gI (p::l)=wk p::gI l:=id rfl
@[simp] theorem acV (l m:WG):gI (l++m)=gI l++gI m:=by induction l<;>simp[*]
@[simp] theorem aku (l:WG) (n:Nat):gI (l.take n)=(gI l).take n:=by simp only[B5,JjX]
@[simp] theorem akv (l:WG) (n:Nat):gI (l.drop n)=(gI l).drop n:=by simp only[B5,JmQ]
@[simp] theorem sO {α:Type} {e:α->PV} (h:∀x,wk (e x)=e x) (l:List α):gI (l.map e)=l.map e:=by rw[B5,List.map_map];congr 1;funext x;exact h x
@[simp] theorem DU {p:PV} (h:wk p=p) (n:Nat):gI (List.replicate n p)=List.replicate n p:=by rw[B5,List.map_replicate,h]
def aP (P:Program) (f:FuncId) (args:WG) (v:PV):Prop:=ab P f args [] (λr fp=>r=v∧fp=[])
def uf (P:Program) (f:FuncId) (args:WG) (sz:Nat) (l:WG):Prop:=ab P f args [] (λr fp=>r= .rs KB [] 0 l.length l.length sz .tip∧fp=[.arr sz l])
theorem fE.gI {Γ:Cx}:∀ {l:WG} {vs:UE},fE Γ l vs->fE Γ (Ab.gI l) vs
 |[],[],_=>trivial
 |[],_::_,h=>by simp[fE]at h
 |_::_,[],h=>by simp[fE]at h
 |p::l,v::vs,h=>by simp only[fE,Ab.gI]at h⊢;exact⟨h.1.wk,fE.gI h.2⟩
def ab.ZH {f:FuncId} {args:WG} {fp:WD} {R:PV->WD->Prop} (h:ab P f (gI args) fp R):ab P f args fp R:=
 λΓ w vs h1 h2 h3 h4=>h Γ w vs h1 h2 h3 h4.gI
def uf.eG {f:FuncId} {args:WG} {sz:Nat} {l:WG} (h:uf P f args sz l) (hl:aB l):aP P f args (.sl sz l false):=by
 refine λΓ w vs h1 h2 h3 h4=>(h Γ w vs h1 h2 h3 h4).mono ?_;rintro e w' ⟨v,r,mW,Γ',e1,⟨rfl,rfl⟩,e3,e4,e5,e6,e7,e8⟩;have hg:get Γ'.bx KB=some (.arr sz l):=by rw[e5,eS];simp
 have hf:=JV e4 hg (hl.refs _);refine⟨v,.sl sz l false,[],{Γ' with bx:=fX (wz KB sz l) (del Γ'.bx KB)},e1,⟨rfl,rfl⟩,e3,Bi e4 _ (λj blk bY hb=>(e4.blk j blk hb).eG hf),?_,?_,?_,e8⟩
 ·rw[e5];simp[az]
 ·have:=e6.eG hf;simpa using this
 ·refine⟨e7.heap,λb hb hm=> ?_,e7.cI,e7.size,λk blk hk=> ?_⟩
  ·obtain⟨k,blk,g1,g2⟩:=hm;rw[e5]at g1;simp[az]at g1
  ·rw[h3]at hk;simp[az]at hk
def aj.ret {d:Option Nat} {f:FuncId} {args cC:WG} {v:PV} {K:UD} {t:Tg K} (hA:aP P f cC v) (ha:gI args=cC) (hp:aB args) (hv:Pure v) (h:K (s.put d v)):aj P s d f args K t:=by
 subst ha;exact Ki (R:=λr=>r=v) (ab.ZH hA) hp (by rintro r rfl;exact hv) (by rintro r rfl;exact h)
def aj.own {d:Option Nat} {f:FuncId} {args cC:WG} {sz:Nat} {l:WG} {K:UD} {t:Tg K} (o:Nat) (hA:uf P f cC sz l) (ha:gI args=cC) (hp:aB args) (hl:aB l) (ho:get s.bx o=none)
  (h:K ({s with bx:=put s.bx o (.arr sz l)}.put d (.rs o [] 0 l.length l.length sz .tip))):aj P s d f args K t:=by
 subst ha;refine Ob (R:=λl'=>l'=l) o (ab.mono (ab.ZH hA) ?_) hp ho (by rintro r rfl;exact hl) (by rintro r rfl;exact h);rintro r fp ⟨rfl,rfl⟩;exact⟨l,rfl,rfl,rfl⟩
def aK.ret {d:Option Nat} {f:FuncId} {args cC:WG} {v:PV} {K:UD} {t:Tg K} (hA:aP P f cC v) (ha:gI args=cC) (hp:aB args) (hv:Pure v) (h:K (s.put d v)):aK P s d f args K t:=by
 subst ha;exact⟨v,⟨hp.refs _,hv.refs _⟩,ab.ZH hA,h⟩
def aj.rA {d:Option Nat} {f:FuncId} {args cC:WG} {v:PV} {K:UD} {t:Tg K} (hA:aP P f cC v) (h:K (s.put d v)) (ha:gI args=cC:=by simp) (hp:aB args:=by simp) (hv:Pure v:=by simp):aj P s d f args K t:=aj.ret hA ha hp hv h
def aK.rA {d:Option Nat} {f:FuncId} {args cC:WG} {v:PV} {K:UD} {t:Tg K} (hA:aP P f cC v) (h:K (s.put d v)) (ha:gI args=cC:=by simp) (hp:aB args:=by simp) (hv:Pure v:=by simp):aK P s d f args K t:=aK.ret hA ha hp hv h
end Go.Ab
namespace Go.Ab
variable [cM]
variable {P:Program} {s:St} {K:W7} [gQ]
@[simp↓] def akw (k:IntKind) (a b:Int):kx .add K (.int k a) (.int k b)=K (.int k (k.wrap (a+b))):=by simp[kx,qj]
@[simp↓] theorem akx (k:IntKind) (a b:Int):kx .sub K (.int k a) (.int k b)=K (.int k (k.wrap (a-b))):=by simp[kx,qj]
@[simp↓] theorem aky (k:IntKind) (a b:Int):kx .mul K (.int k a) (.int k b)=K (.int k (k.wrap (a*b))):=by simp[kx,qj]
@[simp↓] theorem akz (k:IntKind) (a b:Int):kx .quo K (.int k a) (.int k b)=(b≠0∧K (.int k (k.wrap (a.tdiv b)))):=by simp[kx,qj]
@[simp↓] theorem akA (k:IntKind) (a b:Int):kx .rem K (.int k a) (.int k b)=(b≠0∧K (.int k (a.tmod b))):=by simp[kx,qj]
@[simp↓] theorem akB (k:IntKind) (a b:Int):kx .and K (.int k a) (.int k b)=K (.int k (bits .and k a b)):=by simp[kx,qj]
@[simp↓] theorem atP (k:IntKind) (a b:Int):kx .or K (.int k a) (.int k b)=K (.int k (bits .or k a b)):=by simp[kx,qj]
@[simp↓] theorem LdQ (k:IntKind) (a b:Int):kx .andNot K (.int k a) (.int k b)=K (.int k (bits .andNot k a b)):=by simp[kx,qj]
@[simp↓] theorem akC (k:IntKind) (a b:Int):kx .eql K (.int k a) (.int k b)=K (.bl (decide (a=b))):=by simp[kx,qj];rfl
@[simp↓] theorem akD (k:IntKind) (a b:Int):kx .neq K (.int k a) (.int k b)=K (.bl (decide (a≠b))):=by
 simp only[kx,qj,or_true,true_and];congr 2;by_cases h:a=b<;>simp[h]
@[simp↓] def akE (k:IntKind) (a b:Int):kx .lss K (.int k a) (.int k b)=K (.bl (decide (a<b))):=by simp[kx,qj]
@[simp↓] theorem akF (k:IntKind) (a b:Int):kx .leq K (.int k a) (.int k b)=K (.bl (decide (a≤b))):=by simp[kx,qj]
@[simp↓] theorem akG (k:IntKind) (a b:Int):kx .gtr K (.int k a) (.int k b)=K (.bl (decide (b<a))):=by simp[kx,qj]
@[simp↓] theorem akH (k:IntKind) (a b:Int):kx .geq K (.int k a) (.int k b)=K (.bl (decide (b≤a))):=by simp[kx,qj]
@[simp↓] theorem akI (k k':IntKind) (a b:Int):kx .shl K (.int k a) (.int k' b)=(0≤b∧K (.int k (k.wrap (a*2^min b.toNat k.bits)))):=by simp[kx,qj]
@[simp↓] theorem akJ (k k':IntKind) (a b:Int):kx .shr K (.int k a) (.int k' b)=(0≤b∧K (.int k (a.fdiv (2^min b.toNat k.bits)))):=by simp[kx,qj]
@[simp↓] theorem akK (op:BinOp) (a b:Zz):kx op K (.str a) (.str b)=yE op a b K:=id rfl
@[simp↓] theorem akL (a b:Zz):yE .add a b K=(a.length+b.length≤9223372036854775807∧K (.str (a++b))):=id rfl
@[simp↓] theorem akM (a b:Zz):yE .eql a b K=K (.bl (decide (a=b))):=by
 simp only[yE];congr 2;by_cases h:a=b<;>simp[h]
@[simp↓] def akN (a b:Zz):yE .neq a b K=K (.bl (decide (a≠b))):=by
 simp only[yE];congr 2;by_cases h:a=b<;>simp[h]
@[simp↓] def akO (a b:Zz):yE .lss a b K=K (.bl (Op.bytesLess a b)):=id rfl
@[simp↓] theorem akP (b:Bool):su .eql b K=K (.bl b):=id rfl
@[simp↓] theorem akQ (b:Bool):su .neq b K=K (.bl (!b)):=id rfl
@[simp↓] theorem atQ (op:BinOp) (a b:Bool):ajJ op K (.bl a) (.bl b)=su op (a==b) K:=id rfl
@[simp↓] theorem atS (b:Bool):unK .not K (.bl b)=K (.bl (!b)):=id rfl
@[simp↓] theorem atT (k:IntKind) (n:Int):unK .xor K (.int k n)=K (.int k (bits .xor k (if k.signed then-1 else k.max) n)):=id rfl
@[simp↓] theorem atU (sz:Nat) (K:WG->Prop) (q:PV):VE s sz K q=AY s (λbu ys=>(ys=[]∨bu=sz)∧K ys) q:=id rfl
@[simp↓] theorem acW (d k len aD n sz bu bytes sz'':Nat) (ys l:WG) (K:UD):QV s d k len aD n sz bu bytes ys K (.arr sz'' l)=((aD=l.length∧bu=sz∧sz''=sz∧len≤n∧n≤l.length∧ys≠[]∧get s.bx d=none∧(len+ys.length)*bytes≤140737488355328∧len+ys.length≤9223372036854775807)∧
    (len+ys.length≤n->K {env:=put s.env d (.rs k [] 0 (len+ys.length) aD sz (.full n)),bx:=put s.bx k (.arr sz (l.take len++ys++l.drop (len+ys.length)))})∧
    (n<len+ys.length->K {env:=put s.env d (.rs d [] 0 (len+ys.length) (len+ys.length) sz .tip),bx:=put s.bx d (.arr sz (l.take len++ys))})):=_root_.id rfl
@[simp↓] def atV (d k len aD n sz bu bytes sz'':Nat) (z:PV) (m:Int) (l:WG) (K:UD):apZ s d k len aD n sz bu bytes z m K (.arr sz'' l)=((get s.bx d=none∧aD=l.length∧bu=sz∧sz''=sz∧len≤n∧n≤l.length∧0<m∧n<len+m.toNat∧(len+m.toNat)*bytes≤140737488355328∧len+m.toNat≤9223372036854775807)∧
    K {env:=put s.env d (.rs d [] 0 (len+m.toNat) (len+m.toNat) sz .tip),bx:=put s.bx d (.arr sz (l.take len++List.replicate m.toNat z))}):=_root_.id rfl
@[simp↓] theorem ag6 (d k len aD sz bu bytes sz'':Nat) (ys l:WG) (K:UD):Zw s d k len aD sz bu bytes ys K (.arr sz'' l)=((aD=l.length∧len=l.length∧bu=sz∧sz''=sz∧(l.length+ys.length)*bytes≤140737488355328∧l.length+ys.length≤9223372036854775807)∧
   K {env:=put s.env d (.rs k [] 0 (l.length+ys.length) (l.length+ys.length) sz .tip),bx:=put s.bx k (.arr sz (l++ys))}):=rfl
def VW (off len aD sz:Nat) (p:Zy) (K:Nat->WG->Prop):aU->Prop
 | .arr bu l=>(aD=l.length∧p=[]∧sz=bu∧off+len≤l.length)∧K sz ((l.drop off).take len)
 | .box v=>cg (aO v p) λ
   | .ar bu n l=>(aD=0∧sz=bu∧off+len≤n)∧K sz ((l.drop off).take len)
   |_=>False
 | .map .. =>False
@[simp↓] def atW (K:Nat->WG->Prop) (k off len aD sz:Nat) (p:Zy) (c:iO):AY s K (.rs k p off len aD sz c)=cg (get s.bx k) (VW off len aD sz p K):=by
 simp only[AY];congr 1
@[simp↓] def akR (off len aD sz bu:Nat) (l:WG) (p:Zy) (K:Nat->WG->Prop):VW off len aD sz p K (.arr bu l)=((aD=l.length∧p=[]∧sz=bu∧off+len≤l.length)∧K sz ((l.drop off).take len)):=id rfl
def akS (off len aD sz:Nat) (K:Nat->WG->Prop):W7
 | .ar bu n l=>(aD=0∧sz=bu∧off+len≤n)∧K sz ((l.drop off).take len)
 |_=>False
@[simp↓] def akT (off len aD sz:Nat) (v:PV) (p:Zy) (K:Nat->WG->Prop):VW off len aD sz p K (.box v)=cg (aO v p) (akS off len aD sz K):=by
 simp only[VW];congr 1
@[simp↓] def atX (off len aD sz bu n:Nat) (l:WG) (K:Nat->WG->Prop):akS off len aD sz K (.ar bu n l)=((aD=0∧sz=bu∧off+len≤n)∧K sz ((l.drop off).take len)):=id rfl
@[simp↓] theorem atY (g:Bool) (sz z:Nat) (lo hi:Option AX) (l:WG) (c:Bool):VC s g sz lo hi K (.sl z l c)=jX g s lo hi l.length l.length (λa b=>(z=sz)∧K (.sl sz ((l.take b).drop a) (c&&decide (b=l.length)))):=id rfl
@[simp↓] theorem atZ (g:Bool) (sz z k off len aD:Nat) (p:Zy) (c:iO) (lo hi:Option AX):VC s g sz lo hi K (.rs k p off len aD z c)=cg (get s.bx k) λblk=>(aD=blk.aD∧z=sz)∧jX g s lo hi len (BU c off len aD) λa b=>K (.rs k p (off+a) (b-a) aD sz (Fv c a (decide (b=len)))):=_root_.id rfl
@[simp↓] theorem at0 (g:Bool) (sz z:Nat) (lo hi:Option AX) (m:AX) (l:WG) (c:Bool):QP s g sz lo hi m K (.sl z l c)=eT g (vx s m) (ue λm=>(0≤m∧m≤l.length)∧jX g s lo hi l.length m.toNat λa b=>(z=sz)∧K (.sl sz ((l.take b).drop a) (decide (b=m.toNat)))):=id rfl
def acX (e:Bool):iO:=bif e then .clip else .any
@[simp] def aws:acX true= .clip:=id rfl
@[simp↓] theorem at1 (g:Bool) (sz z k off len aD:Nat) (p:Zy) (c:iO) (lo hi:Option AX) (m:AX):QP s g sz lo hi m K (.rs k p off len aD z c)=cg (get s.bx k) λblk=>(aD=blk.aD∧z=sz)∧eT g (vx s m) (ue λm=>(0≤m∧m≤len)∧jX g s lo hi len m.toNat λa b=>K (.rs k p (off+a) (b-a) aD sz (acX (decide (b=m.toNat))))):=by
 simp only[QP];congr 1;funext blk;congr 2;congr 1;funext m;congr 2;funext a b;by_cases h:b=m.toNat<;>simp[h,acX]
@[simp↓] def awt (g:Bool) (K:Nat->Nat->Prop) (h:Nat):N7 g s none K h=K 0 h:=id rfl
@[simp↓] theorem awu (g:Bool) (x:AX) (K:Nat->Nat->Prop) (h:Nat):N7 g s (some x) K h=eT g (vx s x) (ue λl=>(0≤l∧l≤h)∧K l.toNat h):=id rfl
def mmC (mx:Bool) (K:W7):WG->Prop
 | .int k a::r=>lX mx a r λn=>K (.int k n)
 |_=>False
@[simp↓] def at2 (mx:Bool) (k:IntKind) (a:Int) (r:WG):mmC mx K (.int k a::r)=lX mx a r λn=>K (.int k n):=id rfl
@[simp↓] theorem aGd (g mx:Bool) (xs:ZP):ev g s (.mm mx xs) K=wh g s xs (mmC mx K):=by
 simp only[ev];congr 1
@[simp↓] def ag7 (mx:Bool) (a:Int) (K:Int->Prop):lX mx a [] K=K a:=id rfl
@[simp↓] theorem ag8 (a b:Int) (k:IntKind) (r:WG) (K:Int->Prop):lX true a (.int k b::r) K=lX true (max a b) r K:=by simp[lX]
@[simp↓] theorem ag9 (a b:Int) (k:IntKind) (r:WG) (K:Int->Prop):lX false a (.int k b::r) K=lX false (min a b) r K:=by simp[lX]
def acY (s:St) (K:W7):W7
 | .rs k _ _ _ aD _ (.full n)=>cg (get s.bx k) λblk=>aD=blk.aD∧K (.int .i64 n)
 |_=>False
@[simp↓] def aha (k:Nat) (p:Zy) (off len aD sz n:Nat):acY s K (.rs k p off len aD sz (.full n))=cg (get s.bx k) λblk=>aD=blk.aD∧K (.int .i64 n):=_root_.id rfl
@[simp↓] theorem aDc (g:Bool) (x:AX):ev g s (.cap x) K=eT g (vx s x) (acY s K):=by
 simp only[ev,jg];congr 1;funext p;cases p<;>try rfl
 rename_i k p off len aD sz c;cases c<;>try rfl
 simp only[acY];cases get s.bx k<;>rfl
@[simp↓] def akU (g:Bool) (f:Fn) (a b:ZP):ev g s (.mkFunc f a b) K=wh g s a λps=>wh g s b λqs=>(ps.all (λp=> !p.isAgg&&p.aV)=true∧qs.all (λp=> !p.isAgg&&p.aV)=true)∧K (.fn f ps qs):=by simp only[ev]
@[simp] theorem ge0 {α:Type} (x:α) (l:List α):(x::l)[0]? =some x:=_root_.id rfl
@[simp↓] theorem awv (want:Bool) (M:Bool->Prop) (D U:Prop) (b:Bool):AZ want true M D U (.bl b)=M (b==want):=id rfl
@[simp↓] theorem aww (M:Bool->Prop) (D U:Prop):AZ true false M D U (.bl true)=D:=by simp[AZ]
@[simp↓] theorem awx (M:Bool->Prop) (D U:Prop):AZ true false M D U (.bl false)=U:=by simp[AZ]
@[simp↓] theorem awy (M:Bool->Prop) (D U:Prop):AZ false false M D U (.bl true)=U:=by simp[AZ]
@[simp↓] theorem awz (M:Bool->Prop) (D U:Prop):AZ false false M D U (.bl false)=D:=by simp[AZ]
@[simp↓] theorem aDd (A B:Prop):cdK A B (.bl true)=A:=by simp
@[simp↓] theorem aDe (A B:Prop):cdK A B (.bl false)=B:=by simp
@[simp↓500] theorem awB (want:Bool) (M:Bool->Prop) (D U:Prop) (b:Bool):AZ want false M D U (.bl b)=((b=want->D)∧(b≠want->U)):=id rfl
@[simp↓] theorem awC (want:Bool) (M:Bool->Prop) (D U:Prop) (g b:Bool):AZ want true M D U (.gd g (.bl b))=M (g&&b==want):=id rfl
@[simp↓] theorem at3 (M:Bool->Prop) (D U:Prop):AZ true false M D U (.gd true (.bl true))=D:=by simp[AZ]
@[simp↓] theorem at4 (M:Bool->Prop) (D U:Prop):AZ true false M D U (.gd true (.bl false))=U:=by simp[AZ]
@[simp↓] theorem at5 (M:Bool->Prop) (D U:Prop):AZ false false M D U (.gd true (.bl true))=U:=by simp[AZ]
@[simp↓] theorem at6 (M:Bool->Prop) (D U:Prop):AZ false false M D U (.gd true (.bl false))=D:=by simp[AZ]
@[simp↓] theorem awD (w:Bool) (M:Bool->Prop) (D U:Prop) (b:Bool):AZ w false M D U (.gd false (.bl b))=U:=by simp[AZ]
@[simp↓] theorem akV (x a b:Bool):xF x K (.bl a) (.bl b)=K (.bl (bif x then a else b)):=id rfl
@[simp↓] theorem akW (x a g b:Bool):xF x K (.bl a) (.gd g (.bl b))=((x=false->g=true)∧K (.bl (bif x then a else b))):=id rfl
@[simp↓] theorem akX (x a g b:Bool):xF x K (.gd g (.bl a)) (.bl b)=((x=true->g=true)∧K (.bl (bif x then a else b))):=id rfl
@[simp↓] theorem akY (x a:Bool):xF x K (.bl a) .un=(x=true∧K (.bl a)):=id rfl
@[simp↓] theorem akZ (x a:Bool):xF x K .un (.bl a)=(x=false∧K (.bl a)):=id rfl
@[simp] theorem wrap_i64 {n:Int} (h: -9223372036854775808≤n∧n≤9223372036854775807):IntKind.i64.wrap n=n:=by
 simp only[IntKind.wrap,IntKind.bits,IntKind.signed];simp;omega
@[simp] def wrap_u8 {n:Int} (h:0≤n∧n≤255):IntKind.u8.wrap n=n:=by
 simp only[IntKind.wrap,IntKind.bits,IntKind.signed];simp;omega
@[simp] def wrap_u32 {n:Int} (h:0≤n∧n≤4294967295):IntKind.u32.wrap n=n:=by
 simp only[IntKind.wrap,IntKind.bits,IntKind.signed];simp;omega
@[simp] def wrap_u64 {n:Int} (h:0≤n∧n≤18446744073709551615):IntKind.u64.wrap n=n:=by
 simp only[IntKind.wrap,IntKind.bits,IntKind.signed];simp;omega
theorem ug (b:Zz):gH (b.map u8)=some b:=by
 induction b with
 |nil=>rfl
 |
  cons x b ih=>
  have h:(x.toNat:Int)<256:=by have:=x.toNat_lt;omega
  simp[u8,gH,ih];omega
@[simp] def VX (b:Zz):gH (b.map u8)=some b:=ug b
@[simp↓] theorem ahb (sz j s:Nat) (l:WG) (r:Zy):lW (.arr sz l) (.i j s::r)=if s=sz then l[j]?.bind λc=>aO c r else none:=by
 first|(simp only[lW];cases l[j]? <;>rfl)|(simp only[aO];cases l[j]? <;>rfl)
@[simp↓] def ahc (sz o n s:Nat) (l:WG) (r:Zy):lW (.arr sz l) (.w o n s::r)=if s=sz∧o+n≤l.length then aO (.ar sz n ((l.drop o).take n)) r else none:=_root_.id rfl
@[simp↓] theorem ahd (v:PV) (p:Zy):lW (.box v) p=aO v p:=by cases p<;>rfl
@[simp↓] theorem ak0 (v:PV):aO v []=some v:=by cases v<;>rfl
@[simp↓] theorem awE (w i o:Nat) (l:WG) (r:Zy):aO (.st w l) (.f i o::r)=if au (l.take i)=o then l[i]?.bind λc=>aO c r else none:=by
 simp only[aO];cases l[i]? <;>rfl
@[simp↓] def awF (sz n j s:Nat) (l:WG) (r:Zy):aO (.ar sz n l) (.i j s::r)=if s=sz then l[j]?.bind λc=>aO c r else none:=by
 first|(simp only[lW];cases l[j]? <;>rfl)|(simp only[aO];cases l[j]? <;>rfl)
@[simp↓] def ak1 (v x:PV):cu v [] x=if x.width=v.width then some x else none:=by cases v<;>rfl
@[simp↓] theorem awG (w i o:Nat) (l:WG) (r:Zy) (x:PV):cu (.st w l) (.f i o::r) x=if au (l.take i)=o then l[i]?.bind λc=>(cu c r x).bind λc'=>some (.st w (l.set i c'))else none:=by
 simp only[cu];cases l[i]?with
 |none=>rfl
 |some c=>simp only[JkJ];cases cu c r x<;>rfl
@[simp↓] theorem awH (sz n j s:Nat) (l:WG) (r:Zy) (x:PV):cu (.ar sz n l) (.i j s::r) x=if s=sz then l[j]?.bind λc=>(cu c r x).bind λc'=>some (.ar sz n (l.set j c'))else none:=by
 simp only[cu];cases l[j]?with
 |none=>rfl
 |some c=>simp only[JkJ];cases cu c r x<;>rfl
@[simp↓] def ahe (v x:PV) (p:Zy):rz (.box v) p x=(cu v p x).bind λv'=>some (.box v'):=by
 simp only[rz];cases cu v p x<;>rfl
@[simp↓] theorem ahf (sz j s:Nat) (l:WG) (r:Zy) (x:PV):rz (.arr sz l) (.i j s::r) x=if s=sz then l[j]?.bind λc=>(cu c r x).bind λc'=>some (.arr sz (l.set j c'))else none:=by
 simp only[rz];cases l[j]?with
 |none=>rfl
 |some c=>simp only[JkJ];cases cu c r x<;>rfl
@[simp] def at7 (z:Nat) (l:WG) (v:PV):Zp (.arr z l) v=wk v:=id rfl
@[simp] theorem aua (u v:PV):Zp (.box u) v=v:=id rfl
@[simp] theorem ZJ (z:Nat) (l:WG):(aU.arr z l).aD=l.length:=id rfl
@[simp] theorem ZK (v:PV):(aU.box v).aD=0:=id rfl
@[simp↓] theorem VY (l:WG):cD l []=some l:=id rfl
@[simp↓] theorem Us (l:WG) (i:Nat) (p:PV) (r:List (Nat×PV)):cD l ((i,p)::r)=l[i]?.bind λq=>if p.width=q.width∧p.aV=true then cD (l.set i p) r else none:=by
 simp only[cD];cases l[i]? <;>rfl
@[simp] def aGe (w:Nat) (l:WG):(PV.st w l).width=w:=id rfl
@[simp] theorem aGf (sz n:Nat) (l:WG):(PV.ar sz n l).width=n*sz:=id rfl
@[simp] theorem aDf (k:IntKind) (n:Int):(PV.int k n).width=1:=id rfl
@[simp] theorem aGg (b:Bool):(PV.bl b).width=1:=id rfl
@[simp] theorem aDg (b:Zz):(PV.str b).width=1:=id rfl
@[simp] theorem aGh (z:Nat) (l:WG) (c:Bool):(PV.sl z l c).width=1:=id rfl
@[simp] theorem aGi (k:Nat) (p:Zy) (a b c d:Nat) (e:iO):(PV.rs k p a b c d e).width=1:=id rfl
@[simp] theorem aGj (b:UInt8):(u8 b).width=1:=id rfl
@[simp] theorem acZ:au []=0:=id rfl
@[simp] theorem ZL (p:PV) (l:WG):au (p::l)=p.width+au l:=id rfl
@[simp] theorem awI (w:Nat) (l:WG):(PV.st w l).isAgg=true:=id rfl
@[simp] theorem awJ (sz n:Nat) (l:WG):(PV.ar sz n l).isAgg=true:=id rfl
@[simp] theorem aub (k:IntKind) (n:Int):(PV.int k n).isAgg=false:=id rfl
@[simp] theorem awK (b:Bool):(PV.bl b).isAgg=false:=id rfl
@[simp] theorem awM (z:Nat) (l:WG) (c:Bool):(PV.sl z l c).isAgg=false:=id rfl
@[simp] theorem awN (k:Nat) (p:Zy) (a b c d:Nat) (e:iO):(PV.rs k p a b c d e).isAgg=false:=id rfl
@[simp] theorem awO (k:Nat) (p:Zy) (a:Nat):(PV.pt k p a).isAgg=false:=id rfl
@[simp] theorem awP (b:UInt8):(u8 b).isAgg=false:=id rfl
@[simp] theorem awQ (w:Nat) (l:WG):(PV.st w l).aV=true:=id rfl
@[simp] theorem awR (sz n:Nat) (l:WG):(PV.ar sz n l).aV=true:=id rfl
@[simp] theorem auc (k:IntKind) (n:Int):(PV.int k n).aV=true:=id rfl
@[simp] theorem awS (b:Bool):(PV.bl b).aV=true:=id rfl
@[simp] theorem aud (b:Zz):(PV.str b).aV=true:=id rfl
@[simp] theorem awT (z:Nat) (l:WG) (c:Bool):(PV.sl z l c).aV=true:=id rfl
@[simp] theorem awU (k:Nat) (p:Zy) (a b c d:Nat) (e:iO):(PV.rs k p a b c d e).aV=true:=id rfl
@[simp] theorem awV (k:Nat) (p:Zy) (a:Nat):(PV.pt k p a).aV=true:=id rfl
@[simp] theorem awW (f:Fn) (a b:WG):(PV.fn f a b).aV=true:=id rfl
@[simp] theorem awX (f:Fn) (a b:WG):(PV.fn f a b).isAgg=false:=id rfl
@[simp] theorem aue (w:Nat) (l:WG):(PV.st w l).flat=true:=id rfl
@[simp] theorem auf (sz n:Nat) (l:WG):(PV.ar sz n l).flat=true:=id rfl
@[simp] theorem ak2 (k:IntKind) (n:Int):(PV.int k n).flat=true:=id rfl
@[simp] theorem aug (b:Bool):(PV.bl b).flat=true:=id rfl
@[simp] theorem ak3 (b:Zz):(PV.str b).flat=true:=id rfl
@[simp] theorem auh (z:Nat) (l:WG) (c:Bool):(PV.sl z l c).flat=true:=id rfl
@[simp] theorem aui (k:Nat) (p:Zy) (a b c d:Nat) (e:iO):(PV.rs k p a b c d e).flat=true:=id rfl
@[simp] theorem auj (k:Nat) (p:Zy) (a:Nat):(PV.pt k p a).flat=true:=id rfl
end Go.Ab
namespace Go.Ab
variable [cM]
variable {P:Program} {s:St} [gQ]
theorem bj.with {n:Nat} {res:ZB} {R:PV->WD->Prop} {t:Tg R} (c:List Cut) (ks:Yx)
  (h:fG c s λs'=>G6 s' res λps=>cg (getAll s'.bx ks) λbf=>(ks.Nodup∧ks.take n=dE n)∧(ps.all PV.flat=true∧ae (cW ks) (dN ps)=true∧bf.all (af (cW ks))=true)∧R (aI (bV ks) (dN ps)) (bf.map (aG (bV ks)))):bj n res R t s:=by
 refine⟨c,ks,fm c (λs' Dv=> ?_) h⟩
 have af5:∀(l:ZB) (s:St) (K K':WG->Prop),(∀p,K p->K' p)->G6 s l K->G6 s l K':=by
  intro l;induction l with
  |nil=>intro s K K' h hk;exact h _ hk
  |cons x l ih=>intro s K K' h hk;exact Bk (λp hp=>ih _ _ _ (λq hq=>h _ hq) hp) hk
 refine af5 _ _ _ _ (λps xh=> ?_) Dv;cases hg:getAll s'.bx ks with
 |none=>rw[hg]at xh;exact xh.elim
 |some bf=>rw[hg]at xh;exact⟨bf,⟨rfl,xh.1.1,xh.1.2⟩,xh.2.1,xh.2.2⟩
@[simp] def ZM (bx:List (Nat×aU)) (k:Nat) (r:Yx):getAll bx (k::r)=(get bx k).bind λb=>(getAll bx r).bind λl=>some (b::l):=by
 simp only[getAll];cases get bx k<;>cases getAll bx r<;>rfl
@[simp] def ak4 {p:PV} (h:Pure p) (ρ:Nat->Nat):aI ρ p=p:=h.aI ρ
@[simp] theorem ahg {p:WG} (h:aB p) (ρ:Nat->Nat):bw ρ p=p:=h.aI ρ
@[simp] theorem awY (ρ:Nat->Nat) (k:Nat) (p:Zy) (a b c d:Nat) (e:iO):aI ρ (.rs k p a b c d e)= .rs (ρ k) p a b c d e:=by simp[aI]
@[simp] theorem awZ (ρ:Nat->Nat) (k:Nat) (p:Zy) (a:Nat):aI ρ (.pt k p a)= .pt (ρ k) p a:=by simp[aI]
@[simp] theorem auk (ρ:Nat->Nat) (l:WG):aI ρ (.tup l)= .tup (bw ρ l):=by simp[aI]
@[simp] theorem aw0 (ρ:Nat->Nat) (w:Nat) (l:WG):aI ρ (.st w l)= .st w (bw ρ l):=by simp[aI]
@[simp] theorem ahh (ρ:Nat->Nat) (p:PV) (l:WG):bw ρ (p::l)=aI ρ p::bw ρ l:=id rfl
@[simp] theorem ak5 (ρ:Nat->Nat) (z:Nat) (l:WG):aG ρ (.arr z l)= .arr z (bw ρ l):=id rfl
@[simp] theorem ak6 (ρ:Nat->Nat) (v:PV):aG ρ (.box v)= .box (aI ρ v):=id rfl
@[simp] theorem ahi (k:Nat) (ks:Yx) (j:Nat):bV (k::ks) j=((idx (k::ks) j).map (KB+·)).getD j:=by
 simp only[bV];cases idx (k::ks) j<;>rfl
@[simp] def ak7 (x:Nat) (r:Yx) (k:Nat):idx (x::r) k=if x=k then some 0 else(idx r k).map (·+1):=by
 simp only[idx];cases idx r k<;>rfl
@[simp] def aul (ks:Yx) (k:Nat):cW ks k=(idx ks k).isSome:=id rfl
@[simp] theorem ac0 (f:Nat->Bool) (l:WG):ae f (.tup l)=al f l:=by simp[ae]
@[simp] theorem ahj (f:Nat->Bool) (w:Nat) (l:WG):ae f (.st w l)=al f l:=by simp[ae]
@[simp] theorem VZ {α β:Type} (f:α->β) (l:List α):(l.map f).take l.length=l.map f:=tJ (by simp)
@[simp] theorem Ut {α β:Type} (f:α->β) (l:List α) (x:β):(l.map f++[x]).take (l.length+1)=l.map f++[x]:=tJ (by simp)
@[simp] theorem aum {p:PV} (h:Pure p) (n:Nat):aB (zr n p):=by rw[dh];exact A0 h n
@[simp] theorem aDh {p:PV} (h:wk p=p) (n:Nat):gI (zr n p)=zr n p:=by rw[dh];exact DU h n
theorem Od (b:Zz):aB (b.map u8):=by simp
@[simp] def ac1 (b:Zz):aB (b.map u8)↔True:=iff_true_intro (Od b)
end Go.Ab
namespace Go.Ab
variable [cM]
variable {P:Program} {s:St} [gQ]
def oG (P:Program) (l:UN) (o u:Yx) (K:UD) (_:Tg K) (s:St):Prop:=∃W,gL P l u.contains W s o K
@[simp↓] def ac2 (l:UN) (o u:Yx) (Q:Exit->UD):aw P (.regionD l o u) Q s=oG P l o u (Q .normal) .mk s:=_root_.id rfl
def j6 (s:St):List (AO×Bool)->Bool
 |[]=>true
 |(x,_)::r=>(match x.eA with|some k=>(get s.bx k).isNone|none=>true)&&j6 s r
def Q1 (P:Program) (W:Yx) (s:St):List (AO×Bool)->(UD)->Prop
 |[],K=>K s
 |(x,f)::r,K=>j6 s ((x,f)::r)=true∧ig P W f s x λt=>Q1 P W t r K
def pP (l:UN) (u:Yx):Yx->Option (List (AO×Bool))
 |[]=>some []
 |i::r=>match l[i]?,pP l u r with|some x,some m=>some ((x,u.contains i)::m)|_,_=>none
theorem xG {l:UN} {u:Yx}:∀ {o:Yx} {m:List (AO×Bool)},pP l u o=some m->j6 s m=dX l s o
 |[],m,hm=>by simp[pP]at hm;subst hm;rfl
 |
  i::r,m,hm=>by
  simp only[pP]at hm
  split at hm
  ·rename_i x m' hx vE
   simp only[sJ]at hm;subst hm
   rw[bX]
   simp only[j6,xG vE]
   congr 1
   simp only[dX,JgX,List.all_nil,Bool.and_true,hx]
   cases x.eA<;>rfl
  ·simp at hm
theorem Bp {l:UN} {u:Yx} {W:Yx}:∀ {o:Yx} {m:List (AO×Bool)} {s:St} {K:UD},pP l u o=some m->Q1 P W s m K->gL P l u.contains W s o K
 |[],m,s,K,hm,h=>by simp[pP]at hm;subst hm;exact h
 |
  i::r,m,s,K,hm,h=>by
  simp only[pP]at hm
  split at hm
  ·rename_i x m' hx vE
   simp only[sJ]at hm;subst hm
   have hf:j6 s ((x,u.contains i)::m')=dX l s (i::r):=xG (u:=u) (by simp only[pP,hx,vE])
   simp only[gL,hx,Q1]at h⊢
   exact⟨hf▸h.1,CG (λt ht=>Bp vE ht) h.2⟩
  ·simp at hm
def oG.of {l:UN} {o u:Yx} {K:UD} {t:Tg K} (W:Yx) (m:List (AO×Bool)) (hm:pP l u o=some m) (h:Q1 P W s m K):oG P l o u K t s:=⟨W,Bp hm h⟩
def F3:Option aU->Bool
 |some (.box _)=>true
 |_=>false
@[simp] def ak8 (v:PV):F3 (some (.box v))=true:=_root_.id rfl
@[simp] theorem ak9 (sz:Nat) (l:WG):F3 (some (.arr sz l))=false:=_root_.id rfl
def V2 (W:Yx) (c:List (Nat×aU)):List (Nat×aU)->Prop
 |[]=>True
 |(k,b)::r=>(if FX W=true then get c k=some b∨W.contains k=true∧F3 (some b)=true∧F3 (get c k)=true else W.contains k=true∨get c k=some b)∧V2 W c r
theorem Q2 {W:Yx} {t:St}:∀ {l:List (Nat×aU)} {e:List (Nat×PV)},V2 W t.bx l->Fr W ⟨e,l⟩ t
 |[],e,_=>λk b _ h=>by simp[get]at h
 |
  (n,v)::r,e,h=>λk b hw hb=>by
  simp only[get]at hb
  split at hb
  ·rename_i hk;subst hk
   simp only[sJ]at hb;subst hb
   have h1:=h.1
   split at h1
   ·rename_i hm
    rcases h1 with h1|⟨h1,h2,h3⟩
    ·exact⟨_,h1,rfl⟩
    ·cases v with
     |
      box x=>
      cases hg:get t.bx n with
      |none=>rw[hg]at h3;simp[F3]at h3
      |
       some c=>
       rw[hg]at h3
       cases c with
       |box y=>exact⟨_,rfl,by simp only[vF,h1,hm,and_self,if_true]⟩
       |_=>simp[F3]at h3
     |_=>simp[F3]at h2
   ·rename_i hm
    rcases h1 with h1|h1
    ·rw[h1]at hw;simp at hw;exact absurd hw hm
    ·exact⟨_,h1,rfl⟩
  ·exact Q2 (e:=e) h.2 k b hw hb
def vG (P:Program) (W:Yx) (s:St):List (AO×Bool)->(UD)->Prop
 |[],K=>K s
 |(x,f)::r,K=>if x.quiet=true then(if f=true then fA P (s.less W) x (λt=>vG P W {t with bx:=s.bx} r K)else fA P s x (λt=>vG P W t r K))
   else j6 s ((x,f)::r)=true∧fA P s x (λt=>(f=true->V2 W t.bx s.bx)∧vG P W t r K)
theorem uh {s s':St} (h:s'.bx=s.bx):∀m:List (AO×Bool),j6 s' m=j6 s m
 |[]=>rfl
 |(x,f)::r=>by simp only[j6,uh h r,h]
theorem y0 {W:Yx}:∀ {m:List (AO×Bool)} {s:St} {K:UD},vG P W s m K->j6 s m=true
 |[],s,K,h=>rfl
 |
  (x,f)::r,s,K,h=>by
  simp only[vG]at h
  split at h
  ·rename_i hq
   simp only[j6,eB hq,JhW]
   split at h
   ·obtain⟨v,h1,_⟩:=ve hq h
    have:=y0 h1
    exact(uh (s:=s) (s':= {env:=((s.less W).put x.dst v).env,bx:=s.bx}) rfl r).symm.trans this
   ·obtain⟨v,h1,_⟩:=ve hq h
    have:=y0 h1
    rwa [uh (iF _ _)]at this
  ·exact h.1
theorem oZ {W:Yx}:∀ {m:List (AO×Bool)} {s:St} {K:UD},vG P W s m K->Q1 P W s m K
 |[],s,K,h=>h
 |
  (x,f)::r,s,K,h=>by
  refine⟨y0 h,?_⟩
  simp only[vG,ig]at h⊢
  split at h
  ·rename_i hq
   rw[if_pos hq]
   split at h
   ·rename_i hf;rw[if_pos hf];exact cr (λt ht=>oZ ht) h
   ·rename_i hf;rw[if_neg hf];exact cr (λt ht=>oZ ht) h
  ·rename_i hq
   rw[if_neg hq]
   exact cr (λt ht=>⟨λe=>Q2 (e:=s.env) (ht.1 e),oZ ht.2⟩) h.2
@[simp] def ala (W:Yx) (k:Nat) (v:PV):vF W k (.box v)=if FX W=true∧W.contains k=true then HC else .box v:=_root_.id rfl
@[simp] theorem alb (W:Yx) (k sz:Nat) (l:WG):vF W k (.arr sz l)= .arr sz l:=_root_.id rfl
@[simp] theorem aDi:FX []=false:=_root_.id rfl
@[simp] theorem aDj (a:Nat):FX [a]=false:=_root_.id rfl
@[simp] theorem aDk (a b:Nat) (r:Yx):FX (a::b::r)=(a==b):=_root_.id rfl
@[simp] theorem aun:HC.aD=0:=_root_.id rfl
theorem V3 {W:Yx} (h:FX W=false) (k:Nat) (b:aU):vF W k b=b:=by cases b<;>simp[vF,h]
def Ax (W:Yx) (b:List (Nat×aU)):List (Nat×aU):=(b.filter λp=>FX W|| !W.contains p.1).map λp=>(p.1,vF W p.1 p.2)
@[simp] def ahk (W:Yx):Ax W []=[]:=_root_.id rfl
@[simp] theorem ac3 (W:Yx) (k:Nat) (v:aU) (r:List (Nat×aU)):Ax W ((k,v)::r)=if FX W=true then(k,vF W k v)::Ax W r else if W.contains k=true then Ax W r else(k,v)::Ax W r:=by
 unfold Ax;rw[JoW];cases hm:FX W
 ·cases W.contains k<;>simp[V3 hm]
 ·simp
@[simp] def alc (d:Option Nat) (gd:Option (Nat×Bool)) (mg:Bool) (a:AX):AO.quiet ⟨d,gd,mg,.mv a⟩=true:=_root_.id rfl
@[simp] theorem auo (d:Option Nat) (gd:Option (Nat×Bool)) (mg:Bool) (a:AX):AO.eA ⟨d,gd,mg,.mv a⟩=none:=by simp[AO.eA]
@[simp] theorem ZN (d:Option Nat) (gd:Option (Nat×Bool)) (mg:Bool) (z:PV) (ps:List (Nat×AX)):AO.quiet ⟨d,gd,mg,.build z ps⟩=true:=_root_.id rfl
@[simp] theorem ac4 (d:Option Nat) (gd:Option (Nat×Bool)) (mg:Bool) (z:PV) (ps:List (Nat×AX)):AO.eA ⟨d,gd,mg,.build z ps⟩=none:=by simp[AO.eA]
@[simp] theorem ac5 (d:Option Nat) (gd:Option (Nat×Bool)) (mg:Bool) (g:Bool) (m:Nat) (a:AX):AO.quiet ⟨d,gd,mg,.load g m a⟩=true:=_root_.id rfl
@[simp] theorem ahl (d:Option Nat) (gd:Option (Nat×Bool)) (mg:Bool) (g:Bool) (m:Nat) (a:AX):AO.eA ⟨d,gd,mg,.load g m a⟩=none:=by simp[AO.eA]
@[simp] theorem Q3 (d:Option Nat) (gd:Option (Nat×Bool)) (mg:Bool) (a:AX):AO.quiet ⟨d,gd,mg,.nilCheck a⟩=true:=_root_.id rfl
@[simp] theorem Uu (d:Option Nat) (gd:Option (Nat×Bool)) (mg:Bool) (a:AX):AO.eA ⟨d,gd,mg,.nilCheck a⟩=none:=by simp[AO.eA]
@[simp] theorem ahm (d:Option Nat) (gd:Option (Nat×Bool)) (mg:Bool) (o:BinOp) (e:ET) (a b:AX):AO.quiet ⟨d,gd,mg,.bin o e a b⟩=true:=_root_.id rfl
@[simp] theorem ald (d:Option Nat) (gd:Option (Nat×Bool)) (mg:Bool) (o:BinOp) (e:ET) (a b:AX):AO.eA ⟨d,gd,mg,.bin o e a b⟩=none:=by simp[AO.eA]
@[simp] theorem ZO (d:Option Nat) (gd:Option (Nat×Bool)) (mg:Bool) (k:IntKind) (a:AX):AO.quiet ⟨d,gd,mg,.convI k a⟩=true:=_root_.id rfl
@[simp] theorem ac6 (d:Option Nat) (gd:Option (Nat×Bool)) (mg:Bool) (k:IntKind) (a:AX):AO.eA ⟨d,gd,mg,.convI k a⟩=none:=by simp[AO.eA]
@[simp] theorem LcX (d:Option Nat) (gd:Option (Nat×Bool)) (mg:Bool) (k:SK) (a:AX) (l h m:Option AX):AO.quiet ⟨d,gd,mg,.slice k a l h m⟩=true:=_root_.id rfl
@[simp] theorem V4 (d:Option Nat) (gd:Option (Nat×Bool)) (mg:Bool) (i o:Nat) (a:AX):AO.quiet ⟨d,gd,mg,.fieldA i o a⟩=true:=_root_.id rfl
@[simp] theorem LaY (d:Option Nat) (gd:Option (Nat×Bool)) (mg:Bool) (i o:Nat) (a:AX):AO.eA ⟨d,gd,mg,.fieldA i o a⟩=none:=by simp[AO.eA]
@[simp] theorem V5 (d:Option Nat) (gd:Option (Nat×Bool)) (mg:Bool) (k:SK) (a b:AX):AO.quiet ⟨d,gd,mg,.indexA k a b⟩=true:=_root_.id rfl
@[simp] theorem ZR (d:Option Nat) (gd:Option (Nat×Bool)) (mg:Bool) (k:SK) (a b:AX):AO.eA ⟨d,gd,mg,.indexA k a b⟩=none:=by simp[AO.eA]
@[simp] theorem Uv (d:Option Nat) (gd:Option (Nat×Bool)) (mg:Bool) (i:Nat) (a:AX):AO.quiet ⟨d,gd,mg,.extract i a⟩=true:=_root_.id rfl
@[simp] theorem V6 (d:Option Nat) (gd:Option (Nat×Bool)) (mg:Bool) (i:Nat) (a:AX):AO.eA ⟨d,gd,mg,.extract i a⟩=none:=by simp[AO.eA]
@[simp] theorem ale (d:Option Nat) (gd:Option (Nat×Bool)) (mg:Bool) (g:Bool) (as:ZP):AO.quiet ⟨d,gd,mg,.mm g as⟩=true:=_root_.id rfl
@[simp] theorem aup (d:Option Nat) (gd:Option (Nat×Bool)) (mg:Bool) (g:Bool) (as:ZP):AO.eA ⟨d,gd,mg,.mm g as⟩=none:=by simp[AO.eA]
@[simp] theorem ac7 (d:Option Nat) (gd:Option (Nat×Bool)) (mg:Bool) (a:AX) (as:ZP):AO.quiet ⟨d,gd,mg,.call a as⟩=false:=_root_.id rfl
@[simp] theorem ahn (d:Option Nat) (gd:Option (Nat×Bool)) (mg:Bool) (a:AX) (as:ZP):AO.eA ⟨d,gd,mg,.call a as⟩=none:=by simp[AO.eA]
@[simp] theorem ZS (d:Option Nat) (gd:Option (Nat×Bool)) (mg:Bool) (a:AX) (as:ZP):AO.quiet ⟨d,gd,mg,.callq a as⟩=true:=_root_.id rfl
@[simp] theorem ac8 (d:Option Nat) (gd:Option (Nat×Bool)) (mg:Bool) (a:AX) (as:ZP):AO.eA ⟨d,gd,mg,.callq a as⟩=none:=by simp[AO.eA]
@[simp] theorem ZT (d:Option Nat) (gd:Option (Nat×Bool)) (mg:Bool) (z:PV):AO.quiet ⟨d,gd,mg,.alloc z⟩=false:=_root_.id rfl
@[simp] theorem ZU (d:Option Nat) (gd:Option (Nat×Bool)) (mg:Bool) (m:Nat) (a b:AX):AO.quiet ⟨d,gd,mg,.store m a b⟩=false:=_root_.id rfl
@[simp] theorem ac9 (d:Option Nat) (gd:Option (Nat×Bool)) (mg:Bool) (m:Nat) (a b:AX):AO.eA ⟨d,gd,mg,.store m a b⟩=none:=by simp[AO.eA]
@[simp] theorem V7 (d:Option Nat) (gd:Option (Nat×Bool)) (mg:Bool) (m m2:Nat) (g:Bool) (a b:AX):AO.quiet ⟨d,gd,mg,.append m m2 g a b⟩=false:=_root_.id rfl
@[simp] theorem ZV (d:Option Nat) (gd:Option (Nat×Bool)) (mg:Bool) (m m2:Nat) (g:Bool) (a b:AX):AO.eA ⟨d,gd,mg,.append m m2 g a b⟩=none:=by simp[AO.eA]
@[simp] theorem ada (d:Option Nat) (gd:Option (Nat×Bool)) (mg:Bool) (m:Nat) (a b:AX):AO.quiet ⟨d,gd,mg,.copy m a b⟩=false:=_root_.id rfl
@[simp] theorem aho (d:Option Nat) (gd:Option (Nat×Bool)) (mg:Bool) (m:Nat) (a b:AX):AO.eA ⟨d,gd,mg,.copy m a b⟩=none:=by simp[AO.eA]
@[simp] theorem ahp (d:Option Nat) (gd:Option (Nat×Bool)) (mg:Bool) (m:Nat) (z:PV) (n:Nat) (ps:List (Nat×AX)):AO.quiet ⟨d,gd,mg,.buildSlice false m z n ps⟩=true:=_root_.id rfl
@[simp] theorem alf (d:Option Nat) (gd:Option (Nat×Bool)) (mg:Bool) (m:Nat) (z:PV) (n:Nat) (ps:List (Nat×AX)):AO.eA ⟨d,gd,mg,.buildSlice false m z n ps⟩=none:=by simp[AO.eA]
@[simp] theorem ahq (d:Option Nat) (gd:Option (Nat×Bool)) (mg:Bool) (m:Nat) (z:PV) (n:Nat) (ps:List (Nat×AX)):AO.quiet ⟨d,gd,mg,.buildSlice true m z n ps⟩=false:=_root_.id rfl
@[simp] theorem alg (d:Option Nat) (gd:Option (Nat×Bool)) (mg:Bool) (m:Nat) (z:PV) (n:Nat) (ps:List (Nat×AX)):AO.eA ⟨d,gd,mg,.buildSlice true m z n ps⟩=none:=by simp[AO.eA]
theorem oG.run {l:UN} {o u:Yx} {K:UD} {t:Tg K} (W:Yx) {m:List (AO×Bool)} (hm:pP l u o=some m) (h:vG P W s m K):oG P l o u K t s:=oG.of W m hm (oZ h)
@[simp↓] def alh (W:Yx) (K:UD):vG P W s [] K=K s:=_root_.id rfl
@[simp↓] theorem aw1 (W:Yx) (n:Nat) (v:PV) (e:List (Nat×PV)) (b:List (Nat×aU)) (x:AO) (f:Bool) (r:List (AO×Bool)) (K:UD):vG P W ⟨(n,v)::e,b⟩ ((x,f)::r) K=
  if x.quiet=true then(if f=true then fA P ⟨(n,v)::e,Ax W b⟩ x (λt=>vG P W {t with bx:=b} r K)else fA P ⟨(n,v)::e,b⟩ x (λt=>vG P W t r K))
  else(j6 ⟨(n,v)::e,b⟩ ((x,f)::r)=true∧fA P ⟨(n,v)::e,b⟩ x (λt=>(f=true->V2 W t.bx b)∧vG P W t r K)):=by
 simp only[vG];rfl
@[simp] def auq (x:AO) (f:Bool) (r:List (AO×Bool)):j6 s ((x,f)::r)=((match x.eA with|some k=>(get s.bx k).isNone|none=>true)&&j6 s r):=_root_.id rfl
def DrE (P:Program) (l:UN) (a:Yx) (p q:Nat) (b u:Yx) (K:UD) (_:Tg K) (s:St):Prop:=∃W,lq P l u.contains W (p::q::b) s a λt=>gL P l u.contains W t (p::q::b) K∧gL P l u.contains W t (q::p::b) K
@[simp↓] def adb (l:UN) (a:Yx) (p q:Nat) (b u:Yx) (Q:Exit->UD):aw P (.regionE l a p q b u) Q s=DrE P l a p q b u (Q .normal) .mk s:=_root_.id rfl
def nT (P:Program) (W:Yx) (mE:List (AO×Bool)) (s:St):List (AO×Bool)->(UD)->Prop
 |[],K=>j6 s mE=true∧K s
 |(x,f)::r,K=>if x.quiet=true then(if f=true then fA P (s.less W) x (λt=>nT P W mE {t with bx:=s.bx} r K)else fA P s x (λt=>nT P W mE t r K))
   else j6 s ((x,f)::(r++mE))=true∧fA P s x (λt=>(f=true->V2 W t.bx s.bx)∧nT P W mE t r K)
theorem HV {l:UN} {u:Yx}:∀ {a b:Yx} {m n:List (AO×Bool)},pP l u a=some m->pP l u b=some n->pP l u (a++b)=some (m++n)
 |[],b,m,n,h,h2=>by simp[pP]at h;subst h;exact h2
 |
  i::r,b,m,n,h,h2=>by
  simp only[pP]at h
  split at h
  ·rename_i x m' hx vE
   simp only[sJ]at h;subst h
   simp only[JdV,pP,hx,HV vE h2]
  ·simp at h
theorem wI {W:Yx} {mE:List (AO×Bool)}:∀ {m:List (AO×Bool)} {s:St} {K:UD},nT P W mE s m K->j6 s (m++mE)=true
 |[],s,K,h=>h.1
 |
  (x,f)::r,s,K,h=>by
  simp only[nT]at h
  split at h
  ·rename_i hq
   simp only[JdV,j6,eB hq,JhW]
   split at h
   ·obtain⟨v,h1,_⟩:=ve hq h
    have:=wI h1
    exact(uh (s:=s) (s':= {env:=((s.less W).put x.dst v).env,bx:=s.bx}) rfl _).symm.trans this
   ·obtain⟨v,h1,_⟩:=ve hq h
    have:=wI h1
    rwa [uh (iF _ _)]at this
  ·exact h.1
theorem Bq {l:UN} {u:Yx} {W E:Yx} {mE:List (AO×Bool)} (hE:pP l u E=some mE):∀ {o:Yx} {m:List (AO×Bool)} {s:St} {K:UD},pP l u o=some m->nT P W mE s m K->lq P l u.contains W E s o K
 |[],m,s,K,hm,h=>by simp[pP]at hm;subst hm;exact⟨by rw[←xG hE];exact h.1,h.2⟩
 |
  i::r,m,s,K,hm,h=>by
  have TX:=hm
  simp only[pP]at hm
  split at hm
  ·rename_i x m' hx vE
   simp only[sJ]at hm;subst hm
   have hf:=xG (s:=s) (HV TX hE)
   have n7:=wI h
   rw[hf]at n7
   simp only[lq,hx]
   refine⟨by simpa using n7,?_⟩
   simp only[nT,ig]at h⊢
   split at h
   ·rename_i hq
    rw[if_pos hq]
    split at h
    ·rename_i hf;rw[if_pos hf];exact cr (λt ht=>Bq hE vE ht) h
    ·rename_i hf;rw[if_neg hf];exact cr (λt ht=>Bq hE vE ht) h
   ·rename_i hq
    rw[if_neg hq]
    exact cr (λt ht=>⟨λe=>Q2 (e:=s.env) (ht.1 e),Bq hE vE ht.2⟩) h.2
  ·simp at hm
theorem vn {W:Yx} {mE:List (AO×Bool)}:∀ {m:List (AO×Bool)} {s:St} {K K':UD},(∀t,K t->K' t)->nT P W mE s m K->nT P W mE s m K'
 |[],s,K,K',h,hk=>⟨hk.1,h _ hk.2⟩
 |
  (x,f)::r,s,K,K',h,hk=>by
  simp only[nT]at hk⊢
  split at hk
  ·rename_i hq;rw[if_pos hq]
   split at hk
   ·rename_i hf;rw[if_pos hf];exact cr (λt ht=>vn h ht) hk
   ·rename_i hf;rw[if_neg hf];exact cr (λt ht=>vn h ht) hk
  ·rename_i hq;rw[if_neg hq]
   exact⟨hk.1,cr (λt ht=>⟨ht.1,vn h ht.2⟩) hk.2⟩
def DrE.run {l:UN} {a:Yx} {p q:Nat} {b u:Yx} {K:UD} {t:Tg K} (W:Yx) {m m1 m2:List (AO×Bool)} (hm:pP l u a=some m) (h1:pP l u (p::q::b)=some m1) (h2:pP l u (q::p::b)=some m2)
  (h:nT P W m1 s m λt=>vG P W t m1 K∧vG P W t m2 K):DrE P l a p q b u K t s:=⟨W,Bq h1 hm (vn (λt ht=>⟨Bp h1 (oZ ht.1),Bp h2 (oZ ht.2)⟩) h)⟩
@[simp↓] def ahr (W:Yx) (mE:List (AO×Bool)) (K:UD):nT P W mE s [] K=(j6 s mE=true∧K s):=_root_.id rfl
@[simp↓] theorem aus (W:Yx) (mE:List (AO×Bool)) (n:Nat) (v:PV) (e:List (Nat×PV)) (b:List (Nat×aU)) (x:AO) (f:Bool) (r:List (AO×Bool)) (K:UD):nT P W mE ⟨(n,v)::e,b⟩ ((x,f)::r) K=
  if x.quiet=true then(if f=true then fA P ⟨(n,v)::e,Ax W b⟩ x (λt=>nT P W mE {t with bx:=b} r K)else fA P ⟨(n,v)::e,b⟩ x (λt=>nT P W mE t r K))
  else(j6 ⟨(n,v)::e,b⟩ ((x,f)::(r++mE))=true∧fA P ⟨(n,v)::e,b⟩ x (λt=>(f=true->V2 W t.bx b)∧nT P W mE t r K)):=by
 simp only[nT];rfl
@[simp↓] def ahs:j6 s []=true:=_root_.id rfl
@[simp↓] theorem ali (k:Nat) (mg f:Bool) (z:PV) (r:List (AO×Bool)):j6 s ((⟨some k,none,mg,.alloc z⟩,f)::r)=((get s.bx k).isNone&&j6 s r):=_root_.id rfl
@[simp] theorem aut (W:Yx) (c:List (Nat×aU)):V2 W c []=True:=_root_.id rfl
@[simp] theorem alj (W:Yx) (c:List (Nat×aU)) (k:Nat) (b:aU) (r:List (Nat×aU)):V2 W c ((k,b)::r)=((if FX W=true then get c k=some b∨W.contains k=true∧F3 (some b)=true∧F3 (get c k)=true else W.contains k=true∨get c k=some b)∧V2 W c r):=_root_.id rfl
end Go.Ab
namespace Go.Ab
variable [cM]
structure aw2 (sh:Sh) (p:PV):Prop where
 refs:ae (λ_=>false) p=true
 wk:wk p=p
 width:p.width=qi sh
 agg:p.isAgg=sh.agg
 beq:PV.beq p p=true
 cell:p.aV=true
 flat:p.flat=true
mutual
theorem cY:∀(p:PV) (sh:Sh),fits sh p=true->aw2 sh p
 | .bl b,.b,_=>⟨rfl,by simp,rfl,rfl,by simp[PV.beq],rfl,rfl⟩
 | .int k n,.i k',h=>⟨rfl,by simp,rfl,rfl,by simp[PV.beq],rfl,rfl⟩
 | .str s,.s,_=>⟨rfl,by simp,rfl,rfl,by simp[PV.beq],rfl,rfl⟩
 |
  .st w m,.st l,h=>by
  simp only[fits,aJ,decide_eq_true_eq]at h
  obtain⟨h1,h2,h3,h4⟩:=CH m l h.2
  exact⟨by simpa[ae]using h1,by simp[h2],by simp[qi,h.1],rfl,by simp[PV.beq,h4],rfl,rfl⟩
 |
  .ar sz k m,.ar n e,h=>by
  simp only[fits,aJ,decide_eq_true_eq]at h
  obtain⟨h1,h2,h4⟩:=CI m e h.2
  exact⟨by simpa[ae]using h1,by simp[h2],by simp[qi,h.1.1,h.1.2.1],rfl,by simp[PV.beq,h4],rfl,rfl⟩
 | .un,sh,h=>by cases sh<;>simp[fits]at h
 | .tup _,sh,h=>by cases sh<;>simp[fits]at h
 | .sl _ _ _,sh,h=>by cases sh<;>simp[fits]at h
 | .rs _ _ _ _ _ _ _,sh,h=>by cases sh<;>simp[fits]at h
 | .np,sh,h=>by cases sh<;>simp[fits]at h
 | .pt _ _ _,sh,h=>by cases sh<;>simp[fits]at h
 | .fp _ _ _,sh,h=>by cases sh<;>simp[fits]at h
 | .fn _ _ _,sh,h=>by cases sh<;>simp[fits]at h
 | .nf,sh,h=>by cases sh<;>simp[fits]at h
 | .gd _ _,sh,h=>by cases sh<;>simp[fits]at h
 | .ifc _ _,sh,h=>by cases sh<;>simp[fits]at h
 | .ni,sh,h=>by cases sh<;>simp[fits]at h
 | .mp _ _,sh,h=>by cases sh<;>simp[fits]at h
 | .bl _,.i _,h=>by simp[fits]at h
 | .bl _,.s,h=>by simp[fits]at h
 | .bl _,.st _,h=>by simp[fits]at h
 | .bl _,.ar _ _,h=>by simp[fits]at h
 | .int _ _,.b,h=>by simp[fits]at h
 | .int _ _,.s,h=>by simp[fits]at h
 | .int _ _,.st _,h=>by simp[fits]at h
 | .int _ _,.ar _ _,h=>by simp[fits]at h
 | .str _,.b,h=>by simp[fits]at h
 | .str _,.i _,h=>by simp[fits]at h
 | .str _,.st _,h=>by simp[fits]at h
 | .str _,.ar _ _,h=>by simp[fits]at h
 | .st _ _,.b,h=>by simp[fits]at h
 | .st _ _,.i _,h=>by simp[fits]at h
 | .st _ _,.s,h=>by simp[fits]at h
 | .st _ _,.ar _ _,h=>by simp[fits]at h
 | .ar _ _ _,.b,h=>by simp[fits]at h
 | .ar _ _ _,.i _,h=>by simp[fits]at h
 | .ar _ _ _,.s,h=>by simp[fits]at h
 | .ar _ _ _,.st _,h=>by simp[fits]at h
theorem CH:∀(m:WG) (l:List Sh),iL l m=true->al (λ_=>false) m=true∧gI m=m∧au m=rC l∧PV.oe m m=true
 |[],[],_=>⟨rfl,rfl,rfl,by simp[PV.oe]⟩
 |
  p::m,x::l,h=>by
  simp only[iL,aJ]at h
  have f:=cY p x h.1
  obtain⟨h1,h2,h3,h4⟩:=CH m l h.2
  exact⟨by simp[al,f.refs,h1],by simp[f.wk,h2],by simp[rC,f.width,h3],by simp[PV.oe,f.beq,h4]⟩
 |[],_::_,h=>by simp[iL]at h
 |_::_,[],h=>by simp[iL]at h
theorem CI:∀(m:WG) (e:Sh),kR e m=true->al (λ_=>false) m=true∧gI m=m∧PV.oe m m=true
 |[],_,_=>⟨rfl,rfl,by simp[PV.oe]⟩
 |
  p::m,e,h=>by
  simp only[kR,aJ]at h
  have f:=cY p e h.1
  obtain⟨h1,h2,h4⟩:=CI m e h.2
  exact⟨by simp[al,f.refs,h1],by simp[f.wk,h2],by simp[PV.oe,f.beq,h4]⟩
end
structure FV (sh:Sh) where
 p:PV
 ok:fits sh p=true
variable {sh:Sh} (v:FV sh)
@[simp] def FV.fits:Ab.fits sh v.p=true:=v.ok
@[simp] theorem FV.pure:Pure v.p:=Pure.of (cY v.p sh v.ok).refs
@[simp] theorem FV.wk:Ab.wk v.p=v.p:=(cY v.p sh v.ok).wk
@[simp] theorem FV.width:v.p.width=qi sh:=(cY v.p sh v.ok).width
@[simp] theorem FV.agg:v.p.isAgg=sh.agg:=(cY v.p sh v.ok).agg
@[simp] theorem FV.beq:PV.beq v.p v.p=true:=(cY v.p sh v.ok).beq
@[simp] theorem FV.cell:v.p.aV=true:=(cY v.p sh v.ok).cell
@[simp] theorem FV.flat:v.p.flat=true:=(cY v.p sh v.ok).flat
@[simp↓] theorem FV.eT (g:Bool) (K:W7):Ab.eT g v.p K=K v.p:=by
 have:=(cY v.p sh v.ok).flat;cases h:v.p<;>rw[h]at this<;>simp[PV.flat]at this<;>rfl
end Go.Ab
namespace Go.Ab
variable [cM]
variable {P:Program} {s:St} [gQ]
def fa.iV {α:Type} {x:bT} {Q:Exit->UD} {t:Tg (x,Q)} (n:Nat) (x0:α) (I:Nat->α->Prop) (ks:Yx) (E:Nat->α->List (Nat×PV)) (B:Nat->α->List (Nat×aU)) (c0:List Cut)
  (h:fG c0 s λs0=>jK s0 ks (E 0 x0) (B 0 x0)=jK s0 ks [] []∧I 0 x0∧
   (∀i y,i<n->I i y->∀K:UD,(∀z s2,jK s2 ks [] []=jK s0 ks (E (i+1) z) (B (i+1) z)->I (i+1) z->K s2)->aw P x (DH Q λs'=>∃c:List Cut,fG c s' K) (jK s0 ks (E i y) (B i y)))∧
   (∀y,I n y->∀K:UD,aw P x (DH Q K) (jK s0 ks (E n y) (B n y)))):fa P x Q t s:=by
 let
   R:UD:=λs0=>(∀i y,i<n->I i y->∀K:UD,(∀z s2,jK s2 ks [] []=jK s0 ks (E (i+1) z) (B (i+1) z)->I (i+1) z->K s2)->aw P x (DH Q λs'=>∃c:List Cut,fG c s' K) (jK s0 ks (E i y) (B i y)))∧
   (∀y,I n y->∀K:UD,aw P x (DH Q K) (jK s0 ks (E n y) (B n y)))
 let J:Nat->UD:=λm st=>∃s0 i y,i≤n∧m=n-i∧I i y∧st=jK s0 ks (E i y) (B i y)∧R s0;refine⟨J,c0++[.keep ks],?_,?_⟩
 ·rw[j5];refine fm c0 (λs0 hs=> ?_) h;obtain⟨h1,h2,h3⟩:=hs;exact⟨n,s0,0,x0,by omega,by omega,h2,by rw[h1];rfl,h3⟩
 ·rintro m st ⟨s0,i,y,hi,rfl,hI,rfl,h3⟩;by_cases dx:i<n
  ·have af7:∀(K:UD) s',(∃c:List Cut,fG c s' λs2=>fG [.keep ks] s2 K)->∃c:List Cut,fG c s' K:=λK s' ⟨c,hc⟩=>⟨c++[.keep ks],by rw[j5];exact hc⟩
   have:=h3.1 i y dx hI (λs2=>fG [.keep ks] s2 λs'=>∃m,m<n-i∧J m s')
    (λz s2 e hI'=>⟨n-(i+1),by omega,s0,i+1,z,by omega,rfl,hI',by rw[←e];rfl,h3⟩)
   refine Mc (λe s' he=> ?_) this;cases e with
   |normal=>exact af7 _ _ he
   |_=>exact he
  ·have Al:i=n:=by omega
   subst Al;exact h3.2 y hI _
end Go.Ab
namespace Go.Ab
variable [cM]
variable {P:Program} {s:St}
def aj.gen {d:Option Nat} {f:FuncId} {args cC:WG} {iN En:WD} {r1:PV} {K:UD} {t:Tg K} (ks os:Yx) (bf:WD) (hA:ab P f cC iN λr fp=>r=r1∧fp=En)
  (hg:getAll s.bx ks=some bf) (hn:(ks++os).Nodup) (Nl:∀o∈os,get s.bx o=none) (ha:al (cW ks) args=true) (hb:bf.all (af (cW ks))=true)
  (Ze:gI (bw (bV ks) args)=cC) (tB:bf.map (aG (bV ks))=iN) (hl:En.length=(ks++os).length∧ae (dL En.length) r1=true∧En.all (af (dL En.length))=true)
  (h:K ({s with bx:=aQ s.bx (ks++os) (En.map (aG (cN (ks++os))))}.put d (aI (cN (ks++os)) r1))):aj P s d f args K t:=by
 subst Ze tB;refine⟨ks,os,bf,_,hg,hn,Nl,ha,hb,ab.ZH hA,?_⟩;rintro r fp ⟨rfl,rfl⟩;exact⟨hl,h⟩
@[simp] theorem alk:dE 1=[KB]:=rfl
@[simp] theorem alm:dE 2=[KB,KB+1]:=rfl
@[simp] theorem aln:dE 3=[KB,KB+1,KB+2]:=rfl
@[simp] theorem alo:dE 5=[KB,KB+1,KB+2,KB+3,KB+4]:=rfl
@[simp] theorem aDl {n:Nat} (h:n<9000):(KB=n)=False:=by simp only[KB,eq_iff_iff,iff_false];omega
@[simp] theorem aw3 {n:Nat} (h:n<9000):(n=KB)=False:=by simp only[KB,eq_iff_iff,iff_false];omega
@[simp] theorem aht {n i:Nat} (h:n<9000):(KB+i=n)=False:=by simp only[KB,eq_iff_iff,iff_false];omega
@[simp] theorem ade {n i:Nat} (h:n<9000):(n=KB+i)=False:=by simp only[KB,eq_iff_iff,iff_false];omega
@[simp] theorem ahu {n:Nat} (h:n<9000):(KB<n)=False:=by simp only[KB,eq_iff_iff,iff_false];omega
@[simp] theorem Uw {n i:Nat} (h:n<9000):(KB+i<n)=False:=by simp only[KB,eq_iff_iff,iff_false];omega
@[simp] theorem auu {i:Nat}:(KB+i<KB)=False:=by simp
theorem aj.gA {d:Option Nat} {f:FuncId} {args cC:WG} {iN En:WD} {r1:PV} {K:UD} {t:Tg K} (ks os:Yx) (bf:WD) (hA:ab P f cC iN λr fp=>r=r1∧fp=En) (hb:bf.all (af (cW ks))=true) (tB:bf.map (aG (bV ks))=iN) (hl:En.length=(ks++os).length∧ae (dL En.length) r1=true∧En.all (af (dL En.length))=true) (h:K ({s with bx:=aQ s.bx (ks++os) (En.map (aG (cN (ks++os))))}.put d (aI (cN (ks++os)) r1))) (hg:getAll s.bx ks=some bf:=by simp[getAll]) (hn:(ks++os).Nodup:=by simp) (Nl:∀o∈os,get s.bx o=none:=by simp) (ha:al (cW ks) args=true:=by simp[al,ae,cW,idx]) (Ze:gI (bw (bV ks) args)=cC:=by simp[bw,aI,bV,idx]):aj P s d f args K t:=aj.gen ks os bf hA hg hn Nl ha hb Ze tB hl h
end Go.Ab
namespace Go.Ab
variable [cM]
variable {P:Program} {s:St} [gQ]
def cpA (s:St) (d:Option Nat) (sz:Nat) (ys:WG) (K:UD) (k:Nat) (v:PV) (pth:Zy) (off len aD bu:Nat):W7
 | .ar sz'' n l=>cg (cu v pth (.ar sz'' n (l.take off++ys.take (min ys.length len)++l.drop (off+min ys.length len)))) λv'=>(aD=0∧bu=sz∧sz''=sz∧off+len≤n)∧K ({s with bx:=put s.bx k (.box v')}.put d (.int .i64 (min ys.length len:Nat)))
 |_=>False
def cpB (s:St) (d:Option Nat) (sz:Nat) (ys:WG) (K:UD) (k:Nat) (pth:Zy) (off len aD bu:Nat):aU->Prop
 | .arr sz'' l=>(aD=l.length∧pth=[]∧bu=sz∧sz''=sz∧off+len≤l.length)∧K ({s with bx:=put s.bx k (.arr sz (l.take off++ys.take (min ys.length len)++l.drop (off+min ys.length len)))}.put d (.int .i64 (min ys.length len:Nat)))
 | .box v=>cg (aO v pth) (cpA s d sz ys K k v pth off len aD bu)
 | .map .. =>False
def V8 (s:St) (d:Option Nat) (sz:Nat) (ys:WG) (K:UD):W7
 | .rs k pth off len aD bu _=>cg (get s.bx k) (cpB s d sz ys K k pth off len aD bu)
 |_=>False
def cpQ (s:St) (d:Option Nat) (sz:Nat) (p:PV) (K:UD):W7
 | .str bs=>sz=1∧V8 s d sz (bs.map u8) K p
 |q=>AY s (λbu ys=>(ys=[]∨bu=sz)∧V8 s d sz ys K p) q
theorem EJ (d:Option Nat) (sz:Nat) (p:PV) (ys:WG) (K:UD):iE s d sz p ys K=V8 s d sz ys K p:=by
 cases p<;>try rfl
 rename_i k pth off len aD bu c;simp only[iE,V8];generalize get s.bx k=o;cases o with
 |none=>rfl
 |
  some b=>
  cases b with
  |arr z l=>rfl
  |
   box v=>
   simp only[cg,cpB]
   generalize aO v pth=o
   cases o with
   |none=>rfl
   |
    some q=>
    cases q<;>simp only[cpA,cg]
    rename_i z n l
    generalize cu v pth (.ar z n (List.take off l++List.take (min ys.length len) ys++List.drop (off+min ys.length len) l))=o
    cases o<;>rfl
  |map b ks vs l=>rfl
@[simp↓] def aw4 (d:Option Nat) (sz:Nat) (x y:AX) (K:UD):ex s d (.copy sz x y) K=eT true (vx s x) λp=>eT true (vx s y) λq=>cpQ s d sz p K q:=by
 simp only[ex,jg];congr 1;funext p;congr 1;funext q;cases q<;>simp only[cpQ,Zv,QS,VE,ajQ,EJ]
@[simp↓] def aw5 (d:Option Nat) (sz:Nat) (p:PV) (K:UD) (z:Nat) (l:WG) (c:Bool):cpQ s d sz p K (.sl z l c)=((l=[]∨z=sz)∧V8 s d sz l K p):=_root_.id rfl
@[simp↓] theorem aw6 (d:Option Nat) (sz:Nat) (ys:WG) (K:UD) (k:Nat) (pth:Zy) (off len aD bu:Nat) (c:iO):V8 s d sz ys K (.rs k pth off len aD bu c)=cg (get s.bx k) (cpB s d sz ys K k pth off len aD bu):=_root_.id rfl
@[simp↓] theorem auy (d:Option Nat) (sz:Nat) (ys:WG) (K:UD) (k:Nat) (pth:Zy) (off len aD bu z:Nat) (l:WG):cpB s d sz ys K k pth off len aD bu (.arr z l)=((aD=l.length∧pth=[]∧bu=sz∧z=sz∧off+len≤l.length)∧K ({s with bx:=put s.bx k (.arr sz (l.take off++ys.take (min ys.length len)++l.drop (off+min ys.length len)))}.put d (.int .i64 (min ys.length len:Nat)))):=_root_.id rfl
@[simp↓] theorem auz (d:Option Nat) (sz:Nat) (ys:WG) (K:UD) (k:Nat) (pth:Zy) (off len aD bu:Nat) (v:PV):cpB s d sz ys K k pth off len aD bu (.box v)=cg (aO v pth) (cpA s d sz ys K k v pth off len aD bu):=_root_.id rfl
@[simp↓] theorem aw7 (d:Option Nat) (sz:Nat) (ys:WG) (K:UD) (k:Nat) (v:PV) (pth:Zy) (off len aD bu z n:Nat) (l:WG):cpA s d sz ys K k v pth off len aD bu (.ar z n l)=cg (cu v pth (.ar z n (l.take off++ys.take (min ys.length len)++l.drop (off+min ys.length len)))) λv'=>(aD=0∧bu=sz∧z=sz∧off+len≤n)∧K ({s with bx:=put s.bx k (.box v')}.put d (.int .i64 (min ys.length len:Nat))):=_root_.id rfl
def flP (s:St) (sz:Nat) (z:PV) (K:UD):W7
 | .rs k pth off len aD bu c=>V8 s none sz (List.replicate len z) K (.rs k pth off len aD bu c)
 |_=>False
@[simp↓] def aw9 (sz:Nat) (z:PV) (K:UD) (k:Nat) (pth:Zy) (off len aD bu:Nat) (c:iO):flP s sz z K (.rs k pth off len aD bu c)=V8 s none sz (List.replicate len z) K (.rs k pth off len aD bu c):=_root_.id rfl
@[simp↓] theorem axa (d:Option Nat) (sz:Nat) (z:PV) (x:AX) (K:UD):ex s d (.fill sz z x) K=eT true (vx s x) λp=>d=none∧flP s sz z K p:=by
 simp only[ex,jg];congr 1;funext p;simp only[P3];congr 1;cases p<;>simp only[flP,EJ]
def clB (s:St) (d:Option Nat) (k:Nat) (pth:Zy) (off len aD sz:Nat) (c:iO) (K:UD):aU->Prop
 | .arr bu l=>(pth=[]∧off=0∧sz=1∧bu=1∧c= .tip∧len=l.length∧aD=l.length∧l≠[]∧l.all PV.isNum=true)∧K (St.put {s with bx:=put s.bx k (.arr 1 (l++[.int .u8 0]))} d (.sl 1 l false))
 |_=>False
def clP (s:St) (d:Option Nat) (K:UD):W7
 | .rs k pth off len aD sz c=>cg (get s.bx k) (clB s d k pth off len aD sz c K)
 |_=>False
@[simp↓] theorem auA (d:Option Nat) (x:AX) (K:UD):ex s d (.convL x) K=eT true (vx s x) (clP s d K):=by
 simp only[ex,jg];congr 1;funext p;cases p<;>try rfl
 rename_i k pth off len aD sz c;simp only[clP];cases get s.bx k with
 |none=>rfl
 |some x=>cases x<;>rfl
@[simp↓] def axd (d:Option Nat) (K:UD) (k:Nat) (pth:Zy) (off len aD sz:Nat) (c:iO):clP s d K (.rs k pth off len aD sz c)=cg (get s.bx k) (clB s d k pth off len aD sz c K):=_root_.id rfl
@[simp↓] theorem auB (d:Option Nat) (k:Nat) (pth:Zy) (off len aD sz:Nat) (c:iO) (K:UD) (bu:Nat) (l:WG):clB s d k pth off len aD sz c K (.arr bu l)=((pth=[]∧off=0∧sz=1∧bu=1∧c= .tip∧len=l.length∧aD=l.length∧l≠[]∧l.all PV.isNum=true)∧K (St.put {s with bx:=put s.bx k (.arr 1 (l++[.int .u8 0]))} d (.sl 1 l false))):=_root_.id rfl
@[simp] theorem ahv (k:IntKind) (n:Int):PV.isNum (.int k n)=true:=_root_.id rfl
end Go.Ab
namespace Go.Ab
variable [cM]
variable {P:Program} {Γ Δ:Cx}
mutual
def lS:PV->Bool
 | .sl _ l _=>l.isEmpty
 | .fp .. | .fn .. | .ifc .. | .gd .. | .tup _=>false
 | .st _ l=>fT l
 | .ar _ _ l=>fT l
 |_=>true
def fT:WG->Bool
 |[]=>true
 |p::r=>lS p&&fT r
end
def pQ:PV->Bool
 | .tup l=>fT l
 |p=>lS p
def Q4 {p:PV} (h:lS p=true):pQ p=true:=by
 cases p<;>first|exact h|simp[lS]at h
def EK:aU->Bool
 | .box v=>lS v
 | .arr _ l=>fT l
 | .map .. =>true
structure Kin (ρ:Nat->Nat) (Γ Δ:Cx):Prop where
 heap:Δ.heap=Γ.heap
 ref:∀k blk,get Γ.bx k=some blk->∃bL,get Δ.bx (ρ k)=some bL∧bL.aD=blk.aD∧Δ.ι (ρ k)=Γ.ι k
theorem CJ (ρ:Nat->Nat):∀l:WG,bw ρ l=l.map (Ab.aI ρ)
 |[]=>rfl
 |p::l=>by simp[bw,CJ ρ l]
theorem aC.V9 {ρ:Nat->Nat} (hs:Kin ρ Γ Δ) {l:WG} {cs:UE} (h:aC Γ l cs):fT l=true->aC Δ (bw ρ l) cs:=by
 induction h with
 |nil=>intro _;exact .nil
 |un h hr ih=>intro hf;simp only[fT,aJ]at hf;exact .un h (ih hf.2)
 |bl x hr ih=>intro hf;simp only[fT,aJ]at hf;exact .bl x (ih hf.2)
 |int k n hr ih=>intro hf;simp only[fT,aJ]at hf;exact .int k n (ih hf.2)
 |str l s h hr ih=>intro hf;simp only[fT,aJ]at hf;exact .str l s h (ih hf.2)
 |st w l hl hw hr ihl ih=>intro hf;simp only[fT,lS,aJ]at hf;exact .st w _ (ihl hf.1) hw (ih hf.2)
 |
  ar sz n l hl hn hw hr ihl ih=>
  intro hf;simp only[fT,lS,aJ]at hf
  refine .ar sz n _ (ihl hf.1) (by rw[lF];exact hn) ?_ (ih hf.2)
  intro x hx
  rw[CJ]at hx
  obtain⟨y,hy,rfl⟩:=JcV.1 hx
  rw[oU];exact hw y hy
 |
  sl sz l clip a bg hl hw hc hk hb hr ihl ih=>
  intro hf;simp only[fT,lS,aJ,List.isEmpty_iff]at hf
  obtain⟨rfl,hf2⟩:=hf
  cases hl
  exact .sl sz [] clip a bg .nil (by simp) hc hk (λh=>absurd rfl h) (ih hf2)
 |
  rs k p off len aD sz c v blk hg h1 hv hr ih=>
  intro hf;simp only[fT,lS,aJ]at hf
  obtain⟨bL,g1,g2,g3⟩:=hs.ref k blk hg.1
  refine .rs (ρ k) p off len aD sz c v bL ⟨g1,by rw[g2];exact hg.2⟩ h1 (λht=> ?_) (ih hf.2)
  obtain⟨a,bg,e1,e2⟩:=hv (by rw[ht,g2])
  exact⟨a,bg,e1,e2.aI g3 hs.heap⟩
 |np hr ih=>intro hf;simp only[fT,aJ]at hf;exact .np (ih hf.2)
 |
  pt k p aD v blk hg h1 hv hr ih=>
  intro hf;simp only[fT,lS,aJ]at hf
  obtain⟨bL,g1,g2,g3⟩:=hs.ref k blk hg.1
  refine .pt (ρ k) p aD v bL ⟨g1,by rw[g2];exact hg.2⟩ h1 (λht=> ?_) (ih hf.2)
  obtain⟨b,e1,e2⟩:=hv (by rw[ht,g2])
  exact⟨b,by rw[g3,e1],e2⟩
 |fp=>intro hf;simp[fT,lS]at hf
 |fn=>intro hf;simp[fT,lS]at hf
 |nf hr ih=>intro hf;simp only[fT,aJ]at hf;exact .nf (ih hf.2)
 |ifc=>intro hf;simp[fT,lS]at hf
 |ni hr ih=>intro hf;simp only[fT,aJ]at hf;exact .ni (ih hf.2)
 |mp k b hr ih=>intro hf;simp only[fT,aJ]at hf;exact .mp k b (ih hf.2)
def aC.Kj {ρ:Nat->Nat} (hs:Kin ρ Γ Δ) {p:PV} {cs:UE} (h:aC Γ [p] cs) (hf:lS p=true):aC Δ [Ab.aI ρ p] cs:=by
 have:=h.V9 hs (by simp[fT,hf]);simpa only[bw]using this
def aN.V9 {ρ:Nat->Nat} (hs:Kin ρ Γ Δ) {p:PV} {v:Value} (h:aN Γ p v) (hf:lS p=true):aN Δ (Ab.aI ρ p) v:=by
 cases p
 case un=>trivial
 case st w l=>obtain⟨cs,h1,h2⟩:=h;exact⟨cs,h1,h2.Kj hs hf⟩
 case ar sz n l=>obtain⟨cs,h1,h2⟩:=h;exact⟨cs,h1,h2.Kj hs hf⟩
 case gd=>simp[lS]at hf
 case tup=>simp[lS]at hf
 all_goals exact aC.Kj hs h hf
def iK.V9 {ρ:Nat->Nat} (hs:Kin ρ Γ Δ) {p:PV} {v:Value} (h:iK Γ p v) (hf:lS p=true):iK Δ (Ab.aI ρ p) v:=by
 cases p
 case un=>trivial
 case st w l=>obtain⟨cs,h1,h2⟩:=h;exact⟨cs,h1,h2.Kj hs hf⟩
 case ar sz n l=>obtain⟨cs,h1,h2⟩:=h;exact⟨cs,h1,h2.Kj hs hf⟩
 all_goals exact aC.Kj hs h hf
theorem jU.V9 {ρ:Nat->Nat} (hs:Kin ρ Γ Δ):∀ {l:WG} {vs:UE},jU Γ l vs->fT l=true->jU Δ (bw ρ l) vs
 |[],[],_,_=>trivial
 |[],_::_,h,_=>h.elim
 |_::_,[],h,_=>h.elim
 |
  p::l,v::vs,h,hf=>by
  simp only[fT,aJ]at hf
  exact⟨h.1.V9 hs hf.1,jU.V9 hs h.2 hf.2⟩
def aN.axe {ρ:Nat->Nat} (hs:Kin ρ Γ Δ) {p:PV} {v:Value} (h:aN Γ p v) (hf:pQ p=true):aN Δ (Ab.aI ρ p) v:=by
 cases p
 case tup l=>
  obtain⟨vs,h1,h2⟩:=h;exact⟨vs,h1,h2.V9 hs hf⟩
 all_goals exact h.V9 hs hf
def V0 (bx:List (Nat×aU)) (p p':PV):Prop:=
 (p'=p∧ae (λ_=>false) p=true)∨
 (∃k pth off len aD sz c l,p= .rs k pth off len aD sz c∧content ⟨[],bx⟩ p (λbu l0=>bu=sz∧l0=l)∧al (λ_=>false) l=true∧0<sz∧p'= .sl sz l false)
def Me (bx:List (Nat×aU)):WG->WG->Prop
 |[],[]=>True
 |p::r,p'::r'=>V0 bx p p'∧Me bx r r'
 |_,_=>False
def V1 (bx:List (Nat×aU)) (p p':PV):Prop:=
 V0 bx p p'∨
 (∃sz l l' c,p= .sl sz l c∧Me bx l l'∧p'= .sl sz l' c)∨
 (∃k pth off len aD sz c l l',p= .rs k pth off len aD sz c∧content ⟨[],bx⟩ p (λbu l0=>bu=sz∧l0=l)∧Me bx l l'∧0<sz∧p'= .sl sz l' false)
def Q5 (bx:List (Nat×aU)):WG->WG->Prop
 |[],[]=>True
 |p::r,p'::r'=>V1 bx p p'∧Q5 bx r r'
 |_,_=>False
def Cx.bare (Γ:Cx):Cx:= {heap:=Γ.heap,ι:=λ_=>none,bx:=[],cI:=λ_=>False}
def pd {b:Nat}:¬Γ.bare.own b:=by
 rintro(⟨k,blk,h,_⟩|h)
 ·simp[Cx.bare,get]at h
 ·exact h
def Oe (hm:Mem Γ):Mem Γ.bare:=by
 refine⟨λk blk h=> ?_,λi j b h=> ?_,λb h=>h.elim,λb h h2=>h2,λb cs h=>⟨λhb=>pd (.inl hb),(hm.xj b cs h).2⟩⟩
 ·simp[Cx.bare,get]at h
 ·simp[Cx.bare,get]at h
def y7:tW (λ_=>false) id Γ Γ.bare:=⟨rfl,λb _ _=>pd,λk blk h=>by simp at h⟩
def Wa {h:Array Obj} {b o:Nat} {v:Value} (e:cell h b o=some v):b<h.size:=by
 unfold cell at e;split at e
 ·rename_i c _ _ hb;exact(Array.getElem?_eq_some_iff.1 hb).1
 ·simp at e
def alr (Γ:Cx) (hm:Mem Γ):fW 0 [] ⟨[],Γ.bx⟩ Γ {tmps:= #[],defers:=[]}:=⟨rfl,rfl,rfl,λk p h=>by simp[get]at h,hm⟩
def rsV {k:Nat} {pth:Zy} {off len aD sz:Nat} {c:iO} {l:WG} {cs:UE} (hm:Mem Γ) (hr:aC Γ [.rs k pth off len aD sz c] cs)
  (hc:content ⟨[],Γ.bx⟩ (.rs k pth off len aD sz c) (λbu l0=>bu=sz∧l0=l)):∃v ad bg us,cs=[v]∧v= .slice ad l.length bg∧aC Γ l us∧(∀x∈l,x.width=sz)∧l.length≤bg∧
   (l≠[]->∃b o,ad=some ⟨b,o,none⟩∧∀i c,us[i]? =some c->cell Γ.heap b (o+i)=some c):=by
 obtain⟨v,rfl⟩:∃v,cs=[v]:=by
  cases hr with
  |rs _ _ _ _ _ _ _ v _ _ _ _ hr=>cases hr;exact⟨v,rfl⟩
 obtain⟨bu,l0,us,ad,bg,⟨rfl,rfl⟩,h2,h3,h4,h5,h6⟩:=qn (v:=v) (alr Γ hm) hc (by simpa only[aN]using hr);exact⟨v,ad,bg,us,rfl,h2,h3,h6,h5,h4⟩
def V0.width {bx:List (Nat×aU)} {p p':PV} (h:V0 bx p p'):p'.width=p.width:=by
 rcases h with⟨rfl,_⟩|⟨k,pth,off,len,aD,sz,c,l,rfl,_,_,_,rfl⟩<;>rfl
def CK {l:WG} {us:UE} {sz:Nat} {ad:Option Addr} (fP:0<sz) (h3:aC Γ l us) (h4:∀x∈l,x.width=sz) (bY:l≠[])
  (h6:∃b o,ad=some ⟨b,o,none⟩∧∀i c,us[i]? =some c->cell Γ.heap b (o+i)=some c):
  ∃b o,ad=some ⟨b,o,none⟩∧b<Γ.bare.heap.size∧¬Γ.bare.own b∧∀i c,us[i]? =some c->cell Γ.bare.heap b (o+i)=some c:=by
 obtain⟨b,o,e1,e2⟩:=h6
 have hlen:0<us.length:=by
  rw[h3.length,bD h4];have:0<l.length:=JiV.2 bY;exact Nat.mul_pos this fP
 exact⟨b,o,e1,Wa (e2 0 _ (gJ hlen)),pd,e2⟩
def V0.rep {p p':PV} {cs:UE} (hm:Mem Γ) (h:V0 Γ.bx p p') (hr:aC Γ [p] cs):aC Γ.bare [p'] cs:=by
 rcases h with⟨rfl,h⟩|⟨k,pth,off,len,aD,sz,c,l,rfl,hc,hl,fP,rfl⟩
 ·have:=hr.bV y7 h;rwa [xx h]at this
 ·obtain⟨v,ad,bg,us,rfl,rfl,h3,h4,h5,h6⟩:=rsV hm hr hc;have h3':=h3.aI y7 hl;rw[Cs hl]at h3';exact .sl sz l false ad bg h3' h4 h5 (by simp) (λbY=>CK fP h3 h4 bY (h6 bY)) .nil
theorem Me.rep (hm:Mem Γ):∀ {l l':WG} {cs:UE},Me Γ.bx l l'->aC Γ l cs->aC Γ.bare l' cs
 |[],[],cs,_,hr=>by cases hr;exact .nil
 |[],_::_,cs,h,_=>h.elim
 |_::_,[],cs,h,_=>h.elim
 |
  p::r,p'::r',cs,h,hr=>by
  obtain⟨c1,c2,rfl,h1,h2⟩:=aC.split (ps:=[p]) (qs:=r) hr
  exact(h.1.rep hm h1).cons (Me.rep hm h.2 h2)
theorem Me.au {bx:List (Nat×aU)} {sz:Nat}:∀ {l l':WG},Me bx l l'->(∀x∈l,x.width=sz)->l'.length=l.length∧∀x∈l',x.width=sz
 |[],[],_,_=>⟨rfl,by simp⟩
 |[],_::_,h,_=>h.elim
 |_::_,[],h,_=>h.elim
 |
  p::r,p'::r',h,hw=>by
  obtain⟨h1,h2⟩:=Me.au h.2 (λx hx=>hw x (by simp[hx]))
  refine⟨by simp[h1],λx hx=> ?_⟩
  rcases cJ.1 hx with rfl|hx
  ·rw[h.1.width];exact hw p (by simp)
  ·exact h2 x hx
def V1.rep {p p':PV} {cs:UE} (hm:Mem Γ) (h:V1 Γ.bx p p') (hr:aC Γ [p] cs):aC Γ.bare [p'] cs:=by
 rcases h with h|⟨sz,l,l',c,rfl,hl,rfl⟩|⟨k,pth,off,len,aD,sz,c,l,l',rfl,hc,hl,fP,rfl⟩
 ·exact h.rep hm hr
 ·cases hr with
  |
   sl sz l clip a bg h1 hw h2 h3 hb hr=>
   cases hr
   obtain⟨e1,e2⟩:=hl.au hw
   rw[←e1]
   refine .sl sz l' c a bg (Me.rep hm hl h1) e2 (by rw[e1];exact h2) (λh=>by rw[e1];exact h3 h) (λbY=> ?_) .nil
   obtain⟨b,o,f1,f2,_,f3⟩:=hb (λh=>bY (by rw[h]at e1;exact JfZ.1 e1))
   exact⟨b,o,f1,f2,pd,f3⟩
 ·obtain⟨v,ad,bg,us,rfl,rfl,h3,h4,h5,h6⟩:=rsV hm hr hc;obtain⟨e1,e2⟩:=hl.au h4;rw[←e1];refine .sl sz l' false ad bg (Me.rep hm hl h3) e2 (by rw[e1];exact h5) (by simp) (λbY=> ?_) .nil;have Zc:l≠[]:=λh=>bY (by rw[h]at e1;exact JfZ.1 e1);exact CK fP h3 h4 Zc (h6 Zc)
def V1.Wb {p p':PV} {v:Value} (hm:Mem Γ) (h:V1 Γ.bx p p') (hr:aN Γ p v):aN Γ.bare p' v:=by
 have h':=h;rcases h with h|⟨sz,l,l',c,rfl,hl,rfl⟩|⟨k,pth,off,len,aD,sz,c,l,l',rfl,hc,hl,fP,rfl⟩
 ·rcases h with⟨rfl,h⟩|⟨k,pth,off,len,aD,sz,c,l,rfl,hc,hl,fP,rfl⟩
  ·have:=hr.aI y7 h;rwa [xx h]at this
  ·have:=V1.rep hm h' (by simpa only[aN]using hr);simpa only[aN]using this
 ·have:=V1.rep hm h' (by simpa only[aN]using hr);simpa only[aN]using this
 ·have:=V1.rep hm h' (by simpa only[aN]using hr);simpa only[aN]using this
theorem Q5.Wb (hm:Mem Γ):∀ {l l':WG} {vs:UE},Q5 Γ.bx l l'->fE Γ l vs->fE Γ.bare l' vs
 |[],[],[],_,_=>trivial
 |[],[],_::_,_,h=>h.elim
 |[],_::_,_,h,_=>h.elim
 |_::_,[],_,h,_=>h.elim
 |_::_,_::_,[],_,h=>h.elim
 |p::r,p'::r',v::vs,h,hr=>⟨h.1.Wb hm hr.1,Q5.Wb hm h.2 hr.2⟩
def ab.view {f:FuncId} {args cC:WG} {fp:WD} {R:PV->WD->Prop} (hA:ab P f cC [] R) (hv:Q5 (az 0 fp) args cC)
  (hR:∀r new,R r new->pQ r=true∧new.all EK=true):
  ab P f args fp (λr mW=>∃r0 new,R r0 new∧r=aI (·+fp.length) r0∧mW=fp++new.map (aG (·+fp.length))):=by
 intro Γ w vs h1 h2 h3 h4;rw[←h3]at hv;refine(hA Γ.bare w vs h1 (Oe h2) (by simp[Cx.bare,az]) (hv.Wb h2 h4)).mono ?_;rintro e w' ⟨v,r,new,Γ',e1,e2,e3,e4,e5,e6,e7,e8⟩;obtain⟨g1,g2⟩:=hR r new e2;have uW:∀b,b<Γ.heap.size->Γ'.heap[b]? =Γ.heap[b]? :=λb hb=>e7.heap b hb (λh=>pd (.inl h))
 have Dy:∀k blk b,get Γ'.bx k=some blk->Γ'.ι k=some b->Γ.heap.size≤b:=by
  intro k blk b hk hb;rcases Nat.lt_or_ge b Γ.heap.size with h|h
  ·exact absurd (.inl (e7.fM b h ⟨k,blk,hk,hb⟩)) pd
  ·exact h
 let Δ:Cx:= {heap:=Γ'.heap,ι:=λk=>if k<KB+fp.length then Γ.ι k else Γ'.ι (k-fp.length),bx:=az 0 (fp++new.map (aG (·+fp.length))),cI:=Γ.cI}
 have Jn:∀k,k<KB+fp.length->get Δ.bx k=get Γ.bx k:=by
  intro k hk;simp only[Δ,h3,eS];split
  ·rw[List.getElem?_append_left (by omega)]
  ·rfl
 have Jo:∀k,KB≤k->get Δ.bx (k+fp.length)=(get Γ'.bx k).map (aG (·+fp.length)):=by
  intro k hk;simp only[Δ,e5,eS];rw[if_pos (show KB+0≤k+fp.length by omega),if_pos (show KB+0≤k by omega),List.getElem?_append_right (by omega),List.getElem?_map,show k+fp.length-KB-0-fp.length=k-KB-0 by omega]
 have hle:Le Γ Δ:=by
  refine⟨λb hb _=>uW b hb,λb hb h=> ?_,rfl,e7.size,λk blk hk=> ?_⟩
  ·obtain⟨k,blk,f1,f2⟩:=h;by_cases uY:k<KB+fp.length
   ·rw[Jn k uY]at f1;have f2':Γ.ι k=some b:=by simpa[Δ,uY]using f2
    exact⟨k,blk,f1,f2'⟩
   ·exfalso;have f2':Γ'.ι (k-fp.length)=some b:=by simpa[Δ,uY]using f2
    have:get Δ.bx (k-fp.length+fp.length)=_:=Jo (k-fp.length) (by omega);rw[show k-fp.length+fp.length=k by omega,f1]at this;obtain⟨b0,f3,_⟩:=mJ.1 this.symm;have:=Dy _ _ _ f3 f2';omega
  ·have uY:k<KB+fp.length:=by
    rw[h3,eS]at hk;split at hk
    ·have:=(iJ.1 hk).1;simp at this;omega
    ·simp at hk
   refine⟨blk,by rw[Jn k uY];exact hk,JaQ _,λ_=>⟨by simp[Δ,uY],λb hb cs e hh=>⟨cs,?_,rfl⟩⟩⟩;show Γ'.heap[b]? =_;rw[uW b (h2.lt ⟨k,blk,hk,hb⟩)];exact hh
 have af8:Kin (·+fp.length) Γ' Δ:=by
  refine⟨rfl,λk blk hk=> ?_⟩
  have hkb:KB≤k:=by
   rw[e5,eS]at hk;split at hk
   ·assumption
   ·simp at hk
  refine⟨aG (·+fp.length) blk,by rw[Jo k hkb,hk];rfl,jy _ _,?_⟩;show(if k+fp.length<KB+fp.length then _ else _)=_;rw[if_neg (by omega),Nat.add_sub_cancel]
 have fQ:Mem Δ:=by
  refine⟨λk blk hk=> ?_,λi j b hi hj q1 q2=> ?_,λb hb=>JgZ (h2.cI b hb) e7.size,λb hb hp=> ?_,h2.kH hle⟩
  ·by_cases uY:k<KB+fp.length
   ·rw[Jn k uY]at hk;have:=(h2.blk k blk hk).mono hle (λb hb=>uW b (h2.lt ⟨k,blk,hk,hb⟩));have e:Δ.ι k=Γ.ι k:=by simp[Δ,uY]
    rw[e];exact this
   ·have BO:=Jo (k-fp.length) (by omega);rw[show k-fp.length+fp.length=k by omega,hk]at BO;obtain⟨b0,f3,rfl⟩:=mJ.1 BO.symm;have e:Δ.ι k=Γ'.ι (k-fp.length):=by simp[Δ,uY]
    rw[e]
    have Fo:EK b0=true:=by
     rw[e5,eS]at f3;split at f3
     ·exact JbJ.1 g2 b0 (JcX f3)
     ·simp at f3
    have:=e4.blk _ _ f3;cases b0 with
    |
     box v=>
     obtain⟨b,c,e,q1,q2,q3⟩:=this
     exact⟨b,c,e,q1,q2,q3.Kj af8 Fo⟩
    |
     arr sz l=>
     obtain⟨q1,q2,q3⟩:=this
     refine⟨λx hx=> ?_,q2,?_⟩
     ·rw[CJ]at hx
      obtain⟨y,hy,rfl⟩:=JcV.1 hx
      rw[oU];exact q1 y hy
     ·cases hι:Γ'.ι (k-fp.length)with
      |none=>trivial
      |
       some b=>
       rw[hι]at q3
       obtain⟨c,e,cs,rest,r1,r2,r3,r4⟩:=q3
       exact⟨c,e,cs,rest,r1,r2,r3.V9 af8 Fo,r4⟩
    |map b ks vs l=>exact this
  ·have key:∀k b,(get Δ.bx k).isSome=true->Δ.ι k=some b->(k<KB+fp.length∧(get Γ.bx k).isSome=true∧Γ.ι k=some b∧b<Γ.heap.size)∨(KB+fp.length≤k∧(get Γ'.bx (k-fp.length)).isSome=true∧Γ'.ι (k-fp.length)=some b∧Γ.heap.size≤b):=by
    intro k b hk hb;by_cases uY:k<KB+fp.length
    ·left;rw[Jn k uY]at hk;have tB:Γ.ι k=some b:=by simpa[Δ,uY]using hb
     obtain⟨blk,kP⟩:=JaZ.1 hk;exact⟨uY,hk,tB,h2.lt ⟨k,blk,kP,tB⟩⟩
    ·right;have BO:=Jo (k-fp.length) (by omega);rw[show k-fp.length+fp.length=k by omega]at BO;rw[BO]at hk;have hk3:(get Γ'.bx (k-fp.length)).isSome=true:=by simpa using hk
     have tB:Γ'.ι (k-fp.length)=some b:=by simpa[Δ,uY]using hb
     obtain⟨blk,kP⟩:=JaZ.1 hk3;exact⟨by omega,hk3,tB,Dy _ _ _ kP tB⟩
   rcases key i b hi q1 with⟨a1,a2,a3,a4⟩|⟨a1,a2,a3,a4⟩<;>rcases key j b hj q2 with⟨c1,c2,c3,c4⟩|⟨c1,c2,c3,c4⟩
   ·exact h2.inj i j b a2 c2 a3 c3
   ·omega
   ·omega
   ·have:=e4.inj _ _ b a2 c2 a3 c3;omega
  ·obtain⟨k,blk,f1,f2⟩:=hb;by_cases uY:k<KB+fp.length
   ·rw[Jn k uY]at f1;have f2':Γ.ι k=some b:=by simpa[Δ,uY]using f2
    exact h2.apart b ⟨k,blk,f1,f2'⟩ hp
   ·have f2':Γ'.ι (k-fp.length)=some b:=by simpa[Δ,uY]using f2
    have BO:=Jo (k-fp.length) (by omega);rw[show k-fp.length+fp.length=k by omega,f1]at BO;obtain⟨b0,f3,_⟩:=mJ.1 BO.symm;have:=Dy _ _ _ f3 f2';have:=h2.cI b hp;omega
 exact⟨v,_,_,Δ,e1,⟨r,new,e2,rfl,rfl⟩,e3,fQ,rfl,e6.axe af8 g1,hle,e8⟩
def aj.Wc {P:Program} [gQ] {s:St} {d:Option Nat} {f:FuncId} {args cC:WG} {iN:WD} {R:PV->WD->Prop} {K:UD} {t:Tg K} (ks os:Yx) (bf:WD) (hA:ab P f cC iN R)
  (hg:getAll s.bx ks=some bf) (hn:(ks++os).Nodup) (Nl:∀o∈os,get s.bx o=none) (ha:al (cW ks) args=true) (hb:bf.all (af (cW ks))=true)
  (Ze:gI (bw (bV ks) args)=cC) (tB:bf.map (aG (bV ks))=iN)
  (h:∀r fp,R r fp->(fp.length=(ks++os).length∧ae (dL fp.length) r=true∧fp.all (af (dL fp.length))=true)∧K ({s with bx:=aQ s.bx (ks++os) (fp.map (aG (cN (ks++os))))}.put d (aI (cN (ks++os)) r))):aj P s d f args K t:=by
 subst Ze tB;exact⟨ks,os,bf,R,hg,hn,Nl,ha,hb,ab.ZH hA,h⟩
def aj.view {P:Program} [gQ] {s:St} {d:Option Nat} {f:FuncId} {args cC vS:WG} {iN:WD} {R:PV->WD->Prop} {K:UD} {t:Tg K} (ks os:Yx) (bf:WD) (hA:ab P f vS [] R)
  (hg:getAll s.bx ks=some bf) (hn:(ks++os).Nodup) (Nl:∀o∈os,get s.bx o=none) (ha:al (cW ks) args=true) (hb:bf.all (af (cW ks))=true)
  (Ze:gI (bw (bV ks) args)=cC) (tB:bf.map (aG (bV ks))=iN) (hV:Q5 (az 0 iN) cC vS) (hR:∀r new,R r new->(pQ r=true∧new.all EK=true)∧new.length=os.length)
  (h:∀r new,R r new->(ae (dL (iN.length+new.length)) (aI (·+iN.length) r)=true∧(iN++new.map (aG (·+iN.length))).all (af (dL (iN.length+new.length)))=true)∧
   K ({s with bx:=aQ s.bx (ks++os) ((iN++new.map (aG (·+iN.length))).map (aG (cN (ks++os))))}.put d (aI (cN (ks++os)) (aI (·+iN.length) r)))):aj P s d f args K t:=by
 refine aj.Wc ks os bf (ab.view hA hV λr new hr=>(hR r new hr).1) hg hn Nl ha hb Ze tB ?_;rintro r fp ⟨r0,new,hr,rfl,rfl⟩;have hl:iN.length=ks.length:=by rw[←tB,JeW];exact(df hg).1
 obtain⟨⟨h1,h2⟩,h3⟩:=h r0 new hr;have e:(iN++new.map (aG (·+iN.length))).length=iN.length+new.length:=by simp
 rw[e];exact⟨⟨by rw[JaV,hl,(hR r0 new hr).2],h1,h2⟩,h3⟩
def aj.gR {P:Program} [gQ] {s:St} {d:Option Nat} {f:FuncId} {args cC:WG} {iN:WD} {R:PV->WD->Prop} {K:UD} {t:Tg K} (ks os:Yx) (bf:WD) (hA:ab P f cC iN R) (hb:bf.all (af (cW ks))=true) (tB:bf.map (aG (bV ks))=iN) (h:∀r fp,R r fp->(fp.length=(ks++os).length∧ae (dL fp.length) r=true∧fp.all (af (dL fp.length))=true)∧K ({s with bx:=aQ s.bx (ks++os) (fp.map (aG (cN (ks++os))))}.put d (aI (cN (ks++os)) r))) (hg:getAll s.bx ks=some bf:=by simp[getAll]) (hn:(ks++os).Nodup:=by simp) (Nl:∀o∈os,get s.bx o=none:=by simp) (ha:al (cW ks) args=true:=by simp[al,ae,cW,idx]) (Ze:gI (bw (bV ks) args)=cC:=by simp[bw,aI,bV,idx]):aj P s d f args K t:=aj.Wc ks os bf hA hg hn Nl ha hb Ze tB h
end Go.Ab
namespace Go.Ab
variable [cM]
variable {P:Program} {Γ Δ:Cx}
inductive Nz:WG->WG->Prop
 |nil:Nz [] []
 |same (p:PV) {l m:WG}:Nz l m->Nz (p::l) (p::m)
 |sl (z z':Nat) (c c':Bool) {l m:WG}:(c'=true->c=true)->Nz l m->Nz (.sl z [] c::l) (.sl z' [] c'::m)
 |st (w:Nat) {l' m' l m:WG}:Nz l' m'->Nz l m->Nz (.st w l'::l) (.st w m'::m)
theorem Nz.refl:∀l,Nz l l
 |[]=> .nil
 |p::l=> .same p (Nz.refl l)
theorem Nz.rep {l m:WG} (h:Nz l m):∀ {cs:UE},aC Γ l cs->aC Γ m cs:=by
 induction h with
 |nil=>intro cs h;exact h
 |
  same p _ ih=>
  intro cs h
  obtain⟨c1,c2,rfl,h1,h2⟩:=h.pv
  exact h1.append (ih h2)
 |
  sl z z' c c' hc _ ih=>
  intro cs h
  cases h with
  |
   @sl _ _ JE _ _ _ ad bg h1 h2 h3 h4 h5 h6=>
   exact .sl z' [] c' ad bg h1 (by simp) h3 (λe=>h4 (hc e)) (λbY=>absurd rfl bY) (ih h6)
 |
  st w _ _ ih1 ih2=>
  intro cs h
  cases h with
  | @st _ vs JE _ _ h1 h2 h3=>exact .st w _ (ih1 h1) h2 (ih2 h3)
def Nz.length {l m:WG} (h:Nz l m):m.length=l.length:=by induction h<;>simp_all
theorem Nz.wid {l m:WG} {sz:Nat} (h:Nz l m):(∀x∈l,x.width=sz)->∀x∈m,x.width=sz:=by
 induction h with
 |nil=>intro h;exact h
 |
  same p _ ih=>
  intro h x hx
  rcases cJ.1 hx with rfl|hx
  ·exact h _ (by simp)
  ·exact ih (λy hy=>h y (by simp[hy])) x hx
 |
  sl z z' c c' _ _ ih=>
  intro h x hx
  rcases cJ.1 hx with rfl|hx
  ·exact h (.sl z [] c) (by simp)
  ·exact ih (λy hy=>h y (by simp[hy])) x hx
 |
  st w _ _ _ ih=>
  intro h x hx
  rcases cJ.1 hx with rfl|hx
  ·exact(h _ JkV:w=sz)
  ·exact ih (λy hy=>h y (by simp[hy])) x hx
theorem aN.nz {p q:PV} {v:Value} (h:Nz [p] [q]) (hr:aN Γ p v):aN Γ q v:=by
 generalize hl:[p]=l at h;generalize hm:[q]=m at h;cases h with
 |nil=>cases hl
 |same=>cases hl;cases hm;exact hr
 |
  sl z z' c c' hc ht=>
  cases hl;cases hm
  simp only[aN]at hr⊢
  exact(Nz.sl z z' c c' hc .nil).rep hr
 |
  st w h1 h2=>
  cases hl;cases hm
  obtain⟨cs,e,h⟩:=hr
  exact⟨cs,e,(Nz.st w h1 .nil).rep h⟩
theorem iK.nz {p q:PV} {v:Value} (h:Nz [p] [q]) (hr:iK Γ p v):iK Γ q v:=by
 generalize hl:[p]=l at h;generalize hm:[q]=m at h;cases h with
 |nil=>cases hl
 |same=>cases hl;cases hm;exact hr
 |
  sl z z' c c' hc ht=>
  cases hl;cases hm
  simp only[iK]at hr⊢
  exact(Nz.sl z z' c c' hc .nil).rep hr
 |
  st w h1 h2=>
  cases hl;cases hm
  obtain⟨cs,e,h⟩:=hr
  exact⟨cs,e,(Nz.st w h1 .nil).rep h⟩
inductive BN:aU->aU->Prop
 |same (b:aU):BN b b
 |arr (sz:Nat) {l m:WG}:Nz l m->BN (.arr sz l) (.arr sz m)
 |box {v w:PV}:Nz [v] [w]->BN (.box v) (.box w)
theorem BN.aD {b b':aU} (h:BN b b'):b'.aD=b.aD:=by
 cases h with
 |same=>rfl
 |arr sz h=>exact h.length
 |box h=>rfl
theorem BN.rep {b b':aU} {o:Option Nat} (h:BN b b') (hr:b.xe Γ o):b'.xe Γ o:=by
 cases h with
 |same=>exact hr
 |
  arr sz h=>
  obtain⟨h1,h2,h3⟩:=hr
  refine⟨h.wid h1,h2,?_⟩
  cases o with
  |none=>trivial
  |
   some b=>
   obtain⟨c,e,cs,rest,h4,h5,h6,h7⟩:=h3
   exact⟨c,e,cs,rest,h4,h5,h.rep h6,h7⟩
 |
  box h=>
  obtain⟨b,c,e,h1,h2,h3⟩:=hr
  exact⟨b,c,e,h1,h2,h.rep h3⟩
inductive ZW:WD->WD->Prop
 |nil:ZW [] []
 |cons {a b:aU} {l m:WD}:BN a b->ZW l m->ZW (a::l) (b::m)
theorem ZW.get {l m:WD} (h:ZW l m):∀n k,(∀b,Ab.get (az n l) k=some b->∃b',Ab.get (az n m) k=some b'∧BN b b')∧(∀b',Ab.get (az n m) k=some b'->∃b,Ab.get (az n l) k=some b∧BN b b'):=by
 induction h with
 |nil=>intro n k;exact⟨λb h=>by simp[az,Ab.get]at h,λb h=>by simp[az,Ab.get]at h⟩
 |
  cons h1 _ ih=>
  intro n k
  have ih:=ih (n+1) k
  simp only[az,Ab.get]
  by_cases e:KB+n=k
  ·simp only[e,if_true]
   exact⟨λb hb=>by cases hb;exact⟨_,rfl,h1⟩,λb hb=>by cases hb;exact⟨_,rfl,h1⟩⟩
  ·simp only[e,if_false];exact ih
def ZX {fp mW:WD} (hm:Mem Γ) (hb:Γ.bx=az 0 fp) (h:ZW fp mW):Mem {Γ with bx:=az 0 mW}∧Le Γ {Γ with bx:=az 0 mW}∧tW (λ_=>true) id Γ {Γ with bx:=az 0 mW}:=by
 have hg:=h.get 0
 have af9:∀x,({Γ with bx:=az 0 mW}:Cx).fM x->Γ.fM x:=by
  rintro x ⟨k,blk,h1,h2⟩;obtain⟨b,g1,_⟩:=(hg k).2 blk h1;exact⟨k,b,by rw[hb];exact g1,h2⟩
 have hs:tW (λ_=>true) id Γ {Γ with bx:=az 0 mW}:=by
  refine⟨rfl,λb _ hn ho=> ?_,λk blk _ hk=> ?_⟩
  ·rcases ho with ho|ho
   ·exact hn (.inl (af9 b ho))
   ·exact hn (.inr ho)
  ·rw[hb]at hk;obtain⟨b',g1,g2⟩:=(hg k).1 blk hk;exact⟨b',g1,g2.aD,rfl⟩
 have jf:∀k,(Ab.get (az 0 mW) k).isSome=true->(Ab.get Γ.bx k).isSome=true:=by
  intro k hk;obtain⟨b',e⟩:=JaZ.1 hk;obtain⟨b,g1,_⟩:=(hg k).2 b' e;rw[hb,g1];rfl
 have hle:Le Γ {Γ with bx:=az 0 mW}:=by
  refine⟨λ_ _ _=>rfl,λb _ h=>af9 b h,rfl,JaQ _,λk blk hk=> ?_⟩;rw[hb]at hk;obtain⟨b',g1,g2⟩:=(hg k).1 blk hk;exact⟨b',g1,Nat.le_of_eq g2.aD.symm,λ_=>⟨rfl,λb _ cs e hh=>⟨cs,hh,rfl⟩⟩⟩
 refine⟨⟨λk blk hk=> ?_,λi j b hi hj h1 h2=>hm.inj i j b (jf i hi) (jf j hj) h1 h2,hm.cI,λb h hp=>hm.apart b (af9 b h) hp,hm.kH hle⟩,hle,hs⟩;obtain⟨b,g1,g2⟩:=(hg k).2 blk hk;have:=(hm.blk k b (by rw[hb];exact g1)).aI hs (oD b);rw[HA (f:=λ_=>true) (oD b)]at this;exact g2.rep this
def aN.same {mW:WD} (hs:tW (λ_=>true) id Γ {Γ with bx:=az 0 mW}) {p:PV} {v:Value} (h:aN Γ p v):aN {Γ with bx:=az 0 mW} p v:=by
 have:=h.aI hs (lH p);rwa [xx (f:=λ_=>true) (lH p)]at this
def ab.nz {f:FuncId} {args:WG} {fp:WD} {R R':PV->WD->Prop} (h:ab P f args fp R) (hr:∀r En,R r En->∃r' fp2,Nz [r] [r']∧ZW En fp2∧R' r' fp2):ab P f args fp R':=by
 intro Γ w vs h1 h2 h3 h4;refine(h Γ w vs h1 h2 h3 h4).mono ?_;rintro e w' ⟨v,r,En,Γ',e1,e2,e3,e4,e5,e6,e7,e8⟩;obtain⟨r',fp2,n1,n2,n3⟩:=hr r En e2;obtain⟨m1,m2,m3⟩:=ZX e4 e5 n2;exact⟨v,r',fp2,{Γ' with bx:=az 0 fp2},e1,n3,e3,m1,rfl,(e6.nz n1).same m3,e7.trans m2,e8⟩
inductive Kk:WG->WG->Prop
 |nil:Kk [] []
 |cons {p q:PV} {l m:WG}:Nz [p] [q]->Kk l m->Kk (p::l) (q::m)
theorem Kk.refl:∀l,Kk l l
 |[]=> .nil
 |p::l=> .cons (.refl _) (Kk.refl l)
theorem Kk.all {mW:WD} (hs:tW (λ_=>true) id Γ {Γ with bx:=az 0 mW}) {l m:WG} (h:Kk l m):∀ {vs:UE},fE Γ l vs->fE {Γ with bx:=az 0 mW} m vs:=by
 induction h with
 |
  nil=>intro vs h;cases vs with
  |nil=>trivial
  |cons=>exact h.elim
 |
  cons h1 _ ih=>intro vs h;cases vs with
  |nil=>exact h.elim
  |cons v vs=>exact⟨(h.1.nz h1).same hs,ih h.2⟩
theorem Kk.axf {l m:WG} (h:Kk l m):∀ {vs:UE},jU Γ l vs->jU Γ m vs:=by
 induction h with
 |nil=>intro vs h;exact h
 |
  cons h1 _ ih=>intro vs h;cases vs with
  |nil=>exact h.elim
  |cons v vs=>exact⟨h.1.nz h1,ih h.2⟩
def ab.nzT {f:FuncId} {args:WG} {fp:WD} {R:PV->WD->Prop} {l l':WG} (h:ab P f args fp (λr mW=>r= .tup l∧mW=[])) (hl:Kk l l') (hR:R (.tup l') []):ab P f args fp R:=by
 intro Γ w vs h1 h2 h3 h4;refine(h Γ w vs h1 h2 h3 h4).mono ?_;rintro e w' ⟨v,r,En,Γ',e1,⟨rfl,rfl⟩,e3,e4,e5,e6,e7,e8⟩;obtain⟨us,hv,ha⟩:=e6;exact⟨v,_,_,Γ',e1,hR,e3,e4,e5,⟨us,hv,hl.axf ha⟩,e7,e8⟩
def ab.nzA {f:FuncId} {args cC:WG} {fp mW:WD} {R:PV->WD->Prop} (h:ab P f cC mW R) (ha:Kk args cC) (hb:ZW fp mW):ab P f args fp R:=by
 intro Γ w vs h1 h2 h3 h4;obtain⟨m1,m2,m3⟩:=ZX h2 h3 hb;have h4':=ha.all m3 h4;refine(h {Γ with bx:=az 0 mW} w vs h1 m1 rfl h4').mono ?_;rintro e w' ⟨v,r,En,Γ',e1,e2,e3,e4,e5,e6,e7,e8⟩;exact⟨v,r,En,Γ',e1,e2,e3,e4,e5,e6,m2.trans e7,e8⟩
end Go.Ab
