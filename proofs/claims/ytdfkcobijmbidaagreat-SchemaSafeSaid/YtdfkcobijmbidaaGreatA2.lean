/- Each quiet operation does what its abstract reading says. No condition. -/
import Derived.Test.YtdfkcobijmbidaaGreatA1
set_option linter.all false
namespace Go.Ab
variable [eg]
variable {P:Program} {nt:Nat} {ds:List Deferred} {s:St} {Γ:Cx} {a:Act} {w:World}
theorem aN.int {k:IntKind} {n:Int} {v:Value} (h:aN Γ (.int k n) v):v= .int k n:=by
 simp only[aN]at h;cases h;rfl
theorem aN.bl {x:Bool} {v:Value} (h:aN Γ (.bl x) v):v= .bool x:=by
 simp only[aN]at h;cases h;rfl
theorem aN.str {l:List UInt8} {v:Value} (h:aN Γ (.str l) v):∃s:ByteArray,v= .string s∧s.data.toList=l:=by
 simp only[aN]at h;cases h with|str l s h _=>exact⟨s,rfl,h⟩
theorem aN.np {v:Value} (h:aN Γ .np v):v= .pointer none:=by
 simp only[aN]at h;cases h;rfl
theorem aN.nf {v:Value} (h:aN Γ .nf v):v= .nilFunc:=by
 simp only[aN]at h;cases h;rfl
theorem aN.pt {k aC:Nat} {p:List Step} {v:Value} {blk:a9} (h:aN Γ (.pt k p aC) v) (hg:get Γ.bx k=some blk) (ht:aC=blk.aC):
  ∃b,Γ.ι k=some b∧v= .pointer (some ⟨b,cW p,none⟩):=by
 simp only[aN]at h
 cases h with
 |
  pt k p aC v cB kQ h1 hv _=>
  rw[hg]at kQ
  obtain⟨h2,h3⟩:=kQ
  cases h2
  exact hv ht
theorem aN.rs {k off len aC sz:Nat} {c:jb} {p:List Step} {v:Value} {blk:a9} (h:aN Γ (.rs k p off len aC sz c) v) (hg:get Γ.bx k=some blk) (ht:aC=blk.aC):
  ∃a bu,v= .slice a len bu∧jc Γ k p off len sz c a bu:=by
 simp only[aN]at h
 cases h with
 |
  rs k p off len aC sz c v cB kQ h1 hv _=>
  rw[hg]at kQ
  obtain⟨h2,h3⟩:=kQ
  cases h2
  exact hv ht
theorem aN.fp {sz:Nat} {l:List PV} {p:List Step} {v:Value} (h:aN Γ (.fp sz l p) v):
  ∃b o cs,v= .pointer (some ⟨b,o+cW p,none⟩)∧aD Γ l cs∧(∀x∈l,x.width=sz)∧(b<Γ.heap.size∧¬Γ.own b)∧∀i c,cs[i]? =some c->cell Γ.heap b (o+i)=some c:=by
 simp only[aN]at h
 cases h with
 | @fp _ _ cs sz l p b o hl hw hm hc _=>exact⟨b,o,cs,rfl,hl,hw,hm,hc⟩
theorem aN.sl {sz:Nat} {l:List PV} {clip:Bool} {v:Value} (h:aN Γ (.sl sz l clip) v):
  ∃
   a bu cs,v= .slice a l.length bu∧aD Γ l cs∧(∀x∈l,x.width=sz)∧l.length≤bu∧(clip=true->bu=l.length)∧
   (l≠[]->∃b o,a=some ⟨b,o,none⟩∧b<Γ.heap.size∧¬Γ.own b∧∀i c,cs[i]? =some c->cell Γ.heap b (o+i)=some c):=by
 simp only[aN]at h
 cases h with
 | @sl _ _ cs sz l clip a bu hl hw hc hk hb _=>exact⟨a,bu,cs,rfl,hl,hw,hc,hk,hb⟩
theorem aN.fn {f:Fn} {first cap:List PV} {v:Value} (h:aN Γ (.fn f first cap) v):
  ∃fs cs:List Value,v= .func f fs.toArray cs.toArray∧aD Γ first fs∧aD Γ cap cs∧(∀x∈first,x.isAgg=false)∧(∀x∈cap,x.isAgg=false):=by
 simp only[aN]at h
 cases h with
 | @fn _ _ fs cs f first cap h1 h2 h3 h4 _=>exact⟨fs,cs,rfl,h1,h2,h3,h4⟩
theorem aN.rf {p:PV} {cs:List Value} (h:aD Γ [p] cs) (fc:p.isAgg=true):aN Γ p (.agg cs.toArray):=by
 cases p<;>simp[PV.isAgg]at fc
 ·exact⟨cs,rfl,h⟩
 ·exact⟨cs,rfl,h⟩
theorem aN.CM {p:PV} {v:Value} (h:aD Γ [p] [v]) (fc:p.isAgg=false):aN Γ p v:=by
 cases p<;>simp[PV.isAgg]at fc<;>first|exact h|trivial|(cases h;done)
theorem aN.cells {p:PV} {v:Value} (h:aN Γ p v) (fc:p.isAgg=true):∃cs:List Value,v= .agg cs.toArray∧aD Γ [p] cs:=by
 cases p<;>simp[PV.isAgg]at fc
 ·exact h
 ·exact h
theorem aN.yV {p:PV} {v:Value} (h:aN Γ p v) (hc:p.bj=true):aD Γ [p] v.cells.toList:=by
 cases p<;>simp[PV.bj]at hc
 case st w l=>obtain⟨cs,rfl,h⟩:=h;simpa[Value.cells]using h
 case ar sz n l=>obtain⟨cs,rfl,h⟩:=h;simpa[Value.cells]using h
 all_goals
  simp only[aN]at h
  have h1:=h.one v (by simp)
  have:v.cells= #[v]:=by cases v<;>simp_all [fY,Value.cells]
  rw[this];exact h
theorem PG {v:Value} {p:PV} (h:trV v=some p):aN Γ p v:=by
 unfold trV at h
 split at h<;>simp only[sJ,reduceCtorEq]at h<;>subst h<;>simp only[aN]
 ·exact .bl _ .nil
 ·exact .int _ _ .nil
 ·exact .str _ _ rfl .nil
 ·exact .np .nil
 ·exact .sl 0 [] true none 0 .nil (by simp) (Nat.le_refl _) (λ_=>rfl) (λh=>absurd rfl h) .nil
 ·exact .nf .nil
 ·exact .ni .nil
theorem vH {x:Operand} {y:AX} (h:gq x=some y) (hs:hU nt ds s Γ a):aN Γ (vx s y) (a.eval x):=by
 cases x with
 |
  tmp t=>
  simp only[gq,sJ]at h
  subst h
  simp only[vx,Act.eval]
  cases hg:get s.env t with
  |none=>simp[aN]
  |some p=>simpa using hs.env t p hg
 |
  const v=>
  simp only[gq]at h
  split at h
  ·rename_i p hp
   simp only[sJ]at h;subst h
   exact PG hp
  ·exact absurd h (by simp)
 |global g=>simp[gq]at h
 |
  func f=>
  simp only[gq,sJ]at h
  subst h
  simp only[vx,Act.eval,aN]
  simpa using aD.fn (Γ:=Γ) (fs:=[]) (cs:=[]) (.func f) [] [] .nil .nil (by simp) (by simp) .nil
theorem cO {g:Bool} {x:Operand} {y:AX} {K:PV->Prop} (h:gq x=some y) (hs:hU nt ds s Γ a) (hg:g=true) (hv:vg g s y K):
  ∃p,K p∧aN Γ p (a.eval x):=by
 have hr:=vH h hs
 unfold vg at hv
 split at hv
 ·rename_i b p hb
  rw[hb]at hr
  exact⟨p,hv.2,by rw[aN]at hr;exact hr.1 (hv.1 hg)⟩
 ·exact⟨_,hv,hr⟩
theorem ua {g:Bool} (hs:hU nt ds s Γ a) (hg:g=true):∀ {xs:List Operand} {ys:List AX} {K:List PV->Prop},qg xs=some ys->s8 g s ys K->
  ∃ps,K ps∧ps.length=xs.length∧∀(i:Nat) p x,ps[i]? =some p->xs[i]? =some x->aN Γ p (a.eval x)
 |
  [],ys,K,h,hv=>by
  simp only[qg,sJ]at h;subst h
  exact⟨[],hv,rfl,by simp⟩
 |
  x::xs,ys,K,h,hv=>by
  simp only[qg]at h
  split at h
  ·rename_i y l hy hl
   simp only[sJ]at h;subst h
   obtain⟨p,hp,hr⟩:=cO hy hs hg hv
   obtain⟨ps,tU,hlen,ff⟩:=ua hs hg hl hp
   refine⟨p::ps,tU,by simp[hlen],λi q z h1 h2=> ?_⟩
   cases i with
   |zero=>simp at h1 h2;subst h1 h2;exact hr
   |succ i=>simp at h1 h2;exact ff i q z h1 h2
  ·exact absurd h (by simp)
theorem ye {g:Bool} (hs:hU nt ds s Γ a) (hg:g=true):∀ {xs:List (Nat×Operand)} {ys:List (Nat×AX)} {K:List (Nat×PV)->Prop},nu xs=some ys->yd g s ys K->
  ∃ps,K ps∧ps.length=xs.length∧∀(i:Nat) j p k x,ps[i]? =some (j,p)->xs[i]? =some (k,x)->j=k∧aN Γ p (a.eval x)
 |
  [],ys,K,h,hv=>by
  simp only[nu,sJ]at h;subst h
  exact⟨[],hv,rfl,by simp⟩
 |
  (n,x)::xs,ys,K,h,hv=>by
  simp only[nu]at h
  split at h
  ·rename_i y l hy hl
   simp only[sJ]at h;subst h
   obtain⟨p,hp,hr⟩:=cO hy hs hg hv
   obtain⟨ps,tU,hlen,ff⟩:=ye hs hg hl hp
   refine⟨(n,p)::ps,tU,by simp[hlen],λi j q k z h1 h2=> ?_⟩
   cases i with
   |zero=>simp at h1 h2;obtain⟨rfl,rfl⟩:=h1;obtain⟨rfl,rfl⟩:=h2;exact⟨rfl,hr⟩
   |succ i=>simp at h1 h2;exact ff i j q k z h1 h2
  ·exact absurd h (by simp)
theorem gD {p:PV} {K:Int->Prop} {v:Value} (h:mc p K) (hr:aN Γ p v):∃k n,v= .int k n∧K n:=by
 unfold mc at h
 split at h
 ·exact⟨_,_,hr.int,h⟩
 ·exact h.elim
def ix (P:Program) (Γ:Cx) (w:World) (x:Sem Value) (K:PV->Prop):Prop:=
 ∃p v,K p∧x.run P w= .ok v w∧aN Γ p v
theorem ix.pure {K:PV->Prop} {p:PV} {v:Value} (h:K p) (hr:aN Γ p v):ix P Γ w (Pure.pure v) K:=⟨p,v,h,rfl,hr⟩
theorem jA {x:Bool}:aN Γ (.bl x) (.bool x):=by simp only[aN];exact .bl _ .nil
theorem dU {k:IntKind} {n:Int}:aN Γ (.int k n) (.int k n):=by simp only[aN];exact .int _ _ .nil
theorem Lg {b:ByteArray}:aN Γ (.str b.data.toList) (.string b):=by simp only[aN];exact .str _ _ rfl .nil
theorem vI {b:ByteArray} {l:List UInt8} (h:b.data.toList=l):aN Γ (.str l) (.string b):=by subst h;exact Lg
theorem rh (b:ByteArray):b.toList=b.data.toList:=by rw[ByteArray.toList_eq]
theorem PH {op:BinOp} {t:TypeId} {k k':IntKind} {m n:Int} {K:PV->Prop} (hk:op= .shl∨op= .shr∨k=k') (h:oB op k m n K):
  ix P Γ w (binOp op t (.int k m) (.int k' n)) K:=by
 rcases hk with rfl|rfl|rfl
 ·obtain⟨h1,h2⟩:=h
  refine⟨_,_,h2,?_,dU⟩
  simp only[binOp,Op.shift]
  rw[if_neg (by omega)];rfl
 ·obtain⟨h1,h2⟩:=h
  refine⟨_,_,h2,?_,dU⟩
  simp only[binOp,Op.shift]
  rw[if_neg (by omega)];rfl
 ·cases op<;>simp only[oB]at h
  case quo=>exact⟨_,_,h.2,by simp[binOp,Op.intDiv,h.1],dU⟩
  case rem=>exact⟨_,_,h.2,by simp[binOp,Op.intDiv,h.1],dU⟩
  case shl=>exact⟨_,_,h.2,by simp only[binOp,Op.shift];rw[if_neg (by omega)];rfl,dU⟩
  case shr=>exact⟨_,_,h.2,by simp only[binOp,Op.shift];rw[if_neg (by omega)];rfl,dU⟩
  case andNot=>exact⟨_,_,h,by rw[binOp_andNot];rfl,dU⟩
  case and=>exact⟨_,_,h,by rw[binOp_and];rfl,dU⟩
  case or=>exact⟨_,_,h,by rw[binOp_or];rfl,dU⟩
  case xor=>exact⟨_,_,h,by rw[binOp_xor];rfl,dU⟩
  case add=>exact⟨_,_,h,by rw[binOp_add];rfl,dU⟩
  case sub=>exact⟨_,_,h,by rw[binOp_sub];rfl,dU⟩
  case mul=>exact⟨_,_,h,by rw[binOp_mul];rfl,dU⟩
  all_goals exact⟨_,_,h,by simp[binOp,Op.intCmp],jA⟩
theorem PI {op:BinOp} {t:TypeId} {x y:ByteArray} {K:PV->Prop} (h:yT op x.data.toList y.data.toList K):
  ix P Γ w (binOp op t (.string x) (.string y)) K:=by
 cases op<;>simp only[yT]at h<;>first|exact h.elim|skip
 case add=>
  refine⟨_,_,h.2,?_,vI (b:=x++y) (by simp)⟩
  have:¬((x.size+y.size:Nat):Int)>IntKind.i64.max:=by
   have h1:=h.1
   have e1:x.data.toList.length=x.size:=Array.length_toList
   have e2:y.data.toList.length=y.size:=Array.length_toList
   have e3:IntKind.i64.max=9223372036854775807:=by decide
   omega
  simp only[binOp,Op.stringOp]
  rw[if_neg this];rfl
 all_goals
  refine⟨_,_,h,?_,jA⟩
  simp[binOp,Op.stringOp,rh]
end Go.Ab
namespace Go.Ab
variable [eg]
variable {P:Program} {nt:Nat} {ds:List Deferred} {s:St} {Γ:Cx} {a:Act} {w:World}
theorem yW {l:List PV} {sz:Nat} {p:List Step} {u:PV} {cs:List Value} (h:aD Γ l cs) (hw:∀x∈l,x.width=sz) (hg:mb (.arr sz l) p=some u):
  cW p+u.width≤cs.length∧aD Γ [u] ((cs.drop (cW p)).take u.width):=by
 cases p with
 |nil=>simp[mb]at hg
 |
  cons x p=>
  cases x with
  |f i o=>simp[mb]at hg
  |
   i j s=>
   simp only[mb]at hg
   split at hg
   ·rename_i hs
    subst hs
    split at hg
    ·rename_i c hc
     have h3:=h.at hc
     obtain⟨h4,h5⟩:=px p h3 hg
     have h6:=h3.iw
     have:=yO h hc (by omega) rfl h5
     have hj:=(List.getElem?_eq_some_iff.1 hc).1
     rw[ie hw (by omega)]at this
     simpa[cW]using this
    ·exact absurd hg (by simp)
   ·exact absurd hg (by simp)
  |
   w o n s=>
   simp only[mb]at hg
   split at hg
   ·rename_i hs
    obtain⟨rfl,hs⟩:=hs
    obtain⟨h1,h2⟩:=h.nY hw hs
    have SE:=h1.Tr (sz:=s) (n:=n) (by rw[lJ,List.length_drop,Nat.min_eq_left (by omega)]) (λx hx=>hw x (List.mem_of_mem_drop (List.mem_of_mem_take hx)))
    obtain⟨h3,h4⟩:=px p SE hg
    rw[lJ,List.length_drop]at h3
    rw[kJ _ _ _ _ _ (by omega)]at h4
    refine⟨by simp only[cW];omega,by simpa only[cW]using h4⟩
   ·exact absurd hg (by simp)
theorem mf {heap:Array Obj} {b o:Nat} {cs:List Value} (h:∀i c,cs[i]? =some c->cell heap b (o+i)=some c) (p n:Nat):
  ∀i c,((cs.drop p).take n)[i]? =some c->cell heap b (o+p+i)=some c:=by
 intro i c hc
 rw[List.getElem?_take]at hc
 split at hc
 ·rw[List.getElem?_drop]at hc
  have:=h _ _ hc
  rwa [Nat.add_assoc]
 ·exact absurd hc (by simp)
theorem lr {heap:Array Obj} {b:Nat} {c:Array Value} {e:TypeId} {fr:Nat×Nat} (h:heap[b]? =some (.cells c e fr)) (cs rest:List Value) (hc:c.toList=cs++rest):
  ∀i x,cs[i]? =some x->cell heap b (0+i)=some x:=by
 intro i x hx
 simp only[cell,h,Nat.zero_add]
 have hi:=(List.getElem?_eq_some_iff.1 hx).1
 rw[←Array.getElem?_toList,hc,List.getElem?_append_left hi,hx]
theorem Mem.at (hm:Mem Γ) {k b:Nat} {blk:a9} {p:List Step} {u:PV} (hg:get Γ.bx k=some blk) (hb:Γ.ι k=some b) (hu:mb blk p=some u):
  ∃cs,aD Γ [u] cs∧∀i c,cs[i]? =some c->cell Γ.heap b (cW p+i)=some c:=by
 have h:=hm.blk k blk hg
 cases blk with
 |
  box v=>
  obtain⟨b',c,e,h1,h2,h3⟩:=h
  rw[hb]at h1;cases h1
  obtain⟨h4,h5⟩:=px p h3 (by simpa[mb]using hu)
  refine⟨_,h5,?_⟩
  have:=mf (lr h2 c.toList [] (by simp)) (cW p) u.width
  simpa using this
 |
  arr sz l=>
  obtain⟨h1,h2,h3⟩:=h
  rw[hb]at h3
  obtain⟨c,e,cs,rest,h4,h5,h6,_⟩:=h3
  obtain⟨h7,h8⟩:=yW h6 h1 hu
  refine⟨_,h8,?_⟩
  have:=mf (lr h4 cs rest h5) (cW p) u.width
  simpa using this
 |map b0 ks vs l=>simp[mb]at hu
theorem cell?_eq (w:World) (b o:Nat):w.cell? ⟨b,o,none⟩=cell w.heap b o:=by
 simp only[World.cell?,cell]
 split<;>simp_all
theorem rU {t:TypeId} {g:Bool} (h:lq P t=some g):(isAgg t).run P w= .ok g w:=by
 unfold lq at h
 split at h<;>simp only[sJ,reduceCtorEq]at h
 ·rename_i fs hu;subst h;simp[isAgg,run_underlying hu]
 ·rename_i n e hu;subst h;simp[isAgg,run_underlying hu]
 ·rename_i d h1 h2 hu;subst h
  simp only[isAgg,bJ,run_underlying hu,rJ]
  try split
  all_goals simp_all
theorem run_sizeOf {t:TypeId} {n:Nat} (h:gx P t=some n):(sizeOf t).run P w= .ok n w:=by
 unfold gx at h
 split at h<;>simp only[sJ,reduceCtorEq]at h
 rename_i i hi;subst h
 simp[sizeOf,typeInfo,hi]
theorem ji (b o n:Nat):Addr.add ⟨b,o,none⟩ n=⟨b,o+n,none⟩:=by
 simp only[Addr.add];split
 ·subst_vars;rfl
 ·rfl
theorem w6 {t:TypeId} {u:PV} {cs:List Value} {b o:Nat} (hr:aD Γ [u] cs) (hc:∀i c,cs[i]? =some c->cell w.heap b (o+i)=some c)
  (hg:lq P t=some u.isAgg) (hn:gx P t=some u.width):∃v,(loadVar t ⟨b,o,none⟩).run P w= .ok v w∧aN Γ u v:=by
 have hl:=hr.iw
 cases ha:u.isAgg with
 |
  true=>
  refine⟨.agg cs.toArray,?_,aN.rf hr ha⟩
  rw[ha]at hg
  simp only[loadVar,bJ,rU hg,rJ,if_true,run_sizeOf hn]
  rw[←hl,run_loadCells_list w ⟨b,o,none⟩ cs (λj v hj=>by rw[ji,cell?_eq];exact hc j v hj)]
  rfl
 |
  false=>
  have h1:u.width=1:=by cases u<;>simp[PV.isAgg]at ha<;>rfl
  rw[h1]at hl
  obtain⟨v,rfl⟩:=List.length_eq_one_iff.1 hl
  refine⟨v,?_,aN.CM hr ha⟩
  rw[ha]at hg
  have:=hc 0 v rfl
  simp only[loadVar,bJ,rU hg,rJ,fJ,if_false,run_load,cell?_eq]
  rw[Nat.add_zero]at this
  rw[this]
theorem Ed {t:TypeId} {x:Operand} {y:AX} {g:Bool} {G:Bool} {n:Nat} {K:PV->Prop} (hx:gq x=some y) (hs:hU nt ds s Γ a) (hw:w.heap=Γ.heap) (hG:G=true)
  (ha:lq P t=some g) (hn:gx P t=some n) (he:ev G s (.load g n y) K):ix P Γ w (Instr.loadAt t (a.eval x)) K:=by
 simp only[ev]at he
 obtain⟨p,hp,hr⟩:=cO hx hs hG he
 split at hp
 ·rename_i k p aC
  split at hp
  ·rename_i blk hb
   split at hp
   ·rename_i u hu
    obtain⟨⟨h1,h2,h3⟩,hK⟩:=hp
    rw[←hs.bx]at hb
    obtain⟨b,hι,hv⟩:=hr.pt hb h1
    obtain⟨cs,BA,AP⟩:=hs.mem.at hb hι hu
    obtain⟨v,vy,qM⟩:=w6 (P:=P) (w:=w) (b:=b) (o:=cW p) BA (by rw[hw];exact AP) (by rw[h3];exact ha) (by rw[h2];exact hn)
    exact⟨u,v,hK,by rw[hv];simpa[Instr.loadAt,Instr.sureAddr]using vy,qM⟩
   ·exact hp.elim
  ·exact hp.elim
 ·rename_i sz l p
  split at hp
  ·rename_i u hu
   obtain⟨⟨h2,h3⟩,hK⟩:=hp
   obtain⟨b,o,cs,hv,hl,lX,hm,hc⟩:=hr.fp
   obtain⟨h4,h5⟩:=yW hl lX hu
   obtain⟨v,vy,qM⟩:=w6 (P:=P) (w:=w) (b:=b) (o:=o+cW p) h5 (by rw[hw];exact mf hc (cW p) u.width) (by rw[h3];exact ha) (by rw[h2];exact hn)
   exact⟨u,v,hK,by rw[hv];simpa[Instr.loadAt,Instr.sureAddr]using vy,qM⟩
  ·exact hp.elim
 ·exact hp.elim
theorem aN.Lh {k b aC:Nat} {p:List Step} {blk:a9} (hb:get Γ.bx k=some blk) (ht:aC=blk.aC) (hι:Γ.ι k=some b) {o:Nat} (ho:o=cW p):
  aN Γ (.pt k p aC) (.pointer (some ⟨b,o,none⟩)):=by
 subst ho
 simp only[aN]
 exact .pt k p aC _ blk ⟨hb,by omega⟩ rfl (λ_=>⟨b,hι,rfl⟩) .nil
theorem aN.PJ {sz b o:Nat} {l:List PV} {cs:List Value} {p:List Step} (hl:aD Γ l cs) (hw:∀x∈l,x.width=sz) (hm:b<Γ.heap.size∧¬Γ.own b)
  (hc:∀i c,cs[i]? =some c->cell Γ.heap b (o+i)=some c) {q:Nat} (hq:q=o+cW p):aN Γ (.fp sz l p) (.pointer (some ⟨b,q,none⟩)):=by
 subst hq
 simp only[aN]
 exact .fp sz l p b o hl hw hm hc .nil
theorem Gn {t:TypeId} {x:Operand} {y:AX} {G:Bool} {K:PV->Prop} {i m:Nat} {fs:Array Field} {f:Field} (hx:gq x=some y) (hs:hU nt ds s Γ a) (hG:G=true)
  (hu:P.underlying t=some (.struct fs)) (hf:fs[i]? =some f) (hn:gx P f.type=some (m+1)) (he:ev G s (.fieldA i f.offset y) K):
  ix P Γ w (Instr.fieldAt t (a.eval x) i) K:=by
 simp only[ev]at he
 obtain⟨p,hp,hr⟩:=cO hx hs hG he
 have key:∀b o,(Instr.fieldAt t (.pointer (some ⟨b,o,none⟩)) i).run P w= .ok (.pointer (some ⟨b,o+f.offset,none⟩)) w:=by
  intro b o
  simp only[Instr.fieldAt,bJ,run_underlying hu,rJ,hf,Instr.sureAddr,Sem.run_pure,fieldPlace,run_sizeOf hn]
  rw[if_neg (by omega)]
  simp[ji]
 split at hp
 ·rename_i k p aC
  split at hp
  ·rename_i blk hb
   rw[←hs.bx]at hb
   obtain⟨b,hι,hv⟩:=hr.pt hb hp.1
   exact⟨_,_,hp.2,by rw[hv];exact key _ _,.Lh hb hp.1 hι (by simp[lp,cW])⟩
  ·exact hp.elim
 ·rename_i sz l p
  obtain⟨b,o,cs,hv,hl,lX,hm,hc⟩:=hr.fp
  exact⟨_,_,hp,by rw[hv];exact key _ _,.PJ hl lX hm hc (by simp[lp,cW];omega)⟩
 ·exact hp.elim
theorem Ba {t e:TypeId} {x i:Operand} {y j:AX} {G:Bool} {K:PV->Prop} {n:Nat} (hx:gq x=some y) (hi:gq i=some j) (hs:hU nt ds s Γ a) (hG:G=true)
  (hu:P.underlying t=some (.slice e)) (hn:gx P e=some n) (he:ev G s (.indexA (.sl n) y j) K):ix P Γ w (Instr.indexAt t (a.eval x) (a.eval i)) K:=by
 simp only[ev]at he
 obtain⟨p,hp,hr⟩:=cO hx hs hG he
 obtain⟨q,hq,m7⟩:=cO hi hs hG hp
 obtain⟨k,m,hm,hK⟩:=gD hq m7
 rw[hm]
 have key:∀b o (len cap:Nat),0≤m->m<len->(Instr.indexAt t (.slice (some ⟨b,o,none⟩) len cap) (.int k m)).run P w= .ok (.pointer (some ⟨b,o+m.toNat*n,none⟩)) w:=by
  intro b o len cap h0 h1
  simp only[Instr.indexAt,asIntOf,bJ,Sem.run_pure,run_underlying hu,rJ]
  rw[if_pos ⟨h0,h1⟩]
  simp[run_sizeOf hn,ji]
 split at hK
 ·rename_i bB l clip
  obtain⟨⟨rfl,h0,h1⟩,hK⟩:=hK
  obtain⟨ad,bu,cs,hv,hl,lX,hc,hk,hb⟩:=hr.sl
  obtain⟨b,o,rfl,fZ,SF,lW⟩:=hb (by intro h;subst h;simp at h1;omega)
  rw[hv]
  exact⟨_,_,hK,key _ _ _ _ h0 h1,.PJ hl lX ⟨fZ,SF⟩ lW (by simp[cW])⟩
 ·rename_i kk p off len aC bB c
  split at hK
  ·rename_i blk hb
   obtain⟨⟨h1,rfl,h2,h3⟩,hK⟩:=hK
   rw[←hs.bx]at hb
   obtain⟨ad,bu,hv,dO⟩:=hr.rs hb h1
   unfold jc at dO
   cases hι:Γ.ι kk with
   |none=>rw[hι]at dO;omega
   |
    some b=>
    rw[hι]at dO
    obtain⟨h4,h5,_⟩:=dO
    rcases h5 with h5|rfl
    ·omega
    rw[hv]
    exact⟨_,_,hK,key _ _ _ _ h2 h3,.Lh hb h1 hι (by simp[lp,cW,Nat.add_mul];omega)⟩
  ·exact hK.elim
 ·exact hK.elim
theorem PK {t e:TypeId} {x:Operand} {y:AX} {G:Bool} {K:PV->Prop} {n sz:Nat} (hx:gq x=some y) (hs:hU nt ds s Γ a) (hG:G=true)
  (hu:P.underlying t=some (.array n e)) (he:ev G s (.s2a n sz y) K):ix P Γ w (Instr.arrayAt t (a.eval x)) K:=by
 simp only[ev]at he
 obtain⟨p,hp,hr⟩:=cO hx hs hG he
 have key:∀(ad:Option Addr) (len cap:Nat),n≤len->(Instr.arrayAt t (.slice ad len cap)).run P w= .ok (.pointer ad) w:=by
  intro ad len cap h
  simp only[Instr.arrayAt,bJ,run_underlying hu,rJ]
  rw[if_neg (by omega)];rfl
 split at hp
 ·rename_i bB l clip
  obtain⟨⟨rfl,h0,h1⟩,hK⟩:=hp
  obtain⟨ad,bu,cs,hv,hl,lX,hc,hk,hb⟩:=hr.sl
  obtain⟨b,o,rfl,fZ,SF,lW⟩:=hb (by intro h;subst h;simp at h1;omega)
  rw[hv]
  exact⟨_,_,hK,key _ _ _ h1,.PJ hl lX ⟨fZ,SF⟩ lW (by simp[cW])⟩
 ·rename_i kk p off len aC bB c
  split at hp
  ·rename_i blk hb
   obtain⟨⟨h1,rfl,h2,h3⟩,hK⟩:=hp
   rw[←hs.bx]at hb
   obtain⟨ad,bu,hv,dO⟩:=hr.rs hb h1
   unfold jc at dO
   cases hι:Γ.ι kk with
   |none=>rw[hι]at dO;omega
   |
    some b=>
    rw[hι]at dO
    obtain⟨h4,h5,_⟩:=dO
    rcases h5 with h5|rfl
    ·omega
    rw[hv]
    exact⟨_,_,hK,key _ _ _ h3,.Lh hb h1 hι (by simp[lp,cW])⟩
  ·exact hp.elim
 ·exact hp.elim
theorem Bb {t e:TypeId} {x i:Operand} {y j:AX} {G:Bool} {K:PV->Prop} {len n:Nat} (hx:gq x=some y) (hi:gq i=some j) (hs:hU nt ds s Γ a) (hG:G=true)
  (hu:P.underlying t=some (.array len e)) (hn:gx P e=some n) (he:ev G s (.indexA (.ar len n) y j) K):ix P Γ w (Instr.indexAt t (a.eval x) (a.eval i)) K:=by
 simp only[ev]at he
 obtain⟨p,hp,hr⟩:=cO hx hs hG he
 obtain⟨q,hq,m7⟩:=cO hi hs hG hp
 obtain⟨k,m,hm,⟨h0,h1⟩,hK⟩:=gD hq m7
 rw[hm]
 have key:∀b o,(Instr.indexAt t (.pointer (some ⟨b,o,none⟩)) (.int k m)).run P w= .ok (.pointer (some ⟨b,o+m.toNat*n,none⟩)) w:=by
  intro b o
  simp only[Instr.indexAt,asIntOf,bJ,Sem.run_pure,run_underlying hu,rJ,Instr.sureAddr]
  rw[if_pos ⟨h0,h1⟩]
  simp[run_sizeOf hn,ji]
 split at hK
 ·rename_i k p aC
  split at hK
  ·rename_i blk hb
   rw[←hs.bx]at hb
   obtain⟨b,hι,hv⟩:=hr.pt hb hK.1
   exact⟨_,_,hK.2,by rw[hv];exact key _ _,.Lh hb hK.1 hι (by simp[lp,cW])⟩
  ·exact hK.elim
 ·rename_i sz l p
  obtain⟨b,o,cs,hv,hl,lX,hm,hc⟩:=hr.fp
  exact⟨_,_,hK,by rw[hv];exact key _ _,.PJ hl lX hm hc (by simp[lp,cW];omega)⟩
 ·exact hK.elim
end Go.Ab
namespace Go.Ab
variable [eg]
variable {P:Program} {nt:Nat} {ds:List Deferred} {s:St} {Γ:Cx} {a:Act} {w:World}
theorem aN.gd {b:Bool} {p:PV} {v:Value} (h:aN Γ (.gd b p) v) (hb:b=true):aN Γ p v:=by
 rw[aN]at h;exact h.1 hb
theorem Li {c x y:Operand} {c' x' y':AX} {G:Bool} {K:PV->Prop} (hc:gq c=some c') (hx:gq x=some x') (hy:gq y=some y') (hs:hU nt ds s Γ a) (hG:G=true)
  (he:ev G s (.pick c' x' y') K):ix P Γ w (do Pure.pure (if←asBool (a.eval c)then a.eval x else a.eval y)) K:=by
 simp only[ev]at he
 obtain⟨p,hp,hr⟩:=cO hc hs hG he
 have rx:=vH hx hs
 have ry:=vH hy hs
 split at hp
 ·rename_i b
  have hb:=hr.bl
  have key:((do Pure.pure (if←asBool (a.eval c)then a.eval x else a.eval y):Sem Value)).run P w= .ok (if b then a.eval x else a.eval y) w:=by
   rw[hb];simp[asBool]
  split at hp<;>rename_i e1 e2<;>(try rw[e1]at rx)<;>(try rw[e2]at ry)
  ·refine⟨_,_,hp,key,?_⟩
   rw[rx.bl,ry.bl];cases b<;>exact jA
  ·refine⟨_,_,hp.2,key,?_⟩
   cases b with
   |true=>rw[rx.bl];exact jA
   |false=>rw[(ry.gd (hp.1 rfl)).bl];exact jA
  ·refine⟨_,_,hp.2,key,?_⟩
   cases b with
   |false=>rw[ry.bl];exact jA
   |true=>rw[(rx.gd (hp.1 rfl)).bl];exact jA
  ·refine⟨_,_,hp.2,key,?_⟩
   cases b with
   |false=>rw[(ry.gd (hp.1.2 rfl)).bl];exact jA
   |true=>rw[(rx.gd (hp.1.1 rfl)).bl];exact jA
  ·refine⟨_,_,hp.2,key,?_⟩
   rw[hp.1,rx.bl];exact jA
  ·refine⟨_,_,hp.2,key,?_⟩
   rw[hp.1,ry.bl];exact jA
  ·exact hp.elim
 ·exact hp.elim
theorem VS {op:UnOp} {x:Operand} {y:AX} {G:Bool} {K:PV->Prop} (hx:gq x=some y) (hs:hU nt ds s Γ a) (hG:G=true) (he:ev G s (.un op y) K):
  ix P Γ w (Op.unary op (a.eval x)) K:=by
 simp only[ev]at he
 obtain⟨p,hp,hr⟩:=cO hx hs hG he
 split at hp
 ·exact⟨_,_,hp,by rw[hr.bl];rfl,jA⟩
 ·exact⟨_,_,hp,by rw[hr.int];rfl,dU⟩
 ·exact⟨_,_,hp,by rw[hr.int];rfl,dU⟩
 ·exact hp.elim
theorem Jl {t d:TypeId} {k k':IntKind} {x:Operand} {y:AX} {G:Bool} {K:PV->Prop} (hx:gq x=some y) (hs:hU nt ds s Γ a) (hG:G=true)
  (ht:P.underlying t=some (.int k')) (hd:P.underlying d=some (.int k)) (he:ev G s (.convI k y) K):ix P Γ w (convert t d (a.eval x)) K:=by
 simp only[ev]at he
 obtain⟨p,hp,hr⟩:=cO hx hs hG he
 obtain⟨k2,n,hv,hK⟩:=gD hp hr
 exact⟨_,_,hK,by rw[hv];simp[convert,run_underlying ht,run_underlying hd,Conv.intToInt],dU⟩
theorem ub {p:PV} {l:List PV} {bs:List UInt8} (h:iA (p::l)=some bs):∃n r,p= .int .u8 n∧0≤n∧n<256∧iA l=some r∧bs=UInt8.ofNat n.toNat::r:=by
 cases p<;>(try (simp only[iA,reduceCtorEq]at h;done))
 rename_i k n
 cases k<;>(try (simp only[iA,reduceCtorEq]at h;done))
 simp only[iA]at h
 split at h
 ·rename_i hn
  split at h
  ·rename_i r hr
   simp only[sJ]at h
   exact⟨n,r,rfl,hn.1,hn.2,hr,h.symm⟩
  ·exact absurd h (by simp)
 ·exact absurd h (by simp)
theorem ri:∀ {l:List PV} {bs:List UInt8},iA l=some bs->bs.length=l.length
 |[],bs,h=>by simp[iA]at h;subst h;rfl
 |
  p::l,bs,h=>by
  obtain⟨n,r,_,_,_,hr,rfl⟩:=ub h
  simp[ri hr]
theorem Ee {l:List PV}:∀ {bs:List UInt8} {cs:List Value},aD Γ l cs->iA l=some bs->cs.length=bs.length∧∀(i:Nat) c,cs[i]? =some c->∃n,c= .int .u8 n∧∃b,bs[i]? =some b∧b=UInt8.ofNat n.toNat:=by
 induction l with
 |nil=>intro bs cs h hb;cases h;simp[iA]at hb;subst hb;simp
 |
  cons p l ih=>
  intro bs cs h hb
  obtain⟨n,r,rfl,h0,h1,hr,rfl⟩:=ub hb
  cases h with
  |
   int k n hl=>
   obtain⟨i1,i2⟩:=ih hl hr
   refine⟨by simp[i1],λi c hc=> ?_⟩
   cases i with
   |zero=>simp at hc;subst hc;exact⟨n,rfl,_,by simp,rfl⟩
   |succ i=>simp at hc;simpa using i2 i c hc
theorem oD {p:PV} {v:Value} {K:Nat->List PV->Prop} (hs:hU nt ds s Γ a) (h:content s p K) (hr:aN Γ p v):
  ∃sz l cs ad bu,K sz l∧v= .slice ad l.length bu∧aD Γ l cs∧(l≠[]->∃b o,ad=some ⟨b,o,none⟩∧∀i c,cs[i]? =some c->cell Γ.heap b (o+i)=some c)∧l.length≤bu∧∀x∈l,x.width=sz:=by
 unfold content at h
 split at h
 ·rename_i sz l clip
  obtain⟨ad,bu,cs,hv,hl,hw,hc,hk,hb⟩:=hr.sl
  exact⟨sz,l,cs,ad,bu,h,hv,hl,λfc=>let ⟨b,o,h1,_,_,h4⟩:=hb fc;⟨b,o,h1,h4⟩,hc,hw⟩
 ·rename_i k p off len aC sz c
  split at h
  ·rename_i bB l hb
   obtain⟨⟨h1,rfl,rfl,h4⟩,hK⟩:=h
   rw[←hs.bx]at hb
   obtain⟨ad,bu,hv,dO⟩:=hr.rs hb (by simpa[a9.aC]using h1)
   have kO:=hs.mem.blk k _ hb
   obtain⟨hw,iu,kO⟩:=kO
   unfold jc at dO
   have hlen:((l.drop off).take len).length=len:=by simp;omega
   cases hι:Γ.ι k with
   |
    none=>
    rw[hι]at dO kO
    obtain⟨rfl,rfl,_⟩:=dO
    exact⟨sz,_,[],ad,0,hK,by rw[hlen];exact hv,by simpa using aD.nil,by simp,by simp,by simp⟩
   |
    some b=>
    rw[hι]at dO kO
    obtain⟨c',e,cs,rest,h5,h6,h7,_⟩:=kO
    obtain⟨h8,h9,_⟩:=dO
    have A8:cs.length=l.length*sz:=by rw[h7.length,bP hw]
    have Ow:aD Γ ((l.drop off).take len) ((cs.drop (off*sz)).take (len*sz)):=by
     have e1:l=l.take off++((l.drop off).take len++(l.drop off).drop len):=by rw[List.take_append_drop,List.take_append_drop]
     rw[e1]at h7
     obtain⟨c1,v1,rfl,r1,r2⟩:=h7.split
     obtain⟨c2,v2,rfl,r3,r4⟩:=r2.split
     have l1:c1.length=off*sz:=by rw[r1.length,bP (λx hx=>hw x (List.mem_of_mem_take hx))];simp;rw[Nat.min_eq_left (by omega)]
     have l2:c2.length=len*sz:=by rw[r3.length,bP (λx hx=>hw x (List.mem_of_mem_drop (List.mem_of_mem_take hx))),hlen]
     rw[←l1,←l2];simpa using r3
    refine⟨sz,_,_,ad,bu,hK,by rw[hlen];exact hv,Ow,λfc=> ?_,by rw[hlen];exact h8,λx hx=>hw x (List.mem_of_mem_drop (List.mem_of_mem_take hx))⟩
    have:0<len:=by
     rcases Nat.eq_zero_or_pos len with h|h
     ·subst h;simp at fc
     ·exact h
    rcases h9 with h9|rfl
    ·omega
    refine⟨b,_,rfl,?_⟩
    have:=mf (lr h5 cs rest h6) (off*sz) (len*sz)
    simpa[cW]using this
  ·rename_i v' hb
   split at h
   ·rename_i bB n l HL
    obtain⟨⟨h1,rfl,h4⟩,hK⟩:=h
    rw[←hs.bx]at hb
    obtain⟨ad,bu,hv,dO⟩:=hr.rs hb (by simpa[a9.aC]using h1)
    unfold jc at dO
    cases hι:Γ.ι k with
    |
     none=>
     have kO:=hs.mem.blk k _ hb
     obtain⟨b,_,_,h5,_⟩:=kO
     rw[hι]at h5;exact absurd h5 (by simp)
    |
     some b=>
     rw[hι]at dO
     obtain⟨h8,h9,_⟩:=dO
     obtain⟨cs,BA,AP⟩:=hs.mem.at hb hι (by simpa[mb]using HL)
     obtain⟨hl,hn,hw⟩:=BA.nX
     have hlen:((l.drop off).take len).length=len:=by simp;omega
     have Ow:aD Γ ((l.drop off).take len) ((cs.drop (off*sz)).take (len*sz)):=by
      have e1:l=l.take off++((l.drop off).take len++(l.drop off).drop len):=by rw[List.take_append_drop,List.take_append_drop]
      rw[e1]at hl
      obtain⟨c1,v1,rfl,r1,r2⟩:=hl.split
      obtain⟨c2,v2,rfl,r3,r4⟩:=r2.split
      have l1:c1.length=off*sz:=by rw[r1.length,bP (λx hx=>hw x (List.mem_of_mem_take hx))];simp;rw[Nat.min_eq_left (by omega)]
      have l2:c2.length=len*sz:=by rw[r3.length,bP (λx hx=>hw x (List.mem_of_mem_drop (List.mem_of_mem_take hx))),hlen]
      rw[←l1,←l2];simpa using r3
     refine⟨sz,_,_,ad,bu,hK,by rw[hlen];exact hv,Ow,λfc=> ?_,by rw[hlen];exact h8,λx hx=>hw x (List.mem_of_mem_drop (List.mem_of_mem_take hx))⟩
     have:0<len:=by
      rcases Nat.eq_zero_or_pos len with h|h
      ·subst h;simp at fc
      ·exact h
     rcases h9 with h9|rfl
     ·omega
     refine⟨b,_,rfl,?_⟩
     exact mf AP (off*sz) (len*sz)
   ·exact h.elim
  ·exact h.elim
 ·exact h.elim
theorem Lj {f:Value->ByteArray->Sem (ForInStep ByteArray)} (hf:∀n s,f (.int .u8 n) s=Pure.pure (ForInStep.yield (s.push (UInt8.ofNat n.toNat)))):∀(cs:List Value) (bs:List UInt8) (acc:ByteArray),cs.length=bs.length->(∀(i:Nat) c,cs[i]? =some c->∃n,c= .int .u8 n∧∃b,bs[i]? =some b∧b=UInt8.ofNat n.toNat)->
  ∃r:ByteArray,(forIn (m:=Sem) cs acc f).run P w= .ok r w∧r.data.toList=acc.data.toList++bs:=by
 intro cs
 induction cs with
 |
  nil=>
  intro bs acc hl _
  have:bs=[]:=by simpa using hl.symm
  subst this
  exact⟨acc,by simp,by simp⟩
 |
  cons c cs ih=>
  intro bs acc hl h
  obtain⟨n,rfl,b,hb,rfl⟩:=h 0 c rfl
  cases bs with
  |nil=>simp at hl
  |
   cons b bs=>
   simp at hb;subst hb
   obtain⟨r,sG,m7⟩:=ih bs (acc.push (UInt8.ofNat n.toNat)) (by simpa using hl) (λi c hc=>by simpa using h (i+1) c (by simpa using hc))
   refine⟨r,?_,by rw[m7];simp⟩
   simp only[List.forIn_cons,hf,bJ,Sem.run_pure,rJ]
   exact sG
theorem Jm {t d e:TypeId} {x:Operand} {y:AX} {G:Bool} {K:PV->Prop} (hx:gq x=some y) (hs:hU nt ds s Γ a) (hw:w.heap=Γ.heap) (hG:G=true)
  (ht:P.underlying t=some (.slice e)) (hd:P.underlying d=some .string) (hee:P.underlying e=some (.int .u8)) (he:ev G s (.convS y) K):ix P Γ w (convert t d (a.eval x)) K:=by
 simp only[ev]at he
 obtain⟨p,hp,hr⟩:=cO hx hs hG he
 obtain⟨sz,l,cs,ad,bu,⟨rfl,hK⟩,hv,hl,lW,hle,_⟩:=oD hs hp hr
 split at hK
 ·rename_i bs HM
  obtain⟨h1,h2⟩:=Ee hl HM
  have hlen:l.length=cs.length:=by rw[h1,ri HM]
  have key:∃r:ByteArray,(Conv.bytesToString (a.eval x)).run P w= .ok (.string r) w∧r.data.toList=bs:=by
   rw[hv]
   cases KP:l with
   |
    nil=>
    subst KP
    simp at hlen
    have at2:bs=[]:=by
     simp[iA]at HM;exact HM
    subst at2
    refine⟨.empty,?_,rfl⟩
    cases ad with
    |none=>rfl
    |
     some ad=>
     simp only[Conv.bytesToString,List.length_nil,loadCells,loadCellsFrom,bJ,Sem.run_pure,rJ]
     simp
   |
    cons z zs=>
    obtain⟨b,o,rfl,hc⟩:=lW (by simp[KP])
    rw[←KP,hlen]
    simp only[Conv.bytesToString,bJ]
    rw[run_loadCells_list w ⟨b,o,none⟩ cs (λj v hj=>by rw[ji,cell?_eq,hw];exact hc j v hj)]
    simp only[rJ,←Array.forIn_toList]
    generalize hf:(λ(c:Value) (__s:ByteArray)=>(_:Sem (ForInStep ByteArray)))=f
    obtain⟨r,sG,m7⟩:=Lj (P:=P) (w:=w) (f:=f) (by intro n s;rw[←hf]) cs bs .empty h1 h2
    exact⟨r,by rw[sG];rfl,by simpa using m7⟩
  obtain⟨r,sG,m7⟩:=key
  refine⟨_,_,hK,?_,vI m7⟩
  rw[hv]at sG⊢
  simp[convert,run_underlying ht,run_underlying hd,run_underlying hee,sG]
 ·exact hK.elim
end Go.Ab
namespace Go.Ab
variable [eg]
variable {P:Program} {nt:Nat} {ds:List Deferred} {s:St} {Γ:Cx} {a:Act} {w:World}
theorem lI {x:Option Operand} {y:Option AX} (h:A4 x=some y):(x=none∧y=none)∨∃o z,x=some o∧y=some z∧gq o=some z:=by
 cases x with
 |none=>simp[A4]at h;exact .inl ⟨rfl,h.symm⟩
 |
  some o=>
  simp only[A4]at h
  split at h
  ·rename_i z hz;simp only[sJ]at h;exact .inr ⟨o,z,rfl,h.symm,hz⟩
  ·exact absurd h (by simp)
theorem rj {G b:Bool} {lo hi:Option Operand} {F0 lE:Option AX} {len cap tQ:Nat} {K:Nat->Nat->Prop} (hl:A4 lo=some F0) (hh:A4 hi=some lE) (hs:hU nt ds s Γ a) (hG:G=true)
  (BB:cap≤tQ) (hle:len≤cap) (h:j2 G s F0 lE len cap K):
  ∃l h,K l h∧l≤h∧h≤cap∧(Instr.sliceBounds b len tQ (lo.map a.eval) (hi.map a.eval) none).run P w= .ok (l,h,tQ) w:=by
 unfold j2 at h
 rcases lI hh with⟨rfl,rfl⟩|⟨ho,hz,rfl,rfl,hhx⟩<;>rcases lI hl with⟨rfl,rfl⟩|⟨lo1,lz,rfl,rfl,hlx⟩<;>simp only at h
 ·exact⟨0,len,h,Nat.zero_le _,hle,rfl⟩
 ·obtain⟨p,hp,hr⟩:=cO hlx hs hG h
  obtain⟨k,n,hv,⟨h0,h1⟩,hK⟩:=gD hp hr
  refine⟨n.toNat,len,hK,by omega,hle,?_⟩
  simp only[Instr.sliceBounds,Option.map_none,Option.map_some,hv,Instr.sliceBound,asIntOf,bJ,Sem.run_pure,rJ]
  rw[if_pos ⟨h0,h1⟩];rfl
 ·obtain⟨p,hp,hr⟩:=cO hhx hs hG h
  obtain⟨k,n,hv,⟨h0,h1⟩,hK⟩:=gD hp hr
  refine⟨0,n.toNat,hK,Nat.zero_le _,by omega,?_⟩
  simp only[Instr.sliceBounds,Option.map_none,Option.map_some,hv,Instr.sliceBound,asIntOf,bJ,Sem.run_pure,rJ]
  rw[if_pos ⟨h0,by omega⟩];rfl
 ·obtain⟨p,hp,hr⟩:=cO hhx hs hG h
  obtain⟨k,n,hv,⟨h0,h1⟩,hK⟩:=gD hp hr
  obtain⟨p2,sH,m7⟩:=cO hlx hs hG hK
  obtain⟨k2,n2,qM,⟨h2,h3⟩,sX⟩:=gD sH m7
  refine⟨n2.toNat,n.toNat,sX,by omega,by omega,?_⟩
  simp only[Instr.sliceBounds,Option.map_some,hv,qM,Instr.sliceBound,asIntOf,bJ,Sem.run_pure,rJ]
  rw[if_pos ⟨h0,by omega⟩]
  simp only[Sem.run_pure,rJ]
  rw[if_pos ⟨h2,by omega⟩];rfl
theorem uc {G:Bool} {lo hi:Option Operand} {F0 lE:Option AX} {mo:Operand} {m:Int} {km:IntKind} {len tQ:Nat} {K:Nat->Nat->Prop} (hl:A4 lo=some F0) (hh:A4 hi=some lE) (hhi:lE.isSome=true) (hs:hU nt ds s Γ a) (hG:G=true)
  (hm:a.eval mo= .int km m) (Ox:0≤m) (Pw:m≤tQ) (h:j2 G s F0 lE len m.toNat K):
  ∃l h,K l h∧l≤h∧h≤m.toNat∧(Instr.sliceBounds true len tQ (lo.map a.eval) (hi.map a.eval) (some (a.eval mo))).run P w= .ok (l,h,m.toNat) w:=by
 unfold j2 at h
 rcases lI hh with⟨rfl,rfl⟩|⟨ho,hz,rfl,rfl,hhx⟩
 ·simp at hhi
 rcases lI hl with⟨rfl,rfl⟩|⟨lo1,lz,rfl,rfl,hlx⟩<;>simp only at h
 ·obtain⟨p,hp,hr⟩:=cO hhx hs hG h
  obtain⟨k,n,hv,⟨h0,h1⟩,hK⟩:=gD hp hr
  refine⟨0,n.toNat,hK,Nat.zero_le _,by omega,?_⟩
  simp only[Instr.sliceBounds,Option.map_none,Option.map_some,hv,hm,Instr.sliceBound,asIntOf,bJ,Sem.run_pure,rJ]
  rw[if_pos ⟨Ox,Pw⟩]
  simp only[Sem.run_pure,rJ]
  rw[if_pos ⟨h0,by omega⟩];rfl
 ·obtain⟨p,hp,hr⟩:=cO hhx hs hG h
  obtain⟨k,n,hv,⟨h0,h1⟩,hK⟩:=gD hp hr
  obtain⟨p2,sH,m7⟩:=cO hlx hs hG hK
  obtain⟨k2,n2,qM,⟨h2,h3⟩,sX⟩:=gD sH m7
  refine⟨n2.toNat,n.toNat,sX,by omega,by omega,?_⟩
  simp only[Instr.sliceBounds,Option.map_some,hv,qM,hm,Instr.sliceBound,asIntOf,bJ,Sem.run_pure,rJ]
  rw[if_pos ⟨Ox,Pw⟩]
  simp only[Sem.run_pure,rJ]
  rw[if_pos ⟨h0,by omega⟩]
  simp only[Sem.run_pure,rJ]
  rw[if_pos ⟨h2,by omega⟩];rfl
theorem Bc {t:TypeId} {x:Operand} {lo hi mx:Option Operand} {x':AX} {F0 lE La:Option AX} {G:Bool} {K:PV->Prop} (hx:gq x=some x') (hl:A4 lo=some F0) (hh:A4 hi=some lE) (hm:A4 mx=some La)
  (hs:hU nt ds s Γ a) (hG:G=true) (hu:P.underlying t=some .string) (he:ev G s (.slice .str x' F0 lE La) K):
  ix P Γ w (Instr.sliceAt t (a.eval x) (lo.map a.eval) (hi.map a.eval) (mx.map a.eval)) K:=by
 simp only[ev]at he
 obtain⟨p,hp,hr⟩:=cO hx hs hG he
 split at hp
 ·rename_i bs
  obtain⟨str,hv,hd⟩:=hr.str
  obtain⟨hmx,hp⟩:=hp
  rcases lI hm with⟨rfl,rfl⟩|⟨o,z,rfl,rfl,_⟩
  rotate_left
  ·simp at hmx
  have iu:bs.length=str.size:=by rw[←hd];exact Array.length_toList
  obtain⟨l,h,hK,h1,h2,h3⟩:=rj (P:=P) (w:=w) (b:=false) hl hh hs hG (Nat.le_refl _) (Nat.le_refl _) hp
  refine⟨_,.string (str.extract l h),hK,?_,vI ?_⟩
  ·rw[hv]
   rw[iu]at h3
   simp only[Instr.sliceAt,Instr.slice,bJ,run_underlying hu,rJ,Option.map_none,Option.isSome_none,fJ,if_false,h3]
   rfl
  ·rw[←hd]
   simp[List.drop_take]
 ·exact hp.elim
theorem aD.sub {l:List PV} {sz:Nat} {cs:List Value} (h:aD Γ l cs) (hw:∀x∈l,x.width=sz) (lo hi:Nat) (HN:lo≤hi) (hhi:hi≤l.length):
  aD Γ ((l.take hi).drop lo) ((cs.drop (lo*sz)).take ((hi-lo)*sz)):=by
 have e0:(l.take hi).drop lo=(l.drop lo).take (hi-lo):=by rw[List.drop_take]
 rw[e0]
 have e1:l=l.take lo++((l.drop lo).take (hi-lo)++(l.drop lo).drop (hi-lo)):=by rw[List.take_append_drop,List.take_append_drop]
 rw[e1]at h
 obtain⟨c1,v1,rfl,r1,r2⟩:=h.split
 obtain⟨c2,v2,rfl,r3,r4⟩:=r2.split
 have l1:c1.length=lo*sz:=by rw[r1.length,bP (λx hx=>hw x (List.mem_of_mem_take hx))];simp;rw[Nat.min_eq_left (by omega)]
 have l2:c2.length=(hi-lo)*sz:=by rw[r3.length,bP (λx hx=>hw x (List.mem_of_mem_drop (List.mem_of_mem_take hx)))];simp;rw[Nat.min_eq_left (by omega)]
 rw[←l1,←l2];simpa using r3
theorem Lk {sz:Nat} {l:List PV} {cs:List Value} {ad:Option Addr} {AQ:Nat} {clip:Bool} (hl:aD Γ l cs) (hw:∀x∈l,x.width=sz) (lo hi:Nat) (HN:lo≤hi) (hhi:hi≤l.length)
  (hb:l≠[]->∃b o,ad=some ⟨b,o,none⟩∧b<Γ.heap.size∧¬Γ.own b∧∀i c,cs[i]? =some c->cell Γ.heap b (o+i)=some c)
  (hc:hi-lo≤AQ) (Oy:clip=true->AQ=hi-lo):
  aN Γ (.sl sz ((l.take hi).drop lo) clip) (.slice (if AQ=0 then ad else ad.map (·.add (lo*sz))) (hi-lo) AQ):=by
 have hlen:((l.take hi).drop lo).length=hi-lo:=by simp;omega
 have:=aD.sl (Γ:=Γ) sz ((l.take hi).drop lo) clip (if AQ=0 then ad else ad.map (·.add (lo*sz))) AQ (hl.sub hw lo hi HN hhi) (λx hx=>hw x (List.mem_of_mem_take (List.mem_of_mem_drop hx)))
  (by rw[hlen];exact hc) (by rw[hlen];exact Oy) (λfc=>by
   have j1:0<hi-lo:=by
    rcases Nat.eq_zero_or_pos (hi-lo)with h|h
    ·exact absurd (List.eq_nil_of_length_eq_zero (by omega)) fc
    ·exact h
   obtain⟨b,o,rfl,h1,h2,h3⟩:=hb (by intro h;subst h;simp at hhi;omega)
   rw[if_neg (by omega)]
   exact⟨b,o+lo*sz,by simp[ji],h1,h2,mf h3 (lo*sz) ((hi-lo)*sz)⟩) .nil
 rw[hlen]at this
 simpa only[aN]using this
theorem CN {t e:TypeId} {x:Operand} {lo hi mx:Option Operand} {x':AX} {F0 lE La:Option AX} {G:Bool} {K:PV->Prop} {n:Nat} (hx:gq x=some x') (hl:A4 lo=some F0) (hh:A4 hi=some lE) (hm:A4 mx=some La)
  (hmh:La.isSome=true->lE.isSome=true) (hs:hU nt ds s Γ a) (hG:G=true) (hu:P.underlying t=some (.slice e)) (hn:gx P e=some n) (he:ev G s (.slice (.sl n) x' F0 lE La) K):
  ix P Γ w (Instr.sliceAt t (a.eval x) (lo.map a.eval) (hi.map a.eval) (mx.map a.eval)) K:=by
 simp only[ev]at he
 obtain⟨p,hp,hr⟩:=cO hx hs hG he
 have key:∀(ad:Option Addr) (len cap l h m:Nat),(Instr.sliceBounds true len cap (lo.map a.eval) (hi.map a.eval) (mx.map a.eval)).run P w= .ok (l,h,m) w->
   (Instr.sliceAt t (.slice ad len cap) (lo.map a.eval) (hi.map a.eval) (mx.map a.eval)).run P w= .ok (.slice (if m=l then ad else ad.map (·.add (l*n))) (h-l) (m-l)) w:=by
  intro ad len cap l h m hb
  simp only[Instr.sliceAt,Instr.slice,bJ,run_underlying hu,rJ,hb,run_sizeOf hn]
  rfl
 have ifeq:∀(ad:Option Addr) (l m:Nat),l≤m->(if m=l then ad else ad.map (·.add (l*n)))=if m-l=0 then ad else ad.map (·.add (l*n)):=by
  intro ad l m h;by_cases h':m=l
  ·simp[h']
  ·rw[if_neg h',if_neg (by omega)]
 split at hp
 ·rename_i bB l clip
  obtain⟨ad,bu,cs,hv,hL,hw,hc,hk,hb⟩:=hr.sl
  rcases lI hm with⟨rfl,rfl⟩|⟨mo,mz,rfl,rfl,hmz⟩
  ·obtain⟨lo1,BC,⟨rfl,hK⟩,h1,h2,h3⟩:=rj (P:=P) (w:=w) (b:=true) (tQ:=bu) hl hh hs hG hc (Nat.le_refl _) hp
   refine⟨_,_,hK,by rw[hv];exact key _ _ _ _ _ _ h3,?_⟩
   rw[ifeq _ _ _ (by omega)]
   exact Lk hL hw lo1 BC h1 h2 hb (by omega) (λsI=>by simp at sI;have:=hk sI.1;omega)
  ·simp only at hp
   obtain⟨q,hq,m7⟩:=cO hmz hs hG hp
   obtain⟨km,m,hmv,⟨Ox,Pw⟩,hK⟩:=gD hq m7
   obtain⟨lo1,BC,⟨rfl,hK⟩,h1,h2,h3⟩:=uc (P:=P) (w:=w) (tQ:=bu) hl hh (hmh rfl) hs hG hmv Ox (by omega) hK
   refine⟨_,_,hK,by rw[hv];exact key _ _ _ _ _ _ h3,?_⟩
   rw[ifeq _ _ _ (by omega)]
   exact Lk hL hw lo1 BC h1 (by omega) hb (by omega) (λsI=>by simp at sI;omega)
 ·rename_i k p off len aC bB c
  split at hp
  ·rename_i blk hb
   obtain⟨⟨h1,rfl⟩,hp⟩:=hp
   rw[←hs.bx]at hb
   obtain⟨ad,bu,hv,dO⟩:=hr.rs hb h1
   have hlen:len≤bu:=by
    unfold jc at dO
    split at dO<;>omega
   have Gp:na c len bu:=by
    unfold jc at dO
    split at dO
    ·exact dO.2.2
    ·exact dO.2.2.1
   have hcx:yR c off len aC≤bu:=by
    cases c<;>simp only[yR]<;>try exact hlen
    simp only[na]at Gp
    split<;>omega
   have sI:len≤yR c off len aC:=by
    cases c<;>simp only[yR]<;>try exact Nat.le_refl _
    split<;>omega
   have mk:∀(lo1 BC m:Nat) (c':jb),lo1≤BC->BC≤m->m≤bu->na c' (BC-lo1) (m-lo1)->(c'= .tip->c= .tip∧m=bu)->
     aN Γ (.rs k p (off+lo1) (BC-lo1) aC bB c') (.slice (if m-lo1=0 then ad else ad.map (·.add (lo1*bB))) (BC-lo1) (m-lo1)):=by
    intro lo1 BC m c' g1 g3 g4 g5 g6
    simp only[aN]
    refine .rs k p _ _ aC bB c' _ blk ⟨hb,by omega⟩ rfl (λ_=>⟨_,_,rfl,?_⟩) .nil
    unfold jc at dO⊢
    cases hι:Γ.ι k with
    |none=>rw[hι]at dO;exact⟨by omega,by omega,g5⟩
    |
     some b=>
     rw[hι]at dO
     obtain⟨o1,o2,o3,o4⟩:=dO
     refine⟨by omega,?_,g5,λhc=> ?_⟩
     ·by_cases hz:m-lo1=0
      ·exact .inl hz
      ·right
       rw[if_neg hz]
       rcases o2 with o2|rfl
       ·omega
       ·simp[ji,Nat.add_mul];omega
     ·obtain⟨g7,g8⟩:=g6 hc
      obtain⟨q1,cs,e',q2,q3⟩:=o4 g7
      refine⟨q1,cs,e',q2,?_⟩
      rw[←q3,g8];congr 1;omega
   rcases lI hm with⟨rfl,rfl⟩|⟨mo,mz,rfl,rfl,hmz⟩
   ·obtain⟨lo1,BC,hK,g1,g2,g3⟩:=rj (P:=P) (w:=w) (b:=true) (tQ:=bu) hl hh hs hG hcx sI hp
    refine⟨_,_,hK,by rw[hv];exact key _ _ _ _ _ _ g3,?_⟩
    rw[ifeq _ _ _ (by omega)]
    refine mk lo1 BC bu _ g1 (by omega) (Nat.le_refl _) ?_ (λhc=> ?_)
    ·cases c with
     |tip=>trivial
     |any=>trivial
     |full n=>simp only[CJ,na]at Gp⊢;omega
     |
      clip=>
      simp only[CJ,na,yR]at Gp⊢g2
      by_cases e:BC=len
      ·simp[e];omega
      ·simp[e]
    ·cases c<;>simp only[CJ]at hc
     ·exact⟨rfl,rfl⟩
     ·split at hc<;>cases hc
     ·cases hc
     ·cases hc
   ·simp only at hp
    obtain⟨q,hq,m7⟩:=cO hmz hs hG hp
    obtain⟨km,m,hmv,⟨Ox,Pw⟩,hK⟩:=gD hq m7
    obtain⟨lo1,BC,hK,g1,g2,g3⟩:=uc (P:=P) (w:=w) (tQ:=bu) hl hh (hmh rfl) hs hG hmv Ox (by omega) hK
    refine⟨_,_,hK,by rw[hv];exact key _ _ _ _ _ _ g3,?_⟩
    rw[ifeq _ _ _ (by omega)]
    refine mk lo1 BC m.toNat _ g1 g2 (by omega) ?_ (λhc=> ?_)
    ·split
     ·simp only[na];omega
     ·trivial
    ·split at hc<;>simp at hc
  ·exact hp.elim
 ·exact hp.elim
theorem CO {t e:TypeId} {x:Operand} {lo hi mx:Option Operand} {x':AX} {F0 lE La:Option AX} {G:Bool} {K:PV->Prop} {len n:Nat} (hx:gq x=some x') (hl:A4 lo=some F0) (hh:A4 hi=some lE) (hm:A4 mx=some La)
  (hs:hU nt ds s Γ a) (hG:G=true) (hu:P.underlying t=some (.array len e)) (hn:gx P e=some n) (he:ev G s (.slice (.ar len n) x' F0 lE La) K):
  ix P Γ w (Instr.sliceAt t (a.eval x) (lo.map a.eval) (hi.map a.eval) (mx.map a.eval)) K:=by
 simp only[ev]at he
 obtain⟨p,hp,hr⟩:=cO hx hs hG he
 split at hp
 ·rename_i k p aC
  split at hp
  ·rename_i blk hb
   obtain⟨h1,hmx,hp⟩:=hp
   rw[←hs.bx]at hb
   obtain⟨b,hι,hv⟩:=hr.pt hb h1
   rcases lI hm with⟨rfl,rfl⟩|⟨mo,mz,rfl,rfl,hmz⟩
   rotate_left
   ·simp at hmx
   obtain⟨lo1,BC,hK,g1,g2,g3⟩:=rj (P:=P) (w:=w) (b:=false) (tQ:=len) hl hh hs hG (Nat.le_refl _) (Nat.le_refl _) hp
   refine⟨_,.slice (some (if len=lo1 then⟨b,cW p,none⟩else Addr.add ⟨b,cW p,none⟩ (lo1*n))) (BC-lo1) (len-lo1),hK,?_,?_⟩
   ·rw[hv]
    simp only[Instr.sliceAt,bJ,run_underlying hu,rJ,Instr.sureAddr,Sem.run_pure,Option.map_none,g3,run_sizeOf hn]
   ·simp only[aN]
    refine .rs k p _ _ aC n _ _ blk ⟨hb,by omega⟩ rfl (λ_=>⟨_,_,rfl,?_⟩) .nil
    unfold jc
    rw[hι]
    refine⟨by omega,?_,?_,λhc=> ?_⟩
    ·by_cases hz:len=lo1
     ·left;omega
     ·right;simp[hz,ji]
    ·split
     ·simp only[na];omega
     ·trivial
    ·split at hc<;>simp at hc
  ·exact hp.elim
 ·rename_i z l q
  split at hp
  ·rename_i z' n' l' hu'
   obtain⟨⟨rfl,rfl,hmx⟩,hp⟩:=hp
   obtain⟨b,o,cs,hv,hL,lX,Vt,hc⟩:=hr.fp
   obtain⟨h4,h5⟩:=yW hL lX hu'
   obtain⟨h6,h7,h8⟩:=aD.nX h5
   rcases lI hm with⟨rfl,rfl⟩|⟨mo,mz,rfl,rfl,hmz⟩
   rotate_left
   ·simp at hmx
   obtain⟨lo1,BC,hK,g1,g2,g3⟩:=rj (P:=P) (w:=w) (b:=false) (tQ:=n') hl hh hs hG (Nat.le_refl _) (Nat.le_refl _) hp
   refine⟨_,.slice (some (if n'=lo1 then⟨b,o+cW q,none⟩else Addr.add ⟨b,o+cW q,none⟩ (lo1*z'))) (BC-lo1) (n'-lo1),hK,?_,?_⟩
   ·rw[hv]
    simp only[Instr.sliceAt,bJ,run_underlying hu,rJ,Instr.sureAddr,Sem.run_pure,Option.map_none,g3,run_sizeOf hn]
   ·have hm:=Lk (ad:=some ⟨b,o+cW q,none⟩) (AQ:=n'-lo1) (clip:=decide (BC=n')) h6 h8 lo1 BC g1 (by omega) (λ_=>⟨b,o+cW q,rfl,Vt.1,Vt.2,mf hc (cW q) _⟩) (by omega) (λh=>by simp at h;omega)
    have e:(if n'-lo1=0 then some (⟨b,o+cW q,none⟩:Addr)else((some (⟨b,o+cW q,none⟩:Addr)).map (·.add (lo1*z'))))=some (if n'=lo1 then⟨b,o+cW q,none⟩else Addr.add ⟨b,o+cW q,none⟩ (lo1*z')):=by
     by_cases hz:n'=lo1
     ·simp[hz]
     ·rw[if_neg (by omega),if_neg hz];rfl
    rw[e]at hm
    exact hm
  ·exact hp.elim
 ·exact hp.elim
end Go.Ab
namespace Go.Ab
variable [eg]
variable {P:Program} {nt:Nat} {ds:List Deferred} {s:St} {Γ:Cx} {a:Act} {w:World}
theorem mG {x:Sh} {p:PV} (h:fits x p=true):p.isAgg=x.agg:=by
 cases x<;>cases p<;>simp[fits]at h<;>rfl
theorem qh {x:Sh} {p:PV} (h:fits x p=true):p.width=qf x:=by
 cases x<;>cases p<;>simp only[fits,fJ,aJ,decide_eq_true_eq]at h<;>(try rfl)
 ·simp only[PV.width,qf];exact h.1
 ·simp only[PV.width,qf];rw[h.1.1,h.1.2.1]
theorem pA {t:TypeId} {p:PV} {cs c1 rest pre:List Value} {o:Nat} (hr:aD Γ [p] c1) (hc:cs=pre++(c1++rest)) (ho:pre.length=o) (hg:lq P t=some p.isAgg) (hn:gx P t=some p.width):
  ∃v,(part t cs.toArray o).run P w= .ok v w∧aN Γ p v:=by
 have hl:=hr.iw
 subst hc
 cases ha:p.isAgg with
 |
  true=>
  refine⟨.agg c1.toArray,?_,aN.rf hr ha⟩
  rw[ha]at hg
  simp only[part,bJ,rU hg,rJ,if_true,run_sizeOf hn,Sem.run_pure]
  congr 2
  apply Array.ext'
  simp[←hl,←ho]
 |
  false=>
  have h1:p.width=1:=by cases p<;>simp[PV.isAgg]at ha<;>rfl
  rw[h1]at hl
  obtain⟨v,rfl⟩:=List.length_eq_one_iff.1 hl
  refine⟨v,?_,aN.CM hr ha⟩
  rw[ha]at hg
  simp only[part,bJ,rU hg,rJ,fJ,if_false]
  have:(pre++([v]++rest)).toArray[o]? =some v:=by
   simp[←ho]
  rw[this];rfl
def EqAt (P:Program) (Γ:Cx) (d:Nat) (t:TypeId) (x:Sh):Prop:=
 ∀(w:World) (p q:PV) (v u:Value),fits x p=true->fits x q=true->aN Γ p v->aN Γ q u->(Op.equalIn d t v u).run P w= .ok (PV.beq p q) w
theorem BG {d:Nat} {xs ys:List Value}:∀(fs:List Field) (l:List Sh) (ps qs:List PV) (pre1 pre2 c1 c2:List Value) (o:Nat) (w:World),
  xs=pre1++c1->ys=pre2++c2->pre1.length=o->pre2.length=o->aD Γ ps c1->aD Γ qs c2->kE l ps=true->kE l qs=true->
  fs.all (λf=>f.name != "_")=true->fs.map (·.offset)=CL o l->fs.map (λf=>gx P f.type)=l.map (λx=>some (qf x))->
  fs.map (λf=>lq P f.type)=l.map (λx=>some x.agg)->(∀(i:Nat) f x,fs[i]? =some f->l[i]? =some x->EqAt P Γ d f.type x)->
  (Op.eqFields d xs.toArray ys.toArray fs).run P w= .ok (PV.nZ ps qs) w
 |
  [],l,ps,qs,pre1,pre2,c1,c2,o,w,hx,hy,SG,ho2,h1,h2,f1,f2,hn,F1,iu,hag,ff=>by
  cases l with
  |nil=>cases ps<;>cases qs<;>simp[kE]at f1 f2;simp[Op.eqFields,PV.nZ]
  |cons=>simp at iu
 |
  f::fs,l,ps,qs,pre1,pre2,c1,c2,o,w,hx,hy,SG,ho2,h1,h2,f1,f2,hn,F1,iu,hag,ff=>by
  cases l with
  |nil=>simp at iu
  |
   cons x l=>
   cases ps with
   |nil=>simp[kE]at f1
   |
    cons p ps=>
    cases qs with
    |nil=>simp[kE]at f2
    |
     cons q qs=>
     simp only[kE,aJ]at f1 f2
     simp only[List.map_cons,List.cons.injEq,CL]at F1 iu hag
     simp only[List.all_cons,aJ]at hn
     obtain⟨a1,b1,rfl,r1,r2⟩:=h1.nW
     obtain⟨a2,b2,rfl,r3,r4⟩:=h2.nW
     have wp:=qh f1.1
     have wq:=qh f2.1
     have ap:=mG f1.1
     have aq:=mG f2.1
     have akW:lq P f.type=some x.agg:=hag.1
     obtain⟨v,hv,Vu⟩:=pA (P:=P) (w:=w) (t:=f.type) r1 hx (SG.trans F1.1.symm) (by rw[ap];exact akW) (by rw[wp];exact iu.1)
     obtain⟨u,hu,hu'⟩:=pA (P:=P) (w:=w) (t:=f.type) r3 hy (ho2.trans F1.1.symm) (by rw[aq];exact akW) (by rw[wq];exact iu.1)
     have he:=ff 0 f x rfl rfl w p q v u f1.1 f2.1 Vu hu'
     have ih:=BG (xs:=xs) (ys:=ys) fs l ps qs (pre1++a1) (pre2++a2) b1 b2 (o+qf x) w (by rw[hx];simp) (by rw[hy];simp) (by simp[SG,r1.iw,wp]) (by simp[ho2,r3.iw,wq]) r2 r4 f1.2 f2.2 hn.2 F1.2 iu.2 hag.2
      (λi g y hg hy=>ff (i+1) g y (by simpa using hg) (by simpa using hy))
     have fc:f.name≠ "_" :=by simpa using hn.1
     simp only[Op.eqFields,fc,ne_eq,not_false_eq_true,if_true,bJ,hv,hu,he,rJ,PV.nZ]
     by_cases hb:PV.beq p q=true
     ·simpa[hb]using ih
     ·simp[hb]
theorem Ll {d len n:Nat} {t:TypeId} {e:Sh} {xs ys:List Value} (hn:n=qf e) (hg:lq P t=some e.agg) (hz:gx P t=some n) (heq:EqAt P Γ d t e):
  ∀
   (ps qs:List PV) (pre1 pre2 c1 c2:List Value) (i:Nat) (w:World),xs=pre1++c1->ys=pre2++c2->pre1.length=i*n->pre2.length=i*n->aD Γ ps c1->aD Γ qs c2->kR e ps=true->kR e qs=true->
   ps.length=len->qs.length=len->
   (forIn (m:=Sem) (List.range' i len 1) ((none,()):Option Bool×Unit) λi __s=>do
      let __do_lift←part t xs.toArray (i*n)
      let __do_lift_1←part t ys.toArray (i*n)
      let __do_lift←Op.equalIn d t __do_lift __do_lift_1
      if(!__do_lift)=true then pure (ForInStep.done (some false,()))else pure (ForInStep.yield (none,()))).run P w= .ok (if PV.nZ ps qs then none else some false,()) w:=by
 induction len with
 |
  zero=>
  intro ps qs pre1 pre2 c1 c2 i w _ _ _ _ _ _ _ _ l1 l2
  have e1:=List.eq_nil_of_length_eq_zero l1
  have e2:=List.eq_nil_of_length_eq_zero l2
  subst e1 e2
  simp[PV.nZ]
 |
  succ len ih=>
  intro ps qs pre1 pre2 c1 c2 i w hx hy SG ho2 h1 h2 f1 f2 l1 l2
  cases ps with
  |nil=>simp at l1
  |
   cons p ps=>
   cases qs with
   |nil=>simp at l2
   |
    cons q qs=>
    simp only[kR,aJ]at f1 f2
    obtain⟨a1,b1,rfl,r1,r2⟩:=h1.nW
    obtain⟨a2,b2,rfl,r3,r4⟩:=h2.nW
    have wp:=qh f1.1
    have wq:=qh f2.1
    have ap:=mG f1.1
    have aq:=mG f2.1
    obtain⟨v,hv,Vu⟩:=pA (P:=P) (w:=w) (t:=t) r1 hx SG (by rw[ap];exact hg) (by rw[wp,←hn];exact hz)
    obtain⟨u,hu,hu'⟩:=pA (P:=P) (w:=w) (t:=t) r3 hy ho2 (by rw[aq];exact hg) (by rw[wq,←hn];exact hz)
    have he:=heq w p q v u f1.1 f2.1 Vu hu'
    have ih':=ih ps qs (pre1++a1) (pre2++a2) b1 b2 (i+1) w (by rw[hx];simp) (by rw[hy];simp) (by simp[SG,r1.iw,wp,Nat.add_mul];omega) (by simp[ho2,r3.iw,wq,Nat.add_mul];omega) r2 r4 f1.2 f2.2 (by simpa using l1) (by simpa using l2)
    simp only[List.range'_succ,List.forIn_cons,bJ,hv,hu,he,rJ,PV.nZ]
    by_cases hb:PV.beq p q=true
    ·simpa[hb]using ih'
    ·simp[hb]
theorem Lm:∀(n:Nat) {t:TypeId} {x:Sh} (d:Nat),n≤d->yU P n t=some x->EqAt P Γ d t x:=by
 intro n
 induction n with
 |zero=>intro t x d _ h;simp[yU]at h
 |
  succ n ih=>
  intro t x d hd h w p q v u fp fq hp hq
  obtain⟨d,rfl⟩:∃d',d=d'+1:=⟨d-1,by omega⟩
  simp only[yU]at h
  split at h<;>(try (simp only[sJ,reduceCtorEq]at h;try subst h))
  ·rename_i hu
   cases p<;>simp[fits]at fp
   cases q<;>simp[fits]at fq
   rw[hp.bl,hq.bl,run_equalIn_bool' w d t _ _ hu];rfl
  ·rename_i k hu
   cases p<;>simp[fits]at fp
   cases q<;>simp[fits]at fq
   subst fp fq
   rw[hp.int,hq.int,run_equalIn_int w d t _ _ _ _ hu];rfl
  ·rename_i hu
   cases p<;>simp[fits]at fp
   cases q<;>simp[fits]at fq
   obtain⟨s1,rfl,rfl⟩:=hp.str
   obtain⟨s2,rfl,rfl⟩:=hq.str
   rw[run_equalIn_string w d t _ _ hu,rh,rh];rfl
  ·rename_i fs hu
   split at h
   ·rename_i l hl
    split at h
    ·rename_i AR
     obtain⟨c1,c2,c3,c4,c5⟩:=AR
     simp only[sJ]at h
     subst h
     cases p<;>simp only[fits,fJ,aJ,decide_eq_true_eq]at fp
     cases q<;>simp only[fits,fJ,aJ,decide_eq_true_eq]at fq
     rename_i w1 m1 w2 m2
     obtain⟨cs,rfl,hc⟩:=hp.cells rfl
     obtain⟨ds,rfl,F2⟩:=hq.cells rfl
     have hf:P.fieldsOf t=fs:=by simp[Program.fieldsOf,hu]
     rw[run_equalIn_struct w d t _ _ (by rw[hf];exact hu) c1,hf]
     rw[BG (xs:=cs) (ys:=ds) fs.toList l m1 m2 [] [] cs ds 0 w rfl rfl rfl rfl hc.s6.1 F2.s6.1 fp.2 fq.2 c2 c3 c4 c5]
     ·rfl
     ·intro i f y SH hyi
      refine ih d (by omega) ?_
      have:=allM_get hl SH
      rw[hyi]at this
      exact this
    ·exact absurd h (by simp)
   ·exact absurd h (by simp)
  ·rename_i k e hu
   split at h
   ·rename_i x' hx'
    split at h
    ·rename_i AR
     simp only[sJ]at h
     subst h
     cases p<;>simp only[fits,fJ,aJ,decide_eq_true_eq]at fp
     cases q<;>simp only[fits,fJ,aJ,decide_eq_true_eq]at fq
     rename_i z1 n1 m1 z2 n2 m2
     obtain⟨cs,rfl,hc⟩:=hp.cells rfl
     obtain⟨ds,rfl,F2⟩:=hq.cells rfl
     have hg:lq P e=some x'.agg:=AR.2
     have:=Ll (P:=P) (Γ:=Γ) (d:=d) (len:=k) (n:=qf x') (t:=e) (e:=x') (xs:=cs) (ys:=ds) rfl hg AR.1 (ih d (by omega) hx') m1 m2 [] [] cs ds 0 w rfl rfl (by simp) (by simp) hc.nX.1 F2.nX.1 fp.2 fq.2 fp.1.2.2 fq.1.2.2
     simp only[Op.equalIn,bJ,run_underlying hu,rJ,run_sizeOf AR.1]
     rw[Std.Legacy.Range.forIn_eq_forIn_range']
     simp only[Std.Legacy.Range.size,Nat.sub_zero,Nat.add_sub_cancel,Nat.div_one]
     rw[this]
     simp only[PV.beq]
     cases PV.nZ m1 m2<;>rfl
    ·exact absurd h (by simp)
   ·exact absurd h (by simp)
where
 allM_get {α β:Type} {f:α->Option β}:∀ {l:List α} {m:List β},allM f l=some m->∀ {i:Nat} {x:α},l[i]? =some x->f x=m[i]?
  |[],m,h,i,x,hi=>by simp at hi
  |
   y::l,m,h,i,x,hi=>by
   simp only[allM]at h
   split at h
   ·rename_i z k hz hk
    simp only[sJ]at h
    subst h
    cases i with
    |zero=>simp at hi;subst hi;simpa using hz
    |succ i=>simp at hi;simpa using allM_get hk hi
   ·exact absurd h (by simp)
end Go.Ab
namespace Go.Ab
variable [eg]
variable {P:Program} {nt:Nat} {ds:List Deferred} {s:St} {Γ:Cx} {a:Act} {w:World}
theorem BH:∀(vs:List Value) (k off:Nat) (cells:Array Value),off+k+vs.length≤cells.size->
  ((vs.zipIdx k).foldl (λ(cs:Array Value) (x:Value×Nat)=>cs.setIfInBounds (off+x.2) x.1) cells).toList=bN cells.toList (off+k) vs
 |[],k,off,cells,_=>by simp[bN]
 |
  v::vs,k,off,cells,h=>by
  simp only[List.zipIdx_cons,List.foldl_cons,List.length_cons]at h⊢
  rw[BH vs (k+1) off _ (by simp;omega)]
  rw[Array.toList_setIfInBounds]
  have fZ:off+k<cells.toList.length:=by simp;omega
  obtain⟨A,c,B,hA,m8⟩:∃A c B,A.length=off+k∧cells.toList=A++c::B:=
   ⟨cells.toList.take (off+k),cells.toList[off+k],cells.toList.drop (off+k+1),by rw[lJ];omega,by rw[List.getElem_cons_drop,List.take_append_drop]⟩
  rw[m8,←hA,List.set_append_right (h:=Nat.le_refl _)]
  rw[show off+(k+1)=A.length+1 by omega]
  simp only[Nat.sub_self,List.set_cons_zero,bN,List.length_cons]
  have e1:(A++v::B).take (A.length+1)=A++[v]:=by rw[List.take_append,tJ (by omega)];simp
  have e2:(A++v::B).drop (A.length+1+vs.length)=B.drop vs.length:=by
   rw[List.drop_append,List.drop_eq_nil_of_le (by omega),show A.length+1+vs.length-A.length=vs.length+1 by omega];simp
  have e3:(A++c::B).drop (A.length+(vs.length+1))=B.drop vs.length:=by
   rw[←List.drop_drop];simp
  rw[e1,e2,e3]
  simp
theorem xE {l:List PV} {i j:Nat} {q p:PV} (hq:l[i]? =some q) (hw:p.width=q.width):av ((l.set i p).take j)=av (l.take j):=by
 by_cases Lb:i<j
 ·have:(l.set i p).take j=(l.take j).set i p:=by rw[List.take_set]
  rw[this]
  exact yN (by rw[List.getElem?_take_of_lt Lb];exact hq) hw
 ·rw[List.take_set_of_le (by omega)]
theorem ud:∀(ps:List (Nat×PV)) (vs:List (Nat×Value)) (place:Nat->Option (Nat×Nat)) (l l':List PV) (cells:Array Value),
  aD Γ l cells.toList->dJ l ps=some l'->ps.length=vs.length->(∀(i:Nat) j p k v,ps[i]? =some (j,p)->vs[i]? =some (k,v)->j=k∧aN Γ p v)->
  (∀i q,l[i]? =some q->place i=some (av (l.take i),q.width))->∃Oz,Instr.fill place cells vs=some Oz∧aD Γ l' Oz.toList
 |
  [],vs,place,l,l',cells,h,hs,hl,hv,hp=>by
  have:vs=[]:=by simpa using hl.symm
  subst this
  simp[dJ]at hs;subst hs
  exact⟨cells,rfl,h⟩
 |
  (i,p)::ps,vs,place,l,l',cells,h,hs,hl,hv,hp=>by
  cases vs with
  |nil=>simp at hl
  |
   cons x vs=>
   obtain⟨k,v⟩:=x
   obtain⟨rfl,hr⟩:=hv 0 i p k v rfl rfl
   simp only[dJ]at hs
   split at hs
   ·rename_i q hq
    split at hs
    ·rename_i hw
     have hc:=hr.yV hw.2
     have sI:=hc.iw
     have iu:v.cells.size=q.width:=by rw[←hw.1,←sI];simp
     have hwl:=vG hq
     have hle:=h.length
     have w7:av (l.take i)+q.width≤cells.size:=by rw[←Array.length_toList,hle];exact hwl
     have kC:=h.set hq hc hw.1
     have AT:(v.cells.zipIdx.foldl (λcs (c,j)=>cs.setIfInBounds (av (l.take i)+j) c) cells).toList=bN cells.toList (av (l.take i)) v.cells.toList:=by
      have:=BH v.cells.toList 0 (av (l.take i)) cells (by simp;omega)
      rw[←Array.foldl_toList,Array.toList_zipIdx]
      simpa using this
     obtain⟨c',h1,h2⟩:=ud ps vs place (l.set i p) l' (v.cells.zipIdx.foldl (λcs (c,j)=>cs.setIfInBounds (av (l.take i)+j) c) cells) (by rw[AT];exact kC) hs (by simpa using hl)
      (λj n p' k v' a b=>hv (j+1) n p' k v' (by simpa using a) (by simpa using b)) (λj q' YO=>by
       rw[xE hq hw.1]
       rw[List.getElem?_set]at YO
       split at YO
       ·rename_i Lb;subst Lb
        split at YO
        ·simp at YO;subst YO;rw[hw.1];exact hp i q hq
        ·simp at YO
       ·exact hp j q' YO)
     refine⟨c',?_,h2⟩
     simp only[Instr.fill,hp i q hq]
     rw[if_neg (by simp[iu];omega)]
     exact h1
    ·exact absurd hs (by simp)
   ·exact absurd hs (by simp)
theorem Ef:∀(l:List PV) (o:Nat) (fs:List (Nat×Nat)),fs=Jk o l->∀(i:Nat) q,l[i]? =some q->fs[i]? =some (o+av (l.take i),q.width)
 |[],o,fs,h,i,q,hq=>by simp at hq
 |
  p::l,o,fs,h,i,q,hq=>by
  subst h
  cases i with
  |zero=>simp at hq;subst hq;simp[Jk,av]
  |
   succ i=>
   simp only[List.getElem?_cons_succ]at hq
   have:=Ef l (o+p.width) _ rfl i q hq
   simpa[Jk,av,Nat.add_assoc]using this
mutual
theorem HY:∀(p:PV) (vs rest:List Value),xD p vs=some rest->∃cs,vs=cs++rest∧aD Γ [p] cs
 |
  .bl x,vs,rest,h=>by
  cases vs with
  |nil=>simp[xD]at h
  |
   cons v r=>
   cases v<;>simp only[xD,reduceCtorEq]at h
   split at h<;>simp at h
   subst_vars;exact⟨[_],rfl,.bl _ .nil⟩
 |
  .int k n,vs,rest,h=>by
  cases vs with
  |nil=>simp[xD]at h
  |
   cons v r=>
   cases v<;>simp only[xD,reduceCtorEq]at h
   split at h
   ·rename_i hc;obtain⟨rfl,rfl⟩:=hc;simp at h;subst h;exact⟨[_],rfl,.int _ _ .nil⟩
   ·simp at h
 |
  .str l,vs,rest,h=>by
  cases vs with
  |nil=>simp[xD]at h
  |
   cons v r=>
   cases v<;>simp only[xD,reduceCtorEq]at h
   split at h
   ·rename_i hc;simp at h;subst h;exact⟨[_],rfl,.str _ _ hc .nil⟩
   ·simp at h
 |
  .np,vs,rest,h=>by
  unfold xD at h
  split at h<;>simp_all
  subst_vars;exact⟨[_],rfl,.np .nil⟩
 |
  .sl sz l c,vs,rest,h=>by
  cases l with
  |cons=>simp[xD]at h
  |
   nil=>
   cases vs with
   |nil=>simp[xD]at h
   |
    cons v r=>
    unfold xD at h
    split at h
    case h_5=>
     simp only[sJ]at h
     subst h
     rename_i heq
     simp only[List.cons.injEq]at heq
     obtain⟨rfl,rfl⟩:=heq
     exact⟨[_],rfl,.sl sz [] c none 0 .nil (by simp) (Nat.le_refl _) (λ_=>rfl) (λh=>absurd rfl h) .nil⟩
    all_goals simp_all
 |
  .nf,vs,rest,h=>by
  unfold xD at h
  split at h<;>simp_all
  subst_vars;exact⟨[_],rfl,.nf .nil⟩
 |
  .ni,vs,rest,h=>by
  unfold xD at h
  split at h<;>simp_all
  subst_vars;exact⟨[_],rfl,.ni .nil⟩
 |
  .st w l,vs,rest,h=>by
  simp only[xD]at h
  split at h
  ·rename_i r hr
   split at h
   ·rename_i hw
    simp at h;subst h
    obtain⟨cs,rfl,hc⟩:=yX l vs r hr
    exact⟨cs,rfl,hc.st1 (by simp at hw;omega)⟩
   ·simp at h
  ·simp at h
 |
  .ar sz n l,vs,rest,h=>by
  simp only[xD]at h
  split at h
  ·rename_i r hr
   split at h
   ·rename_i hw
    simp at h;subst h
    obtain⟨cs,rfl,hc⟩:=yX l vs r hr
    exact⟨cs,rfl,hc.Tr hw.1 (by simpa using hw.2)⟩
   ·simp at h
  ·simp at h
 | .un,vs,rest,h=>by simp[xD]at h
 | .tup _,vs,rest,h=>by simp[xD]at h
 | .rs ..,vs,rest,h=>by simp[xD]at h
 | .pt ..,vs,rest,h=>by simp[xD]at h
 | .fp ..,vs,rest,h=>by simp[xD]at h
 | .fn ..,vs,rest,h=>by simp[xD]at h
 | .gd ..,vs,rest,h=>by simp[xD]at h
 | .ifc ..,vs,rest,h=>by simp[xD]at h
theorem yX:∀(l:List PV) (vs rest:List Value),Ji l vs=some rest->∃cs,vs=cs++rest∧aD Γ l cs
 |[],vs,rest,h=>by simp[Ji]at h;subst h;exact⟨[],rfl,.nil⟩
 |
  p::l,vs,rest,h=>by
  simp only[Ji]at h
  split at h
  ·rename_i ws hws
   obtain⟨c1,rfl,h1⟩:=HY p vs ws hws
   obtain⟨c2,rfl,h2⟩:=yX l ws rest h
   exact⟨c1++c2,by simp,h1.cons h2⟩
  ·simp at h
end
theorem ld {t:TypeId} {z:PV} (h:zeroOf P t=some z):∃v,(∀w,(zeroValue t).run P w= .ok v w)∧aD Γ [z] v.cells.toList∧gx P t=some z.width∧aN Γ z v∧v.cells.size=z.width:=by
 replace h:=Jj h
 unfold ko at h
 split at h
 ·rename_i z' i hz hi
  split at h
  ·rename_i v hv
   split at h
   ·rename_i hc
    split at h
    ·rename_i hw
     obtain⟨cs,e,hr⟩:=HY (Γ:=Γ) z' _ _ hc
     rw[List.append_nil]at e
     rw[←e]at hr
     have hz':z'=z∧aN Γ z' v:=by
      cases ha:z'.isAgg<;>rw[ha]at h
      ·cases v<;>simp only[sJ,reduceCtorEq]at h<;>exact⟨h,aN.CM (by simpa[Value.cells]using hr) ha⟩
      ·cases v<;>simp only[sJ,reduceCtorEq]at h
       exact⟨h,aN.rf (by simpa[Value.cells]using hr) ha⟩
     obtain⟨rfl,CD⟩:=hz'
     exact⟨v,λw=>by simp[zeroValue,typeInfo,hi,hv],hr,by simp[gx,hi,hw],CD,by rw[←hr.iw];simp⟩
    ·simp at h
   ·simp at h
  ·simp at h
 ·simp at h
theorem vJ {t:TypeId} {parts:Array (Nat×Operand)} {k:AK} {G:Bool} {K:PV->Prop} (hk:kK P false (.build t parts)=some k) (hs:hU nt ds s Γ a) (hG:G=true) (he:ev G s k K):
  ix P Γ w (Instr.build t (parts.map λp=>(p.1,a.eval p.2))) K:=by
 simp only[kK]at hk
 split at hk
 ·rename_i sw l ps fs hz tU hu
  split at hk
  ·rename_i hc
   simp only[sJ]at hk;subst hk
   simp only[ev]at he
   obtain⟨qs,hq,hlen,ff⟩:=ye hs hG tU he
   obtain⟨v,hv,hr,_,_,_⟩:=ld (Γ:=Γ) hz
   split at hq
   ·rename_i l' rR
    have qZ:∀i q,l[i]? =some q->((fs.map λf=>(f.offset,P.cellsOf f.type))[i]? :Option (Nat×Nat))=some (av (l.take i),q.width):=by
     intro i q hi
     have:=Ef l 0 _ hc.1 i q hi
     rw[Nat.zero_add]at this
     rw[←Array.getElem?_toList,Array.toList_map]
     exact this
    obtain⟨cells,h1,h2⟩:=ud (Γ:=Γ) qs (parts.toList.map λp=>(p.1,a.eval p.2)) (λi=>(fs.map λf=>(f.offset,P.cellsOf f.type))[i]?) l l' v.cells hr.s6.1 rR (by simp[hlen])
     (λi j p k u h3 h4=>by
      rw[List.getElem?_map,mJ]at h4
      obtain⟨⟨k',x⟩,h5,h6⟩:=h4
      simp only[Prod.mk.injEq]at h6
      obtain⟨rfl,rfl⟩:=h6
      exact ff i j p k' x h3 h5) qZ
    have Vv:cells.toList.length=sw:=by
     have e1:=h2.length
     have e2:=hr.s6
     rw[e1,setParts_widths rR,←e2.1.length,e2.2]
    refine⟨_,.agg cells,hq,?_,⟨cells.toList,by simp,h2.st1 Vv⟩⟩
    have at4:(fs.mapM λf=>do Pure.pure (f.offset,←sizeOf f.type):Sem (Array (Nat×Nat))).run P w= .ok (fs.map λf=>(f.offset,P.cellsOf f.type)) w:=run_mapM fs hc.2
    simp only[Instr.build,bJ,hv,rJ,run_underlying hu,at4]
    rw[Array.toList_map,h1];rfl
   ·exact hq.elim
  ·simp at hk
 ·rename_i sz n l ps len e hz tU hu
  split at hk
  ·rename_i hc
   simp only[sJ]at hk;subst hk
   simp only[ev]at he
   obtain⟨qs,hq,hlen,ff⟩:=ye hs hG tU he
   obtain⟨v,hv,hr,_,_,_⟩:=ld (Γ:=Γ) hz
   split at hq
   ·rename_i l' rR
    obtain⟨sG,m7,hr3⟩:=hr.nX
    obtain⟨cells,h1,h2⟩:=ud (Γ:=Γ) qs (parts.toList.map λp=>(p.1,a.eval p.2)) (λi=>some (i*sz,sz)) l l' v.cells sG rR (by simp[hlen])
     (λi j p k u h3 h4=>by
      rw[List.getElem?_map,mJ]at h4
      obtain⟨⟨k',x⟩,h5,h6⟩:=h4
      simp only[Prod.mk.injEq]at h6
      obtain⟨rfl,rfl⟩:=h6
      exact ff i j p k' x h3 h5)
     (λi q hi=>by
      have hil:=(List.getElem?_eq_some_iff.1 hi).1
      rw[ie hr3 (by omega),hr3 q (List.mem_of_getElem? hi)])
    refine⟨_,.agg cells,hq,?_,⟨cells.toList,by simp,h2.Tr (by rw[setParts_length rR,m7]) (setParts_width rR hr3)⟩⟩
    simp only[Instr.build,bJ,hv,rJ,run_underlying hu,run_sizeOf hc]
    rw[Array.toList_map,h1];rfl
   ·exact hq.elim
  ·simp at hk
 ·simp at hk
where
 setParts_length:∀ {ps:List (Nat×PV)} {l l':List PV},dJ l ps=some l'->l'.length=l.length
  |[],l,l',h=>by simp[dJ]at h;rw[h]
  |
   (i,p)::ps,l,l',h=>by
   simp only[dJ]at h
   split at h
   ·split at h
    ·rw[setParts_length h];simp
    ·simp at h
   ·simp at h
 setParts_widths:∀ {ps:List (Nat×PV)} {l l':List PV},dJ l ps=some l'->av l'=av l
  |[],l,l',h=>by simp[dJ]at h;rw[h]
  |
   (i,p)::ps,l,l',h=>by
   simp only[dJ]at h
   split at h
   ·rename_i q hq
    split at h
    ·rename_i hw
     rw[setParts_widths h,yN hq hw.1]
    ·simp at h
   ·simp at h
 setParts_width {sz:Nat}:∀ {ps:List (Nat×PV)} {l l':List PV},dJ l ps=some l'->(∀x∈l,x.width=sz)->∀x∈l',x.width=sz
  |[],l,l',h,hw=>by simp[dJ]at h;rw[←h];exact hw
  |
   (i,p)::ps,l,l',h,hw=>by
   simp only[dJ]at h
   split at h
   ·rename_i q hq
    split at h
    ·rename_i OA
     exact setParts_width h (oW hw (by rw[OA.1];exact hw q (List.mem_of_getElem? hq)))
    ·simp at h
   ·simp at h
 run_mapM (fs:Array Field) (h:fs.toList.all (λf=>(P.info? f.type).isSome)=true):(fs.mapM λf=>do Pure.pure (f.offset,←sizeOf f.type):Sem (Array (Nat×Nat))).run P w= .ok (fs.map λf=>(f.offset,P.cellsOf f.type)) w:=by
  have key:∀(l:List Field),l.all (λf=>(P.info? f.type).isSome)=true->(l.mapM λf=>do Pure.pure (f.offset,←sizeOf f.type):Sem (List (Nat×Nat))).run P w= .ok (l.map λf=>(f.offset,P.cellsOf f.type)) w:=by
   intro l
   induction l with
   |nil=>intro _;rfl
   |
    cons f l ih=>
    intro hl
    simp only[List.all_cons,aJ]at hl
    obtain⟨i,hi⟩:=Option.isSome_iff_exists.1 hl.1
    have iu:gx P f.type=some i.size:=by simp[gx,hi]
    simp only[List.mapM_cons,bJ,run_sizeOf iu,rJ,Sem.run_pure,ih hl.2,List.map_cons]
    simp[Program.cellsOf,hi]
  rw[Array.mapM_eq_mapM_toList]
  simp only[Sem.run_map,key fs.toList h,rJ]
  congr 1
  apply Array.ext'
  simp
end Go.Ab
namespace Go.Ab
variable [eg]
variable {P:Program} {nt:Nat} {ds:List Deferred} {s:St} {Γ:Cx} {a:Act} {w:World}
theorem PM {args:List Operand} {tys:List TypeId} {k:AK} {ty:TypeId} {G:Bool} {K:PV->Prop} (hk:dh P .cap args tys=some k) (hs:hU nt ds s Γ a) (hG:G=true) (he:ev G s k K):
  ix P Γ w (Builtin.cap_ tys.toArray ty (args.map a.eval).toArray) K:=by
 unfold dh at hk
 split at hk<;>(try contradiction)
 rename_i x t _
 split at hk<;>simp only[sJ,reduceCtorEq]at hk
 rename_i e y hu hx
 subst hk
 simp only[ev]at he
 obtain⟨p,hp,hr⟩:=cO hx hs hG he
 split at hp
 ·rename_i k p off len aC sz n
  split at hp
  ·rename_i blk hb
   rw[←hs.bx]at hb
   obtain⟨ad,bu,hv,dO⟩:=hr.rs hb hp.1
   have Gp:bu=n:=by
    unfold jc at dO
    split at dO
    ·exact dO.2.2
    ·exact dO.2.2.1
   subst Gp
   exact⟨_,goInt bu,hp.2,by simp[Builtin.cap_,run_underlying hu,hv],dU⟩
  ·exact hp.elim
 ·exact hp.elim
theorem PN {args:List Operand} {tys:List TypeId} {k:AK} {ty:TypeId} {G:Bool} {K:PV->Prop} (hk:dh P .len args tys=some k) (hs:hU nt ds s Γ a) (hG:G=true) (he:ev G s k K):
  ix P Γ w (Builtin.len_ tys.toArray ty (args.map a.eval).toArray) K:=by
 unfold dh at hk
 split at hk<;>(try contradiction)
 ·rename_i x t _
  split at hk
  ·rename_i y hu hx
   simp only[sJ]at hk;subst hk
   simp only[ev]at he
   obtain⟨p,hp,hr⟩:=cO hx hs hG he
   split at hp
   ·rename_i bs
    obtain⟨str,hv,hd⟩:=hr.str
    refine⟨_,goInt bs.length,hp,?_,dU⟩
    have:bs.length=str.size:=by rw[←hd];exact Array.length_toList
    simp[Builtin.len_,run_underlying hu,hv,this]
   ·exact hp.elim
  ·rename_i e y hu hx
   simp only[sJ]at hk;subst hk
   simp only[ev]at he
   obtain⟨p,hp,hr⟩:=cO hx hs hG he
   split at hp
   ·rename_i sz l c
    obtain⟨ad,bu,cs,hv,_⟩:=hr.sl
    exact⟨_,goInt l.length,hp,by simp[Builtin.len_,run_underlying hu,hv],dU⟩
   ·rename_i k p off len aC sz c
    split at hp
    ·rename_i blk hb
     rw[←hs.bx]at hb
     obtain⟨ad,bu,hv,_⟩:=hr.rs hb hp.1
     exact⟨_,goInt len,hp.2,by simp[Builtin.len_,run_underlying hu,hv],dU⟩
    ·exact hp.elim
   ·exact hp.elim
  ·rename_i n e y hu hx
   simp only[sJ]at hk;subst hk
   simp only[ev]at he
   exact⟨_,goInt n,he,by simp[Builtin.len_,run_underlying hu],dU⟩
  ·rename_i arr y hu hx
   split at hk
   ·rename_i n e YP
    simp only[sJ]at hk;subst hk
    simp only[ev]at he
    exact⟨_,goInt n,he,by simp[Builtin.len_,run_underlying hu,run_underlying YP],dU⟩
   ·simp at hk
  ·simp at hk
theorem Ln {mx:Bool} {args:List Operand} {tys:List TypeId} {l:List AX} {ty:TypeId} {G:Bool} {K:PV->Prop} (hx:qg args=some l) (hs:hU nt ds s Γ a) (hG:G=true) (he:ev G s (.mm mx l) K):
  ix P Γ w (if mx then Builtin.max_ tys.toArray ty (args.map a.eval).toArray else Builtin.min_ tys.toArray ty (args.map a.eval).toArray) K:=by
 simp only[ev]at he
 obtain⟨ps,hp,hlen,ff⟩:=ua hs hG hx he
 have key:∀(ps:List PV) (vs:List Value) (k:IntKind) (m:Int) (K:Int->Prop),lH mx m ps K->ps.length=vs.length->(∀(i:Nat) p v,ps[i]? =some p->vs[i]? =some v->aN Γ p v)->
   ∃n,K n∧(vs.foldlM (if mx then Builtin.max2 else Builtin.min2) (.int k m)).run P w= .ok (.int k n) w:=by
  intro ps
  induction ps with
  |
   nil=>
   intro vs k m K h hl _
   have:vs=[]:=by simpa using hl.symm
   subst this
   exact⟨m,h,rfl⟩
  |
   cons p ps ih=>
   intro vs k m K h hl hv
   cases vs with
   |nil=>simp at hl
   |
    cons v vs=>
    simp only[lH]at h
    obtain⟨k2,n,qM,h⟩:=gD h (hv 0 p v rfl rfl)
    obtain⟨r,h1,h2⟩:=ih vs k _ K h (by simpa using hl) (λi p v a b=>hv (i+1) p v (by simpa using a) (by simpa using b))
    refine⟨r,h1,?_⟩
    subst qM
    simp only[List.foldlM_cons,bJ]
    cases mx
    ·have:(Builtin.min2 (.int k m) (.int k2 n)).run P w= .ok (.int k (min m n)) w:=by
      simp only[Builtin.min2,Sem.run_pure]
      congr 2
      split<;>omega
     simp only[fJ,if_false]at h2⊢
     rw[this];exact h2
    ·have:(Builtin.max2 (.int k m) (.int k2 n)).run P w= .ok (.int k (max m n)) w:=by
      simp only[Builtin.max2,Sem.run_pure]
      congr 2
      split<;>omega
     simp only[if_true]at h2⊢
     rw[this];exact h2
 split at hp
 ·rename_i k m ps
  cases args with
  |nil=>simp at hlen
  |
   cons x args=>
   have hx0:=(ff 0 _ x rfl rfl).int
   obtain⟨n,hn,iN⟩:=key ps (args.map a.eval) k m _ hp (by simpa using hlen) (λi p v h1 h2=>by
    rw[List.getElem?_map,mJ]at h2
    obtain⟨o,h2,rfl⟩:=h2
    exact ff (i+1) p o (by simpa using h1) (by simpa using h2))
   refine⟨_,_,hn,?_,dU⟩
   cases mx
   ·simpa[Builtin.min_,hx0]using iN
   ·simpa[Builtin.max_,hx0]using iN
 ·exact hp.elim
theorem Lo {p:PV} {v:Value} (h:aN Γ p v) (ha:p.isAgg=false) (hc:p.bj=true):aD Γ [p] [v]:=by
 cases p<;>simp[PV.isAgg,PV.bj]at ha hc<;>exact h
theorem Eg {ps:List PV} {vs:List Value} (hl:ps.length=vs.length) (h:∀(i:Nat) p v,ps[i]? =some p->vs[i]? =some v->aN Γ p v)
  (ha:ps.all (λp=> !p.isAgg&&p.bj)=true):aD Γ ps vs:=by
 induction ps generalizing vs with
 |nil=>
      have:vs=[]:=by simpa using hl.symm
      subst this;exact .nil
 |
  cons p ps ih=>
  cases vs with
  |nil=>simp at hl
  |
   cons v vs=>
   simp only[List.all_cons,aJ,Bool.not_eq_true']at ha
   exact(Lo (h 0 p v rfl rfl) ha.1.1 ha.1.2).cons (ih (by simpa using hl) (λi p v h1 h2=>h (i+1) p v (by simpa using h1) (by simpa using h2)) ha.2)
theorem ue {t:TypeId} {x y:Value} {b:Bool} (h:(Op.equalIn 10000 t x y).run P w= .ok b w)
  (h1:binOp .eql t x y=(do Pure.pure (.bool (←Op.equal t x y)))) (h2:binOp .neq t x y=(do Pure.pure (.bool (!(←Op.equal t x y))))):
  ∀o,(o= .eql∨o= .neq)->(binOp o t x y).run P w= .ok (.bool (if o= .eql then b else !b)) w:=by
 intro o ho
 have h':(Op.equal t x y).run P w= .ok b w:=h
 rcases ho with rfl|rfl
 ·rw[h1];simp only[bJ,h',rJ];rfl
 ·rw[h2];simp only[bJ,h',rJ];rfl
theorem Jn {t:TypeId} {x y:Bool} (h:P.underlying t=some .bool):(Op.equalIn 10000 t (.bool x) (.bool y)).run P w= .ok (x==y) w:=run_equalIn_bool' w 9999 t x y h
theorem CP {d:Nat} {t e:TypeId} (h:P.underlying t=some (.pointer e)):(Op.equalIn (d+1) t (.pointer none) (.pointer none)).run P w= .ok true w:=by
 simp only[Op.equalIn,bJ,run_underlying h,rJ];rfl
theorem CQ {d:Nat} {t e:TypeId} {ad:Addr} (h:P.underlying t=some (.pointer e)):(Op.equalIn (d+1) t (.pointer (some ad)) (.pointer none)).run P w= .ok false w:=by
 simp only[Op.equalIn,bJ,run_underlying h,rJ];rfl
theorem Eh {t e:TypeId} (h:P.underlying t=some (.pointer e)):(Op.equalIn 10000 t (.pointer none) (.pointer none)).run P w= .ok true w:=CP (d:=9999) h
theorem xa {t e:TypeId} {ad:Addr} (h:P.underlying t=some (.pointer e)):(Op.equalIn 10000 t (.pointer (some ad)) (.pointer none)).run P w= .ok false w:=CQ (d:=9999) h
theorem Ei {n:Nat} {t:TypeId} {sh:Sh} (h:yU P n t=some sh) (hu:(∃fs,P.underlying t=some (.struct fs))∨∃k e,P.underlying t=some (.array k e)):sh.agg=true:=by
 cases n with
 |zero=>simp[yU]at h
 |
  succ n=>
  rcases hu with⟨fs,hu⟩|⟨k,e,hu⟩
  ·simp only[yU,hu]at h
   split at h
   ·split at h
    ·simp only[sJ]at h;subst h;rfl
    ·simp at h
   ·simp at h
  ·simp only[yU,hu]at h
   split at h
   ·split at h
    ·simp only[sJ]at h;subst h;rfl
    ·simp at h
   ·simp at h
theorem Jo {op:BinOp} {t:TypeId} {x y:Operand} {yt:TypeId} {k:AK} {own:Bool} {G:Bool} {K:PV->Prop} (hk:kK P own (.binOp op t x y yt)=some k) (hs:hU nt ds s Γ a) (hG:G=true) (he:ev G s k K):
  ix P Γ w (do eqGuard op t x y (a.eval x) (a.eval y);binOp op t (a.eval x) (a.eval y)) K:=by
 simp only[kK]at hk
 split at hk
 ·rename_i p q hx hy
  have fin:∀ {et:ET} {K:PV->Prop},ev G s (.bin op et p q) K->∃u v,py s op et u v K∧aN Γ u (a.eval x)∧aN Γ v (a.eval y):=by
   intro et K he
   simp only[ev]at he
   obtain⟨u,hu,yJ⟩:=cO hx hs hG he
   obtain⟨v,hv,CD⟩:=cO hy hs hG hu
   exact⟨u,v,hv,yJ,CD⟩
  have plain:∀ {K:PV->Prop},ev G s (.bin op .no p q) K->ix P Γ w (do eqGuard op t x y (a.eval x) (a.eval y);binOp op t (a.eval x) (a.eval y)) K:=by
   intro K he
   obtain⟨u,v,hb,yJ,CD⟩:=fin he
   simp only[py]at hb
   split at hb
   ·rw[yJ.int,CD.int]
    rw[eqGuard_at_int]
    exact PH hb.1 hb.2
   ·obtain⟨b1,vy,HO⟩:=yJ.str
    obtain⟨b2,qM,KQ⟩:=CD.str
    rw[vy,qM,eqGuard_at_string]
    rw[←HO,←KQ]at hb
    exact PI hb
   ·exact hb.elim
  have eqrun:∀ {b:Bool} {K:PV->Prop},(op= .eql∨op= .neq)->s7 op b K->
    (∀o,(o= .eql∨o= .neq)->(binOp o t (a.eval x) (a.eval y)).run P w= .ok (.bool (if o= .eql then b else !b)) w)->(eqGuard op t x y (a.eval x) (a.eval y)).run P w= .ok () w->
    ix P Γ w (do eqGuard op t x y (a.eval x) (a.eval y);binOp op t (a.eval x) (a.eval y)) K:=by
   intro b K ho hb iN hg
   rcases ho with rfl|rfl
   ·exact⟨_,_,hb,by simp only[bJ,hg,rJ,iN .eql (.inl rfl)];rfl,jA⟩
   ·exact⟨_,_,hb,by simp only[bJ,hg,rJ,iN .neq (.inr rfl)];rfl,jA⟩
  split at hk
  ·rename_i ho
   split at hk
   ·simp only[sJ]at hk;subst hk;exact plain he
   ·simp only[sJ]at hk;subst hk;exact plain he
   ·rename_i hu
    simp only[sJ]at hk;subst hk
    obtain⟨u,v,hb,yJ,CD⟩:=fin he
    simp only[py]at hb
    split at hb
    ·rw[yJ.bl,CD.bl]at eqrun⊢
     refine eqrun ho hb (ue (Jn hu) rfl rfl) (by rw[eqGuard_at_bool];rfl)
    ·exact hb.elim
   ·rename_i e hu
    simp only[sJ]at hk;subst hk
    obtain⟨u,v,hb,yJ,CD⟩:=fin he
    simp only[py]at hb
    split at hb
    ·rw[yJ.np,CD.np]at eqrun⊢
     refine eqrun ho hb (ue (Eh hu) rfl rfl) (by rw[eqGuard_at_pointer];rfl)
    ·split at hb
     ·rename_i blk hg
      rw[←hs.bx]at hg
      obtain⟨b,hι,hv⟩:=yJ.pt hg hb.1
      rw[hv,CD.np]at eqrun⊢
      refine eqrun ho hb.2 (ue (xa hu) rfl rfl) (by rw[eqGuard_at_pointer];rfl)
     ·exact hb.elim
    ·obtain⟨b,o,cs,hv,_⟩:=yJ.fp
     rw[hv,CD.np]at eqrun⊢
     refine eqrun ho hb (ue (xa hu) rfl rfl) (by rw[eqGuard_at_pointer];rfl)
    ·exact hb.elim
   ·split at hk
    ·simp only[sJ]at hk;subst hk;simp[ev]at he
    ·simp at hk
   ·rename_i fs hu
    split at hk
    ·rename_i hgd
     split at hk
     ·rename_i sh DU
      simp only[sJ]at hk;subst hk
      obtain⟨u,v,hb,yJ,CD⟩:=fin he
      simp only[py]at hb
      have OB:sh.agg=true:=Ei DU (.inl ⟨_,hu⟩)
      obtain⟨c1,vy,_⟩:=yJ.cells (by rw[mG hb.1.1];exact OB)
      obtain⟨c2,qM,_⟩:=CD.cells (by rw[mG hb.1.2];exact OB)
      have YQ:=Lm (P:=P) (Γ:=Γ) 20 10000 (by omega) DU w u v _ _ hb.1.1 hb.1.2 yJ CD
      rw[vy,qM]at eqrun YQ⊢
      refine eqrun ho hb.2 (λo ho=> ?_) (run_eqGuard_agg w op t x y _ _ hgd)
      rcases ho with rfl|rfl
      ·rw[run_eql_struct,YQ];rfl
      ·rw[run_neq_struct,YQ];rfl
     ·simp at hk
    ·simp at hk
   ·rename_i n e hu
    split at hk
    ·rename_i hgd
     split at hk
     ·rename_i sh DU
      simp only[sJ]at hk;subst hk
      obtain⟨u,v,hb,yJ,CD⟩:=fin he
      simp only[py]at hb
      have OB:sh.agg=true:=Ei DU (.inr ⟨_,_,hu⟩)
      obtain⟨c1,vy,_⟩:=yJ.cells (by rw[mG hb.1.1];exact OB)
      obtain⟨c2,qM,_⟩:=CD.cells (by rw[mG hb.1.2];exact OB)
      have YQ:=Lm (P:=P) (Γ:=Γ) 20 10000 (by omega) DU w u v _ _ hb.1.1 hb.1.2 yJ CD
      rw[vy,qM]at eqrun YQ⊢
      refine eqrun ho hb.2 (λo ho=> ?_) (run_eqGuard_agg w op t x y _ _ hgd)
      rcases ho with rfl|rfl
      ·rw[run_eql_struct,YQ];rfl
      ·rw[run_neq_struct,YQ];rfl
     ·simp at hk
    ·simp at hk
   ·simp at hk
  ·simp only[sJ]at hk;subst hk;exact plain he
 ·simp at hk
end Go.Ab
namespace Go.Ab
variable [eg]
variable {P:Program} {nt:Nat} {ds:List Deferred} {s:St} {Γ:Cx} {a:Act} {w:World}
theorem je.rep {p:PV} {v:Value} (h:je Γ p v):aN Γ p v:=by
 cases p<;>first|exact h|(simp only[je]at h;cases h)
theorem jY.get:∀ {l:List PV} {vs:List Value},jY Γ l vs->∀ {i:Nat} {p:PV},l[i]? =some p->∃v,vs[i]? =some v∧je Γ p v
 |[],vs,h,i,p,hp=>by simp at hp
 |q::l,[],h,i,p,hp=>by simp[jY]at h
 |
  q::l,v::vs,h,i,p,hp=>by
  simp only[jY]at h
  cases i with
  |zero=>simp at hp;subst hp;exact⟨v,by simp,h.1⟩
  |succ i=>simp at hp;simpa using jY.get h.2 hp
theorem Jp {t e:TypeId} {x i:Operand} {y j:AX} {G g:Bool} {K:PV->Prop} {len n:Nat} (hx:gq x=some y) (hi:gq i=some j) (hs:hU nt ds s Γ a) (hG:G=true)
  (hu:P.underlying t=some (.array len e)) (hg:lq P e=some g) (hn:gx P e=some n) (he:ev G s (.index g len n y j) K):ix P Γ w (Instr.index t (a.eval x) (a.eval i)) K:=by
 simp only[ev]at he
 obtain⟨p,hp,hr⟩:=cO hx hs hG he
 obtain⟨q,hq,m7⟩:=cO hi hs hG hp
 obtain⟨k,m,hm,hK⟩:=gD hq m7
 split at hK
 ·rename_i sz n' l
  split at hK
  ·rename_i c hc
   obtain⟨⟨h0,h1,rfl,rfl,h4⟩,hK⟩:=hK
   obtain⟨cs,hv,AP⟩:=hr.cells rfl
   obtain⟨hl,hlen,hw⟩:=AP.nX
   have sI:=hw c (List.mem_of_getElem? hc)
   have xX:=(List.getElem?_eq_some_iff.1 hc).1
   obtain⟨c1,v1,c2,rfl,l1,r3⟩:∃c1 v1 c2,cs=c1++(c2++v1)∧c1.length=m.toNat*sz∧aD Γ [c] c2:=by
    have e1:l=l.take m.toNat++l[m.toNat]::l.drop (m.toNat+1):=by rw[List.getElem_cons_drop,List.take_append_drop]
    rw[e1]at hl
    obtain⟨c1,u1,rfl,r1,r2⟩:=hl.split
    obtain⟨c2,v2,rfl,r3,r4⟩:=r2.nW
    refine⟨c1,v2,c2,rfl,?_,?_⟩
    ·rw[r1.length,ie hw (by omega)]
    ·rw[gJ xX]at hc;simp only[sJ]at hc;rw[hc]at r3;exact r3
   obtain⟨v,vy,qM⟩:=pA (P:=P) (w:=w) (t:=e) (o:=m.toNat*sz) r3 rfl l1 (by rw[h4];exact hg) (by rw[sI];exact hn)
   refine⟨c,v,hK,?_,qM⟩
   rw[hv,hm]
   simp only[Instr.index,asIntOf,bJ,Sem.run_pure,run_underlying hu,rJ]
   rw[if_pos ⟨h0,h1⟩]
   simp only[bJ,run_sizeOf hn,rJ]
   exact vy
  ·exact hK.elim
 ·exact hK.elim
theorem Gq {t:TypeId} {x i:Operand} {y j:AX} {G:Bool} {K:PV->Prop} (hx:gq x=some y) (hi:gq i=some j) (hs:hU nt ds s Γ a) (hG:G=true)
  (hu:P.underlying t=some .string) (he:ev G s (.indexS y j) K):ix P Γ w (Instr.index t (a.eval x) (a.eval i)) K:=by
 simp only[ev]at he
 obtain⟨p,hp,hr⟩:=cO hx hs hG he
 obtain⟨q,hq,m7⟩:=cO hi hs hG hp
 obtain⟨k,m,hm,hK⟩:=gD hq m7
 split at hK
 ·rename_i bs
  split at hK
  ·rename_i c hc
   obtain⟨str,hv,hd⟩:=hr.str
   refine⟨_,_,hK.2,?_,dU⟩
   rw[hv,hm]
   have:str[m.toNat]? =some c:=by
    rw[←hd]at hc
    rw[Array.getElem?_toList]at hc
    obtain⟨fZ,he⟩:=Array.getElem?_eq_some_iff.1 hc
    rw[getElem?_pos str m.toNat fZ]
    exact congrArg some he
   simp only[Instr.index,asIntOf,bJ,Sem.run_pure,run_underlying hu,rJ]
   rw[if_pos hK.1,this];rfl
  ·exact hK.elim
 ·exact hK.elim
theorem Jq {t:TypeId} {x:Operand} {y:AX} {G g:Bool} {K:PV->Prop} {i n:Nat} {fs:Array Field} {f:Field} (hx:gq x=some y) (hs:hU nt ds s Γ a) (hG:G=true)
  (hu:P.underlying t=some (.struct fs)) (hf:fs[i]? =some f) (hg:lq P f.type=some g) (hn:gx P f.type=some n) (he:ev G s (.field i f.offset g n y) K):
  ix P Γ w (Instr.field t (a.eval x) i) K:=by
 simp only[ev]at he
 obtain⟨p,hp,hr⟩:=cO hx hs hG he
 split at hp
 ·rename_i sw l
  split at hp
  ·rename_i c hc
   obtain⟨⟨h1,h2,h3⟩,hK⟩:=hp
   obtain⟨cs,hv,AP⟩:=hr.cells rfl
   obtain⟨hl,hlen⟩:=AP.s6
   have xX:=(List.getElem?_eq_some_iff.1 hc).1
   obtain⟨c1,v1,c2,rfl,l1,r3⟩:∃c1 v1 c2,cs=c1++(c2++v1)∧c1.length=f.offset∧aD Γ [c] c2:=by
    have e1:l=l.take i++l[i]::l.drop (i+1):=by rw[List.getElem_cons_drop,List.take_append_drop]
    rw[e1]at hl
    obtain⟨c1,u1,rfl,r1,r2⟩:=hl.split
    obtain⟨c2,v2,rfl,r3,r4⟩:=r2.nW
    refine⟨c1,v2,c2,rfl,?_,?_⟩
    ·rw[r1.length,h1]
    ·rw[gJ xX]at hc;simp only[sJ]at hc;rw[hc]at r3;exact r3
   obtain⟨v,vy,qM⟩:=pA (P:=P) (w:=w) (t:=f.type) (o:=f.offset) r3 rfl l1 (by rw[h3];exact hg) (by rw[h2];exact hn)
   refine⟨c,v,hK,?_,qM⟩
   rw[hv]
   simp only[Instr.field,bJ,run_underlying hu,rJ,hf,asAgg,Sem.run_pure]
   exact vy
  ·exact hp.elim
 ·exact hp.elim
theorem Ej {x:Operand} {y:AX} {G:Bool} {K:PV->Prop} {i:Nat} (hx:gq x=some y) (hs:hU nt ds s Γ a) (he:ev G s (.extract i y) K):
  ix P Γ w (Instr.extract (a.eval x) i) K:=by
 simp only[ev]at he
 have hr:=vH hx hs
 split at he
 ·rename_i l hl
  rw[hl]at hr
  simp only[aN]at hr
  obtain⟨vs,hv,ff⟩:=hr
  split at he
  ·rename_i p hp
   obtain⟨v,vy,qM⟩:=ff.get hp
   exact⟨p,v,he,by rw[hv];simp[Instr.extract,vy],qM.rep⟩
  ·exact he.elim
 ·exact he.elim
theorem Gr {f:Fn} {x z:Array Operand} {y u:List AX} {G:Bool} {K:PV->Prop} (hx:qg x.toList=some y) (hz:qg z.toList=some u) (hs:hU nt ds s Γ a) (hG:G=true) (he:ev G s (.mkFunc f y u) K):
  ix P Γ w (Instr.makeFunc f (x.map a.eval) (z.map a.eval)) K:=by
 simp only[ev]at he
 obtain⟨ps,hp,hlen,ff⟩:=ua hs hG hx he
 obtain⟨qs,hq,OC,akX⟩:=ua hs hG hz hp
 obtain⟨⟨h1,h2⟩,hK⟩:=hq
 have r1:aD Γ ps (x.toList.map a.eval):=Eg (by simpa using hlen) (λi p v h3 h4=>by
  rw[List.getElem?_map,mJ]at h4
  obtain⟨o,h4,rfl⟩:=h4
  exact ff i p o h3 h4) h1
 have r2:aD Γ qs (z.toList.map a.eval):=Eg (by simpa using OC) (λi p v h3 h4=>by
  rw[List.getElem?_map,mJ]at h4
  obtain⟨o,h4,rfl⟩:=h4
  exact akX i p o h3 h4) h2
 refine⟨_,.func f (x.map a.eval) (z.map a.eval),hK,rfl,?_⟩
 simp only[aN]
 have:=aD.fn (Γ:=Γ) f ps qs r1 r2 (λp hp=>by have:=List.all_eq_true.1 h1 p hp;simp at this;exact this.1) (λp hp=>by have:=List.all_eq_true.1 h2 p hp;simp at this;exact this.1) .nil
 have e1:(x.toList.map a.eval).toArray=x.map a.eval:=by apply Array.ext';simp
 have e2:(z.toList.map a.eval).toArray=z.map a.eval:=by apply Array.ext';simp
 rw[e1,e2]at this
 exact this
theorem CR {o:Oper} {x:Operand} {y:AX} {G:Bool} {K:PV->Prop} (ho:o.op= .nilCheck x) (hx:gq x=some y) (hs:hU nt ds s Γ a) (hG:G=true) (he:ev G s (.nilCheck y) K):
  ∃p v,K p∧(execOp a.eval o).run P w= .ok (.value v) w∧aN Γ p v:=by
 simp only[ev]at he
 obtain⟨p,hp,hr⟩:=cO hx hs hG he
 split at hp
 ·split at hp
  ·rename_i blk hb
   have hr':=hr
   rw[←hs.bx]at hb
   obtain⟨b,hι,hv⟩:=hr'.pt hb hp.1
   exact⟨_,_,hp.2,by simp only[execOp,ho];rw[hv];rfl,by rw[←hv];exact hr⟩
  ·exact hp.elim
 ·obtain⟨b,o',cs,hv,_⟩:=aN.fp hr
  exact⟨_,_,hp,by simp only[execOp,ho];rw[hv];rfl,by rw[←hv];exact hr⟩
 ·obtain⟨fs,cs,hv,_⟩:=aN.fn hr
  exact⟨_,_,hp,by simp only[execOp,ho];rw[hv];rfl,by rw[←hv];exact hr⟩
 ·exact hp.elim
theorem ix.exec {o:Oper} {x:Sem Value} {K:PV->Prop} (h:ix P Γ w x K) (he:execOp a.eval o=(do Pure.pure (.value (←x)))):
  ∃p v,K p∧(execOp a.eval o).run P w= .ok (.value v) w∧aN Γ p v:=by
 obtain⟨p,v,hK,hr,hv⟩:=h
 exact⟨p,v,hK,by rw[he];simp[hr],hv⟩
theorem vK {t:TypeId} {i:TypeInfo} (h:P.info? t=some i):gx P t=some i.size:=by simp[gx,h]
theorem yY {o:Oper} {k:AK} {own G:Bool} {K:PV->Prop} (hk:kK P own o.op=some k) (hs:hU nt ds s Γ a) (hw:w.heap=Γ.heap) (hG:G=true) (he:ev G s k K):
  ∃p v,K p∧(execOp a.eval o).run P w= .ok (.value v) w∧aN Γ p v:=by
 obtain⟨dst,op,ty,pos,after,guard⟩:=o
 cases op with
 |
  move x=>
  simp only[kK]at hk
  split at hk<;>simp only[sJ,reduceCtorEq]at hk
  rename_i y hx;subst hk
  simp only[ev]at he
  obtain⟨p,hp,hr⟩:=cO hx hs hG he
  exact⟨p,_,hp,rfl,hr⟩
 |
  assign x=>
  simp only[kK]at hk
  split at hk<;>simp only[sJ,reduceCtorEq]at hk
  rename_i y hx;subst hk
  simp only[ev]at he
  obtain⟨p,hp,hr⟩:=cO hx hs hG he
  exact⟨p,_,hp,rfl,hr⟩
 |
  pick c x y=>
  simp only[kK]at hk
  split at hk<;>simp only[sJ,reduceCtorEq]at hk
  rename_i c' x' y' hc hx hy;subst hk
  obtain⟨p,v,h1,h2,h3⟩:=Li (P:=P) (w:=w) hc hx hy hs hG he
  refine⟨p,v,h1,?_,h3⟩
  simp only[execOp]
  simp only[bJ]at h2⊢
  cases hb:(asBool (a.eval c)).run P w with
  |
   ok b w'=>
   rw[hb]at h2
   simp only[rJ,Sem.run_pure,Result.ok.injEq]at h2⊢
   exact⟨by rw[h2.1],h2.2⟩
  |halt h w'=>rw[hb]at h2;simp at h2
 |
  build t parts=>
  have F3:kK P false (.build t parts)=some k:=hk
  exact(vJ (P:=P) (w:=w) F3 hs hG he).exec rfl
 |
  load t x=>
  simp only[kK]at hk
  split at hk
  ·rename_i g n y hg hn hx
   split at hk<;>simp only[sJ,reduceCtorEq]at hk
   subst hk
   exact(Ed hx hs hw hG hg hn he).exec rfl
  ·simp at hk
 |
  nilCheck x=>
  simp only[kK]at hk
  split at hk<;>simp only[sJ,reduceCtorEq]at hk
  rename_i y hx;subst hk
  exact CR rfl hx hs hG he
 |
  binOp op t x y yt=>
  exact(Jo (P:=P) (w:=w) hk hs hG he).exec rfl
 |
  unOp op t x=>
  simp only[kK]at hk
  split at hk<;>simp only[sJ,reduceCtorEq]at hk
  rename_i y hx;subst hk
  exact(VS hx hs hG he).exec rfl
 |
  convert t d x=>
  simp only[kK]at hk
  split at hk
  ·rename_i k1 k2 y h1 h2 hx
   simp only[sJ]at hk;subst hk
   exact(Jl hx hs hG h1 h2 he).exec rfl
  ·rename_i e y h1 h2 hx
   split at hk<;>simp only[sJ,reduceCtorEq]at hk
   rename_i h3;subst hk
   exact(Jm hx hs hw hG h1 h2 h3 he).exec rfl
  ·split at hk<;>simp only[sJ,reduceCtorEq]at hk
   subst hk;simp[ev]at he
  ·split at hk
   ·split at hk<;>simp only[sJ,reduceCtorEq]at hk
    subst hk;simp[ev]at he
   ·simp at hk
  ·simp at hk
 |
  makeFunc f x z=>
  simp only[kK]at hk
  split at hk<;>simp only[sJ,reduceCtorEq]at hk
  rename_i p q hx hz;subst hk
  exact(Gr hx hz hs hG he).exec rfl
 |
  slice t x lo hi mx=>
  simp only[kK]at hk
  split at hk
  ·rename_i y F0 lE La hu hx hl hh hm
   simp only[sJ]at hk;subst hk
   exact(Bc hx hl hh hm hs hG hu he).exec rfl
  ·rename_i e y F0 lE La hu hx hl hh hm
   split at hk
   ·rename_i n hn
    split at hk<;>simp only[sJ,reduceCtorEq]at hk
    rename_i hmh;subst hk
    exact(CN hx hl hh hm hmh hs hG hu hn he).exec rfl
   ·simp at hk
  ·rename_i n e y F0 lE La hu hx hl hh hm
   split at hk<;>simp only[sJ,reduceCtorEq]at hk
   rename_i sz hn;subst hk
   exact(CO hx hl hh hm hs hG hu hn he).exec rfl
  ·simp at hk
 |makeMap t r=>simp[kK]at hk
 |lookup t m x ok=>simp[kK]at hk
 |mapUpdate t m x y=>simp[kK]at hk
 |
  sliceToArrayPointer t x=>
  simp only[kK]at hk
  split at hk
  ·rename_i n e y hu hx
   split at hk<;>simp only[sJ,reduceCtorEq]at hk
   subst hk
   exact(PK hx hs hG hu he).exec rfl
  ·simp at hk
 |
  fieldAddr t x i=>
  simp only[kK]at hk
  split at hk
  ·rename_i fs y hu hx
   split at hk
   ·rename_i f hf
    split at hk<;>simp only[sJ,reduceCtorEq]at hk
    rename_i m hn;subst hk
    exact(Gn hx hs hG hu hf hn he).exec rfl
   ·simp at hk
  ·simp at hk
 |
  field t x i=>
  simp only[kK]at hk
  split at hk
  ·rename_i fs y hu hx
   split at hk
   ·rename_i f hf
    split at hk
    ·rename_i g n hg hn
     split at hk<;>simp only[sJ,reduceCtorEq]at hk
     subst hk
     exact(Jq hx hs hG hu hf hg hn he).exec rfl
    ·simp at hk
   ·simp at hk
  ·simp at hk
 |
  indexAddr t x i=>
  simp only[kK]at hk
  split at hk
  ·rename_i e y j hu hx hi
   split at hk<;>simp only[sJ,reduceCtorEq]at hk
   rename_i n hn;subst hk
   exact(Ba hx hi hs hG hu hn he).exec rfl
  ·rename_i len e y j hu hx hi
   split at hk<;>simp only[sJ,reduceCtorEq]at hk
   rename_i n hn;subst hk
   exact(Bb hx hi hs hG hu hn he).exec rfl
  ·simp at hk
 |
  index t x i=>
  simp only[kK]at hk
  split at hk
  ·rename_i len e y j hu hx hi
   split at hk
   ·rename_i g n hg hn
    split at hk<;>simp only[sJ,reduceCtorEq]at hk
    subst hk
    exact(Jp hx hi hs hG hu hg hn he).exec rfl
   ·simp at hk
  ·rename_i y j hu hx hi
   simp only[sJ]at hk;subst hk
   exact(Gq hx hi hs hG hu he).exec rfl
  ·simp at hk
 |
  extract x i=>
  simp only[kK]at hk
  split at hk<;>simp only[sJ,reduceCtorEq]at hk
  rename_i y hx;subst hk
  exact(Ej hx hs he).exec rfl
 |
  call c=>
  obtain⟨callee,args,tys⟩:=c
  obtain⟨args⟩:=args
  obtain⟨tys⟩:=tys
  cases callee with
  |
   value f=>
   simp only[kK]at hk
   split at hk<;>simp only[sJ,reduceCtorEq]at hk
   subst hk
   simp[ev]at he
  |invoke r m=>simp[kK]at hk
  |
   builtin b=>
   simp only[kK]at hk
   have hex:∀(x:Sem Value) (c:Array Bool),builtin b tys.toArray ty c ((args.map a.eval).toArray)=(do Pure.pure (.value (←x)))->ix P Γ w x K->
     c=(args.toArray.map λ| .const _=>true|_=>false)->
     ∃p v,K p∧(execOp a.eval {dst:=dst,op:= .call {callee:= .builtin b,args:=args.toArray,argTypes:=tys.toArray},type:=ty,pos:=pos,after:=after,guard:=guard}).run P w= .ok (.value v) w∧aN Γ p v:=by
    intro x c hx hy hc
    refine hy.exec ?_
    have e:Array.map a.eval args.toArray=(args.map a.eval).toArray:=by simp
    simp only[execOp,resolve,e]
    rw[←hx,hc]
    rfl
   cases b with
   |len=>exact hex _ _ rfl (PN (P:=P) (w:=w) (ty:=ty) hk hs hG he) rfl
   |cap=>exact hex _ _ rfl (PM (P:=P) (w:=w) (ty:=ty) hk hs hG he) rfl
   |
    min=>
    unfold dh at hk
    simp only at hk
    split at hk<;>simp only[sJ,reduceCtorEq]at hk
    rename_i l hl;subst hk
    exact hex _ _ rfl (by simpa using Ln (P:=P) (w:=w) (ty:=ty) (tys:=tys) hl hs hG he) rfl
   |
    max=>
    unfold dh at hk
    simp only at hk
    split at hk<;>simp only[sJ,reduceCtorEq]at hk
    rename_i l hl;subst hk
    exact hex _ _ rfl (by simpa using Ln (P:=P) (w:=w) (ty:=ty) (tys:=tys) hl hs hG he) rfl
   |
    append=>
    unfold dh at hk
    split at hk<;>(try contradiction)
    repeat (split at hk<;>(try contradiction))
    all_goals first|(simp only[sJ]at hk;subst hk;simp[ev]at he;done)|(simp at hk;done)|(split at hk<;>first|(simp only[sJ]at hk;subst hk;simp[ev]at he;done)|(simp at hk;done))
   |
    copy=>
    unfold dh at hk
    split at hk<;>(try contradiction)
    repeat (split at hk<;>(try contradiction))
    all_goals (simp only[sJ]at hk;subst hk;simp[ev]at he)
   |
    clear=>
    unfold dh at hk
    split at hk<;>(try contradiction)
    repeat (split at hk<;>(try contradiction))
    all_goals (simp only[sJ]at hk;subst hk;simp[ev]at he)
   |_=>unfold dh at hk;split at hk<;>contradiction
 |
  alloc t=>
  simp only[kK]at hk
  split at hk<;>simp only[sJ,reduceCtorEq]at hk
  subst hk;simp[ev]at he
 |
  box t x=>
  simp only[kK]at hk
  split at hk<;>simp only[sJ,reduceCtorEq]at hk
  subst hk;simp[ev]at he
 |
  buildSlice t n parts=>
  simp only[kK]at hk
  repeat (split at hk<;>(try contradiction))
  all_goals (simp only[sJ]at hk;subst hk;simp[ev]at he)
 |
  makeSlice t l c=>
  simp only[kK]at hk
  repeat (split at hk<;>(try contradiction))
  all_goals (simp only[sJ]at hk;subst hk;simp[ev]at he)
 |
  store t x y=>
  simp only[kK]at hk
  split at hk<;>simp only[sJ,reduceCtorEq]at hk
  subst hk;simp[ev]at he
 |_=>simp[kK]at hk
end Go.Ab
