/- Each quiet operation does what its abstract reading says. No condition. -/
import Derived.Test.YtlcojgogfjlceaaGreatDoorEA1
set_option linter.all false
namespace Go.Ab
variable [cK]
variable {P:Program} {nt:Nat} {ds:List Deferred} {s:St} {Γ:Cx} {a:Act} {w:World}
theorem aK.int {k:IntKind} {n:Int} {v:Value} (h:aK Γ (.int k n) v):v= .int k n:=by
 simp only[aK]at h;cases h;rfl
theorem aK.bl {x:Bool} {v:Value} (h:aK Γ (.bl x) v):v= .bool x:=by
 simp only[aK]at h;cases h;rfl
theorem aK.str {l:List UInt8} {v:Value} (h:aK Γ (.str l) v):∃s:ByteArray,v= .string s∧s.data.toList=l:=by
 simp only[aK]at h;cases h with|str l s h _=>exact⟨s,rfl,h⟩
theorem aK.np {v:Value} (h:aK Γ .np v):v= .pointer none:=by
 simp only[aK]at h;cases h;rfl
theorem aK.nf {v:Value} (h:aK Γ .nf v):v= .nilFunc:=by
 simp only[aK]at h;cases h;rfl
theorem aK.pt {k aN:Nat} {p:List Step} {v:Value} {blk:aU} (h:aK Γ (.pt k p aN) v) (hg:get Γ.bx k=some blk) (ht:aN=blk.aN):
  ∃b,Γ.ι k=some b∧v= .pointer (some ⟨b,bI p,none⟩):=by
 simp only[aK]at h;cases h with
 |
  pt k p aN v bq lx h1 hv _=>
  rw[hg]at lx
  obtain⟨h2,h3⟩:=lx
  cases h2
  exact hv ht
theorem aK.rs {k off len aN sz:Nat} {c:ft} {p:List Step} {v:Value} {blk:aU} (h:aK Γ (.rs k p off len aN sz c) v) (hg:get Γ.bx k=some blk) (ht:aN=blk.aN):
  ∃a aX,v= .slice a len aX∧gX Γ k p off len sz c a aX:=by
 simp only[aK]at h;cases h with
 |
  rs k p off len aN sz c v bq lx h1 hv _=>
  rw[hg]at lx
  obtain⟨h2,h3⟩:=lx
  cases h2
  exact hv ht
theorem aK.fp {sz:Nat} {l:List PV} {p:List Step} {v:Value} (h:aK Γ (.fp sz l p) v):
  ∃b o cs,v= .pointer (some ⟨b,o+bI p,none⟩)∧aD Γ l cs∧(∀x∈l,x.width=sz)∧(b<Γ.heap.size∧¬Γ.own b)∧∀i c,cs[i]? =some c->cell Γ.heap b (o+i)=some c:=by
 simp only[aK]at h;cases h with
 | @fp _ _ cs sz l p b o hl hw hm hc _=>exact⟨b,o,cs,rfl,hl,hw,hm,hc⟩
theorem aK.sl {sz:Nat} {l:List PV} {clip:Bool} {v:Value} (h:aK Γ (.sl sz l clip) v):
  ∃
   a aX cs,v= .slice a l.length aX∧aD Γ l cs∧(∀x∈l,x.width=sz)∧l.length≤aX∧(clip=true->aX=l.length)∧
   (l≠[]->∃b o,a=some ⟨b,o,none⟩∧b<Γ.heap.size∧¬Γ.own b∧∀i c,cs[i]? =some c->cell Γ.heap b (o+i)=some c):=by
 simp only[aK]at h;cases h with
 | @sl _ _ cs sz l clip a aX hl hw hc hk hb _=>exact⟨a,aX,cs,rfl,hl,hw,hc,hk,hb⟩
theorem aK.fn {f:Fn} {first cap:List PV} {v:Value} (h:aK Γ (.fn f first cap) v):
  ∃fs cs:List Value,v= .func f fs.toArray cs.toArray∧aD Γ first fs∧aD Γ cap cs∧(∀x∈first,x.isAgg=false)∧(∀x∈cap,x.isAgg=false):=by
 simp only[aK]at h;cases h with
 | @fn _ _ fs cs f first cap h1 h2 h3 h4 _=>exact⟨fs,cs,rfl,h1,h2,h3,h4⟩
theorem aK.uw {p:PV} {cs:List Value} (h:aD Γ [p] cs) (cS:p.isAgg=true):aK Γ p (.agg cs.toArray):=by
 cases p<;>simp[PV.isAgg]at cS
 ·exact⟨cs,rfl,h⟩
 ·exact⟨cs,rfl,h⟩
theorem aK.Fv {p:PV} {v:Value} (h:aD Γ [p] [v]) (cS:p.isAgg=false):aK Γ p v:=by
 cases p<;>simp[PV.isAgg]at cS<;>first|exact h|trivial|(cases h;done)
theorem aK.cells {p:PV} {v:Value} (h:aK Γ p v) (cS:p.isAgg=true):∃cs:List Value,v= .agg cs.toArray∧aD Γ [p] cs:=by
 cases p<;>simp[PV.isAgg]at cS
 ·exact h
 ·exact h
theorem aK.B9 {p:PV} {v:Value} (h:aK Γ p v) (hc:p.aT=true):aD Γ [p] v.cells.toList:=by
 cases p<;>simp[PV.aT]at hc
 case st w l=>obtain⟨cs,rfl,h⟩:=h;simpa[Value.cells]using h
 case ar sz n l=>obtain⟨cs,rfl,h⟩:=h;simpa[Value.cells]using h
 all_goals
  simp only[aK]at h
  have h1:=h.one v (by simp)
  have:v.cells= #[v]:=by cases v<;>simp_all [ew,Value.cells]
  rw[this];exact h
theorem Ti {v:Value} {p:PV} (h:trV v=some p):aK Γ p v:=by
 unfold trV at h;split at h<;>simp only[sJ,reduceCtorEq]at h<;>subst h<;>simp only[aK]
 ·exact .bl _ .nil
 ·exact .int _ _ .nil
 ·exact .str _ _ rfl .nil
 ·exact .np .nil
 ·exact .sl 0 [] true none 0 .nil (by simp) (JaQ _) (λ_=>rfl) (λh=>absurd rfl h) .nil
 ·exact .nf .nil
 ·exact .ni .nil
theorem Ca {x:Operand} {y:AX} (h:gk x=some y) (hs:fX nt ds s Γ a):aK Γ (vx s y) (a.eval x):=by
 cases x with
 |
  tmp t=>
  simp only[gk,sJ]at h
  subst h
  simp only[vx,Act.eval]
  cases hg:get s.env t with
  |none=>simp[aK]
  |some p=>simpa using hs.env t p hg
 |
  const v=>
  simp only[gk]at h
  split at h
  ·rename_i p hp
   simp only[sJ]at h;subst h
   exact Ti hp
  ·exact absurd h (by simp)
 |global g=>simp[gk]at h
 |
  func f=>
  simp only[gk,sJ]at h
  subst h
  simp only[vx,Act.eval,aK]
  simpa using aD.fn (Γ:=Γ) (fs:=[]) (cs:=[]) (.func f) [] [] .nil .nil (by simp) (by simp) .nil
theorem bw {g:Bool} {x:Operand} {y:AX} {K:PV->Prop} (h:gk x=some y) (hs:fX nt ds s Γ a) (hg:g=true) (hv:vg g s y K):
  ∃p,K p∧aK Γ p (a.eval x):=by
 have hr:=Ca h hs;unfold vg at hv;split at hv
 ·rename_i b p hb;rw[hb]at hr;exact⟨p,hv.2,by rw[aK]at hr;exact hr.1 (hv.1 hg)⟩
 ·exact⟨_,hv,hr⟩
theorem xC {g:Bool} (hs:fX nt ds s Γ a) (hg:g=true):∀ {xs:List Operand} {ys:List AX} {K:List PV->Prop},xB xs=some ys->xq g s ys K->
  ∃ps,K ps∧ps.length=xs.length∧∀(i:Nat) p x,ps[i]? =some p->xs[i]? =some x->aK Γ p (a.eval x)
 |
  [],ys,K,h,hv=>by
  simp only[xB,sJ]at h;subst h
  exact⟨[],hv,rfl,by simp⟩
 |
  x::xs,ys,K,h,hv=>by
  simp only[xB]at h
  split at h
  ·rename_i y l hy hl
   simp only[sJ]at h;subst h
   obtain⟨p,hp,hr⟩:=bw hy hs hg hv
   obtain⟨ps,En,hlen,cy⟩:=xC hs hg hl hp
   refine⟨p::ps,En,by simp[hlen],λi q z h1 h2=> ?_⟩
   cases i with
   |zero=>simp at h1 h2;subst h1 h2;exact hr
   |succ i=>simp at h1 h2;exact cy i q z h1 h2
  ·exact absurd h (by simp)
theorem Bs {g:Bool} (hs:fX nt ds s Γ a) (hg:g=true):∀ {xs:List (Nat×Operand)} {ys:List (Nat×AX)} {K:List (Nat×PV)->Prop},sR xs=some ys->B8 g s ys K->
  ∃ps,K ps∧ps.length=xs.length∧∀(i:Nat) j p k x,ps[i]? =some (j,p)->xs[i]? =some (k,x)->j=k∧aK Γ p (a.eval x)
 |
  [],ys,K,h,hv=>by
  simp only[sR,sJ]at h;subst h
  exact⟨[],hv,rfl,by simp⟩
 |
  (n,x)::xs,ys,K,h,hv=>by
  simp only[sR]at h
  split at h
  ·rename_i y l hy hl
   simp only[sJ]at h;subst h
   obtain⟨p,hp,hr⟩:=bw hy hs hg hv
   obtain⟨ps,En,hlen,cy⟩:=Bs hs hg hl hp
   refine⟨(n,p)::ps,En,by simp[hlen],λi j q k z h1 h2=> ?_⟩
   cases i with
   |zero=>simp at h1 h2;obtain⟨rfl,rfl⟩:=h1;obtain⟨rfl,rfl⟩:=h2;exact⟨rfl,hr⟩
   |succ i=>simp at h1 h2;exact cy i j q k z h1 h2
  ·exact absurd h (by simp)
theorem eX {p:PV} {K:Int->Prop} {v:Value} (h:pq p K) (hr:aK Γ p v):∃k n,v= .int k n∧K n:=by
 unfold pq at h;split at h
 ·exact⟨_,_,hr.int,h⟩
 ·exact h.elim
def gp (P:Program) (Γ:Cx) (w:World) (x:Sem Value) (K:PV->Prop):Prop:=
 ∃p v,K p∧x.run P w= .ok v w∧aK Γ p v
theorem gp.pure {K:PV->Prop} {p:PV} {v:Value} (h:K p) (hr:aK Γ p v):gp P Γ w (Pure.pure v) K:=⟨p,v,h,rfl,hr⟩
theorem iK {x:Bool}:aK Γ (.bl x) (.bool x):=by simp only[aK];exact .bl _ .nil
theorem cB {k:IntKind} {n:Int}:aK Γ (.int k n) (.int k n):=by simp only[aK];exact .int _ _ .nil
theorem Ow {b:ByteArray}:aK Γ (.str b.data.toList) (.string b):=by simp only[aK];exact .str _ _ rfl .nil
theorem sc {b:ByteArray} {l:List UInt8} (h:b.data.toList=l):aK Γ (.str l) (.string b):=by subst h;exact Ow
theorem toList_data (b:ByteArray):b.toList=b.data.toList:=by rw[ByteArray.toList_eq]
theorem Tj {op:BinOp} {t:TypeId} {k k':IntKind} {m n:Int} {K:PV->Prop} (hk:op= .shl∨op= .shr∨k=k') (h:qI op k m n K):
  gp P Γ w (binOp op t (.int k m) (.int k' n)) K:=by
 rcases hk with rfl|rfl|rfl
 ·obtain⟨h1,h2⟩:=h;refine⟨_,_,h2,?_,cB⟩;simp only[binOp,Op.shift];rw[if_neg (by omega)];rfl
 ·obtain⟨h1,h2⟩:=h;refine⟨_,_,h2,?_,cB⟩;simp only[binOp,Op.shift];rw[if_neg (by omega)];rfl
 ·cases op<;>simp only[qI]at h
  case quo=>exact⟨_,_,h.2,by simp[binOp,Op.intDiv,h.1],cB⟩
  case rem=>exact⟨_,_,h.2,by simp[binOp,Op.intDiv,h.1],cB⟩
  case shl=>exact⟨_,_,h.2,by simp only[binOp,Op.shift];rw[if_neg (by omega)];rfl,cB⟩
  case shr=>exact⟨_,_,h.2,by simp only[binOp,Op.shift];rw[if_neg (by omega)];rfl,cB⟩
  case andNot=>exact⟨_,_,h,by rw[binOp_andNot];rfl,cB⟩
  case and=>exact⟨_,_,h,by rw[binOp_and];rfl,cB⟩
  case or=>exact⟨_,_,h,by rw[binOp_or];rfl,cB⟩
  case xor=>exact⟨_,_,h,by rw[binOp_xor];rfl,cB⟩
  case add=>exact⟨_,_,h,by rw[binOp_add];rfl,cB⟩
  case sub=>exact⟨_,_,h,by rw[binOp_sub];rfl,cB⟩
  case mul=>exact⟨_,_,h,by rw[binOp_mul];rfl,cB⟩
  all_goals exact⟨_,_,h,by simp[binOp,Op.intCmp],iK⟩
theorem Tk {op:BinOp} {t:TypeId} {x y:ByteArray} {K:PV->Prop} (h:B7 op x.data.toList y.data.toList K):
  gp P Γ w (binOp op t (.string x) (.string y)) K:=by
 cases op<;>simp only[B7]at h<;>first|exact h.elim|skip
 case add=>
  refine⟨_,_,h.2,?_,sc (b:=x++y) (by simp)⟩
  have:¬((x.size+y.size:Nat):Int)>IntKind.i64.max:=by
   have h1:=h.1;have e1:x.data.toList.length=x.size:=JbZ;have e2:y.data.toList.length=y.size:=JbZ;have e3:IntKind.i64.max=9223372036854775807:=by decide
   omega
  simp only[binOp,Op.stringOp];rw[if_neg this];rfl
 all_goals
  refine⟨_,_,h,?_,iK⟩
  simp[binOp,Op.stringOp,toList_data]
end Go.Ab
namespace Go.Ab
variable [cK]
variable {P:Program} {nt:Nat} {ds:List Deferred} {s:St} {Γ:Cx} {a:Act} {w:World}
theorem Cb {l:List PV} {sz:Nat} {p:List Step} {u:PV} {cs:List Value} (h:aD Γ l cs) (hw:∀x∈l,x.width=sz) (hg:oK (.arr sz l) p=some u):
  bI p+u.width≤cs.length∧aD Γ [u] ((cs.drop (bI p)).take u.width):=by
 cases p with
 |nil=>simp[oK]at hg
 |
  cons x p=>
  cases x with
  |f i o=>simp[oK]at hg
  |
   i j s=>
   simp only[oK]at hg
   split at hg
   ·rename_i hs
    subst hs
    split at hg
    ·rename_i c hc
     have h3:=h.at hc
     obtain⟨h4,h5⟩:=r9 p h3 hg
     have h6:=h3.fK
     have:=BX h hc (by omega) rfl h5
     have hj:=(iJ.1 hc).1
     rw[fY hw (by omega)]at this
     simpa[bI]using this
    ·exact absurd hg (by simp)
   ·exact absurd hg (by simp)
  |
   w o n s=>
   simp only[oK]at hg
   split at hg
   ·rename_i hs
    obtain⟨rfl,hs⟩:=hs
    obtain⟨h1,h2⟩:=h.GZ hw hs
    have RP:=h1.Th (sz:=s) (n:=n) (by rw[lJ,JbV,JdW (by omega)]) (λx hx=>hw x (JdJ (JbX hx)))
    obtain⟨h3,h4⟩:=r9 p RP hg
    rw[lJ,JbV]at h3
    rw[kY _ _ _ _ _ (by omega)]at h4
    refine⟨by simp only[bI];omega,by simpa only[bI]using h4⟩
   ·exact absurd hg (by simp)
theorem nM {heap:Array Obj} {b o:Nat} {cs:List Value} (h:∀i c,cs[i]? =some c->cell heap b (o+i)=some c) (p n:Nat):
  ∀i c,((cs.drop p).take n)[i]? =some c->cell heap b (o+p+i)=some c:=by
 intro i c hc;rw[List.getElem?_take]at hc;split at hc
 ·rw[List.getElem?_drop]at hc;have:=h _ _ hc;rwa [Nat.add_assoc]
 ·exact absurd hc (by simp)
theorem mb {heap:Array Obj} {b:Nat} {c:Array Value} {e:TypeId} {fr:Nat×Nat} (h:heap[b]? =some (.cells c e fr)) (cs rest:List Value) (hc:c.toList=cs++rest):
  ∀i x,cs[i]? =some x->cell heap b (0+i)=some x:=by
 intro i x hx;simp only[cell,h,JhX];have hi:=(iJ.1 hx).1;rw[←Array.getElem?_toList,hc,List.getElem?_append_left hi,hx]
theorem Mem.at (hm:Mem Γ) {k b:Nat} {blk:aU} {p:List Step} {u:PV} (hg:get Γ.bx k=some blk) (hb:Γ.ι k=some b) (hu:oK blk p=some u):
  ∃cs,aD Γ [u] cs∧∀i c,cs[i]? =some c->cell Γ.heap b (bI p+i)=some c:=by
 have h:=hm.blk k blk hg;cases blk with
 |
  box v=>
  obtain⟨b',c,e,h1,h2,h3⟩:=h
  rw[hb]at h1;cases h1
  obtain⟨h4,h5⟩:=r9 p h3 (by simpa[oK]using hu)
  refine⟨_,h5,?_⟩
  have:=nM (mb h2 c.toList [] (by simp)) (bI p) u.width
  simpa using this
 |
  arr sz l=>
  obtain⟨h1,h2,h3⟩:=h
  rw[hb]at h3
  obtain⟨c,e,cs,rest,h4,h5,h6,_⟩:=h3
  obtain⟨h7,h8⟩:=Cb h6 h1 hu
  refine⟨_,h8,?_⟩
  have:=nM (mb h4 cs rest h5) (bI p) u.width
  simpa using this
 |map b0 ks vs l=>simp[oK]at hu
theorem cell?_eq (w:World) (b o:Nat):w.cell? ⟨b,o,none⟩=cell w.heap b o:=by
 simp only[World.cell?,cell];split<;>simp_all
theorem vr {t:TypeId} {g:Bool} (h:lD P t=some g):(isAgg t).run P w= .ok g w:=by
 unfold lD at h;split at h<;>simp only[sJ,reduceCtorEq]at h
 ·rename_i fs hu;subst h;simp[isAgg,run_underlying hu]
 ·rename_i n e hu;subst h;simp[isAgg,run_underlying hu]
 ·rename_i d h1 h2 hu;subst h;simp only[isAgg,bJ,run_underlying hu,rJ];try split
  all_goals simp_all
theorem run_sizeOf {t:TypeId} {n:Nat} (h:gL P t=some n):(sizeOf t).run P w= .ok n w:=by
 unfold gL at h;split at h<;>simp only[sJ,reduceCtorEq]at h;rename_i i hi;subst h;simp[sizeOf,typeInfo,hi]
theorem iN (b o n:Nat):Addr.add ⟨b,o,none⟩ n=⟨b,o+n,none⟩:=by
 simp only[Addr.add];split
 ·subst_vars;rfl
 ·rfl
theorem Al {t:TypeId} {u:PV} {cs:List Value} {b o:Nat} (hr:aD Γ [u] cs) (hc:∀i c,cs[i]? =some c->cell w.heap b (o+i)=some c)
  (hg:lD P t=some u.isAgg) (hn:gL P t=some u.width):∃v,(loadVar t ⟨b,o,none⟩).run P w= .ok v w∧aK Γ u v:=by
 have hl:=hr.fK;cases ha:u.isAgg with
 |
  true=>
  refine⟨.agg cs.toArray,?_,aK.uw hr ha⟩
  rw[ha]at hg
  simp only[loadVar,bJ,vr hg,rJ,if_true,run_sizeOf hn]
  rw[←hl,run_loadCells_list w ⟨b,o,none⟩ cs (λj v hj=>by rw[iN,cell?_eq];exact hc j v hj)]
  rfl
 |
  false=>
  have h1:u.width=1:=by cases u<;>simp[PV.isAgg]at ha<;>rfl
  rw[h1]at hl
  obtain⟨v,rfl⟩:=JrW.1 hl
  refine⟨v,?_,aK.Fv hr ha⟩
  rw[ha]at hg
  have:=hc 0 v rfl
  simp only[loadVar,bJ,vr hg,rJ,fJ,if_false,run_load,cell?_eq]
  rw[JnX]at this
  rw[this]
theorem Hd {t:TypeId} {x:Operand} {y:AX} {g:Bool} {G:Bool} {n:Nat} {K:PV->Prop} (hx:gk x=some y) (hs:fX nt ds s Γ a) (hw:w.heap=Γ.heap) (hG:G=true)
  (ha:lD P t=some g) (hn:gL P t=some n) (he:ev G s (.load g n y) K):gp P Γ w (Instr.loadAt t (a.eval x)) K:=by
 simp only[ev]at he;obtain⟨p,hp,hr⟩:=bw hx hs hG he;split at hp
 ·rename_i k p aN;split at hp
  ·rename_i blk hb;split at hp
   ·rename_i u hu;obtain⟨⟨h1,h2,h3⟩,hK⟩:=hp;rw[←hs.bx]at hb;obtain⟨b,hι,hv⟩:=hr.pt hb h1;obtain⟨cs,Bl,yR⟩:=hs.mem.at hb hι hu;obtain⟨v,xw,nJ⟩:=Al (P:=P) (w:=w) (b:=b) (o:=bI p) Bl (by rw[hw];exact yR) (by rw[h3];exact ha) (by rw[h2];exact hn);exact⟨u,v,hK,by rw[hv];simpa[Instr.loadAt,Instr.sureAddr]using xw,nJ⟩
   ·exact hp.elim
  ·exact hp.elim
 ·rename_i sz l p;split at hp
  ·rename_i u hu;obtain⟨⟨h2,h3⟩,hK⟩:=hp;obtain⟨b,o,cs,hv,hl,nD,hm,hc⟩:=hr.fp;obtain⟨h4,h5⟩:=Cb hl nD hu;obtain⟨v,xw,nJ⟩:=Al (P:=P) (w:=w) (b:=b) (o:=o+bI p) h5 (by rw[hw];exact nM hc (bI p) u.width) (by rw[h3];exact ha) (by rw[h2];exact hn);exact⟨u,v,hK,by rw[hv];simpa[Instr.loadAt,Instr.sureAddr]using xw,nJ⟩
  ·exact hp.elim
 ·exact hp.elim
theorem aK.Ox {k b aN:Nat} {p:List Step} {blk:aU} (hb:get Γ.bx k=some blk) (ht:aN=blk.aN) (hι:Γ.ι k=some b) {o:Nat} (ho:o=bI p):
  aK Γ (.pt k p aN) (.pointer (some ⟨b,o,none⟩)):=by
 subst ho;simp only[aK];exact .pt k p aN _ blk ⟨hb,by omega⟩ rfl (λ_=>⟨b,hι,rfl⟩) .nil
theorem aK.Tl {sz b o:Nat} {l:List PV} {cs:List Value} {p:List Step} (hl:aD Γ l cs) (hw:∀x∈l,x.width=sz) (hm:b<Γ.heap.size∧¬Γ.own b)
  (hc:∀i c,cs[i]? =some c->cell Γ.heap b (o+i)=some c) {q:Nat} (hq:q=o+bI p):aK Γ (.fp sz l p) (.pointer (some ⟨b,q,none⟩)):=by
 subst hq;simp only[aK];exact .fp sz l p b o hl hw hm hc .nil
theorem Jh {t:TypeId} {x:Operand} {y:AX} {G:Bool} {K:PV->Prop} {i m:Nat} {fs:Array Field} {f:Field} (hx:gk x=some y) (hs:fX nt ds s Γ a) (hG:G=true)
  (hu:P.underlying t=some (.struct fs)) (hf:fs[i]? =some f) (hn:gL P f.type=some (m+1)) (he:ev G s (.fieldA i f.offset y) K):
  gp P Γ w (Instr.fieldAt t (a.eval x) i) K:=by
 simp only[ev]at he;obtain⟨p,hp,hr⟩:=bw hx hs hG he
 have key:∀b o,(Instr.fieldAt t (.pointer (some ⟨b,o,none⟩)) i).run P w= .ok (.pointer (some ⟨b,o+f.offset,none⟩)) w:=by
  intro b o;simp only[Instr.fieldAt,bJ,run_underlying hu,rJ,hf,Instr.sureAddr,JbW,fieldPlace,run_sizeOf hn];rw[if_neg (by omega)];simp[iN]
 split at hp
 ·rename_i k p aN;split at hp
  ·rename_i blk hb;rw[←hs.bx]at hb;obtain⟨b,hι,hv⟩:=hr.pt hb hp.1;exact⟨_,_,hp.2,by rw[hv];exact key _ _,.Ox hb hp.1 hι (by simp[ma,bI])⟩
  ·exact hp.elim
 ·rename_i sz l p;obtain⟨b,o,cs,hv,hl,nD,hm,hc⟩:=hr.fp;exact⟨_,_,hp,by rw[hv];exact key _ _,.Tl hl nD hm hc (by simp[ma,bI];omega)⟩
 ·exact hp.elim
theorem DY {t e:TypeId} {x i:Operand} {y j:AX} {G:Bool} {K:PV->Prop} {n:Nat} (hx:gk x=some y) (hi:gk i=some j) (hs:fX nt ds s Γ a) (hG:G=true)
  (hu:P.underlying t=some (.slice e)) (hn:gL P e=some n) (he:ev G s (.indexA (.sl n) y j) K):gp P Γ w (Instr.indexAt t (a.eval x) (a.eval i)) K:=by
 simp only[ev]at he;obtain⟨p,hp,hr⟩:=bw hx hs hG he;obtain⟨q,hq,qP⟩:=bw hi hs hG hp;obtain⟨k,m,hm,hK⟩:=eX hq qP;rw[hm]
 have key:∀b o (len cap:Nat),0≤m->m<len->(Instr.indexAt t (.slice (some ⟨b,o,none⟩) len cap) (.int k m)).run P w= .ok (.pointer (some ⟨b,o+m.toNat*n,none⟩)) w:=by
  intro b o len cap h0 h1;simp only[Instr.indexAt,asIntOf,bJ,JbW,run_underlying hu,rJ];rw[if_pos ⟨h0,h1⟩];simp[run_sizeOf hn,iN]
 split at hK
 ·rename_i bN l clip;obtain⟨⟨rfl,h0,h1⟩,hK⟩:=hK;obtain⟨ad,aX,cs,hv,hl,nD,hc,hk,hb⟩:=hr.sl;obtain⟨b,o,rfl,dk,WR,nC⟩:=hb (by intro h;subst h;simp at h1;omega);rw[hv];exact⟨_,_,hK,key _ _ _ _ h0 h1,.Tl hl nD ⟨dk,WR⟩ nC (by simp[bI])⟩
 ·rename_i kk p off len aN bN c;split at hK
  ·rename_i blk hb;obtain⟨⟨h1,rfl,h2,h3⟩,hK⟩:=hK;rw[←hs.bx]at hb;obtain⟨ad,aX,hv,df⟩:=hr.rs hb h1;unfold gX at df;cases hι:Γ.ι kk with
   |none=>rw[hι]at df;omega
   |
    some b=>
    rw[hι]at df
    obtain⟨h4,h5,_⟩:=df
    rcases h5 with h5|rfl
    ·omega
    rw[hv]
    exact⟨_,_,hK,key _ _ _ _ h2 h3,.Ox hb h1 hι (by simp[ma,bI,JgZ];omega)⟩
  ·exact hK.elim
 ·exact hK.elim
theorem Tm {t e:TypeId} {x:Operand} {y:AX} {G:Bool} {K:PV->Prop} {n sz:Nat} (hx:gk x=some y) (hs:fX nt ds s Γ a) (hG:G=true)
  (hu:P.underlying t=some (.array n e)) (he:ev G s (.s2a n sz y) K):gp P Γ w (Instr.arrayAt t (a.eval x)) K:=by
 simp only[ev]at he;obtain⟨p,hp,hr⟩:=bw hx hs hG he
 have key:∀(ad:Option Addr) (len cap:Nat),n≤len->(Instr.arrayAt t (.slice ad len cap)).run P w= .ok (.pointer ad) w:=by
  intro ad len cap h;simp only[Instr.arrayAt,bJ,run_underlying hu,rJ];rw[if_neg (by omega)];rfl
 split at hp
 ·rename_i bN l clip;obtain⟨⟨rfl,h0,h1⟩,hK⟩:=hp;obtain⟨ad,aX,cs,hv,hl,nD,hc,hk,hb⟩:=hr.sl;obtain⟨b,o,rfl,dk,WR,nC⟩:=hb (by intro h;subst h;simp at h1;omega);rw[hv];exact⟨_,_,hK,key _ _ _ h1,.Tl hl nD ⟨dk,WR⟩ nC (by simp[bI])⟩
 ·rename_i kk p off len aN bN c;split at hp
  ·rename_i blk hb;obtain⟨⟨h1,rfl,h2,h3⟩,hK⟩:=hp;rw[←hs.bx]at hb;obtain⟨ad,aX,hv,df⟩:=hr.rs hb h1;unfold gX at df;cases hι:Γ.ι kk with
   |none=>rw[hι]at df;omega
   |
    some b=>
    rw[hι]at df
    obtain⟨h4,h5,_⟩:=df
    rcases h5 with h5|rfl
    ·omega
    rw[hv]
    exact⟨_,_,hK,key _ _ _ h3,.Ox hb h1 hι (by simp[ma,bI])⟩
  ·exact hp.elim
 ·exact hp.elim
theorem DZ {t e:TypeId} {x i:Operand} {y j:AX} {G:Bool} {K:PV->Prop} {len n:Nat} (hx:gk x=some y) (hi:gk i=some j) (hs:fX nt ds s Γ a) (hG:G=true)
  (hu:P.underlying t=some (.array len e)) (hn:gL P e=some n) (he:ev G s (.indexA (.ar len n) y j) K):gp P Γ w (Instr.indexAt t (a.eval x) (a.eval i)) K:=by
 simp only[ev]at he;obtain⟨p,hp,hr⟩:=bw hx hs hG he;obtain⟨q,hq,qP⟩:=bw hi hs hG hp;obtain⟨k,m,hm,⟨h0,h1⟩,hK⟩:=eX hq qP;rw[hm]
 have key:∀b o,(Instr.indexAt t (.pointer (some ⟨b,o,none⟩)) (.int k m)).run P w= .ok (.pointer (some ⟨b,o+m.toNat*n,none⟩)) w:=by
  intro b o;simp only[Instr.indexAt,asIntOf,bJ,JbW,run_underlying hu,rJ,Instr.sureAddr];rw[if_pos ⟨h0,h1⟩];simp[run_sizeOf hn,iN]
 split at hK
 ·rename_i k p aN;split at hK
  ·rename_i blk hb;rw[←hs.bx]at hb;obtain⟨b,hι,hv⟩:=hr.pt hb hK.1;exact⟨_,_,hK.2,by rw[hv];exact key _ _,.Ox hb hK.1 hι (by simp[ma,bI])⟩
  ·exact hK.elim
 ·rename_i sz l p;obtain⟨b,o,cs,hv,hl,nD,hm,hc⟩:=hr.fp;exact⟨_,_,hK,by rw[hv];exact key _ _,.Tl hl nD hm hc (by simp[ma,bI];omega)⟩
 ·exact hK.elim
end Go.Ab
namespace Go.Ab
variable [cK]
variable {P:Program} {nt:Nat} {ds:List Deferred} {s:St} {Γ:Cx} {a:Act} {w:World}
theorem aK.gd {b:Bool} {p:PV} {v:Value} (h:aK Γ (.gd b p) v) (hb:b=true):aK Γ p v:=by
 rw[aK]at h;exact h.1 hb
theorem Oy {c x y:Operand} {c' x' y':AX} {G:Bool} {K:PV->Prop} (hc:gk c=some c') (hx:gk x=some x') (hy:gk y=some y') (hs:fX nt ds s Γ a) (hG:G=true)
  (he:ev G s (.pick c' x' y') K):gp P Γ w (do Pure.pure (if←asBool (a.eval c)then a.eval x else a.eval y)) K:=by
 simp only[ev]at he;obtain⟨p,hp,hr⟩:=bw hc hs hG he;have rx:=Ca hx hs;have ry:=Ca hy hs;split at hp
 ·rename_i b;have hb:=hr.bl
  have key:((do Pure.pure (if←asBool (a.eval c)then a.eval x else a.eval y):Sem Value)).run P w= .ok (if b then a.eval x else a.eval y) w:=by
   rw[hb];simp[asBool]
  split at hp<;>rename_i e1 e2<;>(try rw[e1]at rx)<;>(try rw[e2]at ry)
  ·refine⟨_,_,hp,key,?_⟩;rw[rx.bl,ry.bl];cases b<;>exact iK
  ·refine⟨_,_,hp.2,key,?_⟩;cases b with
   |true=>rw[rx.bl];exact iK
   |false=>rw[(ry.gd (hp.1 rfl)).bl];exact iK
  ·refine⟨_,_,hp.2,key,?_⟩;cases b with
   |false=>rw[ry.bl];exact iK
   |true=>rw[(rx.gd (hp.1 rfl)).bl];exact iK
  ·refine⟨_,_,hp.2,key,?_⟩;cases b with
   |false=>rw[(ry.gd (hp.1.2 rfl)).bl];exact iK
   |true=>rw[(rx.gd (hp.1.1 rfl)).bl];exact iK
  ·refine⟨_,_,hp.2,key,?_⟩;rw[hp.1,rx.bl];exact iK
  ·refine⟨_,_,hp.2,key,?_⟩;rw[hp.1,ry.bl];exact iK
  ·exact hp.elim
 ·exact hp.elim
theorem aah {op:UnOp} {x:Operand} {y:AX} {G:Bool} {K:PV->Prop} (hx:gk x=some y) (hs:fX nt ds s Γ a) (hG:G=true) (he:ev G s (.un op y) K):
  gp P Γ w (Op.unary op (a.eval x)) K:=by
 simp only[ev]at he;obtain⟨p,hp,hr⟩:=bw hx hs hG he;split at hp
 ·exact⟨_,_,hp,by rw[hr.bl];rfl,iK⟩
 ·exact⟨_,_,hp,by rw[hr.int];rfl,cB⟩
 ·exact⟨_,_,hp,by rw[hr.int];rfl,cB⟩
 ·exact hp.elim
theorem Mp {t d:TypeId} {k k':IntKind} {x:Operand} {y:AX} {G:Bool} {K:PV->Prop} (hx:gk x=some y) (hs:fX nt ds s Γ a) (hG:G=true)
  (ht:P.underlying t=some (.int k')) (hd:P.underlying d=some (.int k)) (he:ev G s (.convI k y) K):gp P Γ w (convert t d (a.eval x)) K:=by
 simp only[ev]at he;obtain⟨p,hp,hr⟩:=bw hx hs hG he;obtain⟨k2,n,hv,hK⟩:=eX hp hr;exact⟨_,_,hK,by rw[hv];simp[convert,run_underlying ht,run_underlying hd,Conv.intToInt],cB⟩
theorem xD {p:PV} {l:List PV} {bs:List UInt8} (h:gG (p::l)=some bs):∃n r,p= .int .u8 n∧0≤n∧n<256∧gG l=some r∧bs=UInt8.ofNat n.toNat::r:=by
 cases p<;>(try(simp only[gG,reduceCtorEq]at h;done))
 rename_i k n;cases k<;>(try(simp only[gG,reduceCtorEq]at h;done))
 simp only[gG]at h;split at h
 ·rename_i hn;split at h
  ·rename_i r hr;simp only[sJ]at h;exact⟨n,r,rfl,hn.1,hn.2,hr,h.symm⟩
  ·exact absurd h (by simp)
 ·exact absurd h (by simp)
theorem ux:∀ {l:List PV} {bs:List UInt8},gG l=some bs->bs.length=l.length
 |[],bs,h=>by simp[gG]at h;subst h;rfl
 |
  p::l,bs,h=>by
  obtain⟨n,r,_,_,_,hr,rfl⟩:=xD h
  simp[ux hr]
theorem He {l:List PV}:∀ {bs:List UInt8} {cs:List Value},aD Γ l cs->gG l=some bs->cs.length=bs.length∧∀(i:Nat) c,cs[i]? =some c->∃n,c= .int .u8 n∧∃b,bs[i]? =some b∧b=UInt8.ofNat n.toNat:=by
 induction l with
 |nil=>intro bs cs h hb;cases h;simp[gG]at hb;subst hb;simp
 |
  cons p l ih=>
  intro bs cs h hb
  obtain⟨n,r,rfl,h0,h1,hr,rfl⟩:=xD hb
  cases h with
  |
   int k n hl=>
   obtain⟨i1,i2⟩:=ih hl hr
   refine⟨by simp[i1],λi c hc=> ?_⟩
   cases i with
   |zero=>simp at hc;subst hc;exact⟨n,rfl,_,by simp,rfl⟩
   |succ i=>simp at hc;simpa using i2 i c hc
theorem qS {p:PV} {v:Value} {K:Nat->List PV->Prop} (hs:fX nt ds s Γ a) (h:content s p K) (hr:aK Γ p v):
  ∃sz l cs ad aX,K sz l∧v= .slice ad l.length aX∧aD Γ l cs∧(l≠[]->∃b o,ad=some ⟨b,o,none⟩∧∀i c,cs[i]? =some c->cell Γ.heap b (o+i)=some c)∧l.length≤aX∧∀x∈l,x.width=sz:=by
 unfold content at h;split at h
 ·rename_i sz l clip;obtain⟨ad,aX,cs,hv,hl,hw,hc,hk,hb⟩:=hr.sl;exact⟨sz,l,cs,ad,aX,h,hv,hl,λcS=>let⟨b,o,h1,_,_,h4⟩:=hb cS;⟨b,o,h1,h4⟩,hc,hw⟩
 ·rename_i k p off len aN sz c;split at h
  ·rename_i bN l hb;obtain⟨⟨h1,rfl,rfl,h4⟩,hK⟩:=h;rw[←hs.bx]at hb;obtain⟨ad,aX,hv,df⟩:=hr.rs hb (by simpa[aU.aN]using h1);have lu:=hs.mem.blk k _ hb;obtain⟨hw,fA,lu⟩:=lu;unfold gX at df;have hlen:((l.drop off).take len).length=len:=by simp;omega
   cases hι:Γ.ι k with
   |
    none=>
    rw[hι]at df lu
    obtain⟨rfl,rfl,_⟩:=df
    exact⟨sz,_,[],ad,0,hK,by rw[hlen];exact hv,by simpa using aD.nil,by simp,by simp,by simp⟩
   |
    some b=>
    rw[hι]at df lu
    obtain⟨c',e,cs,rest,h5,h6,h7,_⟩:=lu
    obtain⟨h8,h9,_⟩:=df
    have DU:cs.length=l.length*sz:=by rw[h7.length,bf hw]
    have RQ:aD Γ ((l.drop off).take len) ((cs.drop (off*sz)).take (len*sz)):=by
     have e1:l=l.take off++((l.drop off).take len++(l.drop off).drop len):=by rw[JcJ,JcJ]
     rw[e1]at h7;obtain⟨c1,v1,rfl,r1,r2⟩:=h7.split;obtain⟨c2,v2,rfl,r3,r4⟩:=r2.split;have l1:c1.length=off*sz:=by rw[r1.length,bf (λx hx=>hw x (JbX hx))];simp;rw[JdW (by omega)]
     have l2:c2.length=len*sz:=by rw[r3.length,bf (λx hx=>hw x (JdJ (JbX hx))),hlen]
     rw[←l1,←l2];simpa using r3
    refine⟨sz,_,_,ad,aX,hK,by rw[hlen];exact hv,RQ,λcS=> ?_,by rw[hlen];exact h8,λx hx=>hw x (JdJ (JbX hx))⟩
    have:0<len:=by
     rcases JnZ len with h|h
     ·subst h;simp at cS
     ·exact h
    rcases h9 with h9|rfl
    ·omega
    refine⟨b,_,rfl,?_⟩
    have:=nM (mb h5 cs rest h6) (off*sz) (len*sz)
    simpa[bI]using this
  ·rename_i v' hb;split at h
   ·rename_i bN n l KD;obtain⟨⟨h1,rfl,h4⟩,hK⟩:=h;rw[←hs.bx]at hb;obtain⟨ad,aX,hv,df⟩:=hr.rs hb (by simpa[aU.aN]using h1);unfold gX at df;cases hι:Γ.ι k with
    |
     none=>
     have lu:=hs.mem.blk k _ hb
     obtain⟨b,_,_,h5,_⟩:=lu
     rw[hι]at h5;exact absurd h5 (by simp)
    |
     some b=>
     rw[hι]at df
     obtain⟨h8,h9,_⟩:=df
     obtain⟨cs,Bl,yR⟩:=hs.mem.at hb hι (by simpa[oK]using KD)
     obtain⟨hl,hn,hw⟩:=Bl.nL
     have hlen:((l.drop off).take len).length=len:=by simp;omega
     have RQ:aD Γ ((l.drop off).take len) ((cs.drop (off*sz)).take (len*sz)):=by
      have e1:l=l.take off++((l.drop off).take len++(l.drop off).drop len):=by rw[JcJ,JcJ]
      rw[e1]at hl;obtain⟨c1,v1,rfl,r1,r2⟩:=hl.split;obtain⟨c2,v2,rfl,r3,r4⟩:=r2.split;have l1:c1.length=off*sz:=by rw[r1.length,bf (λx hx=>hw x (JbX hx))];simp;rw[JdW (by omega)]
      have l2:c2.length=len*sz:=by rw[r3.length,bf (λx hx=>hw x (JdJ (JbX hx))),hlen]
      rw[←l1,←l2];simpa using r3
     refine⟨sz,_,_,ad,aX,hK,by rw[hlen];exact hv,RQ,λcS=> ?_,by rw[hlen];exact h8,λx hx=>hw x (JdJ (JbX hx))⟩
     have:0<len:=by
      rcases JnZ len with h|h
      ·subst h;simp at cS
      ·exact h
     rcases h9 with h9|rfl
     ·omega
     refine⟨b,_,rfl,?_⟩
     exact nM yR (off*sz) (len*sz)
   ·exact h.elim
  ·exact h.elim
 ·exact h.elim
theorem Oz {f:Value->ByteArray->Sem (ForInStep ByteArray)} (hf:∀n s,f (.int .u8 n) s=Pure.pure (ForInStep.yield (s.push (UInt8.ofNat n.toNat)))):∀(cs:List Value) (bs:List UInt8) (acc:ByteArray),cs.length=bs.length->(∀(i:Nat) c,cs[i]? =some c->∃n,c= .int .u8 n∧∃b,bs[i]? =some b∧b=UInt8.ofNat n.toNat)->
  ∃r:ByteArray,(forIn (m:=Sem) cs acc f).run P w= .ok r w∧r.data.toList=acc.data.toList++bs:=by
 intro cs;induction cs with
 |
  nil=>
  intro bs acc hl _
  have:bs=[]:=by simpa using hl.symm
  subst this
  exact⟨acc,by simp,by simp⟩
 |
  cons c cs ih=>
  intro bs acc hl h
  obtain⟨n,rfl,b,hb,rfl⟩:=h 0 c rfl
  cases bs with
  |nil=>simp at hl
  |
   cons b bs=>
   simp at hb;subst hb
   obtain⟨r,sQ,qP⟩:=ih bs (acc.push (UInt8.ofNat n.toNat)) (by simpa using hl) (λi c hc=>by simpa using h (i+1) c (by simpa using hc))
   refine⟨r,?_,by rw[qP];simp⟩
   simp only[List.forIn_cons,hf,bJ,JbW,rJ]
   exact sQ
theorem Mq {t d e:TypeId} {x:Operand} {y:AX} {G:Bool} {K:PV->Prop} (hx:gk x=some y) (hs:fX nt ds s Γ a) (hw:w.heap=Γ.heap) (hG:G=true)
  (ht:P.underlying t=some (.slice e)) (hd:P.underlying d=some .string) (hee:P.underlying e=some (.int .u8)) (he:ev G s (.convS y) K):gp P Γ w (convert t d (a.eval x)) K:=by
 simp only[ev]at he;obtain⟨p,hp,hr⟩:=bw hx hs hG he;obtain⟨sz,l,cs,ad,aX,⟨rfl,hK⟩,hv,hl,nC,hle,_⟩:=qS hs hp hr;split at hK
 ·rename_i bs hbs;obtain⟨h1,h2⟩:=He hl hbs;have hlen:l.length=cs.length:=by rw[h1,ux hbs]
  have key:∃r:ByteArray,(Conv.bytesToString (a.eval x)).run P w= .ok (.string r) w∧r.data.toList=bs:=by
   rw[hv];cases RR:l with
   |
    nil=>
    subst RR
    simp at hlen
    have auH:bs=[]:=by
     simp[gG]at hbs;exact hbs
    subst auH
    refine⟨.empty,?_,rfl⟩
    cases ad with
    |none=>rfl
    |
     some ad=>
     simp only[Conv.bytesToString,List.length_nil,loadCells,loadCellsFrom,bJ,JbW,rJ]
     simp
   |
    cons z zs=>
    obtain⟨b,o,rfl,hc⟩:=nC (by simp[RR])
    rw[←RR,hlen]
    simp only[Conv.bytesToString,bJ]
    rw[run_loadCells_list w ⟨b,o,none⟩ cs (λj v hj=>by rw[iN,cell?_eq,hw];exact hc j v hj)]
    simp only[rJ,←Array.forIn_toList]
    generalize hf:(λ(c:Value) (__s:ByteArray)=>(_:Sem (ForInStep ByteArray)))=f
    obtain⟨r,sQ,qP⟩:=Oz (P:=P) (w:=w) (f:=f) (by intro n s;rw[←hf]) cs bs .empty h1 h2
    exact⟨r,by rw[sQ];rfl,by simpa using qP⟩
  obtain⟨r,sQ,qP⟩:=key;refine⟨_,_,hK,?_,sc qP⟩;rw[hv]at sQ⊢;simp[convert,run_underlying ht,run_underlying hd,run_underlying hee,sQ]
 ·exact hK.elim
end Go.Ab
namespace Go.Ab
variable [cK]
variable {P:Program} {nt:Nat} {ds:List Deferred} {s:St} {Γ:Cx} {a:Act} {w:World}
theorem mL {x:Option Operand} {y:Option AX} (h:Ft x=some y):(x=none∧y=none)∨∃o z,x=some o∧y=some z∧gk o=some z:=by
 cases x with
 |none=>simp[Ft]at h;exact .inl ⟨rfl,h.symm⟩
 |
  some o=>
  simp only[Ft]at h
  split at h
  ·rename_i z hz;simp only[sJ]at h;exact .inr ⟨o,z,rfl,h.symm,hz⟩
  ·exact absurd h (by simp)
theorem uy {G b:Bool} {lo hi:Option Operand} {IW jR:Option AX} {len cap Bn:Nat} {K:Nat->Nat->Prop} (hl:Ft lo=some IW) (hh:Ft hi=some jR) (hs:fX nt ds s Γ a) (hG:G=true)
  (Ad:cap≤Bn) (hle:len≤cap) (h:kJ G s IW jR len cap K):
  ∃l h,K l h∧l≤h∧h≤cap∧(Instr.sliceBounds b len Bn (lo.map a.eval) (hi.map a.eval) none).run P w= .ok (l,h,Bn) w:=by
 unfold kJ at h;rcases mL hh with⟨rfl,rfl⟩|⟨ho,hz,rfl,rfl,hhx⟩<;>rcases mL hl with⟨rfl,rfl⟩|⟨lo1,lz,rfl,rfl,hlx⟩<;>simp only at h
 ·exact⟨0,len,h,Nat.zero_le _,hle,rfl⟩
 ·obtain⟨p,hp,hr⟩:=bw hlx hs hG h;obtain⟨k,n,hv,⟨h0,h1⟩,hK⟩:=eX hp hr;refine⟨n.toNat,len,hK,by omega,hle,?_⟩;simp only[Instr.sliceBounds,JoJ,JjJ,hv,Instr.sliceBound,asIntOf,bJ,JbW,rJ];rw[if_pos ⟨h0,h1⟩];rfl
 ·obtain⟨p,hp,hr⟩:=bw hhx hs hG h;obtain⟨k,n,hv,⟨h0,h1⟩,hK⟩:=eX hp hr;refine⟨0,n.toNat,hK,Nat.zero_le _,by omega,?_⟩;simp only[Instr.sliceBounds,JoJ,JjJ,hv,Instr.sliceBound,asIntOf,bJ,JbW,rJ];rw[if_pos ⟨h0,by omega⟩];rfl
 ·obtain⟨p,hp,hr⟩:=bw hhx hs hG h;obtain⟨k,n,hv,⟨h0,h1⟩,hK⟩:=eX hp hr;obtain⟨p2,rf,qP⟩:=bw hlx hs hG hK;obtain⟨k2,n2,nJ,⟨h2,h3⟩,qQ⟩:=eX rf qP;refine⟨n2.toNat,n.toNat,qQ,by omega,by omega,?_⟩;simp only[Instr.sliceBounds,JjJ,hv,nJ,Instr.sliceBound,asIntOf,bJ,JbW,rJ];rw[if_pos ⟨h0,by omega⟩];simp only[JbW,rJ];rw[if_pos ⟨h2,by omega⟩];rfl
theorem xE {G:Bool} {lo hi:Option Operand} {IW jR:Option AX} {mo:Operand} {m:Int} {km:IntKind} {len Bn:Nat} {K:Nat->Nat->Prop} (hl:Ft lo=some IW) (hh:Ft hi=some jR) (hhi:jR.isSome=true) (hs:fX nt ds s Γ a) (hG:G=true)
  (hm:a.eval mo= .int km m) (RS:0≤m) (ZT:m≤Bn) (h:kJ G s IW jR len m.toNat K):
  ∃l h,K l h∧l≤h∧h≤m.toNat∧(Instr.sliceBounds true len Bn (lo.map a.eval) (hi.map a.eval) (some (a.eval mo))).run P w= .ok (l,h,m.toNat) w:=by
 unfold kJ at h;rcases mL hh with⟨rfl,rfl⟩|⟨ho,hz,rfl,rfl,hhx⟩
 ·simp at hhi
 rcases mL hl with⟨rfl,rfl⟩|⟨lo1,lz,rfl,rfl,hlx⟩<;>simp only at h
 ·obtain⟨p,hp,hr⟩:=bw hhx hs hG h;obtain⟨k,n,hv,⟨h0,h1⟩,hK⟩:=eX hp hr;refine⟨0,n.toNat,hK,Nat.zero_le _,by omega,?_⟩;simp only[Instr.sliceBounds,JoJ,JjJ,hv,hm,Instr.sliceBound,asIntOf,bJ,JbW,rJ];rw[if_pos ⟨RS,ZT⟩];simp only[JbW,rJ];rw[if_pos ⟨h0,by omega⟩];rfl
 ·obtain⟨p,hp,hr⟩:=bw hhx hs hG h;obtain⟨k,n,hv,⟨h0,h1⟩,hK⟩:=eX hp hr;obtain⟨p2,rf,qP⟩:=bw hlx hs hG hK;obtain⟨k2,n2,nJ,⟨h2,h3⟩,qQ⟩:=eX rf qP;refine⟨n2.toNat,n.toNat,qQ,by omega,by omega,?_⟩;simp only[Instr.sliceBounds,JjJ,hv,nJ,hm,Instr.sliceBound,asIntOf,bJ,JbW,rJ];rw[if_pos ⟨RS,ZT⟩];simp only[JbW,rJ];rw[if_pos ⟨h0,by omega⟩];simp only[JbW,rJ];rw[if_pos ⟨h2,by omega⟩];rfl
theorem D0 {t:TypeId} {x:Operand} {lo hi mx:Option Operand} {x':AX} {IW jR Og:Option AX} {G:Bool} {K:PV->Prop} (hx:gk x=some x') (hl:Ft lo=some IW) (hh:Ft hi=some jR) (hm:Ft mx=some Og)
  (hs:fX nt ds s Γ a) (hG:G=true) (hu:P.underlying t=some .string) (he:ev G s (.slice .str x' IW jR Og) K):
  gp P Γ w (Instr.sliceAt t (a.eval x) (lo.map a.eval) (hi.map a.eval) (mx.map a.eval)) K:=by
 simp only[ev]at he;obtain⟨p,hp,hr⟩:=bw hx hs hG he;split at hp
 ·rename_i bs;obtain⟨str,hv,hd⟩:=hr.str;obtain⟨hmx,hp⟩:=hp;rcases mL hm with⟨rfl,rfl⟩|⟨o,z,rfl,rfl,_⟩
  rotate_left
  ·simp at hmx
  have fA:bs.length=str.size:=by rw[←hd];exact JbZ
  obtain⟨l,h,hK,h1,h2,h3⟩:=uy (P:=P) (w:=w) (b:=false) hl hh hs hG (JaQ _) (JaQ _) hp;refine⟨_,.string (str.extract l h),hK,?_,sc ?_⟩
  ·rw[hv];rw[fA]at h3;simp only[Instr.sliceAt,Instr.slice,bJ,run_underlying hu,rJ,JoJ,Option.isSome_none,fJ,if_false,h3];rfl
  ·rw[←hd];simp[JsZ]
 ·exact hp.elim
theorem aD.sub {l:List PV} {sz:Nat} {cs:List Value} (h:aD Γ l cs) (hw:∀x∈l,x.width=sz) (lo hi:Nat) (ZU:lo≤hi) (hhi:hi≤l.length):
  aD Γ ((l.take hi).drop lo) ((cs.drop (lo*sz)).take ((hi-lo)*sz)):=by
 have e0:(l.take hi).drop lo=(l.drop lo).take (hi-lo):=by rw[JsZ]
 rw[e0];have e1:l=l.take lo++((l.drop lo).take (hi-lo)++(l.drop lo).drop (hi-lo)):=by rw[JcJ,JcJ]
 rw[e1]at h;obtain⟨c1,v1,rfl,r1,r2⟩:=h.split;obtain⟨c2,v2,rfl,r3,r4⟩:=r2.split;have l1:c1.length=lo*sz:=by rw[r1.length,bf (λx hx=>hw x (JbX hx))];simp;rw[JdW (by omega)]
 have l2:c2.length=(hi-lo)*sz:=by rw[r3.length,bf (λx hx=>hw x (JdJ (JbX hx)))];simp;rw[JdW (by omega)]
 rw[←l1,←l2];simpa using r3
theorem OA {sz:Nat} {l:List PV} {cs:List Value} {ad:Option Addr} {DI:Nat} {clip:Bool} (hl:aD Γ l cs) (hw:∀x∈l,x.width=sz) (lo hi:Nat) (ZU:lo≤hi) (hhi:hi≤l.length)
  (hb:l≠[]->∃b o,ad=some ⟨b,o,none⟩∧b<Γ.heap.size∧¬Γ.own b∧∀i c,cs[i]? =some c->cell Γ.heap b (o+i)=some c)
  (hc:hi-lo≤DI) (RT:clip=true->DI=hi-lo):
  aK Γ (.sl sz ((l.take hi).drop lo) clip) (.slice (if DI=0 then ad else ad.map (·.add (lo*sz))) (hi-lo) DI):=by
 have hlen:((l.take hi).drop lo).length=hi-lo:=by simp;omega
 have:=aD.sl (Γ:=Γ) sz ((l.take hi).drop lo) clip (if DI=0 then ad else ad.map (·.add (lo*sz))) DI (hl.sub hw lo hi ZU hhi) (λx hx=>hw x (JbX (JdJ hx)))
  (by rw[hlen];exact hc) (by rw[hlen];exact RT) (λcS=>by
   have jW:0<hi-lo:=by
    rcases JnZ (hi-lo)with h|h
    ·exact absurd (JdV (by omega)) cS
    ·exact h
   obtain⟨b,o,rfl,h1,h2,h3⟩:=hb (by intro h;subst h;simp at hhi;omega);rw[if_neg (by omega)];exact⟨b,o+lo*sz,by simp[iN],h1,h2,nM h3 (lo*sz) ((hi-lo)*sz)⟩) .nil
 rw[hlen]at this;simpa only[aK]using this
theorem Fw {t e:TypeId} {x:Operand} {lo hi mx:Option Operand} {x':AX} {IW jR Og:Option AX} {G:Bool} {K:PV->Prop} {n:Nat} (hx:gk x=some x') (hl:Ft lo=some IW) (hh:Ft hi=some jR) (hm:Ft mx=some Og)
  (hmh:Og.isSome=true->jR.isSome=true) (hs:fX nt ds s Γ a) (hG:G=true) (hu:P.underlying t=some (.slice e)) (hn:gL P e=some n) (he:ev G s (.slice (.sl n) x' IW jR Og) K):
  gp P Γ w (Instr.sliceAt t (a.eval x) (lo.map a.eval) (hi.map a.eval) (mx.map a.eval)) K:=by
 simp only[ev]at he;obtain⟨p,hp,hr⟩:=bw hx hs hG he
 have key:∀(ad:Option Addr) (len cap l h m:Nat),(Instr.sliceBounds true len cap (lo.map a.eval) (hi.map a.eval) (mx.map a.eval)).run P w= .ok (l,h,m) w->
   (Instr.sliceAt t (.slice ad len cap) (lo.map a.eval) (hi.map a.eval) (mx.map a.eval)).run P w= .ok (.slice (if m=l then ad else ad.map (·.add (l*n))) (h-l) (m-l)) w:=by
  intro ad len cap l h m hb
  simp only[Instr.sliceAt,Instr.slice,bJ,run_underlying hu,rJ,hb,run_sizeOf hn]
  rfl
 have ifeq:∀(ad:Option Addr) (l m:Nat),l≤m->(if m=l then ad else ad.map (·.add (l*n)))=if m-l=0 then ad else ad.map (·.add (l*n)):=by
  intro ad l m h;by_cases h':m=l
  ·simp[h']
  ·rw[if_neg h',if_neg (by omega)]
 split at hp
 ·rename_i bN l clip;obtain⟨ad,aX,cs,hv,hL,hw,hc,hk,hb⟩:=hr.sl;rcases mL hm with⟨rfl,rfl⟩|⟨mo,mz,rfl,rfl,hmz⟩
  ·obtain⟨lo1,Eo,⟨rfl,hK⟩,h1,h2,h3⟩:=uy (P:=P) (w:=w) (b:=true) (Bn:=aX) hl hh hs hG hc (JaQ _) hp;refine⟨_,_,hK,by rw[hv];exact key _ _ _ _ _ _ h3,?_⟩;rw[ifeq _ _ _ (by omega)];exact OA hL hw lo1 Eo h1 h2 hb (by omega) (λrh=>by simp at rh;have:=hk rh.1;omega)
  ·simp only at hp;obtain⟨q,hq,qP⟩:=bw hmz hs hG hp;obtain⟨km,m,hmv,⟨RS,ZT⟩,hK⟩:=eX hq qP;obtain⟨lo1,Eo,⟨rfl,hK⟩,h1,h2,h3⟩:=xE (P:=P) (w:=w) (Bn:=aX) hl hh (hmh rfl) hs hG hmv RS (by omega) hK;refine⟨_,_,hK,by rw[hv];exact key _ _ _ _ _ _ h3,?_⟩;rw[ifeq _ _ _ (by omega)];exact OA hL hw lo1 Eo h1 (by omega) hb (by omega) (λrh=>by simp at rh;omega)
 ·rename_i k p off len aN bN c;split at hp
  ·rename_i blk hb;obtain⟨⟨h1,rfl⟩,hp⟩:=hp;rw[←hs.bx]at hb;obtain⟨ad,aX,hv,df⟩:=hr.rs hb h1
   have hlen:len≤aX:=by
    unfold gX at df;split at df<;>omega
   have xr:pg c len aX:=by
    unfold gX at df;split at df
    ·exact df.2.2
    ·exact df.2.2.1
   have hcx:DX c off len aN≤aX:=by
    cases c<;>simp only[DX]<;>try exact hlen
    simp only[pg]at xr;split<;>omega
   have rh:len≤DX c off len aN:=by
    cases c<;>simp only[DX]<;>try exact JaQ _
    split<;>omega
   have mk:∀(lo1 Eo m:Nat) (c':ft),lo1≤Eo->Eo≤m->m≤aX->pg c' (Eo-lo1) (m-lo1)->(c'= .tip->c= .tip∧m=aX)->
     aK Γ (.rs k p (off+lo1) (Eo-lo1) aN bN c') (.slice (if m-lo1=0 then ad else ad.map (·.add (lo1*bN))) (Eo-lo1) (m-lo1)):=by
    intro lo1 Eo m c' g1 g3 g4 g5 g6
    simp only[aK]
    refine .rs k p _ _ aN bN c' _ blk ⟨hb,by omega⟩ rfl (λ_=>⟨_,_,rfl,?_⟩) .nil
    unfold gX at df⊢
    cases hι:Γ.ι k with
    |none=>rw[hι]at df;exact⟨by omega,by omega,g5⟩
    |
     some b=>
     rw[hι]at df
     obtain⟨o1,o2,o3,o4⟩:=df
     refine⟨by omega,?_,g5,λhc=> ?_⟩
     ·by_cases hz:m-lo1=0
      ·exact .inl hz
      ·right
       rw[if_neg hz]
       rcases o2 with o2|rfl
       ·omega
       ·simp[iN,JgZ];omega
     ·obtain⟨g7,g8⟩:=g6 hc
      obtain⟨q1,cs,e',q2,q3⟩:=o4 g7
      refine⟨q1,cs,e',q2,?_⟩
      rw[←q3,g8];congr 1;omega
   rcases mL hm with⟨rfl,rfl⟩|⟨mo,mz,rfl,rfl,hmz⟩
   ·obtain⟨lo1,Eo,hK,g1,g2,g3⟩:=uy (P:=P) (w:=w) (b:=true) (Bn:=aX) hl hh hs hG hcx rh hp;refine⟨_,_,hK,by rw[hv];exact key _ _ _ _ _ _ g3,?_⟩;rw[ifeq _ _ _ (by omega)];refine mk lo1 Eo aX _ g1 (by omega) (JaQ _) ?_ (λhc=> ?_)
    ·cases c with
     |tip=>trivial
     |any=>trivial
     |full n=>simp only[Fs,pg]at xr⊢;omega
     |
      clip=>
      simp only[Fs,pg,DX]at xr⊢g2
      by_cases e:Eo=len
      ·simp[e];omega
      ·simp[e]
    ·cases c<;>simp only[Fs]at hc
     ·exact⟨rfl,rfl⟩
     ·split at hc<;>cases hc
     ·cases hc
     ·cases hc
   ·simp only at hp;obtain⟨q,hq,qP⟩:=bw hmz hs hG hp;obtain⟨km,m,hmv,⟨RS,ZT⟩,hK⟩:=eX hq qP;obtain⟨lo1,Eo,hK,g1,g2,g3⟩:=xE (P:=P) (w:=w) (Bn:=aX) hl hh (hmh rfl) hs hG hmv RS (by omega) hK;refine⟨_,_,hK,by rw[hv];exact key _ _ _ _ _ _ g3,?_⟩;rw[ifeq _ _ _ (by omega)];refine mk lo1 Eo m.toNat _ g1 g2 (by omega) ?_ (λhc=> ?_)
    ·split
     ·simp only[pg];omega
     ·trivial
    ·split at hc<;>simp at hc
  ·exact hp.elim
 ·exact hp.elim
theorem Fx {t e:TypeId} {x:Operand} {lo hi mx:Option Operand} {x':AX} {IW jR Og:Option AX} {G:Bool} {K:PV->Prop} {len n:Nat} (hx:gk x=some x') (hl:Ft lo=some IW) (hh:Ft hi=some jR) (hm:Ft mx=some Og)
  (hs:fX nt ds s Γ a) (hG:G=true) (hu:P.underlying t=some (.array len e)) (hn:gL P e=some n) (he:ev G s (.slice (.ar len n) x' IW jR Og) K):
  gp P Γ w (Instr.sliceAt t (a.eval x) (lo.map a.eval) (hi.map a.eval) (mx.map a.eval)) K:=by
 simp only[ev]at he;obtain⟨p,hp,hr⟩:=bw hx hs hG he;split at hp
 ·rename_i k p aN;split at hp
  ·rename_i blk hb;obtain⟨h1,hmx,hp⟩:=hp;rw[←hs.bx]at hb;obtain⟨b,hι,hv⟩:=hr.pt hb h1;rcases mL hm with⟨rfl,rfl⟩|⟨mo,mz,rfl,rfl,hmz⟩
   rotate_left
   ·simp at hmx
   obtain⟨lo1,Eo,hK,g1,g2,g3⟩:=uy (P:=P) (w:=w) (b:=false) (Bn:=len) hl hh hs hG (JaQ _) (JaQ _) hp;refine⟨_,.slice (some (if len=lo1 then⟨b,bI p,none⟩else Addr.add ⟨b,bI p,none⟩ (lo1*n))) (Eo-lo1) (len-lo1),hK,?_,?_⟩
   ·rw[hv];simp only[Instr.sliceAt,bJ,run_underlying hu,rJ,Instr.sureAddr,JbW,JoJ,g3,run_sizeOf hn]
   ·simp only[aK];refine .rs k p _ _ aN n _ _ blk ⟨hb,by omega⟩ rfl (λ_=>⟨_,_,rfl,?_⟩) .nil;unfold gX;rw[hι];refine⟨by omega,?_,?_,λhc=> ?_⟩
    ·by_cases hz:len=lo1
     ·left;omega
     ·right;simp[hz,iN]
    ·split
     ·simp only[pg];omega
     ·trivial
    ·split at hc<;>simp at hc
  ·exact hp.elim
 ·rename_i z l q;split at hp
  ·rename_i z' n' l' hu';obtain⟨⟨rfl,rfl,hmx⟩,hp⟩:=hp;obtain⟨b,o,cs,hv,hL,nD,hmm,hc⟩:=hr.fp;obtain⟨h4,h5⟩:=Cb hL nD hu';obtain⟨h6,h7,h8⟩:=aD.nL h5;rcases mL hm with⟨rfl,rfl⟩|⟨mo,mz,rfl,rfl,hmz⟩
   rotate_left
   ·simp at hmx
   obtain⟨lo1,Eo,hK,g1,g2,g3⟩:=uy (P:=P) (w:=w) (b:=false) (Bn:=n') hl hh hs hG (JaQ _) (JaQ _) hp;refine⟨_,.slice (some (if n'=lo1 then⟨b,o+bI q,none⟩else Addr.add ⟨b,o+bI q,none⟩ (lo1*z'))) (Eo-lo1) (n'-lo1),hK,?_,?_⟩
   ·rw[hv];simp only[Instr.sliceAt,bJ,run_underlying hu,rJ,Instr.sureAddr,JbW,JoJ,g3,run_sizeOf hn]
   ·have hm:=OA (ad:=some ⟨b,o+bI q,none⟩) (DI:=n'-lo1) (clip:=decide (Eo=n')) h6 h8 lo1 Eo g1 (by omega) (λ_=>⟨b,o+bI q,rfl,hmm.1,hmm.2,nM hc (bI q) _⟩) (by omega) (λh=>by simp at h;omega)
    have e:(if n'-lo1=0 then some (⟨b,o+bI q,none⟩:Addr)else((some (⟨b,o+bI q,none⟩:Addr)).map (·.add (lo1*z'))))=some (if n'=lo1 then⟨b,o+bI q,none⟩else Addr.add ⟨b,o+bI q,none⟩ (lo1*z')):=by
     by_cases hz:n'=lo1
     ·simp[hz]
     ·rw[if_neg (by omega),if_neg hz];rfl
    rw[e]at hm;exact hm
  ·exact hp.elim
 ·exact hp.elim
end Go.Ab
namespace Go.Ab
variable [cK]
variable {P:Program} {nt:Nat} {ds:List Deferred} {s:St} {Γ:Cx} {a:Act} {w:World}
theorem lE {x:Sh} {p:PV} (h:fits x p=true):p.isAgg=x.agg:=by
 cases x<;>cases p<;>simp[fits]at h<;>rfl
theorem jY {x:Sh} {p:PV} (h:fits x p=true):p.width=tL x:=by
 cases x<;>cases p<;>simp only[fits,fJ,aJ,decide_eq_true_eq]at h<;>(try rfl)
 ·simp only[PV.width,tL];exact h.1
 ·simp only[PV.width,tL];rw[h.1.1,h.1.2.1]
theorem om {t:TypeId} {p:PV} {cs c1 rest pre:List Value} {o:Nat} (hr:aD Γ [p] c1) (hc:cs=pre++(c1++rest)) (ho:pre.length=o) (hg:lD P t=some p.isAgg) (hn:gL P t=some p.width):
  ∃v,(part t cs.toArray o).run P w= .ok v w∧aK Γ p v:=by
 have hl:=hr.fK;subst hc;cases ha:p.isAgg with
 |
  true=>
  refine⟨.agg c1.toArray,?_,aK.uw hr ha⟩
  rw[ha]at hg
  simp only[part,bJ,vr hg,rJ,if_true,run_sizeOf hn,JbW]
  congr 2
  apply Array.ext'
  simp[←hl,←ho]
 |
  false=>
  have h1:p.width=1:=by cases p<;>simp[PV.isAgg]at ha<;>rfl
  rw[h1]at hl
  obtain⟨v,rfl⟩:=JrW.1 hl
  refine⟨v,?_,aK.Fv hr ha⟩
  rw[ha]at hg
  simp only[part,bJ,vr hg,rJ,fJ,if_false]
  have:(pre++([v]++rest)).toArray[o]? =some v:=by
   simp[←ho]
  rw[this];rfl
def EqAt (P:Program) (Γ:Cx) (d:Nat) (t:TypeId) (x:Sh):Prop:=
 ∀(w:World) (p q:PV) (v u:Value),fits x p=true->fits x q=true->aK Γ p v->aK Γ q u->(Op.equalIn d t v u).run P w= .ok (PV.beq p q) w
theorem Et {d:Nat} {xs ys:List Value}:∀(fs:List Field) (l:List Sh) (ps qs:List PV) (pre1 pre2 c1 c2:List Value) (o:Nat) (w:World),
  xs=pre1++c1->ys=pre2++c2->pre1.length=o->pre2.length=o->aD Γ ps c1->aD Γ qs c2->dR l ps=true->dR l qs=true->
  fs.all (λf=>f.name != "_")=true->fs.map (·.offset)=yV o l->fs.map (λf=>gL P f.type)=l.map (λx=>some (tL x))->
  fs.map (λf=>lD P f.type)=l.map (λx=>some x.agg)->(∀(i:Nat) f x,fs[i]? =some f->l[i]? =some x->EqAt P Γ d f.type x)->
  (Op.eqFields d xs.toArray ys.toArray fs).run P w= .ok (PV.lC ps qs) w
 |
  [],l,ps,qs,pre1,pre2,c1,c2,o,w,hx,hy,NV,ho2,h1,h2,f1,f2,hn,Ae,fA,WT,cy=>by
  cases l with
  |nil=>cases ps<;>cases qs<;>simp[dR]at f1 f2;simp[Op.eqFields,PV.lC]
  |cons=>simp at fA
 |
  f::fs,l,ps,qs,pre1,pre2,c1,c2,o,w,hx,hy,NV,ho2,h1,h2,f1,f2,hn,Ae,fA,WT,cy=>by
  cases l with
  |nil=>simp at fA
  |
   cons x l=>
   cases ps with
   |nil=>simp[dR]at f1
   |
    cons p ps=>
    cases qs with
    |nil=>simp[dR]at f2
    |
     cons q qs=>
     simp only[dR,aJ]at f1 f2
     simp only[JdX,List.cons.injEq,yV]at Ae fA WT
     simp only[JoV,aJ]at hn
     obtain⟨a1,b1,rfl,r1,r2⟩:=h1.lO
     obtain⟨a2,b2,rfl,r3,r4⟩:=h2.lO
     have wp:=jY f1.1
     have wq:=jY f2.1
     have ap:=lE f1.1
     have aq:=lE f2.1
     have WU:lD P f.type=some x.agg:=WT.1
     obtain⟨v,hv,WV⟩:=om (P:=P) (w:=w) (t:=f.type) r1 hx (NV.trans Ae.1.symm) (by rw[ap];exact WU) (by rw[wp];exact fA.1)
     obtain⟨u,hu,hu'⟩:=om (P:=P) (w:=w) (t:=f.type) r3 hy (ho2.trans Ae.1.symm) (by rw[aq];exact WU) (by rw[wq];exact fA.1)
     have he:=cy 0 f x rfl rfl w p q v u f1.1 f2.1 WV hu'
     have ih:=Et (xs:=xs) (ys:=ys) fs l ps qs (pre1++a1) (pre2++a2) b1 b2 (o+tL x) w (by rw[hx];simp) (by rw[hy];simp) (by simp[NV,r1.fK,wp]) (by simp[ho2,r3.fK,wq]) r2 r4 f1.2 f2.2 hn.2 Ae.2 fA.2 WT.2
      (λi g y hg hy=>cy (i+1) g y (by simpa using hg) (by simpa using hy))
     have cS:f.name≠ "_" :=by simpa using hn.1
     simp only[Op.eqFields,cS,ne_eq,not_false_eq_true,if_true,bJ,hv,hu,he,rJ,PV.lC]
     by_cases hb:PV.beq p q=true
     ·simpa[hb]using ih
     ·simp[hb]
theorem OB {d len n:Nat} {t:TypeId} {e:Sh} {xs ys:List Value} (hn:n=tL e) (hg:lD P t=some e.agg) (hz:gL P t=some n) (heq:EqAt P Γ d t e):
  ∀
   (ps qs:List PV) (pre1 pre2 c1 c2:List Value) (i:Nat) (w:World),xs=pre1++c1->ys=pre2++c2->pre1.length=i*n->pre2.length=i*n->aD Γ ps c1->aD Γ qs c2->jr e ps=true->jr e qs=true->
   ps.length=len->qs.length=len->
   (forIn (m:=Sem) (List.range' i len 1) ((none,()):Option Bool×Unit) λi __s=>do
      let __do_lift←part t xs.toArray (i*n)
      let __do_lift_1←part t ys.toArray (i*n)
      let __do_lift←Op.equalIn d t __do_lift __do_lift_1
      if(!__do_lift)=true then pure (ForInStep.done (some false,()))else pure (ForInStep.yield (none,()))).run P w= .ok (if PV.lC ps qs then none else some false,()) w:=by
 induction len with
 |
  zero=>
  intro ps qs pre1 pre2 c1 c2 i w _ _ _ _ _ _ _ _ l1 l2
  have e1:=JdV l1
  have e2:=JdV l2
  subst e1 e2
  simp[PV.lC]
 |
  succ len ih=>
  intro ps qs pre1 pre2 c1 c2 i w hx hy NV ho2 h1 h2 f1 f2 l1 l2
  cases ps with
  |nil=>simp at l1
  |
   cons p ps=>
   cases qs with
   |nil=>simp at l2
   |
    cons q qs=>
    simp only[jr,aJ]at f1 f2
    obtain⟨a1,b1,rfl,r1,r2⟩:=h1.lO
    obtain⟨a2,b2,rfl,r3,r4⟩:=h2.lO
    have wp:=jY f1.1
    have wq:=jY f2.1
    have ap:=lE f1.1
    have aq:=lE f2.1
    obtain⟨v,hv,WV⟩:=om (P:=P) (w:=w) (t:=t) r1 hx NV (by rw[ap];exact hg) (by rw[wp,←hn];exact hz)
    obtain⟨u,hu,hu'⟩:=om (P:=P) (w:=w) (t:=t) r3 hy ho2 (by rw[aq];exact hg) (by rw[wq,←hn];exact hz)
    have he:=heq w p q v u f1.1 f2.1 WV hu'
    have ih':=ih ps qs (pre1++a1) (pre2++a2) b1 b2 (i+1) w (by rw[hx];simp) (by rw[hy];simp) (by simp[NV,r1.fK,wp,JgZ];omega) (by simp[ho2,r3.fK,wq,JgZ];omega) r2 r4 f1.2 f2.2 (by simpa using l1) (by simpa using l2)
    simp only[List.range'_succ,List.forIn_cons,bJ,hv,hu,he,rJ,PV.lC]
    by_cases hb:PV.beq p q=true
    ·simpa[hb]using ih'
    ·simp[hb]
theorem Fy:∀(n:Nat) {t:TypeId} {x:Sh} (d:Nat),n≤d->rq P n t=some x->EqAt P Γ d t x:=by
 intro n;induction n with
 |zero=>intro t x d _ h;simp[rq]at h
 |
  succ n ih=>
  intro t x d hd h w p q v u fp fq hp hq
  obtain⟨d,rfl⟩:∃d',d=d'+1:=⟨d-1,by omega⟩
  simp only[rq]at h
  split at h<;>(try(simp only[sJ,reduceCtorEq]at h;try subst h))
  ·rename_i hu
   cases p<;>simp[fits]at fp
   cases q<;>simp[fits]at fq
   rw[hp.bl,hq.bl,run_equalIn_bool' w d t _ _ hu];rfl
  ·rename_i k hu
   cases p<;>simp[fits]at fp
   cases q<;>simp[fits]at fq
   subst fp fq
   rw[hp.int,hq.int,run_equalIn_int w d t _ _ _ _ hu];rfl
  ·rename_i hu
   cases p<;>simp[fits]at fp
   cases q<;>simp[fits]at fq
   obtain⟨s1,rfl,rfl⟩:=hp.str
   obtain⟨s2,rfl,rfl⟩:=hq.str
   rw[run_equalIn_string w d t _ _ hu,toList_data,toList_data];rfl
  ·rename_i fs hu
   split at h
   ·rename_i l hl
    split at h
    ·rename_i tZ
     obtain⟨c1,c2,c3,c4,c5⟩:=tZ
     simp only[sJ]at h
     subst h
     cases p<;>simp only[fits,fJ,aJ,decide_eq_true_eq]at fp
     cases q<;>simp only[fits,fJ,aJ,decide_eq_true_eq]at fq
     rename_i w1 m1 w2 m2
     obtain⟨cs,rfl,hc⟩:=hp.cells rfl
     obtain⟨ds,rfl,Bo⟩:=hq.cells rfl
     have hf:P.fieldsOf t=fs:=by simp[Program.fieldsOf,hu]
     rw[run_equalIn_struct w d t _ _ (by rw[hf];exact hu) c1,hf]
     rw[Et (xs:=cs) (ys:=ds) fs.toList l m1 m2 [] [] cs ds 0 w rfl rfl rfl rfl hc.rj.1 Bo.rj.1 fp.2 fq.2 c2 c3 c4 c5]
     ·rfl
     ·intro i f y KE hyi
      refine ih d (by omega) ?_
      have:=allM_get hl KE
      rw[hyi]at this
      exact this
    ·exact absurd h (by simp)
   ·exact absurd h (by simp)
  ·rename_i k e hu
   split at h
   ·rename_i x' hx'
    split at h
    ·rename_i tZ
     simp only[sJ]at h
     subst h
     cases p<;>simp only[fits,fJ,aJ,decide_eq_true_eq]at fp
     cases q<;>simp only[fits,fJ,aJ,decide_eq_true_eq]at fq
     rename_i z1 n1 m1 z2 n2 m2
     obtain⟨cs,rfl,hc⟩:=hp.cells rfl
     obtain⟨ds,rfl,Bo⟩:=hq.cells rfl
     have hg:lD P e=some x'.agg:=tZ.2
     have:=OB (P:=P) (Γ:=Γ) (d:=d) (len:=k) (n:=tL x') (t:=e) (e:=x') (xs:=cs) (ys:=ds) rfl hg tZ.1 (ih d (by omega) hx') m1 m2 [] [] cs ds 0 w rfl rfl (by simp) (by simp) hc.nL.1 Bo.nL.1 fp.2 fq.2 fp.1.2.2 fq.1.2.2
     simp only[Op.equalIn,bJ,run_underlying hu,rJ,run_sizeOf tZ.1]
     rw[Std.Legacy.Range.forIn_eq_forIn_range']
     simp only[Std.Legacy.Range.size,Nat.sub_zero,Nat.add_sub_cancel,Nat.div_one]
     rw[this]
     simp only[PV.beq]
     cases PV.lC m1 m2<;>rfl
    ·exact absurd h (by simp)
   ·exact absurd h (by simp)
where
 allM_get {α β:Type} {f:α->Option β}:∀ {l:List α} {m:List β},allM f l=some m->∀ {i:Nat} {x:α},l[i]? =some x->f x=m[i]?
  |[],m,h,i,x,hi=>by simp at hi
  |
   y::l,m,h,i,x,hi=>by
   simp only[allM]at h
   split at h
   ·rename_i z k hz hk
    simp only[sJ]at h
    subst h
    cases i with
    |zero=>simp at hi;subst hi;simpa using hz
    |succ i=>simp at hi;simpa using allM_get hk hi
   ·exact absurd h (by simp)
end Go.Ab
namespace Go.Ab
variable [cK]
variable {P:Program} {nt:Nat} {ds:List Deferred} {s:St} {Γ:Cx} {a:Act} {w:World}
theorem Eu:∀(vs:List Value) (k off:Nat) (cells:Array Value),off+k+vs.length≤cells.size->
  ((vs.zipIdx k).foldl (λ(cs:Array Value) (x:Value×Nat)=>cs.setIfInBounds (off+x.2) x.1) cells).toList=bj cells.toList (off+k) vs
 |[],k,off,cells,_=>by simp[bj]
 |
  v::vs,k,off,cells,h=>by
  simp only[List.zipIdx_cons,List.foldl_cons,JcQ]at h⊢
  rw[Eu vs (k+1) off _ (by simp;omega)]
  rw[Array.toList_setIfInBounds]
  have dk:off+k<cells.toList.length:=by simp;omega
  obtain⟨A,c,B,hA,nE⟩:∃A c B,A.length=off+k∧cells.toList=A++c::B:=
   ⟨cells.toList.take (off+k),cells.toList[off+k],cells.toList.drop (off+k+1),by rw[lJ];omega,by rw[JsJ,JcJ]⟩
  rw[nE,←hA,JsW (h:=JaQ _)]
  rw[show off+(k+1)=A.length+1 by omega]
  simp only[Nat.sub_self,JqW,bj,JcQ]
  have e1:(A++v::B).take (A.length+1)=A++[v]:=by rw[List.take_append,tJ (by omega)];simp
  have e2:(A++v::B).drop (A.length+1+vs.length)=B.drop vs.length:=by
   rw[List.drop_append,List.drop_eq_nil_of_le (by omega),show A.length+1+vs.length-A.length=vs.length+1 by omega];simp
  have e3:(A++c::B).drop (A.length+(vs.length+1))=B.drop vs.length:=by
   rw[←JiW];simp
  rw[e1,e2,e3]
  simp
theorem AZ {l:List PV} {i j:Nat} {q p:PV} (hq:l[i]? =some q) (hw:p.width=q.width):aB ((l.set i p).take j)=aB (l.take j):=by
 by_cases G6:i<j
 ·have:(l.set i p).take j=(l.take j).set i p:=by rw[List.take_set]
  rw[this];exact BW (by rw[List.getElem?_take_of_lt G6];exact hq) hw
 ·rw[List.take_set_of_le (by omega)]
theorem xF:∀(ps:List (Nat×PV)) (vs:List (Nat×Value)) (place:Nat->Option (Nat×Nat)) (l l':List PV) (cells:Array Value),
  aD Γ l cells.toList->cA l ps=some l'->ps.length=vs.length->(∀(i:Nat) j p k v,ps[i]? =some (j,p)->vs[i]? =some (k,v)->j=k∧aK Γ p v)->
  (∀i q,l[i]? =some q->place i=some (aB (l.take i),q.width))->∃RU,Instr.fill place cells vs=some RU∧aD Γ l' RU.toList
 |
  [],vs,place,l,l',cells,h,hs,hl,hv,hp=>by
  have:vs=[]:=by simpa using hl.symm
  subst this
  simp[cA]at hs;subst hs
  exact⟨cells,rfl,h⟩
 |
  (i,p)::ps,vs,place,l,l',cells,h,hs,hl,hv,hp=>by
  cases vs with
  |nil=>simp at hl
  |
   cons x vs=>
   obtain⟨k,v⟩:=x
   obtain⟨rfl,hr⟩:=hv 0 i p k v rfl rfl
   simp only[cA]at hs
   split at hs
   ·rename_i q hq
    split at hs
    ·rename_i hw
     have hc:=hr.B9 hw.2
     have rh:=hc.fK
     have fA:v.cells.size=q.width:=by rw[←hw.1,←rh];simp
     have hwl:=yU hq
     have hle:=h.length
     have A0:aB (l.take i)+q.width≤cells.size:=by rw[←JbZ,hle];exact hwl
     have kQ:=h.set hq hc hw.1
     have GQ:(v.cells.zipIdx.foldl (λcs (c,j)=>cs.setIfInBounds (aB (l.take i)+j) c) cells).toList=bj cells.toList (aB (l.take i)) v.cells.toList:=by
      have:=Eu v.cells.toList 0 (aB (l.take i)) cells (by simp;omega);rw[←Array.foldl_toList,Array.toList_zipIdx];simpa using this
     obtain⟨c',h1,h2⟩:=xF ps vs place (l.set i p) l' (v.cells.zipIdx.foldl (λcs (c,j)=>cs.setIfInBounds (aB (l.take i)+j) c) cells) (by rw[GQ];exact kQ) hs (by simpa using hl)
      (λj n p' k v' a b=>hv (j+1) n p' k v' (by simpa using a) (by simpa using b)) (λj q' hq'=>by
       rw[AZ hq hw.1];rw[List.getElem?_set]at hq';split at hq'
       ·rename_i G6;subst G6;split at hq'
        ·simp at hq';subst hq';rw[hw.1];exact hp i q hq
        ·simp at hq'
       ·exact hp j q' hq')
     refine⟨c',?_,h2⟩
     simp only[Instr.fill,hp i q hq]
     rw[if_neg (by simp[fA];omega)]
     exact h1
    ·exact absurd hs (by simp)
   ·exact absurd hs (by simp)
theorem Hf:∀(l:List PV) (o:Nat) (fs:List (Nat×Nat)),fs=Ov o l->∀(i:Nat) q,l[i]? =some q->fs[i]? =some (o+aB (l.take i),q.width)
 |[],o,fs,h,i,q,hq=>by simp at hq
 |
  p::l,o,fs,h,i,q,hq=>by
  subst h
  cases i with
  |zero=>simp at hq;subst hq;simp[Ov,aB]
  |
   succ i=>
   simp only[List.getElem?_cons_succ]at hq
   have:=Hf l (o+p.width) _ rfl i q hq
   simpa[Ov,aB,Nat.add_assoc]using this
mutual
theorem KW:∀(p:PV) (vs rest:List Value),AY p vs=some rest->∃cs,vs=cs++rest∧aD Γ [p] cs
 |
  .bl x,vs,rest,h=>by
  cases vs with
  |nil=>simp[AY]at h
  |
   cons v r=>
   cases v<;>simp only[AY,reduceCtorEq]at h
   split at h<;>simp at h
   subst_vars;exact⟨[_],rfl,.bl _ .nil⟩
 |
  .int k n,vs,rest,h=>by
  cases vs with
  |nil=>simp[AY]at h
  |
   cons v r=>
   cases v<;>simp only[AY,reduceCtorEq]at h
   split at h
   ·rename_i hc;obtain⟨rfl,rfl⟩:=hc;simp at h;subst h;exact⟨[_],rfl,.int _ _ .nil⟩
   ·simp at h
 |
  .str l,vs,rest,h=>by
  cases vs with
  |nil=>simp[AY]at h
  |
   cons v r=>
   cases v<;>simp only[AY,reduceCtorEq]at h
   split at h
   ·rename_i hc;simp at h;subst h;exact⟨[_],rfl,.str _ _ hc .nil⟩
   ·simp at h
 |
  .np,vs,rest,h=>by
  unfold AY at h
  split at h<;>simp_all
  subst_vars;exact⟨[_],rfl,.np .nil⟩
 |
  .sl sz l c,vs,rest,h=>by
  cases l with
  |cons=>simp[AY]at h
  |
   nil=>
   cases vs with
   |nil=>simp[AY]at h
   |
    cons v r=>
    unfold AY at h
    split at h
    case h_5=>
     simp only[sJ]at h
     subst h
     rename_i heq
     simp only[List.cons.injEq]at heq
     obtain⟨rfl,rfl⟩:=heq
     exact⟨[_],rfl,.sl sz [] c none 0 .nil (by simp) (JaQ _) (λ_=>rfl) (λh=>absurd rfl h) .nil⟩
    all_goals simp_all
 |
  .nf,vs,rest,h=>by
  unfold AY at h
  split at h<;>simp_all
  subst_vars;exact⟨[_],rfl,.nf .nil⟩
 |
  .ni,vs,rest,h=>by
  unfold AY at h
  split at h<;>simp_all
  subst_vars;exact⟨[_],rfl,.ni .nil⟩
 |
  .st w l,vs,rest,h=>by
  simp only[AY]at h
  split at h
  ·rename_i r hr
   split at h
   ·rename_i hw
    simp at h;subst h
    obtain⟨cs,rfl,hc⟩:=Cc l vs r hr
    exact⟨cs,rfl,hc.st1 (by simp at hw;omega)⟩
   ·simp at h
  ·simp at h
 |
  .ar sz n l,vs,rest,h=>by
  simp only[AY]at h
  split at h
  ·rename_i r hr
   split at h
   ·rename_i hw
    simp at h;subst h
    obtain⟨cs,rfl,hc⟩:=Cc l vs r hr
    exact⟨cs,rfl,hc.Th hw.1 (by simpa using hw.2)⟩
   ·simp at h
  ·simp at h
 | .un,vs,rest,h=>by simp[AY]at h
 | .tup _,vs,rest,h=>by simp[AY]at h
 | .rs ..,vs,rest,h=>by simp[AY]at h
 | .pt ..,vs,rest,h=>by simp[AY]at h
 | .fp ..,vs,rest,h=>by simp[AY]at h
 | .fn ..,vs,rest,h=>by simp[AY]at h
 | .gd ..,vs,rest,h=>by simp[AY]at h
 | .ifc ..,vs,rest,h=>by simp[AY]at h
theorem Cc:∀(l:List PV) (vs rest:List Value),Mn l vs=some rest->∃cs,vs=cs++rest∧aD Γ l cs
 |[],vs,rest,h=>by simp[Mn]at h;subst h;exact⟨[],rfl,.nil⟩
 |
  p::l,vs,rest,h=>by
  simp only[Mn]at h
  split at h
  ·rename_i ws hws
   obtain⟨c1,rfl,h1⟩:=KW p vs ws hws
   obtain⟨c2,rfl,h2⟩:=Cc l ws rest h
   exact⟨c1++c2,by simp,h1.cons h2⟩
  ·simp at h
end
theorem jZ {t:TypeId} {z:PV} (h:zeroOf P t=some z):∃v,(∀w,(zeroValue t).run P w= .ok v w)∧aD Γ [z] v.cells.toList∧gL P t=some z.width∧aK Γ z v∧v.cells.size=z.width:=by
 replace h:=Mo h;unfold Br at h;split at h
 ·rename_i z' i hz hi;split at h
  ·rename_i v hv;split at h
   ·rename_i hc;split at h
    ·rename_i hw;obtain⟨cs,e,hr⟩:=KW (Γ:=Γ) z' _ _ hc;rw[JhQ]at e;rw[←e]at hr
     have hz':z'=z∧aK Γ z' v:=by
      cases ha:z'.isAgg<;>rw[ha]at h
      ·cases v<;>simp only[sJ,reduceCtorEq]at h<;>exact⟨h,aK.Fv (by simpa[Value.cells]using hr) ha⟩
      ·cases v<;>simp only[sJ,reduceCtorEq]at h;exact⟨h,aK.uw (by simpa[Value.cells]using hr) ha⟩
     obtain⟨rfl,DK⟩:=hz';exact⟨v,λw=>by simp[zeroValue,typeInfo,hi,hv],hr,by simp[gL,hi,hw],DK,by rw[←hr.fK];simp⟩
    ·simp at h
   ·simp at h
  ·simp at h
 ·simp at h
theorem yW {t:TypeId} {parts:Array (Nat×Operand)} {k:AK} {G:Bool} {K:PV->Prop} (hk:jX P false (.build t parts)=some k) (hs:fX nt ds s Γ a) (hG:G=true) (he:ev G s k K):
  gp P Γ w (Instr.build t (parts.map λp=>(p.1,a.eval p.2))) K:=by
 simp only[jX]at hk;split at hk
 ·rename_i sw l ps fs hz En hu;split at hk
  ·rename_i hc;simp only[sJ]at hk;subst hk;simp only[ev]at he;obtain⟨qs,hq,hlen,cy⟩:=Bs hs hG En he;obtain⟨v,hv,hr,_,_,_⟩:=jZ (Γ:=Γ) hz;split at hq
   ·rename_i l' SX
    have oJ:∀i q,l[i]? =some q->((fs.map λf=>(f.offset,P.cellsOf f.type))[i]? :Option (Nat×Nat))=some (aB (l.take i),q.width):=by
     intro i q hi;have:=Hf l 0 _ hc.1 i q hi;rw[JhX]at this;rw[←Array.getElem?_toList,JmW];exact this
    obtain⟨cells,h1,h2⟩:=xF (Γ:=Γ) qs (parts.toList.map λp=>(p.1,a.eval p.2)) (λi=>(fs.map λf=>(f.offset,P.cellsOf f.type))[i]?) l l' v.cells hr.rj.1 SX (by simp[hlen])
     (λi j p k u h3 h4=>by
      rw[List.getElem?_map,mJ]at h4;obtain⟨⟨k',x⟩,h5,h6⟩:=h4;simp only[Prod.mk.injEq]at h6;obtain⟨rfl,rfl⟩:=h6;exact cy i j p k' x h3 h5) oJ
    have hlc:cells.toList.length=sw:=by
     have e1:=h2.length;have e2:=hr.rj;rw[e1,setParts_widths SX,←e2.1.length,e2.2]
    refine⟨_,.agg cells,hq,?_,⟨cells.toList,by simp,h2.st1 hlc⟩⟩;have auM:(fs.mapM λf=>do Pure.pure (f.offset,←sizeOf f.type):Sem (Array (Nat×Nat))).run P w= .ok (fs.map λf=>(f.offset,P.cellsOf f.type)) w:=run_mapM fs hc.2;simp only[Instr.build,bJ,hv,rJ,run_underlying hu,auM];rw[JmW,h1];rfl
   ·exact hq.elim
  ·simp at hk
 ·rename_i sz n l ps len e hz En hu;split at hk
  ·rename_i hc;simp only[sJ]at hk;subst hk;simp only[ev]at he;obtain⟨qs,hq,hlen,cy⟩:=Bs hs hG En he;obtain⟨v,hv,hr,_,_,_⟩:=jZ (Γ:=Γ) hz;split at hq
   ·rename_i l' SX;obtain⟨sQ,qP,hr3⟩:=hr.nL
    obtain⟨cells,h1,h2⟩:=xF (Γ:=Γ) qs (parts.toList.map λp=>(p.1,a.eval p.2)) (λi=>some (i*sz,sz)) l l' v.cells sQ SX (by simp[hlen])
     (λi j p k u h3 h4=>by
      rw[List.getElem?_map,mJ]at h4;obtain⟨⟨k',x⟩,h5,h6⟩:=h4;simp only[Prod.mk.injEq]at h6;obtain⟨rfl,rfl⟩:=h6;exact cy i j p k' x h3 h5)
     (λi q hi=>by
      have hil:=(iJ.1 hi).1;rw[fY hr3 (by omega),hr3 q (JeQ hi)])
    refine⟨_,.agg cells,hq,?_,⟨cells.toList,by simp,h2.Th (by rw[setParts_length SX,qP]) (setParts_width SX hr3)⟩⟩;simp only[Instr.build,bJ,hv,rJ,run_underlying hu,run_sizeOf hc];rw[JmW,h1];rfl
   ·exact hq.elim
  ·simp at hk
 ·simp at hk
where
 setParts_length:∀ {ps:List (Nat×PV)} {l l':List PV},cA l ps=some l'->l'.length=l.length
  |[],l,l',h=>by simp[cA]at h;rw[h]
  |
   (i,p)::ps,l,l',h=>by
   simp only[cA]at h
   split at h
   ·split at h
    ·rw[setParts_length h];simp
    ·simp at h
   ·simp at h
 setParts_widths:∀ {ps:List (Nat×PV)} {l l':List PV},cA l ps=some l'->aB l'=aB l
  |[],l,l',h=>by simp[cA]at h;rw[h]
  |
   (i,p)::ps,l,l',h=>by
   simp only[cA]at h
   split at h
   ·rename_i q hq
    split at h
    ·rename_i hw
     rw[setParts_widths h,BW hq hw.1]
    ·simp at h
   ·simp at h
 setParts_width {sz:Nat}:∀ {ps:List (Nat×PV)} {l l':List PV},cA l ps=some l'->(∀x∈l,x.width=sz)->∀x∈l',x.width=sz
  |[],l,l',h,hw=>by simp[cA]at h;rw[←h];exact hw
  |
   (i,p)::ps,l,l',h,hw=>by
   simp only[cA]at h
   split at h
   ·rename_i q hq
    split at h
    ·rename_i ZV
     exact setParts_width h (rl hw (by rw[ZV.1];exact hw q (JeQ hq)))
    ·simp at h
   ·simp at h
 run_mapM (fs:Array Field) (h:fs.toList.all (λf=>(P.info? f.type).isSome)=true):(fs.mapM λf=>do Pure.pure (f.offset,←sizeOf f.type):Sem (Array (Nat×Nat))).run P w= .ok (fs.map λf=>(f.offset,P.cellsOf f.type)) w:=by
  have key:∀(l:List Field),l.all (λf=>(P.info? f.type).isSome)=true->(l.mapM λf=>do Pure.pure (f.offset,←sizeOf f.type):Sem (List (Nat×Nat))).run P w= .ok (l.map λf=>(f.offset,P.cellsOf f.type)) w:=by
   intro l;induction l with
   |nil=>intro _;rfl
   |
    cons f l ih=>
    intro hl
    simp only[JoV,aJ]at hl
    obtain⟨i,hi⟩:=JaW.1 hl.1
    have fA:gL P f.type=some i.size:=by simp[gL,hi]
    simp only[List.mapM_cons,bJ,run_sizeOf fA,rJ,JbW,ih hl.2,JdX]
    simp[Program.cellsOf,hi]
  rw[Array.mapM_eq_mapM_toList];simp only[Sem.run_map,key fs.toList h,rJ];congr 1;apply Array.ext';simp
end Go.Ab
namespace Go.Ab
variable [cK]
variable {P:Program} {nt:Nat} {ds:List Deferred} {s:St} {Γ:Cx} {a:Act} {w:World}
theorem Tn {args:List Operand} {tys:List TypeId} {k:AK} {ty:TypeId} {G:Bool} {K:PV->Prop} (hk:b7 P .cap args tys=some k) (hs:fX nt ds s Γ a) (hG:G=true) (he:ev G s k K):
  gp P Γ w (Builtin.cap_ tys.toArray ty (args.map a.eval).toArray) K:=by
 unfold b7 at hk;split at hk<;>(try contradiction)
 rename_i x t _;split at hk<;>simp only[sJ,reduceCtorEq]at hk;rename_i e y hu hx;subst hk;simp only[ev]at he;obtain⟨p,hp,hr⟩:=bw hx hs hG he;split at hp
 ·rename_i k p off len aN sz n;split at hp
  ·rename_i blk hb;rw[←hs.bx]at hb;obtain⟨ad,aX,hv,df⟩:=hr.rs hb hp.1
   have xr:aX=n:=by
    unfold gX at df;split at df
    ·exact df.2.2
    ·exact df.2.2.1
   subst xr;exact⟨_,goInt aX,hp.2,by simp[Builtin.cap_,run_underlying hu,hv],cB⟩
  ·exact hp.elim
 ·exact hp.elim
theorem To {args:List Operand} {tys:List TypeId} {k:AK} {ty:TypeId} {G:Bool} {K:PV->Prop} (hk:b7 P .len args tys=some k) (hs:fX nt ds s Γ a) (hG:G=true) (he:ev G s k K):
  gp P Γ w (Builtin.len_ tys.toArray ty (args.map a.eval).toArray) K:=by
 unfold b7 at hk;split at hk<;>(try contradiction)
 ·rename_i x t _;split at hk
  ·rename_i y hu hx;simp only[sJ]at hk;subst hk;simp only[ev]at he;obtain⟨p,hp,hr⟩:=bw hx hs hG he;split at hp
   ·rename_i bs;obtain⟨str,hv,hd⟩:=hr.str;refine⟨_,goInt bs.length,hp,?_,cB⟩;have:bs.length=str.size:=by rw[←hd];exact JbZ
    simp[Builtin.len_,run_underlying hu,hv,this]
   ·exact hp.elim
  ·rename_i e y hu hx;simp only[sJ]at hk;subst hk;simp only[ev]at he;obtain⟨p,hp,hr⟩:=bw hx hs hG he;split at hp
   ·rename_i sz l c;obtain⟨ad,aX,cs,hv,_⟩:=hr.sl;exact⟨_,goInt l.length,hp,by simp[Builtin.len_,run_underlying hu,hv],cB⟩
   ·rename_i k p off len aN sz c;split at hp
    ·rename_i blk hb;rw[←hs.bx]at hb;obtain⟨ad,aX,hv,_⟩:=hr.rs hb hp.1;exact⟨_,goInt len,hp.2,by simp[Builtin.len_,run_underlying hu,hv],cB⟩
    ·exact hp.elim
   ·exact hp.elim
  ·rename_i n e y hu hx;simp only[sJ]at hk;subst hk;simp only[ev]at he;exact⟨_,goInt n,he,by simp[Builtin.len_,run_underlying hu],cB⟩
  ·rename_i arr y hu hx;split at hk
   ·rename_i n e hu2;simp only[sJ]at hk;subst hk;simp only[ev]at he;exact⟨_,goInt n,he,by simp[Builtin.len_,run_underlying hu,run_underlying hu2],cB⟩
   ·simp at hk
  ·simp at hk
theorem OC {mx:Bool} {args:List Operand} {tys:List TypeId} {l:List AX} {ty:TypeId} {G:Bool} {K:PV->Prop} (hx:xB args=some l) (hs:fX nt ds s Γ a) (hG:G=true) (he:ev G s (.mm mx l) K):
  gp P Γ w (if mx then Builtin.max_ tys.toArray ty (args.map a.eval).toArray else Builtin.min_ tys.toArray ty (args.map a.eval).toArray) K:=by
 simp only[ev]at he;obtain⟨ps,hp,hlen,cy⟩:=xC hs hG hx he
 have key:∀(ps:List PV) (vs:List Value) (k:IntKind) (m:Int) (K:Int->Prop),nH mx m ps K->ps.length=vs.length->(∀(i:Nat) p v,ps[i]? =some p->vs[i]? =some v->aK Γ p v)->
   ∃n,K n∧(vs.foldlM (if mx then Builtin.max2 else Builtin.min2) (.int k m)).run P w= .ok (.int k n) w:=by
  intro ps
  induction ps with
  |
   nil=>
   intro vs k m K h hl _
   have:vs=[]:=by simpa using hl.symm
   subst this
   exact⟨m,h,rfl⟩
  |
   cons p ps ih=>
   intro vs k m K h hl hv
   cases vs with
   |nil=>simp at hl
   |
    cons v vs=>
    simp only[nH]at h
    obtain⟨k2,n,nJ,h⟩:=eX h (hv 0 p v rfl rfl)
    obtain⟨r,h1,h2⟩:=ih vs k _ K h (by simpa using hl) (λi p v a b=>hv (i+1) p v (by simpa using a) (by simpa using b))
    refine⟨r,h1,?_⟩
    subst nJ
    simp only[List.foldlM_cons,bJ]
    cases mx
    ·have:(Builtin.min2 (.int k m) (.int k2 n)).run P w= .ok (.int k (min m n)) w:=by
      simp only[Builtin.min2,JbW];congr 2;split<;>omega
     simp only[fJ,if_false]at h2⊢;rw[this];exact h2
    ·have:(Builtin.max2 (.int k m) (.int k2 n)).run P w= .ok (.int k (max m n)) w:=by
      simp only[Builtin.max2,JbW];congr 2;split<;>omega
     simp only[if_true]at h2⊢;rw[this];exact h2
 split at hp
 ·rename_i k m ps;cases args with
  |nil=>simp at hlen
  |
   cons x args=>
   have hx0:=(cy 0 _ x rfl rfl).int
   obtain⟨n,hn,fN⟩:=key ps (args.map a.eval) k m _ hp (by simpa using hlen) (λi p v h1 h2=>by
    rw[List.getElem?_map,mJ]at h2;obtain⟨o,h2,rfl⟩:=h2;exact cy (i+1) p o (by simpa using h1) (by simpa using h2))
   refine⟨_,_,hn,?_,cB⟩
   cases mx
   ·simpa[Builtin.min_,hx0]using fN
   ·simpa[Builtin.max_,hx0]using fN
 ·exact hp.elim
theorem OD {p:PV} {v:Value} (h:aK Γ p v) (ha:p.isAgg=false) (hc:p.aT=true):aD Γ [p] [v]:=by
 cases p<;>simp[PV.isAgg,PV.aT]at ha hc<;>exact h
theorem Hg {ps:List PV} {vs:List Value} (hl:ps.length=vs.length) (h:∀(i:Nat) p v,ps[i]? =some p->vs[i]? =some v->aK Γ p v)
  (ha:ps.all (λp=> !p.isAgg&&p.aT)=true):aD Γ ps vs:=by
 induction ps generalizing vs with
 |nil=>
      have:vs=[]:=by simpa using hl.symm
      subst this;exact .nil
 |
  cons p ps ih=>
  cases vs with
  |nil=>simp at hl
  |
   cons v vs=>
   simp only[JoV,aJ,JhZ]at ha
   exact(OD (h 0 p v rfl rfl) ha.1.1 ha.1.2).cons (ih (by simpa using hl) (λi p v h1 h2=>h (i+1) p v (by simpa using h1) (by simpa using h2)) ha.2)
theorem sS {t:TypeId} {x y:Value} {b:Bool} (h:(Op.equalIn 10000 t x y).run P w= .ok b w)
  (h1:binOp .eql t x y=(do Pure.pure (.bool (←Op.equal t x y)))) (h2:binOp .neq t x y=(do Pure.pure (.bool (!(←Op.equal t x y))))):
  ∀o,(o= .eql∨o= .neq)->(binOp o t x y).run P w= .ok (.bool (if o= .eql then b else !b)) w:=by
 intro o ho;have h':(Op.equal t x y).run P w= .ok b w:=h;rcases ho with rfl|rfl
 ·rw[h1];simp only[bJ,h',rJ];rfl
 ·rw[h2];simp only[bJ,h',rJ];rfl
theorem Mr {t:TypeId} {x y:Bool} (h:P.underlying t=some .bool):(Op.equalIn 10000 t (.bool x) (.bool y)).run P w= .ok (x==y) w:=run_equalIn_bool' w 9999 t x y h
theorem Fz {d:Nat} {t e:TypeId} (h:P.underlying t=some (.pointer e)):(Op.equalIn (d+1) t (.pointer none) (.pointer none)).run P w= .ok true w:=by
 simp only[Op.equalIn,bJ,run_underlying h,rJ];rfl
theorem FA {d:Nat} {t e:TypeId} {ad:Addr} (h:P.underlying t=some (.pointer e)):(Op.equalIn (d+1) t (.pointer (some ad)) (.pointer none)).run P w= .ok false w:=by
 simp only[Op.equalIn,bJ,run_underlying h,rJ];rfl
theorem Ms {d:Nat} {t:TypeId} {a b:Array TypeId} {c:Bool} (h:P.underlying t=some (.func a b c)):(Op.equalIn (d+1) t .nilFunc .nilFunc).run P w= .ok true w:=by
 simp only[Op.equalIn,bJ,run_underlying h,rJ];rfl
theorem Mt {d:Nat} {t:TypeId} {a b:Array TypeId} {c:Bool} {f:Fn} {x y:Array Value} (h:P.underlying t=some (.func a b c)):(Op.equalIn (d+1) t (.func f x y) .nilFunc).run P w= .ok false w:=by
 simp only[Op.equalIn,bJ,run_underlying h,rJ];rfl
theorem OE {t:TypeId} {a b:Array TypeId} {c:Bool} (h:P.underlying t=some (.func a b c)):(Op.equalIn 10000 t .nilFunc .nilFunc).run P w= .ok true w:=Ms (d:=9999) h
theorem OF {t:TypeId} {a b:Array TypeId} {c:Bool} {f:Fn} {x y:Array Value} (h:P.underlying t=some (.func a b c)):(Op.equalIn 10000 t (.func f x y) .nilFunc).run P w= .ok false w:=Mt (d:=9999) h
theorem Hh {t e:TypeId} (h:P.underlying t=some (.pointer e)):(Op.equalIn 10000 t (.pointer none) (.pointer none)).run P w= .ok true w:=Fz (d:=9999) h
theorem Am {t e:TypeId} {ad:Addr} (h:P.underlying t=some (.pointer e)):(Op.equalIn 10000 t (.pointer (some ad)) (.pointer none)).run P w= .ok false w:=FA (d:=9999) h
theorem Hi {n:Nat} {t:TypeId} {sh:Sh} (h:rq P n t=some sh) (hu:(∃fs,P.underlying t=some (.struct fs))∨∃k e,P.underlying t=some (.array k e)):sh.agg=true:=by
 cases n with
 |zero=>simp[rq]at h
 |
  succ n=>
  rcases hu with⟨fs,hu⟩|⟨k,e,hu⟩
  ·simp only[rq,hu]at h
   split at h
   ·split at h
    ·simp only[sJ]at h;subst h;rfl
    ·simp at h
   ·simp at h
  ·simp only[rq,hu]at h
   split at h
   ·split at h
    ·simp only[sJ]at h;subst h;rfl
    ·simp at h
   ·simp at h
theorem Mu {op:BinOp} {t:TypeId} {x y:Operand} {yt:TypeId} {k:AK} {own:Bool} {G:Bool} {K:PV->Prop} (hk:jX P own (.binOp op t x y yt)=some k) (hs:fX nt ds s Γ a) (hG:G=true) (he:ev G s k K):
  gp P Γ w (do eqGuard op t x y (a.eval x) (a.eval y);binOp op t (a.eval x) (a.eval y)) K:=by
 simp only[jX]at hk;split at hk
 ·rename_i p q hx hy
  have fin:∀ {et:ET} {K:PV->Prop},ev G s (.bin op et p q) K->∃u v,sb s op et u v K∧aK Γ u (a.eval x)∧aK Γ v (a.eval y):=by
   intro et K he;simp only[ev]at he;obtain⟨u,hu,xy⟩:=bw hx hs hG he;obtain⟨v,hv,DK⟩:=bw hy hs hG hu;exact⟨u,v,hv,xy,DK⟩
  have plain:∀ {K:PV->Prop},ev G s (.bin op .no p q) K->gp P Γ w (do eqGuard op t x y (a.eval x) (a.eval y);binOp op t (a.eval x) (a.eval y)) K:=by
   intro K he;obtain⟨u,v,hb,xy,DK⟩:=fin he;simp only[sb]at hb;split at hb
   ·rw[xy.int,DK.int];rw[eqGuard_at_int];exact Tj hb.1 hb.2
   ·obtain⟨b1,xw,SY⟩:=xy.str;obtain⟨b2,nJ,G7⟩:=DK.str;rw[xw,nJ,eqGuard_at_string];rw[←SY,←G7]at hb;exact Tk hb
   ·exact hb.elim
  have eqrun:∀ {b:Bool} {K:PV->Prop},(op= .eql∨op= .neq)->pX op b K->
    (∀o,(o= .eql∨o= .neq)->(binOp o t (a.eval x) (a.eval y)).run P w= .ok (.bool (if o= .eql then b else !b)) w)->(eqGuard op t x y (a.eval x) (a.eval y)).run P w= .ok () w->
    gp P Γ w (do eqGuard op t x y (a.eval x) (a.eval y);binOp op t (a.eval x) (a.eval y)) K:=by
   intro b K ho hb fN hg
   rcases ho with rfl|rfl
   ·exact⟨_,_,hb,by simp only[bJ,hg,rJ,fN .eql (.inl rfl)];rfl,iK⟩
   ·exact⟨_,_,hb,by simp only[bJ,hg,rJ,fN .neq (.inr rfl)];rfl,iK⟩
  split at hk
  ·rename_i ho;split at hk
   ·simp only[sJ]at hk;subst hk;exact plain he
   ·simp only[sJ]at hk;subst hk;exact plain he
   ·rename_i hu;simp only[sJ]at hk;subst hk;obtain⟨u,v,hb,xy,DK⟩:=fin he;simp only[sb]at hb;split at hb
    ·rw[xy.bl,DK.bl]at eqrun⊢;refine eqrun ho hb (sS (Mr hu) rfl rfl) (by rw[eqGuard_at_bool];rfl)
    ·exact hb.elim
   ·rename_i e hu;simp only[sJ]at hk;subst hk;obtain⟨u,v,hb,xy,DK⟩:=fin he;simp only[sb]at hb;split at hb
    ·rw[xy.np,DK.np]at eqrun⊢;refine eqrun ho hb (sS (Hh hu) rfl rfl) (by rw[eqGuard_at_pointer];rfl)
    ·split at hb
     ·rename_i blk hg;rw[←hs.bx]at hg;obtain⟨b,hι,hv⟩:=xy.pt hg hb.1;rw[hv,DK.np]at eqrun⊢;refine eqrun ho hb.2 (sS (Am hu) rfl rfl) (by rw[eqGuard_at_pointer];rfl)
     ·exact hb.elim
    ·obtain⟨b,o,cs,hv,_⟩:=xy.fp;rw[hv,DK.np]at eqrun⊢;refine eqrun ho hb (sS (Am hu) rfl rfl) (by rw[eqGuard_at_pointer];rfl)
    ·exact hb.elim
   ·rename_i e1 e2 e3 hu;simp only[sJ]at hk;subst hk;obtain⟨u,v,hb,xy,DK⟩:=fin he;simp only[sb]at hb;split at hb
    ·rw[xy.nf,DK.nf]at eqrun⊢;refine eqrun ho hb (sS (OE hu) rfl rfl) (by rw[eqGuard_at_nilFunc];rfl)
    ·obtain⟨fs,cs,hv,_⟩:=xy.fn;rw[hv,DK.nf]at eqrun⊢;refine eqrun ho hb (sS (OF hu) rfl rfl) (by rw[eqGuard_at_func];rfl)
    ·exact hb.elim
   ·split at hk
    ·simp only[sJ]at hk;subst hk;simp[ev]at he
    ·simp at hk
   ·rename_i fs hu;split at hk
    ·rename_i ZW;split at hk
     ·rename_i sh AT;simp only[sJ]at hk;subst hk;obtain⟨u,v,hb,xy,DK⟩:=fin he;simp only[sb]at hb;have RV:sh.agg=true:=Hi AT (.inl ⟨_,hu⟩);obtain⟨c1,xw,_⟩:=xy.cells (by rw[lE hb.1.1];exact RV);obtain⟨c2,nJ,_⟩:=DK.cells (by rw[lE hb.1.2];exact RV);have G8:=Fy (P:=P) (Γ:=Γ) 20 10000 (by omega) AT w u v _ _ hb.1.1 hb.1.2 xy DK;rw[xw,nJ]at eqrun G8⊢;refine eqrun ho hb.2 (λo ho=> ?_) (run_eqGuard_agg w op t x y _ _ ZW);rcases ho with rfl|rfl
      ·rw[run_eql_struct,G8];rfl
      ·rw[run_neq_struct,G8];rfl
     ·simp at hk
    ·simp at hk
   ·rename_i n e hu;split at hk
    ·rename_i ZW;split at hk
     ·rename_i sh AT;simp only[sJ]at hk;subst hk;obtain⟨u,v,hb,xy,DK⟩:=fin he;simp only[sb]at hb;have RV:sh.agg=true:=Hi AT (.inr ⟨_,_,hu⟩);obtain⟨c1,xw,_⟩:=xy.cells (by rw[lE hb.1.1];exact RV);obtain⟨c2,nJ,_⟩:=DK.cells (by rw[lE hb.1.2];exact RV);have G8:=Fy (P:=P) (Γ:=Γ) 20 10000 (by omega) AT w u v _ _ hb.1.1 hb.1.2 xy DK;rw[xw,nJ]at eqrun G8⊢;refine eqrun ho hb.2 (λo ho=> ?_) (run_eqGuard_agg w op t x y _ _ ZW);rcases ho with rfl|rfl
      ·rw[run_eql_struct,G8];rfl
      ·rw[run_neq_struct,G8];rfl
     ·simp at hk
    ·simp at hk
   ·simp at hk
  ·simp only[sJ]at hk;subst hk;exact plain he
 ·simp at hk
end Go.Ab
namespace Go.Ab
variable [cK]
variable {P:Program} {nt:Nat} {ds:List Deferred} {s:St} {Γ:Cx} {a:Act} {w:World}
theorem gI.rep {p:PV} {v:Value} (h:gI Γ p v):aK Γ p v:=by
 cases p<;>first|exact h|(simp only[gI]at h;cases h)
theorem kI.get:∀ {l:List PV} {vs:List Value},kI Γ l vs->∀ {i:Nat} {p:PV},l[i]? =some p->∃v,vs[i]? =some v∧gI Γ p v
 |[],vs,h,i,p,hp=>by simp at hp
 |q::l,[],h,i,p,hp=>by simp[kI]at h
 |
  q::l,v::vs,h,i,p,hp=>by
  simp only[kI]at h
  cases i with
  |zero=>simp at hp;subst hp;exact⟨v,by simp,h.1⟩
  |succ i=>simp at hp;simpa using kI.get h.2 hp
theorem Mv {t e:TypeId} {x i:Operand} {y j:AX} {G g:Bool} {K:PV->Prop} {len n:Nat} (hx:gk x=some y) (hi:gk i=some j) (hs:fX nt ds s Γ a) (hG:G=true)
  (hu:P.underlying t=some (.array len e)) (hg:lD P e=some g) (hn:gL P e=some n) (he:ev G s (.index g len n y j) K):gp P Γ w (Instr.index t (a.eval x) (a.eval i)) K:=by
 simp only[ev]at he;obtain⟨p,hp,hr⟩:=bw hx hs hG he;obtain⟨q,hq,qP⟩:=bw hi hs hG hp;obtain⟨k,m,hm,hK⟩:=eX hq qP;split at hK
 ·rename_i sz n' l;split at hK
  ·rename_i c hc;obtain⟨⟨h0,h1,rfl,rfl,h4⟩,hK⟩:=hK;obtain⟨cs,hv,yR⟩:=hr.cells rfl;obtain⟨hl,hlen,hw⟩:=yR.nL;have rh:=hw c (JeQ hc);have Bp:=(iJ.1 hc).1
   obtain⟨c1,v1,c2,rfl,l1,r3⟩:∃c1 v1 c2,cs=c1++(c2++v1)∧c1.length=m.toNat*sz∧aD Γ [c] c2:=by
    have e1:l=l.take m.toNat++l[m.toNat]::l.drop (m.toNat+1):=by rw[JsJ,JcJ]
    rw[e1]at hl;obtain⟨c1,u1,rfl,r1,r2⟩:=hl.split;obtain⟨c2,v2,rfl,r3,r4⟩:=r2.lO;refine⟨c1,v2,c2,rfl,?_,?_⟩
    ·rw[r1.length,fY hw (by omega)]
    ·rw[gJ Bp]at hc;simp only[sJ]at hc;rw[hc]at r3;exact r3
   obtain⟨v,xw,nJ⟩:=om (P:=P) (w:=w) (t:=e) (o:=m.toNat*sz) r3 rfl l1 (by rw[h4];exact hg) (by rw[rh];exact hn);refine⟨c,v,hK,?_,nJ⟩;rw[hv,hm];simp only[Instr.index,asIntOf,bJ,JbW,run_underlying hu,rJ];rw[if_pos ⟨h0,h1⟩];simp only[bJ,run_sizeOf hn,rJ];exact xw
  ·exact hK.elim
 ·exact hK.elim
theorem Ji {t:TypeId} {x i:Operand} {y j:AX} {G:Bool} {K:PV->Prop} (hx:gk x=some y) (hi:gk i=some j) (hs:fX nt ds s Γ a) (hG:G=true)
  (hu:P.underlying t=some .string) (he:ev G s (.indexS y j) K):gp P Γ w (Instr.index t (a.eval x) (a.eval i)) K:=by
 simp only[ev]at he;obtain⟨p,hp,hr⟩:=bw hx hs hG he;obtain⟨q,hq,qP⟩:=bw hi hs hG hp;obtain⟨k,m,hm,hK⟩:=eX hq qP;split at hK
 ·rename_i bs;split at hK
  ·rename_i c hc;obtain⟨str,hv,hd⟩:=hr.str;refine⟨_,_,hK.2,?_,cB⟩;rw[hv,hm]
   have:str[m.toNat]? =some c:=by
    rw[←hd]at hc;rw[Array.getElem?_toList]at hc;obtain⟨dk,he⟩:=Array.getElem?_eq_some_iff.1 hc;rw[getElem?_pos str m.toNat dk];exact congrArg some he
   simp only[Instr.index,asIntOf,bJ,JbW,run_underlying hu,rJ];rw[if_pos hK.1,this];rfl
  ·exact hK.elim
 ·exact hK.elim
theorem Mw {t:TypeId} {x:Operand} {y:AX} {G g:Bool} {K:PV->Prop} {i n:Nat} {fs:Array Field} {f:Field} (hx:gk x=some y) (hs:fX nt ds s Γ a) (hG:G=true)
  (hu:P.underlying t=some (.struct fs)) (hf:fs[i]? =some f) (hg:lD P f.type=some g) (hn:gL P f.type=some n) (he:ev G s (.field i f.offset g n y) K):
  gp P Γ w (Instr.field t (a.eval x) i) K:=by
 simp only[ev]at he;obtain⟨p,hp,hr⟩:=bw hx hs hG he;split at hp
 ·rename_i sw l;split at hp
  ·rename_i c hc;obtain⟨⟨h1,h2,h3⟩,hK⟩:=hp;obtain⟨cs,hv,yR⟩:=hr.cells rfl;obtain⟨hl,hlen⟩:=yR.rj;have Bp:=(iJ.1 hc).1
   obtain⟨c1,v1,c2,rfl,l1,r3⟩:∃c1 v1 c2,cs=c1++(c2++v1)∧c1.length=f.offset∧aD Γ [c] c2:=by
    have e1:l=l.take i++l[i]::l.drop (i+1):=by rw[JsJ,JcJ]
    rw[e1]at hl;obtain⟨c1,u1,rfl,r1,r2⟩:=hl.split;obtain⟨c2,v2,rfl,r3,r4⟩:=r2.lO;refine⟨c1,v2,c2,rfl,?_,?_⟩
    ·rw[r1.length,h1]
    ·rw[gJ Bp]at hc;simp only[sJ]at hc;rw[hc]at r3;exact r3
   obtain⟨v,xw,nJ⟩:=om (P:=P) (w:=w) (t:=f.type) (o:=f.offset) r3 rfl l1 (by rw[h3];exact hg) (by rw[h2];exact hn);refine⟨c,v,hK,?_,nJ⟩;rw[hv];simp only[Instr.field,bJ,run_underlying hu,rJ,hf,asAgg,JbW];exact xw
  ·exact hp.elim
 ·exact hp.elim
theorem Hj {x:Operand} {y:AX} {G:Bool} {K:PV->Prop} {i:Nat} (hx:gk x=some y) (hs:fX nt ds s Γ a) (he:ev G s (.extract i y) K):
  gp P Γ w (Instr.extract (a.eval x) i) K:=by
 simp only[ev]at he;have hr:=Ca hx hs;split at he
 ·rename_i l hl;rw[hl]at hr;simp only[aK]at hr;obtain⟨vs,hv,cy⟩:=hr;split at he
  ·rename_i p hp;obtain⟨v,xw,nJ⟩:=cy.get hp;exact⟨p,v,he,by rw[hv];simp[Instr.extract,xw],nJ.rep⟩
  ·exact he.elim
 ·exact he.elim
theorem Jj {f:Fn} {x z:Array Operand} {y u:List AX} {G:Bool} {K:PV->Prop} (hx:xB x.toList=some y) (hz:xB z.toList=some u) (hs:fX nt ds s Γ a) (hG:G=true) (he:ev G s (.mkFunc f y u) K):
  gp P Γ w (Instr.makeFunc f (x.map a.eval) (z.map a.eval)) K:=by
 simp only[ev]at he;obtain⟨ps,hp,hlen,cy⟩:=xC hs hG hx he;obtain⟨qs,hq,Mc,ant⟩:=xC hs hG hz hp;obtain⟨⟨h1,h2⟩,hK⟩:=hq
 have r1:aD Γ ps (x.toList.map a.eval):=Hg (by simpa using hlen) (λi p v h3 h4=>by
  rw[List.getElem?_map,mJ]at h4;obtain⟨o,h4,rfl⟩:=h4;exact cy i p o h3 h4) h1
 have r2:aD Γ qs (z.toList.map a.eval):=Hg (by simpa using Mc) (λi p v h3 h4=>by
  rw[List.getElem?_map,mJ]at h4;obtain⟨o,h4,rfl⟩:=h4;exact ant i p o h3 h4) h2
 refine⟨_,.func f (x.map a.eval) (z.map a.eval),hK,rfl,?_⟩;simp only[aK];have:=aD.fn (Γ:=Γ) f ps qs r1 r2 (λp hp=>by have:=JeX.1 h1 p hp;simp at this;exact this.1) (λp hp=>by have:=JeX.1 h2 p hp;simp at this;exact this.1) .nil;have e1:(x.toList.map a.eval).toArray=x.map a.eval:=by apply Array.ext';simp
 have e2:(z.toList.map a.eval).toArray=z.map a.eval:=by apply Array.ext';simp
 rw[e1,e2]at this;exact this
theorem FB {o:Oper} {x:Operand} {y:AX} {G:Bool} {K:PV->Prop} (ho:o.op= .nilCheck x) (hx:gk x=some y) (hs:fX nt ds s Γ a) (hG:G=true) (he:ev G s (.nilCheck y) K):
  ∃p v,K p∧(execOp a.eval o).run P w= .ok (.value v) w∧aK Γ p v:=by
 simp only[ev]at he;obtain⟨p,hp,hr⟩:=bw hx hs hG he;split at hp
 ·split at hp
  ·rename_i blk hb;have hr':=hr;rw[←hs.bx]at hb;obtain⟨b,hι,hv⟩:=hr'.pt hb hp.1;exact⟨_,_,hp.2,by simp only[execOp,ho];rw[hv];rfl,by rw[←hv];exact hr⟩
  ·exact hp.elim
 ·obtain⟨b,o',cs,hv,_⟩:=aK.fp hr;exact⟨_,_,hp,by simp only[execOp,ho];rw[hv];rfl,by rw[←hv];exact hr⟩
 ·obtain⟨fs,cs,hv,_⟩:=aK.fn hr;exact⟨_,_,hp,by simp only[execOp,ho];rw[hv];rfl,by rw[←hv];exact hr⟩
 ·exact hp.elim
theorem gp.exec {o:Oper} {x:Sem Value} {K:PV->Prop} (h:gp P Γ w x K) (he:execOp a.eval o=(do Pure.pure (.value (←x)))):
  ∃p v,K p∧(execOp a.eval o).run P w= .ok (.value v) w∧aK Γ p v:=by
 obtain⟨p,v,hK,hr,hv⟩:=h;exact⟨p,v,hK,by rw[he];simp[hr],hv⟩
theorem yX {t:TypeId} {i:TypeInfo} (h:P.info? t=some i):gL P t=some i.size:=by simp[gL,h]
theorem OG {G:Bool} {K:PV->Prop} {s:St} (h:ev G s (.len (.c (.bl true))) K):False:=by simp[ev,vg,vx]at h
theorem Cd {o:Oper} {k:AK} {own G:Bool} {K:PV->Prop} (hk:jX P own o.op=some k) (hs:fX nt ds s Γ a) (hw:w.heap=Γ.heap) (hG:G=true) (he:ev G s k K):
  ∃p v,K p∧(execOp a.eval o).run P w= .ok (.value v) w∧aK Γ p v:=by
 obtain⟨dst,op,ty,pos,after,guard⟩:=o;cases op with
 |
  move x=>
  simp only[jX]at hk
  split at hk<;>simp only[sJ,reduceCtorEq]at hk
  rename_i y hx;subst hk
  simp only[ev]at he
  obtain⟨p,hp,hr⟩:=bw hx hs hG he
  exact⟨p,_,hp,rfl,hr⟩
 |
  assign x=>
  simp only[jX]at hk
  split at hk<;>simp only[sJ,reduceCtorEq]at hk
  rename_i y hx;subst hk
  simp only[ev]at he
  obtain⟨p,hp,hr⟩:=bw hx hs hG he
  exact⟨p,_,hp,rfl,hr⟩
 |
  pick c x y=>
  simp only[jX]at hk
  split at hk<;>simp only[sJ,reduceCtorEq]at hk
  rename_i c' x' y' hc hx hy;subst hk
  obtain⟨p,v,h1,h2,h3⟩:=Oy (P:=P) (w:=w) hc hx hy hs hG he
  refine⟨p,v,h1,?_,h3⟩
  simp only[execOp]
  simp only[bJ]at h2⊢
  cases hb:(asBool (a.eval c)).run P w with
  |
   ok b w'=>
   rw[hb]at h2
   simp only[rJ,JbW,Result.ok.injEq]at h2⊢
   exact⟨by rw[h2.1],h2.2⟩
  |halt h w'=>rw[hb]at h2;simp at h2
 |
  build t parts=>
  have RW:jX P false (.build t parts)=some k:=hk
  exact(yW (P:=P) (w:=w) RW hs hG he).exec rfl
 |
  load t x=>
  simp only[jX]at hk
  split at hk
  ·rename_i g n y hg hn hx
   split at hk<;>simp only[sJ,reduceCtorEq]at hk
   subst hk
   exact(Hd hx hs hw hG hg hn he).exec rfl
  ·simp at hk
 |
  nilCheck x=>
  simp only[jX]at hk
  split at hk<;>simp only[sJ,reduceCtorEq]at hk
  rename_i y hx;subst hk
  exact FB rfl hx hs hG he
 |
  binOp op t x y yt=>
  exact(Mu (P:=P) (w:=w) hk hs hG he).exec rfl
 |
  unOp op t x=>
  simp only[jX]at hk
  split at hk<;>simp only[sJ,reduceCtorEq]at hk
  rename_i y hx;subst hk
  exact(aah hx hs hG he).exec rfl
 |
  convert t d x=>
  simp only[jX]at hk
  split at hk
  ·rename_i k1 k2 y h1 h2 hx
   simp only[sJ]at hk;subst hk
   exact(Mp hx hs hG h1 h2 he).exec rfl
  ·rename_i e y h1 h2 hx
   split at hk<;>simp only[sJ,reduceCtorEq]at hk
   rename_i h3;subst hk
   exact(Mq hx hs hw hG h1 h2 h3 he).exec rfl
  ·split at hk<;>simp only[sJ,reduceCtorEq]at hk
   subst hk;simp[ev]at he
  ·split at hk
   ·split at hk<;>simp only[sJ,reduceCtorEq]at hk
    subst hk;simp[ev]at he
   ·simp at hk
  ·simp at hk
 |
  makeFunc f x z=>
  simp only[jX]at hk
  split at hk<;>simp only[sJ,reduceCtorEq]at hk
  rename_i p q hx hz;subst hk
  exact(Jj hx hz hs hG he).exec rfl
 |
  slice t x lo hi mx=>
  simp only[jX]at hk
  split at hk
  ·rename_i y IW jR Og hu hx hl hh hm
   simp only[sJ]at hk;subst hk
   exact(D0 hx hl hh hm hs hG hu he).exec rfl
  ·rename_i e y IW jR Og hu hx hl hh hm
   split at hk
   ·rename_i n hn
    split at hk<;>simp only[sJ,reduceCtorEq]at hk
    rename_i hmh;subst hk
    exact(Fw hx hl hh hm hmh hs hG hu hn he).exec rfl
   ·simp at hk
  ·rename_i n e y IW jR Og hu hx hl hh hm
   split at hk<;>simp only[sJ,reduceCtorEq]at hk
   rename_i sz hn;subst hk
   exact(Fx hx hl hh hm hs hG hu hn he).exec rfl
  ·simp at hk
 |
  makeMap t r=>
  cases r with
  |some r=>simp[jX]at hk
  |
   none=>
   simp only[jX]at hk
   repeat (split at hk<;>(try contradiction))
   all_goals (simp only[sJ]at hk;subst hk;simp[ev]at he)
 |
  lookup t m x ok=>
  simp only[jX]at hk
  repeat (split at hk<;>(try contradiction))
  all_goals (simp only[sJ]at hk;subst hk;simp[ev]at he)
 |
  mapUpdate t m x y=>
  simp only[jX]at hk
  repeat (split at hk<;>(try contradiction))
  all_goals (simp only[sJ]at hk;subst hk;simp[ev]at he)
 |
  insert t m x y=>
  simp only[jX]at hk
  repeat (split at hk<;>(try contradiction))
  all_goals (simp only[sJ]at hk;subst hk;simp[ev]at he)
 |
  sliceToArrayPointer t x=>
  simp only[jX]at hk
  split at hk
  ·rename_i n e y hu hx
   split at hk<;>simp only[sJ,reduceCtorEq]at hk
   subst hk
   exact(Tm hx hs hG hu he).exec rfl
  ·simp at hk
 |
  fieldAddr t x i=>
  simp only[jX]at hk
  split at hk
  ·rename_i fs y hu hx
   split at hk
   ·rename_i f hf
    split at hk<;>simp only[sJ,reduceCtorEq]at hk
    rename_i m hn;subst hk
    exact(Jh hx hs hG hu hf hn he).exec rfl
   ·simp at hk
  ·simp at hk
 |
  field t x i=>
  simp only[jX]at hk
  split at hk
  ·rename_i fs y hu hx
   split at hk
   ·rename_i f hf
    split at hk
    ·rename_i g n hg hn
     split at hk<;>simp only[sJ,reduceCtorEq]at hk
     subst hk
     exact(Mw hx hs hG hu hf hg hn he).exec rfl
    ·simp at hk
   ·simp at hk
  ·simp at hk
 |
  indexAddr t x i=>
  simp only[jX]at hk
  split at hk
  ·rename_i e y j hu hx hi
   split at hk<;>simp only[sJ,reduceCtorEq]at hk
   rename_i n hn;subst hk
   exact(DY hx hi hs hG hu hn he).exec rfl
  ·rename_i len e y j hu hx hi
   split at hk<;>simp only[sJ,reduceCtorEq]at hk
   rename_i n hn;subst hk
   exact(DZ hx hi hs hG hu hn he).exec rfl
  ·simp at hk
 |
  index t x i=>
  simp only[jX]at hk
  split at hk
  ·rename_i len e y j hu hx hi
   split at hk
   ·rename_i g n hg hn
    split at hk<;>simp only[sJ,reduceCtorEq]at hk
    subst hk
    exact(Mv hx hi hs hG hu hg hn he).exec rfl
   ·simp at hk
  ·rename_i y j hu hx hi
   simp only[sJ]at hk;subst hk
   exact(Ji hx hi hs hG hu he).exec rfl
  ·simp at hk
 |
  extract x i=>
  simp only[jX]at hk
  split at hk<;>simp only[sJ,reduceCtorEq]at hk
  rename_i y hx;subst hk
  exact(Hj hx hs he).exec rfl
 |
  call c=>
  obtain⟨callee,args,tys⟩:=c
  obtain⟨args⟩:=args
  obtain⟨tys⟩:=tys
  cases callee with
  |
   value f=>
   simp only[jX]at hk
   split at hk<;>simp only[sJ,reduceCtorEq]at hk
   subst hk
   simp[ev]at he
  |invoke r m=>simp[jX]at hk
  |
   builtin b=>
   simp only[jX]at hk
   have hex:∀(x:Sem Value) (c:Array Bool),builtin b tys.toArray ty c ((args.map a.eval).toArray)=(do Pure.pure (.value (←x)))->gp P Γ w x K->
     c=(args.toArray.map λ| .const _=>true|_=>false)->
     ∃p v,K p∧(execOp a.eval {dst:=dst,op:= .call {callee:= .builtin b,args:=args.toArray,argTypes:=tys.toArray},type:=ty,pos:=pos,after:=after,guard:=guard}).run P w= .ok (.value v) w∧aK Γ p v:=by
    intro x c hx hy hc
    refine hy.exec ?_
    have e:Array.map a.eval args.toArray=(args.map a.eval).toArray:=by simp
    simp only[execOp,resolve,e]
    rw[←hx,hc]
    rfl
   cases b with
   |len=>exact hex _ _ rfl (To (P:=P) (w:=w) (ty:=ty) hk hs hG he) rfl
   |cap=>exact hex _ _ rfl (Tn (P:=P) (w:=w) (ty:=ty) hk hs hG he) rfl
   |
    min=>
    unfold b7 at hk
    simp only at hk
    split at hk<;>simp only[sJ,reduceCtorEq]at hk
    rename_i l hl;subst hk
    exact hex _ _ rfl (by simpa using OC (P:=P) (w:=w) (ty:=ty) (tys:=tys) hl hs hG he) rfl
   |
    max=>
    unfold b7 at hk
    simp only at hk
    split at hk<;>simp only[sJ,reduceCtorEq]at hk
    rename_i l hl;subst hk
    exact hex _ _ rfl (by simpa using OC (P:=P) (w:=w) (ty:=ty) (tys:=tys) hl hs hG he) rfl
   |
    append=>
    unfold b7 at hk
    split at hk<;>(try contradiction)
    repeat (split at hk<;>(try contradiction))
    all_goals first|(simp only[sJ]at hk;subst hk;simp[ev]at he;done)|(simp at hk;done)|(split at hk<;>first|(simp only[sJ]at hk;subst hk;simp[ev]at he;done)|(simp at hk;done))
   |
    copy=>
    unfold b7 at hk
    split at hk<;>(try contradiction)
    repeat (split at hk<;>(try contradiction))
    all_goals (simp only[sJ]at hk;subst hk;simp[ev]at he)
   |
    clear=>
    unfold b7 at hk
    split at hk<;>(try contradiction)
    repeat (split at hk<;>(try contradiction))
    all_goals (simp only[sJ]at hk;subst hk;simp[ev]at he)
   |_=>unfold b7 at hk;split at hk<;>contradiction
 |
  alloc t=>
  simp only[jX]at hk
  split at hk<;>simp only[sJ,reduceCtorEq]at hk
  subst hk;simp[ev]at he
 |
  box t x=>
  simp only[jX]at hk
  split at hk<;>simp only[sJ,reduceCtorEq]at hk
  subst hk;simp[ev]at he
 |
  buildSlice t n parts=>
  simp only[jX]at hk
  repeat (split at hk<;>(try contradiction))
  all_goals (simp only[sJ]at hk;subst hk;simp[ev]at he)
 |
  makeSlice t l c=>
  simp only[jX]at hk
  repeat (split at hk<;>(try contradiction))
  all_goals (simp only[sJ]at hk;subst hk;simp[ev]at he)
 |
  store t x y=>
  simp only[jX]at hk
  split at hk<;>simp only[sJ,reduceCtorEq]at hk
  subst hk;simp[ev]at he
 |makeInterface=>simp only[jX,sJ]at hk;subst hk;exact(OG he).elim
 |panic=>simp only[jX,sJ]at hk;subst hk;exact(OG he).elim
 |_=>simp[jX]at hk
end Go.Ab
