/- Regions, loops and bodies do what their abstract reading says. No condition. -/
import Derived.Test.YtjkfnhhekobfgaaGreatDoorA3
set_option linter.all false
namespace Go.Ab
variable [eJ]
variable {P:Program} {nt:Nat} {ds:List Deferred} {s:St} {Γ:Cx} {a:Act} {w:World} [ji]
structure AO where
 dst:Option Nat
 guard:Option (Nat×Bool)
 mg:Bool
 k:AK
def nQ:AK->Bool
 | .alloc _| .box _| .buildSlice .. | .makeSlice .. | .store .. | .append .. | .appendZ .. | .copy .. | .fill .. | .isNil .. | .convB .. | .convL .. | .mkMap .. | .mapGet .. | .mapSet .. =>true
 |_=>false
def lh (P:Program) (s:St) (d:Option Nat) (f:AX) (args:List AX) (K:St->Prop):Prop:=
 vg true s f λpf=>sY true s args λps=>match pf with
  | .fn (.func fid) first cap=>∃ks os,tm P s d fid (first++ps++cap) ks os K
  | .fn (.yield l) [] []=>Eo s d l ps K
  |_=>False
def nB (P:Program) (s:St) (d:Option Nat) (f:AX) (args:List AX) (K:St->Prop):Prop:=
 vg true s f λpf=>sY true s args λps=>match pf with
  | .fn (.func fid) first cap=>∃v,(ab (λ_=>false) (first++ps++cap)=true∧ae (λ_=>false) v=true)∧
    ai P fid (first++ps++cap) [] (λr fp=>r=v∧fp=[])∧K (s.put d v)
  |_=>False
def kI (P:Program) (s:St) (o:AO) (K:St->Prop):Prop:=
 match o.k with
 | .call f args=>lh P s o.dst f args K
 | .callq f args=>nB P s o.dst f args K
 |k=>if nQ k=true then ex s o.dst k K else ev true s k λp=>K (s.put o.dst p)
def iu (P:Program) (s:St) (o:AO) (K:St->Prop):Prop:=
 match o.guard with
 |none=>kI P s o K
 |
  some (sl,want)=>match(get s.env sl).getD .un with
  | .bl b=>if o.mg=true then ev (b==want) s o.k (λp=>K (s.put o.dst (.gd (b==want) p)))
    else(b=want->kI P s o K)∧(b≠want->K (s.put o.dst .un))
  | .gd g (.bl b)=>if o.mg=true then ev (g&&b==want) s o.k (λp=>K (s.put o.dst (.gd (g&&b==want) p)))
    else(g=true->b=want->kI P s o K)∧((g=true->b≠want)->K (s.put o.dst .un))
  |_=>False
def qW:AK->Bool
 | .mv _| .pick .. | .load .. | .nilCheck _| .un .. | .convI .. | .convS _| .fieldA .. | .s2a .. | .field .. | .extract .. | .len _| .lenS _| .lenC _| .cap _| .mm .. =>true
 | .bin op _ _ _=>match op with| .quo| .rem| .shl| .shr=>false|_=>true
 |_=>false
def tv (ops:Array Oper):Option (Nat×Bool)->Option (Option (Nat×Bool))
 |none=>some none
 |some (j,want)=>match(ops[j]?).bind (·.dst)with|some d=>some (some (d,want))|none=>none
def vJ (nt:Nat) (d:Option Nat) (k:AK):Bool:=
 match d,k with
 |some _,.store .. =>false
 |some d,_=>decide (d<nt)
 |none,_=>true
def uK (P:Program) (draw:Bool) (ty:TypeId):AK->AK
 | .call f args=>if draw=true then .callq f args else .call f args
 |
  .mv (.c (.sl 0 [] true))=>(match P.underlying ty with
  |some (.slice e)=> .mv (.c (.sl (P.cellsOf e) [] true))
  |_=> .mv (.c (.sl 0 [] true)))
 |k=>k
def SC (own:List Nat):Option Nat->Bool
 |some d=>own.contains d
 |none=>true
noncomputable def ou (P:Program) (nt:Nat) (ops:Array Oper) (own sp:List Nat) (draw:Bool) (o:Oper):Option AO:=
 match kc P (match o.dst with|some d=>own.contains d|none=>false) o.op,tv ops o.guard with
 |some k,some g=>if vJ nt o.dst k=true then some ⟨o.dst,g,qW k&& !(match o.dst with|some d=>sp.contains d|none=>false),uK P (draw&& !SC own o.dst) o.type k⟩else none
 |_,_=>none
theorem vK {own:Bool} {op:Op} {k:AK} (h:kc P own op=some k) (c:Call):op≠ .defer c:=by
 rintro rfl;simp[kc]at h
theorem Oper.vL {ro:Option Nat} {o:Oper} {own:Bool} {k:AK} (nu:kc P own o.op=some k) {K:St->Prop} {Kr:Act->World->Prop} {Q:Exit->Act->World->Prop} (h:kr P nt ds o a w Γ K)
  (hk:∀s' Γ' a' w',gK nt ds s' Γ' a'->w'.heap=Γ'.heap->Le Γ Γ'->WF w w'->K s'->Kr a' w'):o.wpIn (FW ro) 0 P a w Kr Q:=by
 obtain⟨nx,v,w',s',Γ',iO,VH,hs,hh,hle,oC,hK⟩:=h
 refine⟨λ_ _=>trivial,?_⟩
 rw[Oper.semAt_eq _ _ _ (vK nu),iO]
 rcases VH with rfl|⟨rfl,rfl⟩
 ·exact hk _ _ _ _ hs hh hle oC hK
 ·exact hk _ _ _ _ hs hh hle oC hK
theorem Jo {o:Oper} {k:AK} {own:Bool} {K:St->Prop} (hk:kc P own o.op=some k) (hs:gK nt ds s Γ a) (hw:w.heap=Γ.heap) (hd:vJ nt o.dst k=true) (he:ex s o.dst k K):kr P nt ds o a w Γ K:=by
 have DQ:(∀x y z,k≠ .store x y z)->∀j,o.dst=some j->j<nt:=by
  intro bS j hj
  rw[hj]at hd
  unfold vJ at hd
  split at hd
  ·exact absurd rfl (bS _ _ _)
  ·rename_i heq _;simp at heq;subst heq;simpa using hd
  ·rename_i heq;simp at heq
 cases mH:o.op with
 |
  alloc t=>
  rw[mH]at hk;simp only[kc]at hk
  split at hk<;>simp only[sJ,reduceCtorEq]at hk
  rename_i z hz;subst hk
  exact Hs mH hz hs hw (DQ (by intros;simp)) he
 |
  box t x=>
  rw[mH]at hk;simp only[kc]at hk
  split at hk<;>simp only[sJ,reduceCtorEq]at hk
  rename_i y hy;subst hk
  exact M9 mH hy hs hw (DQ (by intros;simp)) he
 |
  buildSlice t n parts=>
  rw[mH]at hk;simp only[kc]at hk
  split at hk
  ·rename_i e ps hu hp
   split at hk
   ·rename_i z sz hz iq
    split at hk<;>simp only[sJ,reduceCtorEq]at hk
    rename_i hc;subst hk
    exact xw mH hu hp hz iq hc.1 hc.2 hs hw (DQ (by intros;simp)) he
   ·simp at hk
  ·simp at hk
 |
  makeSlice t l c=>
  rw[mH]at hk;simp only[kc]at hk
  split at hk
  ·rename_i e l' c' hu hl hc
   split at hk
   ·rename_i z i hz hi
    split at hk<;>simp only[sJ,reduceCtorEq]at hk
    rename_i gF;subst hk
    exact zk mH hu hl hc hz hi gF hs hw (DQ (by intros;simp)) he
   ·simp at hk
  ·simp at hk
 |
  store t x y=>
  rw[mH]at hk;simp only[kc]at hk
  split at hk<;>simp only[sJ,reduceCtorEq]at hk
  rename_i n x' y' hn hx hy;subst hk
  refine Hu mH hn hx hy hs hw ?_ he
  cases IU:o.dst with
  |none=>rfl
  |some d=>rw[IU]at hd;simp[vJ]at hd
 |
  convert t e x=>
  rw[mH]at hk;simp only[kc]at hk
  split at hk
  ·simp only[sJ]at hk;subst hk;simp[ex]at he
  ·split at hk<;>simp only[sJ,reduceCtorEq]at hk
   subst hk;simp[ex]at he
  ·rename_i e' y h1 h2 hx
   split at hk<;>simp only[sJ,reduceCtorEq]at hk
   rename_i h3;subst hk
   exact Ht mH h1 h2 h3 hx hs hw (DQ (by intros;simp)) he
  ·rename_i e0 e' y h1 h2 hx
   split at hk
   ·rename_i hte
    split at hk<;>simp only[sJ,reduceCtorEq]at hk
    rename_i h3;subst hk hte
    exact Hz mH h1 (by rw[h1]at h2;cases h2;exact h3) hx hs hw (DQ (by intros;simp)) he
   ·simp at hk
  ·simp at hk
 |makeMap t r=>rw[mH]at hk;simp[kc]at hk
 |lookup t m x ok=>rw[mH]at hk;simp[kc]at hk
 |mapUpdate t m x y=>rw[mH]at hk;simp[kc]at hk
 |
  call c=>
  obtain⟨callee,args,tys⟩:=c
  rw[mH]at hk
  cases callee with
  |
   value f=>
   simp only[kc]at hk
   split at hk<;>simp only[sJ,reduceCtorEq]at hk
   subst hk;simp[ex]at he
  |invoke r m=>simp[kc]at hk
  |
   builtin b=>
   simp only[kc]at hk
   obtain⟨args⟩:=args
   obtain⟨tys⟩:=tys
   simp only at hk
   cases b with
   |
    append=>
    match args,tys,mH,hk with
    |
     [x,y],[t,u],mH,hk=>
     unfold dP at hk
     simp only at hk
     split at hk
     ·rename_i e d x' y' PQ FE hx hy
      split at hk
      ·rename_i i hi
       split at hk
       ·rename_i z hz
        split at hk
        ·rename_i hc
         split at hk
         ·simp only[sJ]at hk;subst hk
          exact xz mH PQ FE (.inl ⟨_,rfl⟩) hi hz hc.1 hc.2.1 hc.2.2 hx hy hs hw (DQ (by intros;simp)) he
         ·split at hk<;>simp only[sJ,reduceCtorEq]at hk
          rename_i h1;subst hk
          exact xz mH PQ FE (.inr rfl) hi hz hc.1 hc.2.1 hc.2.2 hx hy hs hw (DQ (by intros;simp)) he
         ·split at hk<;>simp only[sJ,reduceCtorEq]at hk
          rename_i zz PO;subst hk
          exact CD mH PQ FE hi hz PO hc.1 hc.2.1 hc.2.2 hx hy hs hw (DQ (by intros;simp)) he
         ·simp at hk
        ·simp at hk
       ·simp at hk
      ·simp at hk
     ·simp at hk
    |[],_,_,hk|[_],_,_,hk|_::_::_::_,_,_,hk|[_,_],[],_,hk|[_,_],[_],_,hk|[_,_],_::_::_::_,_,hk=>simp[dP]at hk
   |
    clear=>
    match args,tys,mH,hk with
    |
     [x],[t],mH,hk=>
     unfold dP at hk
     simp only at hk
     split at hk
     ·rename_i e x' PQ hx
      split at hk
      ·rename_i n z hn hz
       split at hk<;>simp only[sJ,reduceCtorEq]at hk
       subst hk
       exact Jj mH PQ hn hz hx hs hw he
      ·simp at hk
     ·simp at hk
    |[],_,_,hk|_::_::_,_,_,hk|[_],[],_,hk|[_],_::_::_,_,hk=>simp[dP]at hk
   |
    copy=>
    match args,tys,mH,hk with
    |
     [x,y],[t,u],mH,hk=>
     unfold dP at hk
     simp only at hk
     split at hk
     ·rename_i e x' y' PQ hx hy
      split at hk<;>simp only[sJ,reduceCtorEq]at hk
      rename_i n hn;subst hk
      exact Ji mH PQ hn hx hy hs hw (DQ (by intros;simp)) he
     ·simp at hk
    |[],_,_,hk|[_],_,_,hk|_::_::_::_,_,_,hk|[_,_],[],_,hk|[_,_],[_],_,hk|[_,_],_::_::_::_,_,hk=>simp[dP]at hk
   |
    len=>
    exfalso
    unfold dP at hk
    repeat (split at hk<;>(try contradiction))
    all_goals first|(simp only[sJ]at hk;subst hk;simp[ex]at he;done)|(simp at hk;done)|(split at hk<;>first|(simp only[sJ]at hk;subst hk;simp[ex]at he;done)|(simp at hk;done))
   |
    cap=>
    unfold dP at hk
    split at hk<;>(try contradiction)
    split at hk<;>simp only[sJ,reduceCtorEq]at hk
    subst hk;simp[ex]at he
   |
    min=>
    unfold dP at hk
    split at hk<;>(try contradiction)
    split at hk<;>simp only[sJ,reduceCtorEq]at hk
    subst hk;simp[ex]at he
   |
    max=>
    unfold dP at hk
    split at hk<;>(try contradiction)
    split at hk<;>simp only[sJ,reduceCtorEq]at hk
    subst hk;simp[ex]at he
   |_=>unfold dP at hk;split at hk<;>contradiction
 |
  binOp op t x y yt=>
  by_cases hn:∃ng p,k= .isNil ng p
  ·obtain⟨ng,p,rfl⟩:=hn
   rw[mH]at hk
   exact Hw mH hk hs hw (DQ (by intros;simp)) he
  rw[mH]at hk;simp only[kc]at hk
  exfalso
  repeat (split at hk<;>(try contradiction))
  all_goals first|(simp only[sJ]at hk;subst hk;simp[ex]at he;done)|(simp at hk;done)|(simp only[sJ]at hk;exact hn ⟨_,_,hk.symm⟩)|(split at hk<;>first|(simp only[sJ]at hk;subst hk;simp[ex]at he;done)|(simp at hk;done)|(simp only[sJ]at hk;exact hn ⟨_,_,hk.symm⟩)|(split at hk<;>first|(simp only[sJ]at hk;subst hk;simp[ex]at he;done)|(simp at hk;done)|(simp only[sJ]at hk;exact hn ⟨_,_,hk.symm⟩)|(split at hk<;>first|(simp only[sJ]at hk;subst hk;simp[ex]at he;done)|(simp at hk;done)|(simp only[sJ]at hk;exact hn ⟨_,_,hk.symm⟩))))
 |
  _=>
  exfalso
  rw[mH]at hk
  first
  |(simp only[kc,reduceCtorEq]at hk;done)
  |(simp only[kc]at hk
    repeat (split at hk<;>(try contradiction))
    all_goals first|(simp only[sJ]at hk;subst hk;simp[ex]at he;done)|(simp at hk;done)|(split at hk<;>first|(simp only[sJ]at hk;subst hk;simp[ex]at he;done)|(simp at hk;done)|(split at hk<;>first|(simp only[sJ]at hk;subst hk;simp[ex]at he;done)|(simp at hk;done))))
end Go.Ab
namespace Go.Ab
variable [eJ]
variable {P:Program} {nt:Nat} {ds:List Deferred} {s:St} {Γ:Cx} {a:Act} {w:World} [ji]
theorem aG.toV {p:PV} {v:Value} (h:aG Γ [p] [v]) (ha:p.isAgg=false):aO Γ p v:=by
 cases p<;>simp[PV.isAgg]at ha<;>first|(simp only[aO];done)|(simp only[aO];exact h)|(exact absurd h (by intro h;cases h))
theorem mV:∀ {l:List PV} {vs:List Value},aG Γ l vs->(∀x∈l,x.isAgg=false)->gq Γ l vs
 |[],vs,h,_=>by cases h;trivial
 |
  p::l,vs,h,hn=>by
  obtain⟨cs,us,rfl,h1,h2⟩:=h.om
  have hp:=hn p (by simp)
  have hw:p.width=1:=by cases p<;>simp[PV.isAgg]at hp<;>rfl
  have hl:=h1.hZ
  rw[hw]at hl
  obtain⟨v,rfl⟩:=List.length_eq_one_iff.1 hl
  exact⟨h1.toV hp,mV h2 (λx hx=>hn x (by simp[hx]))⟩
theorem gq.append:∀ {l m:List PV} {vs us:List Value},gq Γ l vs->gq Γ m us->gq Γ (l++m) (vs++us)
 |[],m,[],us,_,h=>h
 |p::l,m,v::vs,us,h,h'=>⟨h.1,gq.append h.2 h'⟩
 |[],m,v::vs,us,h,_=>by simp[gq]at h
 |p::l,m,[],us,h,_=>by simp[gq]at h
theorem gq.aB {f:Nat->Bool} {ρ:Nat->Nat} {Δ:Cx} (hs:uH f ρ Γ Δ):∀ {l:List PV} {vs:List Value},gq Γ l vs->ab f l=true->gq Δ (aD ρ l) vs
 |[],[],_,_=>trivial
 |
  p::l,v::vs,h,hf=>by
  simp only[ab,aJ]at hf
  exact⟨h.1.aB hs hf.1,gq.aB hs h.2 hf.2⟩
 |[],v::vs,h,_=>by simp[gq]at h
 |p::l,[],h,_=>by simp[gq]at h
theorem si:∀ {ps:List PV} {xs:List Operand},ps.length=xs.length->(∀(i:Nat) p x,ps[i]? =some p->xs[i]? =some x->aO Γ p (a.eval x))->gq Γ ps (xs.map a.eval)
 |[],[],_,_=>trivial
 |p::ps,x::xs,hl,h=>⟨h 0 p x rfl rfl,si (by simpa using hl) (λi q y h1 h2=>h (i+1) q y h1 h2)⟩
 |[],_::_,hl,_=>by simp at hl
 |_::_,[],hl,_=>by simp at hl
def CE (P:Program) (nt:Nat) (ds:List Deferred) (Γ:Cx) (w:World) (K:St->Prop) (Kr:Act->World->Prop):Prop:=
 ∀s' Γ' a' w',gK nt ds s' Γ' a'->w'.heap=Γ'.heap->Le Γ Γ'->WF w w'->K s'->Kr a' w'
theorem HA {o:Oper} {f:Operand} {args:Array Operand} {tys:Array TypeId} {fid:FuncId} {fs cs:Array Value} (ho:o.op= .call {callee:= .value f,args,argTypes:=tys}) (hf:a.eval f= .func (.func fid) fs cs):
  execOp a.eval o=(do let d←(Pure.pure {target:= .fn (.func fid) cs,args:=fs++args.map a.eval}:Sem Deferred);invoke d.target d.args):=by
 unfold execOp
 rw[ho]
 simp only[resolve,hf,Deferred.ofValue]
theorem Ep {o:Oper} {f:Operand} {args:Array Operand} {tys:Array TypeId} {fid:FuncId} {first cap ps:List PV} (ho:o.op= .call {callee:= .value f,args,argTypes:=tys})
  (hf:aO Γ (.fn (.func fid) first cap) (a.eval f)) (hl:ps.length=args.toList.length) (hp:∀(i:Nat) p x,ps[i]? =some p->args.toList[i]? =some x->aO Γ p (a.eval x)):
  ∃vs:List Value,gq Γ (first++ps++cap) vs∧∀w r,(callFunc fid vs.toArray).run P w=r->(execOp a.eval o).run P w=r:=by
 simp only[aO]at hf
 generalize hv:a.eval f=v at hf
 cases hf with
 |
  @fn _ _ fs cs _ _ _ h1 h2 h3 h4 _=>
  refine⟨fs++args.toList.map a.eval++cs,((mV h1 h3).append (si hl hp)).append (mV h2 h4),λw r hc=> ?_⟩
  rw[HA ho hv]
  have e:(fs++args.toList.map a.eval++cs).toArray=(fs.toArray++args.map a.eval)++cs.toArray:=by
   apply Array.ext';simp
  rw[e]at hc
  exact hc
theorem CF {n k:Nat}:dv (eC n) k=k:=by
 unfold dv
 split
 ·rename_i h
  cases hi:(eC n)[k-KB]?with
  |none=>rfl
  |some j=>simp only[Option.getD_some];have:=(uI.1 hi).2;omega
 ·rfl
theorem Jp {ro:Option Nat} {l:Nat} {f:FuncId} {tmps:Array Value} {as bo:Code} {R:Ending->World->Prop} (h:RoundIn (FW none) 0 P l f tmps as bo w R):RoundIn (FW ro) 0 P l f tmps as bo w R:=h
theorem CG {o:Oper} {f:Operand} {args:Array Operand} {tys:Array TypeId} {f':AX} {gY:List AX} {K:St->Prop} {Kr:Act->World->Prop} {Q:Exit->Act->World->Prop} {ro:Option Nat} (ho:o.op= .call {callee:= .value f,args,argTypes:=tys})
  (hf:iW f=some f') (hx:tf args.toList=some gY) (hs:gK nt ds s Γ a) (hw:w.heap=Γ.heap) (hd:∀j,o.dst=some j->j<nt) (hY:xF P Γ) (h:lh P s o.dst f' gY K) (hk:CE P nt ds Γ w K Kr):o.wpIn (FW ro) 0 P a w Kr Q:=by
 unfold lh at h
 obtain⟨pf,h,IV⟩:=cW hf hs rfl h
 obtain⟨ps,h,hl,hp⟩:=tg hs rfl hx h
 split at h
 case h_3=>exact h.elim
 case h_2=>
  rename_i l _
  obtain⟨cY,R,hg,rM,mQ,wm,hK⟩:=h
  obtain⟨Γ0,rec,PN,h0,Cg,LZ,hAY⟩:=hY l ps cY R wm
  rw[←hs.bx]at hg
  have Sg:a.eval f= .func (.yield l) #[] #[]:=by
   simp only[aO]at IV
   generalize a.eval f=v at IV
   cases IV with
   | @fn _ _ fs cs _ _ _ h1 h2 h3 h4 _=>cases h1;cases h2;rfl
  have iO:(execOp a.eval o).run P w=(Instr.yield l (args.toList.map a.eval).toArray).run P w:=by
   have e:(args.toList.map a.eval).toArray= #[]++args.map a.eval:=by apply Array.ext';simp
   rw[e]
   unfold execOp
   rw[ho]
   simp only[resolve,Sg,Deferred.ofValue]
   rfl
  have nN:=Cx.nj hg
  have hA:gq Γ ps (args.toList.map a.eval):=si hl hp
  have MU:=hA.aB nN (by rw[nW];exact rM)
  rw[jy (λ_=>nX)]at MU
  have xg:Γ.heap[l]? =Γ0.heap[l]? :=by rw[PN.plain LZ Cg rfl,Cg]
  obtain⟨fn,tmps,as,bo,hy,hR⟩:=hAY (Γ.call (eC ji.n) cY) w _ hw (Cx.tn hs.mem hg (mU _) (by rw[nW];exact mQ)) (by simp only[Cx.call];rw[sg (λ_=>nX)]) MU (Jn h0 PN hg) xg
  refine⟨λ_ _=>trivial,?_⟩
  rw[Oper.semAt_eq _ _ _ (λc=>by rw[ho];simp),iO,hy,Oper.uponIn_round]
  refine⟨λh=>by simp[FW,Fence.wide]at h,Jp (hR.mono ?_)⟩
  rintro e w' ⟨fp,Γ',rfl,hR,L4,mO,Ma,hle,oC⟩
  obtain⟨⟨hlen,nP⟩,hKK⟩:=hK fp hR
  have hlk:(eC ji.n++[]).length=ji.n:=by simp[eC]
  obtain⟨same2,le2,mem2⟩:=sf hs.mem hg (os:=[]) (by simpa using mU _) (by simp) mO Ma hle (by rw[hlen,hlk]) (by rw[hlen];exact nP)
  have ur:=hs.le le2 mem2 (uq:=bb s.bx (eC ji.n) fp) (by simp only[Cx.back,List.append_nil,hs.bx];rw[sg (λ_=>CF)])
  exact hk _ _ _ _ (ur.put hd (p:= .bl true) (v:= .bool true) (by simp only[aO];exact .bl _ .nil)) (by simp[Cx.back,L4]) le2 oC hKK
 rename_i fid first cap
 obtain⟨ks,os,cY,R,hg,hn,Sf,rM,mQ,hc,hK⟩:=h
 obtain⟨vs,hA,iO⟩:=Ep (P:=P) ho IV hl hp
 refine⟨λ_ _=>trivial,?_⟩
 rw[←hs.bx]at hg Sf
 have hnk:ks.Nodup:=(List.nodup_append.1 hn).1
 have nN:=Cx.nj hg
 have key:∀e w',(∃v r pV Γ',e=Ending.returned v∧R r pV∧w'.heap=Γ'.heap∧Mem Γ'∧Γ'.bx=aF 0 pV∧aO Γ' r v∧Le (Γ.call ks cY) Γ'∧WF w w')->∃v,e= .returned v∧Kr (a.put o.dst v) w':=by
  rintro e w' ⟨v,r,fp,Γ',rfl,hR,L4,mO,Ma,AU,hle,oC⟩
  obtain⟨⟨hlen,hrr,nP⟩,hKK⟩:=hK r fp hR
  obtain⟨same2,le2,mem2⟩:=sf hs.mem hg hn Sf mO Ma hle hlen nP
  have ur:=hs.le le2 mem2 (uq:=bb s.bx (ks++os) (fp.map (aE (dv (ks++os))))) (by simp[Cx.back,hs.bx])
  exact⟨v,rfl,hk _ _ _ _ (ur.put hd (AU.aB same2 hrr)) (by simp[Cx.back,L4]) le2 oC hKK⟩
 rcases hc (Γ.call ks cY) w vs hw (Cx.tn hs.mem hg hnk mQ) rfl (hA.aB nN rM)with⟨zO,yT⟩|⟨v,w',zO,yT⟩
 ·rw[Oper.semAt_eq _ _ _ (λc=>by rw[ho];simp),iO w _ zO,Oper.uponIn_enter]
  refine⟨λh=>by simp[FW,Fence.wide]at h,Jk ?_⟩
  refine yT.mono λe w' he=> ?_
  obtain⟨v,rfl,h⟩:=key e w' he
  exact h
 ·rw[Oper.semAt_eq _ _ _ (λc=>by rw[ho];simp),iO w _ zO]
  obtain⟨u,hu,h⟩:=key _ w' yT
  cases hu
  exact h
theorem oL {ρ:Nat->Nat} {p:PV} (h:ae (λ_=>false) p=true):aB ρ p=p:=xB (f:=λ_=>false) (by simp) p h
theorem nY {ρ:Nat->Nat} {l:List PV} (h:ab (λ_=>false) l=true):aD ρ l=l:=lS (f:=λ_=>false) (by simp) l h
mutual
theorem jz {f g:Nat->Bool} (h:∀k,f k=true->g k=true):∀p,ae f p=true->ae g p=true
 | .st w l,hh=>by simp only[ae]at*;exact eM h l hh
 | .ar sz n l,hh=>by simp only[ae]at*;exact eM h l hh
 | .tup l,hh=>by simp only[ae]at*;exact eM h l hh
 | .sl sz l c,hh=>by simp only[ae]at*;exact eM h l hh
 | .fp sz l c,hh=>by simp only[ae]at*;exact eM h l hh
 | .fn f x y,hh=>by simp only[ae,aJ]at*;exact⟨eM h x hh.1,eM h y hh.2⟩
 | .gd b p,hh=>by simp only[ae]at*;exact jz h p hh
 | .ifc b p,hh=>by simp only[ae]at*;exact jz h p hh
 | .rs ..,hh=>by simp only[ae]at*;exact h _ hh
 | .pt ..,hh=>by simp only[ae]at*;exact h _ hh
 | .un,_| .bl _,_| .int ..,_| .str _,_| .np,_| .nf,_| .ni,_| .mp ..,_=>by simp[ae]
theorem eM {f g:Nat->Bool} (h:∀k,f k=true->g k=true):∀l,ab f l=true->ab g l=true
 |[],_=>by simp[ab]
 |p::l,hh=>by simp only[ab,aJ]at*;exact⟨jz h p hh.1,eM h l hh.2⟩
end
theorem xH {d:Option Nat} {f:AX} {args:List AX} {K:St->Prop} (h:nB P s d f args K):lh P s d f args K:=by
 unfold nB at h
 unfold lh
 have hv:∀ {g:Bool} {x:AX} {K K':PV->Prop},(∀p,K p->K' p)->vg g s x K->vg g s x K':=by
  intro g x K K' hh hv
  unfold vg at*
  split at hv
  ·exact⟨hv.1,hh _ hv.2⟩
  ·exact hh _ hv
 have hvs:∀ {g:Bool} {xs:List AX} {K K':List PV->Prop},(∀p,K p->K' p)->sY g s xs K->sY g s xs K':=by
  intro g xs
  induction xs with
  |nil=>intro K K' hh hv;exact hh _ hv
  |cons x xs ih=>intro K K' hh hq;exact hv (λp hp=>ih (λq hq=>hh _ hq) hp) hq
 refine hv (λpf hq=>hvs (λps hr=> ?_) hq) h
 split at hr
 case h_2=>exact hr.elim
 rename_i fid first cap
 obtain⟨v,⟨h1,h2⟩,hc,hK⟩:=hr
 refine⟨[],[],[],(λr fp=>r=v∧fp=[]),rfl,by simp,by simp,eM (by simp) _ h1,rfl,?_,?_⟩
 ·rw[nY h1];exact hc
 ·rintro r fp ⟨rfl,rfl⟩
  refine⟨⟨rfl,jz (by simp) _ h2,rfl⟩,?_⟩
  rw[oL h2]
  exact hK
end Go.Ab
namespace Go.Ab
variable [eJ]
variable {P:Program} {nt:Nat} {ds:List Deferred} {s:St} {Γ:Cx} {a:Act} {w:World} [ji]
def Dt {α:Type} (C:(α->Prop)->Prop):Prop:=∀K,C K->∃p,K p∧∀K':α->Prop,K' p->C K'
theorem Dt.ret {α:Type} (v:α):Dt (λK=>K v):=λ_ h=>⟨v,h,λ_ h=>h⟩
theorem Dt.no {α:Type}:Dt (λ_:α->Prop=>False):=λ_ h=>h.elim
theorem Dt.bind {α β:Type} {C:(α->Prop)->Prop} {D:α->(β->Prop)->Prop} (hc:Dt C) (hd:∀p,Dt (D p)):Dt (λK=>C (λp=>D p K)):=by
 intro K h
 obtain⟨p,hp,hk⟩:=hc _ h
 obtain⟨q,hq,AW⟩:=hd p _ hp
 exact⟨q,hq,λK' h'=>hk _ (AW _ h')⟩
theorem Dt.and {α:Type} {c:Prop} {C:(α->Prop)->Prop} (hc:Dt C):Dt (λK=>c∧C K):=by
 intro K h
 obtain⟨p,hp,hk⟩:=hc _ h.2
 exact⟨p,hp,λK' h'=>⟨h.1,hk _ h'⟩⟩
theorem oM (g:Bool) (s:St) (x:AX):Dt (vg g s x):=by
 unfold vg
 split
 ·exact Dt.and (Dt.ret _)
 ·exact Dt.ret _
theorem pA (g:Bool) (s:St):∀xs,Dt (sY g s xs)
 |[]=>Dt.ret _
 |
  x::xs=>by
  show Dt λK=>sY g s (x::xs) K
  simp only[sY]
  exact Dt.bind (oM g s x) λp=>Dt.bind (pA g s xs) λps=>Dt.ret _
theorem uL (g:Bool) (s:St):∀xs,Dt (y9 g s xs)
 |[]=>Dt.ret _
 |
  (i,x)::xs=>by
  show Dt λK=>y9 g s ((i,x)::xs) K
  simp only[y9]
  exact Dt.bind (oM g s x) λp=>Dt.bind (uL g s xs) λps=>Dt.ret _
theorem nZ (p:PV):Dt (mS p):=by
 unfold mS;split
 ·exact Dt.ret _
 ·exact Dt.no
theorem CH (mx:Bool):∀l a,Dt (lB mx a l)
 |[],a=>Dt.ret _
 |
  p::r,a=>by
  show Dt λK=>lB mx a (p::r) K
  simp only[lB]
  exact Dt.bind (nZ p) λb=>CH mx r _
theorem Nb (op:BinOp) (k:IntKind) (a b:Int):Dt (ot op k a b):=by
 cases op<;>first|exact Dt.ret _|exact Dt.and (Dt.ret _)
theorem Nc (op:BinOp) (a b:List UInt8):Dt (uA op a b):=by
 cases op<;>first|exact Dt.ret _|exact Dt.and (Dt.ret _)|exact Dt.no
theorem tw (op:BinOp) (b:Bool):Dt (sc op b):=by
 cases op<;>first|exact Dt.ret _|exact Dt.no
theorem Nd (s:St) (op:BinOp) (eqs:ET) (p q:PV):Dt (pq s op eqs p q):=by
 show Dt λK=>pq s op eqs p q K
 cases eqs<;>simp only[pq]
 case no=>split<;>first|exact Dt.and (Nb _ _ _ _)|exact Nc _ _ _|exact Dt.no
 case sh x=>exact Dt.and (tw _ _)
 case bl=>split<;>first|exact tw _ _|exact Dt.no
 case ptr=>
  split
  ·exact tw _ _
  ·split
   ·exact Dt.and (tw _ _)
   ·exact Dt.no
  ·exact tw _ _
  ·exact Dt.no
def wA {α β:Type} (C:(α->β->Prop)->Prop):Prop:=∀K,C K->∃p q,K p q∧∀K':α->β->Prop,K' p q->C K'
theorem wA.ret {α β:Type} (v:α) (u:β):wA (λK=>K v u):=λ_ h=>⟨v,u,h,λ_ h=>h⟩
theorem wA.no {α β:Type}:wA (λ_:α->β->Prop=>False):=λ_ h=>h.elim
theorem wA.and {α β:Type} {c:Prop} {C:(α->β->Prop)->Prop} (hc:wA C):wA (λK=>c∧C K):=by
 intro K h
 obtain⟨p,q,hp,hk⟩:=hc _ h.2
 exact⟨p,q,hp,λK' h'=>⟨h.1,hk _ h'⟩⟩
theorem wA.of {α β γ:Type} {C:(α->Prop)->Prop} {D:α->(β->γ->Prop)->Prop} (hc:Dt C) (hd:∀p,wA (D p)):wA (λK=>C (λp=>D p K)):=by
 intro K h
 obtain⟨p,hp,hk⟩:=hc _ h
 obtain⟨q,r,hq,AW⟩:=hd p _ hp
 exact⟨q,r,hq,λK' h'=>hk _ (AW _ h')⟩
theorem Dt.vM {α β γ:Type} {C:(α->β->Prop)->Prop} {D:α->β->(γ->Prop)->Prop} (hc:wA C) (hd:∀p q,Dt (D p q)):Dt (λK=>C (λp q=>D p q K)):=by
 intro K h
 obtain⟨p,q,hp,hk⟩:=hc _ h
 obtain⟨r,hq,AW⟩:=hd p q _ hp
 exact⟨r,hq,λK' h'=>hk _ (AW _ h')⟩
theorem nC (s:St) (p:PV):wA (content s p):=by
 show wA λK=>content s p K
 cases p<;>simp only[content]<;>first
  |exact wA.ret _ _|exact wA.no
  |(split<;>first|exact wA.and (wA.ret _ _)|exact wA.no|(split<;>first|exact wA.and (wA.ret _ _)|exact wA.no))
theorem pB (g:Bool) (s:St) (lo hi:Option AX) (len cap:Nat):wA (jh g s lo hi len cap):=by
 unfold jh
 refine wA.of (C:=match hi with|none=>λ(J:Nat->Prop)=>J len|some x=>λJ=>vg g s x λp=>mS p λh=>(0≤h∧h≤cap)∧J h.toNat) ?_ λh=> ?_
 ·cases hi with
  |none=>exact Dt.ret _
  |some x=>exact Dt.bind (oM g s x) λp=>Dt.bind (nZ p) λh=>Dt.and (Dt.ret _)
 ·refine wA.of (C:=match lo with|none=>λ(J:Nat->Prop)=>J 0|some x=>λJ=>vg g s x λp=>mS p λl=>(0≤l∧l≤h)∧J l.toNat) ?_ λl=>wA.ret _ _
  cases lo with
  |none=>exact Dt.ret _
  |some x=>exact Dt.bind (oM g s x) λp=>Dt.bind (nZ p) λh=>Dt.and (Dt.ret _)
theorem pX (g:Bool) (s:St) (k:AK):Dt (ev g s k):=by
 have V:=oM g s
 have I:=nZ
 show Dt λK=>ev g s k K
 cases k with
 |mv x=>exact V x
 |
  pick c a b=>
  simp only[ev]
  refine Dt.bind (V c) λp=> ?_
  split
  ·split<;>first|exact Dt.ret _|exact Dt.and (Dt.ret _)|exact Dt.no
  ·exact Dt.no
 |
  build z parts=>
  simp only[ev]
  refine Dt.bind (uL g s parts) λp=> ?_
  split<;>first|exact Dt.no|(split<;>first|exact Dt.ret _|exact Dt.no)
 |
  load agg w x=>
  simp only[ev]
  refine Dt.bind (V x) λp=> ?_
  split
  ·split
   ·split<;>first|exact Dt.and (Dt.ret _)|exact Dt.no
   ·exact Dt.no
  ·split<;>first|exact Dt.and (Dt.ret _)|exact Dt.no
  ·exact Dt.no
 |
  nilCheck x=>
  simp only[ev]
  refine Dt.bind (V x) λp=> ?_
  split
  ·split<;>first|exact Dt.and (Dt.ret _)|exact Dt.no
  all_goals first|exact Dt.ret _|exact Dt.no
 |bin op eqs x y=>simp only[ev];exact Dt.bind (V x) λp=>Dt.bind (V y) λq=>Nd _ _ _ _ _
 |
  un op x=>
  simp only[ev]
  refine Dt.bind (V x) λp=> ?_
  split<;>first|exact Dt.ret _|exact Dt.no
 |convI k x=>simp only[ev];exact Dt.bind (V x) λp=>Dt.bind (I p) λn=>Dt.ret _
 |
  convS x=>
  simp only[ev]
  refine Dt.bind (V x) λp=>Dt.vM (nC s p) λsz l=>Dt.and ?_
  split<;>first|exact Dt.ret _|exact Dt.no
 |mkFunc f first cap=>simp only[ev];exact Dt.bind (pA g s first) λp=>Dt.bind (pA g s cap) λq=>Dt.and (Dt.ret _)
 |
  slice k x lo hi mx=>
  cases k with
  |
   str=>
   simp only[ev]
   refine Dt.bind (V x) λp=> ?_
   split
   ·exact Dt.and (Dt.vM (pB _ _ _ _ _ _) λl h=>Dt.ret _)
   ·exact Dt.no
  |
   sl sz=>
   simp only[ev]
   refine Dt.bind (V x) λp=> ?_
   split
   ·split
    ·exact Dt.vM (pB _ _ _ _ _ _) λl h=>Dt.and (Dt.ret _)
    ·exact Dt.bind (V _) λq=>Dt.bind (I q) λm=>Dt.and (Dt.vM (pB _ _ _ _ _ _) λl h=>Dt.and (Dt.ret _))
   ·split
    ·refine Dt.and ?_
     split
     ·exact Dt.vM (pB _ _ _ _ _ _) λl h=>Dt.ret _
     ·exact Dt.bind (V _) λq=>Dt.bind (I q) λm=>Dt.and (Dt.vM (pB _ _ _ _ _ _) λl h=>Dt.ret _)
    ·exact Dt.no
   ·exact Dt.no
  |
   ar n sz=>
   simp only[ev]
   refine Dt.bind (V x) λp=> ?_
   split
   ·split
    ·exact Dt.and (Dt.and (Dt.vM (pB _ _ _ _ _ _) λl h=>Dt.ret _))
    ·exact Dt.no
   ·split
    ·exact Dt.and (Dt.vM (pB _ _ _ _ _ _) λl h=>Dt.ret _)
    ·exact Dt.no
   ·exact Dt.no
 |
  fieldA i off x=>
  simp only[ev]
  refine Dt.bind (V x) λp=> ?_
  split
  ·split<;>first|exact Dt.and (Dt.ret _)|exact Dt.no
  all_goals first|exact Dt.ret _|exact Dt.no
 |
  s2a n sz x=>
  simp only[ev]
  refine Dt.bind (V x) λp=> ?_
  split
  ·exact Dt.and (Dt.ret _)
  ·split<;>first|exact Dt.and (Dt.ret _)|exact Dt.no
  all_goals first|exact Dt.ret _|exact Dt.no
 |
  field i off agg w x=>
  simp only[ev]
  refine Dt.bind (V x) λp=> ?_
  split
  ·split<;>first|exact Dt.and (Dt.ret _)|exact Dt.no
  ·exact Dt.no
 |
  indexA k x i=>
  cases k with
  |str=>simp only[ev];exact Dt.no
  |
   sl sz=>
   simp only[ev]
   refine Dt.bind (V x) λp=>Dt.bind (V i) λq=>Dt.bind (I q) λj=> ?_
   split
   ·exact Dt.and (Dt.ret _)
   ·split<;>first|exact Dt.and (Dt.ret _)|exact Dt.no
   ·exact Dt.no
  |
   ar n sz=>
   simp only[ev]
   refine Dt.bind (V x) λp=>Dt.bind (V i) λq=>Dt.bind (I q) λj=>Dt.and ?_
   split
   ·split<;>first|exact Dt.and (Dt.ret _)|exact Dt.no
   all_goals first|exact Dt.ret _|exact Dt.no
 |
  index agg n w x i=>
  simp only[ev]
  refine Dt.bind (V x) λp=>Dt.bind (V i) λq=>Dt.bind (I q) λj=> ?_
  split
  ·split<;>first|exact Dt.and (Dt.ret _)|exact Dt.no
  ·exact Dt.no
 |
  indexS x i=>
  simp only[ev]
  refine Dt.bind (V x) λp=>Dt.bind (V i) λq=>Dt.bind (I q) λj=> ?_
  split
  ·split<;>first|exact Dt.and (Dt.ret _)|exact Dt.no
  ·exact Dt.no
 |
  extract i x=>
  simp only[ev]
  split
  ·split<;>first|exact Dt.ret _|exact Dt.no
  ·exact Dt.no
 |
  len x=>
  simp only[ev]
  refine Dt.bind (V x) λp=> ?_
  split
  ·exact Dt.ret _
  ·split<;>first|exact Dt.and (Dt.ret _)|exact Dt.no
  ·exact Dt.no
 |
  cap x=>
  simp only[ev]
  refine Dt.bind (V x) λp=> ?_
  split
  ·split<;>first|exact Dt.and (Dt.ret _)|exact Dt.no
  ·exact Dt.no
 |
  lenS x=>
  simp only[ev]
  refine Dt.bind (V x) λp=> ?_
  split<;>first|exact Dt.ret _|exact Dt.no
 |lenC n=>simp only[ev];exact Dt.ret _
 |
  mm mx xs=>
  simp only[ev]
  refine Dt.bind (pA g s xs) λps=> ?_
  split
  ·exact Dt.bind (CH _ _ _) λn=>Dt.ret _
  ·exact Dt.no
 |_=>simp only[ev];exact Dt.no
end Go.Ab
namespace Go.Ab
variable [eJ]
variable {P:Program} {nt:Nat} {ds:List Deferred} {s s':St} {Γ:Cx} {a:Act} {w:World} [ji]
def AX.reads:AX->List Nat
 | .t n=>[n]
 | .c _=>[]
def Wz:List AX->List Nat
 |[]=>[]
 |x::r=>x.reads++Wz r
def Y8:Option AX->List Nat
 |none=>[]
 |some x=>x.reads
def axp:List (Nat×AX)->List Nat
 |[]=>[]
 |(_,x)::r=>x.reads++axp r
def AK.reads:AK->List Nat
 | .mv x| .load _ _ x| .nilCheck x| .un _ x| .convI _ x| .convS x| .convB x| .convL x| .fieldA _ _ x| .s2a _ _ x| .field _ _ _ _ x| .extract _ x| .len x| .lenS x| .cap x| .box x=>x.reads
 | .pick c a b=>c.reads++a.reads++b.reads
 | .build _ parts| .buildSlice _ _ _ _ parts=>axp parts
 | .bin _ _ x y| .indexA _ x y| .index _ _ _ x y| .indexS x y| .store _ x y| .append _ _ _ x y| .appendZ _ _ _ x y| .copy _ x y| .makeSlice _ _ _ x y=>x.reads++y.reads
 | .mkFunc _ a b=>Wz a++Wz b
 | .slice _ x lo hi mx=>x.reads++(Y8 lo++(Y8 hi++Y8 mx))
 | .lenC _| .alloc _| .mkMap .. =>[]
 | .mapGet _ _ _ _ m x=>m.reads++x.reads
 | .mapSet _ _ m x y=>m.reads++(x.reads++y.reads)
 | .mm _ xs=>Wz xs
 | .call f args| .callq f args=>f.reads++Wz args
 | .isNil _ x| .fill _ _ x=>x.reads
def dY (s s':St) (l:List Nat):Prop:=∀n∈l,get s'.env n=get s.env n
theorem dY.left {l m:List Nat} (h:dY s s' (l++m)):dY s s' l:=λn hn=>h n (List.mem_append.2 (.inl hn))
theorem dY.right {l m:List Nat} (h:dY s s' (l++m)):dY s s' m:=λn hn=>h n (List.mem_append.2 (.inr hn))
theorem kt {x:AX} (h:dY s s' x.reads):vx s' x=vx s x:=by
 cases x with
 |t n=>simp only[vx];rw[h n (by simp[AX.reads])]
 |c p=>rfl
theorem aH {g:Bool} {x:AX} (h:dY s s' x.reads):vg g s' x=vg g s x:=by
 funext K;unfold vg;rw[kt h]
theorem gA {g:Bool}:∀ {xs:List AX},dY s s' (Wz xs)->sY g s' xs=sY g s xs
 |[],_=>rfl
 |
  x::xs,h=>by
  funext K;simp only[sY];rw[aH (x:=x) h.left,gA (xs:=xs) h.right]
theorem lH {g:Bool}:∀ {xs:List (Nat×AX)},dY s s' (axp xs)->y9 g s' xs=y9 g s xs
 |[],_=>rfl
 |
  (i,x)::xs,h=>by
  funext K;simp only[y9];rw[aH (x:=x) h.left,lH (xs:=xs) h.right]
theorem rR (hb:s'.bx=s.bx) (p:PV):content s' p=content s p:=by
 funext K;cases p<;>simp only[content,hb]
theorem Er (hb:s'.bx=s.bx) (op:BinOp) (e:ET) (p q:PV):pq s' op e p q=pq s op e p q:=by
 funext K;unfold pq;rw[hb]
theorem xI {g:Bool} {lo hi:Option AX} (h1:dY s s' (Y8 lo)) (h2:dY s s' (Y8 hi)) (n c:Nat):jh g s' lo hi n c=jh g s lo hi n c:=by
 funext K
 cases lo<;>cases hi<;>simp only[jh]
 ·rw[aH h2]
 ·rw[aH h1]
 ·rw[aH h2];simp only[aH h1]
theorem xJ {g:Bool} {k:AK} (hb:s'.bx=s.bx) (h:dY s s' k.reads):ev g s' k=ev g s k:=by
 funext K
 cases k with
 |mv x=>simp only[ev];rw[aH h]
 |pick c a b=>simp only[ev];rw[aH h.left.left,kt h.left.right,kt h.right]
 |build z parts=>simp only[ev];rw[lH h]
 |load agg w x=>simp only[ev];rw[aH h,hb]
 |nilCheck x=>simp only[ev];rw[aH h,hb]
 |bin op e x y=>simp only[ev];rw[aH h.left,aH h.right];simp only[Er hb]
 |un op x=>simp only[ev];rw[aH h]
 |convI k x=>simp only[ev];rw[aH h]
 |convS x=>simp only[ev];rw[aH h];simp only[rR hb]
 |mkFunc f a b=>simp only[ev];rw[gA h.left,gA h.right]
 |
  slice k x lo hi mx=>
  have hx:=aH (g:=g) h.left
  have hl:=λn c=>xI (g:=g) h.right.left h.right.right.left n c
  have hm:=h.right.right.right
  cases k<;>cases mx<;>simp only[ev,hx,hl,hb]
  rw[aH (x:=_) hm]
 |fieldA i off x=>simp only[ev];rw[aH h,hb]
 |s2a n sz x=>simp only[ev];rw[aH h,hb]
 |field i off agg w x=>simp only[ev];rw[aH h]
 |
  indexA k x i=>
  have hx:=aH (g:=g) h.left
  have hi:=aH (g:=g) h.right
  cases k<;>simp only[ev,hx,hi,hb]
 |index agg n w x i=>simp only[ev];rw[aH h.left,aH h.right]
 |indexS x i=>simp only[ev];rw[aH h.left,aH h.right]
 |extract i x=>simp only[ev];rw[kt h]
 |len x=>simp only[ev];rw[aH h,hb]
 |lenS x=>simp only[ev];rw[aH h]
 |cap x=>simp only[ev];rw[aH h,hb]
 |lenC n=>rfl
 |mm mx xs=>simp only[ev];rw[gA h]
 |_=>rfl
def AO.quiet (o:AO):Bool:=
 match o.k with
 | .call .. =>false
 | .callq .. =>true
 | .buildSlice own .. => !own
 |k=> !nQ k
def AO.reads (o:AO):List Nat:=(match o.guard with|some (n,_)=>[n]|none=>[])++o.k.reads
theorem Jq {d:Option Nat} {f:AX} {args:List AX} {K:St->Prop} (h:nB P s d f args K):
  ∃v,K (s.put d v)∧∀s',s'.bx=s.bx->dY s s' (AK.callq f args).reads->∀K':St->Prop,K' (s'.put d v)->nB P s' d f args K':=by
 unfold nB at h
 obtain⟨pf,h,h1⟩:=oM _ _ _ _ h
 obtain⟨ps,h,h2⟩:=pA _ _ _ _ h
 split at h
 case h_2=>exact h.elim
 rename_i fid first cap
 obtain⟨v,zO,yT,hK⟩:=h
 refine⟨v,hK,λs' hb ha K' j6=> ?_⟩
 unfold nB
 rw[aH ha.left]
 refine h1 _ ?_
 rw[gA ha.right]
 exact h2 _ ⟨v,zO,yT,j6⟩
theorem Jr {d:Option Nat} {sz n:Nat} {z:PV} {parts:List (Nat×AX)} {K:St->Prop} (h:ex s d (.buildSlice false sz z n parts) K):
  ∃v,K (s.put d v)∧∀s',s'.bx=s.bx->dY s s' (AK.buildSlice false sz z n parts).reads->∀K':St->Prop,K' (s'.put d v)->ex s' d (.buildSlice false sz z n parts) K':=by
 simp only[ex]at h
 obtain⟨ps,h,h1⟩:=uL _ _ _ _ h
 split at h
 case h_2=>exact h.elim
 rename_i l hl
 simp only[fJ,if_false]at h
 refine⟨_,h,λs' hb ha K' j6=> ?_⟩
 simp only[ex]
 rw[lH ha]
 refine h1 _ ?_
 simp only[hl,fJ,if_false]
 exact j6
theorem Es {o:AO} {K:St->Prop} (hq:o.quiet=true) (h:kI P s o K):
  ∃v,K (s.put o.dst v)∧∀s',s'.bx=s.bx->dY s s' o.k.reads->∀K':St->Prop,K' (s'.put o.dst v)->kI P s' o K':=by
 obtain⟨dst,guard,mg,k⟩:=o
 cases k with
 |call f args=>simp[AO.quiet]at hq
 |callq f args=>exact Jq h
 |
  buildSlice own sz z n parts=>
  simp only[AO.quiet,Bool.not_eq_true']at hq
  subst hq
  simp only[kI,nQ,if_true]at h⊢
  exact Jr h
 |
  _=>
  first
  |(simp[AO.quiet,nQ]at hq;done)
  |(simp only[kI,nQ,fJ,if_false]at h⊢
    obtain⟨v,hK,hv⟩:=pX _ _ _ _ h
    refine⟨v,hK,λs' hb ha K' j6=> ?_⟩
    rw[xJ hb ha]
    exact hv _ j6)
theorem Et {o:AO} {K:St->Prop} (hq:o.quiet=true) (h:iu P s o K):
  ∃v,K (s.put o.dst v)∧∀s',s'.bx=s.bx->dY s s' o.reads->∀K':St->Prop,K' (s'.put o.dst v)->iu P s' o K':=by
 unfold iu at h
 cases hg:o.guard with
 |
  none=>
  rw[hg]at h
  obtain⟨v,hK,hv⟩:=Es hq h
  refine⟨v,hK,λs' hb ha K' j6=> ?_⟩
  unfold iu;rw[hg]
  exact hv s' hb ha.right K' j6
 |
  some gw=>
  obtain⟨sl,want⟩:=gw
  rw[hg]at h
  simp only at h
  have da:∀ {s':St},dY s s' o.reads->get s'.env sl=get s.env sl:=λha=>ha sl (by simp[AO.reads,hg])
  split at h
  ·rename_i b hb
   split at h
   ·rename_i hm
    obtain⟨v,hK,hv⟩:=pX _ _ _ _ h
    refine⟨_,hK,λs' lA ha K' j6=> ?_⟩
    unfold iu;rw[hg];simp only[da ha,hb,hm,if_true]
    rw[xJ lA ha.right]
    exact hv _ j6
   ·rename_i hm
    by_cases nb:b=want
    ·obtain⟨v,hK,hv⟩:=Es hq (h.1 nb)
     refine⟨v,hK,λs' lA ha K' j6=> ?_⟩
     unfold iu;rw[hg];simp only[da ha,hb,hm]
     exact⟨λ_=>hv s' lA ha.right K' j6,λhn=>absurd nb hn⟩
    ·refine⟨.un,h.2 nb,λs' lA ha K' j6=> ?_⟩
     unfold iu;rw[hg];simp only[da ha,hb,hm]
     exact⟨λhn=>absurd hn nb,λ_=>j6⟩
  ·rename_i g b hb
   split at h
   ·rename_i hm
    obtain⟨v,hK,hv⟩:=pX _ _ _ _ h
    refine⟨_,hK,λs' lA ha K' j6=> ?_⟩
    unfold iu;rw[hg];simp only[da ha,hb,hm,if_true]
    rw[xJ lA ha.right]
    exact hv _ j6
   ·rename_i hm
    by_cases nb:g=true∧b=want
    ·obtain⟨v,hK,hv⟩:=Es hq (h.1 nb.1 nb.2)
     refine⟨v,hK,λs' lA ha K' j6=> ?_⟩
     unfold iu;rw[hg];simp only[da ha,hb,hm]
     exact⟨λ_ _=>hv s' lA ha.right K' j6,λhn=>absurd nb.2 (hn nb.1)⟩
    ·refine⟨.un,h.2 (λh1 h2=>nb ⟨h1,h2⟩),λs' lA ha K' j6=> ?_⟩
     unfold iu;rw[hg];simp only[da ha,hb,hm]
     exact⟨λh1 h2=>absurd ⟨h1,h2⟩ nb,λ_=>j6⟩
  ·exact h.elim
theorem put_comm {α:Type} {n m:Nat} (h:n≠m) (x y:α):∀l:List (Nat×α),put (put l n x) m y=put (put l m y) n x
 |
  []=>by
  simp only[put]
  by_cases h1:n<m
  ·simp[h,Ne.symm h,show¬m<n by omega,h1,put]
  ·simp[h,Ne.symm h,show m<n by omega,h1,put]
 |
  (k,v)::r=>by
  have ih:=put_comm h x y r
  grind [put]
theorem St.put_comm {d e:Option Nat} (h:∀k,d=some k->e≠some k) (v u:PV):(s.put d v).put e u=(s.put e u).put d v:=by
 cases d with
 |none=>rfl
 |
  some d=>
  cases e with
  |none=>rfl
  |
   some e=>
   have:d≠e:=λhh=>h d rfl (by rw[hh])
   simp only[St.put,Ab.put_comm this]
def AO.apart (x y:AO):Bool:=
 (match x.dst with|some d=> !y.reads.contains d&&y.dst !=some d|none=>true)&&
 (match y.dst with|some d=> !x.reads.contains d|none=>true)
theorem dY.put {d:Option Nat} {v:PV} {l:List Nat} (h:∀k,d=some k->k∉l):dY s (s.put d v) l:=by
 intro n hn
 cases d with
 |none=>rfl
 |
  some d=>
  have:d≠n:=λe=>h d rfl (e▸hn)
  simp[St.put,cP _ _ _ _ this]
theorem dY.Y9 {d:Option Nat} {v:PV} {l:List Nat} (h:∀k,d=some k->k∉l):dY (s.put d v) s l:=λn hn=>((dY.put h) n hn).symm
theorem kd (d:Option Nat) (v:PV):(s.put d v).bx=s.bx:=by cases d<;>rfl
theorem Js {x y:AO} {K:St->Prop} (hx:x.quiet=true) (hy:y.quiet=true) (oB:x.apart y=true) (h:iu P s x λs1=>iu P s1 y K):iu P s y λs2=>iu P s2 x K:=by
 have h1:∀d,x.dst=some d->d∉y.reads:=λd hd=>by simp[AO.apart,hd]at oB;exact oB.1.1
 have h2:∀d,x.dst=some d->y.dst≠some d:=λd hd=>by simp[AO.apart,hd]at oB;exact oB.1.2
 have h3:∀d,y.dst=some d->d∉x.reads:=λd hd=>by simp[AO.apart,hd]at oB;exact oB.2
 obtain⟨v,h,hv⟩:=Et hx h
 obtain⟨u,h,hu⟩:=Et hy h
 refine hu s (kd _ _).symm (dY.Y9 h1) _ ?_
 refine hv _ (kd _ _) (dY.put h3) _ ?_
 rw[St.put_comm (λk hk he=>h2 k he hk)]
 exact h
end Go.Ab
namespace Go.Ab
variable [eJ]
variable {P:Program} {nt:Nat} {ds:List Deferred} {s s':St} {Γ:Cx} {a:Act} {w:World} [ji]
theorem pC {ro:Option Nat} {ops:Array Oper} {o:Oper} {i:Nat} {Q:Exit->Act->World->Prop} {K:Act->World->Prop} (hi:ops[i]? =some o) (h1:Region.wanted o (yielded ops a.tmps)=true->o.wpIn (FW ro) 0 P a w K Q) (h2:Region.wanted o (yielded ops a.tmps)=false->K (a.put o.dst undef) w):wpOpIn (FW ro) 0 P ops Q i K a w:=by
 unfold wpOpIn
 rw[hi]
 simp only
 cases h:Region.wanted o (yielded ops a.tmps)with
 |true=>simp only[if_true];exact h1 h
 |false=>simp only[fJ,if_false];exact⟨λ_ _=>trivial,h2 h⟩
theorem tx {b:Builtin} {xs:List Operand} {ts:List TypeId} {f:AX} {l:List AX} (h:dP P b xs ts=some (.call f l)):False:=by
 unfold dP at h
 split at h
 all_goals (repeat' (split at h))
 all_goals first|(simp at h;done)|contradiction
theorem sj {b:Builtin} {xs:List Operand} {ts:List TypeId} {f:AX} {l:List AX} (h:dP P b xs ts=some (.callq f l)):False:=by
 unfold dP at h
 split at h
 all_goals (repeat' (split at h))
 all_goals first|(simp at h;done)|contradiction
theorem Bg {own:Bool} {op:Op} {f:AX} {l:List AX} (h:kc P own op=some (.callq f l)):False:=by
 unfold kc at h
 split at h
 all_goals first|(exact sj h)|skip
 all_goals (repeat' (split at h))
 all_goals first|(simp at h;done)|contradiction
theorem aO.slz {z z':Nat} {v:Value} (h:aO Γ (.sl z [] true) v):aO Γ (.sl z' [] true) v:=by
 simp only[aO]at h⊢
 cases h with
 |
  sl _ _ _ ad bC h1 h2 h3 h4 h5 h6=>
  have:=aG.sl (Γ:=Γ) z' [] true ad bC .nil (by simp) h3 h4 (λh=>absurd rfl h) .nil
  exact this
theorem Jt {o:Oper} {k:AK} {own draw:Bool} {ty:TypeId} {K:PV->Prop} (hk:kc P own o.op=some k) (hs:gK nt ds s Γ a) (hw:w.heap=Γ.heap) (he:ev true s (uK P draw ty k) K):
  ∃p v,K p∧(execOp a.eval o).run P w= .ok (.value v) w∧aO Γ p v:=by
 unfold uK at he
 split at he
 ·split at he<;>simp[ev]at he
 ·split at he
  ·rename_i e _
   obtain⟨p,v,rfl,iO,hr⟩:=xr (K:=λp=>p= .sl 0 [] true) hk hs hw rfl (by simp[ev,vg,vx])
   simp only[ev,vg,vx]at he
   exact⟨_,v,he,iO,hr.slz⟩
  ·exact xr hk hs hw rfl he
 ·exact xr hk hs hw rfl he
theorem Ju {draw:Bool} {ty:TypeId} {k:AK}:nQ (uK P draw ty k)=nQ k:=by
 unfold uK
 split
 ·split<;>rfl
 ·split<;>rfl
 ·rfl
theorem SE {draw:Bool} {ty:TypeId} {k:AK} (h:nQ k=true):uK P draw ty k=k:=by
 unfold uK
 split
 ·simp[nQ]at h
 ·simp[nQ]at h
 ·rfl
theorem uM {ro:Option Nat} {o:Oper} {ao:AO} {ops:Array Oper} {own sp:List Nat} {draw:Bool} {K:St->Prop} {Kr:Act->World->Prop} {Q:Exit->Act->World->Prop} (ht:ou P nt ops own sp draw o=some ao) (hs:gK nt ds s Γ a) (hw:w.heap=Γ.heap)
  (hY:xF P Γ) (h:kI P s ao K) (hk:CE P nt ds Γ w K Kr):o.wpIn (FW ro) 0 P a w Kr Q:=by
 unfold ou at ht
 generalize (draw&& !SC own o.dst)=dr at ht
 split at ht
 case h_2=>simp at ht
 rename_i k g lY hg
 split at ht
 case isFalse=>simp at ht
 rename_i hd
 simp only[sJ]at ht
 by_cases hc:∃f args,k= .call f args
 ·obtain⟨f,args,rfl⟩:=hc
  have h':lh P s o.dst f args K:=by
   rw[←ht]at h
   cases dr with
   |true=>simp only[uK,if_true,kI]at h;exact xH h
   |false=>simp only[uK,fJ,if_false,kI]at h;exact h
  have DQ:∀j,o.dst=some j->j<nt:=by
   intro j hj;rw[hj]at hd;simpa[vJ]using hd
  --the operation is a call
  obtain⟨f0,tA,acZ,ho,hf0,ha0⟩:∃f0 tA acZ,o.op= .call {callee:= .value f0,args:=tA,argTypes:=acZ}∧iW f0=some f∧tf tA.toList=some args:=by
   cases mH:o.op with
   |
    call c=>
    obtain⟨callee,tA,tys⟩:=c
    rw[mH]at lY
    cases callee with
    |
     value f0=>
     simp only[kc]at lY
     split at lY<;>simp only[sJ,reduceCtorEq,AK.call.injEq]at lY
     rename_i g0 l0 e1 e2
     exact⟨f0,tA,tys,rfl,by rw[e1,lY.1],by rw[e2,lY.2]⟩
    |invoke r m=>simp[kc]at lY
    |
     builtin b=>
     exfalso
     simp only[kc]at lY
     exact tx lY
   |
    binOp op t x y yt=>
    exfalso
    rw[mH]at lY;simp only[kc]at lY
    repeat (split at lY<;>(try contradiction))
    all_goals first|(simp at lY;done)|(split at lY<;>first|(simp at lY;done)|(split at lY<;>first|(simp at lY;done)|(split at lY<;>first|(simp at lY;done)|(split at lY<;>simp at lY))))
   |
    _=>
    exfalso
    rw[mH]at lY
    first
    |(simp only[kc,reduceCtorEq]at lY;done)
    |(simp only[kc]at lY
      repeat (split at lY<;>(try contradiction))
      all_goals first|(simp at lY;done)|(split at lY<;>first|(simp at lY;done)|(split at lY<;>first|(simp at lY;done)|(split at lY<;>simp at lY))))
  exact CG ho hf0 ha0 hs hw DQ hY h' hk
 ·by_cases hx:nQ k=true
  ·have e:kI P s ao K=ex s o.dst k K:=by
    rw[←ht]
    unfold kI
    rw[SE hx]
    split
    ·rename_i heq;exact absurd ⟨_,_,heq⟩ hc
    ·rename_i heq;simp only at heq;rw[heq]at hx;simp[nQ]at hx
    ·rw[if_pos hx]
   rw[e]at h
   exact Oper.vL lY (Jo lY hs hw hd h) hk
  ·have e:kI P s ao K->ev true s (uK P dr o.type k) λp=>K (s.put o.dst p):=by
    rw[←ht]
    unfold kI
    intro h
    simp only at h
    split at h
    ·rename_i heq
     exfalso
     unfold uK at heq
     split at heq
     ·exact absurd ⟨_,_,rfl⟩ hc
     ·split at heq<;>simp at heq
     ·exact absurd ⟨_,_,heq⟩ hc
    ·rename_i heq
     exfalso
     unfold uK at heq
     split at heq
     ·exact absurd ⟨_,_,rfl⟩ hc
     ·split at heq<;>simp at heq
     ·rw[heq]at lY
      exact Bg lY
    ·rw[if_neg (by rw[Ju];exact hx)]at h
     exact h
   have he:=e h
   obtain⟨p,v,hK,iO,hr⟩:=Jt lY hs hw he
   refine Oper.vL lY (py hs (λj hj=> ?_) (Le.refl Γ) hs.mem rfl iO hw (WF.refl w) hr hK) hk
   rw[hj]at hd
   unfold vJ at hd
   split at hd
   ·rename_i heq;simp[nQ]at hx
   ·rename_i heq _;simp at heq;subst heq;simpa using hd
   ·rename_i heq;simp at heq
theorem zm:aO Γ .un undef:=by simp[aO]
theorem Bh {ops:Array Oper} {j sl:Nat} {want Si:Bool} (h:tv ops (some (j,want))=some (some (sl,Si))):(ops[j]?).bind (·.dst)=some sl∧Si=want:=by
 unfold tv at h
 simp only at h
 split at h<;>simp at h
 rename_i d hd
 obtain⟨rfl,rfl⟩:=h
 exact⟨hd,rfl⟩
theorem oN {ro:Option Nat} {ops:Array Oper} {i:Nat} {o:Oper} {ao:AO} {own sp:List Nat} {draw:Bool} {K:St->Prop} {Kr:Act->World->Prop} {Q:Exit->Act->World->Prop} (hi:ops[i]? =some o) (ht:ou P nt ops own sp draw o=some ao) (hs:gK nt ds s Γ a) (hw:w.heap=Γ.heap)
  (hY:xF P Γ) (h:iu P s ao K) (hk:CE P nt ds Γ w K Kr):wpOpIn (FW ro) 0 P ops Q i Kr a w:=by
 have YJ:=ht
 unfold ou at ht
 generalize (draw&& !SC own o.dst)=dr at ht
 split at ht
 case h_2=>simp at ht
 rename_i k g lY hg
 split at ht
 case isFalse=>simp at ht
 rename_i hd
 simp only[sJ]at ht
 have hkd:ao.k=uK P dr o.type k:=by rw[←ht]
 have IU:ao.dst=o.dst:=by rw[←ht]
 have YE:ao.guard=g:=by rw[←ht]
 have hmg:ao.mg=true->qW k=true:=by
  rw[←ht];intro hm
  simp only[aJ]at hm
  exact hm.1
 have FJ:∀ {p:PV} {v:Value},(∀x y z,k≠ .store x y z)->aO Γ p v->K (s.put o.dst p)->Kr (a.put o.dst v) w:=by
  intro p v bS hr hK
  refine hk _ _ _ _ (hs.put (λj hj=> ?_) hr) hw (Le.refl Γ) (WF.refl w) hK
  rw[hj]at hd
  unfold vJ at hd
  split at hd
  ·exact absurd rfl (bS _ _ _)
  ·rename_i heq _;simp at heq;subst heq;simpa using hd
  ·rename_i heq;simp at heq
 have Mb:K (s.put o.dst .un)->Kr (a.put o.dst undef) w:=by
  intro hK
  refine hk _ _ _ _ (hs.put (λj hj=> ?_) zm) hw (Le.refl Γ) (WF.refl w) hK
  rw[hj]at hd
  unfold vJ at hd
  split at hd
  ·simp at hd
  ·rename_i heq _;simp at heq;subst heq;simpa using hd
  ·rename_i heq;simp at heq
 unfold iu at h
 cases hog:o.guard with
 |
  none=>
  rw[hog]at hg;simp only[tv,sJ]at hg
  rw[YE,←hg]at h
  refine pC hi (λ_=>uM YJ hs hw hY h hk) (λhn=> ?_)
  simp[Region.wanted,hog]at hn
 |
  some jw=>
  obtain⟨j,akk⟩:=jw
  rw[hog]at hg
  obtain⟨sl,want,rfl⟩:∃sl want,g=some (sl,want):=by
   unfold tv at hg;simp only at hg;split at hg<;>simp at hg
   exact⟨_,_,hg.symm⟩
  obtain⟨VI,rfl⟩:=Bh hg
  have Hd:Region.wanted o (yielded ops a.tmps)=(yielded ops a.tmps j==some want):=by unfold Region.wanted;rw[hog]
  have hy:∀v,a.tmps.getD sl undef=v->yielded ops a.tmps j=(match v with| .bool b=>some b|_=>none):=by
   intro v hv
   unfold yielded
   rw[VI]
   simp only[Option.bind_some]
   rw[Array.getD_eq_getD_getElem?]at hv
   cases ho:a.tmps[sl]?with
   |none=>rw[ho]at hv;subst hv;rfl
   |some u=>rw[ho]at hv;subst hv;cases u<;>rfl
  rw[YE]at h
  simp only at h
  have Sg:∀ {gg:Bool},ao.mg=true->ev gg s ao.k (λp=>K (s.put ao.dst (.gd gg p)))->(Region.wanted o (yielded ops a.tmps)=gg)->wpOpIn (FW ro) 0 P ops Q i Kr a w:=by
   intro gg hm he YK
   have PC:qW k=true:=hmg hm
   have bS:∀x y z,k≠ .store x y z:=by rintro x y z rfl;simp[qW]at PC
   rw[hkd,IU]at he
   refine pC hi (λh1=> ?_) (λh1=> ?_)
   ·rw[YK]at h1;subst h1
    obtain⟨p,v,hK,iO,hr⟩:=Jt lY hs hw he
    refine⟨λ_ _=>trivial,?_⟩
    rw[Oper.semAt_eq _ _ _ (vK lY),iO]
    exact FJ bS (p:= .gd true p) (by rw[aO];exact⟨λ_=>hr,by simp⟩) hK
   ·rw[YK]at h1;subst h1
    obtain⟨p,hK,_⟩:=pX _ _ _ _ he
    exact FJ bS (p:= .gd false p) (by rw[aO];exact⟨by simp,λ_=>rfl⟩) hK
  split at h
  ·rename_i b hb
   have hbv:a.tmps.getD sl undef= .bool b:=by
    cases VJ:get s.env sl with
    |none=>rw[VJ]at hb;simp at hb
    |
     some q=>
     rw[VJ]at hb;simp only[Option.getD_some]at hb;subst hb
     have:=hs.env sl _ VJ
     simp only[aO]at this
     generalize a.tmps.getD sl undef=v at this
     cases this;rfl
   have hyb:yielded ops a.tmps j=some b:=by rw[hy _ hbv]
   split at h
   ·rename_i hm
    exact Sg hm h (by rw[Hd,hyb];rfl)
   ·refine pC hi (λh1=> ?_) (λh1=> ?_)
    ·rw[Hd,hyb]at h1
     exact uM YJ hs hw hY (h.1 (by simpa using h1)) hk
    ·rw[Hd,hyb]at h1
     exact Mb (by rw[←IU];exact h.2 (by simpa using h1))
  ·rename_i gg b hb
   have hbv:(gg=true->a.tmps.getD sl undef= .bool b)∧(gg=false->a.tmps.getD sl undef=undef):=by
    cases VJ:get s.env sl with
    |none=>rw[VJ]at hb;simp at hb
    |
     some q=>
     rw[VJ]at hb;simp only[Option.getD_some]at hb;subst hb
     have:=hs.env sl _ VJ
     rw[aO]at this
     refine⟨λhg=> ?_,this.2⟩
     have:=this.1 hg
     simp only[aO]at this
     generalize a.tmps.getD sl undef=v at this
     cases this;rfl
   have YK:Region.wanted o (yielded ops a.tmps)=(gg&&b==want):=by
    rw[Hd]
    cases gg with
    |true=>rw[hy _ (hbv.1 rfl)];rfl
    |false=>rw[hy _ (hbv.2 rfl)];simp[undef]
   split at h
   ·rename_i hm
    exact Sg hm h YK
   ·refine pC hi (λh1=> ?_) (λh1=> ?_)
    ·rw[YK]at h1
     simp only[aJ,beq_iff_eq]at h1
     exact uM YJ hs hw hY (h.1 h1.1 h1.2) hk
    ·rw[YK]at h1
     have h2:=h.2 (λhg nb=>by rw[hg,nb]at h1;simp at h1)
     exact Mb (by rw[←IU];exact h2)
  ·exact h.elim
end Go.Ab
namespace Go.Ab
variable [eJ]
variable {P:Program} {nt:Nat} {ds:List Deferred} {s s':St} [ji]
def AK.free:AK->Bool
 | .mv _| .pick .. | .build .. | .un .. | .convI .. | .mkFunc .. | .field .. | .index .. | .indexS .. | .extract .. | .lenS _| .lenC _| .mm .. =>true
 |_=>false
def AO.free (o:AO):Bool:=o.k.free
def AO.n5 (o:AO):Bool:=o.dst.isNone&&(match o.k with| .store .. =>true|_=>false)
theorem Bi {g:Bool} {k:AK} {K:PV->Prop} (hf:k.free=true) (h:dY s s' k.reads) (he:ev g s k K):ev g s' k K:=by
 cases k with
 |mv x=>simp only[ev]at he⊢;rw[aH h];exact he
 |pick c a b=>simp only[ev]at he⊢;rw[aH h.left.left,kt h.left.right,kt h.right];exact he
 |build z parts=>simp only[ev]at he⊢;rw[lH h];exact he
 |un op x=>simp only[ev]at he⊢;rw[aH h];exact he
 |convI k x=>simp only[ev]at he⊢;rw[aH h];exact he
 |mkFunc f a b=>simp only[ev]at he⊢;rw[gA h.left];simp only[gA h.right];exact he
 |field i off agg w x=>simp only[ev]at he⊢;rw[aH h];exact he
 |index agg n w x i=>simp only[ev]at he⊢;rw[aH h.left,aH h.right];exact he
 |indexS x i=>simp only[ev]at he⊢;rw[aH h.left,aH h.right];exact he
 |extract i x=>simp only[ev]at he⊢;rw[kt h];exact he
 |lenS x=>simp only[ev]at he⊢;rw[aH h];exact he
 |lenC n=>simp only[ev]at he⊢;exact he
 |mm mx xs=>simp only[ev]at he⊢;rw[gA h];exact he
 |_=>simp[AK.free]at hf
theorem Eu {o:AO} (h:o.free=true):o.quiet=true:=by
 obtain⟨d,g,m,k⟩:=o
 cases k<;>simp[AO.free,AK.free]at h<;>rfl
theorem xK {o:AO} {K:St->Prop} (hf:o.free=true) (h:kI P s o K):
  ∃v,K (s.put o.dst v)∧∀s',dY s s' o.k.reads->∀K':St->Prop,K' (s'.put o.dst v)->kI P s' o K':=by
 obtain⟨dst,guard,mg,k⟩:=o
 have e:∀(s:St) K,kI P s ⟨dst,guard,mg,k⟩ K=ev true s k λp=>K (s.put dst p):=by
  intro s K
  cases k<;>first|rfl|(simp[AO.free,AK.free]at hf;done)
 rw[e]at h
 obtain⟨v,hK,hv⟩:=pX _ _ _ _ h
 refine⟨v,hK,λs' ha K' j6=> ?_⟩
 rw[e]
 exact Bi hf ha (hv _ j6)
def Qf (P:Program) (r:St) (o:AO) (v:PV):Prop:=∀s':St,dY r s' o.reads->∀K':St->Prop,K' (s'.put o.dst v)->iu P s' o K'
theorem CI {o:AO} {K:St->Prop} (hq:o.free=true) (h:iu P s o K):∃v,K (s.put o.dst v)∧Qf P s o v:=by
 unfold iu at h
 cases hg:o.guard with
 |
  none=>
  rw[hg]at h
  obtain⟨v,hK,hv⟩:=xK hq h
  refine⟨v,hK,λs' ha K' j6=> ?_⟩
  unfold iu;rw[hg]
  exact hv s' ha.right K' j6
 |
  some gw=>
  obtain⟨sl,want⟩:=gw
  rw[hg]at h
  simp only at h
  have da:∀ {s':St},dY s s' o.reads->get s'.env sl=get s.env sl:=λha=>ha sl (by simp[AO.reads,hg])
  split at h
  ·rename_i b hb
   split at h
   ·rename_i hm
    obtain⟨v,hK,hv⟩:=pX _ _ _ _ h
    refine⟨_,hK,λs' ha K' j6=> ?_⟩
    unfold iu;rw[hg];simp only[da ha,hb,hm,if_true]
    exact Bi hq ha.right (hv _ j6)
   ·rename_i hm
    by_cases nb:b=want
    ·obtain⟨v,hK,hv⟩:=xK hq (h.1 nb)
     refine⟨v,hK,λs' ha K' j6=> ?_⟩
     unfold iu;rw[hg];simp only[da ha,hb,hm]
     exact⟨λ_=>hv s' ha.right K' j6,λhn=>absurd nb hn⟩
    ·refine⟨.un,h.2 nb,λs' ha K' j6=> ?_⟩
     unfold iu;rw[hg];simp only[da ha,hb,hm]
     exact⟨λhn=>absurd hn nb,λ_=>j6⟩
  ·rename_i g b hb
   split at h
   ·rename_i hm
    obtain⟨v,hK,hv⟩:=pX _ _ _ _ h
    refine⟨_,hK,λs' ha K' j6=> ?_⟩
    unfold iu;rw[hg];simp only[da ha,hb,hm,if_true]
    exact Bi hq ha.right (hv _ j6)
   ·rename_i hm
    by_cases nb:g=true∧b=want
    ·obtain⟨v,hK,hv⟩:=xK hq (h.1 nb.1 nb.2)
     refine⟨v,hK,λs' ha K' j6=> ?_⟩
     unfold iu;rw[hg];simp only[da ha,hb,hm]
     exact⟨λ_ _=>hv s' ha.right K' j6,λhn=>absurd nb.2 (hn nb.1)⟩
    ·refine⟨.un,h.2 (λh1 h2=>nb ⟨h1,h2⟩),λs' ha K' j6=> ?_⟩
     unfold iu;rw[hg];simp only[da ha,hb,hm]
     exact⟨λh1 h2=>absurd ⟨h1,h2⟩ nb,λ_=>j6⟩
  ·exact h.elim
theorem Bj {o:AO} {K:St->Prop} (hq:o.n5=true) (h:kI P s o K):
  ∃b,K {s with bx:=b}∧∀s',s'.bx=s.bx->dY s s' o.k.reads->∀K':St->Prop,K' {s' with bx:=b}->kI P s' o K':=by
 obtain⟨dst,guard,mg,k⟩:=o
 simp only[AO.n5,aJ]at hq
 cases k<;>simp at hq
 rename_i n x y
 simp only[kI,nQ,if_true,ex]at h⊢
 obtain⟨p,h,h1⟩:=oM _ _ _ _ h
 obtain⟨v,h,h2⟩:=oM _ _ _ _ h
 cases p<;>simp only at h
 case pt k pth aQ=>
  split at h
  case h_2=>exact h.elim
  rename_i blk hb
  split at h
  case h_2=>exact h.elim
  rename_i cI yX
  obtain⟨hc,hK⟩:=h
  refine⟨_,hK,λs' lA ha K' j6=> ?_⟩
  rw[aH ha.left]
  refine h1 _ ?_
  rw[aH ha.right]
  refine h2 _ ?_
  simp only[lA,hb,yX]
  exact⟨hc,j6⟩
theorem uN {o:AO} {K:St->Prop} (hq:o.n5=true) (h:iu P s o K):
  ∃b,K {s with bx:=b}∧∀s',s'.bx=s.bx->dY s s' o.reads->∀K':St->Prop,K' {s' with bx:=b}->iu P s' o K':=by
 have hd:o.dst=none:=by simp[AO.n5]at hq;exact hq.1
 have FJ:∀(s:St) p,s.put o.dst p=s:=by intro s p;rw[hd];rfl
 have Mc:∀(g:Bool) (s:St) K,ev g s o.k K->False:=by
  intro g s K h
  obtain⟨dst,guard,mg,k⟩:=o
  cases k<;>simp[AO.n5]at hq
  simp[ev]at h
 unfold iu at h
 cases hg:o.guard with
 |
  none=>
  rw[hg]at h
  obtain⟨b,hK,hv⟩:=Bj hq h
  refine⟨b,hK,λs' hb ha K' j6=> ?_⟩
  unfold iu;rw[hg]
  exact hv s' hb ha.right K' j6
 |
  some gw=>
  obtain⟨sl,want⟩:=gw
  rw[hg]at h
  simp only at h
  have da:∀ {s':St},dY s s' o.reads->get s'.env sl=get s.env sl:=λha=>ha sl (by simp[AO.reads,hg])
  split at h
  ·rename_i b hb
   split at h
   ·exact(Mc _ _ _ h).elim
   ·rename_i hm
    by_cases nb:b=want
    ·obtain⟨v,hK,hv⟩:=Bj hq (h.1 nb)
     refine⟨v,hK,λs' lA ha K' j6=> ?_⟩
     unfold iu;rw[hg];simp only[da ha,hb,hm]
     exact⟨λ_=>hv s' lA ha.right K' j6,λhn=>absurd nb hn⟩
    ·refine⟨s.bx,by have:=h.2 nb;rw[FJ]at this;exact this,λs' lA ha K' j6=> ?_⟩
     unfold iu;rw[hg];simp only[da ha,hb,hm]
     exact⟨λhn=>absurd hn nb,λ_=>by rw[FJ];rw[←lA]at j6;exact j6⟩
  ·rename_i g b hb
   split at h
   ·exact(Mc _ _ _ h).elim
   ·rename_i hm
    by_cases nb:g=true∧b=want
    ·obtain⟨v,hK,hv⟩:=Bj hq (h.1 nb.1 nb.2)
     refine⟨v,hK,λs' lA ha K' j6=> ?_⟩
     unfold iu;rw[hg];simp only[da ha,hb,hm]
     exact⟨λ_ _=>hv s' lA ha.right K' j6,λhn=>absurd nb.2 (hn nb.1)⟩
    ·refine⟨s.bx,by have:=h.2 (λh1 h2=>nb ⟨h1,h2⟩);rw[FJ]at this;exact this,λs' lA ha K' j6=> ?_⟩
     unfold iu;rw[hg];simp only[da ha,hb,hm]
     exact⟨λh1 h2=>absurd ⟨h1,h2⟩ nb,λ_=>by rw[FJ];rw[←lA]at j6;exact j6⟩
  ·exact h.elim
theorem CJ {d:Option Nat} {v:PV} {b:List (Nat×bX)}:({s with bx:=b}:St).put d v= {s.put d v with bx:=b}:=by cases d<;>rfl
theorem dY.bx {l:List Nat} {b:List (Nat×bX)}:dY s {s with bx:=b} l:=λ_ _=>rfl
theorem dY.uq {l:List Nat} {b:List (Nat×bX)}:dY {s with bx:=b} s l:=λ_ _=>rfl
def AO.comm (y x:AO):Bool:=y.apart x&&(y.quiet&&x.quiet||y.free&&x.n5||y.n5&&x.free)
theorem Jv {y x:AO} {K:St->Prop} (h:y.comm x=true) (hh:iu P s y λs1=>iu P s1 x K):iu P s x λs2=>iu P s2 y K:=by
 simp only[AO.comm,aJ,Bool.or_eq_true]at h
 obtain⟨oB,h⟩:=h
 have h1:∀d,y.dst=some d->d∉x.reads:=λd hd=>by simp[AO.apart,hd]at oB;exact oB.1.1
 have h3:∀d,x.dst=some d->d∉y.reads:=λd hd=>by simp[AO.apart,hd]at oB;exact oB.2
 rcases h with(h|h)|h
 ·exact Js h.1 h.2 oB hh
 ·obtain⟨v,hh,hv⟩:=CI h.1 hh
  obtain⟨b,hh,hb⟩:=uN h.2 hh
  refine hb s (kd _ _).symm (dY.Y9 h1) _ ?_
  refine hv _ dY.bx _ ?_
  rw[CJ];exact hh
 ·obtain⟨b,hh,hb⟩:=uN h.1 hh
  obtain⟨v,hh,hv⟩:=CI h.2 hh
  refine hv s dY.uq _ ?_
  refine hb _ (kd _ _) (dY.put h3) _ ?_
  rw[CJ]at hh;exact hh
theorem HB {y x:AO} {K K':St->Prop} (h:y.comm x=true) (hk:∀s,K s->K' s) (hh:iu P s y K):iu P s y K':=by
 simp only[AO.comm,aJ,Bool.or_eq_true]at h
 obtain⟨_,h⟩:=h
 have hq:y.quiet=true∨y.n5=true:=by
  rcases h with(h|h)|h
  ·exact .inl h.1
  ·exact .inl (Eu h.1)
  ·exact .inr h.1
 rcases hq with hq|hq
 ·obtain⟨v,h1,h2⟩:=Et hq hh
  exact h2 s rfl (λ_ _=>rfl) _ (hk _ h1)
 ·obtain⟨b,h1,h2⟩:=uN hq hh
  exact h2 s rfl (λ_ _=>rfl) _ (hk _ h1)
end Go.Ab
namespace Go.Ab
variable [eJ]
variable {P:Program} {nt:Nat} {ds:List Deferred} {s s':St} {Γ:Cx} {a:Act} {w:World} {Q:Exit->Act->World->Prop} [ji]
def HC (P:Program) (s:St):List AO->(St->Prop)->Prop
 |[],K=>K s
 |o::r,K=>iu P s o λs'=>HC P s' r K
def II (P:Program) (aos:List AO) (s:St):List Nat->(St->Prop)->Prop
 |[],K=>K s
 |
  i::r,K=>match aos[i]?with
  |some o=>iu P s o λs'=>II P aos s' r K
  |none=>False
theorem sk {aos:List AO} {K:St->Prop}:∀(n i:Nat) (s:St),i+n=aos.length->(HC P s (aos.drop i) K↔II P aos s (List.range' i n) K)
 |0,i,s,h=>by simp only[List.range'_zero,II];rw[List.drop_of_length_le (by omega)];rfl
 |
  n+1,i,s,h=>by
  have dG:i<aos.length:=by omega
  rw[List.range'_succ,List.drop_eq_getElem_cons dG]
  simp only[HC,II,gJ dG]
  have:(λs'=>HC P s' (aos.drop (i+1)) K)=λs'=>II P aos s' (List.range' (i+1) n) K:=funext λs'=>propext (sk n (i+1) s' (by omega))
  rw[this]
noncomputable def lU (P:Program) (nt:Nat) (ops:Array Oper) (own sp:List Nat) (draw:Bool):List Oper->Option (List AO)
 |[]=>some []
 |o::r=>match ou P nt ops own sp draw o,lU P nt ops own sp draw r with|some x,some l=>some (x::l)|_,_=>none
theorem nD {ops:Array Oper} {own sp:List Nat} {draw:Bool}:∀ {os:List Oper} {aos:List AO},lU P nt ops own sp draw os=some aos->aos.length=os.length∧∀(i:Nat) o,os[i]? =some o->∃ao,aos[i]? =some ao∧ou P nt ops own sp draw o=some ao
 |[],aos,h=>by simp[lU]at h;subst h;simp
 |
  o::r,aos,h=>by
  simp only[lU]at h
  split at h
  ·rename_i x l hx hl
   simp only[sJ]at h;subst h
   obtain⟨h1,h2⟩:=nD hl
   refine⟨by simp[h1],λi o' hi=> ?_⟩
   cases i with
   |zero=>simp at hi;subst hi;exact⟨x,rfl,hx⟩
   |succ i=>simp at hi;simpa using h2 i o' hi
  ·simp at h
theorem CE.trans {Γ1:Cx} {w1:World} {K:St->Prop} {Kr:Act->World->Prop} (h1:Le Γ Γ1) (h2:WF w w1) (h:CE P nt ds Γ w K Kr):CE P nt ds Γ1 w1 K Kr:=
 λs' Γ' a' w' a1 a2 a3 a4 a5=>h s' Γ' a' w' a1 a2 (h1.trans a3) (h2.trans a4) a5
theorem Ad {ro:Option Nat} {ops:Array Oper} {aos:List AO} {own sp:List Nat} {draw:Bool} (mH:∀(i:Nat) o,ops[i]? =some o->∃ao,aos[i]? =some ao∧ou P nt ops own sp draw o=some ao) (hlen:aos.length=ops.size) {K:St->Prop}:
  ∀(l:List Nat) {s:St} {Γ:Cx} {a:Act} {w:World},gK nt ds s Γ a->w.heap=Γ.heap->xF P Γ->II P aos s l K->CE P nt ds Γ w K (Q .normal)->wpOpsIn (FW ro) 0 P ops Q l a w
 |[],s,Γ,a,w,hs,hw,_,h,hk=>hk _ _ _ _ hs hw (Le.refl Γ) (WF.refl w) h
 |
  i::r,s,Γ,a,w,hs,hw,hY,h,hk=>by
  rw[wpOpsIn_cons]
  simp only[II]at h
  split at h
  case h_2=>exact h.elim
  rename_i ao Ch
  have hi:i<ops.size:=by rw[←hlen];exact(List.getElem?_eq_some_iff.1 Ch).1
  obtain⟨ao',h1,h2⟩:=mH i ops[i] (Array.getElem?_eq_getElem hi)
  rw[Ch]at h1;cases h1
  refine oN (Array.getElem?_eq_getElem hi) h2 hs hw hY h ?_
  intro s' Γ' a' w' b1 b2 b3 b4 b5
  exact Ad mH hlen r b1 b2 (hY.le b3) b5 (hk.trans b3 b4)
theorem Bk {ro:Option Nat} {ops:Array Oper} {aos:List AO} {own sp:List Nat} {id:Nat} (ht:lU P nt ops own sp false ops.toList=some aos) {K:St->Prop} (hs:gK nt ds s Γ a) (hw:w.heap=Γ.heap) (hY:xF P Γ) (h:HC P s aos K) (hk:CE P nt ds Γ w K (Q .normal)):
  (Code.region id ops false).wpIn (FW ro) 0 P Q a w:=by
 obtain⟨h1,h2⟩:=nD ht
 refine wpIn_region (Ad (λi o hi=>h2 i o (by simpa using hi)) (by simpa using h1) _ hs hw hY ?_ hk)
 rw[List.range_eq_range']
 exact(sk (P:=P) ops.size 0 s (by simpa using h1.symm)).1 (by simpa using h)
inductive Nf (ops:Array Oper):Nat->Nat->Prop
 |dir {i:Nat} {o:Oper} {e:Edge}:ops[i]? =some o->e∈o.after->Region.binds .any e=true->Nf ops i e.on
 |tr {i j:Nat} {o:Oper} {e:Edge}:ops[i]? =some o->e∈o.after->Region.binds .any e=true->Nf ops e.on j->Nf ops i j
def Bl (ms:List Nat):List Edge->Nat->Nat
 |[],m=>m
 |e::r,m=>Bl ms r (if Region.binds .any e=true then m|||2^e.on|||ms.getD e.on 0 else m)
def jc:List Oper->List Nat->List Nat
 |[],ms=>ms
 |o::r,ms=>jc r (ms++[Bl ms o.after.toList 0])
theorem vN {ms:List Nat} {B:Nat->Prop}:∀(l:List Edge) (m:Nat),(∀e∈l,Region.binds .any e=true->B e.on∧∀j,(ms.getD e.on 0).testBit j=true->B j)->(∀j,m.testBit j=true->B j)->
  ∀j,(Bl ms l m).testBit j=true->B j
 |[],m,_,hm,j,h=>hm j h
 |
  e::r,m,hl,hm,j,h=>by
  simp only[Bl]at h
  refine vN r _ (λe he=>hl e (by simp[he])) ?_ j h
  intro j hj
  split at hj
  ·rename_i hb
   obtain⟨h1,h2⟩:=hl e (by simp) hb
   rw[Nat.testBit_or,Nat.testBit_or,Bool.or_eq_true,Bool.or_eq_true,Nat.testBit_two_pow]at hj
   rcases hj with(hj|hj)|hj
   ·exact hm j hj
   ·simp only[decide_eq_true_eq]at hj;subst hj;exact h1
   ·exact h2 j hj
  ·exact hm j hj
theorem xL {ops:Array Oper}:∀(l done:List Oper) (ms:List Nat),ops.toList=done++l->ms.length=done.length->(∀(i:Nat) m,ms[i]? =some m->∀j,m.testBit j=true->Nf ops i j)->
  ∀(i:Nat) m,(jc l ms)[i]? =some m->∀j,m.testBit j=true->Nf ops i j
 |[],_,ms,_,_,h=>h
 |
  o::r,done,ms,hd,hl,h=>by
  refine xL r (done++[o]) _ (by simp[hd]) (by simp[hl]) ?_
  intro i m hi j hj
  rw[List.getElem?_append]at hi
  split at hi
  ·exact h i m hi j hj
  ·rename_i mC
   have hi0:i=ms.length:=by
    have:=(List.getElem?_eq_some_iff.1 hi).1
    simp at this;omega
   subst hi0
   simp at hi
   subst hi
   have ho:ops[ms.length]? =some o:=by
    rw[←Array.getElem?_toList,hd,hl];simp
   refine vN (B:=λj=>Nf ops ms.length j) _ 0 (λe he hb=>⟨.dir ho (by simpa using he) hb,λj hj=> .tr ho (by simpa using he) hb ?_⟩) (by simp) j hj
   cases hx:ms[e.on]?with
   |none=>rw[List.getD_eq_getElem?_getD,hx]at hj;simp at hj
   |some m=>rw[List.getD_eq_getElem?_getD,hx]at hj;exact h _ m hx j hj
def Bm (ms:List Nat) (i j:Nat):Bool:=(ms.getD i 0).testBit j
theorem xM {ops:Array Oper} {i j:Nat} (h:Bm (jc ops.toList []) i j=true):Nf ops i j:=by
 unfold Bm at h
 cases hx:(jc ops.toList [])[i]?with
 |none=>rw[List.getD_eq_getElem?_getD,hx]at h;simp at h
 |
  some m=>
  rw[List.getD_eq_getElem?_getD,hx]at h
  exact xL ops.toList [] [] (by simp) rfl (by simp) i m hx j h
def FZ (ops:Array Oper) (aos:List AO) (ms:List Nat):Bool:=
 (List.range ops.size).all λi=>match ops[i]?,aos[i]?with
  |some o,some x=>(o.after.all λe=> !Region.binds .any e||decide (e.on<i))&&
    (List.range i).all λj=>Bm ms i j||(match aos[j]?with|some y=>y.comm x|none=>false)
  |_,_=>false
def Bn (ops:Array Oper) (aos:List AO):Bool:=FZ ops aos (jc ops.toList [])
def ov (ops:Array Oper) (listed:Array Bool):Prop:=
 ∀(k:Nat) o,ops[k]? =some o->listed.getD k true=true->∀e∈o.after,Region.binds .any e=true->listed.getD e.on false=true
theorem Ev {ops:Array Oper} {listed:Array Bool} (hc:ov ops listed) {i j:Nat} (h:Nf ops i j):listed.getD i false=true->listed.getD j false=true:=by
 have up:∀i:Nat,listed.getD i false=true->listed.getD i true=true:=by
  intro i hl
  have hi:i<listed.size:=by
   rcases Nat.lt_or_ge i listed.size with h'|h'
   ·exact h'
   ·simp[Array.getElem?_eq_none h']at hl
  simpa[Array.getD_eq_getD_getElem?,Array.getElem?_eq_getElem hi]using hl
 induction h with
 |dir ho he hb=>intro hl;exact hc _ _ ho (up _ hl) _ he hb
 |tr ho he hb _ ih=>intro hl;exact ih (hc _ _ ho (up _ hl) _ he hb)
theorem uO {ops:Array Oper} {listed:Array Bool} (hc:ov ops listed) {i j:Nat} (h:Nf ops i j) (hr:i∈Region.ready .any ops listed):listed.getD j false=true:=by
 obtain⟨_,o,ho,dM⟩:=mem_ready.1 hr
 cases h with
 |dir ho' he hb=>rw[ho]at ho';cases ho';exact dM _ he hb
 |tr ho' he hb h2=>rw[ho]at ho';cases ho';exact Ev hc h2 (dM _ he hb)
theorem Ae {aos:List AO} {K:St->Prop} {i:Nat} {x:AO} (hi:aos[i]? =some x) (l2:List Nat):∀(l1:List Nat) (s:St),
  (∀j∈l1,∃y,aos[j]? =some y∧y.comm x=true)->II P aos s (l1++i::l2) K->iu P s x λs'=>II P aos s' (l1++l2) K
 |[],s,_,h=>by simpa[II,hi]using h
 |
  j::l1,s,dM,h=>by
  obtain⟨y,hy,oB⟩:=dM j (by simp)
  simp only[List.cons_append,II,hy]at h⊢
  exact Jv oB (HB oB (λs' h'=>Ae hi l2 l1 s' (λk hk=>dM k (by simp[hk])) h') h)
theorem aga {ro:Option Nat} {ops:Array Oper} {aos:List AO} {own sp:List Nat} (mH:∀(i:Nat) o,ops[i]? =some o->∃ao,aos[i]? =some ao∧ou P nt ops own sp true o=some ao) (hlen:aos.length=ops.size) (eE:Bn ops aos=true) {K:St->Prop}:
  ∀
   (n:Nat) (listed:Array Bool) {s:St} {Γ:Cx} {a:Act} {w:World},listed.size=ops.size->ov ops listed->((List.range ops.size).filter λi=> !listed.getD i true).length=n->
   gK nt ds s Γ a->w.heap=Γ.heap->xF P Γ->II P aos s ((List.range ops.size).filter λi=> !listed.getD i true) K->CE P nt ds Γ w K (Q .normal)->wpAnyIn (FW ro) 0 P .any ops Q n listed a w:=by
 simp only[Bn,FZ,aJ,List.all_eq_true,List.mem_range]at eE
 have hoi:=eE
 --what is first is ready
 have y7:∀listed:Array Bool,listed.size=ops.size->Region.ready .any ops listed=[]->((List.range ops.size).filter λi=> !listed.getD i true)=[]:=by
  intro listed iq hr
  cases hl:(List.range ops.size).filter λi=> !listed.getD i true with
  |nil=>rfl
  |
   cons i l=>
   exfalso
   have hm:∀j,j∈i::l↔j<ops.size∧listed.getD j true=false:=by intro j;rw[←hl];simp
   have He:(i::l).Pairwise (·<·):=by rw[←hl];exact(List.pairwise_lt_range).filter _
   obtain⟨hi,IW⟩:=(hm i).1 (by simp)
   have FK:=hoi i hi
   obtain⟨ao,Ch,_⟩:=mH i ops[i] (Array.getElem?_eq_getElem hi)
   rw[Array.getElem?_eq_getElem hi,Ch]at FK
   simp only[aJ,Array.all_eq_true_iff_forall_mem,Bool.or_eq_true,Bool.not_eq_true',decide_eq_true_eq]at FK
   have:i∈Region.ready .any ops listed:=by
    rw[mem_ready]
    refine⟨IW,ops[i],Array.getElem?_eq_getElem hi,λe he hb=> ?_⟩
    have dG:=(FK.1 e he).resolve_left (by simp[hb])
    cases hx:listed.getD e.on false with
    |true=>rfl
    |
     false=>
     have VK:e.on<listed.size:=by omega
     have hu:listed.getD e.on true=false:=by
      simpa[Array.getD_eq_getD_getElem?,Array.getElem?_eq_getElem VK]using hx
     have iV:=(hm e.on).2 ⟨by omega,hu⟩
     rcases List.mem_cons.1 iV with h|h
     ·omega
     ·have:=List.rel_of_pairwise_cons He h;omega
   rw[hr]at this;simp at this
 intro n
 induction n with
 |
  zero=>
  intro listed s Γ a w iq hc hn hs hw hY h hk
  have hl:=List.length_eq_zero_iff.1 hn
  rw[hl]at h
  refine⟨?_,hk _ _ _ _ hs hw (Le.refl Γ) (WF.refl w) h⟩
  rw[List.eq_nil_iff_forall_not_mem]
  intro i hi
  have h0:=(mem_ready.1 hi)
  obtain⟨h1,o,ho,_⟩:=h0
  have:i∈(List.range ops.size).filter λi=> !listed.getD i true:=by
   rw[List.mem_filter,List.mem_range];exact⟨(Array.getElem?_eq_some_iff.1 ho).1,by rw[h1];rfl⟩
  rw[hl]at this;simp at this
 |
  succ n ih=>
  intro listed s Γ a w iq hc hn hs hw hY h hk
  refine⟨λhr=> ?_,λi hi=> ?_⟩
  ·rw[y7 listed iq hr]at hn;simp at hn
  ·obtain⟨IW,o,ho,dM⟩:=mem_ready.1 hi
   have dG:=(Array.getElem?_eq_some_iff.1 ho).1
   obtain⟨ao,Ch,YL⟩:=mH i o ho
   have iV:i∈(List.range ops.size).filter λi=> !listed.getD i true:=by
    rw[List.mem_filter,List.mem_range];exact⟨dG,by rw[IW];rfl⟩
   obtain⟨l1,l2,hl⟩:=List.append_of_mem iV
   have He:(l1++i::l2).Pairwise (·<·):=by rw[←hl];exact(List.pairwise_lt_range).filter _
   have xi:(l1++i::l2).Nodup:=He.imp (λh=>Nat.ne_of_lt h)
   have og:(List.range ops.size).filter (λj=> !(listed.setIfInBounds i true).getD j true)=l1++l2:=by
    have e:(λj=> !(listed.setIfInBounds i true).getD j true)=λj=>(decide (j≠i))&& !listed.getD j true:=by
     funext j
     by_cases zT:i=j
     ·subst zT;simp[Array.getD_eq_getD_getElem?,uJ (by omega:i<listed.size)]
     ·rw[getD_set_ne true zT];simp[Ne.symm zT]
    rw[e,←List.filter_filter,hl,List.filter_append,List.filter_cons]
    simp only[ne_eq,not_true,decide_false,fJ,if_false]
    have wK:=List.nodup_append.1 xi
    rw[List.filter_eq_self.2,List.filter_eq_self.2]
    ·intro x hx;simp;rintro rfl;exact(List.nodup_cons.1 wK.2.1).1 hx
    ·intro x hx;simp;rintro rfl;exact wK.2.2 x hx x (by simp) rfl
   rw[hl]at h hn
   have ac1:∀j∈l1,j<i:=λj hj=>by
    have:=(List.pairwise_append.1 He).2.2 j hj i (by simp);exact this
   have aix:∀j∈l1,listed.getD j true=false:=λj hj=>by
    have:j∈(List.range ops.size).filter λi=> !listed.getD i true:=by rw[hl];simp[hj]
    simpa using(List.mem_filter.1 this).2
   have FK:=hoi i dG
   rw[ho,Ch]at FK
   simp only[aJ,List.all_eq_true,List.mem_range,Bool.or_eq_true]at FK
   have hf:=Ae (P:=P) (K:=K) Ch l2 l1 s (λj hj=>by
    have zQ:=FK.2 j (ac1 j hj)
    rcases zQ with hb|hb
    ·have:=uO hc (xM hb) hi
     have hx:=aix j hj
     have pe:j<listed.size:=by have:=ac1 j hj;omega
     simp[Array.getD_eq_getD_getElem?,Array.getElem?_eq_getElem pe]at this hx
     rw[this]at hx;simp at hx
    ·split at hb
     ·rename_i y hy;exact⟨y,hy,hb⟩
     ·simp at hb) h
   refine oN ho YL hs hw hY hf ?_
   intro s' Γ' a' w' b1 b2 b3 b4 b5
   refine ih (listed.setIfInBounds i true) (by simp[iq]) ?_ (by rw[og];simp at hn⊢;omega) b1 b2 (hY.le b3) (by rw[og];exact b5) (hk.trans b3 b4)
   intro k ok vC uv e he hb
   by_cases Cp:i=k
   ·subst Cp;rw[ho]at vC;cases vC;exact getD_set_true (dM e he hb)
   ·rw[getD_set_ne true Cp]at uv;exact getD_set_true (hc k ok vC uv e he hb)
theorem tB {ro:Option Nat} {ops:Array Oper} {aos:List AO} {own sp:List Nat} {id:Nat} (hm:P.follows .mixedOrders=true) (ht:lU P nt ops own sp true ops.toList=some aos) (eE:Bn ops aos=true) {K:St->Prop} (hs:gK nt ds s Γ a) (hw:w.heap=Γ.heap) (hY:xF P Γ) (h:HC P s aos K) (hk:CE P nt ds Γ w K (Q .normal)):
  (Code.region id ops true).wpIn (FW ro) 0 P Q a w:=by
 obtain⟨h1,h2⟩:=nD ht
 have e:((List.range ops.size).filter λi=> !(Array.replicate ops.size false).getD i true)=List.range ops.size:=by
  rw[List.filter_eq_self]
  intro i hi
  rw[List.mem_range]at hi
  simp[Array.getD_eq_getD_getElem?,hi]
 refine wpIn_region_any hm (aga (s:=s) (Γ:=Γ) (K:=K) (λi o hi=>h2 i o (by simpa using hi)) (by simpa using h1) eE _ _ (by simp) ?_ (by rw[e];simp) hs hw hY ?_ ?_)
 ·intro k o Sj hl
  have:=(Array.getElem?_eq_some_iff.1 Sj).1
  simp[Array.getD_eq_getD_getElem?,this]at hl
 ·rw[e,List.range_eq_range']
  exact(sk (P:=P) ops.size 0 s (by simpa using h1.symm)).1 (by simpa using h)
 ·intro s' Γ' a' w' b1 b2 b3 b4 b5
  exact hk s' Γ' a' w' b1 b2 b3 ⟨b4.os,b4.tape,b4.output⟩ b5
end Go.Ab
namespace Go.Ab
variable [eJ]
variable {P:Program} {nt:Nat} {ds:List Deferred} {s:St} {Γ Δ:Cx} {a:Act} {w:World}
mutual
def iB (k sz:Nat) (l0:List PV):PV->PV
 | .rs k' p off len aQ dR c=>if k'=k then(if aQ=l0.length∧p=[]∧dR=sz∧off+len≤l0.length then .sl sz ((l0.drop off).take len) (decide (c= .clip))else .un)else .rs k' p off len aQ dR c
 | .pt k' p aQ=>if k'=k then(if aQ=l0.length then .fp sz l0 p else .un)else .pt k' p aQ
 | .st w l=> .st w (jj k sz l0 l)
 | .ar z n l=> .ar z n (jj k sz l0 l)
 | .tup l=> .tup (jj k sz l0 l)
 | .sl z l c=> .sl z (jj k sz l0 l) c
 | .fp z l p=> .fp z (jj k sz l0 l) p
 | .fn f x y=> .fn f (jj k sz l0 x) (jj k sz l0 y)
 | .gd b p=> .gd b (iB k sz l0 p)
 | .ifc t p=> .ifc t (iB k sz l0 p)
 |p=>p
def jj (k sz:Nat) (l0:List PV):List PV->List PV
 |[]=>[]
 |p::l=>iB k sz l0 p::jj k sz l0 l
end
def wB (k sz:Nat) (l0:List PV):bX->bX
 | .box v=> .box (iB k sz l0 v)
 | .arr z l=> .arr z (jj k sz l0 l)
 | .map b ks vs l=> .map b ks vs l
variable {k sz:Nat} {l0:List PV}
theorem qX (p:PV):(iB k sz l0 p).width=p.width:=by
 cases p<;>simp only[iB]<;>(try split)<;>(try split)<;>simp[PV.width]
theorem lI (p:PV):(iB k sz l0 p).isAgg=p.isAgg:=by
 cases p<;>simp only[iB]<;>(try split)<;>(try split)<;>simp[PV.isAgg]
theorem mc (l:List PV):(jj k sz l0 l).length=l.length:=by induction l<;>simp[jj, *]
theorem oO {l:List PV} {q:PV} (h:q∈jj k sz l0 l):∃p∈l,q=iB k sz l0 p:=by
 induction l with
 |nil=>simp[jj]at h
 |
  cons x l ih=>
  simp only[jj,cJ]at h
  rcases h with h|h
  ·exact⟨x,by simp,h⟩
  ·obtain⟨p,hp,e⟩:=ih h;exact⟨p,by simp[hp],e⟩
theorem tC (b:bX):(wB k sz l0 b).aQ=b.aQ:=by cases b<;>simp[wB,bX.aQ,mc]
mutual
theorem Bo:∀p,ae (λj=>decide (j≠k)) p=true->iB k sz l0 p=p
 | .rs k' _ _ _ _ _ _,hp=>by simp only[ae,decide_eq_true_eq]at hp;simp[iB,hp]
 | .pt k' _ _,hp=>by simp only[ae,decide_eq_true_eq]at hp;simp[iB,hp]
 | .st _ l,hp=>by simp only[ae]at hp;simp[iB,mW l hp]
 | .ar _ _ l,hp=>by simp only[ae]at hp;simp[iB,mW l hp]
 | .tup l,hp=>by simp only[ae]at hp;simp[iB,mW l hp]
 | .sl _ l _,hp=>by simp only[ae]at hp;simp[iB,mW l hp]
 | .fp _ l _,hp=>by simp only[ae]at hp;simp[iB,mW l hp]
 | .fn _ x y,hp=>by simp only[ae,aJ]at hp;simp[iB,mW x hp.1,mW y hp.2]
 | .gd _ p,hp=>by simp only[ae]at hp;simp[iB,Bo p hp]
 | .ifc _ p,hp=>by simp only[ae]at hp;simp[iB,Bo p hp]
 | .un,_=>by simp[iB]
 | .bl _,_=>by simp[iB]
 | .int _ _,_=>by simp[iB]
 | .str _,_=>by simp[iB]
 | .np,_=>by simp[iB]
 | .nf,_=>by simp[iB]
 | .ni,_=>by simp[iB]
 | .mp ..,_=>by simp[iB]
theorem mW:∀l,ab (λj=>decide (j≠k)) l=true->jj k sz l0 l=l
 |[],_=>rfl
 |p::l,hp=>by simp only[ab,aJ]at hp;simp[jj,Bo p hp.1,mW l hp.2]
end
structure WA (Γ Δ:Cx) (k sz:Nat) (l0:List PV):Prop where
 heap:Δ.heap=Γ.heap
 own:∀b,b<Γ.heap.size->¬Γ.own b->¬Δ.own b
 ref:∀k' blk,k'≠k->get Γ.bx k'=some blk->∃cI,get Δ.bx k'=some cI∧cI.aQ=blk.aQ∧Δ.ι k'=Γ.ι k'
 here:∀blk,get Γ.bx k=some blk->blk= .arr sz l0
 wd:∀x∈l0,x.width=sz
 cells:∀b,Γ.ι k=some b->b<Γ.heap.size∧¬Δ.own b∧∃c e cs rest,Γ.heap[b]? =some (.cells c e (0,0))∧c.toList=cs++rest∧aG Δ l0 cs
theorem aG.iB (hf:WA Γ Δ k sz l0) {l:List PV} {cs:List Value} (h:aG Γ l cs):aG Δ (jj k sz l0 l) cs:=by
 induction h with
 |nil=>exact .nil
 |un h hr ih=>exact .un h ih
 |bl x hr ih=>exact .bl x ih
 |int k n hr ih=>exact .int k n ih
 |str l s h hr ih=>exact .str l s h ih
 |st w l hl hw hr ihl ih=>exact .st w _ ihl hw ih
 |
  ar z n l hl hn hw hr ihl ih=>
  refine .ar z n _ ihl (by rw[mc];exact hn) (λx hx=> ?_) ih
  obtain⟨p,hp,rfl⟩:=oO hx
  rw[qX];exact hw p hp
 |
  sl z l clip ad bC hl hw hc hk hb hr ihl ih=>
  have:=aG.sl (Γ:=Δ) z (jj k sz l0 l) clip ad bC ihl (λx hx=>by obtain⟨p,hp,rfl⟩:=oO hx;rw[qX];exact hw p hp) (by rw[mc];exact hc) (by rw[mc];exact hk)
   (λbS=>by
    obtain⟨b,o,h1,h2,h3,h4⟩:=hb (by intro h;subst h;simp[jj]at bS)
    exact⟨b,o,h1,by rw[hf.heap];exact h2,hf.own b h2 h3,by rw[hf.heap];exact h4⟩) ih
  rw[mc]at this
  exact this
 |
  rs k' p off len aQ dR c v blk hg h1 hv hr ih=>
  simp only[jj,Ab.iB]
  by_cases hk:k'=k
  ·rw[if_pos hk]
   subst hk
   have kl:=hf.here blk hg.1
   subst kl
   split
   ·rename_i hc
    obtain⟨ht,hp,iq,hle⟩:=hc
    subst hp iq
    obtain⟨ad,bC,rfl,MW⟩:=hv (by simpa[bX.aQ]using ht)
    have hlen:((l0.drop off).take len).length=len:=by simp;omega
    unfold iT at MW
    cases hι:Γ.ι k' with
    |
     none=>
     rw[hι]at MW
     obtain⟨rfl,rfl,_⟩:=MW
     have:=aG.sl (Γ:=Δ) dR ((l0.drop off).take 0) (decide (c= .clip)) ad 0 (cs:=[]) (by simpa using aG.nil) (by simp) (by simp) (by simp) (by simp) ih
     simpa using this
    |
     some b=>
     rw[hι]at MW
     obtain⟨VL,had,rN,_⟩:=MW
     obtain⟨oA,pg,cc,e,cs,rest,hh,AT,FI⟩:=hf.cells b hι
     have mQ:=(FI.Qa hf.wd off (by omega)).CB (λx hx=>hf.wd x (List.mem_of_mem_drop hx)) len (by simp;omega)
     have alP:cs.length=l0.length*dR:=by rw[FI.length,b8 hf.wd]
     have:=aG.sl (Γ:=Δ) dR ((l0.drop off).take len) (decide (c= .clip)) ad bC mQ (λx hx=>hf.wd x (List.mem_of_mem_drop (List.mem_of_mem_take hx))) (by rw[hlen];exact VL) (by rw[hlen];intro e;exact mI.clip rN (of_decide_eq_true e))
      (λbS=>by
       have akm:len≠0:=by rintro rfl;simp at bS
       refine⟨b,off*dR,?_,by rw[hf.heap];exact oA,pg,λi x hi=> ?_⟩
       ·rcases had with h|h
        ·omega
        ·simpa[du]using h
       ·rw[List.getElem?_take]at hi
        split at hi
        ·rw[List.getElem?_drop]at hi
         simp only[cell,hf.heap,hh]
         rw[←Array.getElem?_toList,AT]
         have dG:=(List.getElem?_eq_some_iff.1 hi).1
         rw[List.getElem?_append_left dG];exact hi
        ·simp at hi) ih
     rw[hlen]at this
     exact this
   ·exact .un h1 ih
  ·rw[if_neg hk]
   obtain⟨cI,g1,g2,g3⟩:=hf.ref k' blk hk hg.1
   refine .rs k' p off len aQ dR c v cI ⟨g1,by rw[g2];exact hg.2⟩ h1 (λht=> ?_) ih
   obtain⟨ad,bC,e1,e2⟩:=hv (by rw[ht,g2])
   exact⟨ad,bC,e1,e2.aB g3 hf.heap⟩
 |np hr ih=>exact .np ih
 |
  pt k' p aQ v blk hg h1 hv hr ih=>
  simp only[jj,Ab.iB]
  by_cases hk:k'=k
  ·rw[if_pos hk]
   subst hk
   have kl:=hf.here blk hg.1
   subst kl
   split
   ·rename_i ht
    obtain⟨b,hι,rfl⟩:=hv (by simpa[bX.aQ]using ht)
    obtain⟨oA,pg,cc,e,cs,rest,hh,AT,FI⟩:=hf.cells b hι
    have:=aG.fp (Γ:=Δ) sz l0 p b 0 FI hf.wd ⟨by rw[hf.heap];exact oA,pg⟩ (λi x hi=>by
     simp only[cell,hf.heap,hh]
     rw[←Array.getElem?_toList,AT,Nat.zero_add]
     have dG:=(List.getElem?_eq_some_iff.1 hi).1
     rw[List.getElem?_append_left dG];exact hi) ih
    simpa using this
   ·exact .un h1 ih
  ·rw[if_neg hk]
   obtain⟨cI,g1,g2,g3⟩:=hf.ref k' blk hk hg.1
   refine .pt k' p aQ v cI ⟨g1,by rw[g2];exact hg.2⟩ h1 (λht=> ?_) ih
   obtain⟨b,e1,e2⟩:=hv (by rw[ht,g2])
   exact⟨b,by rw[g3,e1],e2⟩
 |
  fp z l p b o hl hw hm hc hr ihl ih=>
  exact .fp z _ p b o ihl (λx hx=>by obtain⟨p,hp,rfl⟩:=oO hx;rw[qX];exact hw p hp) ⟨by rw[hf.heap];exact hm.1,hf.own b hm.1 hm.2⟩ (by rw[hf.heap];exact hc) ih
 |
  fn g first cap h1 h2 h3 h4 hr i1 i2 ih=>
  exact .fn g _ _ i1 i2 (λx hx=>by obtain⟨p,hp,rfl⟩:=oO hx;rw[lI];exact h3 p hp) (λx hx=>by obtain⟨p,hp,rfl⟩:=oO hx;rw[lI];exact h4 p hp) ih
 |nf hr ih=>exact .nf ih
 |
  ifc t v h1 h2 hr i1 ih=>
  simp only[jj]at i1
  exact .ifc t _ i1 (by rw[lI];exact h2) ih
 |ni hr ih=>exact .ni ih
 |mp k b hr ih=>exact .mp k b ih
theorem aG.xN (hf:WA Γ Δ k sz l0) {p:PV} {cs:List Value} (h:aG Γ [p] cs):aG Δ [Ab.iB k sz l0 p] cs:=by
 have:=h.iB hf
 simpa only[jj]using this
theorem aG.Za {p:PV} {v:Value} (h:aG Γ [p] [v]) (ha:p.isAgg=false):jF Γ p v:=by
 cases p<;>simp[PV.isAgg]at ha<;>first|(simp only[jF];done)|(simp only[jF];exact h)
theorem jF.iB (hf:WA Γ Δ k sz l0) {p:PV} {v:Value} (h:jF Γ p v):jF Δ (Ab.iB k sz l0 p) v:=by
 cases p
 case un=>trivial
 case st w l=>obtain⟨cs,h1,h2⟩:=h;exact⟨cs,h1,h2.xN hf⟩
 case ar z n l=>obtain⟨cs,h1,h2⟩:=h;exact⟨cs,h1,h2.xN hf⟩
 case rs=>exact(aG.xN hf h).Za (by rw[lI];rfl)
 case pt=>exact(aG.xN hf h).Za (by rw[lI];rfl)
 all_goals exact aG.xN hf h
theorem aO.iB (hf:WA Γ Δ k sz l0):∀ {p:PV} {v:Value},aO Γ p v->aO Δ (Ab.iB k sz l0 p) v:=by
 have h2:∀ {l:List PV} {vs:List Value},j3 Γ l vs->j3 Δ (jj k sz l0 l) vs:=by
  intro l
  induction l with
  |nil=>intro vs h;cases vs<;>simp_all [j3,jj]
  |
   cons p l ih=>
   intro vs h
   cases vs with
   |nil=>simp[j3]at h
   |cons v vs=>simp only[j3,jj]at h⊢;exact⟨h.1.iB hf,ih h.2⟩
 intro p
 induction p using PV.rec (motive_2:=λ_=>True)with
 |gd b p ih=>intro v h;simp only[Ab.iB];rw[aO]at h⊢;exact⟨λhb=>ih (h.1 hb),h.2⟩
 |tup l=>intro v h;simp only[aO,Ab.iB]at h⊢;obtain⟨vs,e,h⟩:=h;exact⟨vs,e,h2 h⟩
 |un=>intro v h;simp[aO,Ab.iB]
 |st w l=>intro v h;obtain⟨cs,e,h⟩:=h;exact⟨cs,e,h.xN hf⟩
 |ar z n l=>intro v h;obtain⟨cs,e,h⟩:=h;exact⟨cs,e,h.xN hf⟩
 |nil=>trivial
 |cons=>trivial
 |rs=>intro v h;exact(aG.xN hf h).toV (by rw[lI];rfl)
 |pt=>intro v h;exact(aG.xN hf h).toV (by rw[lI];rfl)
 |_=>intro v h;exact aG.xN hf h
theorem bX.vE.iB (hf:WA Γ Δ k sz l0) {blk:bX} {ob:Option Nat} (h:blk.vE Γ ob):(wB k sz l0 blk).vE Δ ob:=by
 cases blk with
 |
  box v=>
  obtain⟨b,c,e,h1,h2,h3⟩:=h
  exact⟨b,c,e,h1,by rw[hf.heap];exact h2,h3.xN hf⟩
 |
  arr z l=>
  obtain⟨h1,h2,h3⟩:=h
  refine⟨λx hx=>by obtain⟨p,hp,rfl⟩:=oO hx;rw[qX];exact h1 p hp,h2,?_⟩
  cases ob with
  |none=>trivial
  |
   some b=>
   obtain⟨c,e,cs,rest,h4,h5,h6,h7⟩:=h3
   exact⟨c,e,cs,rest,by rw[hf.heap];exact h4,h5,h6.iB hf,h7⟩
 |
  map b ks vs l=>
  obtain⟨h1,h2⟩:=h
  exact⟨h1,by rw[hf.heap];exact h2⟩
end Go.Ab
namespace Go.Ab
variable [eJ]
variable {P:Program} {nt:Nat} {ds:List Deferred} {s:St} {Γ Δ Γ0:Cx} {a:Act} {w:World} {k sz:Nat} {l0:List PV}
def del {α:Type}:List (Nat×α)->Nat->List (Nat×α)
 |[],_=>[]
 |(j,v)::r,k=>if j=k then del r k else(j,v)::del r k
def lK {α:Type} (f:α->α):List (Nat×α)->List (Nat×α)
 |[]=>[]
 |(j,v)::r=>(j,f v)::lK f r
def me {α:Type} (sl:List Nat):List (Nat×α)->List (Nat×α)
 |[]=>[]
 |(j,v)::r=>if sl.contains j=true then(j,v)::me sl r else me sl r
theorem lj {α:Type} (l:List (Nat×α)) (k j:Nat):get (del l k) j=if j=k then none else get l j:=by
 induction l with
 |nil=>simp[del,get]
 |
  cons x r ih=>
  obtain⟨i,v⟩:=x
  simp only[del]
  split
  ·rename_i h;subst h;rw[ih];simp only[get];split
   ·rfl
   ·rename_i h2;rw[if_neg (λe=>h2 e.symm)]
  ·simp only[get,ih]
   split
   ·rename_i h h2;subst h2;rw[if_neg h]
   ·rfl
theorem jt {α:Type} (f:α->α) (l:List (Nat×α)) (j:Nat):get (lK f l) j=(get l j).map f:=by
 induction l with
 |nil=>rfl
 |cons x r ih=>obtain⟨i,v⟩:=x;simp only[lK,get,ih];split<;>rfl
theorem HD {α:Type} (sl:List Nat) (l:List (Nat×α)) (j:Nat) {v:α} (h:get (me sl l) j=some v):get l j=some v:=by
 induction l with
 |nil=>simp[me,get]at h
 |
  cons x r ih=>
  obtain⟨i,u⟩:=x
  simp only[me]at h
  split at h
  ·simp only[get]at h⊢
   split
   ·rename_i h2;rw[if_pos h2]at h;exact h
   ·rename_i h2;rw[if_neg h2]at h;exact ih h
  ·rename_i hc
   have h3:=ih h
   simp only[get]
   split
   ·rename_i h2;subst h2
    exfalso
    have:∀r:List (Nat×α),get (me sl r) i=none:=by
     intro r
     induction r with
     |nil=>rfl
     |
      cons y r ih2=>
      obtain⟨m,q⟩:=y
      simp only[me]
      split
      ·rename_i h4
       simp only[get]
       rw[if_neg (by rintro rfl;exact hc h4)];exact ih2
      ·exact ih2
    rw[this]at h;simp at h
   ·exact h3
def HK (Γ:Cx):Prop:=∀k blk,get Γ.bx k=some blk->KB≤k
def pY (nt:Nat) (ds:List Deferred) (Γ0 Γ:Cx) (a:Act) (K:St->Prop):Prop:=∃s' Γ',gK nt ds s' Γ' a∧Γ'.heap=Γ.heap∧Le Γ0 Γ'∧K s'
theorem tD (hm:Mem Γ) (f:bX->bX) (hft:∀b,(f b).aQ=b.aQ):uH (λj=>decide (j≠k)) id Γ {Γ with bx:=lK f (del Γ.bx k)} where
 heap:=rfl
 own b _ hn:=by
  rintro(⟨j,blk,h1,h2⟩|h)
  ·simp only[jt,lj]at h1
   split at h1
   ·simp at h1
   ·obtain⟨b0,g1,_⟩:=Option.map_eq_some_iff.1 h1
    exact hn (.inl ⟨j,b0,g1,h2⟩)
  ·exact hn (.inr h)
 ref j blk hj hb:=by
  simp only[decide_eq_true_eq]at hj
  exact⟨f blk,by simp[jt,lj,hj,hb],hft _,rfl⟩
theorem xO {f:Nat->Bool} {l:List PV} (h:ab f l=true):aD id l=l:=lS (f:=f) (λ_ _=>rfl) l h
theorem wU {f:Nat->Bool} {p:PV} (h:ae f p=true):aB id p=p:=xB (f:=f) (λ_ _=>rfl) p h
theorem Jw (hle:Le Γ0 Γ) (nu:HK Γ0) (YM:k<KB) (f:bX->bX) (hft:∀b,(f b).aQ=b.aQ):Le Γ0 {Γ with bx:=lK f (del Γ.bx k)} where
 heap:=hle.heap
 hO b hb h:=by
  obtain⟨j,blk,h1,h2⟩:=h
  simp only[jt,lj]at h1
  split at h1
  ·simp at h1
  ·obtain⟨b0,g1,_⟩:=Option.map_eq_some_iff.1 h1
   exact hle.hO b hb ⟨j,b0,g1,h2⟩
 ed:=hle.ed
 size:=hle.size
 ref j blk hj:=by
  obtain⟨cI,h1,h2,h3⟩:=hle.ref j blk hj
  have:=nu j blk hj
  have bS:j≠k:=by omega
  exact⟨f cI,by simp[jt,lj,bS,h1],by rw[hft];exact h2,λht=>h3 (by rw[←ht,hft])⟩
theorem Ew (hm:Mem Γ) (hg:get Γ.bx k=some (.arr sz l0)) (hr:ab (λj=>decide (j≠k)) l0=true):WA Γ {Γ with bx:=lK (wB k sz l0) (del Γ.bx k)} k sz l0 where
 heap:=rfl
 own:=(tD hm _ tC).own
 ref j blk hj hb:=by
  obtain⟨b',h1,h2,h3⟩:=(tD (k:=k) hm _ (tC (k:=k) (sz:=sz) (l0:=l0))).ref j blk (by simpa using hj) hb
  exact⟨b',h1,h2,h3⟩
 here blk hb:=by rw[hg]at hb;exact(Option.some.inj hb).symm
 wd:=(hm.blk k _ hg).1
 cells b hb:=by
  have h:=hm.blk k _ hg
  obtain⟨h1,h2,h3⟩:=h
  rw[hb]at h3
  obtain⟨c,e,cs,rest,h4,h5,h6,_⟩:=h3
  refine⟨db h4,?_,c,e,cs,rest,h4,h5,?_⟩
  ·rintro(⟨j,blk,g1,g2⟩|g)
   ·simp only[jt,lj]at g1
    split at g1
    ·simp at g1
    ·rename_i bS
     obtain⟨b0,g3,_⟩:=Option.map_eq_some_iff.1 g1
     exact bS (hm.inj j k b (by simp[g3]) (by simp[hg]) g2 hb)
   ·exact hm.apart b ⟨k,_,hg,hb⟩ g
  ·have:=h6.aB (tD (k:=k) hm _ (tC (k:=k) (sz:=sz) (l0:=l0))) hr
   rwa [xO hr]at this
theorem wV (hm:Mem Γ) (f:bX->bX) (hf:∀j blk,j≠k->get Γ.bx j=some blk->(f blk).vE {Γ with bx:=lK f (del Γ.bx k)} (Γ.ι j)):Mem {Γ with bx:=lK f (del Γ.bx k)} where
 blk j blk hb:=by
  simp only[jt,lj]at hb
  split at hb
  ·simp at hb
  ·rename_i bS
   obtain⟨b0,g1,rfl⟩:=Option.map_eq_some_iff.1 hb
   exact hf j b0 bS g1
 inj i j b hi hj h1 h2:=by
  have:∀x,(get (lK f (del Γ.bx k)) x).isSome=true->(get Γ.bx x).isSome=true:=by
   intro x hx
   simp only[jt,lj]at hx
   split at hx
   ·simp at hx
   ·simpa using hx
  exact hm.inj i j b (this i hi) (this j hj) h1 h2
 ed:=hm.ed
 apart b h hp:=by
  refine hm.apart b ?_ hp
  obtain⟨j,blk,h1,h2⟩:=h
  simp only[jt,lj]at h1
  split at h1
  ·simp at h1
  ·obtain⟨b0,g1,_⟩:=Option.map_eq_some_iff.1 h1
   exact⟨j,b0,g1,h2⟩
 te b cs h:=by
  obtain⟨h1,h2⟩:=hm.te b cs h
  refine⟨λhb=>h1 ?_,h2⟩
  obtain⟨j,blk,h1,h2⟩:=hb
  simp only[jt,lj]at h1
  split at h1
  ·simp at h1
  ·obtain⟨b0,g1,_⟩:=Option.map_eq_some_iff.1 h1
   exact⟨j,b0,g1,h2⟩
def WB (k:Nat) (s:St) (K:St->Prop):Prop:=
 match get s.bx k with
 |some (.arr sz l)=>(ab (λj=>decide (j≠k)) l=true∧k<KB)∧K {env:=lK (iB k sz l) s.env,bx:=lK (wB k sz l) (del s.bx k)}
 |_=>False
theorem HE {K:St->Prop} (hs:gK nt ds s Γ a) (hle:Le Γ0 Γ) (nu:HK Γ0) (h:WB k s K):pY nt ds Γ0 Γ a K:=by
 unfold WB at h
 split at h
 ·rename_i sz l hg
  obtain⟨⟨hr,YM⟩,hK⟩:=h
  rw[←hs.bx]at hg
  have hf:=Ew hs.mem hg hr
  refine⟨_,{Γ with bx:=lK (wB k sz l) (del Γ.bx k)},⟨by simp[hs.bx],hs.size,hs.defers,λj p hj=> ?_,wV hs.mem _ (λj blk bS hb=>(hs.mem.blk j blk hb).iB hf)⟩,rfl,Jw hle nu YM _ tC,hK⟩
  simp only[jt]at hj
  obtain⟨q,g1,rfl⟩:=Option.map_eq_some_iff.1 hj
  exact(hs.env j q g1).iB hf
 ·exact h.elim
def eI (f:Nat->Bool):List (Nat×PV)->Bool
 |[]=>true
 |(_,p)::r=>ae f p&&eI f r
def fE (f:Nat->Bool):List (Nat×bX)->Bool
 |[]=>true
 |(_,b)::r=>af f b&&fE f r
theorem vO {f:Nat->Bool}:∀ {l:List (Nat×PV)} {j:Nat} {p:PV},eI f l=true->get l j=some p->ae f p=true
 |[],_,_,_,h=>by simp[get]at h
 |
  (i,q)::r,j,p,hr,h=>by
  simp only[eI,aJ]at hr
  simp only[get]at h
  split at h
  ·cases h;exact hr.1
  ·exact vO hr.2 h
theorem xP {f:Nat->Bool}:∀ {l:List (Nat×bX)} {j:Nat} {p:bX},fE f l=true->get l j=some p->af f p=true
 |[],_,_,_,h=>by simp[get]at h
 |
  (i,q)::r,j,p,hr,h=>by
  simp only[fE,aJ]at hr
  simp only[get]at h
  split at h
  ·cases h;exact hr.1
  ·exact xP hr.2 h
theorem F0 {α:Type}:∀l:List (Nat×α),lK id l=l
 |[]=>rfl
 |(j,v)::r=>by simp[lK,F0 r]
def dr1 (k:Nat) (s:St) (K:St->Prop):Prop:=
 (eI (λj=>decide (j≠k)) s.env=true∧fE (λj=>decide (j≠k)) (del s.bx k)=true∧k<KB)∧K {s with bx:=del s.bx k}
theorem Jx {f:Nat->Bool} {b:bX} (h:af f b=true):aE id b=b:=by
 cases b with
 |box v=>simp only[aE,wU (f:=f) h]
 |arr sz l=>simp only[aE,xO (f:=f) h]
 |map b ks vs l=>rfl
theorem HF {K:St->Prop} (hs:gK nt ds s Γ a) (hle:Le Γ0 Γ) (nu:HK Γ0) (h:dr1 k s K):pY nt ds Γ0 Γ a K:=by
 obtain⟨⟨h1,h2,h3⟩,hK⟩:=h
 have nN:=tD (k:=k) hs.mem id (λ_=>rfl)
 refine⟨_,{Γ with bx:=lK id (del Γ.bx k)},⟨by simp[hs.bx,F0],hs.size,hs.defers,λj p hj=> ?_,wV hs.mem _ (λj blk bS hb=> ?_)⟩,rfl,Jw hle nu h3 _ (λ_=>rfl),hK⟩
 ·have hr:=vO h1 hj
  have:=(hs.env j p hj).aB nN hr
  rwa [wU hr]at this
 ·have hr:af (λj=>decide (j≠k)) blk=true:=by
   refine xP (j:=j) h2 ?_
   rw[lj,if_neg bS,←hs.bx];exact hb
  have:=(hs.mem.blk j blk hb).aB nN hr
  rwa [Jx hr]at this
theorem Ex {K:St->Prop} {sl:List Nat} (hs:gK nt ds s Γ a) (hle:Le Γ0 Γ) (h:K {s with env:=me sl s.env}):pY nt ds Γ0 Γ a K:=
 ⟨{s with env:=me sl s.env},Γ,⟨hs.bx,hs.size,hs.defers,λj p hj=>hs.env j p (HD sl _ _ hj),hs.mem⟩,rfl,hle,h⟩
def WC (n k sz:Nat) (s:St) (K:St->Prop):Prop:=
 match get s.env n with
 |some (.sl _ [] true)=>(get s.bx k=none∧0<sz)∧K {env:=put s.env n (.rs k [] 0 0 0 sz .tip),bx:=put s.bx k (.arr sz [])}
 |_=>False
theorem HG {n:Nat} {K:St->Prop} (hs:gK nt ds s Γ a) (hle:Le Γ0 Γ) (h:WC n k sz s K):pY nt ds Γ0 Γ a K:=by
 unfold WC at h
 split at h
 ·rename_i z hg
  obtain⟨⟨jn,iq⟩,hK⟩:=h
  rw[←hs.bx]at jn
  have hl:=qV Γ (.arr sz []) jn
  have hm:=xu hs.mem jn (blk:= .arr sz []) ⟨by simp,iq,trivial⟩
  refine⟨_,Γ.kV k (.arr sz []),⟨by simp[Cx.kV,hs.bx],hs.size,hs.defers,λj p hj=> ?_,hm⟩,rfl,hle.trans hl,hK⟩
  simp only[gL]at hj
  split at hj
  ·rename_i hnj
   subst hnj
   simp only[sJ]at hj;subst hj
   have h0:=hs.env n _ hg
   simp only[aO]at h0⊢
   generalize a.tmps.getD n undef=v at h0
   cases h0 with
   |
    @sl _ _ cs _ _ _ ad bC h1 h2 h3 h4 h5 h6=>
    have hr0:bC=0:=h4 rfl
    subst hr0
    refine .rs k [] 0 0 0 sz .tip _ (.arr sz []) ⟨by simp[Cx.kV,dw],by simp[bX.aQ]⟩ rfl (λ_=>⟨ad,0,rfl,?_⟩) .nil
    unfold iT
    simp[Cx.kV,mI]
  ·exact(hs.env j p hj).mono hl
 ·exact h.elim
mutual
theorem n6:∀p:PV,ae (λ_=>true) p=true
 | .st _ l| .ar _ _ l| .tup l| .sl _ l _| .fp _ l _=>by simp only[ae];exact ll l
 | .fn _ x y=>by simp only[ae,ll x,ll y,Bool.and_self]
 | .gd _ p| .ifc _ p=>by simp only[ae];exact n6 p
 | .rs .. | .pt .. | .un| .bl _| .int .. | .str _| .np| .nf| .ni| .mp .. =>by simp only[ae]
theorem ll:∀l:List PV,ab (λ_=>true) l=true
 |[]=>rfl
 |p::l=>by simp only[ab,n6 p,ll l,Bool.and_self]
end
theorem tE (b:bX):af (λ_=>true) b=true:=by cases b<;>simp[af,n6,ll]
def Ey (k k':Nat) (j:Nat):Nat:=if j=k then k' else j
def Zb (k k':Nat) (s:St) (K:St->Prop):Prop:=
 match get s.bx k with
 |some b=>(get s.bx k'=none∧k<KB∧k'<KB∧k≠k')∧K {env:=lK (aB (Ey k k')) s.env,bx:=put (lK (aE (Ey k k')) (del s.bx k)) k' (aE (Ey k k') b)}
 |none=>False
def Cx.mv (Γ:Cx) (k k':Nat) (b:bX):Cx:=
 {heap:=Γ.heap,ι:=λj=>if j=k' then Γ.ι k else Γ.ι j,bx:=put (lK (aE (Ey k k')) (del Γ.bx k)) k' (aE (Ey k k') b),ed:=Γ.ed}
theorem uR {k k':Nat} {b:bX} (bS:k≠k') (j:Nat):get (Γ.mv k k' b).bx j=if j=k' then some (aE (Ey k k') b)else if j=k then none else(get Γ.bx j).map (aE (Ey k k')):=by
 simp only[Cx.mv,gL,jt,lj]
 by_cases h:k'=j
 ·subst h;simp
 ·have h':¬j=k':=λe=>h e.symm
  rw[if_neg h,if_neg h']
  by_cases h2:j=k
  ·simp[h2]
  ·simp[h2]
theorem wW {k k':Nat} {b:bX} (hg:get Γ.bx k=some b) (bS:k≠k') {x:Nat} (h:(Γ.mv k k' b).hO x):Γ.hO x:=by
 obtain⟨j,blk,h1,h2⟩:=h
 rw[uR bS]at h1
 simp only[Cx.mv]at h2
 by_cases hj:j=k'
 ·rw[if_pos hj]at h2;exact⟨k,b,hg,h2⟩
 ·rw[if_neg hj]at h1 h2
  by_cases zQ:j=k
  ·rw[if_pos zQ]at h1;cases h1
  ·rw[if_neg zQ]at h1
   obtain⟨b0,g1,_⟩:=Option.map_eq_some_iff.1 h1
   exact⟨j,b0,g1,h2⟩
theorem Bp {k k':Nat} {b:bX} (hg:get Γ.bx k=some b) (hf:get Γ.bx k'=none) (bS:k≠k'):uH (λ_=>true) (Ey k k') Γ (Γ.mv k k' b) where
 heap:=rfl
 own x _ hn:=by
  rintro(h|h)
  ·exact hn (.inl (wW hg bS h))
  ·exact hn (.inr h)
 ref j blk _ hb:=by
  by_cases hj:j=k
  ·subst hj
   rw[hg]at hb;cases hb
   exact⟨aE (Ey j k') b,by rw[uR bS];simp[Ey],js _ _,by simp[Ey,Cx.mv]⟩
  ·have zQ:j≠k':=by rintro rfl;rw[hf]at hb;cases hb
   exact⟨aE (Ey k k') blk,by rw[uR bS];simp[Ey,hj,zQ,hb],js _ _,by simp[Ey,Cx.mv,hj,zQ]⟩
theorem SF (hm:Mem Γ) {k k':Nat} {b:bX} (hg:get Γ.bx k=some b) (hf:get Γ.bx k'=none) (bS:k≠k'):Mem (Γ.mv k k' b) where
 blk j blk hb:=by
  rw[uR bS]at hb
  by_cases hj:j=k'
  ·rw[if_pos hj]at hb;cases hb
   have:=(hm.blk k b hg).aB (Bp hg hf bS) (tE b)
   simpa[Cx.mv,hj]using this
  ·rw[if_neg hj]at hb
   by_cases zQ:j=k
   ·rw[if_pos zQ]at hb;cases hb
   ·rw[if_neg zQ]at hb
    obtain⟨b0,g1,rfl⟩:=Option.map_eq_some_iff.1 hb
    have:=(hm.blk j b0 g1).aB (Bp hg hf bS) (tE b0)
    have hι:(Γ.mv k k' b).ι j=Γ.ι j:=by simp[Cx.mv,hj]
    rw[hι];exact this
 inj i j x hi hj h1 h2:=by
  have back:∀y,(get (Γ.mv k k' b).bx y).isSome=true->(Γ.mv k k' b).ι y=some x->(get Γ.bx (if y=k' then k else y)).isSome=true∧Γ.ι (if y=k' then k else y)=some x∧(y≠k'->y≠k):=by
   intro y hy hx
   rw[uR bS]at hy
   simp only[Cx.mv]at hx
   by_cases YN:y=k'
   ·rw[if_pos YN]at hx⊢;exact⟨by simp[hg],hx,λh=>absurd YN h⟩
   ·rw[if_neg YN]at hx hy⊢
    by_cases hy2:y=k
    ·rw[if_pos hy2]at hy;cases hy
    ·rw[if_neg hy2]at hy;exact⟨by simpa using hy,hx,λ_=>hy2⟩
  obtain⟨a1,a2,a3⟩:=back i hi h1
  obtain⟨c1,c2,c3⟩:=back j hj h2
  have:=hm.inj _ _ x a1 c1 a2 c2
  by_cases ir:i=k'
  ·by_cases um:j=k'
   ·rw[ir,um]
   ·rw[if_pos ir,if_neg um]at this;exact absurd this.symm (c3 um)
  ·by_cases um:j=k'
   ·rw[if_neg ir,if_pos um]at this;exact absurd this (a3 ir)
   ·rw[if_neg ir,if_neg um]at this;exact this
 ed:=hm.ed
 apart x h hp:=hm.apart x (wW hg bS h) hp
 te x cs h:=by
  obtain⟨h1,h2⟩:=hm.te x cs h
  exact⟨λhb=>h1 (wW hg bS hb),h2⟩
theorem HH {k k':Nat} {K:St->Prop} (hs:gK nt ds s Γ a) (hle:Le Γ0 Γ) (nu:HK Γ0) (h:Zb k k' s K):pY nt ds Γ0 Γ a K:=by
 unfold Zb at h
 split at h
 ·rename_i b hg
  obtain⟨⟨hf,YM,alQ,bS⟩,hK⟩:=h
  rw[←hs.bx]at hg hf
  refine⟨_,Γ.mv k k' b,⟨by simp[Cx.mv,hs.bx],hs.size,hs.defers,λj p hj=> ?_,SF hs.mem hg hf bS⟩,rfl,?_,hK⟩
  ·simp only[jt]at hj
   obtain⟨q,g1,rfl⟩:=Option.map_eq_some_iff.1 hj
   exact(hs.env j q g1).aB (Bp hg hf bS) (n6 q)
  ·refine⟨hle.heap,λx hx h=>hle.hO x hx (wW hg bS h),hle.ed,hle.size,λj blk hj=> ?_⟩
   obtain⟨cI,h1,h2,h3⟩:=hle.ref j blk hj
   have um:=nu j blk hj
   have hj1:j≠k:=by omega
   have zQ:j≠k':=by omega
   refine⟨aE (Ey k k') cI,by rw[uR bS];simp[hj1,zQ,h1],by rw[js];exact h2,λht=> ?_⟩
   rw[js]at ht
   obtain⟨g1,g2⟩:=h3 ht
   exact⟨by simp only[Cx.mv];rw[if_neg zQ];exact g1,g2⟩
 ·exact h.elim
def Mv (sz:Nat):PV:= .st sz (List.replicate sz .un)
@[simp] theorem WD (sz:Nat):(Mv sz).width=sz:=rfl
theorem CK:∀ {vs:List Value},(∀v∈vs,fN v=true)->aG Γ (List.replicate vs.length .un) vs
 |[],_=> .nil
 |v::vs,h=> .un (h v (by simp)) (CK λx hx=>h x (by simp[hx]))
theorem Af {sz:Nat}:∀ {j:Nat} {vs:List Value},vs.length=j*sz->(∀v∈vs,fN v=true)->aG Γ (List.replicate j (Mv sz)) vs
 |
  0,vs,h,_=>by
  have:vs=[]:=List.eq_nil_of_length_eq_zero (by simpa using h)
  subst this;exact .nil
 |
  j+1,vs,h,h1=>by
  rw[Nat.add_mul,Nat.one_mul]at h
  have hl:(vs.take sz).length=sz:=by rw[lJ];omega
  have hr:=aG.st (Γ:=Γ) sz (List.replicate sz .un) (by have:=CK (Γ:=Γ) (vs:=vs.take sz) (λv hv=>h1 v (List.mem_of_mem_take hv));rwa [hl]at this) hl
   (Af (sz:=sz) (j:=j) (vs:=vs.drop sz) (by rw[List.length_drop];omega) (λv hv=>h1 v (List.mem_of_mem_drop hv)))
  rw[List.take_append_drop]at hr
  exact hr
def Zc (n:Nat) (s:St) (K:St->Prop):Prop:=
 match get s.env n with
 |
  some (.rs k [] 0 len aQ sz .tip)=>(match get s.bx k with
  |some (.arr dR l)=>(dR=sz∧aQ=l.length)∧∀c j:Nat,(c=l.length+j∨(c=0∧j=0∧len=0))->
    K {env:=put s.env n (.rs k [] 0 len (l.length+j) sz (.full c)),bx:=put s.bx k (.arr sz (l++List.replicate j (Mv sz)))}
  |_=>False)
 |_=>False
theorem Jy {l l':List PV} {b:Nat} (hm:Mem Γ) (hg:get Γ.bx k=some (.arr sz l)) (hb:Γ.ι k=some b) (ht:l.length≤l'.length)
  (hr:Le Γ {Γ with bx:=put Γ.bx k (.arr sz l')}->(bX.arr sz l').vE {Γ with bx:=put Γ.bx k (.arr sz l')} (some b)):
  Le Γ {Γ with bx:=put Γ.bx k (.arr sz l')}∧Mem {Γ with bx:=put Γ.bx k (.arr sz l')}:=by
 have da:∀j,get (put Γ.bx k (.arr sz l')) j=if k=j then some (.arr sz l')else get Γ.bx j:=λj=>gL _ _ _ _
 have oh:∀j,(get (put Γ.bx k (.arr sz l')) j).isSome=true->(get Γ.bx j).isSome=true:=by
  intro j hj
  rw[da]at hj
  split at hj
  ·rename_i e;subst e;simp[hg]
  ·exact hj
 have hl:Le Γ {Γ with bx:=put Γ.bx k (.arr sz l')}:=by
  refine⟨λ_ _ _=>rfl,λb hb hm=> ?_,rfl,Nat.le_refl _,λj blk hj=> ?_⟩
  ·obtain⟨j,blk,h1,h2⟩:=hm
   have:=oh j (by rw[h1];rfl)
   obtain⟨b0,h3⟩:=Option.isSome_iff_exists.1 this
   exact⟨j,b0,h3,h2⟩
  ·by_cases e:k=j
   ·subst e
    rw[hg]at hj;cases hj
    exact⟨.arr sz l',by rw[da,if_pos rfl],by simpa[bX.aQ]using ht,λ_=>⟨rfl,λb hb cs e hh=>⟨cs,hh,rfl⟩⟩⟩
   ·exact⟨blk,by rw[da,if_neg e];exact hj,Nat.le_refl _,λ_=>⟨rfl,λb hb cs e hh=>⟨cs,hh,rfl⟩⟩⟩
 refine⟨hl,λj blk hj=> ?_,λi j b hi hj h1 h2=>hm.inj i j b (oh i hi) (oh j hj) h1 h2,hm.ed,λb hb hp=>hm.apart b ?_ hp,hm.lF hl⟩
 ·rw[da]at hj
  split at hj
  ·rename_i e;subst e;cases hj
   have:=hr hl
   rw[←hb]at this
   exact this
  ·exact(hm.blk j blk hj).mono hl (λb hb=>rfl)
 ·obtain⟨j,blk,h1,h2⟩:=hb
  have:=oh j (by rw[h1];rfl)
  obtain⟨b0,h3⟩:=Option.isSome_iff_exists.1 this
  exact⟨j,b0,h3,h2⟩
theorem HI {n:Nat} {K:St->Prop} (hs:gK nt ds s Γ a) (hle:Le Γ0 Γ) (h:Zc n s K):pY nt ds Γ0 Γ a K:=by
 unfold Zc at h
 split at h
 case h_2=>exact h.elim
 rename_i k len aQ sz he
 split at h
 case h_2=>exact h.elim
 rename_i dR l hg
 obtain⟨⟨rfl,rfl⟩,hK⟩:=h
 have ko:=hg
 rw[←hs.bx]at ko
 obtain⟨ad,bC,hv,eE⟩:=(hs.env n _ he).rs ko rfl
 obtain⟨lx,gF,kl⟩:=hs.mem.blk k _ ko
 have alR:=eE
 unfold iT at eE
 cases hι:Γ.ι k with
 |
  none=>
  rw[hι]at eE
  obtain⟨rfl,rfl,_⟩:=eE
  have hK:=hK 0 0 (.inr ⟨rfl,rfl,rfl⟩)
  rw[List.replicate_zero,List.append_nil,Nat.add_zero]at hK
  have ka:=lg ko
  have q1:=hs.le (nA ka) (xx hs.mem ka) (uq:=put s.bx k (.arr dR l)) (by rw[hs.bx])
  refine⟨{env:=put s.env n (.rs k [] 0 0 l.length dR (.full 0)),bx:=put s.bx k (.arr dR l)},{Γ with bx:=put Γ.bx k (.arr dR l)},⟨q1.bx,q1.size,q1.defers,λj p hj=> ?_,q1.mem⟩,rfl,hle.trans (nA ka),hK⟩
  simp only[gL]at hj
  split at hj
  ·rename_i e;subst e;cases hj
   rw[hv]
   simp only[aO]
   refine .rs k [] 0 0 l.length dR _ _ (.arr dR l) ⟨by rw[ka];exact ko,by simp[bX.aQ]⟩ rfl (λ_=>⟨ad,0,rfl,?_⟩) .nil
   unfold iT
   rw[show({Γ with bx:=put Γ.bx k (.arr dR l)}:Cx).ι k=none from hι]
   exact⟨rfl,rfl,rfl⟩
  ·exact q1.env j p hj
 |
  some b=>
  rw[hι]at eE kl
  obtain⟨o1,o2,_,o4⟩:=eE
  obtain⟨_,Hb,e0,q1,q2⟩:=o4 rfl
  obtain⟨c,ce,cs,rest,h7,h8,h9,D9⟩:=kl
  rw[q1]at h7
  simp only[sJ,Obj.cells.injEq]at h7
  obtain⟨rfl,rfl,_⟩:=h7
  have rN:cs.length=l.length*dR:=by rw[h9.length,b8 lx]
  have L7:Hb.size=cs.length+rest.length:=by rw[←Array.length_toList,h8];simp
  rw[Nat.zero_add]at q2
  have VL:l.length≤bC:=by
   refine Nat.le_of_not_lt λdG=> ?_
   have:bC*dR<l.length*dR:=Nat.mul_lt_mul_of_pos_right dG gF
   omega
  obtain⟨j,rfl⟩:∃j,bC=l.length+j:=⟨bC-l.length,by omega⟩
  have FI:rest.length=j*dR:=by rw[Nat.add_mul]at q2;omega
  have hK:=hK (l.length+j) j (.inl rfl)
  have DS:(l++List.replicate j (Mv dR)).length=l.length+j:=by simp
  obtain⟨g1,g2⟩:=Jy (l':=l++List.replicate j (Mv dR)) hs.mem ko hι (by rw[DS];omega) (λhl=>
   ⟨λx hx=>(List.mem_append.1 hx).elim (lx x) (λhx=>by rw[(List.mem_replicate.1 hx).2];rfl),gF,Hb,e0,cs++rest,[],q1,by rw[List.append_nil];exact h8,(h9.mono hl).append (Af FI D9),by simp⟩)
  have t1:=hs.le g1 g2 (uq:=put s.bx k (.arr dR (l++List.replicate j (Mv dR)))) (by rw[hs.bx])
  refine⟨{env:=put s.env n (.rs k [] 0 len (l.length+j) dR (.full (l.length+j))),bx:=put s.bx k (.arr dR (l++List.replicate j (Mv dR)))},_,⟨t1.bx,t1.size,t1.defers,λi p hj=> ?_,g2⟩,rfl,hle.trans g1,hK⟩
  simp only[gL]at hj
  split at hj
  ·rename_i e;subst e;cases hj
   rw[hv]
   simp only[aO]
   refine .rs k [] 0 len _ dR _ _ (.arr dR (l++List.replicate j (Mv dR))) ⟨by simp[dw],by simp[bX.aQ]⟩ rfl (λ_=>⟨ad,_,rfl,?_⟩) .nil
   unfold iT
   rw[show({Γ with bx:=put Γ.bx k (.arr dR (l++List.replicate j (Mv dR)))}:Cx).ι k=some b from hι]
   exact⟨o1,o2,rfl,λhc=>by cases hc⟩
  ·exact t1.env i p hj
inductive Cut
 |fz (k:Nat)
 |dr (k:Nat)
 |keep (sl:List Nat)
 |vt (n k sz:Nat)
 |wk (n:Nat)
 |wb (k:Nat)
 |vb (b:Nat) (p:List Step) (k sz:Nat)
 |mv (k k':Nat)
 |mt (n:Nat)
def IJ (n:Nat) (s:St) (K:St->Prop):Prop:=
 match get s.env n with
 |some p=>K {s with env:=put s.env n (wk p)}
 |none=>False
theorem HJ {n:Nat} {K:St->Prop} (hs:gK nt ds s Γ a) (hle:Le Γ0 Γ) (h:IJ n s K):pY nt ds Γ0 Γ a K:=by
 unfold IJ at h
 split at h
 ·rename_i p hp
  refine⟨{s with env:=put s.env n (Ab.wk p)},Γ,⟨hs.bx,hs.size,hs.defers,λj q hj=> ?_,hs.mem⟩,rfl,hle,h⟩
  simp only[gL]at hj
  split at hj
  ·rename_i hnj;subst hnj;cases hj;exact(hs.env _ p hp).wk
  ·exact hs.env j q hj
 ·exact h.elim
def WE (k:Nat) (s:St) (K:St->Prop):Prop:=
 match get s.bx k with
 |some (.box v)=>K {s with bx:=put s.bx k (.box (wk v))}
 |_=>False
theorem HL {K:St->Prop} (hs:gK nt ds s Γ a) (hle:Le Γ0 Γ) (h:WE k s K):pY nt ds Γ0 Γ a K:=by
 unfold WE at h
 split at h
 ·rename_i v hg
  rw[←hs.bx]at hg
  have da:∀j,get (put Γ.bx k (.box (Ab.wk v))) j=if k=j then some (.box (Ab.wk v))else get Γ.bx j:=λj=>gL _ _ _ _
  have oh:∀j,(get (put Γ.bx k (.box (Ab.wk v))) j).isSome=true->(get Γ.bx j).isSome=true:=by
   intro j hj
   rw[da]at hj
   split at hj
   ·rename_i e;subst e;simp[hg]
   ·exact hj
  have hl:Le Γ {Γ with bx:=put Γ.bx k (.box (Ab.wk v))}:=by
   refine⟨λ_ _ _=>rfl,λb hb hm=> ?_,rfl,Nat.le_refl _,λj blk hj=> ?_⟩
   ·obtain⟨j,blk,h1,h2⟩:=hm
    have:=oh j (by rw[h1];rfl)
    obtain⟨b0,h3⟩:=Option.isSome_iff_exists.1 this
    exact⟨j,b0,h3,h2⟩
   ·by_cases e:k=j
    ·subst e
     rw[hg]at hj;cases hj
     exact⟨.box (Ab.wk v),by rw[da,if_pos rfl],Nat.le_refl _,λ_=>⟨rfl,λb hb cs e hh=>⟨cs,hh,rfl⟩⟩⟩
    ·exact⟨blk,by rw[da,if_neg e];exact hj,Nat.le_refl _,λ_=>⟨rfl,λb hb cs e hh=>⟨cs,hh,rfl⟩⟩⟩
  have hm:Mem {Γ with bx:=put Γ.bx k (.box (Ab.wk v))}:=by
   refine⟨λj blk hj=> ?_,λi j b hi hj h1 h2=>hs.mem.inj i j b (oh i hi) (oh j hj) h1 h2,hs.mem.ed,λb hb hp=>hs.mem.apart b ?_ hp,hs.mem.lF hl⟩
   ·rw[da]at hj
    split at hj
    ·rename_i e;subst e;cases hj
     obtain⟨b,c,e,h1,h2,h3⟩:=hs.mem.blk _ _ hg
     exact⟨b,c,e,h1,h2,h3.wk.mono hl⟩
    ·exact(hs.mem.blk j blk hj).mono hl (λb hb=>rfl)
   ·obtain⟨j,blk,h1,h2⟩:=hb
    have:=oh j (by rw[h1];rfl)
    obtain⟨b0,h3⟩:=Option.isSome_iff_exists.1 this
    exact⟨j,b0,h3,h2⟩
  exact⟨{s with bx:=put s.bx k (.box (Ab.wk v))},_,⟨by simp[hs.bx],hs.size,hs.defers,λj q hj=>(hs.env j q hj).mono hl,hm⟩,rfl,hle.trans hl,h⟩
 ·exact h.elim
def WG (b:Nat) (p:List Step) (k sz:Nat) (s:St) (K:St->Prop):Prop:=
 match get s.bx b with
 |
  some (.box v)=>(match bf v p,eL v p (.rs k [] 0 0 0 sz .tip)with
  |some (.sl _ [] true),some v'=>(get s.bx k=none∧0<sz)∧K {s with bx:=put (put s.bx k (.arr sz [])) b (.box v')}
  |_,_=>False)
 |_=>False
theorem Jz {v v':PV} (hm:Mem Γ) (hg:get Γ.bx k=some (.box v)) (hv:∀cs,aG Γ [v] cs->aG Γ [v'] cs):
  Le Γ {Γ with bx:=put Γ.bx k (.box v')}∧Mem {Γ with bx:=put Γ.bx k (.box v')}:=by
 have da:∀j,get (put Γ.bx k (.box v')) j=if k=j then some (.box v')else get Γ.bx j:=λj=>gL _ _ _ _
 have oh:∀j,(get (put Γ.bx k (.box v')) j).isSome=true->(get Γ.bx j).isSome=true:=by
  intro j hj
  rw[da]at hj
  split at hj
  ·rename_i e;subst e;simp[hg]
  ·exact hj
 have hl:Le Γ {Γ with bx:=put Γ.bx k (.box v')}:=by
  refine⟨λ_ _ _=>rfl,λb hb hm=> ?_,rfl,Nat.le_refl _,λj blk hj=> ?_⟩
  ·obtain⟨j,blk,h1,h2⟩:=hm
   have:=oh j (by rw[h1];rfl)
   obtain⟨b0,h3⟩:=Option.isSome_iff_exists.1 this
   exact⟨j,b0,h3,h2⟩
  ·by_cases e:k=j
   ·subst e
    rw[hg]at hj;cases hj
    exact⟨.box v',by rw[da,if_pos rfl],Nat.le_refl _,λ_=>⟨rfl,λb hb cs e hh=>⟨cs,hh,rfl⟩⟩⟩
   ·exact⟨blk,by rw[da,if_neg e];exact hj,Nat.le_refl _,λ_=>⟨rfl,λb hb cs e hh=>⟨cs,hh,rfl⟩⟩⟩
 refine⟨hl,λj blk hj=> ?_,λi j b hi hj h1 h2=>hm.inj i j b (oh i hi) (oh j hj) h1 h2,hm.ed,λb hb hp=>hm.apart b ?_ hp,hm.lF hl⟩
 ·rw[da]at hj
  split at hj
  ·rename_i e;subst e;cases hj
   obtain⟨b,c,e,h1,h2,h3⟩:=hm.blk _ _ hg
   exact⟨b,c,e,h1,h2,(hv _ h3).mono hl⟩
  ·exact(hm.blk j blk hj).mono hl (λb hb=>rfl)
 ·obtain⟨j,blk,h1,h2⟩:=hb
  have:=oh j (by rw[h1];rfl)
  obtain⟨b0,h3⟩:=Option.isSome_iff_exists.1 this
  exact⟨j,b0,h3,h2⟩
theorem HM {b:Nat} {p:List Step} {K:St->Prop} (hs:gK nt ds s Γ a) (hle:Le Γ0 Γ) (h:WG b p k sz s K):pY nt ds Γ0 Γ a K:=by
 unfold WG at h
 split at h
 case h_2=>exact h.elim
 rename_i v hg
 split at h
 case h_2=>exact h.elim
 rename_i z v' FD wm
 obtain⟨⟨jn,iq⟩,hK⟩:=h
 rw[←hs.bx]at jn hg
 have hl:=qV Γ (.arr sz []) jn
 have hm:=xu hs.mem jn (blk:= .arr sz []) ⟨by simp,iq,trivial⟩
 have IC:b≠k:=by rintro rfl;rw[hg]at jn;simp at jn
 have hg2:get (Γ.kV k (.arr sz [])).bx b=some (.box v):=by
  simp only[Cx.kV];rw[cP _ _ _ _ (λh=>IC h.symm)];exact hg
 obtain⟨h1,h2⟩:=Jz (v':=v') hm hg2 (by
  intro cs hc
  obtain⟨Iz,hr⟩:=oD p hc FD
  have hw:(PV.sl z [] true).width=1:=rfl
  rw[hw]at Iz hr
  obtain⟨x,hx⟩:∃x,(cs.drop (du p)).take 1=[x]:=by
   have hlen:((cs.drop (du p)).take 1).length=1:=by rw[lJ,List.length_drop];omega
   exact List.length_eq_one_iff.1 hlen
  rw[hx]at hr
  have MW:aG (Γ.kV k (.arr sz [])) [.rs k [] 0 0 0 sz .tip] [x]:=by
   cases hr with
   |
    @sl _ _ cs _ _ _ ad bC h1 h2 h3 h4 h5 h6=>
    have hr0:bC=0:=h4 rfl
    subst hr0
    refine .rs k [] 0 0 0 sz .tip _ (.arr sz []) ⟨by simp[Cx.kV,dw],by simp[bX.aQ]⟩ rfl (λ_=>⟨ad,0,rfl,?_⟩) .nil
    unfold iT
    simp[Cx.kV,mI]
  obtain⟨g1,g2,g3⟩:=xn MW p hc wm
  have e:bU cs (du p) [x]=cs:=by
   unfold bU
   rw[←hx,lJ,List.length_drop,Nat.min_eq_left (by omega),List.append_assoc]
   rw[←List.drop_drop,List.take_append_drop,List.take_append_drop]
  rwa [e]at g3)
 refine⟨{s with bx:=put (put s.bx k (.arr sz [])) b (.box v')},_,⟨by simp[Cx.kV,hs.bx],hs.size,hs.defers,λj q hj=>((hs.env j q hj).mono hl).mono h1,h2⟩,rfl,(hle.trans hl).trans h1,hK⟩
def ku:Cut->St->(St->Prop)->Prop
 | .fz k,s,K=>WB k s K
 | .dr k,s,K=>dr1 k s K
 | .keep sl,s,K=>K {s with env:=me sl s.env}
 | .vt n k sz,s,K=>WC n k sz s K
 | .wk n,s,K=>IJ n s K
 | .wb k,s,K=>WE k s K
 | .vb b p k sz,s,K=>WG b p k sz s K
 | .mv k k',s,K=>Zb k k' s K
 | .mt n,s,K=>Zc n s K
def jq:List Cut->St->(St->Prop)->Prop
 |[],s,K=>K s
 |c::r,s,K=>ku c s λs'=>jq r s' K
theorem lL {K:St->Prop} (nu:HK Γ0):∀(c:List Cut) {s:St} {Γ:Cx},gK nt ds s Γ a->Le Γ0 Γ->jq c s K->pY nt ds Γ0 Γ a K
 |[],s,Γ,hs,hle,h=>⟨s,Γ,hs,rfl,hle,h⟩
 |
  c::r,s,Γ,hs,hle,h=>by
  have:pY nt ds Γ0 Γ a λs'=>jq r s' K:=by
   cases c with
   |fz k=>exact HE hs hle nu h
   |dr k=>exact HF hs hle nu h
   |keep sl=>exact Ex hs hle h
   |vt n k sz=>exact HG hs hle h
   |wk n=>exact HJ hs hle h
   |wb k=>exact HL hs hle h
   |vb b p k sz=>exact HM hs hle h
   |mv k k'=>exact HH hs hle nu h
   |mt n=>exact HI hs hle h
  obtain⟨s',Γ',h1,h2,h3,h4⟩:=this
  obtain⟨s2,Γ2,g1,g2,g3,g4⟩:=lL nu r h1 h3 h4
  exact⟨s2,Γ2,g1,by rw[g2,h2],g3,g4⟩
end Go.Ab
namespace Go.Ab
variable [eJ]
variable {P:Program} {nt:Nat} {ds:List Deferred} {s s':St} {Γ:Cx} {a:Act} {w:World} {Q:Exit->Act->World->Prop} [ji]
def Ez:bX:= .map 0 (.i .u8) (.i .u8) []
def Sub (b c:List (Nat×bX)):Prop:=∀k blk,get b k=some blk->get c k=some blk∨blk=Ez∧∃v,get c k=some (.box v)
theorem Sub.refl (b:List (Nat×bX)):Sub b b:=λ_ _ h=> .inl h
theorem Sub.trans {a b c:List (Nat×bX)} (h:Sub a b) (h':Sub b c):Sub a c:=by
 intro k blk hk
 rcases h k blk hk with h1|⟨h1,v,h2⟩
 ·exact h' k blk h1
 ·rcases h' k _ h2 with h3|⟨h3,_⟩
  ·exact .inr ⟨h1,v,h3⟩
  ·simp[Ez]at h3
theorem CL (hb:Sub s.bx s'.bx) {p:PV} {K:Nat->List PV->Prop} (h:content s p K):content s' p K:=by
 cases p<;>simp only[content]at h⊢<;>first|exact h|skip
 rename_i k p off len aQ sz c
 cases hg:get s.bx k with
 |none=>rw[hg]at h;exact h.elim
 |
  some b=>
  rw[hg]at h
  rcases hb k b hg with h1|⟨rfl,v1,h1⟩
  ·rw[h1];exact h
  ·rw[h1];simp only[Ez,jN,bX.aQ]at h⊢<;>exact h
theorem JA (hb:Sub s.bx s'.bx) {op:BinOp} {e:ET} {p q:PV} {K:PV->Prop} (h:pq s op e p q K):pq s' op e p q K:=by
 cases e<;>simp only[pq]at h⊢<;>first|exact h|skip
 cases p<;>cases q<;>simp only at h⊢<;>first|exact h|skip
 rename_i k _ _
 cases hg:get s.bx k with
 |none=>rw[hg]at h;exact h.elim
 |
  some b=>
  rw[hg]at h
  rcases hb k b hg with h1|⟨rfl,v1,h1⟩
  ·rw[h1];exact h
  ·rw[h1];simp only[Ez,jN,bX.aQ]at h⊢<;>exact h
theorem cQ {g:Bool} {x:AX} {K K':PV->Prop} (hk:vg g s x K) (h:∀p,K p->K' p):vg g s x K':=by
 obtain⟨p,h1,h2⟩:=oM g s x K hk;exact h2 K' (h p h1)
theorem nE {p:PV} {K K':Int->Prop} (hk:mS p K) (h:∀n,K n->K' n):mS p K':=by
 obtain⟨n,h1,h2⟩:=nZ p K hk;exact h2 K' (h n h1)
theorem EA {g:Bool} {k:AK} {K:PV->Prop} (hb:Sub s.bx s'.bx) (h:dY s s' k.reads) (he:ev g s k K):ev g s' k K:=by
 cases k with
 |mv x=>simp only[ev]at he⊢;rw[aH h];exact he
 |pick c a b=>simp only[ev]at he⊢;rw[aH h.left.left,kt h.left.right,kt h.right];exact he
 |build z parts=>simp only[ev]at he⊢;rw[lH h];exact he
 |
  load agg w x=>
  simp only[ev]at he⊢;rw[aH h]
  refine cQ he λp hp=> ?_
  cases p<;>simp only at hp⊢<;>first|exact hp|skip
  rename_i k _ _
  cases hg:get s.bx k with
  |none=>rw[hg]at hp;exact hp.elim
  |
   some b=>
   rw[hg]at hp
   rcases hb k b hg with h1|⟨rfl,v1,h1⟩
   ·rw[h1];exact hp
   ·rw[h1];simp only[Ez,jN,bX.aQ]at hp⊢<;>exact hp
 |
  nilCheck x=>
  simp only[ev]at he⊢;rw[aH h]
  refine cQ he λp hp=> ?_
  cases p<;>first|exact hp|(rename_i f _ _;cases f<;>exact hp)|skip
  rename_i k _ _
  simp only at hp⊢
  cases hg:get s.bx k with
  |none=>rw[hg]at hp;exact hp.elim
  |
   some b=>
   rw[hg]at hp
   rcases hb k b hg with h1|⟨rfl,v1,h1⟩
   ·rw[h1];exact hp
   ·rw[h1];simp only[Ez,jN,bX.aQ]at hp⊢<;>exact hp
 |bin op e x y=>simp only[ev]at he⊢;rw[aH h.left];refine cQ he λp hp=> ?_;rw[aH h.right];exact cQ hp λq hq=>JA hb hq
 |un op x=>simp only[ev]at he⊢;rw[aH h];exact he
 |convI k x=>simp only[ev]at he⊢;rw[aH h];exact he
 |convS x=>simp only[ev]at he⊢;rw[aH h];exact cQ he λp hp=>CL hb hp
 |mkFunc f a b=>simp only[ev]at he⊢;rw[gA h.left];simp only[gA h.right];exact he
 |
  slice k x lo hi mx=>
  have hx:=aH (g:=g) h.left
  have hl:=λn c=>xI (g:=g) h.right.left h.right.right.left n c
  have hm:=h.right.right.right
  cases k with
  |str=>simp only[ev,hx,hl]at he⊢;exact he
  |
   sl sz=>
   simp only[ev,hx,hl]at he⊢
   refine cQ he λp hp=> ?_
   cases p<;>simp only at hp⊢<;>first|exact hp|skip
   ·cases mx with
    |none=>exact hp
    |some m=>simp only at hp⊢;rw[aH (x:=m) hm];exact hp
   ·rename_i k _ _ _ _ _ _
    cases hg:get s.bx k with
    |none=>rw[hg]at hp;exact hp.elim
    |
     some b=>
     rw[hg]at hp
     rcases hb k b hg with h1|⟨rfl,v1,h1⟩
     ·rw[h1]
      cases mx with
      |none=>exact hp
      |some m=>simp only at hp⊢;rw[aH (x:=m) hm];exact hp
     ·rw[h1];simp only[Ez,jN,bX.aQ]at hp⊢
      cases mx with
      |none=>exact hp
      |some m=>simp only at hp⊢;rw[aH (x:=m) hm];exact hp
  |
   ar n sz=>
   simp only[ev,hx,hl]at he⊢
   refine cQ he λp hp=> ?_
   cases p<;>simp only at hp⊢<;>first|exact hp|skip
   rename_i k _ _
   cases hg:get s.bx k with
   |none=>rw[hg]at hp;exact hp.elim
   |
    some b=>
    rw[hg]at hp
    rcases hb k b hg with h1|⟨rfl,v1,h1⟩
    ·rw[h1];exact hp
    ·rw[h1];simp only[Ez,jN,bX.aQ]at hp⊢<;>exact hp
 |
  fieldA i off x=>
  simp only[ev]at he⊢;rw[aH h]
  refine cQ he λp hp=> ?_
  cases p<;>simp only at hp⊢<;>first|exact hp|skip
  rename_i k _ _
  cases hg:get s.bx k with
  |none=>rw[hg]at hp;exact hp.elim
  |
   some b=>
   rw[hg]at hp
   rcases hb k b hg with h1|⟨rfl,v1,h1⟩
   ·rw[h1];exact hp
   ·rw[h1];simp only[Ez,jN,bX.aQ]at hp⊢<;>exact hp
 |
  s2a n sz x=>
  simp only[ev]at he⊢;rw[aH h]
  refine cQ he λp hp=> ?_
  cases p<;>simp only at hp⊢<;>first|exact hp|skip
  rename_i k _ _ _ _ _ _
  cases hg:get s.bx k with
  |none=>rw[hg]at hp;exact hp.elim
  |
   some b=>
   rw[hg]at hp
   rcases hb k b hg with h1|⟨rfl,v1,h1⟩
   ·rw[h1];exact hp
   ·rw[h1];simp only[Ez,jN,bX.aQ]at hp⊢<;>exact hp
 |field i off agg w x=>simp only[ev]at he⊢;rw[aH h];exact he
 |
  indexA k x i=>
  have hx:=aH (g:=g) h.left
  have hi:=aH (g:=g) h.right
  cases k with
  |str=>simp only[ev]at he
  |
   sl sz=>
   simp only[ev,hx,hi]at he⊢
   refine cQ he λp hp=>cQ hp λq hq=>nE hq λj hj=> ?_
   cases p<;>simp only at hj⊢<;>first|exact hj|skip
   rename_i k _ _ _ _ _ _
   cases hg:get s.bx k with
   |none=>rw[hg]at hj;exact hj.elim
   |
    some b=>
    rw[hg]at hj
    rcases hb k b hg with h1|⟨rfl,v1,h1⟩
    ·rw[h1];exact hj
    ·rw[h1];simp only[Ez,jN,bX.aQ]at hj⊢<;>exact hj
  |
   ar n sz=>
   simp only[ev,hx,hi]at he⊢
   refine cQ he λp hp=>cQ hp λq hq=>nE hq λj hj=>⟨hj.1,?_⟩
   have hj:=hj.2
   cases p<;>simp only at hj⊢<;>first|exact hj|skip
   rename_i k _ _ _
   cases hg:get s.bx k with
   |none=>rw[hg]at hj;exact hj.elim
   |
    some b=>
    rw[hg]at hj
    rcases hb k b hg with h1|⟨rfl,v1,h1⟩
    ·rw[h1];exact hj
    ·rw[h1];simp only[Ez,jN,bX.aQ]at hj⊢<;>exact hj
 |index agg n w x i=>simp only[ev]at he⊢;rw[aH h.left,aH h.right];exact he
 |indexS x i=>simp only[ev]at he⊢;rw[aH h.left,aH h.right];exact he
 |extract i x=>simp only[ev]at he⊢;rw[kt h];exact he
 |
  len x=>
  simp only[ev]at he⊢;rw[aH h]
  refine cQ he λp hp=> ?_
  cases p<;>simp only at hp⊢<;>first|exact hp|skip
  rename_i k _ _ _ _ _ _
  cases hg:get s.bx k with
  |none=>rw[hg]at hp;exact hp.elim
  |
   some b=>
   rw[hg]at hp
   rcases hb k b hg with h1|⟨rfl,v1,h1⟩
   ·rw[h1];exact hp
   ·rw[h1];simp only[Ez,jN,bX.aQ]at hp⊢<;>exact hp
 |
  cap x=>
  simp only[ev]at he⊢;rw[aH h]
  refine cQ he λp hp=> ?_
  split at hp
  ·rename_i k p off len aQ sz n
   cases hg:get s.bx k with
   |none=>rw[hg]at hp;exact hp.elim
   |
    some b=>
    rw[hg]at hp
    rcases hb k b hg with h1|⟨rfl,v1,h1⟩
    ·rw[h1];exact hp
    ·rw[h1];simp only[Ez,jN,bX.aQ]at hp⊢<;>exact hp
  ·exact hp.elim
 |lenS x=>simp only[ev]at he⊢;rw[aH h];exact he
 |lenC n=>simp only[ev]at he⊢;exact he
 |mm mx xs=>simp only[ev]at he⊢;rw[gA h];exact he
 |_=>simp only[ev]at he
def Qv (P:Program) (r:St) (o:AO) (v:PV):Prop:=∀s':St,Sub r.bx s'.bx->dY r s' o.reads->∀K':St->Prop,K' (s'.put o.dst v)->iu P s' o K'
theorem Bq {o:AO} {K:St->Prop} (hq:o.quiet=true) (h:kI P s o K):
  ∃v,K (s.put o.dst v)∧∀s',Sub s.bx s'.bx->dY s s' o.k.reads->∀K':St->Prop,K' (s'.put o.dst v)->kI P s' o K':=by
 obtain⟨dst,guard,mg,k⟩:=o
 cases k with
 |call f args=>simp[AO.quiet]at hq
 |
  callq f args=>
  simp only[kI]at h⊢
  unfold nB at h
  obtain⟨pf,h,h1⟩:=oM _ _ _ _ h
  obtain⟨ps,h,h2⟩:=pA _ _ _ _ h
  split at h
  case h_2=>exact h.elim
  rename_i fid first cap
  obtain⟨v,zO,yT,hK⟩:=h
  refine⟨v,hK,λs' hb ha K' j6=> ?_⟩
  unfold nB
  rw[aH ha.left]
  refine h1 _ ?_
  rw[gA ha.right]
  exact h2 _ ⟨v,zO,yT,j6⟩
 |
  buildSlice own sz z n parts=>
  simp only[AO.quiet,Bool.not_eq_true']at hq
  subst hq
  simp only[kI,nQ,if_true]at h⊢
  simp only[ex]at h
  obtain⟨ps,h,h1⟩:=uL _ _ _ _ h
  split at h
  case h_2=>exact h.elim
  rename_i l hl
  simp only[fJ,if_false]at h
  refine⟨_,h,λs' hb ha K' j6=> ?_⟩
  simp only[ex]
  rw[lH ha]
  refine h1 _ ?_
  simp only[hl,fJ,if_false]
  exact j6
 |
  _=>
  first
  |(simp[AO.quiet,nQ]at hq;done)
  |(simp only[kI,nQ,fJ,if_false]at h⊢
    obtain⟨v,hK,hv⟩:=pX _ _ _ _ h
    refine⟨v,hK,λs' hb ha K' j6=> ?_⟩
    exact EA hb ha (hv _ j6))
theorem qY {o:AO} {K:St->Prop} (hq:o.quiet=true) (h:iu P s o K):∃v,K (s.put o.dst v)∧Qv P s o v:=by
 unfold iu at h
 cases hg:o.guard with
 |
  none=>
  rw[hg]at h
  obtain⟨v,hK,hv⟩:=Bq hq h
  refine⟨v,hK,λs' hb ha K' j6=> ?_⟩
  unfold iu;rw[hg]
  exact hv s' hb ha.right K' j6
 |
  some gw=>
  obtain⟨sl,want⟩:=gw
  rw[hg]at h
  simp only at h
  have da:∀ {s':St},dY s s' o.reads->get s'.env sl=get s.env sl:=λha=>ha sl (by simp[AO.reads,hg])
  split at h
  ·rename_i b hb
   split at h
   ·rename_i hm
    obtain⟨v,hK,hv⟩:=pX _ _ _ _ h
    refine⟨_,hK,λs' lA ha K' j6=> ?_⟩
    unfold iu;rw[hg];simp only[da ha,hb,hm,if_true]
    exact EA lA ha.right (hv _ j6)
   ·rename_i hm
    by_cases nb:b=want
    ·obtain⟨v,hK,hv⟩:=Bq hq (h.1 nb)
     refine⟨v,hK,λs' lA ha K' j6=> ?_⟩
     unfold iu;rw[hg];simp only[da ha,hb,hm]
     exact⟨λ_=>hv s' lA ha.right K' j6,λhn=>absurd nb hn⟩
    ·refine⟨.un,h.2 nb,λs' lA ha K' j6=> ?_⟩
     unfold iu;rw[hg];simp only[da ha,hb,hm]
     exact⟨λhn=>absurd hn nb,λ_=>j6⟩
  ·rename_i g b hb
   split at h
   ·rename_i hm
    obtain⟨v,hK,hv⟩:=pX _ _ _ _ h
    refine⟨_,hK,λs' lA ha K' j6=> ?_⟩
    unfold iu;rw[hg];simp only[da ha,hb,hm,if_true]
    exact EA lA ha.right (hv _ j6)
   ·rename_i hm
    by_cases nb:g=true∧b=want
    ·obtain⟨v,hK,hv⟩:=Bq hq (h.1 nb.1 nb.2)
     refine⟨v,hK,λs' lA ha K' j6=> ?_⟩
     unfold iu;rw[hg];simp only[da ha,hb,hm]
     exact⟨λ_ _=>hv s' lA ha.right K' j6,λhn=>absurd nb.2 (hn nb.1)⟩
    ·refine⟨.un,h.2 (λh1 h2=>nb ⟨h1,h2⟩),λs' lA ha K' j6=> ?_⟩
     unfold iu;rw[hg];simp only[da ha,hb,hm]
     exact⟨λh1 h2=>absurd ⟨h1,h2⟩ nb,λ_=>j6⟩
  ·exact h.elim
end Go.Ab
namespace Go.Ab
variable [eJ]
variable {P:Program} {nt:Nat} {ds:List Deferred} {s s':St} [ji]
def pZ (d:Option Nat) (s t:St):Prop:=∀n,d≠some n->get t.env n=get s.env n
theorem iy {k:Nat} {v:PV} {b:List (Nat×bX)}:pZ (some k) s {env:=put s.env k v,bx:=b}:=by
 intro n hn
 rw[cP]
 intro e;exact hn (by rw[e])
theorem jV {d:Option Nat} {v:PV} {b:List (Nat×bX)}:pZ d s ({s with bx:=b}.put d v):=by
 cases d with
 |none=>intro n _;rfl
 |some k=>exact iy
theorem CM {d:Option Nat} {b:List (Nat×bX)}:pZ d s {s with bx:=b}:=λ_ _=>rfl
theorem lp {e k:Nat} {u v:PV} {b:List (Nat×bX)} (h:k≠e):({env:=put (put s.env e u) k v,bx:=b}:St)=St.put {env:=put s.env k v,bx:=b} (some e) u:=by
 simp only[St.put];rw[Ab.put_comm (Ne.symm h)]
theorem nF {e:Nat} {d:Option Nat} {u v:PV} {b:List (Nat×bX)} (h:d≠some e):St.put {s.put (some e) u with bx:=b} d v=St.put (St.put {s with bx:=b} d v) (some e) u:=by
 cases d with
 |none=>rfl
 |
  some k=>
  have:k≠e:=λh'=>h (by rw[h'])
  simp only[St.put];rw[Ab.put_comm (Ne.symm this)]
theorem vP {e:Nat} {u:PV} {p:PV}:content (s.put (some e) u) p=content s p:=rR rfl p
theorem F1 {e:Nat} {u:PV} {str:Bool} {sz:Nat} {q:PV} {K:List PV->Prop}:src (s.put (some e) u) str sz q K=src s str sz q K:=by
 unfold src;simp only[vP]
theorem tF {e:Nat} {u:PV} {d:Option Nat} {sz bytes:Nat} {p:PV} {ys:List PV} {K:St->Prop} (hd:d≠some e) (h:ic (s.put (some e) u) d sz bytes p ys K):
  ic s d sz bytes p ys λt=>K (t.put (some e) u)∧pZ d s t:=by
 cases d with
 |none=>exact h.elim
 |
  some k=>
  have hk:k≠e:=λh'=>hd (by rw[h'])
  unfold ic at h⊢
  simp only at h⊢
  split at h
  ·refine⟨h.1,?_,iy⟩
   rw[←lp hk];exact h.2
  ·have lA:(s.put (some e) u).bx=s.bx:=rfl
   rw[lA]at h
   split at h
   ·refine⟨h.1,?_,iy⟩
    rw[←lp hk];exact h.2
   ·exact h.elim
  ·have lA:(s.put (some e) u).bx=s.bx:=rfl
   rw[lA]at h
   split at h
   ·refine⟨h.1,λhle=>⟨?_,iy⟩,λdG=>⟨?_,iy⟩⟩
    ·rw[←lp hk];exact h.2.1 hle
    ·rw[←lp hk];exact h.2.2 dG
   ·exact h.elim
  ·rw[vP]at h
   obtain⟨dR,l,h,h2⟩:∃dR l,_∧_:=by
    have:=h
    exact nC _ _ _ this
   exact h2 _ ⟨h.1,by rw[←lp hk];exact h.2,iy⟩
  ·exact h.elim
theorem EB {e:Nat} {u:PV} {d:Option Nat} {sz bytes:Nat} {z p:PV} {m:Int} {K:St->Prop} (hd:d≠some e) (h:ny (s.put (some e) u) d sz bytes z p m K):
  ny s d sz bytes z p m λt=>K (t.put (some e) u)∧pZ d s t:=by
 cases d with
 |none=>exact h.elim
 |
  some k=>
  have hk:k≠e:=λh'=>hd (by rw[h'])
  unfold ny at h⊢
  simp only at h⊢
  split at h
  ·have lA:(s.put (some e) u).bx=s.bx:=rfl
   rw[lA]at h
   split at h
   ·refine⟨h.1,?_,iy⟩
    rw[←lp hk];exact h.2
   ·exact h.elim
  ·exact h.elim
theorem sn {e:Nat} {u:PV} {d:Option Nat} {sz:Nat} {p:PV} {ys:List PV} {K:St->Prop} (hd:d≠some e) (h:jT (s.put (some e) u) d sz p ys K):
  jT s d sz p ys λt=>K (t.put (some e) u)∧pZ d s t:=by
 have lA:(s.put (some e) u).bx=s.bx:=rfl
 cases p<;>simp only[jT]at h⊢<;>first|exact h|skip
 rename_i k pth off len aQ dR c
 rw[lA]at h
 split at h
 ·refine⟨h.1,?_,jV⟩
  rw[←nF hd];exact h.2
 ·rename_i v hv
  split at h
  ·rename_i sz'' n l hg
   split at h
   ·rename_i v' hs
    refine⟨h.1,?_,jV⟩
    rw[←nF hd];exact h.2
   ·exact h.elim
  ·exact h.elim
 ·exact h.elim
theorem JB {e:Nat} {u:PV} {d:Option Nat} {k:AK} {K:St->Prop} (hd:d≠some e) (hr:e∉k.reads) (h:ex (s.put (some e) u) d k K):
  ex s d k λt=>K (t.put (some e) u)∧pZ d s t:=by
 have ag:dY s (s.put (some e) u) k.reads:=dY.put (λj hj=>by cases hj;exact hr)
 have lA:(s.put (some e) u).bx=s.bx:=rfl
 cases k with
 |
  alloc z=>
  cases d with
  |none=>exact h.elim
  |
   some k=>
   have hk:k≠e:=λh'=>hd (by rw[h'])
   simp only[ex]at h⊢
   refine⟨h.1,?_,iy⟩
   rw[←lp hk];exact h.2
 |
  box x=>
  cases d with
  |none=>exact h.elim
  |
   some k=>
   have hk:k≠e:=λh'=>hd (by rw[h'])
   simp only[ex]at h⊢
   rw[aH ag]at h
   refine cQ h λp hp=>⟨hp.1,?_,iy⟩
   rw[←lp hk];exact hp.2
 |
  buildSlice own sz z n parts=>
  simp only[ex]at h⊢
  rw[lH ag]at h
  obtain⟨ps,h,h1⟩:=uL _ _ _ _ h
  refine h1 _ ?_
  split at h
  ·split at h
   ·cases d with
    |none=>exact h.elim
    |
     some k=>
     have hk:k≠e:=λh'=>hd (by rw[h'])
     rename_i l hl ho
     simp only[hl,ho,if_true]
     refine⟨h.1,?_,iy⟩
     rw[←lp hk];exact h.2
   ·rename_i l hl ho
    simp only[hl,if_neg ho]
    refine⟨?_,jV (b:=s.bx)⟩
    have:=nF (s:=s) (b:=s.bx) (u:=u) (v:= .sl sz l true) hd
    exact this▸h
  ·exact h.elim
 |
  makeSlice sz bytes z len cap=>
  cases d with
  |
   none=>
   simp only[ex]at h
   obtain⟨p,h,_⟩:=oM _ _ _ _ h
   obtain⟨l,h,_⟩:=nZ _ _ h
   obtain⟨q,h,_⟩:=oM _ _ _ _ h
   obtain⟨c,h,_⟩:=nZ _ _ h
   exact h.elim
  |
   some k=>
   have hk:k≠e:=λh'=>hd (by rw[h'])
   simp only[ex]at h⊢
   rw[aH ag.left]at h
   refine cQ h λp hp=>nE hp λl hl=> ?_
   rw[aH ag.right]at hl
   refine cQ hl λq hq=>nE hq λc hc=>⟨hc.1,?_,iy⟩
   rw[←lp hk];exact hc.2
 |
  store n x y=>
  simp only[ex]at h⊢
  rw[aH ag.left]at h
  refine cQ h λp hp=> ?_
  rw[aH ag.right]at hp
  refine cQ hp λv hv=> ?_
  cases p<;>simp only at hv⊢
  rename_i k pth aQ
  rw[lA]at hv
  split at hv
  ·split at hv
   ·exact⟨hv.1,hv.2,CM⟩
   ·exact hv.elim
  ·exact hv.elim
 |
  isNil ng x=>
  simp only[ex]at h⊢
  rw[aH ag]at h
  refine cQ h λp hp=> ?_
  cases p<;>simp only at hp⊢
  ·intro b hb
   refine⟨?_,jV (b:=s.bx)⟩
   have:=nF (s:=s) (b:=s.bx) (u:=u) (v:= .bl (b !=ng)) hd
   exact this▸hp b hb
  ·rename_i k _ _ _ _ _ _
   rw[lA]at hp
   split at hp
   ·refine⟨hp.1,λb hb=>⟨?_,jV (b:=s.bx)⟩⟩
    have:=nF (s:=s) (b:=s.bx) (u:=u) (v:= .bl (b !=ng)) hd
    exact this▸hp.2 b hb
   ·exact hp.elim
 |
  appendZ sz bytes z x y=>
  simp only[ex]at h⊢
  rw[aH ag.left]at h
  refine cQ h λp hp=> ?_
  rw[aH ag.right]at hp
  refine cQ hp λq hq=>nE hq λm hm=>EB hd hm
 |
  append sz bytes str x y=>
  simp only[ex]at h⊢
  rw[aH ag.left]at h
  refine cQ h λp hp=> ?_
  rw[aH ag.right]at hp
  refine cQ hp λq hq=> ?_
  rw[F1]at hq
  unfold src at hq⊢
  split at hq
  ·rename_i hs
   simp only[hs,if_true]
   cases q<;>simp only at hq⊢
   exact⟨hq.1,tF hd hq.2⟩
  ·rename_i hs
   simp only[hs]
   obtain⟨z,l,hq,h2⟩:=nC _ _ _ hq
   exact h2 _ ⟨hq.1,tF hd hq.2⟩
 |
  copy sz x y=>
  simp only[ex]at h⊢
  rw[aH ag.left]at h
  refine cQ h λp hp=> ?_
  rw[aH ag.right]at hp
  refine cQ hp λq hq=> ?_
  have aiA:∀str,src (s.put (some e) u) str sz q (λys=>jT (s.put (some e) u) d sz p ys K)->src s str sz q (λys=>jT s d sz p ys λt=>K (t.put (some e) u)∧pZ d s t):=by
   intro str hq
   rw[F1]at hq
   unfold src at hq⊢
   split at hq
   ·rename_i hs
    simp only[hs,if_true]
    cases q<;>simp only at hq⊢
    exact⟨hq.1,sn hd hq.2⟩
   ·rename_i hs
    simp only[hs]
    obtain⟨z,l,hq,h2⟩:=nC _ _ _ hq
    exact h2 _ ⟨hq.1,sn hd hq.2⟩
  cases q<;>exact aiA _ hq
 |
  fill sz z x=>
  simp only[ex]at h⊢
  rw[aH ag]at h
  refine cQ h λp hp=> ?_
  obtain⟨h1,h2⟩:=hp
  subst h1
  refine⟨rfl,?_⟩
  cases p<;>simp only at h2⊢<;>first|exact h2.elim|skip
  exact sn hd h2
 |
  mkMap ks vs=>
  cases d with
  |none=>exact h.elim
  |
   some k=>
   have hk:k≠e:=λh'=>hd (by rw[h'])
   simp only[ex]at h⊢
   refine⟨h.1,λb=>⟨?_,iy⟩⟩
   rw[←lp hk];exact h.2 b
 |
  mapGet ks vs z ok m x=>
  simp only[ex]at h⊢
  rw[aH ag.left]at h
  refine cQ h λpm hp=> ?_
  rw[aH ag.right]at hp
  refine cQ hp λp hq=> ?_
  cases pm<;>simp only at hq⊢<;>first|exact hq.elim|skip
  rw[lA]at hq
  split at hq
  ·rename_i b' ks' vs' l hg
   refine⟨hq.1,?_,jV (b:=s.bx)⟩
   have:=nF (s:=s) (b:=s.bx) (u:=u) (v:=if ok=true then .tup [(SB p l).getD z,.bl (SB p l).isSome]else(SB p l).getD z) hd
   exact this▸hq.2
  ·exact hq.elim
 |
  mapSet ks vs m x y=>
  simp only[ex]at h⊢
  rw[aH ag.left]at h
  refine cQ h λpm hp=> ?_
  rw[aH ag.right.left]at hp
  refine cQ hp λp hq=> ?_
  rw[aH ag.right.right]at hq
  refine cQ hq λv hv=> ?_
  cases pm<;>simp only at hv⊢<;>first|exact hv.elim|skip
  rw[lA]at hv
  split at hv
  ·exact⟨hv.1,hv.2,CM⟩
  ·exact hv.elim
 |
  convL x=>
  simp only[ex]at h⊢
  rw[aH ag]at h
  refine cQ h λp hp=> ?_
  cases p<;>simp only at hp⊢<;>first|exact hp.elim|skip
  rename_i k pth off len aQ sz c
  rw[lA]at hp
  split at hp
  ·rename_i dR l hg
   refine⟨hp.1,?_,jV (b:=put s.bx k (.arr 1 (l++[.int .u8 0])))⟩
   have:=nF (s:=s) (b:=put s.bx k (.arr 1 (l++[.int .u8 0]))) (u:=u) (v:= .sl 1 l false) hd
   exact this▸hp.2
  ·exact hp.elim
 |
  convB x=>
  simp only[ex]at h⊢
  rw[aH ag]at h
  refine cQ h λp hp=> ?_
  cases p<;>simp only at hp⊢<;>first|exact hp.elim|skip
  rename_i bs
  refine⟨?_,jV (b:=s.bx)⟩
  have:=nF (s:=s) (b:=s.bx) (u:=u) (v:= .sl 1 (bs.map u8) false) hd
  exact this▸hp
 |_=>exact h.elim
theorem CN {e:Nat} {u:PV} {d:Option Nat} {f:AX} {args:List AX} {K:St->Prop} (hd:d≠some e) (hr:e∉(AK.call f args).reads) (h:lh P (s.put (some e) u) d f args K):
  lh P s d f args λt=>K (t.put (some e) u)∧pZ d s t:=by
 have ag:dY s (s.put (some e) u) (AK.call f args).reads:=dY.put (λj hj=>by cases hj;exact hr)
 unfold lh at h⊢
 rw[aH ag.left]at h
 refine cQ h λpf hpf=> ?_
 rw[gA ag.right]at hpf
 obtain⟨ps,hp,h2⟩:=pA _ _ _ _ hpf
 refine h2 _ ?_
 split at hp
 ·obtain⟨ks,os,cY,R,a1,a2,a3,a4,a5,a6,a7⟩:=hp
  refine⟨ks,os,cY,R,a1,a2,a3,a4,a5,a6,λr fp hR=>⟨(a7 r fp hR).1,?_,jV⟩⟩
  rw[←nF hd]
  exact(a7 r fp hR).2
 ·obtain⟨cY,R,a1,a2,a3,a4,a5⟩:=hp
  refine⟨cY,R,a1,a2,a3,a4,λfp hR=>⟨(a5 fp hR).1,?_,jV⟩⟩
  rw[←nF hd]
  exact(a5 fp hR).2
 ·exact hp.elim
end Go.Ab
namespace Go.Ab
variable [eJ]
variable {P:Program} {s:St} [ji]
theorem wX {g:Bool} {k:AK} {K K':PV->Prop} (h:∀p,K p->K' p) (hk:ev g s k K):ev g s k K':=by
 obtain⟨p,h1,h2⟩:=pX g s k K hk;exact h2 K' (h p h1)
theorem fW {g:Bool} {x:AX} {K K':PV->Prop} (h:∀p,K p->K' p) (hk:vg g s x K):vg g s x K':=by
 obtain⟨p,h1,h2⟩:=oM g s x K hk;exact h2 K' (h p h1)
theorem CO {g:Bool} {xs:List AX} {K K':List PV->Prop} (h:∀p,K p->K' p) (hk:sY g s xs K):sY g s xs K':=by
 obtain⟨p,h1,h2⟩:=pA g s xs K hk;exact h2 K' (h p h1)
theorem JC {g:Bool} {xs:List (Nat×AX)} {K K':List (Nat×PV)->Prop} (h:∀p,K p->K' p) (hk:y9 g s xs K):y9 g s xs K':=by
 obtain⟨p,h1,h2⟩:=uL g s xs K hk;exact h2 K' (h p h1)
theorem uS {p:PV} {K K':Int->Prop} (h:∀p,K p->K' p) (hk:mS p K):mS p K':=by
 obtain⟨p,h1,h2⟩:=nZ p K hk;exact h2 K' (h p h1)
theorem tG {p:PV} {K K':Nat->List PV->Prop} (h:∀a b,K a b->K' a b) (hk:content s p K):content s p K':=by
 obtain⟨a,b,h1,h2⟩:=nC s p K hk;exact h2 K' (h a b h1)
theorem xQ {str:Bool} {sz:Nat} {q:PV} {K K':List PV->Prop} (h:∀p,K p->K' p) (hk:src s str sz q K):src s str sz q K':=by
 unfold src at hk⊢
 split at hk
 ·rename_i hs;rw[if_pos hs]
  split at hk
  ·exact⟨hk.1,h _ hk.2⟩
  ·exact hk.elim
 ·rename_i hs;rw[if_neg hs]
  exact tG (λa b hab=>⟨hab.1,h _ hab.2⟩) hk
theorem zn {d:Option Nat} {sz b:Nat} {p:PV} {ys:List PV} {K K':St->Prop} (h:∀p,K p->K' p) (hk:ic s d sz b p ys K):ic s d sz b p ys K':=by
 unfold ic at hk⊢
 split at hk
 ·exact hk.elim
 ·split at hk
  ·exact⟨hk.1,h _ hk.2⟩
  ·split at hk
   ·exact⟨hk.1,h _ hk.2⟩
   ·exact hk.elim
  ·split at hk
   ·exact⟨hk.1,λhle=>h _ (hk.2.1 hle),λdG=>h _ (hk.2.2 dG)⟩
   ·exact hk.elim
  ·exact tG (λa b hab=>⟨hab.1,h _ hab.2⟩) hk
  ·exact hk.elim
theorem CP {d:Option Nat} {sz b:Nat} {z p:PV} {m:Int} {K K':St->Prop} (h:∀p,K p->K' p) (hk:ny s d sz b z p m K):ny s d sz b z p m K':=by
 unfold ny at hk⊢
 split at hk
 ·exact hk.elim
 ·split at hk
  ·split at hk
   ·exact⟨hk.1,h _ hk.2⟩
   ·exact hk.elim
  ·exact hk.elim
theorem qA {d:Option Nat} {sz:Nat} {p:PV} {ys:List PV} {K K':St->Prop} (h:∀p,K p->K' p) (hk:jT s d sz p ys K):jT s d sz p ys K':=by
 unfold jT at hk⊢
 split at hk
 ·split at hk
  ·exact⟨hk.1,h _ hk.2⟩
  ·split at hk
   ·split at hk
    ·exact⟨hk.1,h _ hk.2⟩
    ·exact hk.elim
   ·exact hk.elim
  ·exact hk.elim
 ·exact hk.elim
theorem Ng {d:Option Nat} {k:AK} {K K':St->Prop} (h:∀p,K p->K' p) (hk:ex s d k K):ex s d k K':=by
 cases k with
 |alloc z=>simp only[ex]at hk⊢;split at hk;exact⟨hk.1,h _ hk.2⟩;exact hk.elim
 |box x=>simp only[ex]at hk⊢;split at hk;exact fW (λp hp=>⟨hp.1,h _ hp.2⟩) hk;exact hk.elim
 |
  buildSlice own sz z n parts=>
  simp only[ex]at hk⊢
  refine JC (λps hp=> ?_) hk
  split at hp
  ·split at hp
   ·rename_i ho;rw[if_pos ho]
    split at hp
    ·exact⟨hp.1,h _ hp.2⟩
    ·exact hp.elim
   ·rename_i ho;rw[if_neg ho];exact h _ hp
  ·exact hp.elim
 |
  makeSlice sz b z l c=>
  simp only[ex]at hk⊢
  refine fW (λp hp=>uS (λn hn=>fW (λq hq=>uS (λm hm=> ?_) hq) hn) hp) hk
  split at hm
  ·exact⟨hm.1,h _ hm.2⟩
  ·exact hm.elim
 |
  store n x y=>
  simp only[ex]at hk⊢
  refine fW (λp hp=>fW (λv hv=> ?_) hp) hk
  split at hv
  ·split at hv
   ·split at hv
    ·exact⟨hv.1,h _ hv.2⟩
    ·exact hv.elim
   ·exact hv.elim
  ·exact hv.elim
 |
  isNil ng x=>
  simp only[ex]at hk⊢
  refine fW (λp hp=> ?_) hk
  split at hp
  ·exact λb hb=>h _ (hp b hb)
  ·split at hp
   ·exact⟨hp.1,λb hb=>h _ (hp.2 b hb)⟩
   ·exact hp.elim
  ·exact hp.elim
 |
  append sz b str x y=>
  simp only[ex]at hk⊢
  exact fW (λp hp=>fW (λq hq=>xQ (λys hy=>zn h hy) hq) hp) hk
 |
  copy sz x y=>
  simp only[ex]at hk⊢
  refine fW (λp hp=>fW (λq hq=> ?_) hp) hk
  split at hq
  ·exact xQ (λys hy=>qA h hy) hq
  ·exact xQ (λys hy=>qA h hy) hq
 |
  appendZ sz b z x y=>
  simp only[ex]at hk⊢
  exact fW (λp hp=>fW (λq hq=>uS (λm hm=>CP h hm) hq) hp) hk
 |
  fill sz z x=>
  simp only[ex]at hk⊢
  refine fW (λp hp=> ?_) hk
  obtain⟨h1,h2⟩:=hp
  refine⟨h1,?_⟩
  cases p<;>simp only at h2⊢<;>first|exact h2.elim|exact qA h h2
 |mkMap ks vs=>simp only[ex]at hk⊢;split at hk;exact⟨hk.1,λb=>h _ (hk.2 b)⟩;exact hk.elim
 |
  mapGet ks vs z ok m x=>
  simp only[ex]at hk⊢
  refine fW (λpm hp=>fW (λp hq=> ?_) hp) hk
  cases pm<;>simp only at hq⊢<;>first|exact hq.elim|skip
  split at hq
  ·exact⟨hq.1,h _ hq.2⟩
  ·exact hq.elim
 |
  mapSet ks vs m x y=>
  simp only[ex]at hk⊢
  refine fW (λpm hp=>fW (λp hq=>fW (λv hv=> ?_) hq) hp) hk
  cases pm<;>simp only at hv⊢<;>first|exact hv.elim|skip
  split at hv
  ·exact⟨hv.1,h _ hv.2⟩
  ·exact hv.elim
 |
  convL x=>
  simp only[ex]at hk⊢
  refine fW (λp hp=> ?_) hk
  cases p<;>simp only at hp⊢<;>first|exact hp.elim|skip
  split at hp
  ·exact⟨hp.1,h _ hp.2⟩
  ·exact hp.elim
 |
  convB x=>
  simp only[ex]at hk⊢
  refine fW (λp hp=> ?_) hk
  cases p<;>simp only at hp⊢<;>first|exact hp.elim|exact h _ hp
 |_=>simp only[ex]at hk
theorem EC {d:Option Nat} {f:FuncId} {l:List PV} {ks os:List Nat} {K K':St->Prop} (h:∀p,K p->K' p) (hk:tm P s d f l ks os K):tm P s d f l ks os K':=by
 obtain⟨b,R,h1,h2,h3,h4,h5,h6,h7⟩:=hk
 exact⟨b,R,h1,h2,h3,h4,h5,h6,λr fp hr=>⟨(h7 r fp hr).1,h _ (h7 r fp hr).2⟩⟩
theorem ED {d:Option Nat} {f:AX} {l:List AX} {K K':St->Prop} (h:∀p,K p->K' p) (hk:lh P s d f l K):lh P s d f l K':=by
 unfold lh at hk⊢
 refine fW (λpf hf=>CO (λps hp=> ?_) hf) hk
 split at hp
 ·obtain⟨ks,os,hc⟩:=hp;exact⟨ks,os,EC h hc⟩
 ·obtain⟨cY,R,a1,a2,a3,a4,a5⟩:=hp
  exact⟨cY,R,a1,a2,a3,a4,λfp hR=>⟨(a5 fp hR).1,h _ (a5 fp hR).2⟩⟩
 ·exact hp.elim
theorem EE {d:Option Nat} {f:AX} {l:List AX} {K K':St->Prop} (h:∀p,K p->K' p) (hk:nB P s d f l K):nB P s d f l K':=by
 unfold nB at hk⊢
 refine fW (λpf hf=>CO (λps hp=> ?_) hf) hk
 split at hp
 ·obtain⟨v,h1,h2,h3⟩:=hp;exact⟨v,h1,h2,h _ h3⟩
 ·exact hp.elim
theorem xR {o:AO} {K K':St->Prop} (h:∀p,K p->K' p) (hk:kI P s o K):kI P s o K':=by
 unfold kI at hk⊢
 split at hk
 ·exact ED h hk
 ·exact EE h hk
 ·split at hk
  ·rename_i he;rw[if_pos he];exact Ng h hk
  ·rename_i he;rw[if_neg he];exact wX (λp hp=>h _ hp) hk
theorem eF {o:AO} {K K':St->Prop} (h:∀p,K p->K' p) (hk:iu P s o K):iu P s o K':=by
 unfold iu at hk⊢
 split at hk
 ·exact xR h hk
 ·split at hk
  ·split at hk
   ·rename_i hm;rw[if_pos hm];exact wX (λp hp=>h _ hp) hk
   ·rename_i hm;rw[if_neg hm];exact⟨λe=>xR h (hk.1 e),λe=>h _ (hk.2 e)⟩
  ·split at hk
   ·rename_i hm;rw[if_pos hm];exact wX (λp hp=>h _ hp) hk
   ·rename_i hm;rw[if_neg hm];exact⟨λe e'=>xR h (hk.1 e e'),λe=>h _ (hk.2 e)⟩
  ·exact hk.elim
end Go.Ab
namespace Go.Ab
variable [eJ]
variable {P:Program} {nt:Nat} {ds:List Deferred} {s s':St} [ji]
def AO.iC:AO->Option Nat
 |⟨some k,none,_,.alloc _⟩=>some k
 |_=>none
def AO.alq (y:AO):Bool:=y.guard.isNone&&(match y.k with| .call .. | .alloc _=>true|_=>false)
def qa (k:Nat) (z:PV) (s:St):St:= {env:=put s.env k (.pt k [] 0),bx:=put s.bx k (.box z)}
theorem JD {k:Nat} {z:PV} {l:List Nat} (h:k∉l):dY s (qa k z s) l:=by
 intro n hn
 simp only[qa]
 rw[cP]
 rintro rfl;exact h hn
theorem qZ {k:Nat} {b:bX}:∀ {ks:List Nat} {bx:List (Nat×bX)} {l:List bX},get bx k=none->getAll bx ks=some l->getAll (put bx k b) ks=some l
 |[],bx,l,_,h=>h
 |
  x::ks,bx,l,hn,h=>by
  simp only[getAll]at h⊢
  split at h
  ·rename_i u v hu hv
   have bS:k≠x:=by rintro rfl;rw[hn]at hu;simp at hu
   rw[cP _ _ _ _ bS,hu,qZ hn hv]
   exact h
  ·simp at h
theorem uT {k:Nat} {b:bX}:∀ {ks:List Nat} {bx:List (Nat×bX)} {l:List bX},k∉ks->bb (put bx k b) ks l=put (bb bx ks l) k b
 |[],bx,l,_=>by cases l<;>rfl
 |x::ks,bx,[],_=>rfl
 |
  x::ks,bx,y::l,h=>by
  simp only[bb]
  rw[Ab.put_comm (n:=k) (m:=x) (by rintro rfl;simp at h),uT (λh'=>h (by simp[h']))]
theorem pD {k:Nat}:∀ {ks:List Nat} {bx:List (Nat×bX)} {l:List bX},get bx k=none->getAll bx ks=some l->k∉ks
 |[],_,_,_,_=>by simp
 |
  x::ks,bx,l,hn,h=>by
  simp only[getAll]at h
  split at h
  ·rename_i u v hu hv
   intro hm
   rcases List.mem_cons.1 hm with rfl|hm
   ·rw[hn]at hu;simp at hu
   ·exact pD hn hv hm
  ·simp at h
theorem Qc {k:Nat} {z:PV} {d:Option Nat} {v:PV} {b:List (Nat×bX)} (hd:d≠some k):St.put {env:=put s.env k (.pt k [] 0),bx:=put b k (.box z)} d v=qa k z (St.put {s with bx:=b} d v):=by
 cases d with
 |none=>rfl
 |
  some j=>
  have:j≠k:=λh=>hd (by rw[h])
  simp only[St.put,qa]
  rw[Ab.put_comm (Ne.symm this)]
theorem JE {d:Option Nat} {f:FuncId} {args:List PV} {ks os:List Nat} {k:Nat} {z:PV} {K:St->Prop} (hd:d≠some k) (hn:get s.bx k=none) (h:tm P s d f args ks os λt=>get t.bx k=none∧K (qa k z t)):∃os',tm P (qa k z s) d f args ks os' K:=by
 obtain⟨cY,R,a1,a2,a3,a4,a5,a6,a7⟩:=h
 have hk:=pD hn a1
 by_cases hR:∃r fp,R r fp
 ·obtain⟨r0,fp0,hR0⟩:=hR
  have Sj:k∉os:=by
   intro hm
   obtain⟨⟨b1,_,_⟩,b2,_⟩:=a7 r0 fp0 hR0
   have e:({s with bx:=bb s.bx (ks++os) (fp0.map (aE (dv (ks++os))))}.put d (aB (dv (ks++os)) r0)).bx=bb s.bx (ks++os) (fp0.map (aE (dv (ks++os)))):=by cases d<;>rfl
   rw[e,se k a2 (by simpa using b1)]at b2
   cases hi:idx (ks++os) k with
   |none=>exact CC hi (by simp[hm])
   |
    some i=>
    rw[hi]at b2
    have:=(List.getElem?_eq_some_iff.1 (lT hi)).1
    simp at b2
    omega
  refine⟨os,cY,R,qZ hn a1,a2,λo ho=> ?_,a4,a5,a6,λr fp hr=>⟨(a7 r fp hr).1,?_⟩⟩
  ·simp only[qa]
   rw[cP]
   ·exact a3 o ho
   ·rintro rfl;exact Sj ho
  ·have:=(a7 r fp hr).2.2
   simp only[qa]at this⊢
   rw[uT (by simp[hk,Sj]),Qc hd]
   exact this
 ·exact⟨[],cY,R,qZ hn a1,by simpa using(List.nodup_append.1 a2).1,by simp,a4,a5,a6,λr fp hr=>absurd ⟨r,fp,hr⟩ hR⟩
theorem JF {d:Option Nat} {f:AX} {args:List AX} {k:Nat} {z:PV} {K:St->Prop} (hd:d≠some k) (hn:get s.bx k=none) (hr:k∉(AK.call f args).reads) (h:lh P s d f args λt=>get t.bx k=none∧K (qa k z t)):lh P (qa k z s) d f args K:=by
 have ag:dY s (qa k z s) (AK.call f args).reads:=JD hr
 unfold lh at h⊢
 rw[aH ag.left]
 refine cQ h λpf hpf=> ?_
 rw[gA ag.right]
 obtain⟨ps,hp,h2⟩:=pA _ _ _ _ hpf
 refine h2 _ ?_
 split at hp
 ·obtain⟨ks,os,hc⟩:=hp
  obtain⟨os',FC⟩:=JE hd hn hc
  exact⟨ks,os',FC⟩
 ·obtain⟨cY,R,a1,a2,a3,a4,a5⟩:=hp
  have hk:=pD hn a1
  refine⟨cY,R,qZ hn a1,a2,a3,a4,λfp hR=>⟨(a5 fp hR).1,?_⟩⟩
  have:=(a5 fp hR).2.2
  simp only[qa]at this⊢
  rw[uT hk,Qc hd]
  exact this
 ·exact hp.elim
theorem CQ {x:AO} {k:Nat} (hx:x.iC=some k):∃z,x.dst=some k∧∀(s:St) (K:St->Prop),iu P s x K↔(get s.bx k=none∧K (qa k z s)):=by
 unfold AO.iC at hx
 split at hx
 ·rename_i k' mg z
  simp only[sJ]at hx;subst hx
  exact⟨z,rfl,λs K=>Iff.rfl⟩
 ·simp at hx
theorem JG {y:AO} {k:Nat} {z:PV} {K:St->Prop} (hy:y.alq=true) (hd:y.dst≠some k) (hr:k∉y.reads) (hn:get s.bx k=none) (h:iu P s y λt=>get t.bx k=none∧K (qa k z t)):iu P (qa k z s) y K:=by
 obtain⟨dst,guard,mg,ak⟩:=y
 unfold AO.alq at hy
 simp only[aJ]at hy
 cases guard with
 |some g=>simp at hy
 |
  none=>
  cases ak with
  |call f args=>exact JF hd hn (λh=>hr (by simp[AO.reads,h])) h
  |
   alloc z'=>
   cases dst with
   |none=>exact h.elim
   |
    some j=>
    have um:j≠k:=λh=>hd (by rw[h])
    have h:get s.bx j=none∧get (qa j z' s).bx k=none∧K (qa k z (qa j z' s)):=h
    show get (qa k z s).bx j=none∧K (qa j z' (qa k z s))
    refine⟨by simp only[qa];rw[cP _ _ _ _ (Ne.symm um)];exact h.1,?_⟩
    have e:qa j z' (qa k z s)=qa k z (qa j z' s):=by
     simp only[qa];rw[Ab.put_comm (Ne.symm um),Ab.put_comm (Ne.symm um)]
    rw[e];exact h.2.2
  |_=>simp at hy
end Go.Ab
namespace Go.Ab
variable [eJ]
variable {P:Program} {nt:Nat} {ds:List Deferred} {s s':St} [ji]
def F2:List Nat->Bool
 |a::b::_=>a==b
 |_=>false
def wC (W:List Nat) (k:Nat) (b:bX):bX:=match b with| .box v=>if F2 W=true∧W.contains k=true then Ez else .box v|b=>b
def St.less (s:St) (W:List Nat):St:= {s with bx:=(s.bx.filter λp=>F2 W|| !W.contains p.1).map λp=>(p.1,wC W p.1 p.2)}
def Fr (W:List Nat) (s t:St):Prop:=∀k b,(F2 W|| !W.contains k)=true->get s.bx k=some b->∃b',get t.bx k=some b'∧wC W k b'=wC W k b
theorem get_filter {c:Nat->Bool} (k:Nat):∀l:List (Nat×bX),get (l.filter λp=>c p.1) k=if c k=true then get l k else none
 |[]=>by simp[get]
 |
  (n,v)::r=>by
  have ih:=get_filter (c:=c) k r
  by_cases hn:c n=true
  ·rw[List.filter_cons_of_pos (by simpa using hn)]
   simp only[get,ih]
   by_cases hk:n=k
   ·subst hk;rw[if_pos rfl,if_pos hn,if_pos rfl]
   ·rw[if_neg hk,if_neg hk]
  ·rw[List.filter_cons_of_neg (by simpa using hn),ih]
   by_cases hk:n=k
   ·subst hk;rw[if_neg hn,if_neg hn]
   ·simp only[get,if_neg hk]
theorem F3 {W:List Nat} (k:Nat):∀l:List (Nat×bX),get (l.map λp=>(p.1,wC W p.1 p.2)) k=(get l k).map (wC W k)
 |[]=>rfl
 |
  (n,v)::r=>by
  simp only[List.map_cons,get]
  by_cases hk:n=k
  ·subst hk;simp
  ·rw[if_neg hk,if_neg hk];exact F3 k r
theorem xS {W:List Nat} (k:Nat):get (s.less W).bx k=if(F2 W|| !W.contains k)=true then(get s.bx k).map (wC W k)else none:=by
 simp only[St.less,F3]
 rw[get_filter (c:=λn=>F2 W|| !W.contains n)]
 split<;>rfl
theorem JH (W:List Nat):Sub (s.less W).bx s.bx:=by
 intro k b h
 rw[xS]at h
 split at h
 ·cases hg:get s.bx k with
  |none=>rw[hg]at h;simp at h
  |
   some c=>
   rw[hg]at h
   simp only[Option.map_some,sJ]at h
   cases c with
   |
    box v=>
    simp only[wC]at h
    split at h
    ·exact .inr ⟨h.symm,v,rfl⟩
    ·exact .inl (by rw[h])
   |arr sz l=>exact .inl (by rw[←h];rfl)
   |map b ks vs l=>exact .inl (by rw[←h];rfl)
 ·simp at h
theorem F4 {W:List Nat} (h:Fr W s s'):Sub (s.less W).bx (s'.less W).bx:=by
 intro k b hk
 rw[xS]at hk
 split at hk
 ·rename_i hw
  cases hg:get s.bx k with
  |none=>rw[hg]at hk;simp at hk
  |
   some c=>
   obtain⟨b',h1,h2⟩:=h k c hw hg
   rw[hg]at hk
   left
   rw[xS,if_pos hw,h1,Option.map_some,h2]
   exact hk
 ·simp at hk
theorem JI {W:List Nat} {d:Option Nat} {v:PV}:(s.put d v).less W=(s.less W).put d v:=by cases d<;>rfl
theorem uU {W:List Nat} {d:Option Nat} {v:PV}:({((s.less W).put d v)with bx:=s.bx}:St)=s.put d v:=by cases d<;>rfl
def jW (P:Program) (W:List Nat) (f:Bool) (s:St) (o:AO) (K:St->Prop):Prop:=
 if o.quiet=true then(if f=true then iu P (s.less W) o (λt=>K {t with bx:=s.bx})else iu P s o K)else iu P s o (λt=>(f=true->Fr W s t)∧K t)
def fO (aos:List AO) (s:St) (l:List Nat):Bool:=l.all λi=>match aos[i]?with|some o=>(match o.iC with|some k=>(get s.bx k).isNone|none=>true)|none=>true
def jk (P:Program) (aos:List AO) (fl:Nat->Bool) (W:List Nat) (s:St):List Nat->(St->Prop)->Prop
 |[],K=>K s
 |
  i::r,K=>match aos[i]?with
  |some o=>fO aos s (i::r)=true∧jW P W (fl i) s o λt=>jk P aos fl W t r K
  |none=>False
theorem Ag {aos:List AO} {fl:Nat->Bool} {W:List Nat} {K:St->Prop}:∀ {l:List Nat} {s:St},jk P aos fl W s l K->fO aos s l=true
 |[],s,_=>rfl
 |
  i::r,s,h=>by
  simp only[jk]at h
  split at h
  ·exact h.1
  ·exact h.elim
theorem oP {aos:List AO} {s s':St} (h:s'.bx=s.bx) (l:List Nat):fO aos s' l=fO aos s l:=by unfold fO;rw[h]
theorem fZ {aos:List AO} {s:St} {i:Nat} {l:List Nat}:fO aos s (i::l)=(fO aos s [i]&&fO aos s l):=by simp[fO]
theorem uV {aos:List AO} {s:St} {l m:List Nat}:fO aos s (l++m)=(fO aos s l&&fO aos s m):=by simp[fO]
theorem F5 {aos:List AO} {s:St} {i j:Nat} {l m:List Nat} (h:fO aos s (j::(l++i::m))=true):fO aos s [j]=true∧fO aos s l=true∧fO aos s [i]=true∧fO aos s m=true:=by
 rw[fZ (l:=l++i::m),uV,fZ (l:=m)]at h
 simpa only[aJ]using h
theorem F6 {aos:List AO} {s:St} {j:Nat} {l m:List Nat} (h1:fO aos s [j]=true) (h2:fO aos s l=true) (h3:fO aos s m=true):fO aos s (j::(l++m))=true:=by
 rw[fZ (l:=l++m),uV,h1,h2,h3];rfl
theorem Ah {aos:List AO} {s:St} {i:Nat} {x:AO} {k:Nat} (hi:aos[i]? =some x) (hx:x.iC=some k):fO aos s [i]=true↔get s.bx k=none:=by simp[fO,hi,hx]
theorem q0 {aos:List AO} {s:St} {i:Nat} {x:AO} (hi:aos[i]? =some x) (hx:x.iC=none):fO aos s [i]=true:=by simp[fO,hi,hx]
theorem jX {x:AO} (hx:x.quiet=true):x.iC=none:=by
 obtain⟨d,g,mg,k⟩:=x
 unfold AO.iC
 split
 ·simp_all [AO.quiet,nQ]
 ·rfl
def rE (W:List Nat) (f:Bool) (s:St):St:=if f=true then s.less W else s
theorem n7 {W:List Nat} {f:Bool} {o:AO} {K:St->Prop} (hq:o.quiet=true) (h:jW P W f s o K):∃v,K (s.put o.dst v)∧Qv P (rE W f s) o v:=by
 unfold jW at h
 rw[if_pos hq]at h
 cases f with
 |
  true=>
  simp only[if_true]at h
  obtain⟨v,h1,h2⟩:=qY hq h
  rw[uU]at h1
  exact⟨v,h1,h2⟩
 |
  false=>
  simp only[fJ,if_false]at h
  obtain⟨v,h1,h2⟩:=qY hq h
  exact⟨v,h1,h2⟩
theorem tH {W:List Nat} {f:Bool} {o:AO} {v:PV} {r:St} {K:St->Prop} (hq:o.quiet=true) (h:Qv P r o v) (hs:Sub r.bx (rE W f s).bx) (ha:dY r s o.reads) (hk:K (s.put o.dst v)):jW P W f s o K:=by
 unfold jW
 rw[if_pos hq]
 cases f with
 |
  true=>
  simp only[if_true]
  refine h _ hs ha _ ?_
  show K {((s.less W).put o.dst v)with bx:=s.bx}
  rw[uU];exact hk
 |
  false=>
  simp only[fJ,if_false]
  exact h _ hs ha _ hk
theorem CR {W:List Nat} {f:Bool}:Sub (rE W f s).bx s.bx:=by
 unfold rE;split
 ·exact JH W
 ·exact Sub.refl _
theorem CS {W:List Nat} {f:Bool} {d:Option Nat} {v:PV}:(rE W f (s.put d v)).bx=(rE W f s).bx:=by
 unfold rE;split
 ·rw[JI,kd]
 ·rw[kd]
theorem xT {W:List Nat} {f:Bool}:(rE W f s).env=s.env:=by unfold rE;split<;>rfl
theorem ra {W:List Nat} {f:Bool} {l:List Nat} (h:dY s s' l):dY (rE W f s) s' l:=by
 intro n hn;rw[xT];exact h n hn
def AK.jd:AK->Bool
 | .mv _| .extract _ _| .mm _ _| .un _ _| .convI _ _| .field _ _ _ _ _| .build _ _=>true
 | .bin _ e _ _=>match e with| .ptr=>false|_=>true
 |_=>false
def AO.jd (o:AO):Bool:=o.guard.isNone&&o.k.jd
theorem JJ {b:List (Nat×bX)} (x:AX):vx {s with bx:=b} x=vx s x:=by cases x<;>rfl
theorem Br {b:List (Nat×bX)} {g:Bool} (x:AX):vg g {s with bx:=b} x=vg g s x:=by
 funext K;unfold vg;rw[JJ]
theorem F7 {b:List (Nat×bX)} {g:Bool}:∀(l:List AX),sY g {s with bx:=b} l=sY g s l
 |[]=>rfl
 |x::l=>by funext K;simp only[sY,Br,F7 l]
theorem F8 {b:List (Nat×bX)} {g:Bool}:∀(l:List (Nat×AX)),y9 g {s with bx:=b} l=y9 g s l
 |[]=>rfl
 |(n,x)::l=>by funext K;simp only[y9,Br,F8 l]
theorem JK {b:List (Nat×bX)} {o:BinOp} {e:ET} (he:(match e with| .ptr=>false|_=>true)=true) (p q:PV):pq {s with bx:=b} o e p q=pq s o e p q:=by
 funext K;cases e<;>first|rfl|simp at he
theorem SG {b:List (Nat×bX)} {g:Bool} {k:AK} (hk:k.jd=true) (K:PV->Prop):ev g {s with bx:=b} k K=ev g s k K:=by
 cases k<;>first|(simp[AK.jd]at hk;done)|skip
 case bin o e x y=>
  simp only[ev,Br]
  simp only[AK.jd]at hk
  have:=λp q=>JK (s:=s) (b:=b) (o:=o) hk p q
  simp only[this]
 all_goals simp only[ev,Br,F7,F8,JJ]
theorem CT {k:AK} (h:k.jd=true):nQ k=false:=by
 cases k<;>first|rfl|simp[AK.jd]at h
theorem vQ {r:St} {o:AO} {v:PV} (hf:o.jd=true) (hv:Qv P r o v) (s':St) (ha:dY r s' o.reads) (K':St->Prop) (hk:K' (s'.put o.dst v)):iu P s' o K':=by
 have h:=hv {s' with bx:=r.bx} (Sub.refl _) ha (λt=>K' {t with bx:=s'.bx}) (by
  have e:({(({s' with bx:=r.bx}:St).put o.dst v)with bx:=s'.bx}:St)=s'.put o.dst v:=by cases o.dst<;>rfl
  show K' _
  rw[e];exact hk)
 obtain⟨dst,guard,mg,k⟩:=o
 have e:∀p,({(({s' with bx:=r.bx}:St).put dst p)with bx:=s'.bx}:St)=s'.put dst p:=by intro p;cases dst<;>rfl
 simp only[AO.jd,aJ,Option.isNone_iff_eq_none]at hf
 obtain⟨hg,PF⟩:=hf
 subst hg
 have hx:=CT PF
 cases k<;>first|(simp[AK.jd]at PF;done)|skip
 all_goals
  simp only[iu,kI,hx,fJ,if_false,SG PF,e]at h⊢
  exact h
theorem Ai {W:List Nat} {f:Bool} {o:AO} {v:PV} {r:St} {K:St->Prop} (hq:o.quiet=true) (hf:o.jd=true) (h:Qv P r o v) (ha:dY r s o.reads) (hk:K (s.put o.dst v)):jW P W f s o K:=by
 unfold jW
 rw[if_pos hq]
 cases f with
 |
  true=>
  simp only[if_true]
  refine vQ hf h (s.less W) (λn hn=>ha n hn) _ ?_
  show K {((s.less W).put o.dst v)with bx:=s.bx}
  rw[uU];exact hk
 |
  false=>
  simp only[fJ,if_false]
  exact vQ hf h _ ha _ hk
def jY (aos:List AO) (fl:Nat->Bool) (j i:Nat):Bool:=match aos[j]?,aos[i]?with
 |some y,some x=>y.quiet&&y.dst.isSome&&y.apart x&&(x.quiet||y.jd||fl j&&fl i)|| !y.quiet&&y.alq&&(match x.iC with|some k=>y.dst !=some k&& !y.reads.contains k|none=>false)
 |_,_=>false
def pE (aos:List AO) (j i:Nat):Bool:=match aos[j]?,aos[i]?with
 |some y,some x=>(match y.iC,x.iC with|some a,some b=>a !=b|_,_=>true)
 |_,_=>true
theorem EF {aos:List AO} {fl:Nat->Bool} {W:List Nat} {K:St->Prop} {i:Nat} {x:AO} (hi:aos[i]? =some x) (hx:x.quiet=true) (l2:List Nat):∀(l1:List Nat) (s:St),
  (∀j∈l1,jY aos fl j i=true)->jk P aos fl W s (l1++i::l2) K->∃v,jk P aos fl W (s.put x.dst v) (l1++l2) K∧Qv P s x v
 |
  [],s,_,h=>by
  simp only[List.nil_append,jk,hi]at h
  obtain⟨v,h1,h2⟩:=n7 hx h.2
  exact⟨v,h1,λs' hb ha K' hk=>h2 s' (CR.trans hb) (ra ha) K' hk⟩
 |
  j::l1,s,dM,h=>by
  have hp:=dM j (by simp)
  unfold jY at hp
  cases hy:aos[j]?with
  |none=>rw[hy]at hp;simp at hp
  |
   some y=>
   rw[hy,hi]at hp
   simp only[jX hx,Bool.and_false,Bool.or_false,aJ]at hp
   obtain⟨⟨⟨wM,_⟩,oB⟩,_⟩:=hp
   have h1:∀d,y.dst=some d->d∉x.reads:=λd hd=>by simp[AO.apart,hd]at oB;exact oB.1.1
   have h2:∀d,y.dst=some d->x.dst≠some d:=λd hd=>by simp[AO.apart,hd]at oB;exact oB.1.2
   have h3:∀d,x.dst=some d->d∉y.reads:=λd hd=>by simp[AO.apart,hd]at oB;exact oB.2
   simp only[List.cons_append,jk,hy]at h⊢
   obtain⟨nP,h⟩:=h
   obtain⟨v,h,hv⟩:=n7 wM h
   obtain⟨u,h,hu⟩:=EF hi hx l2 l1 _ (λk hk=>dM k (by simp[hk])) h
   refine⟨u,⟨?_,tH wM hv (by rw[CS];exact Sub.refl _) (ra (dY.put h3)) ?_⟩,?_⟩
   ·have nP:=F5 nP
    rw[oP (kd _ _)]
    exact F6 nP.1 nP.2.1 nP.2.2.2
   ·rw[St.put_comm (λk hk he=>h2 k he hk)];exact h
   ·intro s' hb ha K' hk
    refine hu s' (by rw[kd];exact hb) (λn hn=> ?_) K' hk
    rw[ha n hn]
    exact((dY.put h1) n hn).symm
theorem uW {o:AO} {e:Nat} {u:PV} {K:St->Prop} (hq:o.quiet=false) (hd:o.dst≠some e) (hr:e∉o.k.reads) (h:kI P (s.put (some e) u) o K):kI P s o λt=>K (t.put (some e) u)∧pZ o.dst s t:=by
 obtain⟨dst,guard,mg,k⟩:=o
 cases k with
 |call f args=>exact CN hd hr h
 |callq f args=>simp[AO.quiet]at hq
 |
  _=>
  first
  |(simp[AO.quiet,nQ]at hq;done)
  |(simp only[kI,nQ,if_true]at h⊢;exact JB hd hr h)
theorem rb {o:AO} {e:Nat} {u:PV} {K:St->Prop} (hq:o.quiet=false) (hd:o.dst≠some e) (hr:e∉o.reads) (h:iu P (s.put (some e) u) o K):iu P s o λt=>K (t.put (some e) u)∧pZ o.dst s t:=by
 have hrk:e∉o.k.reads:=λh=>hr (by simp[AO.reads,h])
 have IW:K ((s.put (some e) u).put o.dst .un)->K ((s.put o.dst .un).put (some e) u)∧pZ o.dst s (s.put o.dst .un):=by
  intro hk
  refine⟨?_,jV (b:=s.bx)⟩
  have:=nF (s:=s) (b:=s.bx) (u:=u) (v:= .un) hd
  exact this▸hk
 have Mc:∀(g:Bool) (s:St) K,ev g s o.k K->False:=by
  intro g s K h
  obtain⟨dst,guard,mg,k⟩:=o
  cases k<;>first|(simp[AO.quiet,nQ]at hq;done)|(simp[ev]at h;done)
 unfold iu at h⊢
 cases hg:o.guard with
 |
  none=>
  rw[hg]at h
  exact uW hq hd hrk h
 |
  some gw=>
  obtain⟨sl,want⟩:=gw
  rw[hg]at h
  have qf:get (s.put (some e) u).env sl=get s.env sl:=by
   simp only[St.put]
   rw[cP]
   rintro rfl;exact hr (by simp[AO.reads,hg])
  simp only[qf]at h⊢
  split at h
  ·split at h
   ·exact(Mc _ _ _ h).elim
   ·rename_i hm
    rw[if_neg hm]
    exact⟨λe1=>uW hq hd hrk (h.1 e1),λe1=>IW (h.2 e1)⟩
  ·split at h
   ·exact(Mc _ _ _ h).elim
   ·rename_i hm
    rw[if_neg hm]
    exact⟨λe1 e2=>uW hq hd hrk (h.1 e1 e2),λe1=>IW (h.2 e1)⟩
  ·exact h.elim
theorem CU {aos:List AO} {k:Nat} {z:PV} {i:Nat} {x:AO} (hi:aos[i]? =some x) (hx:x.iC=some k) {l:List Nat} (bS:∀j∈l,pE aos j i=true) (h:fO aos s l=true):fO aos (qa k z s) l=true:=by
 simp only[fO,List.all_eq_true]at h⊢
 intro j hj
 have h1:=h j hj
 have h2:=bS j hj
 unfold pE at h2
 rw[hi]at h2
 split
 ·rename_i y hy
  rw[hy]at h1 h2
  simp only at h1 h2⊢
  split
  ·rename_i b hb
   rw[hb]at h1 h2
   rw[hx]at h2
   simp only[bne_iff_ne,ne_eq]at h1 h2⊢
   simp only[qa]
   rw[cP _ _ _ _ (λh=>h2 h.symm)]
   exact h1
  ·rfl
 ·rfl
theorem Qd {W:List Nat} {k:Nat} {z:PV} (hn:get s.bx k=none):Fr W s (qa k z s):=by
 intro j b _ hb
 refine⟨b,?_,rfl⟩
 simp only[qa]
 rw[cP]
 ·exact hb
 ·rintro rfl;rw[hn]at hb;simp at hb
theorem JL {W:List Nat} {k:Nat} {z:PV} {t:St} (h:Fr W s t):Fr W (qa k z s) (qa k z t):=by
 intro j b hw hb
 simp only[qa,gL]at hb⊢
 split
 ·rename_i e;rw[if_pos e]at hb;exact⟨b,hb,rfl⟩
 ·rename_i e;rw[if_neg e]at hb;exact h j b hw hb
theorem xU {aos:List AO} {fl:Nat->Bool} {W:List Nat} {K:St->Prop} {i:Nat} {x:AO} (hi:aos[i]? =some x) (hx:x.quiet=false) (l2:List Nat):∀(l1:List Nat) (s:St),
  (∀j∈l1,jY aos fl j i=true)->(∀j∈l1++l2,pE aos j i=true)->jk P aos fl W s (l1++i::l2) K->iu P s x λt=>(fl i=true->Fr W s t)∧jk P aos fl W t (l1++l2) K
 |
  [],s,_,_,h=>by
  simp only[List.nil_append,jk,hi]at h
  have h:=h.2
  unfold jW at h
  rw[if_neg (by rw[hx];simp)]at h
  exact h
 |
  j::l1,s,dM,bS,h=>by
  have hp:=dM j (by simp)
  unfold jY at hp
  cases hy:aos[j]?with
  |none=>rw[hy]at hp;simp at hp
  |
   some y=>
   rw[hy,hi]at hp
   simp only[List.cons_append,jk,hy]at h⊢
   obtain⟨nP,h⟩:=h
   have nP:=F5 nP
   rcases Bool.or_eq_true_iff.1 hp with hp|hp
   ·simp only[aJ,hx,Bool.false_or]at hp
    obtain⟨⟨⟨wM,Ea⟩,oB⟩,VN⟩:=hp
    obtain⟨e,he⟩:=Option.isSome_iff_exists.1 Ea
    have h1:e∉x.reads:=by simp[AO.apart,he]at oB;exact oB.1.1
    have h2:x.dst≠some e:=by simp[AO.apart,he]at oB;exact oB.1.2
    have h3:∀d,x.dst=some d->d∉y.reads:=λd hd=>by simp[AO.apart,hd]at oB;exact oB.2
    rcases Bool.or_eq_true_iff.1 VN with hso|VN
    ·obtain⟨v,h,hv⟩:=n7 wM h
     have ih:=xU hi hx l2 l1 _ (λk hk=>dM k (by simp[hk])) (λk hk=>bS k (by simp only[List.cons_append,cJ];exact .inr hk)) h
     rw[he]at ih
     refine eF (λt ht=> ?_) (rb hx h2 h1 ih)
     obtain⟨⟨hf,hk⟩,y8⟩:=ht
     refine⟨λsV=>λk b hw hb=>hf sV k b hw hb,?_,Ai (r:=rE W (fl j) s) wM hso hv (λn hn=> ?_) (by rw[he];exact hk)⟩
     ·rw[fZ,q0 hy (jX wM),Bool.true_and]
      have:=Ag hk
      rwa [oP (kd _ _)]at this
     ·rw[xT];exact y8 n (λhd=>h3 n hd hn)
    ·obtain⟨VO,sV⟩:=Bool.and_eq_true_iff.1 VN
     rw[VO]at h⊢
     obtain⟨v,h,hv⟩:=n7 wM h
     have ih:=xU hi hx l2 l1 _ (λk hk=>dM k (by simp[hk])) (λk hk=>bS k (by simp only[List.cons_append,cJ];exact .inr hk)) h
     rw[he]at ih
     refine eF (λt ht=> ?_) (rb hx h2 h1 ih)
     obtain⟨⟨hf,hk⟩,y8⟩:=ht
     have hf':Fr W s t:=λk b hw hb=>hf sV k b hw hb
     refine⟨λ_=>hf',?_,tH (r:=s.less W) wM (by simpa[rE]using hv) (by simpa[rE]using F4 hf') (λn hn=> ?_) (by rw[he];exact hk)⟩
     ·rw[fZ,q0 hy (jX wM),Bool.true_and]
      have:=Ag hk
      rwa [oP (kd _ _)]at this
     ·exact y8 n (λhd=>h3 n hd hn)
   ·simp only[aJ,Bool.not_eq_true']at hp
    obtain⟨⟨wM,hya⟩,hp⟩:=hp
    split at hp
    case h_2=>simp at hp
    rename_i k hk
    simp only[aJ,bne_iff_ne,ne_eq,Bool.not_eq_true',List.contains_eq_mem,decide_eq_false_iff_not]at hp
    obtain⟨z,VI,Sk⟩:=CQ (P:=P) hk
    have hn:get s.bx k=none:=(Ah hi hk).1 nP.2.2.1
    unfold jW at h
    rw[if_neg (by rw[wM];simp)]at h
    have h':iu P s y λt=>get t.bx k=none∧(λt'=>(fl j=true->Fr W (qa k z s) t')∧jk P aos fl W t' (l1++l2) K) (qa k z t):=by
     refine eF (λt ht=> ?_) h
     obtain⟨hf,ht⟩:=ht
     have ih:=xU hi hx l2 l1 _ (λk hk=>dM k (by simp[hk])) (λk hk=>bS k (by simp only[List.cons_append,cJ];exact .inr hk)) ht
     obtain⟨i1,_,i3⟩:=(Sk t _).1 ih
     exact⟨i1,λe=>JL (hf e),i3⟩
    refine(Sk s _).2 ⟨hn,λ_=>Qd hn,?_,?_⟩
    ·refine CU hi hk (λm hm=>bS m (by simpa using hm)) ?_
     exact F6 nP.1 nP.2.1 nP.2.2.2
    ·unfold jW
     rw[if_neg (by rw[wM];simp)]
     exact JG hya hp.1 hp.2 hn h'
end Go.Ab
namespace Go.Ab
variable [eJ]
variable {P:Program} {nt:Nat} {ds:List Deferred} {s s':St} {Γ:Cx} {a:Act} {w:World} {Q:Exit->Act->World->Prop} [ji]
def re (ops:Array Oper):List Nat->List Nat->Bool
 |_,[]=>true
 |done,i::r=>(match ops[i]?with|some o=>(o.after.all λe=> !Region.binds .any e||done.contains e.on)|none=>false)&&re ops (i::done) r
def pF (ms:List Nat) (aos:List AO) (fl:Nat->Bool):List Nat->Bool
 |[]=>true
 |j::r=>(r.all λi=>j !=i&&pE aos j i&&(Bm ms i j||jY aos fl j i))&&pF ms aos fl r
def tI (ops:Array Oper) (aos:List AO) (ord us:List Nat):Bool:=
 re ops [] ord&&pF (jc ops.toList []) aos us.contains ord&&ord.length==ops.size&&(ord.all λi=>decide (i<ops.size))&&(List.range ops.size).all λi=>ord.contains i
theorem pG {ops:Array Oper}:∀(p:List Nat) (done:List Nat) {i:Nat} {q:List Nat},re ops done (p++i::q)=true->∀o,ops[i]? =some o->∀e∈o.after,Region.binds .any e=true->e.on∈done∨e.on∈p
 |
  [],done,i,q,h,o,ho,e,he,hb=>by
  simp only[List.nil_append,re,ho,aJ,Array.all_eq_true_iff_forall_mem]at h
  have:=h.1 e he
  simp[hb]at this
  exact .inl this
 |
  x::p,done,i,q,h,o,ho,e,he,hb=>by
  simp only[List.cons_append,re,aJ]at h
  rcases pG p (x::done) h.2 o ho e he hb with h1|h1
  ·rcases List.mem_cons.1 h1 with h2|h2
   ·exact .inr (by simp[h2])
   ·exact .inl h2
  ·exact .inr (by simp[h1])
theorem pH {ms:List Nat} {aos:List AO} {fl:Nat->Bool}:∀ {l:List Nat},pF ms aos fl l=true->l.Pairwise λj i=>(j≠i∧pE aos j i=true)∧(Bm ms i j=true∨jY aos fl j i=true)
 |[],_=> .nil
 |
  j::r,h=>by
  simp only[pF,aJ,List.all_eq_true]at h
  refine .cons (λi hi=> ?_) (pH h.2)
  have:=h.1 i hi
  simpa using this
theorem lM {aos:List AO} {i j:Nat} (h:pE aos i j=true):pE aos j i=true:=by
 unfold pE at*
 cases h1:aos[i]? <;>cases h2:aos[j]? <;>simp only[h1,h2]at h⊢
 rename_i x y
 cases h3:x.iC<;>cases h4:y.iC<;>simp only[h3,h4,bne_iff_ne]at h⊢
 exact λe=>h e.symm
def n8 (ops:Array Oper) (ord:List Nat):Bool:=
 re ops [] ord&&ord.length==ops.size&&(ord.all λi=>decide (i<ops.size))&&(List.range ops.size).all λi=>ord.contains i
def tK (ops:Array Oper) (aos:List AO) (fl:Nat->Bool) (j i:Nat):Prop:=(j≠i∧pE aos j i=true)∧(Bm (jc ops.toList []) i j=true∨jY aos fl j i=true)
theorem Zd {ro:Option Nat} {ops:Array Oper} {aos:List AO} {own sp:List Nat} {ord us:List Nat} {W:List Nat} (mH:∀(i:Nat) o,ops[i]? =some o->∃ao,aos[i]? =some ao∧ou P nt ops own sp true o=some ao) (eE:n8 ops ord=true) {K:St->Prop}:
  ∀
   (n:Nat) (listed:Array Bool) {s:St} {Γ:Cx} {a:Act} {w:World},listed.size=ops.size->ov ops listed->(ord.filter λi=> !listed.getD i true).Pairwise (tK ops aos us.contains)->(ord.filter λi=> !listed.getD i true).length=n->
   gK nt ds s Γ a->w.heap=Γ.heap->xF P Γ->jk P aos us.contains W s (ord.filter λi=> !listed.getD i true) K->CE P nt ds Γ w K (Q .normal)->wpAnyIn (FW ro) 0 P .any ops Q n listed a w:=by
 simp only[n8,aJ,List.all_eq_true,decide_eq_true_eq,List.mem_range]at eE
 obtain⟨⟨⟨hE,_⟩,dG⟩,dM⟩:=eE
 have y7:∀listed:Array Bool,listed.size=ops.size->Region.ready .any ops listed=[]->(ord.filter λi=> !listed.getD i true)=[]:=by
  intro listed iq hr
  cases hl:ord.filter λi=> !listed.getD i true with
  |nil=>rfl
  |
   cons i l=>
   exfalso
   obtain⟨p,q,FL,hp,hi,_⟩:=List.filter_eq_cons_iff.1 hl
   have hio:i<ops.size:=dG i (by rw[FL];simp)
   have:i∈Region.ready .any ops listed:=by
    rw[mem_ready]
    refine⟨by simpa using hi,ops[i],Array.getElem?_eq_getElem hio,λe he hb=> ?_⟩
    rw[FL]at hE
    rcases pG p [] hE _ (Array.getElem?_eq_getElem hio) e he hb with h1|h1
    ·simp at h1
    ·have h2:=hp _ h1
     have h3:e.on<listed.size:=by rw[iq];exact dG _ (by rw[FL];simp[h1])
     simp[Array.getD_eq_getD_getElem?,Array.getElem?_eq_getElem h3]at h2⊢
     exact h2
   rw[hr]at this;simp at this
 intro n
 induction n with
 |
  zero=>
  intro listed s Γ a w iq hc _ hn hs hw hY h hk
  have hl:=List.length_eq_zero_iff.1 hn
  rw[hl]at h
  refine⟨?_,hk _ _ _ _ hs hw (Le.refl Γ) (WF.refl w) h⟩
  rw[List.eq_nil_iff_forall_not_mem]
  intro i hi
  obtain⟨h1,o,ho,_⟩:=mem_ready.1 hi
  have:i∈ord.filter λi=> !listed.getD i true:=by
   rw[List.mem_filter]
   exact⟨by simpa using dM i (Array.getElem?_eq_some_iff.1 ho).1,by rw[h1];rfl⟩
  rw[hl]at this;simp at this
 |
  succ n ih=>
  intro listed s Γ a w iq hc hPw hn hs hw hY h hk
  refine⟨λhr=> ?_,λi hi=> ?_⟩
  ·rw[y7 listed iq hr]at hn;simp at hn
  ·obtain⟨IW,o,ho,DT⟩:=mem_ready.1 hi
   have PR:=(Array.getElem?_eq_some_iff.1 ho).1
   obtain⟨ao,Ch,YL⟩:=mH i o ho
   have iV:i∈ord.filter λi=> !listed.getD i true:=by
    rw[List.mem_filter];exact⟨by simpa using dM i PR,by rw[IW];rfl⟩
   obtain⟨l1,l2,hl⟩:=List.append_of_mem iV
   have MX:(l1++i::l2).Pairwise λj i=>(j≠i∧pE aos j i=true)∧(Bm (jc ops.toList []) i j=true∨jY aos us.contains j i=true):=by rw[←hl];exact hPw
   have xi:(l1++i::l2).Nodup:=MX.imp (λh=>h.1.1)
   have og:ord.filter (λj=> !(listed.setIfInBounds i true).getD j true)=l1++l2:=by
    have e:(λj=> !(listed.setIfInBounds i true).getD j true)=λj=>(decide (j≠i))&& !listed.getD j true:=by
     funext j
     by_cases zT:i=j
     ·subst zT;simp[Array.getD_eq_getD_getElem?,uJ (by omega:i<listed.size)]
     ·rw[getD_set_ne true zT];simp[Ne.symm zT]
    rw[e,←List.filter_filter,hl,List.filter_append,List.filter_cons]
    simp only[ne_eq,not_true,decide_false,fJ,if_false]
    have wK:=List.nodup_append.1 xi
    rw[List.filter_eq_self.2,List.filter_eq_self.2]
    ·intro x hx;simp;rintro rfl;exact(List.nodup_cons.1 wK.2.1).1 hx
    ·intro x hx;simp;rintro rfl;exact wK.2.2 x hx x (by simp) rfl
   rw[hl]at h hn
   have qg:∀j∈l1,jY aos us.contains j i=true:=by
    intro j hj
    have h1:=(List.pairwise_append.1 MX).2.2 j hj i (by simp)
    rcases h1.2 with hb|hb
    ·exfalso
     have hjm:j∈ord.filter λi=> !listed.getD i true:=by rw[hl];simp[hj]
     obtain⟨hjo,PT⟩:=List.mem_filter.1 hjm
     have:=uO hc (xM hb) hi
     have pe:j<listed.size:=by rw[iq];exact dG j hjo
     simp[Array.getD_eq_getD_getElem?,Array.getElem?_eq_getElem pe]at this PT
     rw[this]at PT;simp at PT
    ·exact hb
   have bS:∀j∈l1++l2,pE aos j i=true:=by
    intro j hj
    rcases List.mem_append.1 hj with hj|hj
    ·exact((List.pairwise_append.1 MX).2.2 j hj i (by simp)).1.2
    ·have h1:=(List.rel_of_pairwise_cons (List.pairwise_append.1 MX).2.1 hj).1.2
     exact lM h1
   have hf:iu P s ao λt=>jk P aos us.contains W t (l1++l2) K:=by
    cases hx:ao.quiet with
    |
     true=>
     obtain⟨v,h1,h2⟩:=EF Ch hx l2 l1 s qg h
     exact h2 s (Sub.refl _) (λ_ _=>rfl) _ h1
    |false=>exact eF (λt ht=>ht.2) (xU Ch hx l2 l1 s qg bS h)
   refine oN ho YL hs hw hY hf ?_
   intro s' Γ' a' w' b1 b2 b3 b4 b5
   refine ih (listed.setIfInBounds i true) (by simp[iq]) ?_ (by rw[og];exact MX.sublist (List.Sublist.append (List.Sublist.refl l1) (List.sublist_cons_self i l2))) (by rw[og];simp at hn⊢;omega) b1 b2 (hY.le b3) (by rw[og];exact b5) (hk.trans b3 b4)
   intro k ok vC uv e he hb
   by_cases Cp:i=k
   ·subst Cp;rw[ho]at vC;cases vC;exact getD_set_true (DT e he hb)
   ·rw[getD_set_ne true Cp]at uv;exact getD_set_true (hc k ok vC uv e he hb)
theorem JM {ops:Array Oper} {aos:List AO} {ord us:List Nat} (h:tI ops aos ord us=true):n8 ops ord=true:=by
 simp only[tI,n8,aJ]at h⊢
 exact⟨⟨⟨h.1.1.1.1,h.1.1.2⟩,h.1.2⟩,h.2⟩
theorem sq {ro:Option Nat} {ops:Array Oper} {aos:List AO} {own sp:List Nat} {ord us:List Nat} {id:Nat} (hm:P.follows .mixedOrders=true) (ht:lU P nt ops own sp true ops.toList=some aos) (eE:tI ops aos ord us=true) {K:St->Prop} (hs:gK nt ds s Γ a) (hw:w.heap=Γ.heap)
  (hY:xF P Γ) (h:∃W,jk P aos us.contains W s ord K) (hk:CE P nt ds Γ w K (Q .normal)):(Code.region id ops true).wpIn (FW ro) 0 P Q a w:=by
 obtain⟨W,h⟩:=h
 obtain⟨h1,h2⟩:=nD ht
 have PU:=eE
 simp only[tI,aJ,List.all_eq_true,decide_eq_true_eq,List.mem_range,beq_iff_eq]at PU
 have e:(ord.filter λi=> !(Array.replicate ops.size false).getD i true)=ord:=by
  rw[List.filter_eq_self]
  intro i hi
  have:=PU.1.2 i hi
  simp[Array.getD_eq_getD_getElem?,this]
 refine wpIn_region_any hm (Zd (s:=s) (Γ:=Γ) (K:=K) (W:=W) (λi o hi=>h2 i o (by simpa using hi)) (JM eE) _ _ (by simp) ?_ (by rw[e];exact pH PU.1.1.1.2) (by rw[e];exact PU.1.1.2) hs hw hY (by rw[e];exact h) ?_)
 ·intro k o Sj hl
  have:=(Array.getElem?_eq_some_iff.1 Sj).1
  simp[Array.getD_eq_getD_getElem?,this]at hl
 ·intro s' Γ' a' w' b1 b2 b3 b4 b5
  exact hk s' Γ' a' w' b1 b2 b3 ⟨b4.os,b4.tape,b4.output⟩ b5
def JN (ops:Array Oper) (done:List Nat) (i:Nat):Bool:= !done.contains i&&match ops[i]?with|some o=>o.after.all λe=> !Region.binds .any e||done.contains e.on|none=>false
def sr (aos:List AO) (i:Nat):Bool:=match aos[i]?with|some x=>x.quiet|none=>false
def SH (ops:Array Oper) (aos:List AO):Nat->List Nat->List Nat
 |0,done=>done.reverse
 |
  n+1,done=>match(List.range ops.size).find? (λi=>JN ops done i&&sr aos i)with
  |some i=>SH ops aos n (i::done)
  |
   none=>match(List.range ops.size).find? (JN ops done)with
   |some i=>SH ops aos n (i::done)
   |none=>done.reverse
def soB (aos:List AO) (i:Nat):Bool:=match aos[i]?with|some x=>x.jd|none=>false
def early (ms:List Nat) (aos:List AO):List Nat->List Nat
 |[]=>[]
 |j::r=>if(sr aos j&& !soB aos j&&r.any λi=> !sr aos i&& !Bm ms i j)=true then j::early ms aos r else early ms aos r
def uX (ops:Array Oper) (aos:List AO):List Nat:=SH ops aos ops.size []
def CV (ms:List Nat) (aos:List AO):List Nat->List Nat->List Nat
 |_,[]=>[]
 |done,i::r=>if(!sr aos i&&done.any λj=>sr aos j&& !soB aos j&& !Bm ms i j)=true then i::CV ms aos (i::done) r else CV ms aos (i::done) r
def F9 (ops:Array Oper) (aos:List AO):List Nat:=early (jc ops.toList []) aos (uX ops aos)++CV (jc ops.toList []) aos [] (uX ops aos)
end Go.Ab
namespace Go.Ab
variable [eJ]
variable {P:Program} {nt:Nat} {ds:List Deferred} {s:St} {Γ Γ0:Cx} {a:Act} {w w0:World}
def Cx.out (Γ:Cx) (ks:List Nat) (cY:List bX):Cx:=
 {
  heap:=Γ.heap,ι:=λk=>if KB≤k then(match ks[k-KB]?with|some j=>Γ.ι j|none=>none)else none,
  bx:=aF 0 (cY.map (aE (bp ks))),ed:=Γ.ed}
theorem Cx.tL {ks:List Nat} {cY:List bX} (hg:getAll Γ.bx ks=some cY) {b:Nat}:(Γ.out ks cY).hO b↔∃(i:Nat) (k:Nat),ks[i]? =some k∧Γ.ι k=some b:=Cx.kQ (Γ:=Γ) hg
theorem Cx.CW {ks:List Nat} {cY:List bX} (hg:getAll Γ.bx ks=some cY):uH (bM ks) (bp ks) Γ (Γ.out ks cY) where
 heap:=rfl
 own b hb hn:=by
  rintro(h|h)
  ·obtain⟨i,k,h1,h2⟩:=(Cx.tL hg).1 h
   obtain⟨_,da⟩:=fA hg
   obtain⟨b',g1,_⟩:=da _ _ h1
   exact hn (.inl ⟨k,b',g1,h2⟩)
  ·exact hn (.inr h)
 ref:=(Cx.nj hg).ref
theorem Cx.Ga (hm:Mem Γ) {ks:List Nat} {cY:List bX} (hg:getAll Γ.bx ks=some cY) (hn:ks.Nodup) (eE:cY.all (af (bM ks))=true):Mem (Γ.out ks cY) where
 blk k blk hk:=by
  obtain⟨hl,da⟩:=fA hg
  simp only[Cx.out,fY]at hk
  split at hk
  ·rename_i hle
   rw[List.getElem?_map,mJ]at hk
   obtain⟨b0,Eb,rfl⟩:=hk
   have hi:=(List.getElem?_eq_some_iff.1 Eb).1
   obtain⟨j,hj⟩:∃j,ks[k-KB]? =some j:=⟨_,gJ (by omega)⟩
   obtain⟨b1,g1,g2⟩:=da _ _ hj
   simp only[Nat.sub_zero]at Eb
   rw[Eb]at g2;cases g2
   have:=(hm.blk j b0 g1).aB (Cx.CW hg) (List.all_eq_true.1 eE b0 (List.mem_of_getElem? Eb))
   have e:(Γ.out ks cY).ι k=Γ.ι j:=by simp only[Cx.out];rw[if_pos (by omega),hj]
   rw[e];exact this
  ·simp at hk
 inj:=(Cx.tn hm hg hn eE).inj
 ed:=hm.ed
 apart b h hp:=by
  obtain⟨i,k,h1,h2⟩:=(Cx.tL hg).1 h
  obtain⟨_,da⟩:=fA hg
  obtain⟨b',g1,_⟩:=da _ _ h1
  exact hm.apart b ⟨k,b',g1,h2⟩ hp
 te b cs h:=by
  obtain⟨h1,h2⟩:=hm.te b cs h
  refine⟨λhb=>h1 ?_,h2⟩
  obtain⟨i,k,g1,g2⟩:=(Cx.tL hg).1 hb
  obtain⟨b',g3,_⟩:=(fA hg).2 i k g1
  exact⟨k,b',g3,g2⟩
theorem Cx.JO {ks:List Nat} {cY fp:List bX} (hle:Le Γ0 Γ) (h0:Γ0.bx=aF 0 fp) (hg:getAll Γ.bx ks=some cY) (hks:ks.take fp.length=eC fp.length):Le Γ0 (Γ.out ks cY) where
 heap:=hle.heap
 hO b hb h:=by
  obtain⟨i,k,h1,h2⟩:=(Cx.tL hg).1 h
  obtain⟨_,da⟩:=fA hg
  obtain⟨b',g1,_⟩:=da _ _ h1
  exact hle.hO b hb ⟨k,b',g1,h2⟩
 ed:=hle.ed
 size:=hle.size
 ref k blk hk:=by
  obtain⟨cI,h1,h2,h3⟩:=hle.ref k blk hk
  rw[h0,fY]at hk
  split at hk
  ·rename_i YM
   have hi:=(List.getElem?_eq_some_iff.1 hk).1
   have e:ks[k-KB]? =some k:=by
    have:(ks.take fp.length)[k-KB]? =some k:=by
     rw[hks,eC,List.getElem?_map,List.getElem?_range (by omega)]
     simp;omega
    rw[List.getElem?_take]at this
    split at this
    ·exact this
    ·simp at this
   obtain⟨hl,da⟩:=fA hg
   obtain⟨b1,g1,g2⟩:=da _ _ e
   rw[h1]at g1;cases g1
   refine⟨aE (bp ks) cI,?_,by rw[js];exact h2,λht=> ?_⟩
   ·simp only[Cx.out,fY]
    rw[if_pos (by omega),List.getElem?_map,show k-KB-0=k-KB by omega,g2];rfl
   ·rw[js]at ht
    obtain⟨h4,h5⟩:=h3 ht
    exact⟨by simp only[Cx.out];rw[if_pos (by omega),e];exact h4,h5⟩
  ·simp at hk
def xV (Q:Exit->St->Prop) (K:St->Prop):Exit->St->Prop
 | .normal,s=>K s
 |e,s=>Q e s
def Qe (id:Nat) (Q:Exit->St->Prop):Exit->St->Prop
 | .exit id',s=>if id'=id then Q .normal s else Q (.exit id') s
 |e,s=>Q e s
def lift (nt:Nat) (Γ0:Cx) (w0:World) (Q:Exit->St->Prop):Exit->Act->World->Prop:=
 λe a w=>∃ds s Γ,gK nt ds s Γ a∧kR Γ0.heap.size Γ ds∧w.heap=Γ.heap∧Le Γ0 Γ∧WF w0 w∧Q e s
theorem xW {Q:Exit->St->Prop} {K:St->Prop} {e:Exit} (h:lift nt Γ0 w0 (xV Q K) e a w):Exit.then (lift nt Γ0 w0 (λ_=>K) .normal) (lift nt Γ0 w0 Q) e a w:=by
 cases e<;>exact h
theorem JP {Q:Exit->St->Prop} {id:Nat} {e:Exit} (h:lift nt Γ0 w0 (Qe id Q) e a w):Exit.inBlock id (lift nt Γ0 w0 Q) e a w:=by
 cases e with
 |
  exit id'=>
  obtain⟨ds,s,Γ,h1,hd,h2,h3,h4,h5⟩:=h
  simp only[Exit.inBlock,Qe]at h5⊢
  split at h5
  ·rename_i hid;rw[if_pos hid];exact⟨ds,s,Γ,h1,hd,h2,h3,h4,h5⟩
  ·rename_i hid;rw[if_neg hid];exact⟨ds,s,Γ,h1,hd,h2,h3,h4,h5⟩
 |_=>exact h
def Qg (P:Program) (fid:FuncId) (cap:List PV) (fp:List bX) (Y:List PV->List bX->(List bX->Prop)->Prop) (R:List bX->Prop):Prop:=
 (∀(vs:Array Value) (w:World),(callFunc fid vs).run P w= .ok (.enter fid vs) w)∧
 ∀
  (Γ:Cx) (w:World) (vs:List Value) (l:Nat) (rec:Loop),w.heap=Γ.heap->Mem Γ->Γ.bx=aF 0 fp->gq Γ cap vs->Γ.heap[l]? =some (.loop rec)->
  (∀args Ec R1,Y args Ec R1->Jm P l Γ args Ec R1)->
  CallsIn (FW none) 0 P fid (#[.func (.yield l) #[] #[]]++vs.toArray) w (λe w'=>∃v pV Γ',e= .returned v∧R pV∧w'.heap=Γ'.heap∧Mem Γ'∧Γ'.bx=aF 0 pV∧Le Γ Γ'∧WF w w')
def Ze (n:Nat) (R:List bX->Prop) (s:St):Prop:=
 ∃c:List Cut,jq c s λs'=>∃cY,getAll s'.bx (eC n)=some cY∧cY.all (af (fj n))=true∧R cY
def JQ (n:Nat) (R:List bX->Prop):Exit->St->Prop
 | .normal,s=>Ze n R s
 |_,_=>False
def noQ:Exit->St->Prop:=λ_ _=>False
def uY (ks:List Nat):List (Nat×PV)->List (Nat×PV)
 |[]=>[]
 |(n,p)::r=>(n,if ae (bM ks) p=true then aB (bp ks) p else .un)::uY ks r
def CX:List (Nat×PV)->List Nat->List PV->List (Nat×PV)
 |e,t::ts,p::ps=>CX (put e t p) ts ps
 |e,_,_=>e
def Bt (ks:List Nat) (s:St) (ps:List Nat) (args:List PV) (fp:List bX):St:=⟨CX (uY ks s.env) ps args,aF 0 fp⟩
def EG [ji] (P:Program) (A B:(Exit->St->Prop)->St->Prop) (s:St) (fid:FuncId) (cap:List PV) (ps:List Nat) (K:St->Prop):Prop:=
 (∀l a f r,¬ji.spec l a f r)∧∃ks cY Y R,(getAll s.bx ks=some cY∧ks.Nodup∧ab (bM ks) cap=true∧cY.all (af (bM ks))=true)∧
  Qg P fid (aD (bp ks) cap) (cY.map (aE (bp ks))) Y R∧
  (∀args fp R1,Y args fp R1->(args.length=ps.length∧fp.length=ks.length)∧A (xV noQ λs'=>B (JQ ks.length R1) s') (Bt ks s ps args fp))∧
  ∀fp,R fp->(fp.length=ks.length∧fp.all (af (fj fp.length))=true)∧K {s with bx:=bb s.bx ks (fp.map (aE (dv ks)))}
theorem gq.length:∀ {l:List PV} {vs:List Value},gq Γ l vs->vs.length=l.length
 |[],[],_=>rfl
 |[],_::_,h=>by simp[gq]at h
 |_::_,[],h=>by simp[gq]at h
 |_::_,_::_,h=>by simp[gq.length h.2]
theorem gq.mono {Γ':Cx} (hle:Le Γ Γ'):∀ {l:List PV} {vs:List Value},gq Γ l vs->gq Γ' l vs
 |[],[],_=>trivial
 |p::l,v::vs,h=>⟨h.1.mono hle,h.2.mono hle⟩
 |[],_::_,h=>h.elim
 |_::_,[],h=>h.elim
theorem xX {ks:List Nat} {k:Nat}:∀ {e:List (Nat×PV)} {q:PV},get (uY ks e) k=some q->q= .un∨∃p,get e k=some p∧ae (bM ks) p=true∧q=aB (bp ks) p
 |[],q,h=>by simp[uY,get]at h
 |
  (n,p)::r,q,h=>by
  simp only[uY,get]at h⊢
  split at h
  ·rename_i hn
   simp only[sJ]at h
   rw[if_pos hn]
   split at h
   ·rename_i hr;exact .inr ⟨p,rfl,hr,h.symm⟩
   ·exact .inl h.symm
  ·rename_i hn
   rw[if_neg hn]
   exact xX h
theorem CY:∀ {ps:List Nat} {args:List PV} {vs:List Value} {env:List (Nat×PV)} {tmps:Array Value},tmps.size=nt->(∀t∈ps,t<nt)->gq Γ args vs->args.length=ps.length->
  (∀k p,get env k=some p->aO Γ p (tmps.getD k undef))->
  ((ps.zip vs).foldl (λts (x:Nat×Value)=>ts.setIfInBounds x.1 x.2) tmps).size=nt∧∀k p,get (CX env ps args) k=some p->aO Γ p (((ps.zip vs).foldl (λts (x:Nat×Value)=>ts.setIfInBounds x.1 x.2) tmps).getD k undef)
 |[],[],vs,env,tmps,h1,h2,h3,h4,h5=>by simp only[List.zip_nil_left,List.foldl_nil,CX];exact⟨h1,h5⟩
 |[],_::_,_,_,_,_,_,_,h4,_=>by simp at h4
 |_::_,[],_,_,_,_,_,_,h4,_=>by simp at h4
 |t::ps,p::args,[],env,tmps,h1,h2,h3,h4,h5=>h3.elim
 |
  t::ps,p::args,v::vs,env,tmps,h1,h2,h3,h4,h5=>by
  simp only[List.zip_cons_cons,List.foldl_cons,CX]
  refine CY (by simpa using h1) (λx hx=>h2 x (by simp[hx])) h3.2 (by simpa using h4) ?_
  intro k q hk
  rw[gL]at hk
  split at hk
  ·rename_i e;subst e
   simp only[sJ]at hk;subst hk
   rw[Array.getD_eq_getD_getElem?,uJ (by rw[h1];exact h2 _ (by simp))]
   exact h3.1
  ·rename_i bS
   rw[Array.getD_eq_getD_getElem?,Array.getElem?_setIfInBounds_ne bS,←Array.getD_eq_getD_getElem?]
   exact h5 k q hk
theorem kR.obj {B l:Nat} {o:Obj} {rec:Loop} (h:kR B Γ ds) (hl:Γ.heap[l]? =some (.loop rec)):kR B (Γ.obj l o) ds:=by
 obtain⟨Ds,h1,h2,h3⟩:=h
 refine⟨Ds,h1,h2,λD hD=>⟨(h3 D hD).1,?_⟩⟩
 have h4:=(h3 D hD).2
 have bS:D≠l:=by rintro rfl;rw[hl]at h4;simp at h4
 rw[jb bS];exact h4
theorem CZ [ji] {g:Operand} {ps:Array Nat} {as bo:Code} {A B:(Exit->St->Prop)->St->Prop} {fid:FuncId} {cap:List PV} {Q:Exit->St->Prop}
  (hA:∀ {l:Nat} {Γ1:Cx} {w1:World} {Q:Exit->St->Prop} {s:St} {Γ:Cx} {a:Act} {w:World} {ds:List Deferred},HK Γ1->xF P Γ1->A Q s->gK nt ds s Γ a->kR Γ1.heap.size Γ ds->w.heap=Γ.heap->Le Γ1 Γ->WF w1 w->as.wpIn (FW (some l)) 0 P (lift nt Γ1 w1 Q) a w)
  (hB:∀ {l:Nat} {Γ1:Cx} {w1:World} {Q:Exit->St->Prop} {s:St} {Γ:Cx} {a:Act} {w:World} {ds:List Deferred},HK Γ1->xF P Γ1->B Q s->gK nt ds s Γ a->kR Γ1.heap.size Γ ds->w.heap=Γ.heap->Le Γ1 Γ->WF w1 w->bo.wpIn (FW (some l)) 0 P (lift nt Γ1 w1 Q) a w)
  (Cb:∀t∈ps.toList,t<nt) (hs:gK nt ds s Γ a) (hd:kR Γ0.heap.size Γ ds) (hw:w.heap=Γ.heap) (hle:Le Γ0 Γ) (oC:WF w0 w)
  (hg:aO Γ (.fn (.func fid) [] cap) (a.eval g)) (h:EG P A B s fid cap ps.toList λs'=>Q .normal s'):
  (Code.rangeFunc g ps as bo).wpIn (FW none) 0 P (lift nt Γ0 w0 Q) a w:=by
 obtain⟨jP,ks,cY,Y,R,⟨hgk,hn,YG,hrb⟩,⟨zO,yT⟩,VQ,hK⟩:=h
 have ac7:∀Γ1,xF P Γ1:=λΓ1 l a f r wm=>absurd wm (jP l a f r)
 obtain⟨cs,Sg,AT⟩:∃cs:List Value,a.eval g= .func (.func fid) #[] cs.toArray∧gq Γ cap cs:=by
  simp only[aO]at hg
  generalize a.eval g=v at hg
  cases hg with
  | @fn _ _ fs cs _ _ _ h1 h2 h3 h4 _=>cases h1;exact⟨cs,rfl,mV h2 h4⟩
 refine wpIn_rangeFunc λfn _=> ?_
 obtain⟨rec,Cg⟩:∃rec:Loop,rec= {state:= .ready,pending:=none,fn,tmps:=a.tmps,params:=ps,assign:=as,body:=bo,defers:=w.heap.size}:=⟨_,rfl⟩
 have sX:rec.state= .ready:=by rw[Cg]
 have ac8:rec.pending=none:=by rw[Cg]
 have hlb:w.heap.size=Γ.heap.size:=by rw[hw]
 obtain⟨l,hl⟩:∃l,l=w.heap.size+1:=⟨_,rfl⟩
 obtain⟨w1,zf⟩:∃w1,w1=(w.alloc (.deferred (some []))).alloc (.loop rec):=⟨_,rfl⟩
 obtain⟨Γ1,hΓ1⟩:∃Γ1,Γ1=(Γ.push (.deferred (some []))).push (.loop rec):=⟨_,rfl⟩
 have ID:Le Γ Γ1:=by rw[hΓ1];exact(px _ _).trans (px _ _)
 have yU:Mem Γ1:=by rw[hΓ1];exact mem_push (mem_push hs.mem _) _
 have VR:Γ1.bx=s.bx:=by rw[hΓ1];exact hs.bx
 have VS:w1.heap=Γ1.heap:=by rw[zf,hΓ1];simp[World.alloc,Cx.push,hw]
 have hl1:Γ1.heap[l]? =some (.loop rec):=by
  rw[hΓ1,hl];simp only[Cx.push]
  rw[Array.getElem?_push,if_pos (by simp[hlb])]
 have Sl:Γ1.heap[w.heap.size]? =some (.deferred (some [])):=by
  rw[hΓ1];simp only[Cx.push]
  rw[Array.getElem?_push,if_neg (by simp[hlb]),Array.getElem?_push,if_pos hlb]
 have AS:gK nt ds s Γ1 a:=⟨by rw[VR],hs.size,hs.defers,λk p hk=>(hs.env k p hk).mono ID,yU⟩
 have VT:getAll Γ1.bx ks=some cY:=by rw[VR];exact hgk
 have nN:=Cx.nj (Γ:=Γ1) VT
 have hmc:=Cx.tn yU VT hn hrb
 have Sa:(Γ1.call ks cY).heap[l]? =some (.loop rec):=hl1
 have Cc:gq (Γ1.call ks cY) (aD (bp ks) cap) cs:=by
  have:gq Γ1 cap cs:=AT.mono ID
  exact this.aB nN YG
 refine⟨l,[{target:= .collected w.heap.size,args:= #[]}],w1,{target:= .fn (.func fid) cs.toArray,args:= #[.func (.yield l) #[] #[]]},w1,fid,
  #[.func (.yield l) #[] #[]]++cs.toArray,w1,?_,?_,λ_ _=>trivial,?_,λh=>by simp[FW,Fence.wide]at h,?_⟩
 ·rw[zf,Cg,hl];exact run_enterLoop_outer _ _ _ _ _
 ·simp only[resolve,Sg]
  simp[Deferred.ofValue]
  rfl
 ·simp only[invoke]
  exact zO _ _
 ·refine(yT (Γ1.call ks cY) w1 cs l rec VS hmc rfl Cc Sa λargs fp R1 hY=> ?_).mono ?_
  ·--a round
   intro Γy wy vs hwy hmy VU Sm aiF hly
   obtain⟨⟨hlen,VO⟩,hAA⟩:=VQ args fp R1 hY
   have VL:Γy.heap[l]? =some (.loop rec):=by rw[hly];exact Sa
   have hkY:HK Γy:=by
    intro k blk hk
    rw[VU,fY]at hk
    split at hk
    ·omega
    ·simp at hk
   have hvl:vs.length=ps.toList.length:=by rw[Sm.length,hlen]
   refine⟨fn,(ps.toList.zip vs).foldl (λts (x:Nat×Value)=>ts.setIfInBounds x.1 x.2) a.tmps,as,bo,?_,roundIn_of_wpIn trivial ?_⟩
   ·have:=run_yield (P:=P) (w:=wy) (l:=l) (r:=rec) (args:=vs.toArray) (by rw[hwy];exact VL) (by rw[Cg];simpa using hvl)
    rw[this,Cg]
    congr 2
    rw[←Array.foldl_toList,Array.toList_zip]
   ·have wm:=CY (Γ:=Γy) (env:=uY ks s.env) hs.size Cb Sm hlen (λk p hk=>by
     rcases xX hk with rfl|⟨q,h1,h2,rfl⟩
     ·simp[aO]
     ·exact((AS.env k q h1).aB nN h2).mK aiF)
    have aiG:gK nt [] (Bt ks s ps.toList args fp) Γy {tmps:=(ps.toList.zip vs).foldl (λts (x:Nat×Value)=>ts.setIfInBounds x.1 x.2) a.tmps,defers:=[]}:=⟨VU,wm.1,rfl,wm.2,hmy⟩
    refine wpIn_mono (hA (l:=l) (w1:=wy) hkY (ac7 _) hAA aiG .nil hwy (Le.refl _) (WF.refl _)) ?_
    rintro e a1 wa ⟨ds1,s1,Γa,hsa,hda,hwa,ade,aiH,hBB⟩
    cases e with
    |
     normal=>
     have hla:Γa.heap[l]? =some (.loop rec):=ade.plain hmy VL rfl
     refine⟨_,run_beginRound (by rw[hwa];exact hla) sX,?_⟩
     obtain⟨o,ho⟩:∃o:Obj,o= .loop {rec with state:= .busy}:=⟨_,rfl⟩
     rw[←ho]
     have hoc:Qb o=false:=by rw[ho];rfl
     have hpy:Γy.ik l:=⟨_,VL,rfl⟩
     have hpa:Γa.ik l:=⟨_,hla,rfl⟩
     have hky:HK (Γy.obj l o):=hkY
     refine wpIn_mono (hB (l:=l) (Γ1:=Γy.obj l o) (w1:=wy) hky (ac7 _) hBB (hsa.obj hpa) (by rw[mb];exact hda.obj hla) (tt hwa) (vI ade hmy hpy hoc) (aiH.trans (WF.obj _ _ _))) ?_
     rintro e a2 wb ⟨ds2,s2,Γb,hsb,hdb,hwb,aiJ,aiK,hq⟩
     cases e with
     |
      normal=>
      obtain⟨c,hc⟩:=hq
      obtain⟨s3,Γ3,hs3,hh3,adg,Hf,hg3,aiM,hR3⟩:=lL hky c hsb aiJ hc
      rw[←hs3.bx]at hg3
      have Me:Γ3.heap[l]? =some o:=adg.plain (wT hmy hpy) (tp hpy.lt) hoc
      have aiN:wb.heap[l]? =some (.loop {rec with state:= .busy}):=by rw[hwb,←hh3,Me,ho]
      have hmo:=Cx.Ga hs3.mem hg3 (mU _) (by rw[nW];exact aiM)
      have L0:=Cx.JO adg (fp:=fp) (by exact VU) hg3 (by rw[VO,tJ (by simp[eC])])
      have IX:(Γ3.out (eC ks.length) Hf).ik l:=⟨o,Me,hoc⟩
      have aiO:=run_endRound (P:=P) (jump:=none) aiN
      refine⟨_,_,aiO,Hf,(Γ3.out (eC ks.length) Hf).obj l (.loop rec),rfl,hR3,?_,wT hmo IX,?_,?_,aiK.trans (WF.obj _ _ _)⟩
      ·have e1:({({rec with state:= .busy}:Loop)with state:=if(none:Option Code).isNone=true then .ready else .done,pending:=none}:Loop)=rec:=by
        rw[Cg];rfl
       rw[e1]
       exact tt (by rw[hwb,←hh3];rfl)
      ·show aF 0 (Hf.map (aE (bp (eC ks.length))))=_
       rw[sg (λ_=>nX)]
      ·have:=vI (o:= .loop rec) L0 (wT hmy hpy) (Ac hpy hoc) rfl
       rwa [Jl VL]at this
     |_=>exact hq.elim
    |_=>exact hBB.elim
  ·--behind it
   rintro e w' ⟨v,pV,Γ',rfl,hR,L4,mO,Ma,vA,PW⟩
   obtain⟨⟨hlen,nP⟩,hKK⟩:=hK pV hR
   obtain⟨same2,le2,mem2⟩:=sf yU VT (os:=[]) (by simpa using hn) (by simp) mO Ma vA (by simpa using hlen) nP
   simp only[List.append_nil]at le2 mem2
   have Ce:Γ'.heap[l]? =some (.loop rec):=vA.plain hmc Sa rfl
   have MY:(Γ1.back Γ' ks pV).heap[l]? =some (.loop rec):=Ce
   refine⟨none,w'.putObj l (.loop {rec with state:= .exhausted}),?_,?_⟩
   ·have:=run_endLoop (P:=P) (w:=w') (l:=l) (r:=rec) (by rw[L4];exact Ce) (by rw[sX];simp)
    rw[this,ac8]
   ·refine⟨{target:= .collected w.heap.size,args:= #[]}::ds,_,(Γ1.back Γ' ks pV).obj l (.loop {rec with state:= .exhausted}),?_,?_,tt (by exact L4),?_,?_,hKK⟩
    ·have h2:=AS.le le2 mem2 (uq:=bb s.bx ks (pV.map (aE (dv ks)))) (by simp[Cx.back,VR])
     have h3:=h2.obj (o:= .loop {rec with state:= .exhausted}) ⟨_,MY,rfl⟩
     exact⟨h3.bx,h3.size,by simp[h3.defers],h3.env,h3.mem⟩
    ·refine kR.obj (rec:=rec) ?_ MY
     obtain⟨Ds,e1,e2,e3⟩:=(hd.le hs.mem ID).le yU le2
     refine⟨w.heap.size::Ds,by rw[e1];rfl,List.nodup_cons.2 ⟨λhm=> ?_,e2⟩,λD hD=> ?_⟩
     ·obtain⟨Ds',f1,f2,f3⟩:=hd
      have:Ds'=Ds:=by
       have:=f1.symm.trans e1
       exact(List.map_inj_right (λa b h=>by simpa using h)).1 this
      subst this
      have:=db (f3 _ hm).2
      omega
     ·rcases List.mem_cons.1 hD with rfl|hD
      ·exact⟨by rw[hlb];exact hle.size,le2.plain yU Sl rfl⟩
      ·exact e3 D hD
    ·exact tq ((hle.trans ID).trans le2) (by have:=hle.size;omega) ⟨_,MY,rfl⟩
    ·refine oC.trans (WF.trans ?_ (PW.trans (WF.obj _ _ _)))
     rw[zf];exact(WF.alloc _ _).trans (WF.alloc _ _)
end Go.Ab
namespace Go.Ab
variable [eJ]
variable {P:Program} {nt:Nat} {ds:List Deferred} {s s':St} [ji]
def lN (P:Program) (aos:List AO) (fl:Nat->Bool) (W E:List Nat) (s:St):List Nat->(St->Prop)->Prop
 |[],K=>fO aos s E=true∧K s
 |
  i::r,K=>match aos[i]?with
  |some o=>fO aos s (i::(r++E))=true∧jW P W (fl i) s o λt=>lN P aos fl W E t r K
  |none=>False
theorem Aj {aos:List AO} {fl:Nat->Bool} {W E:List Nat} {K:St->Prop}:∀ {l:List Nat} {s:St},lN P aos fl W E s l K->fO aos s (l++E)=true
 |[],s,h=>by simpa using h.1
 |
  i::r,s,h=>by
  simp only[lN]at h
  split at h
  ·simpa using h.1
  ·exact h.elim
theorem Gb {aos:List AO} {fl:Nat->Bool} {W E:List Nat} {K:St->Prop} {i:Nat} {x:AO} (hi:aos[i]? =some x) (hx:x.quiet=true) (l2:List Nat):∀(l1:List Nat) (s:St),
  (∀j∈l1,jY aos fl j i=true)->lN P aos fl W E s (l1++i::l2) K->∃v,lN P aos fl W E (s.put x.dst v) (l1++l2) K∧Qv P s x v
 |
  [],s,_,h=>by
  simp only[List.nil_append,lN,hi]at h
  obtain⟨v,h1,h2⟩:=n7 hx h.2
  exact⟨v,h1,λs' hb ha K' hk=>h2 s' (CR.trans hb) (ra ha) K' hk⟩
 |
  j::l1,s,dM,h=>by
  have hp:=dM j (by simp)
  unfold jY at hp
  cases hy:aos[j]?with
  |none=>rw[hy]at hp;simp at hp
  |
   some y=>
   rw[hy,hi]at hp
   simp only[jX hx,Bool.and_false,Bool.or_false,aJ]at hp
   obtain⟨⟨⟨wM,_⟩,oB⟩,_⟩:=hp
   have h1:∀d,y.dst=some d->d∉x.reads:=λd hd=>by simp[AO.apart,hd]at oB;exact oB.1.1
   have h2:∀d,y.dst=some d->x.dst≠some d:=λd hd=>by simp[AO.apart,hd]at oB;exact oB.1.2
   have h3:∀d,x.dst=some d->d∉y.reads:=λd hd=>by simp[AO.apart,hd]at oB;exact oB.2
   simp only[List.cons_append,lN,hy,List.append_assoc]at h⊢
   obtain⟨nP,h⟩:=h
   obtain⟨v,h,hv⟩:=n7 wM h
   obtain⟨u,h,hu⟩:=Gb hi hx l2 l1 _ (λk hk=>dM k (by simp[hk])) h
   refine⟨u,⟨?_,tH wM hv (by rw[CS];exact Sub.refl _) (ra (dY.put h3)) ?_⟩,?_⟩
   ·have nP:=F5 nP
    rw[oP (kd _ _)]
    exact F6 nP.1 nP.2.1 nP.2.2.2
   ·rw[St.put_comm (λk hk he=>h2 k he hk)];exact h
   ·intro s' hb ha K' hk
    refine hu s' (by rw[kd];exact hb) (λn hn=> ?_) K' hk
    rw[ha n hn]
    exact((dY.put h1) n hn).symm
theorem wY {aos:List AO} {fl:Nat->Bool} {W E:List Nat} {K:St->Prop} {i:Nat} {x:AO} (hi:aos[i]? =some x) (hx:x.quiet=false) (l2:List Nat):∀(l1:List Nat) (s:St),
  (∀j∈l1,jY aos fl j i=true)->(∀j∈l1++(l2++E),pE aos j i=true)->lN P aos fl W E s (l1++i::l2) K->iu P s x λt=>(fl i=true->Fr W s t)∧lN P aos fl W E t (l1++l2) K
 |
  [],s,_,_,h=>by
  simp only[List.nil_append,lN,hi]at h
  have h:=h.2
  unfold jW at h
  rw[if_neg (by rw[hx];simp)]at h
  exact h
 |
  j::l1,s,dM,bS,h=>by
  have hp:=dM j (by simp)
  unfold jY at hp
  cases hy:aos[j]?with
  |none=>rw[hy]at hp;simp at hp
  |
   some y=>
   rw[hy,hi]at hp
   simp only[List.cons_append,lN,hy,List.append_assoc]at h⊢
   obtain⟨nP,h⟩:=h
   have nP:=F5 nP
   rcases Bool.or_eq_true_iff.1 hp with hp|hp
   ·simp only[aJ,hx,Bool.false_or]at hp
    obtain⟨⟨⟨wM,Ea⟩,oB⟩,VN⟩:=hp
    obtain⟨e,he⟩:=Option.isSome_iff_exists.1 Ea
    have h1:e∉x.reads:=by simp[AO.apart,he]at oB;exact oB.1.1
    have h2:x.dst≠some e:=by simp[AO.apart,he]at oB;exact oB.1.2
    have h3:∀d,x.dst=some d->d∉y.reads:=λd hd=>by simp[AO.apart,hd]at oB;exact oB.2
    rcases Bool.or_eq_true_iff.1 VN with hso|VN
    ·obtain⟨v,h,hv⟩:=n7 wM h
     have ih:=wY hi hx l2 l1 _ (λk hk=>dM k (by simp[hk])) (λk hk=>bS k (by simp only[List.cons_append,cJ];exact .inr hk)) h
     rw[he]at ih
     refine eF (λt ht=> ?_) (rb hx h2 h1 ih)
     obtain⟨⟨hf,hk⟩,y8⟩:=ht
     refine⟨λsV=>λk b hw hb=>hf sV k b hw hb,?_,Ai (r:=rE W (fl j) s) wM hso hv (λn hn=> ?_) (by rw[he];exact hk)⟩
     ·rw[fZ,q0 hy (jX wM),Bool.true_and]
      have:=Aj hk
      rw[oP (kd _ _),List.append_assoc]at this
      exact this
     ·rw[xT];exact y8 n (λhd=>h3 n hd hn)
    ·obtain⟨VO,sV⟩:=Bool.and_eq_true_iff.1 VN
     rw[VO]at h⊢
     obtain⟨v,h,hv⟩:=n7 wM h
     have ih:=wY hi hx l2 l1 _ (λk hk=>dM k (by simp[hk])) (λk hk=>bS k (by simp only[List.cons_append,cJ];exact .inr hk)) h
     rw[he]at ih
     refine eF (λt ht=> ?_) (rb hx h2 h1 ih)
     obtain⟨⟨hf,hk⟩,y8⟩:=ht
     have hf':Fr W s t:=λk b hw hb=>hf sV k b hw hb
     refine⟨λ_=>hf',?_,tH (r:=s.less W) wM (by simpa[rE]using hv) (by simpa[rE]using F4 hf') (λn hn=> ?_) (by rw[he];exact hk)⟩
     ·rw[fZ,q0 hy (jX wM),Bool.true_and]
      have:=Aj hk
      rw[oP (kd _ _),List.append_assoc]at this
      exact this
     ·exact y8 n (λhd=>h3 n hd hn)
   ·simp only[aJ,Bool.not_eq_true']at hp
    obtain⟨⟨wM,hya⟩,hp⟩:=hp
    split at hp
    case h_2=>simp at hp
    rename_i k hk
    simp only[aJ,bne_iff_ne,ne_eq,Bool.not_eq_true',List.contains_eq_mem,decide_eq_false_iff_not]at hp
    obtain⟨z,VI,Sk⟩:=CQ (P:=P) hk
    have hn:get s.bx k=none:=(Ah hi hk).1 nP.2.2.1
    unfold jW at h
    rw[if_neg (by rw[wM];simp)]at h
    have h':iu P s y λt=>get t.bx k=none∧(λt'=>(fl j=true->Fr W (qa k z s) t')∧lN P aos fl W E t' (l1++l2) K) (qa k z t):=by
     refine eF (λt ht=> ?_) h
     obtain⟨hf,ht⟩:=ht
     have ih:=wY hi hx l2 l1 _ (λk hk=>dM k (by simp[hk])) (λk hk=>bS k (by simp only[List.cons_append,cJ];exact .inr hk)) ht
     obtain⟨i1,_,i3⟩:=(Sk t _).1 ih
     exact⟨i1,λe=>JL (hf e),i3⟩
    refine(Sk s _).2 ⟨hn,λ_=>Qd hn,?_,?_⟩
    ·refine CU hi hk (λm hm=>bS m (by simpa using hm)) ?_
     exact F6 nP.1 nP.2.1 nP.2.2.2
    ·unfold jW
     rw[if_neg (by rw[wM];simp)]
     exact JG hya hp.1 hp.2 hn h'
theorem vR {W:List Nat} {f:Bool} {o:AO} {K K':St->Prop} (h:∀t,K t->K' t) (hk:jW P W f s o K):jW P W f s o K':=by
 unfold jW at hk⊢
 split at hk
 ·rename_i hq
  rw[if_pos hq]
  split at hk
  ·rename_i hf;rw[if_pos hf];exact eF (λt ht=>h _ ht) hk
  ·rename_i hf;rw[if_neg hf];exact eF h hk
 ·rename_i hq
  rw[if_neg hq]
  exact eF (λt ht=>⟨ht.1,h t ht.2⟩) hk
theorem EH {aos:List AO} {s:St} {p q:Nat} {l:List Nat}:fO aos s (q::p::l)=fO aos s (p::q::l):=by
 have h1:=fZ (aos:=aos) (s:=s) (i:=q) (l:=p::l)
 have h2:=fZ (aos:=aos) (s:=s) (i:=p) (l:=l)
 have h3:=fZ (aos:=aos) (s:=s) (i:=p) (l:=q::l)
 have h4:=fZ (aos:=aos) (s:=s) (i:=q) (l:=l)
 rw[h1,h2,h3,h4]
 exact Bool.and_left_comm _ _ _
theorem xY {aos:List AO} {fl:Nat->Bool} {W E E':List Nat} {K:St->Prop} (hE:∀s,fO aos s E'=fO aos s E):∀ {l:List Nat} {s:St},lN P aos fl W E s l (λt=>jk P aos fl W t E' K)->jk P aos fl W s (l++E') K
 |[],s,h=>h.2
 |
  i::r,s,h=>by
  simp only[lN]at h
  simp only[List.cons_append,jk]
  cases ho:aos[i]?with
  |none=>rw[ho]at h;exact h.elim
  |
   some o=>
   rw[ho]at h
   simp only at h⊢
   refine⟨?_,vR (λt ht=>xY hE ht) h.2⟩
   have:=h.1
   rw[fZ,uV]at this⊢
   rw[hE];exact this
end Go.Ab
namespace Go.Ab
variable [eJ]
variable {P:Program} {nt:Nat} {ds:List Deferred} {s s':St} {Γ:Cx} {a:Act} {w:World} {Q:Exit->Act->World->Prop} [ji]
theorem C0 {listed:Array Bool} {ord l1 l2:List Nat} {i:Nat} (hi:i<listed.size) (hl:(ord.filter λi=> !listed.getD i true)=l1++i::l2) (xi:(l1++i::l2).Nodup):ord.filter (λj=> !(listed.setIfInBounds i true).getD j true)=l1++l2:=by
 have e:(λj=> !(listed.setIfInBounds i true).getD j true)=λj=>(decide (j≠i))&& !listed.getD j true:=by
  funext j
  by_cases zT:i=j
  ·subst zT;simp[Array.getD_eq_getD_getElem?,uJ hi]
  ·rw[getD_set_ne true zT];simp[Ne.symm zT]
 rw[e,←List.filter_filter,hl,List.filter_append,List.filter_cons]
 simp only[ne_eq,not_true,decide_false,fJ,if_false]
 have wK:=List.nodup_append.1 xi
 rw[List.filter_eq_self.2,List.filter_eq_self.2]
 ·intro x hx;simp;rintro rfl;exact(List.nodup_cons.1 wK.2.1).1 hx
 ·intro x hx;simp;rintro rfl;exact wK.2.2 x hx x (by simp) rfl
theorem SI {aos:List AO} {us:List Nat} {W:List Nat} {i:Nat} {ao:AO} {l1 l2:List Nat} {K:St->Prop} (Ch:aos[i]? =some ao) (qg:∀j∈l1,jY aos us.contains j i=true) (bS:∀j∈l1++l2,pE aos j i=true)
  (h:jk P aos us.contains W s (l1++i::l2) K):iu P s ao λt=>jk P aos us.contains W t (l1++l2) K:=by
 cases hx:ao.quiet with
 |
  true=>
  obtain⟨v,h1,h2⟩:=EF Ch hx l2 l1 s qg h
  exact h2 s (Sub.refl _) (λ_ _=>rfl) _ h1
 |false=>exact eF (λt ht=>ht.2) (xU Ch hx l2 l1 s qg bS h)
theorem Nh {aos:List AO} {us:List Nat} {W E:List Nat} {i:Nat} {ao:AO} {l1 l2:List Nat} {K:St->Prop} (Ch:aos[i]? =some ao) (qg:∀j∈l1,jY aos us.contains j i=true) (bS:∀j∈l1++(l2++E),pE aos j i=true)
  (h:lN P aos us.contains W E s (l1++i::l2) K):iu P s ao λt=>lN P aos us.contains W E t (l1++l2) K:=by
 cases hx:ao.quiet with
 |
  true=>
  obtain⟨v,h1,h2⟩:=Gb Ch hx l2 l1 s qg h
  exact h2 s (Sub.refl _) (λ_ _=>rfl) _ h1
 |false=>exact eF (λt ht=>ht.2) (wY Ch hx l2 l1 s qg bS h)
theorem EI {ops:Array Oper} {listed:Array Bool} {i:Nat} {o:Oper} (hc:ov ops listed) (ho:ops[i]? =some o) (DT:∀e∈o.after,Region.binds .any e=true->listed.getD e.on false=true):ov ops (listed.setIfInBounds i true):=by
 intro k ok vC uv e he hb
 by_cases Cp:i=k
 ·subst Cp;rw[ho]at vC;cases vC;exact getD_set_true (DT e he hb)
 ·rw[getD_set_ne true Cp]at uv;exact getD_set_true (hc k ok vC uv e he hb)
theorem Ni {ops:Array Oper} {listed:Array Bool} {i j:Nat} (iq:listed.size=ops.size) (hc:ov ops listed) (hi:i∈Region.ready .any ops listed) (hj:j<ops.size) (hb:Bm (jc ops.toList []) i j=true) (PT:(!listed.getD j true)=true):False:=by
 have:=uO hc (xM hb) hi
 have pe:j<listed.size:=by rw[iq];exact hj
 simp[Array.getD_eq_getD_getElem?,Array.getElem?_eq_getElem pe]at this PT
 rw[this]at PT;simp at PT
theorem Gc {ops:Array Oper} {ord:List Nat} (h:n8 ops ord=true):(∀i∈ord,i<ops.size)∧∀i,i<ops.size->i∈ord:=by
 simp only[n8,aJ,List.all_eq_true,decide_eq_true_eq,List.mem_range]at h
 exact⟨h.1.2,λi hi=>by simpa using h.2 i hi⟩
theorem EJ {ops:Array Oper} {ord:List Nat} (eE:n8 ops ord=true):∀listed:Array Bool,listed.size=ops.size->Region.ready .any ops listed=[]->(ord.filter λi=> !listed.getD i true)=[]:=by
 simp only[n8,aJ,List.all_eq_true,decide_eq_true_eq,List.mem_range]at eE
 obtain⟨⟨⟨hE,_⟩,dG⟩,dM⟩:=eE
 intro listed iq hr
 cases hl:ord.filter λi=> !listed.getD i true with
 |nil=>rfl
 |
  cons i l=>
  exfalso
  obtain⟨p,q,FL,hp,hi,_⟩:=List.filter_eq_cons_iff.1 hl
  have hio:i<ops.size:=dG i (by rw[FL];simp)
  have:i∈Region.ready .any ops listed:=by
   rw[mem_ready]
   refine⟨by simpa using hi,ops[i],Array.getElem?_eq_getElem hio,λe he hb=> ?_⟩
   rw[FL]at hE
   rcases pG p [] hE _ (Array.getElem?_eq_getElem hio) e he hb with h1|h1
   ·simp at h1
   ·have h2:=hp _ h1
    have h3:e.on<listed.size:=by rw[iq];exact dG _ (by rw[FL];simp[h1])
    simp[Array.getD_eq_getD_getElem?,Array.getElem?_eq_getElem h3]at h2⊢
    exact h2
  rw[hr]at this;simp at this
theorem tM {aos:List AO} {fl:Nat->Bool} {W E:List Nat}:∀ {l:List Nat} {s:St} {K K':St->Prop},(∀p,K p->K' p)->lN P aos fl W E s l K->lN P aos fl W E s l K'
 |[],s,K,K',h,hk=>⟨hk.1,h _ hk.2⟩
 |
  i::l,s,K,K',h,hk=>by
  simp only[lN]at hk⊢
  split at hk
  ·exact⟨hk.1,vR (λt ht=>tM h ht) hk.2⟩
  ·exact hk.elim
theorem EK {l m:List Nat} {p q:Nat} (h:(l++p::q::m).Nodup):(l++q::p::m).Nodup:=by
 refine(List.Perm.nodup_iff (List.Perm.append_left l (List.Perm.swap q p m))).1 h
theorem Ak {ops:Array Oper} {aos:List AO} {fl:Nat->Bool} {l:List Nat} (h:pF (jc ops.toList []) aos fl l=true):l.Pairwise (tK ops aos fl):=pH h
def Bu (ops:Array Oper) (aos:List AO) (pre:List Nat) (p q:Nat) (suf us:List Nat):Bool:=
 n8 ops (pre++p::q::suf)&&n8 ops (pre++q::p::suf)&&pF (jc ops.toList []) aos us.contains (pre++p::suf)&&pF (jc ops.toList []) aos us.contains (pre++q::suf)&&p !=q&&pE aos p q&&suf.all λi=>Bm (jc ops.toList []) i p||Bm (jc ops.toList []) i q
theorem Zf {ro:Option Nat} {ops:Array Oper} {aos:List AO} {own sp:List Nat} {pre suf us:List Nat} {p q:Nat} {W:List Nat} (mH:∀(i:Nat) o,ops[i]? =some o->∃ao,aos[i]? =some ao∧ou P nt ops own sp true o=some ao)
  (VV:n8 ops (pre++p::q::suf)=true) (vC:n8 ops (pre++q::p::suf)=true) (zf:(pre++p::suf).Pairwise (tK ops aos us.contains)) (Cq:(pre++q::suf).Pairwise (tK ops aos us.contains)) (hpq:p≠q) (Sk:pE aos p q=true) (aiP:∀i∈suf,Bm (jc ops.toList []) i p=true∨Bm (jc ops.toList []) i q=true) {K:St->Prop}:
  ∀
   (n:Nat) (listed:Array Bool) {s:St} {Γ:Cx} {a:Act} {w:World},listed.size=ops.size->ov ops listed->(∀i∈p::q::suf,(!listed.getD i true)=true)->(pre.filter λi=> !listed.getD i true).length=n->
   gK nt ds s Γ a->w.heap=Γ.heap->xF P Γ->lN P aos us.contains W (p::q::suf) s (pre.filter λi=> !listed.getD i true) (λt=>jk P aos us.contains W t (p::q::suf) K∧jk P aos us.contains W t (q::p::suf) K)->CE P nt ds Γ w K (Q .normal)->wpAnyIn (FW ro) 0 P .any ops Q (n+(suf.length+1+1)) listed a w:=by
 obtain⟨dG,dM⟩:=Gc VV
 have adh:(pre++p::q::suf).Nodup:=by
  have a1:=zf.imp (λh=>h.1.1)
  have a2:=Cq.imp (λh=>h.1.1)
  obtain⟨b1,b2,b3⟩:=List.pairwise_append.1 a1
  obtain⟨c1,c2,c3⟩:=List.pairwise_append.1 a2
  refine List.pairwise_append.2 ⟨b1,.cons (λx hx=> ?_) c2,λx hx y hy=> ?_⟩
  ·rcases List.mem_cons.1 hx with rfl|hx
   ·exact hpq
   ·exact List.rel_of_pairwise_cons b2 hx
  ·rcases List.mem_cons.1 hy with rfl|hy
   ·exact b3 x hx _ (by simp)
   ·exact c3 x hx y hy
 --what is not listed yet,in both orders
 have hE1:∀listed:Array Bool,(∀i∈p::q::suf,(!listed.getD i true)=true)->((pre++p::q::suf).filter λi=> !listed.getD i true)=(pre.filter λi=> !listed.getD i true)++p::q::suf:=by
  intro listed h
  rw[List.filter_append]
  congr 1
  rw[List.filter_eq_self];exact h
 have hE2:∀listed:Array Bool,(∀i∈p::q::suf,(!listed.getD i true)=true)->((pre++q::p::suf).filter λi=> !listed.getD i true)=(pre.filter λi=> !listed.getD i true)++q::p::suf:=by
  intro listed h
  rw[List.filter_append]
  congr 1
  rw[List.filter_eq_self];intro i hi;exact h i (by simp at hi⊢;rcases hi with h|h|h<;>simp[h])
 --one step
 have stepP:∀ {n:Nat},(∀m,m+1=n->∀(listed:Array Bool) {s:St} {Γ:Cx} {a:Act} {w:World},listed.size=ops.size->ov ops listed->(∀i∈p::q::suf,(!listed.getD i true)=true)->(pre.filter λi=> !listed.getD i true).length=m->
   gK nt ds s Γ a->w.heap=Γ.heap->xF P Γ->lN P aos us.contains W (p::q::suf) s (pre.filter λi=> !listed.getD i true) (λt=>jk P aos us.contains W t (p::q::suf) K∧jk P aos us.contains W t (q::p::suf) K)->CE P nt ds Γ w K (Q .normal)->wpAnyIn (FW ro) 0 P .any ops Q (m+(suf.length+1+1)) listed a w)->
  ∀
   {listed:Array Bool} {s:St} {Γ:Cx} {a:Act} {w:World},listed.size=ops.size->ov ops listed->(∀i∈p::q::suf,(!listed.getD i true)=true)->(pre.filter λi=> !listed.getD i true).length=n->
   gK nt ds s Γ a->w.heap=Γ.heap->xF P Γ->lN P aos us.contains W (p::q::suf) s (pre.filter λi=> !listed.getD i true) (λt=>jk P aos us.contains W t (p::q::suf) K∧jk P aos us.contains W t (q::p::suf) K)->CE P nt ds Γ w K (Q .normal)->wpAnyIn (FW ro) 0 P .any ops Q (n+(suf.length+1+1)) listed a w:=by
  intro n IH listed s Γ a w iq hc hu hn hs hw hY h hk
  refine⟨λhr=> ?_,λi hi=> ?_⟩
  ·exfalso
   have:=EJ VV listed iq hr
   rw[hE1 listed hu]at this;simp at this
  ·obtain⟨IW,o,ho,DT⟩:=mem_ready.1 hi
   have PR:=(Array.getElem?_eq_some_iff.1 ho).1
   have Sn:i<listed.size:=by rw[iq];exact PR
   obtain⟨ao,Ch,YL⟩:=mH i o ho
   have hl1:=hE1 listed hu
   have MY:=hE2 listed hu
   have adi:=EI hc ho DT
   have adj:(listed.setIfInBounds i true).size=ops.size:=by simp[iq]
   have YO:(pre.filter λi=> !listed.getD i true).Sublist pre:=List.filter_sublist
   have hFu:∀j∈(pre.filter λi=> !listed.getD i true),(!listed.getD j true)=true:=λj hj=>(List.mem_filter.1 hj).2
   have VW:((pre.filter λi=> !listed.getD i true)++p::q::suf).Nodup:=by rw[←hl1];exact adh.sublist List.filter_sublist
   have sX:∀j,j∈pre++p::q::suf->(!listed.getD j true)=true->Bm (jc ops.toList []) i j=true->False:=λj hj PT hb=>Ni iq hc hi (dG j hj) hb PT
   have iV:i∈(pre.filter λi=> !listed.getD i true)++p::q::suf:=by
    rw[←hl1,List.mem_filter];exact⟨dM i PR,by rw[IW];rfl⟩
   have hpF:∀ {j x:Nat} {r:List Nat},j∈(pre.filter λi=> !listed.getD i true)->(pre++x::r).Pairwise (tK ops aos us.contains)->tK ops aos us.contains j x:=λhj hp=>(List.pairwise_append.1 hp).2.2 _ (YO.subset hj) _ (by simp)
   --p or q:what comes then stands in one order
   have adk:∀(q':Nat),n8 ops (pre++i::q'::suf)=true->((pre++i::q'::suf).filter λi=> !listed.getD i true)=(pre.filter λi=> !listed.getD i true)++i::q'::suf->(pre++i::suf).Pairwise (tK ops aos us.contains)->(pre++q'::suf).Pairwise (tK ops aos us.contains)->pE aos q' i=true->((pre.filter λi=> !listed.getD i true)++i::q'::suf).Nodup->
     jk P aos us.contains W s ((pre.filter λi=> !listed.getD i true)++i::q'::suf) K->wpOpIn (FW ro) 0 P ops Q i (wpAnyIn (FW ro) 0 P .any ops Q (n+(suf.length+1)) (listed.setIfInBounds i true)) a w:=by
    intro q' ok VO VX aiQ PX xi h
    have og:=C0 Sn VO xi
    have qg:∀j∈(pre.filter λi=> !listed.getD i true),jY aos us.contains j i=true:=by
     intro j hj
     rcases(hpF hj VX).2 with hb|hb
     ·exact(sX j (List.mem_append_left _ (YO.subset hj)) (hFu j hj) hb).elim
     ·exact hb
    have bS:∀j∈(pre.filter λi=> !listed.getD i true)++(q'::suf),pE aos j i=true:=by
     intro j hj
     rcases List.mem_append.1 hj with hj|hj
     ·exact(hpF hj VX).1.2
     ·rcases List.mem_cons.1 hj with rfl|hj
      ·exact PX
      ·exact lM (List.rel_of_pairwise_cons (List.pairwise_append.1 VX).2.1 hj).1.2
    refine oN ho YL hs hw hY (SI Ch qg bS h) ?_
    intro s' Γ' a' w' b1 b2 b3 b4 b5
    refine Zd (W:=W) (us:=us) mH ok (n+(suf.length+1)) (listed.setIfInBounds i true) adj adi ?_ ?_ b1 b2 (hY.le b3) ?_ (hk.trans b3 b4)
    ·rw[og];exact aiQ.sublist (List.Sublist.append YO (List.Sublist.refl _))
    ·rw[og,List.length_append,hn];rfl
    ·rw[og];exact b5
   rcases List.mem_append.1 iV with hiF|hiE
   ·--one of those ahead of both
    obtain⟨l1,l2,hl⟩:=List.append_of_mem hiF
    have xi:(l1++i::l2).Nodup:=by rw[←hl];exact(List.nodup_append.1 VW).1
    have og:=C0 Sn hl xi
    have MX:(pre.filter λi=> !listed.getD i true).Pairwise (tK ops aos us.contains):=(List.pairwise_append.1 zf).1.sublist YO
    rw[hl]at MX
    have qg:∀j∈l1,jY aos us.contains j i=true:=by
     intro j hj
     have hjF:j∈pre.filter λi=> !listed.getD i true:=by rw[hl];simp[hj]
     rcases((List.pairwise_append.1 MX).2.2 j hj i (by simp)).2 with hb|hb
     ·exact(sX j (List.mem_append_left _ (YO.subset hjF)) (hFu j hjF) hb).elim
     ·exact hb
    have bS:∀j∈l1++(l2++p::q::suf),pE aos j i=true:=by
     intro j hj
     rcases List.mem_append.1 hj with hj|hj
     ·exact((List.pairwise_append.1 MX).2.2 j hj i (by simp)).1.2
     ·rcases List.mem_append.1 hj with hj|hj
      ·exact lM (List.rel_of_pairwise_cons (List.pairwise_append.1 MX).2.1 hj).1.2
      ·rcases List.mem_cons.1 hj with rfl|hj
       ·exact lM (hpF hiF zf).1.2
       ·rcases List.mem_cons.1 hj with rfl|hj
        ·exact lM (hpF hiF Cq).1.2
        ·exact lM ((List.pairwise_append.1 zf).2.2 _ (YO.subset hiF) _ (by simp[hj])).1.2
    rw[hl]at h hn
    refine oN ho YL hs hw hY (Nh Ch qg bS h) ?_
    intro s' Γ' a' w' b1 b2 b3 b4 b5
    have hf:n+(suf.length+1)=(l1++l2).length+(suf.length+1+1):=by simp at hn⊢;omega
    change wpAnyIn (FW ro) 0 P .any ops Q (n+(suf.length+1)) _ _ _
    rw[hf]
    refine IH (l1++l2).length (by simp at hn⊢;omega) (listed.setIfInBounds i true) adj adi ?_ (by rw[og]) b1 b2 (hY.le b3) (by rw[og];exact b5) (hk.trans b3 b4)
    intro j hj
    have zT:i≠j:=by
     rintro rfl
     exact(List.nodup_append.1 VW).2.2 _ hiF _ hj rfl
    rw[getD_set_ne true zT];exact hu j hj
   ·rcases List.mem_cons.1 hiE with rfl|hiE
    ·refine adk q VV hl1 zf Cq (lM Sk) VW ?_
     exact xY (λ_=>rfl) (tM (λt ht=>ht.1) h)
    ·rcases List.mem_cons.1 hiE with rfl|hiE
     ·refine adk p vC MY Cq zf Sk (by rw[←MY];exact(List.Nodup.sublist List.filter_sublist (EK adh))) ?_
      exact xY (λ_=>EH) (tM (λt ht=>ht.2) h)
     ·exfalso
      rcases aiP i hiE with hb|hb
      ·exact sX p (by simp) (hu p (by simp)) hb
      ·exact sX q (by simp) (hu q (by simp)) hb
 intro n
 induction n with
 |
  zero=>
  intro listed s Γ a w iq hc hu hn hs hw hY h hk
  exact stepP (λ_ DR=>absurd DR (by omega)) iq hc hu hn hs hw hY h hk
 |
  succ n ih=>
  intro listed s Γ a w iq hc hu hn hs hw hY h hk
  exact stepP (λm hm=>by
                obtain rfl:m=n:=by omega
                exact ih) iq hc hu hn hs hw hY h hk
theorem ss {ro:Option Nat} {ops:Array Oper} {aos:List AO} {own sp:List Nat} {pre suf us:List Nat} {p q:Nat} {id:Nat} (hm:P.follows .mixedOrders=true) (ht:lU P nt ops own sp true ops.toList=some aos) (eE:Bu ops aos pre p q suf us=true) {K:St->Prop} (hs:gK nt ds s Γ a) (hw:w.heap=Γ.heap)
  (hY:xF P Γ) (h:∃W,lN P aos us.contains W (p::q::suf) s pre (λt=>jk P aos us.contains W t (p::q::suf) K∧jk P aos us.contains W t (q::p::suf) K)) (hk:CE P nt ds Γ w K (Q .normal)):(Code.region id ops true).wpIn (FW ro) 0 P Q a w:=by
 obtain⟨W,h⟩:=h
 obtain⟨h1,h2⟩:=nD ht
 simp only[Bu,aJ,bne_iff_ne,ne_eq,List.all_eq_true,Bool.or_eq_true]at eE
 obtain⟨⟨⟨⟨⟨⟨k1,k2⟩,k3⟩,k4⟩,k5⟩,k6⟩,k7⟩:=eE
 obtain⟨dG,dM⟩:=Gc k1
 have hg:∀i∈pre++p::q::suf,(!(Array.replicate ops.size false).getD i true)=true:=by
  intro i hi
  have:=dG i hi
  simp[Array.getD_eq_getD_getElem?,this]
 have e:(pre.filter λi=> !(Array.replicate ops.size false).getD i true)=pre:=by
  rw[List.filter_eq_self]
  intro i hi
  exact hg i (by simp[hi])
 have hlen:ops.size=pre.length+(suf.length+1+1):=by
  simp only[n8,aJ,beq_iff_eq]at k1
  have:=k1.1.1.2
  simp at this;omega
 have hgo:=Zf (P:=P) (nt:=nt) (ds:=ds) (ro:=ro) (Q:=Q) (s:=s) (Γ:=Γ) (a:=a) (w:= {w with drawn:=w.drawn+1}) (K:=K) (W:=W) (λi o hi=>h2 i o (by simpa using hi)) k1 k2 (Ak k3) (Ak k4) k5 k6 k7 pre.length (Array.replicate ops.size false) (by simp) ?_ (λi hi=>hg i (List.mem_append_right _ hi)) (by rw[e]) hs hw hY (by rw[e];exact h) ?_
 ·rw[←hlen]at hgo
  exact wpIn_region_any hm hgo
 ·intro k o Sj hl
  have:=(Array.getElem?_eq_some_iff.1 Sj).1
  simp[Array.getD_eq_getD_getElem?,this]at hl
 ·intro s' Γ' a' w' b1 b2 b3 b4 b5
  exact hk s' Γ' a' w' b1 b2 b3 ⟨b4.os,b4.tape,b4.output⟩ b5
def Gd (ops:Array Oper) (aos:List AO) (p q:Nat):List Nat:=(uX ops aos).filter λi=> !(i==p||i==q||Bm (jc ops.toList []) i p||Bm (jc ops.toList []) i q)
def Ge (ops:Array Oper) (aos:List AO) (p q:Nat):List Nat:=(uX ops aos).filter λi=> !(i==p||i==q)&&(Bm (jc ops.toList []) i p||Bm (jc ops.toList []) i q)
def JR (ops:Array Oper) (aos:List AO) (p q:Nat):List Nat:=
 let l:=Gd ops aos p q++p::Ge ops aos p q
 let m:=Gd ops aos p q++q::Ge ops aos p q
 early (jc ops.toList []) aos l++CV (jc ops.toList []) aos [] l++early (jc ops.toList []) aos m++CV (jc ops.toList []) aos [] m
def Zg (own:List Nat):Option (Nat×Nat):=match own.find? (λn=>decide (1000000≤n))with|some n=>some ((n-1000000)/1000,(n-1000000)%1000)|none=>none
def agd (own:List Nat) (aos:List AO):Option (Nat×Nat):=match Zg own with|some (p,q)=>if(sr aos p&& !soB aos p&& !sr aos q)=true then some (p,q)else none|none=>none
end Go.Ab
namespace Go.Ab
variable [eJ]
variable {P:Program} {nt:Nat} {ds:List Deferred} {s:St} {Γ Δ Γ0:Cx} {a:Act} {w w0:World} [ji]
inductive dT
 |skip
 |region (l:List AO)
 |regionD (l:List AO) (ord us:List Nat)
 |regionE (l:List AO) (pre:List Nat) (p q:Nat) (suf us:List Nat)
 |seq (x y:dT)
 |cond (c:AX) (x y:dT)
 |block (id:Nat) (x:dT)
 |loop (x:dT)
 |exit (id:Nat)
 |ret
 |seqm (x y:dT)
 |rangeF (g:AX) (ps:List Nat) (x y:dT)
def erase:dT->dT
 | .seq x y| .seqm x y=> .seq (erase x) (erase y)
 | .cond c x y=> .cond c (erase x) (erase y)
 | .block id x=> .block id (erase x)
 | .loop x=> .loop (erase x)
 | .skip=> .skip
 | .region l=> .region l
 | .regionD l o u=> .regionD l o u
 | .regionE l a p q b u=> .regionE l a p q b u
 | .exit id=> .exit id
 | .ret=> .ret
 | .rangeF g ps x y=> .rangeF g ps (erase x) (erase y)
def qB:dT->Bool
 | .seq x y| .seqm x y| .cond _ x y=>qB x&&qB y
 | .block _ x| .loop x=>qB x
 | .rangeF .. =>false
 |_=>true
theorem pI:∀c:dT,qB (erase c)=qB c
 | .seq x y| .seqm x y| .cond _ x y=>by simp[erase,qB,pI x,pI y]
 | .block _ x| .loop x=>by simp[erase,qB,pI x]
 | .rangeF .. | .skip| .region _| .regionD .. | .regionE .. | .exit _| .ret=>by simp[erase,qB]
noncomputable def fP (P:Program) (nt:Nat) (own sp:List Nat):Code->Option dT
 | .skip=>some .skip
 | .region _ ops false=>match lU P nt ops own sp false ops.toList with|some l=>some (.region l)|none=>none
 | .region _ ops true=>match lU P nt ops own sp true ops.toList with|some l=>if P.follows .mixedOrders=true then(if Bn ops l=true then some (.region l)else match agd own l with|some (p,q)=>(if Bu ops l (Gd ops l p q) p q (Ge ops l p q) (JR ops l p q)=true then some (.regionE l (Gd ops l p q) p q (Ge ops l p q) (JR ops l p q))else none)|none=>if tI ops l (uX ops l) (F9 ops l)=true then some (.regionD l (uX ops l) (F9 ops l))else none)else none|none=>none
 | .seq x y=>match fP P nt own sp x,fP P nt own sp y with|some x,some y=>some (.seq x y)|_,_=>none
 | .cond c x y=>match iW c,fP P nt own sp x,fP P nt own sp y with|some c,some x,some y=>some (.cond c x y)|_,_,_=>none
 | .block id x=>match fP P nt own sp x with|some x=>some (.block id x)|none=>none
 | .loop x=>match fP P nt own sp x with|some x=>some (.loop x)|none=>none
 | .exit id=>some (.exit id)
 | .ret=>some .ret
 |
  .rangeFunc g ps x y=>match iW g,fP P nt own sp x,fP P nt own sp y with
  |some g,some x,some y=>if(ps.toList.all (λt=>decide (t<nt))&&qB x&&qB y)=true then some (.rangeF g ps.toList x y)else none
  |_,_,_=>none
 |_=>none
theorem HN (own sp:List Nat):∀(c:Code) {ac:dT},fP P nt own sp c=some ac->erase ac=ac:=by
 intro c
 induction c with
 |
  seq x y ihx ihy=>
  intro ac h
  simp only[fP]at h
  split at h<;>simp only[sJ,reduceCtorEq]at h
  subst h
  rename_i hx hy
  simp only[erase,ihx hx,ihy hy]
 |
  cond c x y ihx ihy=>
  intro ac h
  simp only[fP]at h
  split at h<;>simp only[sJ,reduceCtorEq]at h
  subst h
  rename_i hx hy
  simp only[erase,ihx hx,ihy hy]
 |
  block id x ih=>
  intro ac h
  simp only[fP]at h
  split at h<;>simp only[sJ,reduceCtorEq]at h
  subst h
  rename_i hx
  simp only[erase,ih hx]
 |
  loop x ih=>
  intro ac h
  simp only[fP]at h
  split at h<;>simp only[sJ,reduceCtorEq]at h
  subst h
  rename_i hx
  simp only[erase,ih hx]
 |
  rangeFunc g ps x y ihx ihy=>
  intro ac h
  simp only[fP]at h
  split at h
  ·split at h<;>simp only[sJ,reduceCtorEq]at h
   subst h
   rename_i hx hy _
   simp only[erase,ihx hx,ihy hy]
  ·simp at h
 |
  region id ops d=>
  intro ac h
  cases d<;>simp only[fP]at h<;>(repeat' split at h)<;>simp only[sJ,reduceCtorEq]at h<;>subst h<;>rfl
 |_=>intro ac h;simp only[fP,sJ,reduceCtorEq]at h;try(subst h;rfl)
structure LkF where
 f:dT->dT
 h:∀c,f c=c
theorem JS:Nonempty LkF:=⟨⟨id,λ_=>rfl⟩⟩
noncomputable abbrev lk:dT->dT:=(Classical.choice JS).f
theorem Nj (c:dT):lk c=c:=(Classical.choice JS).h c
def Gf:dT->Bool
 | .loop _| .rangeF .. =>true
 | .seq x y| .cond _ x y=>Gf x||Gf y
 | .block _ x=>Gf x
 |_=>false
def SJ:dT->Bool
 | .skip| .exit _| .ret=>true
 | .seq x y=>SJ x&&SJ y
 |_=>false
noncomputable def D4:dT->dT
 | .seq x y=> .seq (D4 x) (bif Gf x&& !SJ y then lk (D4 y)else D4 y)
 | .cond c x y=> .cond c (D4 x) (D4 y)
 | .block id x=> .block id (D4 x)
 | .loop x=> .loop (lk (D4 x))
 | .rangeF g ps x y=> .rangeF g ps (D4 x) (lk (D4 y))
 | .skip=> .skip
 | .region l=> .region l
 | .regionD l o u=> .regionD l o u
 | .regionE l a p q b u=> .regionE l a p q b u
 | .exit id=> .exit id
 | .ret=> .ret
 | .seqm x y=> .seqm x y
theorem pJ:∀c,D4 c=c
 | .seq x y=>by simp only[D4,pJ x,pJ y,Nj,Bool.cond_self]
 | .cond _ x y=>by simp only[D4,pJ x,pJ y]
 | .block _ x=>by simp only[D4,pJ x]
 | .loop x=>by simp only[D4,pJ x,Nj]
 | .rangeF _ _ x y=>by simp only[D4,pJ x,pJ y,Nj]
 | .skip| .region _| .regionD .. | .regionE .. | .exit _| .ret| .seqm .. =>rfl
def Lp (body:(Exit->St->Prop)->St->Prop) (Q:Exit->St->Prop) (s:St):Prop:=
 ∃(I:Nat->St->Prop) (c:List Cut),(jq c s λs'=>∃n,I n s')∧∀n s,I n s->body (xV Q λs'=>∃c':List Cut,jq c' s' λs'=>∃m,m<n∧I m s') s
def Md (x y:(Exit->St->Prop)->St->Prop) (Q:Exit->St->Prop) (s:St):Prop:=
 ∃M:St->Prop,x (xV Q λs'=>∃c:List Cut,jq c s' M) s∧∀s',M s'->y Q s'
def aw (P:Program):dT->(Exit->St->Prop)->St->Prop
 | .skip,Q,s=>Q .normal s
 | .region l,Q,s=>HC P s l (Q .normal)
 | .regionD l o u,Q,s=>∃W,jk P l u.contains W s o (Q .normal)
 | .regionE l a p q b u,Q,s=>∃W,lN P l u.contains W (p::q::b) s a λt=>jk P l u.contains W t (p::q::b) (Q .normal)∧jk P l u.contains W t (q::p::b) (Q .normal)
 | .seq x y,Q,s=>aw P x (xV Q λs'=>aw P y Q s') s
 |
  .cond c x y,Q,s=>match vx s c with
  | .bl b=>(b=true->aw P x Q s)∧(b=false->aw P y Q s)
  | .gd g (.bl b)=>g=true∧(b=true->aw P x Q s)∧(b=false->aw P y Q s)
  |_=>False
 | .block id x,Q,s=>aw P x (Qe id Q) s
 | .loop x,Q,s=>Lp (λQ s=>aw P x Q s) Q s
 | .exit id,Q,s=>Q (.exit id) s
 | .ret,Q,s=>Q .ret s
 | .seqm x y,Q,s=>Md (λQ s=>aw P x Q s) (λQ s=>aw P y Q s) Q s
 |
  .rangeF g ps x y,Q,s=>match vx s g with
  | .fn (.func fid) [] cap=>EG P (λQ s=>aw P x Q s) (λQ s=>aw P y Q s) s fid cap ps λs'=>Q .normal s'
  |_=>False
theorem tN {p:Nat->Prop} (h:∃n,p n):∃n,p n∧∀m,m<n->¬p m:=by
 obtain⟨n,hn⟩:=h
 induction n using Nat.strongRecOn with
 |
  _ n ih=>
  by_cases hex:∃m,m<n∧p m
  ·obtain⟨m,hm,hp⟩:=hex;exact ih m hm hp
  ·exact⟨n,hn,λm hm hp=>hex ⟨m,hm,hp⟩⟩
noncomputable def least (p:Nat->Prop):Nat:=by
 classical exact if h:∃n,p n then Classical.choose (tN h)else 0
theorem xZ {p:Nat->Prop} (h:∃n,p n):p (least p)∧∀m,p m->least p≤m:=by
 unfold least
 rw[dif_pos h]
 have:=Classical.choose_spec (tN h)
 exact⟨this.1,λm hm=>Nat.not_lt.1 λdG=>this.2 m dG hm⟩
theorem JT (own sp:List Nat):∀(c:Code) {ro:Option Nat} {Γ0:Cx} {w0:World} {ac:dT} {Q:Exit->St->Prop} {s:St} {Γ:Cx} {a:Act} {w:World} {ds:List Deferred},(ro.isSome=true->qB ac=true)->HK Γ0->xF P Γ0->fP P nt own sp c=some (erase ac)->aw P ac Q s->gK nt ds s Γ a->kR Γ0.heap.size Γ ds->w.heap=Γ.heap->Le Γ0 Γ->WF w0 w->
  c.wpIn (FW ro) 0 P (lift nt Γ0 w0 Q) a w:=by
 have key:∀ {Γ0:Cx} {w0:World} {Γ:Cx} {a:Act} {w:World} {ds:List Deferred} {K:St->Prop},w.heap=Γ.heap->WF w0 w->kR Γ0.heap.size Γ ds->pY nt ds Γ0 Γ a K->∃s' Γ',gK nt ds s' Γ' a∧kR Γ0.heap.size Γ' ds∧w.heap=Γ'.heap∧Le Γ0 Γ'∧WF w0 w∧K s':=by
  intro Γ0 w0 Γ a w ds K b2 b4 bd hg
  obtain⟨s',Γ',g1,g2,g3,g4⟩:=hg
  exact⟨s',Γ',g1,bd.heap g2,by rw[g2];exact b2,g3,b4,g4⟩
 intro c
 induction c with
 |
  skip=>
  intro ro Γ0 w0 ac Q s Γ a w ds hr nu hY ht h hs hd hw hle oC
  simp only[fP,sJ]at ht
  cases ac<;>simp only[erase,reduceCtorEq]at ht
  exact wpIn_skip ⟨ds,s,Γ,hs,hd,hw,hle,oC,h⟩
 |
  exit id=>
  intro ro Γ0 w0 ac Q s Γ a w ds hr nu hY ht h hs hd hw hle oC
  simp only[fP,sJ]at ht
  cases ac<;>simp only[erase,reduceCtorEq,dT.exit.injEq]at ht
  subst ht
  exact wpIn_exit ⟨ds,s,Γ,hs,hd,hw,hle,oC,h⟩
 |
  ret=>
  intro ro Γ0 w0 ac Q s Γ a w ds hr nu hY ht h hs hd hw hle oC
  simp only[fP,sJ]at ht
  cases ac<;>simp only[erase,reduceCtorEq]at ht
  exact wpIn_ret ⟨ds,s,Γ,hs,hd,hw,hle,oC,h⟩
 |
  region id ops draw=>
  intro ro Γ0 w0 ac Q s Γ a w ds hr nu hY ht h hs hd hw hle oC
  have hk:CE P nt ds Γ w (Q .normal) (lift nt Γ0 w0 Q .normal):=λs' Γ' a' w' b1 b2 b3 b4 b5=>⟨ds,s',Γ',b1,hd.le hs.mem b3,b2,hle.trans b3,oC.trans b4,b5⟩
  have hY':=hY.le hle
  cases draw with
  |
   false=>
   simp only[fP]at ht
   split at ht<;>simp only[sJ,reduceCtorEq]at ht
   rename_i l hl
   cases ac<;>simp only[erase,reduceCtorEq,dT.region.injEq]at ht
   subst ht
   exact Bk hl hs hw hY' h hk
  |
   true=>
   simp only[fP]at ht
   split at ht
   ·rename_i l hl
    split at ht
    ·rename_i hm
     split at ht
     ·rename_i eE
      simp only[sJ]at ht
      cases ac<;>simp only[erase,reduceCtorEq,dT.region.injEq]at ht
      subst ht
      exact tB hm hl eE hs hw hY' h hk
     ·split at ht
      ·split at ht
       ·simp only[sJ]at ht
        rename_i eE
        cases ac<;>simp only[erase,reduceCtorEq,dT.regionE.injEq]at ht
        obtain⟨rfl,rfl,rfl,rfl,rfl,rfl⟩:=ht
        exact ss hm hl eE hs hw hY' h hk
       ·simp at ht
      ·split at ht
       ·simp only[sJ]at ht
        rename_i eE
        cases ac<;>simp only[erase,reduceCtorEq,dT.regionD.injEq]at ht
        obtain⟨rfl,rfl,rfl⟩:=ht
        exact sq hm hl eE hs hw hY' h hk
       ·simp at ht
    ·simp at ht
   ·simp at ht
 |
  seq x y ihx ihy=>
  intro ro Γ0 w0 ac Q s Γ a w ds hr nu hY ht h hs hd hw hle oC
  simp only[fP]at ht
  split at ht<;>simp only[sJ,reduceCtorEq]at ht
  rename_i ax ay hx hy
  cases ac<;>simp only[erase,reduceCtorEq,dT.seq.injEq]at ht
  ·obtain⟨rfl,rfl⟩:=ht
   simp only[aw]at h
   simp only[qB,aJ]at hr
   refine wpIn_seq (wpIn_mono (ihx (λe=>(hr e).1) nu hY hx h hs hd hw hle oC) λe a' w' he=> ?_)
   have:=xW he
   cases e with
   |
    normal=>
    obtain⟨ds',s',Γ',b1,bd,b2,b3,b4,b5⟩:=this
    exact ihy (λe=>(hr e).2) nu hY hy b5 b1 bd b2 b3 b4
   |_=>exact this
  ·obtain⟨rfl,rfl⟩:=ht
   simp only[aw]at h
   simp only[qB,aJ]at hr
   obtain⟨M,h1,h2⟩:=h
   refine wpIn_seq (wpIn_mono (ihx (λe=>(hr e).1) nu hY hx h1 hs hd hw hle oC) λe a' w' he=> ?_)
   have:=xW he
   cases e with
   |
    normal=>
    obtain⟨ds',s',Γ',b1,bd,b2,b3,b4,c,b5⟩:=this
    obtain⟨s3,Γ3,d1,dd,d2,d3,d4,d5⟩:=key (Γ:=Γ') b2 b4 bd (lL nu c b1 b3 b5)
    exact ihy (λe=>(hr e).2) nu hY hy (h2 _ d5) d1 dd d2 d3 d4
   |_=>exact this
 |
  cond c x y ihx ihy=>
  intro ro Γ0 w0 ac Q s Γ a w ds IV nu hY ht h hs hd hw hle oC
  simp only[fP]at ht
  split at ht<;>simp only[sJ,reduceCtorEq]at ht
  rename_i c' ax ay hc hx hy
  cases ac<;>simp only[erase,reduceCtorEq,dT.cond.injEq]at ht
  obtain⟨rfl,rfl,rfl⟩:=ht
  simp only[aw]at h
  simp only[qB,aJ]at IV
  have hr:=uB hc hs
  split at h
  ·rename_i b hb
   rw[hb]at hr
   simp only[aO]at hr
   have hcv:a.eval c= .bool b:=by generalize a.eval c=v at hr;cases hr;rfl
   exact wpIn_cond_split hcv (λhb=>ihx (λe=>(IV e).1) nu hY hx (h.1 hb) hs hd hw hle oC) (λhb=>ihy (λe=>(IV e).2) nu hY hy (h.2 hb) hs hd hw hle oC)
  ·rename_i g b hb
   rw[hb,aO]at hr
   have hr:=hr.1 h.1
   simp only[aO]at hr
   have hcv:a.eval c= .bool b:=by generalize a.eval c=v at hr;cases hr;rfl
   exact wpIn_cond_split hcv (λhb=>ihx (λe=>(IV e).1) nu hY hx (h.2.1 hb) hs hd hw hle oC) (λhb=>ihy (λe=>(IV e).2) nu hY hy (h.2.2 hb) hs hd hw hle oC)
  ·exact h.elim
 |
  block id x ih=>
  intro ro Γ0 w0 ac Q s Γ a w ds hr nu hY ht h hs hd hw hle oC
  simp only[fP]at ht
  split at ht<;>simp only[sJ,reduceCtorEq]at ht
  rename_i ax hx
  cases ac<;>simp only[erase,reduceCtorEq,dT.block.injEq]at ht
  obtain⟨rfl,rfl⟩:=ht
  simp only[aw]at h
  exact wpIn_block (wpIn_mono (ih (λe=>by simpa only[qB]using hr e) nu hY hx h hs hd hw hle oC) λe a' w' he=>JP he)
 |
  loop x ih=>
  intro ro Γ0 w0 ac Q s Γ a w ds IV nu hY ht h hs hd hw hle oC
  simp only[fP]at ht
  split at ht<;>simp only[sJ,reduceCtorEq]at ht
  rename_i ax hx
  cases ac<;>simp only[erase,reduceCtorEq,dT.loop.injEq]at ht
  subst ht
  simp only[aw]at h
  obtain⟨I,cs,h0,hr⟩:=h
  let J:Act->World->Nat->Prop:=λa w n=>∃ds s Γ,gK nt ds s Γ a∧kR Γ0.heap.size Γ ds∧w.heap=Γ.heap∧Le Γ0 Γ∧WF w0 w∧I n s
  refine wpIn_loop (λa w=>∃n,J a w n) (λa w=>least (J a w)) ?_ ?_
  ·obtain⟨s',Γ',b1,bd,b2,b3,b4,n,b5⟩:=key (Γ:=Γ) hw oC hd (lL nu cs hs hle h0)
   exact⟨n,ds,s',Γ',b1,bd,b2,b3,b4,b5⟩
  ·intro a1 w1 hJ
   obtain⟨⟨ds1,s1,Γ1,b1,bd,b2,b3,b4,b5⟩,pj⟩:=xZ hJ
   refine wpIn_mono (ih (λe=>by simpa only[qB]using IV e) nu hY hx (hr _ _ b5) b1 bd b2 b3 b4) λe a' w' he=> ?_
   have:=xW he
   cases e with
   |
    normal=>
    obtain⟨ds2,s2,Γ2,c1,cd,c2,c3,c4,AR,c5⟩:=this
    obtain⟨s3,Γ3,d1,dd,d2,d3,d4,m,dG,d5⟩:=key (Γ:=Γ2) c2 c4 cd (lL nu AR c1 c3 c5)
    have hJm:J a' w' m:=⟨ds2,s3,Γ3,d1,dd,d2,d3,d4,d5⟩
    exact⟨⟨m,hJm⟩,Nat.lt_of_le_of_lt ((xZ ⟨m,hJm⟩).2 m hJm) dG⟩
   |_=>exact this
 |
  rangeFunc g ps x y ihx ihy=>
  intro ro Γ0 w0 ac Q s Γ a w ds hr nu hY ht h hs hd hw hle oC
  simp only[fP]at ht
  split at ht
  case h_2=>simp at ht
  rename_i g' ax ay hg hx hy
  split at ht
  case isFalse=>simp at ht
  rename_i eE
  simp only[aJ,List.all_eq_true,decide_eq_true_eq]at eE
  simp only[sJ]at ht
  cases ac<;>simp only[erase,reduceCtorEq,dT.rangeF.injEq]at ht
  obtain⟨rfl,rfl,rfl,rfl⟩:=ht
  cases ro with
  |some l=>exact absurd (hr rfl) (by simp[qB])
  |
   none=>
   simp only[aw]at h
   have YP:=uB hg hs
   split at h
   ·rename_i fid cap hb
    rw[hb]at YP
    have n1:=eE.1.2
    have n2:=eE.2
    rw[pI]at n1 n2
    exact CZ (λk1 k2 k3 k4 k5 k6 k7 k8=>ihx (λ_=>n1) k1 k2 hx k3 k4 k5 k6 k7 k8) (λk1 k2 k3 k4 k5 k6 k7 k8=>ihy (λ_=>n2) k1 k2 hy k3 k4 k5 k6 k7 k8) eE.1.1 hs hd hw hle oC YP h
   ·exact h.elim
 |_=>intro ro Γ0 w0 ac Q s Γ a w ds hr nu hY ht;simp[fP]at ht
end Go.Ab
namespace Go.Ab
variable [eJ]
variable {P:Program} {nt:Nat} {ds:List Deferred} {s:St} {Γ Δ Γ0:Cx} {a:Act} {w w0:World}
def Al (P:Program):ResultVar->Option AK
 | .tmp t=>some (.mv (.t t))
 | .cell t ty=>match lZ P ty,iL P ty with|some g,some n=>some (.load g n (.t t))|_,_=>none
structure fU where
 nt:Nat
 res:List AK
 code:dT
def fU.er (f:fU):fU:=⟨f.nt,f.res,erase f.code⟩
noncomputable def jI (P:Program) (own sp:List Nat) (f:FuncId):Option fU:=
 match P.funcs[f]?with
 |
  some fn=>if(fn.name== "runtime.NumGoroutine")=false then(match fn.body with
  |
   some c=>match fP P fn.ntmps own sp c,allM (Al P) fn.results.toList with
   |some ac,some rs=>some ⟨fn.ntmps,rs,ac⟩
   |_,_=>none
  |none=>none)else none
 |none=>none
noncomputable def JU (P:Program) (own sp:List Nat) (f:FuncId):Option fU:=
 match jI P own sp f with|some A=>some ⟨A.nt,A.res,D4 A.code⟩|none=>none
theorem aN {own sp:List Nat} {f:FuncId} {A:fU} (h:JU P own sp f=some A):jI P own sp f=some A.er:=by
 unfold JU at h
 split at h
 ·rename_i B hB
  rw[hB]
  simp only[sJ]at h
  subst h
  rw[pJ]
  have h2:=hB
  unfold jI at h2
  (repeat' split at h2)<;>simp only[sJ,reduceCtorEq]at h2
  subst h2
  rename_i hc _
  simp only[fU.er,HN _ _ _ hc]
 ·simp at h
abbrev RF (P:Program) (own sp:List Nat) (f:FuncId):= {A:fU//JU P own sp f=some A}
def Gg (s:St):List AK->(List PV->Prop)->Prop
 |[],K=>K []
 |k::r,K=>ev true s k λp=>Gg s r λps=>K (p::ps)
def cT:List PV->PV
 |[p]=>p
 |ps=> .tup ps
def PV.flat:PV->Bool
 | .gd _ _| .tup _=>false
 |_=>true
def Nk (n:Nat) (res:List AK) (R:PV->List bX->Prop) (s:St):Prop:=
 ∃
  (c:List Cut) (ks:List Nat),jq c s λs'=>Gg s' res λps=>∃cY,(getAll s'.bx ks=some cY∧ks.Nodup∧ks.take n=eC n)∧
  (ps.all PV.flat=true∧ae (bM ks) (cT ps)=true∧cY.all (af (bM ks))=true)∧R (aB (bp ks) (cT ps)) (cY.map (aE (bp ks)))
def ends (n:Nat) (res:List AK) (R:PV->List bX->Prop):Exit->St->Prop
 | .ret,s| .normal,s=>Nk n res R s
 |_,_=>False
def aj:Nat->List PV->List (Nat×PV)
 |_,[]=>[]
 |i,p::r=>(i,p)::aj (i+1) r
theorem yc:∀(l:List PV) (i k:Nat),get (aj i l) k=if i≤k then l[k-i]?else none
 |[],i,k=>by simp[aj,get]
 |
  p::l,i,k=>by
  simp only[aj,get,yc l (i+1) k]
  by_cases h:i=k
  ·subst h;simp
  ·rw[if_neg h]
   by_cases h2:i≤k
   ·rw[if_pos (by omega),if_pos h2,show k-i=(k-(i+1))+1 by omega,List.getElem?_cons_succ]
   ·rw[if_neg (by omega),if_neg h2]
theorem gq.at:∀ {l:List PV} {vs:List Value} {i:Nat} {p:PV},gq Γ l vs->l[i]? =some p->∃v,vs[i]? =some v∧aO Γ p v
 |[],_,_,_,_,h=>by simp at h
 |p::l,[],_,_,h,_=>by simp[gq]at h
 |p::l,v::vs,0,q,h,hi=>by simp at hi;subst hi;exact⟨v,rfl,h.1⟩
 |p::l,v::vs,i+1,q,h,hi=>by simp at hi;simpa using gq.at h.2 hi
theorem EL {t:TypeId} {v r:Value} (h:(Instr.loadAt t v).run P w= .ok r w):((do loadVar t (←asAddr v)):Sem Value).run P w= .ok r w:=by
 unfold Instr.loadAt at h
 cases v<;>first
  |(rename_i ad;cases ad<;>first|exact h|(simp[Instr.sureAddr,stuck]at h))
  |(simp[Instr.sureAddr,stuck]at h)
theorem aO.Zh {p:PV} {v:Value} (h:aO Γ p v) (hf:p.flat=true):jF Γ p v:=by
 cases p<;>simp[PV.flat]at hf<;>first|exact h|(simp[jF])
def C1 (tmps:Array Value):ResultVar->Sem Value
 | .tmp t=>pure (tmps.getD t undef)
 | .cell a t=>do loadVar t (←asAddr (tmps.getD a undef))
theorem Gh (hs:gK nt ds s Γ a) (hw:w.heap=Γ.heap):∀ {rs:List ResultVar} {ks:List AK} {K:List PV->Prop},allM (Al P) rs=some ks->Gg s ks K->
  ∃ps vs,K ps∧(rs.mapM (C1 a.tmps)).run P w= .ok vs w∧gq Γ ps vs
 |
  [],ks,K,h,he=>by
  simp only[allM,sJ]at h;subst h
  exact⟨[],[],he,rfl,trivial⟩
 |
  r::rs,ks,K,h,he=>by
  simp only[allM]at h
  split at h
  ·rename_i y l hy hl
   simp only[sJ]at h;subst h
   simp only[Gg]at he
   have h1:∃p v,(Gg s l λps=>K (p::ps))∧(C1 a.tmps r).run P w= .ok v w∧aO Γ p v:=by
    cases r with
    |
     tmp t=>
     simp only[Al,sJ]at hy;subst hy
     simp only[ev]at he
     obtain⟨p,hp,hr⟩:=cW (x:= .tmp t) rfl hs rfl he
     exact⟨p,_,hp,rfl,hr⟩
    |
     cell t ty=>
     simp only[Al]at hy
     split at hy<;>simp only[sJ,reduceCtorEq]at hy
     rename_i g n hg hn;subst hy
     obtain⟨p,v,hp,iO,hr⟩:=Cs (x:= .tmp t) rfl hs hw rfl hg hn he
     exact⟨p,v,hp,EL iO,hr⟩
   obtain⟨p,v,hp,iO,hr⟩:=h1
   obtain⟨ps,vs,hK,adn,dM⟩:=Gh hs hw hl hp
   refine⟨p::ps,v::vs,hK,?_,hr,dM⟩
   rw[List.mapM_cons]
   simp only[bJ,iO,rJ,adn]
   rfl
  ·simp at h
theorem Gi:∀ {ps:List PV} {vs:List Value},gq Γ ps vs->ps.all PV.flat=true->j3 Γ ps vs
 |[],[],_,_=>trivial
 |[],_::_,h,_=>by simp[gq]at h
 |_::_,[],h,_=>by simp[gq]at h
 |
  p::ps,v::vs,h,hf=>by
  simp only[List.all_cons,aJ]at hf
  exact⟨h.1.Zh hf.1,Gi h.2 hf.2⟩
def Zi:List Value->Value
 |[v]=>v
 |vs=> .tuple vs.toArray
theorem EM (fn:Func) (tmps:Array Value) {vs:List Value} (h:(fn.results.toList.mapM (C1 tmps)).run P w= .ok vs w):
  (results fn tmps).run P w= .ok (Zi vs) w:=by
 have e:results fn tmps=(do
   let vs←fn.results.mapM (C1 tmps)
   pure (if h:vs.size=1 then vs[0]else .tuple vs)):=by
  unfold results
  congr 1
 have h2:(fn.results.mapM (C1 tmps)).run P w= .ok vs.toArray w:=by
  rw[Array.mapM_eq_mapM_toList,Sem.run_map,h];rfl
 rw[e,bJ,h2]
 simp only[rJ,Sem.run_pure]
 match vs with
 |[]=>rfl
 |[v]=>rfl
 |v::u::vs=>rfl
theorem HO {fn:Func} {rs:List AK} {fp:List bX} {R:PV->List bX->Prop} (hr:allM (Al P) fn.results.toList=some rs) (h0:Γ0.bx=aF 0 fp) (nu:HK Γ0) (hs:gK nt ds s Γ a) (hw:w.heap=Γ.heap) (hle:Le Γ0 Γ) (h:Nk fp.length rs R s):
  ∃v r pV Γ',(results fn a.tmps).run P w= .ok v w∧R r pV∧w.heap=Γ'.heap∧Mem Γ'∧Γ'.bx=aF 0 pV∧aO Γ' r v∧Le Γ0 Γ':=by
 obtain⟨c,ks,h⟩:=h
 obtain⟨s',Γ1,AS,hh,ID,h⟩:=lL nu c hs hle h
 have zf:w.heap=Γ1.heap:=by rw[hh];exact hw
 obtain⟨ps,vs,h,iO,dM⟩:=Gh AS zf hr h
 obtain⟨cY,⟨hg,hn,hks⟩,⟨hf,VY,hbo⟩,hR⟩:=h
 rw[←AS.bx]at hg
 have nN:=Cx.CW hg
 refine⟨_,_,_,Γ1.out ks cY,EM fn a.tmps iO,hR,zf,Cx.Ga AS.mem hg hn hbo,rfl,?_,Cx.JO ID h0 hg hks⟩
 have hv:aO Γ1 (cT ps) (Zi vs):=by
  have hl:=dM.length
  match ps,vs,dM,hl with
  |[],[],_,_=>exact⟨[],rfl,trivial⟩
  |[p],[v],dM,_=>exact dM.1
  |p::q::ps,v::u::vs,dM,_=>exact⟨_,rfl,Gi dM hf⟩
 exact hv.aB nN VY
theorem pK {fn:Func} {rs:List AK} {fp:List bX} {R:PV->List bX->Prop} (hr:allM (Al P) fn.results.toList=some rs) (h0:Γ0.bx=aF 0 fp) (nu:HK Γ0) (h:Nk fp.length rs R s):
  ∀
   (Ds:List Nat) {ds:List Deferred} {Γ:Cx} {w:World},gK nt ds s Γ a->w.heap=Γ.heap->Le Γ0 Γ->WF w0 w->Ds.Nodup->(∀D∈Ds,Γ0.heap.size≤D∧Γ.heap[D]? =some (.deferred (some [])))->
   LeavesInM (FW none) 0 P fn a.tmps (λe w'=>∃v r pV Γ',e= .returned v∧R r pV∧w'.heap=Γ'.heap∧Mem Γ'∧Γ'.bx=aF 0 pV∧aO Γ' r v∧Le Γ0 Γ'∧WF w0 w')
    (Ds.map λD=> {target:= .collected D,args:= #[]}) .returning w
 |
  [],ds,Γ,w,hs,hw,hle,oC,_,_=>by
  obtain⟨v,r,pV,Γ2,h1,h2,h3⟩:=HO hr h0 nu hs hw hle h
  exact⟨v,h1,v,r,pV,Γ2,rfl,h2,h3.1,h3.2.1,h3.2.2.1,h3.2.2.2.1,h3.2.2.2.2,oC⟩
 |
  D::Ds,ds,Γ,w,hs,hw,hle,oC,hn,hd=>by
  obtain⟨L0,hh⟩:=hd D (by simp)
  have hp:Γ.ik D:=⟨_,hh,rfl⟩
  obtain⟨hnm,DR⟩:=List.nodup_cons.1 hn
  refine⟨by simp,.inl ⟨D,w.putObj D (.deferred none),rfl,run_takeDeferred (by rw[hw];exact hh),?_⟩⟩
  refine pK hr h0 nu h Ds (hs.obj hp) (tt hw) (tq hle L0 hp) (oC.trans (WF.obj _ _ _)) DR (λD' hD'=> ?_)
  obtain⟨h1,h2⟩:=hd D' (by simp[hD'])
  exact⟨h1,by rw[jb (l:=D) (b:=D') (by rintro rfl;exact hnm hD')];exact h2⟩
theorem Am [ji] {f:FuncId} {A:fU} {own sp:List Nat} {args:List PV} {fp:List bX} {R:PV->List bX->Prop} (ht:jI P own sp f=some A.er) (hl:args.length≤A.nt)
  (h:aw P A.code (ends fp.length A.res R) ⟨aj 0 args,aF 0 fp⟩):
  (∀(vs:Array Value) (w:World),(callFunc f vs).run P w= .ok (.enter f vs) w)∧∀(Γ:Cx) (w:World) (vs:List Value),w.heap=Γ.heap->Mem Γ->Γ.bx=aF 0 fp->xF P Γ->gq Γ args vs->
   CallsIn (FW none) 0 P f vs.toArray w (λe w'=>∃v r pV Γ',e= .returned v∧R r pV∧w'.heap=Γ'.heap∧Mem Γ'∧Γ'.bx=aF 0 pV∧aO Γ' r v∧Le Γ Γ'∧WF w w'):=by
 unfold jI at ht
 split at ht
 case h_2=>simp at ht
 rename_i fn YQ
 split at ht
 case isFalse=>simp at ht
 rename_i ado
 split at ht
 case h_2=>simp at ht
 rename_i c hb
 split at ht
 case h_2=>simp at ht
 rename_i ac rs hac MW
 simp only[sJ,fU.er,fU.mk.injEq]at ht
 obtain⟨hnt,PY,adp⟩:=ht
 subst PY adp
 refine⟨λvs w=> ?_,λΓ w vs hw hm lA hY dM=> ?_⟩
 ·unfold callFunc
  simp only[bJ,run_program,rJ,YQ,ado,fJ,if_false,hb,Option.isNone_some,Sem.run_pure]
 ·have hlen:=dM.length
  have nu:HK Γ:=by
   intro k blk hk
   rw[lA,fY]at hk
   split at hk
   ·omega
   ·simp at hk
  refine callsIn_of_wp_marks YQ hb trivial (wpIn_mono (JT own sp c (ro:=none) (ds:=[]) (by simp) nu hY hac h (Γ:=Γ) (a:= {tmps:=vs.toArray++Array.replicate (fn.ntmps-vs.toArray.size) undef,defers:=[]}) ⟨lA,?_,rfl,?_,hm⟩ .nil hw (Le.refl Γ) (WF.refl w)) ?_)
  ·simp;omega
  ·intro k p hk
   rw[yc]at hk
   simp only[Nat.zero_le,if_true,Nat.sub_zero]at hk
   obtain⟨v,hv,hr⟩:=dM.at hk
   have dG:=(List.getElem?_eq_some_iff.1 hv).1
   have e:(vs.toArray++Array.replicate (fn.ntmps-vs.toArray.size) undef).getD k undef=v:=by
    rw[Array.getD_eq_getD_getElem?,Array.getElem?_append_left (by simpa using dG)]
    simp[hv]
   simp only
   rw[e];exact hr
  ·rintro e a' w' ⟨ds',s',Γ',ur,⟨Ds,Sl,VZ,hD3⟩,L4,vA,PW,he⟩
   cases e with
   |ret=>show LeavesInM _ _ _ _ _ _ a'.defers _ _;rw[ur.defers,Sl];exact pK MW lA nu he Ds ur L4 vA PW VZ hD3
   |normal=>show LeavesInM _ _ _ _ _ _ a'.defers _ _;rw[ur.defers,Sl];exact pK MW lA nu he Ds ur L4 vA PW VZ hD3
   |_=>exact he.elim
theorem ai.intro {f:FuncId} {A:fU} {own sp:List Nat} {args:List PV} {fp:List bX} {R:PV->List bX->Prop} (ht:jI P own sp f=some A.er) (hl:args.length≤A.nt)
  (h:aw P A.code (ends fp.length A.res R) ⟨aj 0 args,aF 0 fp⟩):ai P f args fp R:=
 λΓ w vs h1 h2 h3 h4=> .inl ⟨(Am ht hl h).1 _ _,Hx ((Am ht hl h).2 Γ w vs h1 h2 h3 .no h4)⟩
end Go.Ab
