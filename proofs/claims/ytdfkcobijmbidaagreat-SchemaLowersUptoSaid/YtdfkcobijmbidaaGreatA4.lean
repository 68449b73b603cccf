/- Regions, loops and bodies do what their abstract reading says. No condition. -/
import Derived.Test.YtdfkcobijmbidaaGreatA3
set_option linter.all false
namespace Go.Ab
variable [eE]
variable {P:Program} {nt:Nat} {ds:List Deferred} {s:St} {Γ:Cx} {a:Act} {w:World} [iZ]
structure AO where
 dst:Option Nat
 guard:Option (Nat×Bool)
 mg:Bool
 k:AK
def oc:AK->Bool
 | .alloc _| .box _| .buildSlice .. | .makeSlice .. | .store .. | .append .. | .appendZ .. | .copy .. | .fill .. | .isNil .. | .convB .. | .convL .. | .mkMap .. | .mapGet .. | .mapSet .. =>true
 |_=>false
def lp (P:Program) (s:St) (d:Option Nat) (f:AX) (args:List AX) (K:St->Prop):Prop:=
 vg true s f λpf=>tR true s args λps=>match pf with
  | .fn (.func fid) first cap=>∃ks os,tB P s d fid (first++ps++cap) ks os K
  | .fn (.yield l) [] []=>Hh s d l ps K
  |_=>False
def nu (P:Program) (s:St) (d:Option Nat) (f:AX) (args:List AX) (K:St->Prop):Prop:=
 vg true s f λpf=>tR true s args λps=>match pf with
  | .fn (.func fid) first cap=>∃v,(ae (λ_=>false) (first++ps++cap)=true∧ab (λ_=>false) v=true)∧
    af P fid (first++ps++cap) [] (λr fp=>r=v∧fp=[])∧K (s.put d v)
  |_=>False
def lq (P:Program) (s:St) (o:AO) (K:St->Prop):Prop:=
 match o.k with
 | .call f args=>lp P s o.dst f args K
 | .callq f args=>nu P s o.dst f args K
 |k=>if oc k=true then ex s o.dst k K else ev true s k λp=>K (s.put o.dst p)
def iN (P:Program) (s:St) (o:AO) (K:St->Prop):Prop:=
 match o.guard with
 |none=>lq P s o K
 |
  some (sl,want)=>match (get s.env sl).getD .un with
  | .bl b=>if o.mg=true then ev (b==want) s o.k (λp=>K (s.put o.dst (.gd (b==want) p)))
    else(b=want->lq P s o K)∧(b≠want->K (s.put o.dst .un))
  | .gd g (.bl b)=>if o.mg=true then ev (g&&b==want) s o.k (λp=>K (s.put o.dst (.gd (g&&b==want) p)))
    else(g=true->b=want->lq P s o K)∧((g=true->b≠want)->K (s.put o.dst .un))
  |_=>False
def qo:AK->Bool
 | .mv _| .pick .. | .load .. | .nilCheck _| .un .. | .convI .. | .convS _| .fieldA .. | .s2a .. | .field .. | .extract .. | .len _| .lenS _| .lenC _| .cap _| .mm .. =>true
 | .bin op _ _ _=>match op with| .quo| .rem| .shl| .shr=>false|_=>true
 |_=>false
def sK (ops:Array Oper):Option (Nat×Bool)->Option (Option (Nat×Bool))
 |none=>some none
 |some (j,want)=>match (ops[j]?).bind (·.dst)with|some d=>some (some (d,want))|none=>none
def vl (nt:Nat) (d:Option Nat) (k:AK):Bool:=
 match d,k with
 |some _,.store .. =>false
 |some d,_=>decide (d<nt)
 |none,_=>true
def vn (P:Program) (draw:Bool) (ty:TypeId):AK->AK
 | .call f args=>if draw=true then .callq f args else .call f args
 |
  .mv (.c (.sl 0 [] true))=>(match P.underlying ty with
  |some (.slice e)=> .mv (.c (.sl (P.cellsOf e) [] true))
  |_=> .mv (.c (.sl 0 [] true)))
 |k=>k
def QS (own:List Nat):Option Nat->Bool
 |some d=>own.contains d
 |none=>true
noncomputable def nM (P:Program) (nt:Nat) (ops:Array Oper) (own sp:List Nat) (draw:Bool) (o:Oper):Option AO:=
 match lv P (match o.dst with|some d=>own.contains d|none=>false) o.op,sK ops o.guard with
 |some k,some g=>if vl nt o.dst k=true then some ⟨o.dst,g,qo k&& !(match o.dst with|some d=>sp.contains d|none=>false),vn P (draw&& !QS own o.dst) o.type k⟩else none
 |_,_=>none
theorem yj {own:Bool} {op:Op} {k:AK} (h:lv P own op=some k) (c:Call):op≠ .defer c:=by
 rintro rfl;simp[lv]at h
theorem Oper.yk {ro:Option Nat} {o:Oper} {own:Bool} {k:AK} (nK:lv P own o.op=some k) {K:St->Prop} {Kr:Act->World->Prop} {Q:Exit->Act->World->Prop} (h:lD P nt ds o a w Γ K)
  (hk:∀s' Γ' a' w',iB nt ds s' Γ' a'->w'.heap=Γ'.heap->Le Γ Γ'->WF w w'->K s'->Kr a' w'):o.wpIn (FW ro) 0 P a w Kr Q:=by
 obtain⟨nx,v,w',s',Γ',jl,hnx,hs,hh,hle,pS,hK⟩:=h
 refine⟨λ_ _=>trivial,?_⟩
 rw[Oper.semAt_eq _ _ _ (yj nK),jl]
 rcases hnx with rfl|⟨rfl,rfl⟩
 ·exact hk _ _ _ _ hs hh hle pS hK
 ·exact hk _ _ _ _ hs hh hle pS hK
theorem ME {o:Oper} {k:AK} {own:Bool} {K:St->Prop} (hk:lv P own o.op=some k) (hs:iB nt ds s Γ a) (hw:w.heap=Γ.heap) (hd:vl nt o.dst k=true) (he:ex s o.dst k K):lD P nt ds o a w Γ K:=by
 have GV:(∀x y z,k≠ .store x y z)->∀j,o.dst=some j->j<nt:=by
  intro fB j hj
  rw[hj]at hd
  unfold vl at hd
  split at hd
  ·exact absurd rfl (fB _ _ _)
  ·rename_i heq _;simp at heq;subst heq;simpa using hd
  ·rename_i heq;simp at heq
 cases nW:o.op with
 |
  alloc t=>
  rw[nW]at hk;simp only[lv]at hk
  split at hk<;>simp only[sJ,reduceCtorEq]at hk
  rename_i z hz;subst hk
  exact Ke nW hz hs hw (GV (by intros;simp)) he
 |
  box t x=>
  rw[nW]at hk;simp only[lv]at hk
  split at hk<;>simp only[sJ,reduceCtorEq]at hk
  rename_i y hy;subst hk
  exact QQ nW hy hs hw (GV (by intros;simp)) he
 |
  buildSlice t n parts=>
  rw[nW]at hk;simp only[lv]at hk
  split at hk
  ·rename_i e ps hu hp
   split at hk
   ·rename_i z sz hz iQ
    split at hk<;>simp only[sJ,reduceCtorEq]at hk
    rename_i hc;subst hk
    exact Aj nW hu hp hz iQ hc.1 hc.2 hs hw (GV (by intros;simp)) he
   ·simp at hk
  ·simp at hk
 |
  makeSlice t l c=>
  rw[nW]at hk;simp only[lv]at hk
  split at hk
  ·rename_i e l' c' hu hl hc
   split at hk
   ·rename_i z i hz hi
    split at hk<;>simp only[sJ,reduceCtorEq]at hk
    rename_i ky;subst hk
    exact B5 nW hu hl hc hz hi ky hs hw (GV (by intros;simp)) he
   ·simp at hk
  ·simp at hk
 |
  store t x y=>
  rw[nW]at hk;simp only[lv]at hk
  split at hk<;>simp only[sJ,reduceCtorEq]at hk
  rename_i n x' y' hn hx hy;subst hk
  refine Kg nW hn hx hy hs hw ?_ he
  cases Mf:o.dst with
  |none=>rfl
  |some d=>rw[Mf]at hd;simp[vl]at hd
 |
  convert t e x=>
  rw[nW]at hk;simp only[lv]at hk
  split at hk
  ·simp only[sJ]at hk;subst hk;simp[ex]at he
  ·split at hk<;>simp only[sJ,reduceCtorEq]at hk
   subst hk;simp[ex]at he
  ·rename_i e' y h1 h2 hx
   split at hk<;>simp only[sJ,reduceCtorEq]at hk
   rename_i h3;subst hk
   exact Kf nW h1 h2 h3 hx hs hw (GV (by intros;simp)) he
  ·rename_i e0 e' y h1 h2 hx
   split at hk
   ·rename_i hte
    split at hk<;>simp only[sJ,reduceCtorEq]at hk
    rename_i h3;subst hk hte
    exact Km nW h1 (by rw[h1]at h2;cases h2;exact h3) hx hs hw (GV (by intros;simp)) he
   ·simp at hk
  ·simp at hk
 |makeMap t r=>rw[nW]at hk;simp[lv]at hk
 |lookup t m x ok=>rw[nW]at hk;simp[lv]at hk
 |mapUpdate t m x y=>rw[nW]at hk;simp[lv]at hk
 |
  call c=>
  obtain⟨callee,args,tys⟩:=c
  rw[nW]at hk
  cases callee with
  |
   value f=>
   simp only[lv]at hk
   split at hk<;>simp only[sJ,reduceCtorEq]at hk
   subst hk;simp[ex]at he
  |invoke r m=>simp[lv]at hk
  |
   builtin b=>
   simp only[lv]at hk
   obtain⟨args⟩:=args
   obtain⟨tys⟩:=tys
   simp only at hk
   cases b with
   |
    append=>
    match args,tys,nW,hk with
    |
     [x,y],[t,u],nW,hk=>
     unfold dB at hk
     simp only at hk
     split at hk
     ·rename_i e d x' y' hu1 hu2 hx hy
      split at hk
      ·rename_i i hi
       split at hk
       ·rename_i z hz
        split at hk
        ·rename_i hc
         split at hk
         ·simp only[sJ]at hk;subst hk
          exact Am nW hu1 hu2 (.inl ⟨_,rfl⟩) hi hz hc.1 hc.2.1 hc.2.2 hx hy hs hw (GV (by intros;simp)) he
         ·split at hk<;>simp only[sJ,reduceCtorEq]at hk
          rename_i h1;subst hk
          exact Am nW hu1 hu2 (.inr rfl) hi hz hc.1 hc.2.1 hc.2.2 hx hy hs hw (GV (by intros;simp)) he
         ·split at hk<;>simp only[sJ,reduceCtorEq]at hk
          rename_i zz hzz;subst hk
          exact Fg nW hu1 hu2 hi hz hzz hc.1 hc.2.1 hc.2.2 hx hy hs hw (GV (by intros;simp)) he
         ·simp at hk
        ·simp at hk
       ·simp at hk
      ·simp at hk
     ·simp at hk
    |[],_,_,hk|[_],_,_,hk|_::_::_::_,_,_,hk|[_,_],[],_,hk|[_,_],[_],_,hk|[_,_],_::_::_::_,_,hk=>simp[dB]at hk
   |
    clear=>
    match args,tys,nW,hk with
    |
     [x],[t],nW,hk=>
     unfold dB at hk
     simp only at hk
     split at hk
     ·rename_i e x' hu1 hx
      split at hk
      ·rename_i n z hn hz
       split at hk<;>simp only[sJ,reduceCtorEq]at hk
       subst hk
       exact My nW hu1 hn hz hx hs hw he
      ·simp at hk
     ·simp at hk
    |[],_,_,hk|_::_::_,_,_,hk|[_],[],_,hk|[_],_::_::_,_,hk=>simp[dB]at hk
   |
    copy=>
    match args,tys,nW,hk with
    |
     [x,y],[t,u],nW,hk=>
     unfold dB at hk
     simp only at hk
     split at hk
     ·rename_i e x' y' hu1 hx hy
      split at hk<;>simp only[sJ,reduceCtorEq]at hk
      rename_i n hn;subst hk
      exact Mx nW hu1 hn hx hy hs hw (GV (by intros;simp)) he
     ·simp at hk
    |[],_,_,hk|[_],_,_,hk|_::_::_::_,_,_,hk|[_,_],[],_,hk|[_,_],[_],_,hk|[_,_],_::_::_::_,_,hk=>simp[dB]at hk
   |
    len=>
    exfalso
    unfold dB at hk
    repeat (split at hk<;>(try contradiction))
    all_goals first|(simp only[sJ]at hk;subst hk;simp[ex]at he;done)|(simp at hk;done)|(split at hk<;>first|(simp only[sJ]at hk;subst hk;simp[ex]at he;done)|(simp at hk;done))
   |
    cap=>
    unfold dB at hk
    split at hk<;>(try contradiction)
    split at hk<;>simp only[sJ,reduceCtorEq]at hk
    subst hk;simp[ex]at he
   |
    min=>
    unfold dB at hk
    split at hk<;>(try contradiction)
    split at hk<;>simp only[sJ,reduceCtorEq]at hk
    subst hk;simp[ex]at he
   |
    max=>
    unfold dB at hk
    split at hk<;>(try contradiction)
    split at hk<;>simp only[sJ,reduceCtorEq]at hk
    subst hk;simp[ex]at he
   |_=>unfold dB at hk;split at hk<;>contradiction
 |
  binOp op t x y yt=>
  by_cases hn:∃ng p,k= .isNil ng p
  ·obtain⟨ng,p,rfl⟩:=hn
   rw[nW]at hk
   exact Kj nW hk hs hw (GV (by intros;simp)) he
  rw[nW]at hk;simp only[lv]at hk
  exfalso
  repeat (split at hk<;>(try contradiction))
  all_goals first|(simp only[sJ]at hk;subst hk;simp[ex]at he;done)|(simp at hk;done)|(simp only[sJ]at hk;exact hn ⟨_,_,hk.symm⟩)|(split at hk<;>first|(simp only[sJ]at hk;subst hk;simp[ex]at he;done)|(simp at hk;done)|(simp only[sJ]at hk;exact hn ⟨_,_,hk.symm⟩)|(split at hk<;>first|(simp only[sJ]at hk;subst hk;simp[ex]at he;done)|(simp at hk;done)|(simp only[sJ]at hk;exact hn ⟨_,_,hk.symm⟩)|(split at hk<;>first|(simp only[sJ]at hk;subst hk;simp[ex]at he;done)|(simp at hk;done)|(simp only[sJ]at hk;exact hn ⟨_,_,hk.symm⟩))))
 |
  _=>
  exfalso
  rw[nW]at hk
  first
  |(simp only[lv,reduceCtorEq]at hk;done)
  |(simp only[lv]at hk
    repeat (split at hk<;>(try contradiction))
    all_goals first|(simp only[sJ]at hk;subst hk;simp[ex]at he;done)|(simp at hk;done)|(split at hk<;>first|(simp only[sJ]at hk;subst hk;simp[ex]at he;done)|(simp at hk;done)|(split at hk<;>first|(simp only[sJ]at hk;subst hk;simp[ex]at he;done)|(simp at hk;done))))
end Go.Ab
namespace Go.Ab
variable [eE]
variable {P:Program} {nt:Nat} {ds:List Deferred} {s:St} {Γ:Cx} {a:Act} {w:World} [iZ]
theorem aF.toV {p:PV} {v:Value} (h:aF Γ [p] [v]) (ha:p.isAgg=false):aP Γ p v:=by
 cases p<;>simp[PV.isAgg]at ha<;>first|(simp only[aP];done)|(simp only[aP];exact h)|(exact absurd h (by intro h;cases h))
theorem od:∀ {l:List PV} {vs:List Value},aF Γ l vs->(∀x∈l,x.isAgg=false)->ie Γ l vs
 |[],vs,h,_=>by cases h;trivial
 |
  p::l,vs,h,hn=>by
  obtain⟨cs,us,rfl,h1,h2⟩:=h.oF
  have hp:=hn p (by simp)
  have hw:p.width=1:=by cases p<;>simp[PV.isAgg]at hp<;>rfl
  have hl:=h1.iR
  rw[hw]at hl
  obtain⟨v,rfl⟩:=List.length_eq_one_iff.1 hl
  exact⟨h1.toV hp,od h2 (λx hx=>hn x (by simp[hx]))⟩
theorem ie.append:∀ {l m:List PV} {vs us:List Value},ie Γ l vs->ie Γ m us->ie Γ (l++m) (vs++us)
 |[],m,[],us,_,h=>h
 |p::l,m,v::vs,us,h,h'=>⟨h.1,ie.append h.2 h'⟩
 |[],m,v::vs,us,h,_=>by simp[ie]at h
 |p::l,m,[],us,h,_=>by simp[ie]at h
theorem ie.aI {f:Nat->Bool} {ρ:Nat->Nat} {Δ:Cx} (hs:sd f ρ Γ Δ):∀ {l:List PV} {vs:List Value},ie Γ l vs->ae f l=true->ie Δ (aO ρ l) vs
 |[],[],_,_=>trivial
 |
  p::l,v::vs,h,hf=>by
  simp only[ae,aJ]at hf
  exact⟨h.1.aI hs hf.1,ie.aI hs h.2 hf.2⟩
 |[],v::vs,h,_=>by simp[ie]at h
 |p::l,[],h,_=>by simp[ie]at h
theorem tV:∀ {ps:List PV} {xs:List Operand},ps.length=xs.length->(∀(i:Nat) p x,ps[i]? =some p->xs[i]? =some x->aP Γ p (a.eval x))->ie Γ ps (xs.map a.eval)
 |[],[],_,_=>trivial
 |p::ps,x::xs,hl,h=>⟨h 0 p x rfl rfl,tV (by simpa using hl) (λi q y h1 h2=>h (i+1) q y h1 h2)⟩
 |[],_::_,hl,_=>by simp at hl
 |_::_,[],hl,_=>by simp at hl
def Fh (P:Program) (nt:Nat) (ds:List Deferred) (Γ:Cx) (w:World) (K:St->Prop) (Kr:Act->World->Prop):Prop:=
 ∀s' Γ' a' w',iB nt ds s' Γ' a'->w'.heap=Γ'.heap->Le Γ Γ'->WF w w'->K s'->Kr a' w'
theorem Kn {o:Oper} {f:Operand} {args:Array Operand} {tys:Array TypeId} {fid:FuncId} {fs cs:Array Value} (ho:o.op= .call {callee:= .value f,args,argTypes:=tys}) (hf:a.eval f= .func (.func fid) fs cs):
  execOp a.eval o=(do let d←(Pure.pure {target:= .fn (.func fid) cs,args:=fs++args.map a.eval}:Sem Deferred);invoke d.target d.args):=by
 unfold execOp
 rw[ho]
 simp only[resolve,hf,Deferred.ofValue]
theorem Hi {o:Oper} {f:Operand} {args:Array Operand} {tys:Array TypeId} {fid:FuncId} {first cap ps:List PV} (ho:o.op= .call {callee:= .value f,args,argTypes:=tys})
  (hf:aP Γ (.fn (.func fid) first cap) (a.eval f)) (hl:ps.length=args.toList.length) (hp:∀(i:Nat) p x,ps[i]? =some p->args.toList[i]? =some x->aP Γ p (a.eval x)):
  ∃vs:List Value,ie Γ (first++ps++cap) vs∧∀w r,(callFunc fid vs.toArray).run P w=r->(execOp a.eval o).run P w=r:=by
 simp only[aP]at hf
 generalize hv:a.eval f=v at hf
 cases hf with
 |
  @fn _ _ fs cs _ _ _ h1 h2 h3 h4 _=>
  refine⟨fs++args.toList.map a.eval++cs,((od h1 h3).append (tV hl hp)).append (od h2 h4),λw r hc=> ?_⟩
  rw[Kn ho hv]
  have e:(fs++args.toList.map a.eval++cs).toArray=(fs.toArray++args.map a.eval)++cs.toArray:=by
   apply Array.ext';simp
  rw[e]at hc
  exact hc
theorem Fi {n k:Nat}:eP (eU n) k=k:=by
 unfold eP
 split
 ·rename_i h
  cases hi:(eU n)[k-KB]?with
  |none=>rfl
  |some j=>simp only[Option.getD_some];have:=(w7.1 hi).2;omega
 ·rfl
theorem MF {ro:Option Nat} {l:Nat} {f:FuncId} {tmps:Array Value} {as bo:Code} {R:Ending->World->Prop} (h:RoundIn (FW none) 0 P l f tmps as bo w R):RoundIn (FW ro) 0 P l f tmps as bo w R:=h
theorem Fj {o:Oper} {f:Operand} {args:Array Operand} {tys:Array TypeId} {f':AX} {gy:List AX} {K:St->Prop} {Kr:Act->World->Prop} {Q:Exit->Act->World->Prop} {ro:Option Nat} (ho:o.op= .call {callee:= .value f,args,argTypes:=tys})
  (hf:gN f=some f') (hx:qU args.toList=some gy) (hs:iB nt ds s Γ a) (hw:w.heap=Γ.heap) (hd:∀j,o.dst=some j->j<nt) (hY:As P Γ) (h:lp P s o.dst f' gy K) (hk:Fh P nt ds Γ w K Kr):o.wpIn (FW ro) 0 P a w Kr Q:=by
 unfold lp at h
 obtain⟨pf,h,Mg⟩:=cU hf hs rfl h
 obtain⟨ps,h,hl,hp⟩:=uY hs rfl hx h
 split at h
 case h_3=>exact h.elim
 case h_2=>
  rename_i l _
  obtain⟨bm,R,hg,tw,nU,wQ,hK⟩:=h
  obtain⟨Γ0,rec,TU,h0,y8,Pk,hAY⟩:=hY l ps bm R wQ
  rw[←hs.bx]at hg
  have WB:a.eval f= .func (.yield l) #[] #[]:=by
   simp only[aP]at Mg
   generalize a.eval f=v at Mg
   cases Mg with
   | @fn _ _ fs cs _ _ _ h1 h2 h3 h4 _=>cases h1;cases h2;rfl
  have jl:(execOp a.eval o).run P w=(Instr.yield l (args.toList.map a.eval).toArray).run P w:=by
   have e:(args.toList.map a.eval).toArray= #[]++args.map a.eval:=by apply Array.ext';simp
   rw[e]
   unfold execOp
   rw[ho]
   simp only[resolve,WB,Deferred.ofValue]
   rfl
  have mG:=Cx.ox hg
  have hA:ie Γ ps (args.toList.map a.eval):=tV hl hp
  have Qz:=hA.aI mG (by rw[pB];exact tw)
  rw[ki (λ_=>pC)]at Qz
  have LQ:Γ.heap[l]? =Γ0.heap[l]? :=by rw[TU.plain Pk y8 rfl,y8]
  obtain⟨fn,tmps,as,bo,hy,hR⟩:=hAY (Γ.call (eU iZ.n) bm) w _ hw (Cx.vf hs.mem hg (n9 _) (by rw[pB];exact nU)) (by simp only[Cx.call];rw[tU (λ_=>pC)]) Qz (MD h0 TU hg) LQ
  refine⟨λ_ _=>trivial,?_⟩
  rw[Oper.semAt_eq _ _ _ (λc=>by rw[ho];simp),jl,hy,Oper.uponIn_round]
  refine⟨λh=>by simp[Fence.wide]at h,MF (hR.mono ?_)⟩
  rintro e w' ⟨fp,Γ',rfl,hR,Pn,s9,Pv,hle,pS⟩
  obtain⟨⟨hlen,n6⟩,hKK⟩:=hK fp hR
  have hlk:(eU iZ.n++[]).length=iZ.n:=by simp[eU]
  obtain⟨same2,le2,mem2⟩:=tT hs.mem hg (os:=[]) (by simpa using n9 _) (by simp) s9 Pv hle (by rw[hlen,hlk]) (by rw[hlen];exact n6)
  have BX:=hs.le le2 mem2 (wM:=bI s.bx (eU iZ.n) fp) (by simp only[Cx.back,List.append_nil,hs.bx];rw[tU (λ_=>Fi)])
  exact hk _ _ _ _ (BX.put hd (p:= .bl true) (v:= .bool true) (by simp only[aP];exact .bl _ .nil)) (by simp[Cx.back,Pn]) le2 pS hKK
 rename_i fid first cap
 obtain⟨ks,os,bm,R,hg,hn,QA,tw,nU,hc,hK⟩:=h
 obtain⟨vs,hA,jl⟩:=Hi (P:=P) ho Mg hl hp
 refine⟨λ_ _=>trivial,?_⟩
 rw[←hs.bx]at hg QA
 have hnk:ks.Nodup:=(List.nodup_append.1 hn).1
 have mG:=Cx.ox hg
 have key:∀e w',(∃v r kS Γ',e=Ending.returned v∧R r kS∧w'.heap=Γ'.heap∧Mem Γ'∧Γ'.bx=aG 0 kS∧aP Γ' r v∧Le (Γ.call ks bm) Γ'∧WF w w')->∃v,e= .returned v∧Kr (a.put o.dst v) w':=by
  rintro e w' ⟨v,r,fp,Γ',rfl,hR,Pn,s9,Pv,Dm,hle,pS⟩
  obtain⟨⟨hlen,hrr,n6⟩,hKK⟩:=hK r fp hR
  obtain⟨same2,le2,mem2⟩:=tT hs.mem hg hn QA s9 Pv hle hlen n6
  have BX:=hs.le le2 mem2 (wM:=bI s.bx (ks++os) (fp.map (aZ (eP (ks++os))))) (by simp[Cx.back,hs.bx])
  exact⟨v,rfl,hk _ _ _ _ (BX.put hd (Dm.aI same2 hrr)) (by simp[Cx.back,Pn]) le2 pS hKK⟩
 rcases hc (Γ.call ks bm) w vs hw (Cx.vf hs.mem hg hnk nU) rfl (hA.aI mG tw)with⟨Cp,BH⟩|⟨v,w',Cp,BH⟩
 ·rw[Oper.semAt_eq _ _ _ (λc=>by rw[ho];simp),jl w _ Cp,Oper.uponIn_enter]
  refine⟨λh=>by simp[Fence.wide]at h,Mz ?_⟩
  refine BH.mono λe w' he=> ?_
  obtain⟨v,rfl,h⟩:=key e w' he
  exact h
 ·rw[Oper.semAt_eq _ _ _ (λc=>by rw[ho];simp),jl w _ Cp]
  obtain⟨u,hu,h⟩:=key _ w' BH
  cases hu
  exact h
theorem jR {ρ:Nat->Nat} {p:PV} (h:ab (λ_=>false) p=true):aI ρ p=p:=Ao (f:=λ_=>false) (by simp) p h
theorem mr {ρ:Nat->Nat} {l:List PV} (h:ae (λ_=>false) l=true):aO ρ l=l:=nj (f:=λ_=>false) (by simp) l h
mutual
theorem ig {f g:Nat->Bool} (h:∀k,f k=true->g k=true):∀p,ab f p=true->ab g p=true
 | .st w l,hh=>by simp only[ab]at*;exact fi h l hh
 | .ar sz n l,hh=>by simp only[ab]at*;exact fi h l hh
 | .tup l,hh=>by simp only[ab]at*;exact fi h l hh
 | .sl sz l c,hh=>by simp only[ab]at*;exact fi h l hh
 | .fp sz l c,hh=>by simp only[ab]at*;exact fi h l hh
 | .fn f x y,hh=>by simp only[ab,aJ]at*;exact⟨fi h x hh.1,fi h y hh.2⟩
 | .gd b p,hh=>by simp only[ab]at*;exact ig h p hh
 | .ifc b p,hh=>by simp only[ab]at*;exact ig h p hh
 | .rs ..,hh=>by simp only[ab]at*;exact h _ hh
 | .pt ..,hh=>by simp only[ab]at*;exact h _ hh
 | .un,_| .bl _,_| .int ..,_| .str _,_| .np,_| .nf,_| .ni,_| .mp ..,_=>by simp[ab]
theorem fi {f g:Nat->Bool} (h:∀k,f k=true->g k=true):∀l,ae f l=true->ae g l=true
 |[],_=>by simp[ae]
 |p::l,hh=>by simp only[ae,aJ]at*;exact⟨ig h p hh.1,fi h l hh.2⟩
end
theorem Au {d:Option Nat} {f:AX} {args:List AX} {K:St->Prop} (h:nu P s d f args K):lp P s d f args K:=by
 unfold nu at h
 unfold lp
 have hv:∀ {g:Bool} {x:AX} {K K':PV->Prop},(∀p,K p->K' p)->vg g s x K->vg g s x K':=by
  intro g x K K' hh hv
  unfold vg at*
  split at hv
  ·exact⟨hv.1,hh _ hv.2⟩
  ·exact hh _ hv
 have hvs:∀ {g:Bool} {xs:List AX} {K K':List PV->Prop},(∀p,K p->K' p)->tR g s xs K->tR g s xs K':=by
  intro g xs
  induction xs with
  |nil=>intro K K' hh hv;exact hh _ hv
  |cons x xs ih=>intro K K' hh hq;exact hv (λp hp=>ih (λq hq=>hh _ hq) hp) hq
 refine hv (λpf hq=>hvs (λps hr=> ?_) hq) h
 split at hr
 case h_2=>exact hr.elim
 rename_i fid first cap
 obtain⟨v,⟨h1,h2⟩,hc,hK⟩:=hr
 refine⟨[],[],[],(λr fp=>r=v∧fp=[]),rfl,by simp,by simp,fi (by simp) _ h1,rfl,?_,?_⟩
 ·rw[mr h1];exact hc
 ·rintro r fp ⟨rfl,rfl⟩
  refine⟨⟨rfl,ig (by simp) _ h2,rfl⟩,?_⟩
  rw[jR h2]
  exact hK
end Go.Ab
namespace Go.Ab
variable [eE]
variable {P:Program} {nt:Nat} {ds:List Deferred} {s:St} {Γ:Cx} {a:Act} {w:World} [iZ]
def Dt {α:Type} (C:(α->Prop)->Prop):Prop:=∀K,C K->∃p,K p∧∀K':α->Prop,K' p->C K'
theorem Dt.ret {α:Type} (v:α):Dt (λK=>K v):=λ_ h=>⟨v,h,λ_ h=>h⟩
theorem Dt.no {α:Type}:Dt (λ_:α->Prop=>False):=λ_ h=>h.elim
theorem Dt.bind {α β:Type} {C:(α->Prop)->Prop} {D:α->(β->Prop)->Prop} (hc:Dt C) (hd:∀p,Dt (D p)):Dt (λK=>C (λp=>D p K)):=by
 intro K h
 obtain⟨p,hp,hk⟩:=hc _ h
 obtain⟨q,hq,Dq⟩:=hd p _ hp
 exact⟨q,hq,λK' h'=>hk _ (Dq _ h')⟩
theorem Dt.and {α:Type} {c:Prop} {C:(α->Prop)->Prop} (hc:Dt C):Dt (λK=>c∧C K):=by
 intro K h
 obtain⟨p,hp,hk⟩:=hc _ h.2
 exact⟨p,hp,λK' h'=>⟨h.1,hk _ h'⟩⟩
theorem qp (g:Bool) (s:St) (x:AX):Dt (vg g s x):=by
 unfold vg
 split
 ·exact Dt.and (Dt.ret _)
 ·exact Dt.ret _
theorem qZ (g:Bool) (s:St):∀xs,Dt (tR g s xs)
 |[]=>Dt.ret _
 |
  x::xs=>by
  show Dt λK=>tR g s (x::xs) K
  simp only[tR]
  exact Dt.bind (qp g s x) λp=>Dt.bind (qZ g s xs) λps=>Dt.ret _
theorem xa (g:Bool) (s:St):∀xs,Dt (za g s xs)
 |[]=>Dt.ret _
 |
  (i,x)::xs=>by
  show Dt λK=>za g s ((i,x)::xs) K
  simp only[za]
  exact Dt.bind (qp g s x) λp=>Dt.bind (xa g s xs) λps=>Dt.ret _
theorem pD (p:PV):Dt (mM p):=by
 unfold mM;split
 ·exact Dt.ret _
 ·exact Dt.no
theorem Fk (mx:Bool):∀l a,Dt (mh mx a l)
 |[],a=>Dt.ret _
 |
  p::r,a=>by
  show Dt λK=>mh mx a (p::r) K
  simp only[mh]
  exact Dt.bind (pD p) λb=>Fk mx r _
theorem QT (op:BinOp) (k:IntKind) (a b:Int):Dt (pn op k a b):=by
 cases op<;>first|exact Dt.ret _|exact Dt.and (Dt.ret _)
theorem QU (op:BinOp) (a b:List UInt8):Dt (wT op a b):=by
 cases op<;>first|exact Dt.ret _|exact Dt.and (Dt.ret _)|exact Dt.no
theorem vo (op:BinOp) (b:Bool):Dt (tQ op b):=by
 cases op<;>first|exact Dt.ret _|exact Dt.no
theorem QV (s:St) (op:BinOp) (eqs:ET) (p q:PV):Dt (qh s op eqs p q):=by
 show Dt λK=>qh s op eqs p q K
 cases eqs<;>simp only[qh]
 case no=>split<;>first|exact Dt.and (QT _ _ _ _)|exact QU _ _ _|exact Dt.no
 case sh x=>exact Dt.and (vo _ _)
 case bl=>split<;>first|exact vo _ _|exact Dt.no
 case ptr=>
  split
  ·exact vo _ _
  ·split
   ·exact Dt.and (vo _ _)
   ·exact Dt.no
  ·exact vo _ _
  ·exact Dt.no
def yM {α β:Type} (C:(α->β->Prop)->Prop):Prop:=∀K,C K->∃p q,K p q∧∀K':α->β->Prop,K' p q->C K'
theorem yM.ret {α β:Type} (v:α) (u:β):yM (λK=>K v u):=λ_ h=>⟨v,u,h,λ_ h=>h⟩
theorem yM.no {α β:Type}:yM (λ_:α->β->Prop=>False):=λ_ h=>h.elim
theorem yM.and {α β:Type} {c:Prop} {C:(α->β->Prop)->Prop} (hc:yM C):yM (λK=>c∧C K):=by
 intro K h
 obtain⟨p,q,hp,hk⟩:=hc _ h.2
 exact⟨p,q,hp,λK' h'=>⟨h.1,hk _ h'⟩⟩
theorem yM.of {α β γ:Type} {C:(α->Prop)->Prop} {D:α->(β->γ->Prop)->Prop} (hc:Dt C) (hd:∀p,yM (D p)):yM (λK=>C (λp=>D p K)):=by
 intro K h
 obtain⟨p,hp,hk⟩:=hc _ h
 obtain⟨q,r,hq,Dq⟩:=hd p _ hp
 exact⟨q,r,hq,λK' h'=>hk _ (Dq _ h')⟩
theorem Dt.yl {α β γ:Type} {C:(α->β->Prop)->Prop} {D:α->β->(γ->Prop)->Prop} (hc:yM C) (hd:∀p q,Dt (D p q)):Dt (λK=>C (λp q=>D p q K)):=by
 intro K h
 obtain⟨p,q,hp,hk⟩:=hc _ h
 obtain⟨r,hq,Dq⟩:=hd p q _ hp
 exact⟨r,hq,λK' h'=>hk _ (Dq _ h')⟩
theorem oL (s:St) (p:PV):yM (content s p):=by
 show yM λK=>content s p K
 cases p<;>simp only[content]<;>first
  |exact yM.ret _ _|exact yM.no
  |(split<;>first|exact yM.and (yM.ret _ _)|exact yM.no|(split<;>first|exact yM.and (yM.ret _ _)|exact yM.no))
theorem ra (g:Bool) (s:St) (lo hi:Option AX) (len cap:Nat):yM (jM g s lo hi len cap):=by
 unfold jM
 refine yM.of (C:=match hi with|none=>λ(J:Nat->Prop)=>J len|some x=>λJ=>vg g s x λp=>mM p λh=>(0≤h∧h≤cap)∧J h.toNat) ?_ λh=> ?_
 ·cases hi with
  |none=>exact Dt.ret _
  |some x=>exact Dt.bind (qp g s x) λp=>Dt.bind (pD p) λh=>Dt.and (Dt.ret _)
 ·refine yM.of (C:=match lo with|none=>λ(J:Nat->Prop)=>J 0|some x=>λJ=>vg g s x λp=>mM p λl=>(0≤l∧l≤h)∧J l.toNat) ?_ λl=>yM.ret _ _
  cases lo with
  |none=>exact Dt.ret _
  |some x=>exact Dt.bind (qp g s x) λp=>Dt.bind (pD p) λh=>Dt.and (Dt.ret _)
theorem rK (g:Bool) (s:St) (k:AK):Dt (ev g s k):=by
 have V:=qp g s
 have I:=pD
 show Dt λK=>ev g s k K
 cases k with
 |mv x=>exact V x
 |
  pick c a b=>
  simp only[ev]
  refine Dt.bind (V c) λp=> ?_
  split
  ·split<;>first|exact Dt.ret _|exact Dt.and (Dt.ret _)|exact Dt.no
  ·exact Dt.no
 |
  build z parts=>
  simp only[ev]
  refine Dt.bind (xa g s parts) λp=> ?_
  split<;>first|exact Dt.no|(split<;>first|exact Dt.ret _|exact Dt.no)
 |
  load agg w x=>
  simp only[ev]
  refine Dt.bind (V x) λp=> ?_
  split
  ·split
   ·split<;>first|exact Dt.and (Dt.ret _)|exact Dt.no
   ·exact Dt.no
  ·split<;>first|exact Dt.and (Dt.ret _)|exact Dt.no
  ·exact Dt.no
 |
  nilCheck x=>
  simp only[ev]
  refine Dt.bind (V x) λp=> ?_
  split
  ·split<;>first|exact Dt.and (Dt.ret _)|exact Dt.no
  all_goals first|exact Dt.ret _|exact Dt.no
 |bin op eqs x y=>simp only[ev];exact Dt.bind (V x) λp=>Dt.bind (V y) λq=>QV _ _ _ _ _
 |
  un op x=>
  simp only[ev]
  refine Dt.bind (V x) λp=> ?_
  split<;>first|exact Dt.ret _|exact Dt.no
 |convI k x=>simp only[ev];exact Dt.bind (V x) λp=>Dt.bind (I p) λn=>Dt.ret _
 |
  convS x=>
  simp only[ev]
  refine Dt.bind (V x) λp=>Dt.yl (oL s p) λsz l=>Dt.and ?_
  split<;>first|exact Dt.ret _|exact Dt.no
 |mkFunc f first cap=>simp only[ev];exact Dt.bind (qZ g s first) λp=>Dt.bind (qZ g s cap) λq=>Dt.and (Dt.ret _)
 |
  slice k x lo hi mx=>
  cases k with
  |
   str=>
   simp only[ev]
   refine Dt.bind (V x) λp=> ?_
   split
   ·exact Dt.and (Dt.yl (ra _ _ _ _ _ _) λl h=>Dt.ret _)
   ·exact Dt.no
  |
   sl sz=>
   simp only[ev]
   refine Dt.bind (V x) λp=> ?_
   split
   ·split
    ·exact Dt.yl (ra _ _ _ _ _ _) λl h=>Dt.and (Dt.ret _)
    ·exact Dt.bind (V _) λq=>Dt.bind (I q) λm=>Dt.and (Dt.yl (ra _ _ _ _ _ _) λl h=>Dt.and (Dt.ret _))
   ·split
    ·refine Dt.and ?_
     split
     ·exact Dt.yl (ra _ _ _ _ _ _) λl h=>Dt.ret _
     ·exact Dt.bind (V _) λq=>Dt.bind (I q) λm=>Dt.and (Dt.yl (ra _ _ _ _ _ _) λl h=>Dt.ret _)
    ·exact Dt.no
   ·exact Dt.no
  |
   ar n sz=>
   simp only[ev]
   refine Dt.bind (V x) λp=> ?_
   split
   ·split
    ·exact Dt.and (Dt.and (Dt.yl (ra _ _ _ _ _ _) λl h=>Dt.ret _))
    ·exact Dt.no
   ·split
    ·exact Dt.and (Dt.yl (ra _ _ _ _ _ _) λl h=>Dt.ret _)
    ·exact Dt.no
   ·exact Dt.no
 |
  fieldA i off x=>
  simp only[ev]
  refine Dt.bind (V x) λp=> ?_
  split
  ·split<;>first|exact Dt.and (Dt.ret _)|exact Dt.no
  all_goals first|exact Dt.ret _|exact Dt.no
 |
  s2a n sz x=>
  simp only[ev]
  refine Dt.bind (V x) λp=> ?_
  split
  ·exact Dt.and (Dt.ret _)
  ·split<;>first|exact Dt.and (Dt.ret _)|exact Dt.no
  all_goals first|exact Dt.ret _|exact Dt.no
 |
  field i off agg w x=>
  simp only[ev]
  refine Dt.bind (V x) λp=> ?_
  split
  ·split<;>first|exact Dt.and (Dt.ret _)|exact Dt.no
  ·exact Dt.no
 |
  indexA k x i=>
  cases k with
  |str=>simp only[ev];exact Dt.no
  |
   sl sz=>
   simp only[ev]
   refine Dt.bind (V x) λp=>Dt.bind (V i) λq=>Dt.bind (I q) λj=> ?_
   split
   ·exact Dt.and (Dt.ret _)
   ·split<;>first|exact Dt.and (Dt.ret _)|exact Dt.no
   ·exact Dt.no
  |
   ar n sz=>
   simp only[ev]
   refine Dt.bind (V x) λp=>Dt.bind (V i) λq=>Dt.bind (I q) λj=>Dt.and ?_
   split
   ·split<;>first|exact Dt.and (Dt.ret _)|exact Dt.no
   all_goals first|exact Dt.ret _|exact Dt.no
 |
  index agg n w x i=>
  simp only[ev]
  refine Dt.bind (V x) λp=>Dt.bind (V i) λq=>Dt.bind (I q) λj=> ?_
  split
  ·split<;>first|exact Dt.and (Dt.ret _)|exact Dt.no
  ·exact Dt.no
 |
  indexS x i=>
  simp only[ev]
  refine Dt.bind (V x) λp=>Dt.bind (V i) λq=>Dt.bind (I q) λj=> ?_
  split
  ·split<;>first|exact Dt.and (Dt.ret _)|exact Dt.no
  ·exact Dt.no
 |
  extract i x=>
  simp only[ev]
  split
  ·split<;>first|exact Dt.ret _|exact Dt.no
  ·exact Dt.no
 |
  len x=>
  simp only[ev]
  refine Dt.bind (V x) λp=> ?_
  split
  ·exact Dt.ret _
  ·split<;>first|exact Dt.and (Dt.ret _)|exact Dt.no
  ·exact Dt.no
 |
  cap x=>
  simp only[ev]
  refine Dt.bind (V x) λp=> ?_
  split
  ·split<;>first|exact Dt.and (Dt.ret _)|exact Dt.no
  ·exact Dt.no
 |
  lenS x=>
  simp only[ev]
  refine Dt.bind (V x) λp=> ?_
  split<;>first|exact Dt.ret _|exact Dt.no
 |lenC n=>simp only[ev];exact Dt.ret _
 |
  mm mx xs=>
  simp only[ev]
  refine Dt.bind (qZ g s xs) λps=> ?_
  split
  ·exact Dt.bind (Fk _ _ _) λn=>Dt.ret _
  ·exact Dt.no
 |_=>simp only[ev];exact Dt.no
end Go.Ab
namespace Go.Ab
variable [eE]
variable {P:Program} {nt:Nat} {ds:List Deferred} {s s':St} {Γ:Cx} {a:Act} {w:World} [iZ]
def AX.reads:AX->List Nat
 | .t n=>[n]
 | .c _=>[]
def axs:List AX->List Nat
 |[]=>[]
 |x::r=>x.reads++axs r
def axo:Option AX->List Nat
 |none=>[]
 |some x=>x.reads
def axp:List (Nat×AX)->List Nat
 |[]=>[]
 |(_,x)::r=>x.reads++axp r
def AK.reads:AK->List Nat
 | .mv x| .load _ _ x| .nilCheck x| .un _ x| .convI _ x| .convS x| .convB x| .convL x| .fieldA _ _ x| .s2a _ _ x| .field _ _ _ _ x| .extract _ x| .len x| .lenS x| .cap x| .box x=>x.reads
 | .pick c a b=>c.reads++a.reads++b.reads
 | .build _ parts| .buildSlice _ _ _ _ parts=>axp parts
 | .bin _ _ x y| .indexA _ x y| .index _ _ _ x y| .indexS x y| .store _ x y| .append _ _ _ x y| .appendZ _ _ _ x y| .copy _ x y| .makeSlice _ _ _ x y=>x.reads++y.reads
 | .mkFunc _ a b=>axs a++axs b
 | .slice _ x lo hi mx=>x.reads++(axo lo++(axo hi++axo mx))
 | .lenC _| .alloc _| .mkMap .. =>[]
 | .mapGet _ _ _ _ m x=>m.reads++x.reads
 | .mapSet _ _ m x y=>m.reads++(x.reads++y.reads)
 | .mm _ xs=>axs xs
 | .call f args| .callq f args=>f.reads++axs args
 | .isNil _ x| .fill _ _ x=>x.reads
def eo (s s':St) (l:List Nat):Prop:=∀n∈l,get s'.env n=get s.env n
theorem eo.left {l m:List Nat} (h:eo s s' (l++m)):eo s s' l:=λn hn=>h n (List.mem_append.2 (.inl hn))
theorem eo.right {l m:List Nat} (h:eo s s' (l++m)):eo s s' m:=λn hn=>h n (List.mem_append.2 (.inr hn))
theorem lE {x:AX} (h:eo s s' x.reads):vx s' x=vx s x:=by
 cases x with
 |t n=>simp only[vx];rw[h n (by simp[AX.reads])]
 |c p=>rfl
theorem aH {g:Bool} {x:AX} (h:eo s s' x.reads):vg g s' x=vg g s x:=by
 funext K;unfold vg;rw[lE h]
theorem ir {g:Bool}:∀ {xs:List AX},eo s s' (axs xs)->tR g s' xs=tR g s xs
 |[],_=>rfl
 |
  x::xs,h=>by
  funext K;simp only[tR];rw[aH (x:=x) h.left,ir (xs:=xs) h.right]
theorem mT {g:Bool}:∀ {xs:List (Nat×AX)},eo s s' (axp xs)->za g s' xs=za g s xs
 |[],_=>rfl
 |
  (i,x)::xs,h=>by
  funext K;simp only[za];rw[aH (x:=x) h.left,mT (xs:=xs) h.right]
theorem tC (hb:s'.bx=s.bx) (p:PV):content s' p=content s p:=by
 funext K;cases p<;>simp only[content,hb]
theorem Hj (hb:s'.bx=s.bx) (op:BinOp) (e:ET) (p q:PV):qh s' op e p q=qh s op e p q:=by
 funext K;unfold qh;rw[hb]
theorem Av {g:Bool} {lo hi:Option AX} (h1:eo s s' (axo lo)) (h2:eo s s' (axo hi)) (n c:Nat):jM g s' lo hi n c=jM g s lo hi n c:=by
 funext K
 cases lo<;>cases hi<;>simp only[jM]
 ·rw[aH h2]
 ·rw[aH h1]
 ·rw[aH h2];simp only[aH h1]
theorem Aw {g:Bool} {k:AK} (hb:s'.bx=s.bx) (h:eo s s' k.reads):ev g s' k=ev g s k:=by
 funext K
 cases k with
 |mv x=>simp only[ev];rw[aH h]
 |pick c a b=>simp only[ev];rw[aH h.left.left,lE h.left.right,lE h.right]
 |build z parts=>simp only[ev];rw[mT h]
 |load agg w x=>simp only[ev];rw[aH h,hb]
 |nilCheck x=>simp only[ev];rw[aH h,hb]
 |bin op e x y=>simp only[ev];rw[aH h.left,aH h.right];simp only[Hj hb]
 |un op x=>simp only[ev];rw[aH h]
 |convI k x=>simp only[ev];rw[aH h]
 |convS x=>simp only[ev];rw[aH h];simp only[tC hb]
 |mkFunc f a b=>simp only[ev];rw[ir h.left,ir h.right]
 |
  slice k x lo hi mx=>
  have hx:=aH (g:=g) h.left
  have hl:=λn c=>Av (g:=g) h.right.left h.right.right.left n c
  have hm:=h.right.right.right
  cases k<;>cases mx<;>simp only[ev,hx,hl,hb]
  rw[aH (x:=_) hm]
 |fieldA i off x=>simp only[ev];rw[aH h,hb]
 |s2a n sz x=>simp only[ev];rw[aH h,hb]
 |field i off agg w x=>simp only[ev];rw[aH h]
 |
  indexA k x i=>
  have hx:=aH (g:=g) h.left
  have hi:=aH (g:=g) h.right
  cases k<;>simp only[ev,hx,hi,hb]
 |index agg n w x i=>simp only[ev];rw[aH h.left,aH h.right]
 |indexS x i=>simp only[ev];rw[aH h.left,aH h.right]
 |extract i x=>simp only[ev];rw[lE h]
 |len x=>simp only[ev];rw[aH h,hb]
 |lenS x=>simp only[ev];rw[aH h]
 |cap x=>simp only[ev];rw[aH h,hb]
 |lenC n=>rfl
 |mm mx xs=>simp only[ev];rw[ir h]
 |_=>rfl
def AO.quiet (o:AO):Bool:=
 match o.k with
 | .call .. =>false
 | .callq .. =>true
 | .buildSlice own .. => !own
 |k=> !oc k
def AO.reads (o:AO):List Nat:=(match o.guard with|some (n,_)=>[n]|none=>[])++o.k.reads
theorem MG {d:Option Nat} {f:AX} {args:List AX} {K:St->Prop} (h:nu P s d f args K):
  ∃v,K (s.put d v)∧∀s',s'.bx=s.bx->eo s s' (AK.callq f args).reads->∀K':St->Prop,K' (s'.put d v)->nu P s' d f args K':=by
 unfold nu at h
 obtain⟨pf,h,h1⟩:=qp _ _ _ _ h
 obtain⟨ps,h,h2⟩:=qZ _ _ _ _ h
 split at h
 case h_2=>exact h.elim
 rename_i fid first cap
 obtain⟨v,Cp,BH,hK⟩:=h
 refine⟨v,hK,λs' hb ha K' lh=> ?_⟩
 unfold nu
 rw[aH ha.left]
 refine h1 _ ?_
 rw[ir ha.right]
 exact h2 _ ⟨v,Cp,BH,lh⟩
theorem MH {d:Option Nat} {sz n:Nat} {z:PV} {parts:List (Nat×AX)} {K:St->Prop} (h:ex s d (.buildSlice false sz z n parts) K):
  ∃v,K (s.put d v)∧∀s',s'.bx=s.bx->eo s s' (AK.buildSlice false sz z n parts).reads->∀K':St->Prop,K' (s'.put d v)->ex s' d (.buildSlice false sz z n parts) K':=by
 simp only[ex]at h
 obtain⟨ps,h,h1⟩:=xa _ _ _ _ h
 split at h
 case h_2=>exact h.elim
 rename_i l hl
 simp only[fJ,if_false]at h
 refine⟨_,h,λs' hb ha K' lh=> ?_⟩
 simp only[ex]
 rw[mT ha]
 refine h1 _ ?_
 simp only[hl,fJ,if_false]
 exact lh
theorem Hk {o:AO} {K:St->Prop} (hq:o.quiet=true) (h:lq P s o K):
  ∃v,K (s.put o.dst v)∧∀s',s'.bx=s.bx->eo s s' o.k.reads->∀K':St->Prop,K' (s'.put o.dst v)->lq P s' o K':=by
 obtain⟨dst,guard,mg,k⟩:=o
 cases k with
 |call f args=>simp[AO.quiet]at hq
 |callq f args=>exact MG h
 |
  buildSlice own sz z n parts=>
  simp only[AO.quiet,Bool.not_eq_true']at hq
  subst hq
  simp only[lq,oc,if_true]at h⊢
  exact MH h
 |
  _=>
  first
  |(simp[AO.quiet,oc]at hq;done)
  |(simp only[lq,oc,fJ,if_false]at h⊢
    obtain⟨v,hK,hv⟩:=rK _ _ _ _ h
    refine⟨v,hK,λs' hb ha K' lh=> ?_⟩
    rw[Aw hb ha]
    exact hv _ lh)
theorem Hl {o:AO} {K:St->Prop} (hq:o.quiet=true) (h:iN P s o K):
  ∃v,K (s.put o.dst v)∧∀s',s'.bx=s.bx->eo s s' o.reads->∀K':St->Prop,K' (s'.put o.dst v)->iN P s' o K':=by
 unfold iN at h
 cases hg:o.guard with
 |
  none=>
  rw[hg]at h
  obtain⟨v,hK,hv⟩:=Hk hq h
  refine⟨v,hK,λs' hb ha K' lh=> ?_⟩
  unfold iN;rw[hg]
  exact hv s' hb ha.right K' lh
 |
  some gw=>
  obtain⟨sl,want⟩:=gw
  rw[hg]at h
  simp only at h
  have fb:∀ {s':St},eo s s' o.reads->get s'.env sl=get s.env sl:=λha=>ha sl (by simp[AO.reads,hg])
  split at h
  ·rename_i b hb
   split at h
   ·rename_i hm
    obtain⟨v,hK,hv⟩:=rK _ _ _ _ h
    refine⟨_,hK,λs' mH ha K' lh=> ?_⟩
    unfold iN;rw[hg];simp only[fb ha,hb,hm,if_true]
    rw[Aw mH ha.right]
    exact hv _ lh
   ·rename_i hm
    by_cases ov:b=want
    ·obtain⟨v,hK,hv⟩:=Hk hq (h.1 ov)
     refine⟨v,hK,λs' mH ha K' lh=> ?_⟩
     unfold iN;rw[hg];simp only[fb ha,hb,hm]
     exact⟨λ_=>hv s' mH ha.right K' lh,λhn=>absurd ov hn⟩
    ·refine⟨.un,h.2 ov,λs' mH ha K' lh=> ?_⟩
     unfold iN;rw[hg];simp only[fb ha,hb,hm]
     exact⟨λhn=>absurd hn ov,λ_=>lh⟩
  ·rename_i g b hb
   split at h
   ·rename_i hm
    obtain⟨v,hK,hv⟩:=rK _ _ _ _ h
    refine⟨_,hK,λs' mH ha K' lh=> ?_⟩
    unfold iN;rw[hg];simp only[fb ha,hb,hm,if_true]
    rw[Aw mH ha.right]
    exact hv _ lh
   ·rename_i hm
    by_cases ov:g=true∧b=want
    ·obtain⟨v,hK,hv⟩:=Hk hq (h.1 ov.1 ov.2)
     refine⟨v,hK,λs' mH ha K' lh=> ?_⟩
     unfold iN;rw[hg];simp only[fb ha,hb,hm]
     exact⟨λ_ _=>hv s' mH ha.right K' lh,λhn=>absurd ov.2 (hn ov.1)⟩
    ·refine⟨.un,h.2 (λh1 h2=>ov ⟨h1,h2⟩),λs' mH ha K' lh=> ?_⟩
     unfold iN;rw[hg];simp only[fb ha,hb,hm]
     exact⟨λh1 h2=>absurd ⟨h1,h2⟩ ov,λ_=>lh⟩
  ·exact h.elim
theorem put_comm {α:Type} {n m:Nat} (h:n≠m) (x y:α):∀l:List (Nat×α),put (put l n x) m y=put (put l m y) n x
 |
  []=>by
  simp only[put]
  by_cases h1:n<m
  ·simp[h,Ne.symm h,show¬m<n by omega,h1]
  ·simp[h,Ne.symm h,show m<n by omega,h1]
 |
  (k,v)::r=>by
  have ih:=put_comm h x y r
  grind [put]
theorem St.put_comm {d e:Option Nat} (h:∀k,d=some k->e≠some k) (v u:PV):(s.put d v).put e u=(s.put e u).put d v:=by
 cases d with
 |none=>rfl
 |
  some d=>
  cases e with
  |none=>rfl
  |
   some e=>
   have:d≠e:=λhh=>h d rfl (by rw[hh])
   simp only[St.put,Ab.put_comm this]
def AO.apart (x y:AO):Bool:=
 (match x.dst with|some d=> !y.reads.contains d&&y.dst !=some d|none=>true)&&
 (match y.dst with|some d=> !x.reads.contains d|none=>true)
theorem eo.put {d:Option Nat} {v:PV} {l:List Nat} (h:∀k,d=some k->k∉l):eo s (s.put d v) l:=by
 intro n hn
 cases d with
 |none=>rfl
 |
  some d=>
  have:d≠n:=λe=>h d rfl (e▸hn)
  simp[St.put,cQ _ _ _ _ this]
theorem eo.aea {d:Option Nat} {v:PV} {l:List Nat} (h:∀k,d=some k->k∉l):eo (s.put d v) s l:=λn hn=>((eo.put h) n hn).symm
theorem lx (d:Option Nat) (v:PV):(s.put d v).bx=s.bx:=by cases d<;>rfl
theorem MI {x y:AO} {K:St->Prop} (hx:x.quiet=true) (hy:y.quiet=true) (jc:x.apart y=true) (h:iN P s x λs1=>iN P s1 y K):iN P s y λs2=>iN P s2 x K:=by
 have h1:∀d,x.dst=some d->d∉y.reads:=λd hd=>by simp[AO.apart,hd]at jc;exact jc.1.1
 have h2:∀d,x.dst=some d->y.dst≠some d:=λd hd=>by simp[AO.apart,hd]at jc;exact jc.1.2
 have h3:∀d,y.dst=some d->d∉x.reads:=λd hd=>by simp[AO.apart,hd]at jc;exact jc.2
 obtain⟨v,h,hv⟩:=Hl hx h
 obtain⟨u,h,hu⟩:=Hl hy h
 refine hu s (lx _ _).symm (eo.aea h1) _ ?_
 refine hv _ (lx _ _) (eo.put h3) _ ?_
 rw[St.put_comm (λk hk he=>h2 k he hk)]
 exact h
end Go.Ab
namespace Go.Ab
variable [eE]
variable {P:Program} {nt:Nat} {ds:List Deferred} {s s':St} {Γ:Cx} {a:Act} {w:World} [iZ]
theorem rb {ro:Option Nat} {ops:Array Oper} {o:Oper} {i:Nat} {Q:Exit->Act->World->Prop} {K:Act->World->Prop} (hi:ops[i]? =some o) (h1:Region.wanted o (yielded ops a.tmps)=true->o.wpIn (FW ro) 0 P a w K Q) (h2:Region.wanted o (yielded ops a.tmps)=false->K (a.put o.dst undef) w):wpOpIn (FW ro) 0 P ops Q i K a w:=by
 unfold wpOpIn
 rw[hi]
 simp only
 cases h:Region.wanted o (yielded ops a.tmps)with
 |true=>simp only[if_true];exact h1 h
 |false=>simp only[fJ,if_false];exact⟨λ_ _=>trivial,h2 h⟩
theorem vp {b:Builtin} {xs:List Operand} {ts:List TypeId} {f:AX} {l:List AX} (h:dB P b xs ts=some (.call f l)):False:=by
 unfold dB at h
 split at h
 all_goals (repeat' (split at h))
 all_goals first|(simp at h;done)|contradiction
theorem tW {b:Builtin} {xs:List Operand} {ts:List TypeId} {f:AX} {l:List AX} (h:dB P b xs ts=some (.callq f l)):False:=by
 unfold dB at h
 split at h
 all_goals (repeat' (split at h))
 all_goals first|(simp at h;done)|contradiction
theorem DK {own:Bool} {op:Op} {f:AX} {l:List AX} (h:lv P own op=some (.callq f l)):False:=by
 unfold lv at h
 split at h
 all_goals first|(exact tW h)|skip
 all_goals (repeat' (split at h))
 all_goals first|(simp at h;done)|contradiction
theorem aP.slz {z z':Nat} {v:Value} (h:aP Γ (.sl z [] true) v):aP Γ (.sl z' [] true) v:=by
 simp only[aP]at h⊢
 cases h with
 |
  sl _ _ _ ad bF h1 h2 h3 h4 h5 h6=>
  have:=aF.sl (Γ:=Γ) z' [] true ad bF .nil (by simp) h3 h4 (λh=>absurd rfl h) .nil
  exact this
theorem MJ {o:Oper} {k:AK} {own draw:Bool} {ty:TypeId} {K:PV->Prop} (hk:lv P own o.op=some k) (hs:iB nt ds s Γ a) (hw:w.heap=Γ.heap) (he:ev true s (vn P draw ty k) K):
  ∃p v,K p∧(execOp a.eval o).run P w= .ok (.value v) w∧aP Γ p v:=by
 unfold vn at he
 split at he
 ·split at he<;>simp[ev]at he
 ·split at he
  ·rename_i e _
   obtain⟨p,v,rfl,jl,hr⟩:=Af (K:=λp=>p= .sl 0 [] true) hk hs hw rfl (by simp[ev,vg,vx])
   simp only[ev,vg,vx]at he
   exact⟨_,v,he,jl,hr.slz⟩
  ·exact Af hk hs hw rfl he
 ·exact Af hk hs hw rfl he
theorem MK {draw:Bool} {ty:TypeId} {k:AK}:oc (vn P draw ty k)=oc k:=by
 unfold vn
 split
 ·split<;>rfl
 ·split<;>rfl
 ·rfl
theorem WT {draw:Bool} {ty:TypeId} {k:AK} (h:oc k=true):vn P draw ty k=k:=by
 unfold vn
 split
 ·simp[oc]at h
 ·simp[oc]at h
 ·rfl
theorem xb {ro:Option Nat} {o:Oper} {ao:AO} {ops:Array Oper} {own sp:List Nat} {draw:Bool} {K:St->Prop} {Kr:Act->World->Prop} {Q:Exit->Act->World->Prop} (ht:nM P nt ops own sp draw o=some ao) (hs:iB nt ds s Γ a) (hw:w.heap=Γ.heap)
  (hY:As P Γ) (h:lq P s ao K) (hk:Fh P nt ds Γ w K Kr):o.wpIn (FW ro) 0 P a w Kr Q:=by
 unfold nM at ht
 generalize (draw&& !QS own o.dst)=dr at ht
 split at ht
 case h_2=>simp at ht
 rename_i k g qS hg
 split at ht
 case isFalse=>simp at ht
 rename_i hd
 simp only[sJ]at ht
 by_cases hc:∃f args,k= .call f args
 ·obtain⟨f,args,rfl⟩:=hc
  have h':lp P s o.dst f args K:=by
   rw[←ht]at h
   cases dr with
   |true=>simp only[vn,if_true,lq]at h;exact Au h
   |false=>simp only[vn,fJ,if_false,lq]at h;exact h
  have GV:∀j,o.dst=some j->j<nt:=by
   intro j hj;rw[hj]at hd;simpa[vl]using hd
  --the operation is a call
  obtain⟨f0,yH,amM,ho,hf0,ha0⟩:∃f0 yH amM,o.op= .call {callee:= .value f0,args:=yH,argTypes:=amM}∧gN f0=some f∧qU yH.toList=some args:=by
   cases nW:o.op with
   |
    call c=>
    obtain⟨callee,yH,tys⟩:=c
    rw[nW]at qS
    cases callee with
    |
     value f0=>
     simp only[lv]at qS
     split at qS<;>simp only[sJ,reduceCtorEq,AK.call.injEq]at qS
     rename_i g0 l0 e1 e2
     exact⟨f0,yH,tys,rfl,by rw[e1,qS.1],by rw[e2,qS.2]⟩
    |invoke r m=>simp[lv]at qS
    |
     builtin b=>
     exfalso
     simp only[lv]at qS
     exact vp qS
   |
    binOp op t x y yt=>
    exfalso
    rw[nW]at qS;simp only[lv]at qS
    repeat (split at qS<;>(try contradiction))
    all_goals first|(simp at qS;done)|(split at qS<;>first|(simp at qS;done)|(split at qS<;>first|(simp at qS;done)|(split at qS<;>first|(simp at qS;done)|(split at qS<;>simp at qS))))
   |
    _=>
    exfalso
    rw[nW]at qS
    first
    |(simp only[lv,reduceCtorEq]at qS;done)
    |(simp only[lv]at qS
      repeat (split at qS<;>(try contradiction))
      all_goals first|(simp at qS;done)|(split at qS<;>first|(simp at qS;done)|(split at qS<;>first|(simp at qS;done)|(split at qS<;>simp at qS))))
  exact Fj ho hf0 ha0 hs hw GV hY h' hk
 ·by_cases hx:oc k=true
  ·have e:lq P s ao K=ex s o.dst k K:=by
    rw[←ht]
    unfold lq
    rw[WT hx]
    split
    ·rename_i heq;exact absurd ⟨_,_,heq⟩ hc
    ·rename_i heq;simp only at heq;rw[heq]at hx;simp[oc]at hx
    ·rw[if_pos hx]
   rw[e]at h
   exact Oper.yk qS (ME qS hs hw hd h) hk
  ·have e:lq P s ao K->ev true s (vn P dr o.type k) λp=>K (s.put o.dst p):=by
    rw[←ht]
    unfold lq
    intro h
    simp only at h
    split at h
    ·rename_i heq
     exfalso
     unfold vn at heq
     split at heq
     ·exact absurd ⟨_,_,rfl⟩ hc
     ·split at heq<;>simp at heq
     ·exact absurd ⟨_,_,heq⟩ hc
    ·rename_i heq
     exfalso
     unfold vn at heq
     split at heq
     ·exact absurd ⟨_,_,rfl⟩ hc
     ·split at heq<;>simp at heq
     ·rw[heq]at qS
      exact DK qS
    ·rw[if_neg (by rw[MK];exact hx)]at h
     exact h
   have he:=e h
   obtain⟨p,v,hK,jl,hr⟩:=MJ qS hs hw he
   refine Oper.yk qS (qX hs (λj hj=> ?_) (Le.refl Γ) hs.mem rfl jl hw (WF.refl w) hr hK) hk
   rw[hj]at hd
   unfold vl at hd
   split at hd
   ·rename_i heq;simp[oc]at hx
   ·rename_i heq _;simp at heq;subst heq;simpa using hd
   ·rename_i heq;simp at heq
theorem B7:aP Γ .un undef:=by simp[aP]
theorem DL {ops:Array Oper} {j sl:Nat} {want WC:Bool} (h:sK ops (some (j,want))=some (some (sl,WC))):(ops[j]?).bind (·.dst)=some sl∧WC=want:=by
 unfold sK at h
 simp only at h
 split at h<;>simp at h
 rename_i d hd
 obtain⟨rfl,rfl⟩:=h
 exact⟨hd,rfl⟩
theorem qt {ro:Option Nat} {ops:Array Oper} {i:Nat} {o:Oper} {ao:AO} {own sp:List Nat} {draw:Bool} {K:St->Prop} {Kr:Act->World->Prop} {Q:Exit->Act->World->Prop} (hi:ops[i]? =some o) (ht:nM P nt ops own sp draw o=some ao) (hs:iB nt ds s Γ a) (hw:w.heap=Γ.heap)
  (hY:As P Γ) (h:iN P s ao K) (hk:Fh P nt ds Γ w K Kr):wpOpIn (FW ro) 0 P ops Q i Kr a w:=by
 have ht0:=ht
 unfold nM at ht
 generalize (draw&& !QS own o.dst)=dr at ht
 split at ht
 case h_2=>simp at ht
 rename_i k g qS hg
 split at ht
 case isFalse=>simp at ht
 rename_i hd
 simp only[sJ]at ht
 have hkd:ao.k=vn P dr o.type k:=by rw[←ht]
 have Mf:ao.dst=o.dst:=by rw[←ht]
 have hgd:ao.guard=g:=by rw[←ht]
 have hmg:ao.mg=true->qo k=true:=by
  rw[←ht];intro hm
  simp only[aJ]at hm
  exact hm.1
 have xZ:∀ {p:PV} {v:Value},(∀x y z,k≠ .store x y z)->aP Γ p v->K (s.put o.dst p)->Kr (a.put o.dst v) w:=by
  intro p v fB hr hK
  refine hk _ _ _ _ (hs.put (λj hj=> ?_) hr) hw (Le.refl Γ) (WF.refl w) hK
  rw[hj]at hd
  unfold vl at hd
  split at hd
  ·exact absurd rfl (fB _ _ _)
  ·rename_i heq _;simp at heq;subst heq;simpa using hd
  ·rename_i heq;simp at heq
 have Pw:K (s.put o.dst .un)->Kr (a.put o.dst undef) w:=by
  intro hK
  refine hk _ _ _ _ (hs.put (λj hj=> ?_) B7) hw (Le.refl Γ) (WF.refl w) hK
  rw[hj]at hd
  unfold vl at hd
  split at hd
  ·simp at hd
  ·rename_i heq _;simp at heq;subst heq;simpa using hd
  ·rename_i heq;simp at heq
 unfold iN at h
 cases hog:o.guard with
 |
  none=>
  rw[hog]at hg;simp only[sK,sJ]at hg
  rw[hgd,←hg]at h
  refine rb hi (λ_=>xb ht0 hs hw hY h hk) (λhn=> ?_)
  simp[Region.wanted,hog]at hn
 |
  some jw=>
  obtain⟨j,azG⟩:=jw
  rw[hog]at hg
  obtain⟨sl,want,rfl⟩:∃sl want,g=some (sl,want):=by
   unfold sK at hg;simp only at hg;split at hg<;>simp at hg
   exact⟨_,_,hg.symm⟩
  obtain⟨aao,rfl⟩:=DL hg
  have JY:Region.wanted o (yielded ops a.tmps)=(yielded ops a.tmps j==some want):=by unfold Region.wanted;rw[hog]
  have hy:∀v,a.tmps.getD sl undef=v->yielded ops a.tmps j=(match v with| .bool b=>some b|_=>none):=by
   intro v hv
   unfold yielded
   rw[aao]
   simp only[Option.bind_some]
   rw[Array.getD_eq_getD_getElem?]at hv
   cases ho:a.tmps[sl]?with
   |none=>rw[ho]at hv;subst hv;rfl
   |some u=>rw[ho]at hv;subst hv;cases u<;>rfl
  rw[hgd]at h
  simp only at h
  have WB:∀ {gg:Bool},ao.mg=true->ev gg s ao.k (λp=>K (s.put ao.dst (.gd gg p)))->(Region.wanted o (yielded ops a.tmps)=gg)->wpOpIn (FW ro) 0 P ops Q i Kr a w:=by
   intro gg hm he hwg
   have Mc:qo k=true:=hmg hm
   have fB:∀x y z,k≠ .store x y z:=by rintro x y z rfl;simp[qo]at Mc
   rw[hkd,Mf]at he
   refine rb hi (λh1=> ?_) (λh1=> ?_)
   ·rw[hwg]at h1;subst h1
    obtain⟨p,v,hK,jl,hr⟩:=MJ qS hs hw he
    refine⟨λ_ _=>trivial,?_⟩
    rw[Oper.semAt_eq _ _ _ (yj qS),jl]
    exact xZ fB (p:= .gd true p) (by rw[aP];exact⟨λ_=>hr,by simp⟩) hK
   ·rw[hwg]at h1;subst h1
    obtain⟨p,hK,_⟩:=rK _ _ _ _ he
    exact xZ fB (p:= .gd false p) (by rw[aP];exact⟨by simp,λ_=>rfl⟩) hK
  split at h
  ·rename_i b hb
   have hbv:a.tmps.getD sl undef= .bool b:=by
    cases hgs:get s.env sl with
    |none=>rw[hgs]at hb;simp at hb
    |
     some q=>
     rw[hgs]at hb;simp only[Option.getD_some]at hb;subst hb
     have:=hs.env sl _ hgs
     simp only[aP]at this
     generalize a.tmps.getD sl undef=v at this
     cases this;rfl
   have hyb:yielded ops a.tmps j=some b:=by rw[hy _ hbv]
   split at h
   ·rename_i hm
    exact WB hm h (by rw[JY,hyb];rfl)
   ·refine rb hi (λh1=> ?_) (λh1=> ?_)
    ·rw[JY,hyb]at h1
     exact xb ht0 hs hw hY (h.1 (by simpa using h1)) hk
    ·rw[JY,hyb]at h1
     exact Pw (by rw[←Mf];exact h.2 (by simpa using h1))
  ·rename_i gg b hb
   have hbv:(gg=true->a.tmps.getD sl undef= .bool b)∧(gg=false->a.tmps.getD sl undef=undef):=by
    cases hgs:get s.env sl with
    |none=>rw[hgs]at hb;simp at hb
    |
     some q=>
     rw[hgs]at hb;simp only[Option.getD_some]at hb;subst hb
     have:=hs.env sl _ hgs
     rw[aP]at this
     refine⟨λhg=> ?_,this.2⟩
     have:=this.1 hg
     simp only[aP]at this
     generalize a.tmps.getD sl undef=v at this
     cases this;rfl
   have hwg:Region.wanted o (yielded ops a.tmps)=(gg&&b==want):=by
    rw[JY]
    cases gg with
    |true=>rw[hy _ (hbv.1 rfl)];rfl
    |false=>rw[hy _ (hbv.2 rfl)];simp[undef]
   split at h
   ·rename_i hm
    exact WB hm h hwg
   ·refine rb hi (λh1=> ?_) (λh1=> ?_)
    ·rw[hwg]at h1
     simp only[aJ,beq_iff_eq]at h1
     exact xb ht0 hs hw hY (h.1 h1.1 h1.2) hk
    ·rw[hwg]at h1
     have h2:=h.2 (λhg ov=>by rw[hg,ov]at h1;simp at h1)
     exact Pw (by rw[←Mf];exact h2)
  ·exact h.elim
end Go.Ab
namespace Go.Ab
variable [eE]
variable {P:Program} {nt:Nat} {ds:List Deferred} {s s':St} [iZ]
def AK.free:AK->Bool
 | .mv _| .pick .. | .build .. | .un .. | .convI .. | .mkFunc .. | .field .. | .index .. | .indexS .. | .extract .. | .lenS _| .lenC _| .mm .. =>true
 |_=>false
def AO.free (o:AO):Bool:=o.k.free
def AO.pE (o:AO):Bool:=o.dst.isNone&&(match o.k with| .store .. =>true|_=>false)
theorem DM {g:Bool} {k:AK} {K:PV->Prop} (hf:k.free=true) (h:eo s s' k.reads) (he:ev g s k K):ev g s' k K:=by
 cases k with
 |mv x=>simp only[ev]at he⊢;rw[aH h];exact he
 |pick c a b=>simp only[ev]at he⊢;rw[aH h.left.left,lE h.left.right,lE h.right];exact he
 |build z parts=>simp only[ev]at he⊢;rw[mT h];exact he
 |un op x=>simp only[ev]at he⊢;rw[aH h];exact he
 |convI k x=>simp only[ev]at he⊢;rw[aH h];exact he
 |mkFunc f a b=>simp only[ev]at he⊢;rw[ir h.left];simp only[ir h.right];exact he
 |field i off agg w x=>simp only[ev]at he⊢;rw[aH h];exact he
 |index agg n w x i=>simp only[ev]at he⊢;rw[aH h.left,aH h.right];exact he
 |indexS x i=>simp only[ev]at he⊢;rw[aH h.left,aH h.right];exact he
 |extract i x=>simp only[ev]at he⊢;rw[lE h];exact he
 |lenS x=>simp only[ev]at he⊢;rw[aH h];exact he
 |lenC n=>simp only[ev]at he⊢;exact he
 |mm mx xs=>simp only[ev]at he⊢;rw[ir h];exact he
 |_=>simp[AK.free]at hf
theorem Hm {o:AO} (h:o.free=true):o.quiet=true:=by
 obtain⟨d,g,m,k⟩:=o
 cases k<;>simp[AO.free,AK.free]at h<;>rfl
theorem Ax {o:AO} {K:St->Prop} (hf:o.free=true) (h:lq P s o K):
  ∃v,K (s.put o.dst v)∧∀s',eo s s' o.k.reads->∀K':St->Prop,K' (s'.put o.dst v)->lq P s' o K':=by
 obtain⟨dst,guard,mg,k⟩:=o
 have e:∀(s:St) K,lq P s ⟨dst,guard,mg,k⟩ K=ev true s k λp=>K (s.put dst p):=by
  intro s K
  cases k<;>first|rfl|(simp[AO.free,AK.free]at hf;done)
 rw[e]at h
 obtain⟨v,hK,hv⟩:=rK _ _ _ _ h
 refine⟨v,hK,λs' ha K' lh=> ?_⟩
 rw[e]
 exact DM hf ha (hv _ lh)
def Qf (P:Program) (r:St) (o:AO) (v:PV):Prop:=∀s':St,eo r s' o.reads->∀K':St->Prop,K' (s'.put o.dst v)->iN P s' o K'
theorem Fl {o:AO} {K:St->Prop} (hq:o.free=true) (h:iN P s o K):∃v,K (s.put o.dst v)∧Qf P s o v:=by
 unfold iN at h
 cases hg:o.guard with
 |
  none=>
  rw[hg]at h
  obtain⟨v,hK,hv⟩:=Ax hq h
  refine⟨v,hK,λs' ha K' lh=> ?_⟩
  unfold iN;rw[hg]
  exact hv s' ha.right K' lh
 |
  some gw=>
  obtain⟨sl,want⟩:=gw
  rw[hg]at h
  simp only at h
  have fb:∀ {s':St},eo s s' o.reads->get s'.env sl=get s.env sl:=λha=>ha sl (by simp[AO.reads,hg])
  split at h
  ·rename_i b hb
   split at h
   ·rename_i hm
    obtain⟨v,hK,hv⟩:=rK _ _ _ _ h
    refine⟨_,hK,λs' ha K' lh=> ?_⟩
    unfold iN;rw[hg];simp only[fb ha,hb,hm,if_true]
    exact DM hq ha.right (hv _ lh)
   ·rename_i hm
    by_cases ov:b=want
    ·obtain⟨v,hK,hv⟩:=Ax hq (h.1 ov)
     refine⟨v,hK,λs' ha K' lh=> ?_⟩
     unfold iN;rw[hg];simp only[fb ha,hb,hm]
     exact⟨λ_=>hv s' ha.right K' lh,λhn=>absurd ov hn⟩
    ·refine⟨.un,h.2 ov,λs' ha K' lh=> ?_⟩
     unfold iN;rw[hg];simp only[fb ha,hb,hm]
     exact⟨λhn=>absurd hn ov,λ_=>lh⟩
  ·rename_i g b hb
   split at h
   ·rename_i hm
    obtain⟨v,hK,hv⟩:=rK _ _ _ _ h
    refine⟨_,hK,λs' ha K' lh=> ?_⟩
    unfold iN;rw[hg];simp only[fb ha,hb,hm,if_true]
    exact DM hq ha.right (hv _ lh)
   ·rename_i hm
    by_cases ov:g=true∧b=want
    ·obtain⟨v,hK,hv⟩:=Ax hq (h.1 ov.1 ov.2)
     refine⟨v,hK,λs' ha K' lh=> ?_⟩
     unfold iN;rw[hg];simp only[fb ha,hb,hm]
     exact⟨λ_ _=>hv s' ha.right K' lh,λhn=>absurd ov.2 (hn ov.1)⟩
    ·refine⟨.un,h.2 (λh1 h2=>ov ⟨h1,h2⟩),λs' ha K' lh=> ?_⟩
     unfold iN;rw[hg];simp only[fb ha,hb,hm]
     exact⟨λh1 h2=>absurd ⟨h1,h2⟩ ov,λ_=>lh⟩
  ·exact h.elim
theorem DN {o:AO} {K:St->Prop} (hq:o.pE=true) (h:lq P s o K):
  ∃b,K {s with bx:=b}∧∀s',s'.bx=s.bx->eo s s' o.k.reads->∀K':St->Prop,K' {s' with bx:=b}->lq P s' o K':=by
 obtain⟨dst,guard,mg,k⟩:=o
 simp only[AO.pE,aJ]at hq
 cases k<;>simp at hq
 rename_i n x y
 simp only[lq,oc,if_true,ex]at h⊢
 obtain⟨p,h,h1⟩:=qp _ _ _ _ h
 obtain⟨v,h,h2⟩:=qp _ _ _ _ h
 cases p<;>simp only at h
 case pt k pth aE=>
  split at h
  case h_2=>exact h.elim
  rename_i blk hb
  split at h
  case h_2=>exact h.elim
  rename_i cI rX
  obtain⟨hc,hK⟩:=h
  refine⟨_,hK,λs' mH ha K' lh=> ?_⟩
  rw[aH ha.left]
  refine h1 _ ?_
  rw[aH ha.right]
  refine h2 _ ?_
  simp only[mH,hb,rX]
  exact⟨hc,lh⟩
theorem xc {o:AO} {K:St->Prop} (hq:o.pE=true) (h:iN P s o K):
  ∃b,K {s with bx:=b}∧∀s',s'.bx=s.bx->eo s s' o.reads->∀K':St->Prop,K' {s' with bx:=b}->iN P s' o K':=by
 have hd:o.dst=none:=by simp[AO.pE]at hq;exact hq.1
 have xZ:∀(s:St) p,s.put o.dst p=s:=by intro s p;rw[hd];rfl
 have Px:∀(g:Bool) (s:St) K,ev g s o.k K->False:=by
  intro g s K h
  obtain⟨dst,guard,mg,k⟩:=o
  cases k<;>simp[AO.pE]at hq
  simp[ev]at h
 unfold iN at h
 cases hg:o.guard with
 |
  none=>
  rw[hg]at h
  obtain⟨b,hK,hv⟩:=DN hq h
  refine⟨b,hK,λs' hb ha K' lh=> ?_⟩
  unfold iN;rw[hg]
  exact hv s' hb ha.right K' lh
 |
  some gw=>
  obtain⟨sl,want⟩:=gw
  rw[hg]at h
  simp only at h
  have fb:∀ {s':St},eo s s' o.reads->get s'.env sl=get s.env sl:=λha=>ha sl (by simp[AO.reads,hg])
  split at h
  ·rename_i b hb
   split at h
   ·exact(Px _ _ _ h).elim
   ·rename_i hm
    by_cases ov:b=want
    ·obtain⟨v,hK,hv⟩:=DN hq (h.1 ov)
     refine⟨v,hK,λs' mH ha K' lh=> ?_⟩
     unfold iN;rw[hg];simp only[fb ha,hb,hm]
     exact⟨λ_=>hv s' mH ha.right K' lh,λhn=>absurd ov hn⟩
    ·refine⟨s.bx,by have:=h.2 ov;rw[xZ]at this;exact this,λs' mH ha K' lh=> ?_⟩
     unfold iN;rw[hg];simp only[fb ha,hb,hm]
     exact⟨λhn=>absurd hn ov,λ_=>by rw[xZ];rw[←mH]at lh;exact lh⟩
  ·rename_i g b hb
   split at h
   ·exact(Px _ _ _ h).elim
   ·rename_i hm
    by_cases ov:g=true∧b=want
    ·obtain⟨v,hK,hv⟩:=DN hq (h.1 ov.1 ov.2)
     refine⟨v,hK,λs' mH ha K' lh=> ?_⟩
     unfold iN;rw[hg];simp only[fb ha,hb,hm]
     exact⟨λ_ _=>hv s' mH ha.right K' lh,λhn=>absurd ov.2 (hn ov.1)⟩
    ·refine⟨s.bx,by have:=h.2 (λh1 h2=>ov ⟨h1,h2⟩);rw[xZ]at this;exact this,λs' mH ha K' lh=> ?_⟩
     unfold iN;rw[hg];simp only[fb ha,hb,hm]
     exact⟨λh1 h2=>absurd ⟨h1,h2⟩ ov,λ_=>by rw[xZ];rw[←mH]at lh;exact lh⟩
  ·exact h.elim
theorem Fm {d:Option Nat} {v:PV} {b:List (Nat×bh)}:({s with bx:=b}:St).put d v= {s.put d v with bx:=b}:=by cases d<;>rfl
theorem eo.bx {l:List Nat} {b:List (Nat×bh)}:eo s {s with bx:=b} l:=λ_ _=>rfl
theorem eo.wM {l:List Nat} {b:List (Nat×bh)}:eo {s with bx:=b} s l:=λ_ _=>rfl
def AO.comm (y x:AO):Bool:=y.apart x&&(y.quiet&&x.quiet||y.free&&x.pE||y.pE&&x.free)
theorem ML {y x:AO} {K:St->Prop} (h:y.comm x=true) (hh:iN P s y λs1=>iN P s1 x K):iN P s x λs2=>iN P s2 y K:=by
 simp only[AO.comm,aJ,Bool.or_eq_true]at h
 obtain⟨jc,h⟩:=h
 have h1:∀d,y.dst=some d->d∉x.reads:=λd hd=>by simp[AO.apart,hd]at jc;exact jc.1.1
 have h3:∀d,x.dst=some d->d∉y.reads:=λd hd=>by simp[AO.apart,hd]at jc;exact jc.2
 rcases h with(h|h)|h
 ·exact MI h.1 h.2 jc hh
 ·obtain⟨v,hh,hv⟩:=Fl h.1 hh
  obtain⟨b,hh,hb⟩:=xc h.2 hh
  refine hb s (lx _ _).symm (eo.aea h1) _ ?_
  refine hv _ eo.bx _ ?_
  rw[Fm];exact hh
 ·obtain⟨b,hh,hb⟩:=xc h.1 hh
  obtain⟨v,hh,hv⟩:=Fl h.2 hh
  refine hv s eo.wM _ ?_
  refine hb _ (lx _ _) (eo.put h3) _ ?_
  rw[Fm]at hh;exact hh
theorem Ko {y x:AO} {K K':St->Prop} (h:y.comm x=true) (hk:∀s,K s->K' s) (hh:iN P s y K):iN P s y K':=by
 simp only[AO.comm,aJ,Bool.or_eq_true]at h
 obtain⟨_,h⟩:=h
 have hq:y.quiet=true∨y.pE=true:=by
  rcases h with(h|h)|h
  ·exact .inl h.1
  ·exact .inl (Hm h.1)
  ·exact .inr h.1
 rcases hq with hq|hq
 ·obtain⟨v,h1,h2⟩:=Hl hq hh
  exact h2 s rfl (λ_ _=>rfl) _ (hk _ h1)
 ·obtain⟨b,h1,h2⟩:=xc hq hh
  exact h2 s rfl (λ_ _=>rfl) _ (hk _ h1)
end Go.Ab
namespace Go.Ab
variable [eE]
variable {P:Program} {nt:Nat} {ds:List Deferred} {s s':St} {Γ:Cx} {a:Act} {w:World} {Q:Exit->Act->World->Prop} [iZ]
def Hn (P:Program) (s:St):List AO->(St->Prop)->Prop
 |[],K=>K s
 |o::r,K=>iN P s o λs'=>Hn P s' r K
def L5 (P:Program) (aos:List AO) (s:St):List Nat->(St->Prop)->Prop
 |[],K=>K s
 |
  i::r,K=>match aos[i]?with
  |some o=>iN P s o λs'=>L5 P aos s' r K
  |none=>False
theorem tX {aos:List AO} {K:St->Prop}:∀(n i:Nat) (s:St),i+n=aos.length->(Hn P s (aos.drop i) K↔L5 P aos s (List.range' i n) K)
 |0,i,s,h=>by simp only[List.range'_zero,L5];rw[List.drop_of_length_le (by omega)];rfl
 |
  n+1,i,s,h=>by
  have gG:i<aos.length:=by omega
  rw[List.range'_succ,List.drop_eq_getElem_cons gG]
  simp only[Hn,L5,gJ gG]
  have:(λs'=>Hn P s' (aos.drop (i+1)) K)=λs'=>L5 P aos s' (List.range' (i+1) n) K:=funext λs'=>propext (tX n (i+1) s' (by omega))
  rw[this]
noncomputable def kU (P:Program) (nt:Nat) (ops:Array Oper) (own sp:List Nat) (draw:Bool):List Oper->Option (List AO)
 |[]=>some []
 |o::r=>match nM P nt ops own sp draw o,kU P nt ops own sp draw r with|some x,some l=>some (x::l)|_,_=>none
theorem oM {ops:Array Oper} {own sp:List Nat} {draw:Bool}:∀ {os:List Oper} {aos:List AO},kU P nt ops own sp draw os=some aos->aos.length=os.length∧∀(i:Nat) o,os[i]? =some o->∃ao,aos[i]? =some ao∧nM P nt ops own sp draw o=some ao
 |[],aos,h=>by simp[kU]at h;subst h;simp
 |
  o::r,aos,h=>by
  simp only[kU]at h
  split at h
  ·rename_i x l hx hl
   simp only[sJ]at h;subst h
   obtain⟨h1,h2⟩:=oM hl
   refine⟨by simp[h1],λi o' hi=> ?_⟩
   cases i with
   |zero=>simp at hi;subst hi;exact⟨x,rfl,hx⟩
   |succ i=>simp at hi;simpa using h2 i o' hi
  ·simp at h
theorem Fh.trans {Γ1:Cx} {w1:World} {K:St->Prop} {Kr:Act->World->Prop} (h1:Le Γ Γ1) (h2:WF w w1) (h:Fh P nt ds Γ w K Kr):Fh P nt ds Γ1 w1 K Kr:=
 λs' Γ' a' w' a1 a2 a3 a4 a5=>h s' Γ' a' w' a1 a2 (h1.trans a3) (h2.trans a4) a5
theorem CC {ro:Option Nat} {ops:Array Oper} {aos:List AO} {own sp:List Nat} {draw:Bool} (nW:∀(i:Nat) o,ops[i]? =some o->∃ao,aos[i]? =some ao∧nM P nt ops own sp draw o=some ao) (hlen:aos.length=ops.size) {K:St->Prop}:
  ∀(l:List Nat) {s:St} {Γ:Cx} {a:Act} {w:World},iB nt ds s Γ a->w.heap=Γ.heap->As P Γ->L5 P aos s l K->Fh P nt ds Γ w K (Q .normal)->wpOpsIn (FW ro) 0 P ops Q l a w
 |[],s,Γ,a,w,hs,hw,_,h,hk=>hk _ _ _ _ hs hw (Le.refl Γ) (WF.refl w) h
 |
  i::r,s,Γ,a,w,hs,hw,hY,h,hk=>by
  rw[wpOpsIn_cons]
  simp only[L5]at h
  split at h
  case h_2=>exact h.elim
  rename_i ao ES
  have hi:i<ops.size:=by rw[←hlen];exact(List.getElem?_eq_some_iff.1 ES).1
  obtain⟨ao',h1,h2⟩:=nW i ops[i] (Array.getElem?_eq_getElem hi)
  rw[ES]at h1;cases h1
  refine qt (Array.getElem?_eq_getElem hi) h2 hs hw hY h ?_
  intro s' Γ' a' w' b1 b2 b3 b4 b5
  exact CC nW hlen r b1 b2 (hY.le b3) b5 (hk.trans b3 b4)
theorem DO {ro:Option Nat} {ops:Array Oper} {aos:List AO} {own sp:List Nat} {id:Nat} (ht:kU P nt ops own sp false ops.toList=some aos) {K:St->Prop} (hs:iB nt ds s Γ a) (hw:w.heap=Γ.heap) (hY:As P Γ) (h:Hn P s aos K) (hk:Fh P nt ds Γ w K (Q .normal)):
  (Code.region id ops false).wpIn (FW ro) 0 P Q a w:=by
 obtain⟨h1,h2⟩:=oM ht
 refine wpIn_region (CC (λi o hi=>h2 i o (by simpa using hi)) (by simpa using h1) _ hs hw hY ?_ hk)
 rw[List.range_eq_range']
 exact(tX (P:=P) ops.size 0 s (by simpa using h1.symm)).1 (by simpa using h)
inductive QW (ops:Array Oper):Nat->Nat->Prop
 |dir {i:Nat} {o:Oper} {e:Edge}:ops[i]? =some o->e∈o.after->Region.binds .any e=true->QW ops i e.on
 |tr {i j:Nat} {o:Oper} {e:Edge}:ops[i]? =some o->e∈o.after->Region.binds .any e=true->QW ops e.on j->QW ops i j
def DP (ms:List Nat):List Edge->Nat->Nat
 |[],m=>m
 |e::r,m=>DP ms r (if Region.binds .any e=true then m|||2^e.on|||ms.getD e.on 0 else m)
def jS:List Oper->List Nat->List Nat
 |[],ms=>ms
 |o::r,ms=>jS r (ms++[DP ms o.after.toList 0])
theorem ym {ms:List Nat} {B:Nat->Prop}:∀(l:List Edge) (m:Nat),(∀e∈l,Region.binds .any e=true->B e.on∧∀j,(ms.getD e.on 0).testBit j=true->B j)->(∀j,m.testBit j=true->B j)->
  ∀j,(DP ms l m).testBit j=true->B j
 |[],m,_,hm,j,h=>hm j h
 |
  e::r,m,hl,hm,j,h=>by
  simp only[DP]at h
  refine ym r _ (λe he=>hl e (by simp[he])) ?_ j h
  intro j hj
  split at hj
  ·rename_i hb
   obtain⟨h1,h2⟩:=hl e (by simp) hb
   rw[Nat.testBit_or,Nat.testBit_or,Bool.or_eq_true,Bool.or_eq_true,Nat.testBit_two_pow]at hj
   rcases hj with(hj|hj)|hj
   ·exact hm j hj
   ·simp only[decide_eq_true_eq]at hj;subst hj;exact h1
   ·exact h2 j hj
  ·exact hm j hj
theorem Ay {ops:Array Oper}:∀(l done:List Oper) (ms:List Nat),ops.toList=done++l->ms.length=done.length->(∀(i:Nat) m,ms[i]? =some m->∀j,m.testBit j=true->QW ops i j)->
  ∀(i:Nat) m,(jS l ms)[i]? =some m->∀j,m.testBit j=true->QW ops i j
 |[],_,ms,_,_,h=>h
 |
  o::r,done,ms,hd,hl,h=>by
  refine Ay r (done++[o]) _ (by simp[hd]) (by simp[hl]) ?_
  intro i m hi j hj
  rw[List.getElem?_append]at hi
  split at hi
  ·exact h i m hi j hj
  ·rename_i hge
   have hi0:i=ms.length:=by
    have:=(List.getElem?_eq_some_iff.1 hi).1
    simp at this;omega
   subst hi0
   simp at hi
   subst hi
   have ho:ops[ms.length]? =some o:=by
    rw[←Array.getElem?_toList,hd,hl];simp
   refine ym (B:=λj=>QW ops ms.length j) _ 0 (λe he hb=>⟨.dir ho (by simpa using he) hb,λj hj=> .tr ho (by simpa using he) hb ?_⟩) (by simp) j hj
   cases hx:ms[e.on]?with
   |none=>rw[List.getD_eq_getElem?_getD,hx]at hj;simp at hj
   |some m=>rw[List.getD_eq_getElem?_getD,hx]at hj;exact h _ m hx j hj
def DQ (ms:List Nat) (i j:Nat):Bool:=(ms.getD i 0).testBit j
theorem Az {ops:Array Oper} {i j:Nat} (h:DQ (jS ops.toList []) i j=true):QW ops i j:=by
 unfold DQ at h
 cases hx:(jS ops.toList [])[i]?with
 |none=>rw[List.getD_eq_getElem?_getD,hx]at h;simp at h
 |
  some m=>
  rw[List.getD_eq_getElem?_getD,hx]at h
  exact Ay ops.toList [] [] (by simp) rfl (by simp) i m hx j h
def IV (ops:Array Oper) (aos:List AO) (ms:List Nat):Bool:=
 (List.range ops.size).all λi=>match ops[i]?,aos[i]?with
  |some o,some x=>(o.after.all λe=> !Region.binds .any e||decide (e.on<i))&&
    (List.range i).all λj=>DQ ms i j||(match aos[j]?with|some y=>y.comm x|none=>false)
  |_,_=>false
def AA (ops:Array Oper) (aos:List AO):Bool:=IV ops aos (jS ops.toList [])
def pX (ops:Array Oper) (listed:Array Bool):Prop:=
 ∀(k:Nat) o,ops[k]? =some o->listed.getD k true=true->∀e∈o.after,Region.binds .any e=true->listed.getD e.on false=true
theorem Ho {ops:Array Oper} {listed:Array Bool} (hc:pX ops listed) {i j:Nat} (h:QW ops i j):listed.getD i false=true->listed.getD j false=true:=by
 have up:∀i:Nat,listed.getD i false=true->listed.getD i true=true:=by
  intro i hl
  have hi:i<listed.size:=by
   rcases Nat.lt_or_ge i listed.size with h'|h'
   ·exact h'
   ·simp[Array.getElem?_eq_none h']at hl
  simpa[Array.getD_eq_getD_getElem?,Array.getElem?_eq_getElem hi]using hl
 induction h with
 |dir ho he hb=>intro hl;exact hc _ _ ho (up _ hl) _ he hb
 |tr ho he hb _ ih=>intro hl;exact ih (hc _ _ ho (up _ hl) _ he hb)
theorem xd {ops:Array Oper} {listed:Array Bool} (hc:pX ops listed) {i j:Nat} (h:QW ops i j) (hr:i∈Region.ready .any ops listed):listed.getD j false=true:=by
 obtain⟨_,o,ho,fu⟩:=mem_ready.1 hr
 cases h with
 |dir ho' he hb=>rw[ho]at ho';cases ho';exact fu _ he hb
 |tr ho' he hb h2=>rw[ho]at ho';cases ho';exact Ho hc h2 (fu _ he hb)
theorem CD {aos:List AO} {K:St->Prop} {i:Nat} {x:AO} (hi:aos[i]? =some x) (l2:List Nat):∀(l1:List Nat) (s:St),
  (∀j∈l1,∃y,aos[j]? =some y∧y.comm x=true)->L5 P aos s (l1++i::l2) K->iN P s x λs'=>L5 P aos s' (l1++l2) K
 |[],s,_,h=>by simpa[L5,hi]using h
 |
  j::l1,s,fu,h=>by
  obtain⟨y,hy,jc⟩:=fu j (by simp)
  simp only[List.cons_append,L5,hy]at h⊢
  exact ML jc (Ko jc (λs' h'=>CD hi l2 l1 s' (λk hk=>fu k (by simp[hk])) h') h)
theorem aqf {ro:Option Nat} {ops:Array Oper} {aos:List AO} {own sp:List Nat} (nW:∀(i:Nat) o,ops[i]? =some o->∃ao,aos[i]? =some ao∧nM P nt ops own sp true o=some ao) (hlen:aos.length=ops.size) (ed:AA ops aos=true) {K:St->Prop}:
  ∀
   (n:Nat) (listed:Array Bool) {s:St} {Γ:Cx} {a:Act} {w:World},listed.size=ops.size->pX ops listed->((List.range ops.size).filter λi=> !listed.getD i true).length=n->
   iB nt ds s Γ a->w.heap=Γ.heap->As P Γ->L5 P aos s ((List.range ops.size).filter λi=> !listed.getD i true) K->Fh P nt ds Γ w K (Q .normal)->wpAnyIn (FW ro) 0 P .any ops Q n listed a w:=by
 simp only[AA,IV,List.all_eq_true,List.mem_range]at ed
 have hoi:=ed
 --what is first is ready
 have IK:∀listed:Array Bool,listed.size=ops.size->Region.ready .any ops listed=[]->((List.range ops.size).filter λi=> !listed.getD i true)=[]:=by
  intro listed iQ hr
  cases hl:(List.range ops.size).filter λi=> !listed.getD i true with
  |nil=>rfl
  |
   cons i l=>
   exfalso
   have hm:∀j,j∈i::l↔j<ops.size∧listed.getD j true=false:=by intro j;rw[←hl];simp
   have JZ:(i::l).Pairwise (·<·):=by rw[←hl];exact(List.pairwise_lt_range).filter _
   obtain⟨hi,E4⟩:=(hm i).1 (by simp)
   have IL:=hoi i hi
   obtain⟨ao,ES,_⟩:=nW i ops[i] (Array.getElem?_eq_getElem hi)
   rw[Array.getElem?_eq_getElem hi,ES]at IL
   simp only[aJ,Array.all_eq_true_iff_forall_mem,Bool.or_eq_true,Bool.not_eq_true',decide_eq_true_eq]at IL
   have:i∈Region.ready .any ops listed:=by
    rw[mem_ready]
    refine⟨E4,ops[i],Array.getElem?_eq_getElem hi,λe he hb=> ?_⟩
    have gG:=(IL.1 e he).resolve_left (by simp[hb])
    cases hx:listed.getD e.on false with
    |true=>rfl
    |
     false=>
     have aaq:e.on<listed.size:=by omega
     have hu:listed.getD e.on true=false:=by
      simpa[Array.getD_eq_getD_getElem?,Array.getElem?_eq_getElem aaq]using hx
     have jz:=(hm e.on).2 ⟨by omega,hu⟩
     rcases List.mem_cons.1 jz with h|h
     ·omega
     ·have:=List.rel_of_pairwise_cons JZ h;omega
   rw[hr]at this;simp at this
 intro n
 induction n with
 |
  zero=>
  intro listed s Γ a w iQ hc hn hs hw hY h hk
  have hl:=List.length_eq_zero_iff.1 hn
  rw[hl]at h
  refine⟨?_,hk _ _ _ _ hs hw (Le.refl Γ) (WF.refl w) h⟩
  rw[List.eq_nil_iff_forall_not_mem]
  intro i hi
  have h0:=(mem_ready.1 hi)
  obtain⟨h1,o,ho,_⟩:=h0
  have:i∈(List.range ops.size).filter λi=> !listed.getD i true:=by
   rw[List.mem_filter,List.mem_range];exact⟨(Array.getElem?_eq_some_iff.1 ho).1,by rw[h1];rfl⟩
  rw[hl]at this;simp at this
 |
  succ n ih=>
  intro listed s Γ a w iQ hc hn hs hw hY h hk
  refine⟨λhr=> ?_,λi hi=> ?_⟩
  ·rw[IK listed iQ hr]at hn;simp at hn
  ·obtain⟨E4,o,ho,fu⟩:=mem_ready.1 hi
   have gG:=(Array.getElem?_eq_some_iff.1 ho).1
   obtain⟨ao,ES,htr⟩:=nW i o ho
   have jz:i∈(List.range ops.size).filter λi=> !listed.getD i true:=by
    rw[List.mem_filter,List.mem_range];exact⟨gG,by rw[E4];rfl⟩
   obtain⟨l1,l2,hl⟩:=List.append_of_mem jz
   have JZ:(l1++i::l2).Pairwise (·<·):=by rw[←hl];exact(List.pairwise_lt_range).filter _
   have zY:(l1++i::l2).Nodup:=JZ.imp (λh=>Nat.ne_of_lt h)
   have qT:(List.range ops.size).filter (λj=> !(listed.setIfInBounds i true).getD j true)=l1++l2:=by
    have e:(λj=> !(listed.setIfInBounds i true).getD j true)=λj=>(decide (j≠i))&& !listed.getD j true:=by
     funext j
     by_cases BZ:i=j
     ·subst BZ;simp[Array.getD_eq_getD_getElem?,uJ (by omega:i<listed.size)]
     ·rw[getD_set_ne true BZ];simp[Ne.symm BZ]
    rw[e,←List.filter_filter,hl,List.filter_append,List.filter_cons]
    simp only[ne_eq,not_true,decide_false,fJ,if_false]
    have Dr:=List.nodup_append.1 zY
    rw[List.filter_eq_self.2,List.filter_eq_self.2]
    ·intro x hx;simp;rintro rfl;exact(List.nodup_cons.1 Dr.2.1).1 hx
    ·intro x hx;simp;rintro rfl;exact Dr.2.2 x hx x (by simp) rfl
   rw[hl]at h hn
   have amO:∀j∈l1,j<i:=λj hj=>by
    have:=(List.pairwise_append.1 JZ).2.2 j hj i (by simp);exact this
   have av5:∀j∈l1,listed.getD j true=false:=λj hj=>by
    have:j∈(List.range ops.size).filter λi=> !listed.getD i true:=by rw[hl];simp[hj]
    simpa using(List.mem_filter.1 this).2
   have IL:=hoi i gG
   rw[ho,ES]at IL
   simp only[aJ,List.all_eq_true,List.mem_range,Bool.or_eq_true]at IL
   have hf:=CD (P:=P) (K:=K) ES l2 l1 s (λj hj=>by
    have ER:=IL.2 j (amO j hj)
    rcases ER with hb|hb
    ·have:=xd hc (Az hb) hi
     have hx:=av5 j hj
     have y0:j<listed.size:=by have:=amO j hj;omega
     simp[Array.getD_eq_getD_getElem?,Array.getElem?_eq_getElem y0]at this hx
     rw[this]at hx;simp at hx
    ·split at hb
     ·rename_i y hy;exact⟨y,hy,hb⟩
     ·simp at hb) h
   refine qt ho htr hs hw hY hf ?_
   intro s' Γ' a' w' b1 b2 b3 b4 b5
   refine ih (listed.setIfInBounds i true) (by simp[iQ]) ?_ (by rw[qT];simp at hn⊢;omega) b1 b2 (hY.le b3) (by rw[qT];exact b5) (hk.trans b3 b4)
   intro k ok rV rY e he hb
   by_cases BR:i=k
   ·subst BR;rw[ho]at rV;cases rV;exact getD_set_true (fu e he hb)
   ·rw[getD_set_ne true BR]at rY;exact getD_set_true (hc k ok rV rY e he hb)
theorem vq {ro:Option Nat} {ops:Array Oper} {aos:List AO} {own sp:List Nat} {id:Nat} (hm:P.follows .mixedOrders=true) (ht:kU P nt ops own sp true ops.toList=some aos) (ed:AA ops aos=true) {K:St->Prop} (hs:iB nt ds s Γ a) (hw:w.heap=Γ.heap) (hY:As P Γ) (h:Hn P s aos K) (hk:Fh P nt ds Γ w K (Q .normal)):
  (Code.region id ops true).wpIn (FW ro) 0 P Q a w:=by
 obtain⟨h1,h2⟩:=oM ht
 have e:((List.range ops.size).filter λi=> !(Array.replicate ops.size false).getD i true)=List.range ops.size:=by
  rw[List.filter_eq_self]
  intro i hi
  rw[List.mem_range]at hi
  simp[Array.getD_eq_getD_getElem?,hi]
 refine wpIn_region_any hm (aqf (s:=s) (Γ:=Γ) (K:=K) (λi o hi=>h2 i o (by simpa using hi)) (by simpa using h1) ed _ _ (by simp) ?_ (by rw[e];simp) hs hw hY ?_ ?_)
 ·intro k o WD hl
  have:=(Array.getElem?_eq_some_iff.1 WD).1
  simp[Array.getD_eq_getD_getElem?,this]at hl
 ·rw[e,List.range_eq_range']
  exact(tX (P:=P) ops.size 0 s (by simpa using h1.symm)).1 (by simpa using h)
 ·intro s' Γ' a' w' b1 b2 b3 b4 b5
  exact hk s' Γ' a' w' b1 b2 b3 ⟨b4.os,b4.tape,b4.output⟩ b5
end Go.Ab
namespace Go.Ab
variable [eE]
variable {P:Program} {nt:Nat} {ds:List Deferred} {s:St} {Γ Δ:Cx} {a:Act} {w:World}
mutual
def gq (k sz:Nat) (l0:List PV):PV->PV
 | .rs k' p off len aE bL c=>if k'=k then(if aE=l0.length∧p=[]∧bL=sz∧off+len≤l0.length then .sl sz ((l0.drop off).take len) (decide (c= .clip))else .un)else .rs k' p off len aE bL c
 | .pt k' p aE=>if k'=k then(if aE=l0.length then .fp sz l0 p else .un)else .pt k' p aE
 | .st w l=> .st w (im k sz l0 l)
 | .ar z n l=> .ar z n (im k sz l0 l)
 | .tup l=> .tup (im k sz l0 l)
 | .sl z l c=> .sl z (im k sz l0 l) c
 | .fp z l p=> .fp z (im k sz l0 l) p
 | .fn f x y=> .fn f (im k sz l0 x) (im k sz l0 y)
 | .gd b p=> .gd b (gq k sz l0 p)
 | .ifc t p=> .ifc t (gq k sz l0 p)
 |p=>p
def im (k sz:Nat) (l0:List PV):List PV->List PV
 |[]=>[]
 |p::l=>gq k sz l0 p::im k sz l0 l
end
def te (k sz:Nat) (l0:List PV):bh->bh
 | .box v=> .box (gq k sz l0 v)
 | .arr z l=> .arr z (im k sz l0 l)
 | .map b ks vs l=> .map b ks vs l
variable {k sz:Nat} {l0:List PV}
theorem sL (p:PV):(gq k sz l0 p).width=p.width:=by
 cases p<;>simp only[gq]<;>(try split)<;>(try split)<;>simp[PV.width]
theorem mU (p:PV):(gq k sz l0 p).isAgg=p.isAgg:=by
 cases p<;>simp only[gq]<;>(try split)<;>(try split)<;>simp[PV.isAgg]
theorem nv (l:List PV):(im k sz l0 l).length=l.length:=by induction l<;>simp[im, *]
theorem qu {l:List PV} {q:PV} (h:q∈im k sz l0 l):∃p∈l,q=gq k sz l0 p:=by
 induction l with
 |nil=>simp[im]at h
 |
  cons x l ih=>
  simp only[im,cJ]at h
  rcases h with h|h
  ·exact⟨x,by simp,h⟩
  ·obtain⟨p,hp,e⟩:=ih h;exact⟨p,by simp[hp],e⟩
theorem vr (b:bh):(te k sz l0 b).aE=b.aE:=by cases b<;>simp[te,bh.aE,nv]
mutual
theorem DR:∀p,ab (λj=>decide (j≠k)) p=true->gq k sz l0 p=p
 | .rs k' _ _ _ _ _ _,hp=>by simp only[ab,decide_eq_true_eq]at hp;simp[gq,hp]
 | .pt k' _ _,hp=>by simp only[ab,decide_eq_true_eq]at hp;simp[gq,hp]
 | .st _ l,hp=>by simp only[ab]at hp;simp[gq,nk l hp]
 | .ar _ _ l,hp=>by simp only[ab]at hp;simp[gq,nk l hp]
 | .tup l,hp=>by simp only[ab]at hp;simp[gq,nk l hp]
 | .sl _ l _,hp=>by simp only[ab]at hp;simp[gq,nk l hp]
 | .fp _ l _,hp=>by simp only[ab]at hp;simp[gq,nk l hp]
 | .fn _ x y,hp=>by simp only[ab,aJ]at hp;simp[gq,nk x hp.1,nk y hp.2]
 | .gd _ p,hp=>by simp only[ab]at hp;simp[gq,DR p hp]
 | .ifc _ p,hp=>by simp only[ab]at hp;simp[gq,DR p hp]
 | .un,_=>by simp[gq]
 | .bl _,_=>by simp[gq]
 | .int _ _,_=>by simp[gq]
 | .str _,_=>by simp[gq]
 | .np,_=>by simp[gq]
 | .nf,_=>by simp[gq]
 | .ni,_=>by simp[gq]
 | .mp ..,_=>by simp[gq]
theorem nk:∀l,ae (λj=>decide (j≠k)) l=true->im k sz l0 l=l
 |[],_=>rfl
 |p::l,hp=>by simp only[ae,aJ]at hp;simp[im,DR p hp.1,nk l hp.2]
end
structure Frz (Γ Δ:Cx) (k sz:Nat) (l0:List PV):Prop where
 heap:Δ.heap=Γ.heap
 own:∀b,b<Γ.heap.size->¬Γ.own b->¬Δ.own b
 ref:∀k' blk,k'≠k->get Γ.bx k'=some blk->∃cI,get Δ.bx k'=some cI∧cI.aE=blk.aE∧Δ.ι k'=Γ.ι k'
 here:∀blk,get Γ.bx k=some blk->blk= .arr sz l0
 wd:∀x∈l0,x.width=sz
 cells:∀b,Γ.ι k=some b->b<Γ.heap.size∧¬Δ.own b∧∃c e cs rest,Γ.heap[b]? =some (.cells c e (0,0))∧c.toList=cs++rest∧aF Δ l0 cs
theorem aF.gq (hf:Frz Γ Δ k sz l0) {l:List PV} {cs:List Value} (h:aF Γ l cs):aF Δ (im k sz l0 l) cs:=by
 induction h with
 |nil=>exact .nil
 |un h hr ih=>exact .un h ih
 |bl x hr ih=>exact .bl x ih
 |int k n hr ih=>exact .int k n ih
 |str l s h hr ih=>exact .str l s h ih
 |st w l hl hw hr ihl ih=>exact .st w _ ihl hw ih
 |
  ar z n l hl hn hw hr ihl ih=>
  refine .ar z n _ ihl (by rw[nv];exact hn) (λx hx=> ?_) ih
  obtain⟨p,hp,rfl⟩:=qu hx
  rw[sL];exact hw p hp
 |
  sl z l clip ad bF hl hw hc hk hb hr ihl ih=>
  have:=aF.sl (Γ:=Δ) z (im k sz l0 l) clip ad bF ihl (λx hx=>by obtain⟨p,hp,rfl⟩:=qu hx;rw[sL];exact hw p hp) (by rw[nv];exact hc) (by rw[nv];exact hk)
   (λfB=>by
    obtain⟨b,o,h1,h2,h3,h4⟩:=hb (by intro h;subst h;simp[im]at fB)
    exact⟨b,o,h1,by rw[hf.heap];exact h2,hf.own b h2 h3,by rw[hf.heap];exact h4⟩) ih
  rw[nv]at this
  exact this
 |
  rs k' p off len aE bL c v blk hg h1 hv hr ih=>
  simp only[im,Ab.gq]
  by_cases hk:k'=k
  ·rw[if_pos hk]
   subst hk
   have lB:=hf.here blk hg.1
   subst lB
   split
   ·rename_i hc
    obtain⟨ht,hp,iQ,hle⟩:=hc
    subst hp iQ
    obtain⟨ad,bF,rfl,QB⟩:=hv (by simpa[bh.aE]using ht)
    have hlen:((l0.drop off).take len).length=len:=by simp;omega
    unfold jC at QB
    cases hι:Γ.ι k' with
    |
     none=>
     rw[hι]at QB
     obtain⟨rfl,rfl,_⟩:=QB
     have:=aF.sl (Γ:=Δ) bL ((l0.drop off).take 0) (decide (c= .clip)) ad 0 (cs:=[]) (by simpa using aF.nil) (by simp) (by simp) (by simp) (by simp) ih
     simpa using this
    |
     some b=>
     rw[hι]at QB
     obtain⟨hlr,had,tx,_⟩:=QB
     obtain⟨WA,EN,cc,e,cs,rest,hh,BY,JX⟩:=hf.cells b hι
     have nU:=(JX.Uf hf.wd off (by omega)).Fe (λx hx=>hf.wd x (List.mem_of_mem_drop hx)) len (by simp;omega)
     have LY:cs.length=l0.length*bL:=by rw[JX.length,bY hf.wd]
     have:=aF.sl (Γ:=Δ) bL ((l0.drop off).take len) (decide (c= .clip)) ad bF nU (λx hx=>hf.wd x (List.mem_of_mem_drop (List.mem_of_mem_take hx))) (by rw[hlen];exact hlr) (by rw[hlen];intro e;exact nX.clip tx (of_decide_eq_true e))
      (λfB=>by
       have azI:len≠0:=by rintro rfl;simp at fB
       refine⟨b,off*bL,?_,by rw[hf.heap];exact WA,EN,λi x hi=> ?_⟩
       ·rcases had with h|h
        ·omega
        ·simpa[dj]using h
       ·rw[List.getElem?_take]at hi
        split at hi
        ·rw[List.getElem?_drop]at hi
         simp only[cell,hf.heap,hh]
         rw[←Array.getElem?_toList,BY]
         have gG:=(List.getElem?_eq_some_iff.1 hi).1
         rw[List.getElem?_append_left gG];exact hi
        ·simp at hi) ih
     rw[hlen]at this
     exact this
   ·exact .un h1 ih
  ·rw[if_neg hk]
   obtain⟨cI,g1,g2,g3⟩:=hf.ref k' blk hk hg.1
   refine .rs k' p off len aE bL c v cI ⟨g1,by rw[g2];exact hg.2⟩ h1 (λht=> ?_) ih
   obtain⟨ad,bF,e1,e2⟩:=hv (by rw[ht,g2])
   exact⟨ad,bF,e1,e2.aI g3 hf.heap⟩
 |np hr ih=>exact .np ih
 |
  pt k' p aE v blk hg h1 hv hr ih=>
  simp only[im,Ab.gq]
  by_cases hk:k'=k
  ·rw[if_pos hk]
   subst hk
   have lB:=hf.here blk hg.1
   subst lB
   split
   ·rename_i ht
    obtain⟨b,hι,rfl⟩:=hv (by simpa[bh.aE]using ht)
    obtain⟨WA,EN,cc,e,cs,rest,hh,BY,JX⟩:=hf.cells b hι
    have:=aF.fp (Γ:=Δ) sz l0 p b 0 JX hf.wd ⟨by rw[hf.heap];exact WA,EN⟩ (λi x hi=>by
     simp only[cell,hf.heap,hh]
     rw[←Array.getElem?_toList,BY,Nat.zero_add]
     have gG:=(List.getElem?_eq_some_iff.1 hi).1
     rw[List.getElem?_append_left gG];exact hi) ih
    simpa using this
   ·exact .un h1 ih
  ·rw[if_neg hk]
   obtain⟨cI,g1,g2,g3⟩:=hf.ref k' blk hk hg.1
   refine .pt k' p aE v cI ⟨g1,by rw[g2];exact hg.2⟩ h1 (λht=> ?_) ih
   obtain⟨b,e1,e2⟩:=hv (by rw[ht,g2])
   exact⟨b,by rw[g3,e1],e2⟩
 |
  fp z l p b o hl hw hm hc hr ihl ih=>
  exact .fp z _ p b o ihl (λx hx=>by obtain⟨p,hp,rfl⟩:=qu hx;rw[sL];exact hw p hp) ⟨by rw[hf.heap];exact hm.1,hf.own b hm.1 hm.2⟩ (by rw[hf.heap];exact hc) ih
 |
  fn g first cap h1 h2 h3 h4 hr i1 i2 ih=>
  exact .fn g _ _ i1 i2 (λx hx=>by obtain⟨p,hp,rfl⟩:=qu hx;rw[mU];exact h3 p hp) (λx hx=>by obtain⟨p,hp,rfl⟩:=qu hx;rw[mU];exact h4 p hp) ih
 |nf hr ih=>exact .nf ih
 |
  ifc t v h1 h2 hr i1 ih=>
  simp only[im]at i1
  exact .ifc t _ i1 (by rw[mU];exact h2) ih
 |ni hr ih=>exact .ni ih
 |mp k b hr ih=>exact .mp k b ih
theorem aF.AD (hf:Frz Γ Δ k sz l0) {p:PV} {cs:List Value} (h:aF Γ [p] cs):aF Δ [Ab.gq k sz l0 p] cs:=by
 have:=h.gq hf
 simpa only[im]using this
theorem aF.aeb {p:PV} {v:Value} (h:aF Γ [p] [v]) (ha:p.isAgg=false):jG Γ p v:=by
 cases p<;>simp[PV.isAgg]at ha<;>first|(simp only[jG];done)|(simp only[jG];exact h)
theorem jG.gq (hf:Frz Γ Δ k sz l0) {p:PV} {v:Value} (h:jG Γ p v):jG Δ (Ab.gq k sz l0 p) v:=by
 cases p
 case un=>trivial
 case st w l=>obtain⟨cs,h1,h2⟩:=h;exact⟨cs,h1,h2.AD hf⟩
 case ar z n l=>obtain⟨cs,h1,h2⟩:=h;exact⟨cs,h1,h2.AD hf⟩
 case rs=>exact(aF.AD hf h).aeb (by rw[mU];rfl)
 case pt=>exact(aF.AD hf h).aeb (by rw[mU];rfl)
 all_goals exact aF.AD hf h
theorem aP.gq (hf:Frz Γ Δ k sz l0):∀ {p:PV} {v:Value},aP Γ p v->aP Δ (Ab.gq k sz l0 p) v:=by
 have h2:∀ {l:List PV} {vs:List Value},kx Γ l vs->kx Δ (im k sz l0 l) vs:=by
  intro l
  induction l with
  |nil=>intro vs h;cases vs<;>simp_all [kx,im]
  |
   cons p l ih=>
   intro vs h
   cases vs with
   |nil=>simp[kx]at h
   |cons v vs=>simp only[kx,im]at h⊢;exact⟨h.1.gq hf,ih h.2⟩
 intro p
 induction p using PV.rec (motive_2:=λ_=>True)with
 |gd b p ih=>intro v h;simp only[Ab.gq];rw[aP]at h⊢;exact⟨λhb=>ih (h.1 hb),h.2⟩
 |tup l=>intro v h;simp only[aP,Ab.gq]at h⊢;obtain⟨vs,e,h⟩:=h;exact⟨vs,e,h2 h⟩
 |un=>intro v h;simp[aP,Ab.gq]
 |st w l=>intro v h;obtain⟨cs,e,h⟩:=h;exact⟨cs,e,h.AD hf⟩
 |ar z n l=>intro v h;obtain⟨cs,e,h⟩:=h;exact⟨cs,e,h.AD hf⟩
 |nil=>trivial
 |cons=>trivial
 |rs=>intro v h;exact(aF.AD hf h).toV (by rw[mU];rfl)
 |pt=>intro v h;exact(aF.AD hf h).toV (by rw[mU];rfl)
 |_=>intro v h;exact aF.AD hf h
theorem bh.wL.gq (hf:Frz Γ Δ k sz l0) {blk:bh} {ob:Option Nat} (h:blk.wL Γ ob):(te k sz l0 blk).wL Δ ob:=by
 cases blk with
 |
  box v=>
  obtain⟨b,c,e,h1,h2,h3⟩:=h
  exact⟨b,c,e,h1,by rw[hf.heap];exact h2,h3.AD hf⟩
 |
  arr z l=>
  obtain⟨h1,h2,h3⟩:=h
  refine⟨λx hx=>by obtain⟨p,hp,rfl⟩:=qu hx;rw[sL];exact h1 p hp,h2,?_⟩
  cases ob with
  |none=>trivial
  |
   some b=>
   obtain⟨c,e,cs,rest,h4,h5,h6,h7⟩:=h3
   exact⟨c,e,cs,rest,by rw[hf.heap];exact h4,h5,h6.gq hf,h7⟩
 |
  map b ks vs l=>
  obtain⟨h1,h2⟩:=h
  exact⟨h1,by rw[hf.heap];exact h2⟩
end Go.Ab
namespace Go.Ab
variable [eE]
variable {P:Program} {nt:Nat} {ds:List Deferred} {s:St} {Γ Δ Γ0:Cx} {a:Act} {w:World} {k sz:Nat} {l0:List PV}
def del {α:Type}:List (Nat×α)->Nat->List (Nat×α)
 |[],_=>[]
 |(j,v)::r,k=>if j=k then del r k else(j,v)::del r k
def iC {α:Type} (f:α->α):List (Nat×α)->List (Nat×α)
 |[]=>[]
 |(j,v)::r=>(j,f v)::iC f r
def kE {α:Type} (sl:List Nat):List (Nat×α)->List (Nat×α)
 |[]=>[]
 |(j,v)::r=>if sl.contains j=true then(j,v)::kE sl r else kE sl r
theorem iX {α:Type} (l:List (Nat×α)) (k j:Nat):get (del l k) j=if j=k then none else get l j:=by
 induction l with
 |nil=>simp[del,get]
 |
  cons x r ih=>
  obtain⟨i,v⟩:=x
  simp only[del]
  split
  ·rename_i h;subst h;rw[ih];simp only[get];split
   ·rfl
   ·rename_i h2;rw[if_neg (λe=>h2 e.symm)]
  ·simp only[get,ih]
   split
   ·rename_i h h2;subst h2;rw[if_neg h]
   ·rfl
theorem fZ {α:Type} (f:α->α) (l:List (Nat×α)) (j:Nat):get (iC f l) j=(get l j).map f:=by
 induction l with
 |nil=>rfl
 |cons x r ih=>obtain⟨i,v⟩:=x;simp only[iC,get,ih];split<;>rfl
theorem Kq {α:Type} (sl:List Nat) (l:List (Nat×α)) (j:Nat) {v:α} (h:get (kE sl l) j=some v):get l j=some v:=by
 induction l with
 |nil=>simp[kE,get]at h
 |
  cons x r ih=>
  obtain⟨i,u⟩:=x
  simp only[kE]at h
  split at h
  ·simp only[get]at h⊢
   split
   ·rename_i h2;rw[if_pos h2]at h;exact h
   ·rename_i h2;rw[if_neg h2]at h;exact ih h
  ·rename_i hc
   have h3:=ih h
   simp only[get]
   split
   ·rename_i h2;subst h2
    exfalso
    have:∀r:List (Nat×α),get (kE sl r) i=none:=by
     intro r
     induction r with
     |nil=>rfl
     |
      cons y r ih2=>
      obtain⟨m,q⟩:=y
      simp only[kE]
      split
      ·rename_i h4
       simp only[get]
       rw[if_neg (by rintro rfl;exact hc h4)];exact ih2
      ·exact ih2
    rw[this]at h;simp at h
   ·exact h3
def HK (Γ:Cx):Prop:=∀k blk,get Γ.bx k=some blk->KB≤k
def rL (nt:Nat) (ds:List Deferred) (Γ0 Γ:Cx) (a:Act) (K:St->Prop):Prop:=∃s' Γ',iB nt ds s' Γ' a∧Γ'.heap=Γ.heap∧Le Γ0 Γ'∧K s'
theorem vu (hm:Mem Γ) (f:bh->bh) (hft:∀b,(f b).aE=b.aE):sd (λj=>decide (j≠k)) id Γ {Γ with bx:=iC f (del Γ.bx k)} where
 heap:=rfl
 own b _ hn:=by
  rintro(⟨j,blk,h1,h2⟩|h)
  ·simp only[fZ,iX]at h1
   split at h1
   ·simp at h1
   ·obtain⟨b0,g1,_⟩:=Option.map_eq_some_iff.1 h1
    exact hn (.inl ⟨j,b0,g1,h2⟩)
  ·exact hn (.inr h)
 ref j blk hj hb:=by
  simp only[decide_eq_true_eq]at hj
  exact⟨f blk,by simp[fZ,iX,hj,hb],hft _,rfl⟩
theorem AE {f:Nat->Bool} {l:List PV} (h:ae f l=true):aO id l=l:=nj (f:=f) (λ_ _=>rfl) l h
theorem vv {f:Nat->Bool} {p:PV} (h:ab f p=true):aI id p=p:=Ao (f:=f) (λ_ _=>rfl) p h
theorem MM (hle:Le Γ0 Γ) (nK:HK Γ0) (WE:k<KB) (f:bh->bh) (hft:∀b,(f b).aE=b.aE):Le Γ0 {Γ with bx:=iC f (del Γ.bx k)} where
 heap:=hle.heap
 iM b hb h:=by
  obtain⟨j,blk,h1,h2⟩:=h
  simp only[fZ,iX]at h1
  split at h1
  ·simp at h1
  ·obtain⟨b0,g1,_⟩:=Option.map_eq_some_iff.1 h1
   exact hle.iM b hb ⟨j,b0,g1,h2⟩
 ej:=hle.ej
 size:=hle.size
 ref j blk hj:=by
  obtain⟨cI,h1,h2,h3⟩:=hle.ref j blk hj
  have:=nK j blk hj
  have fB:j≠k:=by omega
  exact⟨f cI,by simp[fZ,iX,fB,h1],by rw[hft];exact h2,λht=>h3 (by rw[←ht,hft])⟩
theorem DS (hm:Mem Γ) (hg:get Γ.bx k=some (.arr sz l0)) (hr:ae (λj=>decide (j≠k)) l0=true):Frz Γ {Γ with bx:=iC (te k sz l0) (del Γ.bx k)} k sz l0 where
 heap:=rfl
 own:=(vu hm _ vr).own
 ref j blk hj hb:=by
  obtain⟨b',h1,h2,h3⟩:=(vu (k:=k) hm _ (vr (k:=k) (sz:=sz) (l0:=l0))).ref j blk (by simpa using hj) hb
  exact⟨b',h1,h2,h3⟩
 here blk hb:=by rw[hg]at hb;exact(Option.some.inj hb).symm
 wd:=(hm.blk k _ hg).1
 cells b hb:=by
  have h:=hm.blk k _ hg
  obtain⟨h1,h2,h3⟩:=h
  rw[hb]at h3
  obtain⟨c,e,cs,rest,h4,h5,h6,_⟩:=h3
  refine⟨dm h4,?_,c,e,cs,rest,h4,h5,?_⟩
  ·rintro(⟨j,blk,g1,g2⟩|g)
   ·simp only[fZ,iX]at g1
    split at g1
    ·simp at g1
    ·rename_i fB
     obtain⟨b0,g3,_⟩:=Option.map_eq_some_iff.1 g1
     exact fB (hm.inj j k b (by simp[g3]) (by simp[hg]) g2 hb)
   ·exact hm.apart b ⟨k,_,hg,hb⟩ g
  ·have:=h6.aI (vu (k:=k) hm _ (vr (k:=k) (sz:=sz) (l0:=l0))) hr
   rwa [AE hr]at this
theorem vy (hm:Mem Γ) (f:bh->bh) (hf:∀j blk,j≠k->get Γ.bx j=some blk->(f blk).wL {Γ with bx:=iC f (del Γ.bx k)} (Γ.ι j)):Mem {Γ with bx:=iC f (del Γ.bx k)} where
 blk j blk hb:=by
  simp only[fZ,iX]at hb
  split at hb
  ·simp at hb
  ·rename_i fB
   obtain⟨b0,g1,rfl⟩:=Option.map_eq_some_iff.1 hb
   exact hf j b0 fB g1
 inj i j b hi hj h1 h2:=by
  have:∀x,(get (iC f (del Γ.bx k)) x).isSome=true->(get Γ.bx x).isSome=true:=by
   intro x hx
   simp only[fZ,iX]at hx
   split at hx
   ·simp at hx
   ·simpa using hx
  exact hm.inj i j b (this i hi) (this j hj) h1 h2
 ej:=hm.ej
 apart b h hp:=by
  refine hm.apart b ?_ hp
  obtain⟨j,blk,h1,h2⟩:=h
  simp only[fZ,iX]at h1
  split at h1
  ·simp at h1
  ·obtain⟨b0,g1,_⟩:=Option.map_eq_some_iff.1 h1
   exact⟨j,b0,g1,h2⟩
 yI b cs h:=by
  obtain⟨h1,h2⟩:=hm.yI b cs h
  refine⟨λhb=>h1 ?_,h2⟩
  obtain⟨j,blk,h1,h2⟩:=hb
  simp only[fZ,iX]at h1
  split at h1
  ·simp at h1
  ·obtain⟨b0,g1,_⟩:=Option.map_eq_some_iff.1 h1
   exact⟨j,b0,g1,h2⟩
def WV (k:Nat) (s:St) (K:St->Prop):Prop:=
 match get s.bx k with
 |some (.arr sz l)=>(ae (λj=>decide (j≠k)) l=true∧k<KB)∧K {env:=iC (gq k sz l) s.env,bx:=iC (te k sz l) (del s.bx k)}
 |_=>False
theorem Ks {K:St->Prop} (hs:iB nt ds s Γ a) (hle:Le Γ0 Γ) (nK:HK Γ0) (h:WV k s K):rL nt ds Γ0 Γ a K:=by
 unfold WV at h
 split at h
 ·rename_i sz l hg
  obtain⟨⟨hr,WE⟩,hK⟩:=h
  rw[←hs.bx]at hg
  have hf:=DS hs.mem hg hr
  refine⟨_,{Γ with bx:=iC (te k sz l) (del Γ.bx k)},⟨by simp[hs.bx],hs.size,hs.defers,λj p hj=> ?_,vy hs.mem _ (λj blk fB hb=>(hs.mem.blk j blk hb).gq hf)⟩,rfl,MM hle nK WE _ vr,hK⟩
  simp only[fZ]at hj
  obtain⟨q,g1,rfl⟩:=Option.map_eq_some_iff.1 hj
  exact(hs.env j q g1).gq hf
 ·exact h.elim
def cr (f:Nat->Bool):List (Nat×PV)->Bool
 |[]=>true
 |(_,p)::r=>ab f p&&cr f r
def dx (f:Nat->Bool):List (Nat×bh)->Bool
 |[]=>true
 |(_,b)::r=>ah f b&&dx f r
theorem yn {f:Nat->Bool}:∀ {l:List (Nat×PV)} {j:Nat} {p:PV},cr f l=true->get l j=some p->ab f p=true
 |[],_,_,_,h=>by simp[get]at h
 |
  (i,q)::r,j,p,hr,h=>by
  simp only[cr,aJ]at hr
  simp only[get]at h
  split at h
  ·cases h;exact hr.1
  ·exact yn hr.2 h
theorem AF {f:Nat->Bool}:∀ {l:List (Nat×bh)} {j:Nat} {p:bh},dx f l=true->get l j=some p->ah f p=true
 |[],_,_,_,h=>by simp[get]at h
 |
  (i,q)::r,j,p,hr,h=>by
  simp only[dx,aJ]at hr
  simp only[get]at h
  split at h
  ·cases h;exact hr.1
  ·exact AF hr.2 h
theorem IW {α:Type}:∀l:List (Nat×α),iC id l=l
 |[]=>rfl
 |(j,v)::r=>by simp[iC,IW r]
def dr1 (k:Nat) (s:St) (K:St->Prop):Prop:=
 (cr (λj=>decide (j≠k)) s.env=true∧dx (λj=>decide (j≠k)) (del s.bx k)=true∧k<KB)∧K {s with bx:=del s.bx k}
theorem Fo {f:Nat->Bool} {b:bh} (h:ah f b=true):aZ id b=b:=by
 cases b with
 |box v=>simp only[aZ,vv (f:=f) h]
 |arr sz l=>simp only[aZ,AE (f:=f) h]
 |map b ks vs l=>rfl
theorem Kt {K:St->Prop} (hs:iB nt ds s Γ a) (hle:Le Γ0 Γ) (nK:HK Γ0) (h:dr1 k s K):rL nt ds Γ0 Γ a K:=by
 obtain⟨⟨h1,h2,h3⟩,hK⟩:=h
 have mG:=vu (k:=k) hs.mem id (λ_=>rfl)
 refine⟨_,{Γ with bx:=iC id (del Γ.bx k)},⟨by simp[hs.bx,IW],hs.size,hs.defers,λj p hj=> ?_,vy hs.mem _ (λj blk fB hb=> ?_)⟩,rfl,MM hle nK h3 _ (λ_=>rfl),hK⟩
 ·have hr:=yn h1 hj
  have:=(hs.env j p hj).aI mG hr
  rwa [vv hr]at this
 ·have hr:ah (λj=>decide (j≠k)) blk=true:=by
   refine AF (j:=j) h2 ?_
   rw[iX,if_neg fB,←hs.bx];exact hb
  have:=(hs.mem.blk j blk hb).aI mG hr
  rwa [Fo hr]at this
theorem Hp {K:St->Prop} {sl:List Nat} (hs:iB nt ds s Γ a) (hle:Le Γ0 Γ) (h:K {s with env:=kE sl s.env}):rL nt ds Γ0 Γ a K:=
 ⟨{s with env:=kE sl s.env},Γ,⟨hs.bx,hs.size,hs.defers,λj p hj=>hs.env j p (Kq sl _ _ hj),hs.mem⟩,rfl,hle,h⟩
def WW (n k sz:Nat) (s:St) (K:St->Prop):Prop:=
 match get s.env n with
 |some (.sl _ [] true)=>(get s.bx k=none∧0<sz)∧K {env:=put s.env n (.rs k [] 0 0 0 sz .tip),bx:=put s.bx k (.arr sz [])}
 |_=>False
theorem Ku {n:Nat} {K:St->Prop} (hs:iB nt ds s Γ a) (hle:Le Γ0 Γ) (h:WW n k sz s K):rL nt ds Γ0 Γ a K:=by
 unfold WW at h
 split at h
 ·rename_i z hg
  obtain⟨⟨j2,iQ⟩,hK⟩:=h
  rw[←hs.bx]at j2
  have hl:=sI Γ (.arr sz []) j2
  have hm:=Ah hs.mem j2 (blk:= .arr sz []) ⟨by simp,iQ,trivial⟩
  refine⟨_,Γ.md k (.arr sz []),⟨by simp[Cx.md,hs.bx],hs.size,hs.defers,λj p hj=> ?_,hm⟩,rfl,hle.trans hl,hK⟩
  simp only[fC]at hj
  split at hj
  ·rename_i hnj
   subst hnj
   simp only[sJ]at hj;subst hj
   have h0:=hs.env n _ hg
   simp only[aP]at h0⊢
   generalize a.tmps.getD n undef=v at h0
   cases h0 with
   |
    @sl _ _ cs _ _ _ ad bF h1 h2 h3 h4 h5 h6=>
    have hr0:bF=0:=h4 rfl
    subst hr0
    refine .rs k [] 0 0 0 sz .tip _ (.arr sz []) ⟨by simp[Cx.md,dD],by simp[bh.aE]⟩ rfl (λ_=>⟨ad,0,rfl,?_⟩) .nil
    unfold jC
    simp[Cx.md,nX]
  ·exact(hs.env j p hj).mono hl
 ·exact h.elim
mutual
theorem ma:∀p:PV,ab (λ_=>true) p=true
 | .st _ l| .ar _ _ l| .tup l| .sl _ l _| .fp _ l _=>by simp only[ab];exact mu l
 | .fn _ x y=>by simp only[ab,mu x,mu y,Bool.and_self]
 | .gd _ p| .ifc _ p=>by simp only[ab];exact ma p
 | .rs .. | .pt .. | .un| .bl _| .int .. | .str _| .np| .nf| .ni| .mp .. =>by simp only[ab]
theorem mu:∀l:List PV,ae (λ_=>true) l=true
 |[]=>rfl
 |p::l=>by simp only[ae,ma p,mu l,Bool.and_self]
end
theorem oe (b:bh):ah (λ_=>true) b=true:=by cases b<;>simp[ah,ma,mu]
def tY (k k':Nat) (j:Nat):Nat:=if j=k then k' else j
def WX (k k':Nat) (s:St) (K:St->Prop):Prop:=
 match get s.bx k with
 |some b=>(get s.bx k'=none∧k<KB∧k'<KB∧k≠k')∧K {env:=iC (aI (tY k k')) s.env,bx:=put (iC (aZ (tY k k')) (del s.bx k)) k' (aZ (tY k k') b)}
 |none=>False
def Cx.mv (Γ:Cx) (k k':Nat) (b:bh):Cx:=
 {heap:=Γ.heap,ι:=λj=>if j=k' then Γ.ι k else Γ.ι j,bx:=put (iC (aZ (tY k k')) (del Γ.bx k)) k' (aZ (tY k k') b),ej:=Γ.ej}
theorem xe {k k':Nat} {b:bh} (fB:k≠k') (j:Nat):get (Γ.mv k k' b).bx j=if j=k' then some (aZ (tY k k') b)else if j=k then none else(get Γ.bx j).map (aZ (tY k k')):=by
 simp only[Cx.mv,fC,fZ,iX]
 by_cases h:k'=j
 ·subst h;simp
 ·have h':¬j=k':=λe=>h e.symm
  rw[if_neg h,if_neg h']
  by_cases h2:j=k
  ·simp[h2]
  ·simp[h2]
theorem ze {k k':Nat} {b:bh} (hg:get Γ.bx k=some b) (fB:k≠k') {x:Nat} (h:(Γ.mv k k' b).iM x):Γ.iM x:=by
 obtain⟨j,blk,h1,h2⟩:=h
 rw[xe fB]at h1
 simp only[Cx.mv]at h2
 by_cases hj:j=k'
 ·rw[if_pos hj]at h2;exact⟨k,b,hg,h2⟩
 ·rw[if_neg hj]at h1 h2
  by_cases ER:j=k
  ·rw[if_pos ER]at h1;cases h1
  ·rw[if_neg ER]at h1
   obtain⟨b0,g1,_⟩:=Option.map_eq_some_iff.1 h1
   exact⟨j,b0,g1,h2⟩
theorem DT {k k':Nat} {b:bh} (hg:get Γ.bx k=some b) (hf:get Γ.bx k'=none) (fB:k≠k'):sd (λ_=>true) (tY k k') Γ (Γ.mv k k' b) where
 heap:=rfl
 own x _ hn:=by
  rintro(h|h)
  ·exact hn (.inl (ze hg fB h))
  ·exact hn (.inr h)
 ref j blk _ hb:=by
  by_cases hj:j=k
  ·subst hj
   rw[hg]at hb;cases hb
   exact⟨aZ (tY j k') b,by rw[xe fB];simp[tY],j7 _ _,by simp[tY,Cx.mv]⟩
  ·have ER:j≠k':=by rintro rfl;rw[hf]at hb;cases hb
   exact⟨aZ (tY k k') blk,by rw[xe fB];simp[tY,hj,ER,hb],j7 _ _,by simp[tY,Cx.mv,hj,ER]⟩
theorem WY (hm:Mem Γ) {k k':Nat} {b:bh} (hg:get Γ.bx k=some b) (hf:get Γ.bx k'=none) (fB:k≠k'):Mem (Γ.mv k k' b) where
 blk j blk hb:=by
  rw[xe fB]at hb
  by_cases hj:j=k'
  ·rw[if_pos hj]at hb;cases hb
   have:=(hm.blk k b hg).aI (DT hg hf fB) (oe b)
   simpa[Cx.mv,hj]using this
  ·rw[if_neg hj]at hb
   by_cases ER:j=k
   ·rw[if_pos ER]at hb;cases hb
   ·rw[if_neg ER]at hb
    obtain⟨b0,g1,rfl⟩:=Option.map_eq_some_iff.1 hb
    have:=(hm.blk j b0 g1).aI (DT hg hf fB) (oe b0)
    have hι:(Γ.mv k k' b).ι j=Γ.ι j:=by simp[Cx.mv,hj]
    rw[hι];exact this
 inj i j x hi hj h1 h2:=by
  have back:∀y,(get (Γ.mv k k' b).bx y).isSome=true->(Γ.mv k k' b).ι y=some x->(get Γ.bx (if y=k' then k else y)).isSome=true∧Γ.ι (if y=k' then k else y)=some x∧(y≠k'->y≠k):=by
   intro y hy hx
   rw[xe fB]at hy
   simp only[Cx.mv]at hx
   by_cases G9:y=k'
   ·rw[if_pos G9]at hx⊢;exact⟨by simp[hg],hx,λh=>absurd G9 h⟩
   ·rw[if_neg G9]at hx hy⊢
    by_cases hy2:y=k
    ·rw[if_pos hy2]at hy;cases hy
    ·rw[if_neg hy2]at hy;exact⟨by simpa using hy,hx,λ_=>hy2⟩
  obtain⟨a1,a2,a3⟩:=back i hi h1
  obtain⟨c1,c2,c3⟩:=back j hj h2
  have:=hm.inj _ _ x a1 c1 a2 c2
  by_cases jg:i=k'
  ·by_cases tL:j=k'
   ·rw[jg,tL]
   ·rw[if_pos jg,if_neg tL]at this;exact absurd this.symm (c3 tL)
  ·by_cases tL:j=k'
   ·rw[if_neg jg,if_pos tL]at this;exact absurd this (a3 jg)
   ·rw[if_neg jg,if_neg tL]at this;exact this
 ej:=hm.ej
 apart x h hp:=hm.apart x (ze hg fB h) hp
 yI x cs h:=by
  obtain⟨h1,h2⟩:=hm.yI x cs h
  exact⟨λhb=>h1 (ze hg fB hb),h2⟩
theorem Kv {k k':Nat} {K:St->Prop} (hs:iB nt ds s Γ a) (hle:Le Γ0 Γ) (nK:HK Γ0) (h:WX k k' s K):rL nt ds Γ0 Γ a K:=by
 unfold WX at h
 split at h
 ·rename_i b hg
  obtain⟨⟨hf,WE,aCB,fB⟩,hK⟩:=h
  rw[←hs.bx]at hg hf
  refine⟨_,Γ.mv k k' b,⟨by simp[Cx.mv,hs.bx],hs.size,hs.defers,λj p hj=> ?_,WY hs.mem hg hf fB⟩,rfl,?_,hK⟩
  ·simp only[fZ]at hj
   obtain⟨q,g1,rfl⟩:=Option.map_eq_some_iff.1 hj
   exact(hs.env j q g1).aI (DT hg hf fB) (ma q)
  ·refine⟨hle.heap,λx hx h=>hle.iM x hx (ze hg fB h),hle.ej,hle.size,λj blk hj=> ?_⟩
   obtain⟨cI,h1,h2,h3⟩:=hle.ref j blk hj
   have tL:=nK j blk hj
   have hj1:j≠k:=by omega
   have ER:j≠k':=by omega
   refine⟨aZ (tY k k') cI,by rw[xe fB];simp[hj1,ER,h1],by rw[j7];exact h2,λht=> ?_⟩
   rw[j7]at ht
   obtain⟨g1,g2⟩:=h3 ht
   exact⟨by simp only[Cx.mv];rw[if_neg ER];exact g1,g2⟩
 ·exact h.elim
def IX (sz:Nat):PV:= .st sz (List.replicate sz .un)
@[simp] theorem aa3 (sz:Nat):(IX sz).width=sz:=rfl
theorem Fp:∀ {vs:List Value},(∀v∈vs,gF v=true)->aF Γ (List.replicate vs.length .un) vs
 |[],_=> .nil
 |v::vs,h=> .un (h v (by simp)) (Fp λx hx=>h x (by simp[hx]))
theorem CE {sz:Nat}:∀ {j:Nat} {vs:List Value},vs.length=j*sz->(∀v∈vs,gF v=true)->aF Γ (List.replicate j (IX sz)) vs
 |
  0,vs,h,_=>by
  have:vs=[]:=List.eq_nil_of_length_eq_zero (by simpa using h)
  subst this;exact .nil
 |
  j+1,vs,h,h1=>by
  rw[Nat.add_mul,Nat.one_mul]at h
  have hl:(vs.take sz).length=sz:=by rw[lJ];omega
  have hr:=aF.st (Γ:=Γ) sz (List.replicate sz .un) (by have:=Fp (Γ:=Γ) (vs:=vs.take sz) (λv hv=>h1 v (List.mem_of_mem_take hv));rwa [hl]at this) hl
   (CE (sz:=sz) (j:=j) (vs:=vs.drop sz) (by rw[List.length_drop];omega) (λv hv=>h1 v (List.mem_of_mem_drop hv)))
  rw[List.take_append_drop]at hr
  exact hr
def mt1 (n:Nat) (s:St) (K:St->Prop):Prop:=
 match get s.env n with
 |
  some (.rs k [] 0 len aE sz .tip)=>(match get s.bx k with
  |some (.arr bL l)=>(bL=sz∧aE=l.length)∧∀c j:Nat,(c=l.length+j∨(c=0∧j=0∧len=0))->
    K {env:=put s.env n (.rs k [] 0 len (l.length+j) sz (.full c)),bx:=put s.bx k (.arr sz (l++List.replicate j (IX sz)))}
  |_=>False)
 |_=>False
theorem MN {l l':List PV} {b:Nat} (hm:Mem Γ) (hg:get Γ.bx k=some (.arr sz l)) (hb:Γ.ι k=some b) (ht:l.length≤l'.length)
  (hr:Le Γ {Γ with bx:=put Γ.bx k (.arr sz l')}->(bh.arr sz l').wL {Γ with bx:=put Γ.bx k (.arr sz l')} (some b)):
  Le Γ {Γ with bx:=put Γ.bx k (.arr sz l')}∧Mem {Γ with bx:=put Γ.bx k (.arr sz l')}:=by
 have fb:∀j,get (put Γ.bx k (.arr sz l')) j=if k=j then some (.arr sz l')else get Γ.bx j:=λj=>fC _ _ _ _
 have nH:∀j,(get (put Γ.bx k (.arr sz l')) j).isSome=true->(get Γ.bx j).isSome=true:=by
  intro j hj
  rw[fb]at hj
  split at hj
  ·rename_i e;subst e;simp[hg]
  ·exact hj
 have hl:Le Γ {Γ with bx:=put Γ.bx k (.arr sz l')}:=by
  refine⟨λ_ _ _=>rfl,λb hb hm=> ?_,rfl,Nat.le_refl _,λj blk hj=> ?_⟩
  ·obtain⟨j,blk,h1,h2⟩:=hm
   have:=nH j (by rw[h1];rfl)
   obtain⟨b0,h3⟩:=Option.isSome_iff_exists.1 this
   exact⟨j,b0,h3,h2⟩
  ·by_cases e:k=j
   ·subst e
    rw[hg]at hj;cases hj
    exact⟨.arr sz l',by rw[fb,if_pos rfl],by simpa[bh.aE]using ht,λ_=>⟨rfl,λb hb cs e hh=>⟨cs,hh,rfl⟩⟩⟩
   ·exact⟨blk,by rw[fb,if_neg e];exact hj,Nat.le_refl _,λ_=>⟨rfl,λb hb cs e hh=>⟨cs,hh,rfl⟩⟩⟩
 refine⟨hl,λj blk hj=> ?_,λi j b hi hj h1 h2=>hm.inj i j b (nH i hi) (nH j hj) h1 h2,hm.ej,λb hb hp=>hm.apart b ?_ hp,hm.mR hl⟩
 ·rw[fb]at hj
  split at hj
  ·rename_i e;subst e;cases hj
   have:=hr hl
   rw[←hb]at this
   exact this
  ·exact(hm.blk j blk hj).mono hl (λb hb=>rfl)
 ·obtain⟨j,blk,h1,h2⟩:=hb
  have:=nH j (by rw[h1];rfl)
  obtain⟨b0,h3⟩:=Option.isSome_iff_exists.1 this
  exact⟨j,b0,h3,h2⟩
theorem Kw {n:Nat} {K:St->Prop} (hs:iB nt ds s Γ a) (hle:Le Γ0 Γ) (h:mt1 n s K):rL nt ds Γ0 Γ a K:=by
 unfold mt1 at h
 split at h
 case h_2=>exact h.elim
 rename_i k len aE sz he
 split at h
 case h_2=>exact h.elim
 rename_i bL l hg
 obtain⟨⟨rfl,rfl⟩,hK⟩:=h
 have lC:=hg
 rw[←hs.bx]at lC
 obtain⟨ad,bF,hv,ed⟩:=(hs.env n _ he).rs lC rfl
 obtain⟨mF,ky,lB⟩:=hs.mem.blk k _ lC
 have aCD:=ed
 unfold jC at ed
 cases hι:Γ.ι k with
 |
  none=>
  rw[hι]at ed
  obtain⟨rfl,rfl,_⟩:=ed
  have hK:=hK 0 0 (.inr ⟨rfl,rfl,rfl⟩)
  rw[List.replicate_zero,List.append_nil,Nat.add_zero]at hK
  have lr:=mq lC
  have q1:=hs.le (oK lr) (Ak hs.mem lr) (wM:=put s.bx k (.arr bL l)) (by rw[hs.bx])
  refine⟨{env:=put s.env n (.rs k [] 0 0 l.length bL (.full 0)),bx:=put s.bx k (.arr bL l)},{Γ with bx:=put Γ.bx k (.arr bL l)},⟨q1.bx,q1.size,q1.defers,λj p hj=> ?_,q1.mem⟩,rfl,hle.trans (oK lr),hK⟩
  simp only[fC]at hj
  split at hj
  ·rename_i e;subst e;cases hj
   rw[hv]
   simp only[aP]
   refine .rs k [] 0 0 l.length bL _ _ (.arr bL l) ⟨by rw[lr];exact lC,by simp[bh.aE]⟩ rfl (λ_=>⟨ad,0,rfl,?_⟩) .nil
   unfold jC
   rw[show({Γ with bx:=put Γ.bx k (.arr bL l)}:Cx).ι k=none from hι]
   exact⟨rfl,rfl,rfl⟩
  ·exact q1.env j p hj
 |
  some b=>
  rw[hι]at ed lB
  obtain⟨o1,o2,_,o4⟩:=ed
  obtain⟨_,G8,e0,q1,q2⟩:=o4 rfl
  obtain⟨c,ce,cs,rest,h7,h8,h9,G7⟩:=lB
  rw[q1]at h7
  simp only[sJ,Obj.cells.injEq]at h7
  obtain⟨rfl,rfl,_⟩:=h7
  have tx:cs.length=l.length*bL:=by rw[h9.length,bY mF]
  have Pr:G8.size=cs.length+rest.length:=by rw[←Array.length_toList,h8];simp
  rw[Nat.zero_add]at q2
  have hlr:l.length≤bF:=by
   refine Nat.le_of_not_lt λgG=> ?_
   have:bF*bL<l.length*bL:=Nat.mul_lt_mul_of_pos_right gG ky
   omega
  obtain⟨j,rfl⟩:∃j,bF=l.length+j:=⟨bF-l.length,by omega⟩
  have JX:rest.length=j*bL:=by rw[Nat.add_mul]at q2;omega
  have hK:=hK (l.length+j) j (.inl rfl)
  have E3:(l++List.replicate j (IX bL)).length=l.length+j:=by simp
  obtain⟨g1,g2⟩:=MN (l':=l++List.replicate j (IX bL)) hs.mem lC hι (by rw[E3];omega) (λhl=>
   ⟨λx hx=>(List.mem_append.1 hx).elim (mF x) (λhx=>by rw[(List.mem_replicate.1 hx).2];rfl),ky,G8,e0,cs++rest,[],q1,by rw[List.append_nil];exact h8,(h9.mono hl).append (CE JX G7),by simp⟩)
  have t1:=hs.le g1 g2 (wM:=put s.bx k (.arr bL (l++List.replicate j (IX bL)))) (by rw[hs.bx])
  refine⟨{env:=put s.env n (.rs k [] 0 len (l.length+j) bL (.full (l.length+j))),bx:=put s.bx k (.arr bL (l++List.replicate j (IX bL)))},_,⟨t1.bx,t1.size,t1.defers,λi p hj=> ?_,g2⟩,rfl,hle.trans g1,hK⟩
  simp only[fC]at hj
  split at hj
  ·rename_i e;subst e;cases hj
   rw[hv]
   simp only[aP]
   refine .rs k [] 0 len _ bL _ _ (.arr bL (l++List.replicate j (IX bL))) ⟨by simp[dD],by simp[bh.aE]⟩ rfl (λ_=>⟨ad,_,rfl,?_⟩) .nil
   unfold jC
   rw[show({Γ with bx:=put Γ.bx k (.arr bL (l++List.replicate j (IX bL)))}:Cx).ι k=some b from hι]
   exact⟨o1,o2,rfl,λhc=>by cases hc⟩
  ·exact t1.env i p hj
inductive Cut
 |fz (k:Nat)
 |dr (k:Nat)
 |keep (sl:List Nat)
 |vt (n k sz:Nat)
 |wk (n:Nat)
 |wb (k:Nat)
 |vb (b:Nat) (p:List Step) (k sz:Nat)
 |mv (k k':Nat)
 |mt (n:Nat)
def wk1 (n:Nat) (s:St) (K:St->Prop):Prop:=
 match get s.env n with
 |some p=>K {s with env:=put s.env n (wk p)}
 |none=>False
theorem Kx {n:Nat} {K:St->Prop} (hs:iB nt ds s Γ a) (hle:Le Γ0 Γ) (h:wk1 n s K):rL nt ds Γ0 Γ a K:=by
 unfold wk1 at h
 split at h
 ·rename_i p hp
  refine⟨{s with env:=put s.env n (Ab.wk p)},Γ,⟨hs.bx,hs.size,hs.defers,λj q hj=> ?_,hs.mem⟩,rfl,hle,h⟩
  simp only[fC]at hj
  split at hj
  ·rename_i hnj;subst hnj;cases hj;exact(hs.env _ p hp).wk
  ·exact hs.env j q hj
 ·exact h.elim
def wb1 (k:Nat) (s:St) (K:St->Prop):Prop:=
 match get s.bx k with
 |some (.box v)=>K {s with bx:=put s.bx k (.box (wk v))}
 |_=>False
theorem Ky {K:St->Prop} (hs:iB nt ds s Γ a) (hle:Le Γ0 Γ) (h:wb1 k s K):rL nt ds Γ0 Γ a K:=by
 unfold wb1 at h
 split at h
 ·rename_i v hg
  rw[←hs.bx]at hg
  have fb:∀j,get (put Γ.bx k (.box (Ab.wk v))) j=if k=j then some (.box (Ab.wk v))else get Γ.bx j:=λj=>fC _ _ _ _
  have nH:∀j,(get (put Γ.bx k (.box (Ab.wk v))) j).isSome=true->(get Γ.bx j).isSome=true:=by
   intro j hj
   rw[fb]at hj
   split at hj
   ·rename_i e;subst e;simp[hg]
   ·exact hj
  have hl:Le Γ {Γ with bx:=put Γ.bx k (.box (Ab.wk v))}:=by
   refine⟨λ_ _ _=>rfl,λb hb hm=> ?_,rfl,Nat.le_refl _,λj blk hj=> ?_⟩
   ·obtain⟨j,blk,h1,h2⟩:=hm
    have:=nH j (by rw[h1];rfl)
    obtain⟨b0,h3⟩:=Option.isSome_iff_exists.1 this
    exact⟨j,b0,h3,h2⟩
   ·by_cases e:k=j
    ·subst e
     rw[hg]at hj;cases hj
     exact⟨.box (Ab.wk v),by rw[fb,if_pos rfl],Nat.le_refl _,λ_=>⟨rfl,λb hb cs e hh=>⟨cs,hh,rfl⟩⟩⟩
    ·exact⟨blk,by rw[fb,if_neg e];exact hj,Nat.le_refl _,λ_=>⟨rfl,λb hb cs e hh=>⟨cs,hh,rfl⟩⟩⟩
  have hm:Mem {Γ with bx:=put Γ.bx k (.box (Ab.wk v))}:=by
   refine⟨λj blk hj=> ?_,λi j b hi hj h1 h2=>hs.mem.inj i j b (nH i hi) (nH j hj) h1 h2,hs.mem.ej,λb hb hp=>hs.mem.apart b ?_ hp,hs.mem.mR hl⟩
   ·rw[fb]at hj
    split at hj
    ·rename_i e;subst e;cases hj
     obtain⟨b,c,e,h1,h2,h3⟩:=hs.mem.blk _ _ hg
     exact⟨b,c,e,h1,h2,h3.wk.mono hl⟩
    ·exact(hs.mem.blk j blk hj).mono hl (λb hb=>rfl)
   ·obtain⟨j,blk,h1,h2⟩:=hb
    have:=nH j (by rw[h1];rfl)
    obtain⟨b0,h3⟩:=Option.isSome_iff_exists.1 this
    exact⟨j,b0,h3,h2⟩
  exact⟨{s with bx:=put s.bx k (.box (Ab.wk v))},_,⟨by simp[hs.bx],hs.size,hs.defers,λj q hj=>(hs.env j q hj).mono hl,hm⟩,rfl,hle.trans hl,h⟩
 ·exact h.elim
def vb1 (b:Nat) (p:List Step) (k sz:Nat) (s:St) (K:St->Prop):Prop:=
 match get s.bx b with
 |
  some (.box v)=>(match aQ v p,di v p (.rs k [] 0 0 0 sz .tip)with
  |some (.sl _ [] true),some v'=>(get s.bx k=none∧0<sz)∧K {s with bx:=put (put s.bx k (.arr sz [])) b (.box v')}
  |_,_=>False)
 |_=>False
theorem MO {v v':PV} (hm:Mem Γ) (hg:get Γ.bx k=some (.box v)) (hv:∀cs,aF Γ [v] cs->aF Γ [v'] cs):
  Le Γ {Γ with bx:=put Γ.bx k (.box v')}∧Mem {Γ with bx:=put Γ.bx k (.box v')}:=by
 have fb:∀j,get (put Γ.bx k (.box v')) j=if k=j then some (.box v')else get Γ.bx j:=λj=>fC _ _ _ _
 have nH:∀j,(get (put Γ.bx k (.box v')) j).isSome=true->(get Γ.bx j).isSome=true:=by
  intro j hj
  rw[fb]at hj
  split at hj
  ·rename_i e;subst e;simp[hg]
  ·exact hj
 have hl:Le Γ {Γ with bx:=put Γ.bx k (.box v')}:=by
  refine⟨λ_ _ _=>rfl,λb hb hm=> ?_,rfl,Nat.le_refl _,λj blk hj=> ?_⟩
  ·obtain⟨j,blk,h1,h2⟩:=hm
   have:=nH j (by rw[h1];rfl)
   obtain⟨b0,h3⟩:=Option.isSome_iff_exists.1 this
   exact⟨j,b0,h3,h2⟩
  ·by_cases e:k=j
   ·subst e
    rw[hg]at hj;cases hj
    exact⟨.box v',by rw[fb,if_pos rfl],Nat.le_refl _,λ_=>⟨rfl,λb hb cs e hh=>⟨cs,hh,rfl⟩⟩⟩
   ·exact⟨blk,by rw[fb,if_neg e];exact hj,Nat.le_refl _,λ_=>⟨rfl,λb hb cs e hh=>⟨cs,hh,rfl⟩⟩⟩
 refine⟨hl,λj blk hj=> ?_,λi j b hi hj h1 h2=>hm.inj i j b (nH i hi) (nH j hj) h1 h2,hm.ej,λb hb hp=>hm.apart b ?_ hp,hm.mR hl⟩
 ·rw[fb]at hj
  split at hj
  ·rename_i e;subst e;cases hj
   obtain⟨b,c,e,h1,h2,h3⟩:=hm.blk _ _ hg
   exact⟨b,c,e,h1,h2,(hv _ h3).mono hl⟩
  ·exact(hm.blk j blk hj).mono hl (λb hb=>rfl)
 ·obtain⟨j,blk,h1,h2⟩:=hb
  have:=nH j (by rw[h1];rfl)
  obtain⟨b0,h3⟩:=Option.isSome_iff_exists.1 this
  exact⟨j,b0,h3,h2⟩
theorem Kz {b:Nat} {p:List Step} {K:St->Prop} (hs:iB nt ds s Γ a) (hle:Le Γ0 Γ) (h:vb1 b p k sz s K):rL nt ds Γ0 Γ a K:=by
 unfold vb1 at h
 split at h
 case h_2=>exact h.elim
 rename_i v hg
 split at h
 case h_2=>exact h.elim
 rename_i z v' IE wQ
 obtain⟨⟨j2,iQ⟩,hK⟩:=h
 rw[←hs.bx]at j2 hg
 have hl:=sI Γ (.arr sz []) j2
 have hm:=Ah hs.mem j2 (blk:= .arr sz []) ⟨by simp,iQ,trivial⟩
 have hbk:b≠k:=by rintro rfl;rw[hg]at j2;simp at j2
 have hg2:get (Γ.md k (.arr sz [])).bx b=some (.box v):=by
  simp only[Cx.md];rw[cQ _ _ _ _ (λh=>hbk h.symm)];exact hg
 obtain⟨h1,h2⟩:=MO (v':=v') hm hg2 (by
  intro cs hc
  obtain⟨Ps,hr⟩:=qg p hc IE
  have hw:(PV.sl z [] true).width=1:=rfl
  rw[hw]at Ps hr
  obtain⟨x,hx⟩:∃x,(cs.drop (dj p)).take 1=[x]:=by
   have hlen:((cs.drop (dj p)).take 1).length=1:=by rw[lJ,List.length_drop];omega
   exact List.length_eq_one_iff.1 hlen
  rw[hx]at hr
  have QB:aF (Γ.md k (.arr sz [])) [.rs k [] 0 0 0 sz .tip] [x]:=by
   cases hr with
   |
    @sl _ _ cs _ _ _ ad bF h1 h2 h3 h4 h5 h6=>
    have hr0:bF=0:=h4 rfl
    subst hr0
    refine .rs k [] 0 0 0 sz .tip _ (.arr sz []) ⟨by simp[Cx.md,dD],by simp[bh.aE]⟩ rfl (λ_=>⟨ad,0,rfl,?_⟩) .nil
    unfold jC
    simp[Cx.md,nX]
  obtain⟨g1,g2,g3⟩:=z7 QB p hc wQ
  have e:bX cs (dj p) [x]=cs:=by
   unfold bX
   rw[←hx,lJ,List.length_drop,Nat.min_eq_left (by omega),List.append_assoc]
   rw[←List.drop_drop,List.take_append_drop,List.take_append_drop]
  rwa [e]at g3)
 refine⟨{s with bx:=put (put s.bx k (.arr sz [])) b (.box v')},_,⟨by simp[Cx.md,hs.bx],hs.size,hs.defers,λj q hj=>((hs.env j q hj).mono hl).mono h1,h2⟩,rfl,(hle.trans hl).trans h1,hK⟩
def jT:Cut->St->(St->Prop)->Prop
 | .fz k,s,K=>WV k s K
 | .dr k,s,K=>dr1 k s K
 | .keep sl,s,K=>K {s with env:=kE sl s.env}
 | .vt n k sz,s,K=>WW n k sz s K
 | .wk n,s,K=>wk1 n s K
 | .wb k,s,K=>wb1 k s K
 | .vb b p k sz,s,K=>vb1 b p k sz s K
 | .mv k k',s,K=>WX k k' s K
 | .mt n,s,K=>mt1 n s K
def iu:List Cut->St->(St->Prop)->Prop
 |[],s,K=>K s
 |c::r,s,K=>jT c s λs'=>iu r s' K
theorem mV {K:St->Prop} (nK:HK Γ0):∀(c:List Cut) {s:St} {Γ:Cx},iB nt ds s Γ a->Le Γ0 Γ->iu c s K->rL nt ds Γ0 Γ a K
 |[],s,Γ,hs,hle,h=>⟨s,Γ,hs,rfl,hle,h⟩
 |
  c::r,s,Γ,hs,hle,h=>by
  have:rL nt ds Γ0 Γ a λs'=>iu r s' K:=by
   cases c with
   |fz k=>exact Ks hs hle nK h
   |dr k=>exact Kt hs hle nK h
   |keep sl=>exact Hp hs hle h
   |vt n k sz=>exact Ku hs hle h
   |wk n=>exact Kx hs hle h
   |wb k=>exact Ky hs hle h
   |vb b p k sz=>exact Kz hs hle h
   |mv k k'=>exact Kv hs hle nK h
   |mt n=>exact Kw hs hle h
  obtain⟨s',Γ',h1,h2,h3,h4⟩:=this
  obtain⟨s2,Γ2,g1,g2,g3,g4⟩:=mV nK r h1 h3 h4
  exact⟨s2,Γ2,g1,by rw[g2,h2],g3,g4⟩
end Go.Ab
namespace Go.Ab
variable [eE]
variable {P:Program} {nt:Nat} {ds:List Deferred} {s s':St} {Γ:Cx} {a:Act} {w:World} {Q:Exit->Act->World->Prop} [iZ]
def Fq:bh:= .map 0 (.i .u8) (.i .u8) []
def Sub (b c:List (Nat×bh)):Prop:=∀k blk,get b k=some blk->get c k=some blk∨blk=Fq∧∃v,get c k=some (.box v)
theorem Sub.refl (b:List (Nat×bh)):Sub b b:=λ_ _ h=> .inl h
theorem Sub.trans {a b c:List (Nat×bh)} (h:Sub a b) (h':Sub b c):Sub a c:=by
 intro k blk hk
 rcases h k blk hk with h1|⟨h1,v,h2⟩
 ·exact h' k blk h1
 ·rcases h' k _ h2 with h3|⟨h3,_⟩
  ·exact .inr ⟨h1,v,h3⟩
  ·simp[Fq]at h3
theorem Fs (hb:Sub s.bx s'.bx) {p:PV} {K:Nat->List PV->Prop} (h:content s p K):content s' p K:=by
 cases p<;>simp only[content]at h⊢<;>first|exact h|skip
 rename_i k p off len aE sz c
 cases hg:get s.bx k with
 |none=>rw[hg]at h;exact h.elim
 |
  some b=>
  rw[hg]at h
  rcases hb k b hg with h1|⟨rfl,v1,h1⟩
  ·rw[h1];exact h
  ·rw[h1];simp only[Fq]at h⊢<;>exact h
theorem MP (hb:Sub s.bx s'.bx) {op:BinOp} {e:ET} {p q:PV} {K:PV->Prop} (h:qh s op e p q K):qh s' op e p q K:=by
 cases e<;>simp only[qh]at h⊢<;>first|exact h|skip
 cases p<;>cases q<;>simp only at h⊢<;>first|exact h|skip
 rename_i k _ _
 cases hg:get s.bx k with
 |none=>rw[hg]at h;exact h.elim
 |
  some b=>
  rw[hg]at h
  rcases hb k b hg with h1|⟨rfl,v1,h1⟩
  ·rw[h1];exact h
  ·rw[h1];simp only[Fq,bh.aE]at h⊢<;>exact h
theorem cS {g:Bool} {x:AX} {K K':PV->Prop} (hk:vg g s x K) (h:∀p,K p->K' p):vg g s x K':=by
 obtain⟨p,h1,h2⟩:=qp g s x K hk;exact h2 K' (h p h1)
theorem oN {p:PV} {K K':Int->Prop} (hk:mM p K) (h:∀n,K n->K' n):mM p K':=by
 obtain⟨n,h1,h2⟩:=pD p K hk;exact h2 K' (h n h1)
theorem Hq {g:Bool} {k:AK} {K:PV->Prop} (hb:Sub s.bx s'.bx) (h:eo s s' k.reads) (he:ev g s k K):ev g s' k K:=by
 cases k with
 |mv x=>simp only[ev]at he⊢;rw[aH h];exact he
 |pick c a b=>simp only[ev]at he⊢;rw[aH h.left.left,lE h.left.right,lE h.right];exact he
 |build z parts=>simp only[ev]at he⊢;rw[mT h];exact he
 |
  load agg w x=>
  simp only[ev]at he⊢;rw[aH h]
  refine cS he λp hp=> ?_
  cases p<;>simp only at hp⊢<;>first|exact hp|skip
  rename_i k _ _
  cases hg:get s.bx k with
  |none=>rw[hg]at hp;exact hp.elim
  |
   some b=>
   rw[hg]at hp
   rcases hb k b hg with h1|⟨rfl,v1,h1⟩
   ·rw[h1];exact hp
   ·rw[h1];simp only[Fq,mL]at hp⊢<;>exact hp
 |
  nilCheck x=>
  simp only[ev]at he⊢;rw[aH h]
  refine cS he λp hp=> ?_
  cases p<;>first|exact hp|(rename_i f _ _;cases f<;>exact hp)|skip
  rename_i k _ _
  simp only at hp⊢
  cases hg:get s.bx k with
  |none=>rw[hg]at hp;exact hp.elim
  |
   some b=>
   rw[hg]at hp
   rcases hb k b hg with h1|⟨rfl,v1,h1⟩
   ·rw[h1];exact hp
   ·rw[h1];simp only[Fq,bh.aE]at hp⊢<;>exact hp
 |bin op e x y=>simp only[ev]at he⊢;rw[aH h.left];refine cS he λp hp=> ?_;rw[aH h.right];exact cS hp λq hq=>MP hb hq
 |un op x=>simp only[ev]at he⊢;rw[aH h];exact he
 |convI k x=>simp only[ev]at he⊢;rw[aH h];exact he
 |convS x=>simp only[ev]at he⊢;rw[aH h];exact cS he λp hp=>Fs hb hp
 |mkFunc f a b=>simp only[ev]at he⊢;rw[ir h.left];simp only[ir h.right];exact he
 |
  slice k x lo hi mx=>
  have hx:=aH (g:=g) h.left
  have hl:=λn c=>Av (g:=g) h.right.left h.right.right.left n c
  have hm:=h.right.right.right
  cases k with
  |str=>simp only[ev,hx,hl]at he⊢;exact he
  |
   sl sz=>
   simp only[ev,hx,hl]at he⊢
   refine cS he λp hp=> ?_
   cases p<;>simp only at hp⊢<;>first|exact hp|skip
   ·cases mx with
    |none=>exact hp
    |some m=>simp only at hp⊢;rw[aH (x:=m) hm];exact hp
   ·rename_i k _ _ _ _ _ _
    cases hg:get s.bx k with
    |none=>rw[hg]at hp;exact hp.elim
    |
     some b=>
     rw[hg]at hp
     rcases hb k b hg with h1|⟨rfl,v1,h1⟩
     ·rw[h1]
      cases mx with
      |none=>exact hp
      |some m=>simp only at hp⊢;rw[aH (x:=m) hm];exact hp
     ·rw[h1];simp only[Fq,bh.aE]at hp⊢
      cases mx with
      |none=>exact hp
      |some m=>simp only at hp⊢;rw[aH (x:=m) hm];exact hp
  |
   ar n sz=>
   simp only[ev,hx,hl]at he⊢
   refine cS he λp hp=> ?_
   cases p<;>simp only at hp⊢<;>first|exact hp|skip
   rename_i k _ _
   cases hg:get s.bx k with
   |none=>rw[hg]at hp;exact hp.elim
   |
    some b=>
    rw[hg]at hp
    rcases hb k b hg with h1|⟨rfl,v1,h1⟩
    ·rw[h1];exact hp
    ·rw[h1];simp only[Fq,bh.aE]at hp⊢<;>exact hp
 |
  fieldA i off x=>
  simp only[ev]at he⊢;rw[aH h]
  refine cS he λp hp=> ?_
  cases p<;>simp only at hp⊢<;>first|exact hp|skip
  rename_i k _ _
  cases hg:get s.bx k with
  |none=>rw[hg]at hp;exact hp.elim
  |
   some b=>
   rw[hg]at hp
   rcases hb k b hg with h1|⟨rfl,v1,h1⟩
   ·rw[h1];exact hp
   ·rw[h1];simp only[Fq,bh.aE]at hp⊢<;>exact hp
 |
  s2a n sz x=>
  simp only[ev]at he⊢;rw[aH h]
  refine cS he λp hp=> ?_
  cases p<;>simp only at hp⊢<;>first|exact hp|skip
  rename_i k _ _ _ _ _ _
  cases hg:get s.bx k with
  |none=>rw[hg]at hp;exact hp.elim
  |
   some b=>
   rw[hg]at hp
   rcases hb k b hg with h1|⟨rfl,v1,h1⟩
   ·rw[h1];exact hp
   ·rw[h1];simp only[Fq,bh.aE]at hp⊢<;>exact hp
 |field i off agg w x=>simp only[ev]at he⊢;rw[aH h];exact he
 |
  indexA k x i=>
  have hx:=aH (g:=g) h.left
  have hi:=aH (g:=g) h.right
  cases k with
  |str=>simp only[ev]at he
  |
   sl sz=>
   simp only[ev,hx,hi]at he⊢
   refine cS he λp hp=>cS hp λq hq=>oN hq λj hj=> ?_
   cases p<;>simp only at hj⊢<;>first|exact hj|skip
   rename_i k _ _ _ _ _ _
   cases hg:get s.bx k with
   |none=>rw[hg]at hj;exact hj.elim
   |
    some b=>
    rw[hg]at hj
    rcases hb k b hg with h1|⟨rfl,v1,h1⟩
    ·rw[h1];exact hj
    ·rw[h1];simp only[Fq,bh.aE]at hj⊢<;>exact hj
  |
   ar n sz=>
   simp only[ev,hx,hi]at he⊢
   refine cS he λp hp=>cS hp λq hq=>oN hq λj hj=>⟨hj.1,?_⟩
   have hj:=hj.2
   cases p<;>simp only at hj⊢<;>first|exact hj|skip
   rename_i k _ _ _
   cases hg:get s.bx k with
   |none=>rw[hg]at hj;exact hj.elim
   |
    some b=>
    rw[hg]at hj
    rcases hb k b hg with h1|⟨rfl,v1,h1⟩
    ·rw[h1];exact hj
    ·rw[h1];simp only[Fq,bh.aE]at hj⊢<;>exact hj
 |index agg n w x i=>simp only[ev]at he⊢;rw[aH h.left,aH h.right];exact he
 |indexS x i=>simp only[ev]at he⊢;rw[aH h.left,aH h.right];exact he
 |extract i x=>simp only[ev]at he⊢;rw[lE h];exact he
 |
  len x=>
  simp only[ev]at he⊢;rw[aH h]
  refine cS he λp hp=> ?_
  cases p<;>simp only at hp⊢<;>first|exact hp|skip
  rename_i k _ _ _ _ _ _
  cases hg:get s.bx k with
  |none=>rw[hg]at hp;exact hp.elim
  |
   some b=>
   rw[hg]at hp
   rcases hb k b hg with h1|⟨rfl,v1,h1⟩
   ·rw[h1];exact hp
   ·rw[h1];simp only[Fq,bh.aE]at hp⊢<;>exact hp
 |
  cap x=>
  simp only[ev]at he⊢;rw[aH h]
  refine cS he λp hp=> ?_
  split at hp
  ·rename_i k p off len aE sz n
   cases hg:get s.bx k with
   |none=>rw[hg]at hp;exact hp.elim
   |
    some b=>
    rw[hg]at hp
    rcases hb k b hg with h1|⟨rfl,v1,h1⟩
    ·rw[h1];exact hp
    ·rw[h1];simp only[Fq,bh.aE]at hp⊢<;>exact hp
  ·exact hp.elim
 |lenS x=>simp only[ev]at he⊢;rw[aH h];exact he
 |lenC n=>simp only[ev]at he⊢;exact he
 |mm mx xs=>simp only[ev]at he⊢;rw[ir h];exact he
 |_=>simp only[ev]at he
def Qv (P:Program) (r:St) (o:AO) (v:PV):Prop:=∀s':St,Sub r.bx s'.bx->eo r s' o.reads->∀K':St->Prop,K' (s'.put o.dst v)->iN P s' o K'
theorem DU {o:AO} {K:St->Prop} (hq:o.quiet=true) (h:lq P s o K):
  ∃v,K (s.put o.dst v)∧∀s',Sub s.bx s'.bx->eo s s' o.k.reads->∀K':St->Prop,K' (s'.put o.dst v)->lq P s' o K':=by
 obtain⟨dst,guard,mg,k⟩:=o
 cases k with
 |call f args=>simp[AO.quiet]at hq
 |
  callq f args=>
  simp only[lq]at h⊢
  unfold nu at h
  obtain⟨pf,h,h1⟩:=qp _ _ _ _ h
  obtain⟨ps,h,h2⟩:=qZ _ _ _ _ h
  split at h
  case h_2=>exact h.elim
  rename_i fid first cap
  obtain⟨v,Cp,BH,hK⟩:=h
  refine⟨v,hK,λs' hb ha K' lh=> ?_⟩
  unfold nu
  rw[aH ha.left]
  refine h1 _ ?_
  rw[ir ha.right]
  exact h2 _ ⟨v,Cp,BH,lh⟩
 |
  buildSlice own sz z n parts=>
  simp only[AO.quiet,Bool.not_eq_true']at hq
  subst hq
  simp only[lq,oc,if_true]at h⊢
  simp only[ex]at h
  obtain⟨ps,h,h1⟩:=xa _ _ _ _ h
  split at h
  case h_2=>exact h.elim
  rename_i l hl
  simp only[fJ,if_false]at h
  refine⟨_,h,λs' hb ha K' lh=> ?_⟩
  simp only[ex]
  rw[mT ha]
  refine h1 _ ?_
  simp only[hl,fJ,if_false]
  exact lh
 |
  _=>
  first
  |(simp[AO.quiet,oc]at hq;done)
  |(simp only[lq,oc,fJ,if_false]at h⊢
    obtain⟨v,hK,hv⟩:=rK _ _ _ _ h
    refine⟨v,hK,λs' hb ha K' lh=> ?_⟩
    exact Hq hb ha (hv _ lh))
theorem sM {o:AO} {K:St->Prop} (hq:o.quiet=true) (h:iN P s o K):∃v,K (s.put o.dst v)∧Qv P s o v:=by
 unfold iN at h
 cases hg:o.guard with
 |
  none=>
  rw[hg]at h
  obtain⟨v,hK,hv⟩:=DU hq h
  refine⟨v,hK,λs' hb ha K' lh=> ?_⟩
  unfold iN;rw[hg]
  exact hv s' hb ha.right K' lh
 |
  some gw=>
  obtain⟨sl,want⟩:=gw
  rw[hg]at h
  simp only at h
  have fb:∀ {s':St},eo s s' o.reads->get s'.env sl=get s.env sl:=λha=>ha sl (by simp[AO.reads,hg])
  split at h
  ·rename_i b hb
   split at h
   ·rename_i hm
    obtain⟨v,hK,hv⟩:=rK _ _ _ _ h
    refine⟨_,hK,λs' mH ha K' lh=> ?_⟩
    unfold iN;rw[hg];simp only[fb ha,hb,hm,if_true]
    exact Hq mH ha.right (hv _ lh)
   ·rename_i hm
    by_cases ov:b=want
    ·obtain⟨v,hK,hv⟩:=DU hq (h.1 ov)
     refine⟨v,hK,λs' mH ha K' lh=> ?_⟩
     unfold iN;rw[hg];simp only[fb ha,hb,hm]
     exact⟨λ_=>hv s' mH ha.right K' lh,λhn=>absurd ov hn⟩
    ·refine⟨.un,h.2 ov,λs' mH ha K' lh=> ?_⟩
     unfold iN;rw[hg];simp only[fb ha,hb,hm]
     exact⟨λhn=>absurd hn ov,λ_=>lh⟩
  ·rename_i g b hb
   split at h
   ·rename_i hm
    obtain⟨v,hK,hv⟩:=rK _ _ _ _ h
    refine⟨_,hK,λs' mH ha K' lh=> ?_⟩
    unfold iN;rw[hg];simp only[fb ha,hb,hm,if_true]
    exact Hq mH ha.right (hv _ lh)
   ·rename_i hm
    by_cases ov:g=true∧b=want
    ·obtain⟨v,hK,hv⟩:=DU hq (h.1 ov.1 ov.2)
     refine⟨v,hK,λs' mH ha K' lh=> ?_⟩
     unfold iN;rw[hg];simp only[fb ha,hb,hm]
     exact⟨λ_ _=>hv s' mH ha.right K' lh,λhn=>absurd ov.2 (hn ov.1)⟩
    ·refine⟨.un,h.2 (λh1 h2=>ov ⟨h1,h2⟩),λs' mH ha K' lh=> ?_⟩
     unfold iN;rw[hg];simp only[fb ha,hb,hm]
     exact⟨λh1 h2=>absurd ⟨h1,h2⟩ ov,λ_=>lh⟩
  ·exact h.elim
end Go.Ab
namespace Go.Ab
variable [eE]
variable {P:Program} {nt:Nat} {ds:List Deferred} {s s':St} [iZ]
def rM (d:Option Nat) (s t:St):Prop:=∀n,d≠some n->get t.env n=get s.env n
theorem jm {k:Nat} {v:PV} {b:List (Nat×bh)}:rM (some k) s {env:=put s.env k v,bx:=b}:=by
 intro n hn
 rw[cQ]
 intro e;exact hn (by rw[e])
theorem kF {d:Option Nat} {v:PV} {b:List (Nat×bh)}:rM d s ({s with bx:=b}.put d v):=by
 cases d with
 |none=>intro n _;rfl
 |some k=>exact jm
theorem Ft {d:Option Nat} {b:List (Nat×bh)}:rM d s {s with bx:=b}:=λ_ _=>rfl
theorem mw {e k:Nat} {u v:PV} {b:List (Nat×bh)} (h:k≠e):({env:=put (put s.env e u) k v,bx:=b}:St)=St.put {env:=put s.env k v,bx:=b} (some e) u:=by
 simp only[St.put];rw[Ab.put_comm (Ne.symm h)]
theorem oO {e:Nat} {d:Option Nat} {u v:PV} {b:List (Nat×bh)} (h:d≠some e):St.put {s.put (some e) u with bx:=b} d v=St.put (St.put {s with bx:=b} d v) (some e) u:=by
 cases d with
 |none=>rfl
 |
  some k=>
  have:k≠e:=λh'=>h (by rw[h'])
  simp only[St.put];rw[Ab.put_comm (Ne.symm this)]
theorem yo {e:Nat} {u:PV} {p:PV}:content (s.put (some e) u) p=content s p:=tC rfl p
theorem IY {e:Nat} {u:PV} {str:Bool} {sz:Nat} {q:PV} {K:List PV->Prop}:src (s.put (some e) u) str sz q K=src s str sz q K:=by
 unfold src;simp only[yo]
theorem vz {e:Nat} {u:PV} {d:Option Nat} {sz bytes:Nat} {p:PV} {ys:List PV} {K:St->Prop} (hd:d≠some e) (h:gZ (s.put (some e) u) d sz bytes p ys K):
  gZ s d sz bytes p ys λt=>K (t.put (some e) u)∧rM d s t:=by
 cases d with
 |none=>exact h.elim
 |
  some k=>
  have hk:k≠e:=λh'=>hd (by rw[h'])
  unfold gZ at h⊢
  simp only at h⊢
  split at h
  ·refine⟨h.1,?_,jm⟩
   rw[←mw hk];exact h.2
  ·have mH:(s.put (some e) u).bx=s.bx:=rfl
   rw[mH]at h
   split at h
   ·refine⟨h.1,?_,jm⟩
    rw[←mw hk];exact h.2
   ·exact h.elim
  ·have mH:(s.put (some e) u).bx=s.bx:=rfl
   rw[mH]at h
   split at h
   ·refine⟨h.1,λhle=>⟨?_,jm⟩,λgG=>⟨?_,jm⟩⟩
    ·rw[←mw hk];exact h.2.1 hle
    ·rw[←mw hk];exact h.2.2 gG
   ·exact h.elim
  ·rw[yo]at h
   obtain⟨bL,l,h,h2⟩:∃bL l,_∧_:=by
    have:=h
    exact oL _ _ _ this
   exact h2 _ ⟨h.1,by rw[←mw hk];exact h.2,jm⟩
  ·exact h.elim
theorem Hr {e:Nat} {u:PV} {d:Option Nat} {sz bytes:Nat} {z p:PV} {m:Int} {K:St->Prop} (hd:d≠some e) (h:oI (s.put (some e) u) d sz bytes z p m K):
  oI s d sz bytes z p m λt=>K (t.put (some e) u)∧rM d s t:=by
 cases d with
 |none=>exact h.elim
 |
  some k=>
  have hk:k≠e:=λh'=>hd (by rw[h'])
  unfold oI at h⊢
  simp only at h⊢
  split at h
  ·have mH:(s.put (some e) u).bx=s.bx:=rfl
   rw[mH]at h
   split at h
   ·refine⟨h.1,?_,jm⟩
    rw[←mw hk];exact h.2
   ·exact h.elim
  ·exact h.elim
theorem tZ {e:Nat} {u:PV} {d:Option Nat} {sz:Nat} {p:PV} {ys:List PV} {K:St->Prop} (hd:d≠some e) (h:jD (s.put (some e) u) d sz p ys K):
  jD s d sz p ys λt=>K (t.put (some e) u)∧rM d s t:=by
 have mH:(s.put (some e) u).bx=s.bx:=rfl
 cases p<;>simp only[jD]at h⊢<;>first|exact h|skip
 rename_i k pth off len aE bL c
 rw[mH]at h
 split at h
 ·refine⟨h.1,?_,kF⟩
  rw[←oO hd];exact h.2
 ·rename_i v hv
  split at h
  ·rename_i sz'' n l hg
   split at h
   ·rename_i v' hs
    refine⟨h.1,?_,kF⟩
    rw[←oO hd];exact h.2
   ·exact h.elim
  ·exact h.elim
 ·exact h.elim
theorem MQ {e:Nat} {u:PV} {d:Option Nat} {k:AK} {K:St->Prop} (hd:d≠some e) (hr:e∉k.reads) (h:ex (s.put (some e) u) d k K):
  ex s d k λt=>K (t.put (some e) u)∧rM d s t:=by
 have ag:eo s (s.put (some e) u) k.reads:=eo.put (λj hj=>by cases hj;exact hr)
 have mH:(s.put (some e) u).bx=s.bx:=rfl
 cases k with
 |
  alloc z=>
  cases d with
  |none=>exact h.elim
  |
   some k=>
   have hk:k≠e:=λh'=>hd (by rw[h'])
   simp only[ex]at h⊢
   refine⟨h.1,?_,jm⟩
   rw[←mw hk];exact h.2
 |
  box x=>
  cases d with
  |none=>exact h.elim
  |
   some k=>
   have hk:k≠e:=λh'=>hd (by rw[h'])
   simp only[ex]at h⊢
   rw[aH ag]at h
   refine cS h λp hp=>⟨hp.1,?_,jm⟩
   rw[←mw hk];exact hp.2
 |
  buildSlice own sz z n parts=>
  simp only[ex]at h⊢
  rw[mT ag]at h
  obtain⟨ps,h,h1⟩:=xa _ _ _ _ h
  refine h1 _ ?_
  split at h
  ·split at h
   ·cases d with
    |none=>exact h.elim
    |
     some k=>
     have hk:k≠e:=λh'=>hd (by rw[h'])
     rename_i l hl ho
     simp only[hl,if_true]
     refine⟨h.1,?_,jm⟩
     rw[←mw hk];exact h.2
   ·rename_i l hl ho
    simp only[if_neg ho]
    refine⟨?_,kF (b:=s.bx)⟩
    have:=oO (s:=s) (b:=s.bx) (u:=u) (v:= .sl sz l true) hd
    exact this▸h
  ·exact h.elim
 |
  makeSlice sz bytes z len cap=>
  cases d with
  |
   none=>
   simp only[ex]at h
   obtain⟨p,h,_⟩:=qp _ _ _ _ h
   obtain⟨l,h,_⟩:=pD _ _ h
   obtain⟨q,h,_⟩:=qp _ _ _ _ h
   obtain⟨c,h,_⟩:=pD _ _ h
   exact h.elim
  |
   some k=>
   have hk:k≠e:=λh'=>hd (by rw[h'])
   simp only[ex]at h⊢
   rw[aH ag.left]at h
   refine cS h λp hp=>oN hp λl hl=> ?_
   rw[aH ag.right]at hl
   refine cS hl λq hq=>oN hq λc hc=>⟨hc.1,?_,jm⟩
   rw[←mw hk];exact hc.2
 |
  store n x y=>
  simp only[ex]at h⊢
  rw[aH ag.left]at h
  refine cS h λp hp=> ?_
  rw[aH ag.right]at hp
  refine cS hp λv hv=> ?_
  cases p<;>simp only at hv⊢
  rename_i k pth aE
  rw[mH]at hv
  split at hv
  ·split at hv
   ·exact⟨hv.1,hv.2,Ft⟩
   ·exact hv.elim
  ·exact hv.elim
 |
  isNil ng x=>
  simp only[ex]at h⊢
  rw[aH ag]at h
  refine cS h λp hp=> ?_
  cases p<;>simp only at hp⊢
  ·intro b hb
   refine⟨?_,kF (b:=s.bx)⟩
   have:=oO (s:=s) (b:=s.bx) (u:=u) (v:= .bl (b !=ng)) hd
   exact this▸hp b hb
  ·rename_i k _ _ _ _ _ _
   rw[mH]at hp
   split at hp
   ·refine⟨hp.1,λb hb=>⟨?_,kF (b:=s.bx)⟩⟩
    have:=oO (s:=s) (b:=s.bx) (u:=u) (v:= .bl (b !=ng)) hd
    exact this▸hp.2 b hb
   ·exact hp.elim
 |
  appendZ sz bytes z x y=>
  simp only[ex]at h⊢
  rw[aH ag.left]at h
  refine cS h λp hp=> ?_
  rw[aH ag.right]at hp
  refine cS hp λq hq=>oN hq λm hm=>Hr hd hm
 |
  append sz bytes str x y=>
  simp only[ex]at h⊢
  rw[aH ag.left]at h
  refine cS h λp hp=> ?_
  rw[aH ag.right]at hp
  refine cS hp λq hq=> ?_
  rw[IY]at hq
  unfold src at hq⊢
  split at hq
  ·rename_i hs
   simp only[hs,if_true]
   cases q<;>simp only at hq⊢
   exact⟨hq.1,vz hd hq.2⟩
  ·rename_i hs
   simp only[hs]
   obtain⟨z,l,hq,h2⟩:=oL _ _ _ hq
   exact h2 _ ⟨hq.1,vz hd hq.2⟩
 |
  copy sz x y=>
  simp only[ex]at h⊢
  rw[aH ag.left]at h
  refine cS h λp hp=> ?_
  rw[aH ag.right]at hp
  refine cS hp λq hq=> ?_
  have TV:∀str,src (s.put (some e) u) str sz q (λys=>jD (s.put (some e) u) d sz p ys K)->src s str sz q (λys=>jD s d sz p ys λt=>K (t.put (some e) u)∧rM d s t):=by
   intro str hq
   rw[IY]at hq
   unfold src at hq⊢
   split at hq
   ·rename_i hs
    simp only[hs,if_true]
    cases q<;>simp only at hq⊢
    exact⟨hq.1,tZ hd hq.2⟩
   ·rename_i hs
    simp only[hs]
    obtain⟨z,l,hq,h2⟩:=oL _ _ _ hq
    exact h2 _ ⟨hq.1,tZ hd hq.2⟩
  cases q<;>exact TV _ hq
 |
  fill sz z x=>
  simp only[ex]at h⊢
  rw[aH ag]at h
  refine cS h λp hp=> ?_
  obtain⟨h1,h2⟩:=hp
  subst h1
  refine⟨rfl,?_⟩
  cases p<;>simp only at h2⊢<;>first|exact h2.elim|skip
  exact tZ hd h2
 |
  mkMap ks vs=>
  cases d with
  |none=>exact h.elim
  |
   some k=>
   have hk:k≠e:=λh'=>hd (by rw[h'])
   simp only[ex]at h⊢
   refine⟨h.1,λb=>⟨?_,jm⟩⟩
   rw[←mw hk];exact h.2 b
 |
  mapGet ks vs z ok m x=>
  simp only[ex]at h⊢
  rw[aH ag.left]at h
  refine cS h λpm hp=> ?_
  rw[aH ag.right]at hp
  refine cS hp λp hq=> ?_
  cases pm<;>simp only at hq⊢<;>first|exact hq.elim|skip
  rw[mH]at hq
  split at hq
  ·rename_i b' ks' vs' l hg
   refine⟨hq.1,?_,kF (b:=s.bx)⟩
   have:=oO (s:=s) (b:=s.bx) (u:=u) (v:=if ok=true then .tup [(WS p l).getD z,.bl (WS p l).isSome]else(WS p l).getD z) hd
   exact this▸hq.2
  ·exact hq.elim
 |
  mapSet ks vs m x y=>
  simp only[ex]at h⊢
  rw[aH ag.left]at h
  refine cS h λpm hp=> ?_
  rw[aH ag.right.left]at hp
  refine cS hp λp hq=> ?_
  rw[aH ag.right.right]at hq
  refine cS hq λv hv=> ?_
  cases pm<;>simp only at hv⊢<;>first|exact hv.elim|skip
  rw[mH]at hv
  split at hv
  ·exact⟨hv.1,hv.2,Ft⟩
  ·exact hv.elim
 |
  convL x=>
  simp only[ex]at h⊢
  rw[aH ag]at h
  refine cS h λp hp=> ?_
  cases p<;>simp only at hp⊢<;>first|exact hp.elim|skip
  rename_i k pth off len aE sz c
  rw[mH]at hp
  split at hp
  ·rename_i bL l hg
   refine⟨hp.1,?_,kF (b:=put s.bx k (.arr 1 (l++[.int .u8 0])))⟩
   have:=oO (s:=s) (b:=put s.bx k (.arr 1 (l++[.int .u8 0]))) (u:=u) (v:= .sl 1 l false) hd
   exact this▸hp.2
  ·exact hp.elim
 |
  convB x=>
  simp only[ex]at h⊢
  rw[aH ag]at h
  refine cS h λp hp=> ?_
  cases p<;>simp only at hp⊢<;>first|exact hp.elim|skip
  rename_i bs
  refine⟨?_,kF (b:=s.bx)⟩
  have:=oO (s:=s) (b:=s.bx) (u:=u) (v:= .sl 1 (bs.map u8) false) hd
  exact this▸hp
 |_=>exact h.elim
theorem Fu {e:Nat} {u:PV} {d:Option Nat} {f:AX} {args:List AX} {K:St->Prop} (hd:d≠some e) (hr:e∉(AK.call f args).reads) (h:lp P (s.put (some e) u) d f args K):
  lp P s d f args λt=>K (t.put (some e) u)∧rM d s t:=by
 have ag:eo s (s.put (some e) u) (AK.call f args).reads:=eo.put (λj hj=>by cases hj;exact hr)
 unfold lp at h⊢
 rw[aH ag.left]at h
 refine cS h λpf hpf=> ?_
 rw[ir ag.right]at hpf
 obtain⟨ps,hp,h2⟩:=qZ _ _ _ _ hpf
 refine h2 _ ?_
 split at hp
 ·obtain⟨ks,os,bm,R,a1,a2,a3,a4,a5,a6,a7⟩:=hp
  refine⟨ks,os,bm,R,a1,a2,a3,a4,a5,a6,λr fp hR=>⟨(a7 r fp hR).1,?_,kF⟩⟩
  rw[←oO hd]
  exact(a7 r fp hR).2
 ·obtain⟨bm,R,a1,a2,a3,a4,a5⟩:=hp
  refine⟨bm,R,a1,a2,a3,a4,λfp hR=>⟨(a5 fp hR).1,?_,kF⟩⟩
  rw[←oO hd]
  exact(a5 fp hR).2
 ·exact hp.elim
end Go.Ab
namespace Go.Ab
variable [eE]
variable {P:Program} {s:St} [iZ]
theorem zf {g:Bool} {k:AK} {K K':PV->Prop} (h:∀p,K p->K' p) (hk:ev g s k K):ev g s k K':=by
 obtain⟨p,h1,h2⟩:=rK g s k K hk;exact h2 K' (h p h1)
theorem gU {g:Bool} {x:AX} {K K':PV->Prop} (h:∀p,K p->K' p) (hk:vg g s x K):vg g s x K':=by
 obtain⟨p,h1,h2⟩:=qp g s x K hk;exact h2 K' (h p h1)
theorem Fv {g:Bool} {xs:List AX} {K K':List PV->Prop} (h:∀p,K p->K' p) (hk:tR g s xs K):tR g s xs K':=by
 obtain⟨p,h1,h2⟩:=qZ g s xs K hk;exact h2 K' (h p h1)
theorem MR {g:Bool} {xs:List (Nat×AX)} {K K':List (Nat×PV)->Prop} (h:∀p,K p->K' p) (hk:za g s xs K):za g s xs K':=by
 obtain⟨p,h1,h2⟩:=xa g s xs K hk;exact h2 K' (h p h1)
theorem xf {p:PV} {K K':Int->Prop} (h:∀p,K p->K' p) (hk:mM p K):mM p K':=by
 obtain⟨p,h1,h2⟩:=pD p K hk;exact h2 K' (h p h1)
theorem vA {p:PV} {K K':Nat->List PV->Prop} (h:∀a b,K a b->K' a b) (hk:content s p K):content s p K':=by
 obtain⟨a,b,h1,h2⟩:=oL s p K hk;exact h2 K' (h a b h1)
theorem AG {str:Bool} {sz:Nat} {q:PV} {K K':List PV->Prop} (h:∀p,K p->K' p) (hk:src s str sz q K):src s str sz q K':=by
 unfold src at hk⊢
 split at hk
 ·rename_i hs;rw[if_pos hs]
  split at hk
  ·exact⟨hk.1,h _ hk.2⟩
  ·exact hk.elim
 ·rename_i hs;rw[if_neg hs]
  exact vA (λa b hab=>⟨hab.1,h _ hab.2⟩) hk
theorem B8 {d:Option Nat} {sz b:Nat} {p:PV} {ys:List PV} {K K':St->Prop} (h:∀p,K p->K' p) (hk:gZ s d sz b p ys K):gZ s d sz b p ys K':=by
 unfold gZ at hk⊢
 split at hk
 ·exact hk.elim
 ·split at hk
  ·exact⟨hk.1,h _ hk.2⟩
  ·split at hk
   ·exact⟨hk.1,h _ hk.2⟩
   ·exact hk.elim
  ·split at hk
   ·exact⟨hk.1,λhle=>h _ (hk.2.1 hle),λgG=>h _ (hk.2.2 gG)⟩
   ·exact hk.elim
  ·exact vA (λa b hab=>⟨hab.1,h _ hab.2⟩) hk
  ·exact hk.elim
theorem Fw {d:Option Nat} {sz b:Nat} {z p:PV} {m:Int} {K K':St->Prop} (h:∀p,K p->K' p) (hk:oI s d sz b z p m K):oI s d sz b z p m K':=by
 unfold oI at hk⊢
 split at hk
 ·exact hk.elim
 ·split at hk
  ·split at hk
   ·exact⟨hk.1,h _ hk.2⟩
   ·exact hk.elim
  ·exact hk.elim
theorem sf {d:Option Nat} {sz:Nat} {p:PV} {ys:List PV} {K K':St->Prop} (h:∀p,K p->K' p) (hk:jD s d sz p ys K):jD s d sz p ys K':=by
 unfold jD at hk⊢
 split at hk
 ·split at hk
  ·exact⟨hk.1,h _ hk.2⟩
  ·split at hk
   ·split at hk
    ·exact⟨hk.1,h _ hk.2⟩
    ·exact hk.elim
   ·exact hk.elim
  ·exact hk.elim
 ·exact hk.elim
theorem QX {d:Option Nat} {k:AK} {K K':St->Prop} (h:∀p,K p->K' p) (hk:ex s d k K):ex s d k K':=by
 cases k with
 |alloc z=>simp only[ex]at hk⊢;split at hk;exact⟨hk.1,h _ hk.2⟩;exact hk.elim
 |box x=>simp only[ex]at hk⊢;split at hk;exact gU (λp hp=>⟨hp.1,h _ hp.2⟩) hk;exact hk.elim
 |
  buildSlice own sz z n parts=>
  simp only[ex]at hk⊢
  refine MR (λps hp=> ?_) hk
  split at hp
  ·split at hp
   ·rename_i ho;rw[if_pos ho]
    split at hp
    ·exact⟨hp.1,h _ hp.2⟩
    ·exact hp.elim
   ·rename_i ho;rw[if_neg ho];exact h _ hp
  ·exact hp.elim
 |
  makeSlice sz b z l c=>
  simp only[ex]at hk⊢
  refine gU (λp hp=>xf (λn hn=>gU (λq hq=>xf (λm hm=> ?_) hq) hn) hp) hk
  split at hm
  ·exact⟨hm.1,h _ hm.2⟩
  ·exact hm.elim
 |
  store n x y=>
  simp only[ex]at hk⊢
  refine gU (λp hp=>gU (λv hv=> ?_) hp) hk
  split at hv
  ·split at hv
   ·split at hv
    ·exact⟨hv.1,h _ hv.2⟩
    ·exact hv.elim
   ·exact hv.elim
  ·exact hv.elim
 |
  isNil ng x=>
  simp only[ex]at hk⊢
  refine gU (λp hp=> ?_) hk
  split at hp
  ·exact λb hb=>h _ (hp b hb)
  ·split at hp
   ·exact⟨hp.1,λb hb=>h _ (hp.2 b hb)⟩
   ·exact hp.elim
  ·exact hp.elim
 |
  append sz b str x y=>
  simp only[ex]at hk⊢
  exact gU (λp hp=>gU (λq hq=>AG (λys hy=>B8 h hy) hq) hp) hk
 |
  copy sz x y=>
  simp only[ex]at hk⊢
  refine gU (λp hp=>gU (λq hq=> ?_) hp) hk
  split at hq
  ·exact AG (λys hy=>sf h hy) hq
  ·exact AG (λys hy=>sf h hy) hq
 |
  appendZ sz b z x y=>
  simp only[ex]at hk⊢
  exact gU (λp hp=>gU (λq hq=>xf (λm hm=>Fw h hm) hq) hp) hk
 |
  fill sz z x=>
  simp only[ex]at hk⊢
  refine gU (λp hp=> ?_) hk
  obtain⟨h1,h2⟩:=hp
  refine⟨h1,?_⟩
  cases p<;>simp only at h2⊢<;>first|exact h2.elim|exact sf h h2
 |mkMap ks vs=>simp only[ex]at hk⊢;split at hk;exact⟨hk.1,λb=>h _ (hk.2 b)⟩;exact hk.elim
 |
  mapGet ks vs z ok m x=>
  simp only[ex]at hk⊢
  refine gU (λpm hp=>gU (λp hq=> ?_) hp) hk
  cases pm<;>simp only at hq⊢<;>first|exact hq.elim|skip
  split at hq
  ·exact⟨hq.1,h _ hq.2⟩
  ·exact hq.elim
 |
  mapSet ks vs m x y=>
  simp only[ex]at hk⊢
  refine gU (λpm hp=>gU (λp hq=>gU (λv hv=> ?_) hq) hp) hk
  cases pm<;>simp only at hv⊢<;>first|exact hv.elim|skip
  split at hv
  ·exact⟨hv.1,h _ hv.2⟩
  ·exact hv.elim
 |
  convL x=>
  simp only[ex]at hk⊢
  refine gU (λp hp=> ?_) hk
  cases p<;>simp only at hp⊢<;>first|exact hp.elim|skip
  split at hp
  ·exact⟨hp.1,h _ hp.2⟩
  ·exact hp.elim
 |
  convB x=>
  simp only[ex]at hk⊢
  refine gU (λp hp=> ?_) hk
  cases p<;>simp only at hp⊢<;>first|exact hp.elim|exact h _ hp
 |_=>simp only[ex]at hk
theorem Hs {d:Option Nat} {f:FuncId} {l:List PV} {ks os:List Nat} {K K':St->Prop} (h:∀p,K p->K' p) (hk:tB P s d f l ks os K):tB P s d f l ks os K':=by
 obtain⟨b,R,h1,h2,h3,h4,h5,h6,h7⟩:=hk
 exact⟨b,R,h1,h2,h3,h4,h5,h6,λr fp hr=>⟨(h7 r fp hr).1,h _ (h7 r fp hr).2⟩⟩
theorem Ht {d:Option Nat} {f:AX} {l:List AX} {K K':St->Prop} (h:∀p,K p->K' p) (hk:lp P s d f l K):lp P s d f l K':=by
 unfold lp at hk⊢
 refine gU (λpf hf=>Fv (λps hp=> ?_) hf) hk
 split at hp
 ·obtain⟨ks,os,hc⟩:=hp;exact⟨ks,os,Hs h hc⟩
 ·obtain⟨bm,R,a1,a2,a3,a4,a5⟩:=hp
  exact⟨bm,R,a1,a2,a3,a4,λfp hR=>⟨(a5 fp hR).1,h _ (a5 fp hR).2⟩⟩
 ·exact hp.elim
theorem Hu {d:Option Nat} {f:AX} {l:List AX} {K K':St->Prop} (h:∀p,K p->K' p) (hk:nu P s d f l K):nu P s d f l K':=by
 unfold nu at hk⊢
 refine gU (λpf hf=>Fv (λps hp=> ?_) hf) hk
 split at hp
 ·obtain⟨v,h1,h2,h3⟩:=hp;exact⟨v,h1,h2,h _ h3⟩
 ·exact hp.elim
theorem AH {o:AO} {K K':St->Prop} (h:∀p,K p->K' p) (hk:lq P s o K):lq P s o K':=by
 unfold lq at hk⊢
 split at hk
 ·exact Ht h hk
 ·exact Hu h hk
 ·split at hk
  ·rename_i he;rw[if_pos he];exact QX h hk
  ·rename_i he;rw[if_neg he];exact zf (λp hp=>h _ hp) hk
theorem fj {o:AO} {K K':St->Prop} (h:∀p,K p->K' p) (hk:iN P s o K):iN P s o K':=by
 unfold iN at hk⊢
 split at hk
 ·exact AH h hk
 ·split at hk
  ·split at hk
   ·rename_i hm;rw[if_pos hm];exact zf (λp hp=>h _ hp) hk
   ·rename_i hm;rw[if_neg hm];exact⟨λe=>AH h (hk.1 e),λe=>h _ (hk.2 e)⟩
  ·split at hk
   ·rename_i hm;rw[if_pos hm];exact zf (λp hp=>h _ hp) hk
   ·rename_i hm;rw[if_neg hm];exact⟨λe e'=>AH h (hk.1 e e'),λe=>h _ (hk.2 e)⟩
  ·exact hk.elim
end Go.Ab
namespace Go.Ab
variable [eE]
variable {P:Program} {nt:Nat} {ds:List Deferred} {s s':St} [iZ]
def AO.ij:AO->Option Nat
 |⟨some k,none,_,.alloc _⟩=>some k
 |_=>none
def AO.alq (y:AO):Bool:=y.guard.isNone&&(match y.k with| .call .. | .alloc _=>true|_=>false)
def rN (k:Nat) (z:PV) (s:St):St:= {env:=put s.env k (.pt k [] 0),bx:=put s.bx k (.box z)}
theorem MS {k:Nat} {z:PV} {l:List Nat} (h:k∉l):eo s (rN k z s) l:=by
 intro n hn
 simp only[rN]
 rw[cQ]
 rintro rfl;exact h hn
theorem sN {k:Nat} {b:bh}:∀ {ks:List Nat} {bx:List (Nat×bh)} {l:List bh},get bx k=none->getAll bx ks=some l->getAll (put bx k b) ks=some l
 |[],bx,l,_,h=>h
 |
  x::ks,bx,l,hn,h=>by
  simp only[getAll]at h⊢
  split at h
  ·rename_i u v hu hv
   have fB:k≠x:=by rintro rfl;rw[hn]at hu;simp at hu
   rw[cQ _ _ _ _ fB,hu,sN hn hv]
   exact h
  ·simp at h
theorem xg {k:Nat} {b:bh}:∀ {ks:List Nat} {bx:List (Nat×bh)} {l:List bh},k∉ks->bI (put bx k b) ks l=put (bI bx ks l) k b
 |[],bx,l,_=>by cases l<;>rfl
 |x::ks,bx,[],_=>rfl
 |
  x::ks,bx,y::l,h=>by
  simp only[bI]
  rw[Ab.put_comm (n:=k) (m:=x) (by rintro rfl;simp at h),xg (λh'=>h (by simp[h']))]
theorem re {k:Nat}:∀ {ks:List Nat} {bx:List (Nat×bh)} {l:List bh},get bx k=none->getAll bx ks=some l->k∉ks
 |[],_,_,_,_=>by simp
 |
  x::ks,bx,l,hn,h=>by
  simp only[getAll]at h
  split at h
  ·rename_i u v hu hv
   intro hm
   rcases List.mem_cons.1 hm with rfl|hm
   ·rw[hn]at hu;simp at hu
   ·exact re hn hv hm
  ·simp at h
theorem Uh {k:Nat} {z:PV} {d:Option Nat} {v:PV} {b:List (Nat×bh)} (hd:d≠some k):St.put {env:=put s.env k (.pt k [] 0),bx:=put b k (.box z)} d v=rN k z (St.put {s with bx:=b} d v):=by
 cases d with
 |none=>rfl
 |
  some j=>
  have:j≠k:=λh=>hd (by rw[h])
  simp only[St.put,rN]
  rw[Ab.put_comm (Ne.symm this)]
theorem MT {d:Option Nat} {f:FuncId} {args:List PV} {ks os:List Nat} {k:Nat} {z:PV} {K:St->Prop} (hd:d≠some k) (hn:get s.bx k=none) (h:tB P s d f args ks os λt=>get t.bx k=none∧K (rN k z t)):∃os',tB P (rN k z s) d f args ks os' K:=by
 obtain⟨bm,R,a1,a2,a3,a4,a5,a6,a7⟩:=h
 have hk:=re hn a1
 by_cases hR:∃r fp,R r fp
 ·obtain⟨r0,fp0,hR0⟩:=hR
  have WD:k∉os:=by
   intro hm
   obtain⟨⟨b1,_,_⟩,b2,_⟩:=a7 r0 fp0 hR0
   have e:({s with bx:=bI s.bx (ks++os) (fp0.map (aZ (eP (ks++os))))}.put d (aI (eP (ks++os)) r0)).bx=bI s.bx (ks++os) (fp0.map (aZ (eP (ks++os)))):=by cases d<;>rfl
   rw[e,qY k a2 (by simpa using b1)]at b2
   cases hi:idx (ks++os) k with
   |none=>exact Ff hi (by simp[hm])
   |
    some i=>
    rw[hi]at b2
    have:=(List.getElem?_eq_some_iff.1 (lL hi)).1
    simp at b2
    omega
  refine⟨os,bm,R,sN hn a1,a2,λo ho=> ?_,a4,a5,a6,λr fp hr=>⟨(a7 r fp hr).1,?_⟩⟩
  ·simp only[rN]
   rw[cQ]
   ·exact a3 o ho
   ·rintro rfl;exact WD ho
  ·have:=(a7 r fp hr).2.2
   simp only[rN]at this⊢
   rw[xg (by simp[hk,WD]),Uh hd]
   exact this
 ·exact⟨[],bm,R,sN hn a1,by simpa using(List.nodup_append.1 a2).1,by simp,a4,a5,a6,λr fp hr=>absurd ⟨r,fp,hr⟩ hR⟩
theorem MU {d:Option Nat} {f:AX} {args:List AX} {k:Nat} {z:PV} {K:St->Prop} (hd:d≠some k) (hn:get s.bx k=none) (hr:k∉(AK.call f args).reads) (h:lp P s d f args λt=>get t.bx k=none∧K (rN k z t)):lp P (rN k z s) d f args K:=by
 have ag:eo s (rN k z s) (AK.call f args).reads:=MS hr
 unfold lp at h⊢
 rw[aH ag.left]
 refine cS h λpf hpf=> ?_
 rw[ir ag.right]
 obtain⟨ps,hp,h2⟩:=qZ _ _ _ _ hpf
 refine h2 _ ?_
 split at hp
 ·obtain⟨ks,os,hc⟩:=hp
  obtain⟨os',Co⟩:=MT hd hn hc
  exact⟨ks,os',Co⟩
 ·obtain⟨bm,R,a1,a2,a3,a4,a5⟩:=hp
  have hk:=re hn a1
  refine⟨bm,R,sN hn a1,a2,a3,a4,λfp hR=>⟨(a5 fp hR).1,?_⟩⟩
  have:=(a5 fp hR).2.2
  simp only[rN]at this⊢
  rw[xg hk,Uh hd]
  exact this
 ·exact hp.elim
theorem Fx {x:AO} {k:Nat} (hx:x.ij=some k):∃z,x.dst=some k∧∀(s:St) (K:St->Prop),iN P s x K↔(get s.bx k=none∧K (rN k z s)):=by
 unfold AO.ij at hx
 split at hx
 ·rename_i k' mg z
  simp only[sJ]at hx;subst hx
  exact⟨z,rfl,λs K=>Iff.rfl⟩
 ·simp at hx
theorem MV {y:AO} {k:Nat} {z:PV} {K:St->Prop} (hy:y.alq=true) (hd:y.dst≠some k) (hr:k∉y.reads) (hn:get s.bx k=none) (h:iN P s y λt=>get t.bx k=none∧K (rN k z t)):iN P (rN k z s) y K:=by
 obtain⟨dst,guard,mg,ak⟩:=y
 unfold AO.alq at hy
 simp only[aJ]at hy
 cases guard with
 |some g=>simp at hy
 |
  none=>
  cases ak with
  |call f args=>exact MU hd hn (λh=>hr (by simp[AO.reads,h])) h
  |
   alloc z'=>
   cases dst with
   |none=>exact h.elim
   |
    some j=>
    have tL:j≠k:=λh=>hd (by rw[h])
    have h:get s.bx j=none∧get (rN j z' s).bx k=none∧K (rN k z (rN j z' s)):=h
    show get (rN k z s).bx j=none∧K (rN j z' (rN k z s))
    refine⟨by simp only[rN];rw[cQ _ _ _ _ (Ne.symm tL)];exact h.1,?_⟩
    have e:rN j z' (rN k z s)=rN k z (rN j z' s):=by
     simp only[rN];rw[Ab.put_comm (Ne.symm tL),Ab.put_comm (Ne.symm tL)]
    rw[e];exact h.2.2
  |_=>simp at hy
end Go.Ab
namespace Go.Ab
variable [eE]
variable {P:Program} {nt:Nat} {ds:List Deferred} {s s':St} [iZ]
def DV:List Nat->Bool
 |a::b::_=>a==b
 |_=>false
def tf (W:List Nat) (k:Nat) (b:bh):bh:=match b with| .box v=>if DV W=true∧W.contains k=true then Fq else .box v|b=>b
def St.less (s:St) (W:List Nat):St:= {s with bx:=(s.bx.filter λp=>DV W|| !W.contains p.1).map λp=>(p.1,tf W p.1 p.2)}
def Fr (W:List Nat) (s t:St):Prop:=∀k b,(DV W|| !W.contains k)=true->get s.bx k=some b->∃b',get t.bx k=some b'∧tf W k b'=tf W k b
theorem get_filter {c:Nat->Bool} (k:Nat):∀l:List (Nat×bh),get (l.filter λp=>c p.1) k=if c k=true then get l k else none
 |[]=>by simp[get]
 |
  (n,v)::r=>by
  have ih:=get_filter (c:=c) k r
  by_cases hn:c n=true
  ·rw[List.filter_cons_of_pos (by simpa using hn)]
   simp only[get,ih]
   by_cases hk:n=k
   ·subst hk;rw[if_pos rfl,if_pos hn,if_pos rfl]
   ·rw[if_neg hk,if_neg hk]
  ·rw[List.filter_cons_of_neg (by simpa using hn),ih]
   by_cases hk:n=k
   ·subst hk;rw[if_neg hn,if_neg hn]
   ·simp only[get,if_neg hk]
theorem IZ {W:List Nat} (k:Nat):∀l:List (Nat×bh),get (l.map λp=>(p.1,tf W p.1 p.2)) k=(get l k).map (tf W k)
 |[]=>rfl
 |
  (n,v)::r=>by
  simp only[List.map_cons,get]
  by_cases hk:n=k
  ·subst hk;simp
  ·rw[if_neg hk,if_neg hk];exact IZ k r
theorem AI {W:List Nat} (k:Nat):get (s.less W).bx k=if(DV W|| !W.contains k)=true then(get s.bx k).map (tf W k)else none:=by
 simp only[St.less,IZ]
 rw[get_filter (c:=λn=>DV W|| !W.contains n)]
 split<;>rfl
theorem MW (W:List Nat):Sub (s.less W).bx s.bx:=by
 intro k b h
 rw[AI]at h
 split at h
 ·cases hg:get s.bx k with
  |none=>rw[hg]at h;simp at h
  |
   some c=>
   rw[hg]at h
   simp only[Option.map_some,sJ]at h
   cases c with
   |
    box v=>
    simp only[tf]at h
    split at h
    ·exact .inr ⟨h.symm,v,rfl⟩
    ·exact .inl (by rw[h])
   |arr sz l=>exact .inl (by rw[←h];rfl)
   |map b ks vs l=>exact .inl (by rw[←h];rfl)
 ·simp at h
theorem I0 {W:List Nat} (h:Fr W s s'):Sub (s.less W).bx (s'.less W).bx:=by
 intro k b hk
 rw[AI]at hk
 split at hk
 ·rename_i hw
  cases hg:get s.bx k with
  |none=>rw[hg]at hk;simp at hk
  |
   some c=>
   obtain⟨b',h1,h2⟩:=h k c hw hg
   rw[hg]at hk
   left
   rw[AI,if_pos hw,h1,Option.map_some,h2]
   exact hk
 ·simp at hk
theorem MX {W:List Nat} {d:Option Nat} {v:PV}:(s.put d v).less W=(s.less W).put d v:=by cases d<;>rfl
theorem xh {W:List Nat} {d:Option Nat} {v:PV}:({((s.less W).put d v)with bx:=s.bx}:St)=s.put d v:=by cases d<;>rfl
def j1 (P:Program) (W:List Nat) (f:Bool) (s:St) (o:AO) (K:St->Prop):Prop:=
 if o.quiet=true then(if f=true then iN P (s.less W) o (λt=>K {t with bx:=s.bx})else iN P s o K)else iN P s o (λt=>(f=true->Fr W s t)∧K t)
def gA (aos:List AO) (s:St) (l:List Nat):Bool:=l.all λi=>match aos[i]?with|some o=>(match o.ij with|some k=>(get s.bx k).isNone|none=>true)|none=>true
def jt (P:Program) (aos:List AO) (fl:Nat->Bool) (W:List Nat) (s:St):List Nat->(St->Prop)->Prop
 |[],K=>K s
 |
  i::r,K=>match aos[i]?with
  |some o=>gA aos s (i::r)=true∧j1 P W (fl i) s o λt=>jt P aos fl W t r K
  |none=>False
theorem CF {aos:List AO} {fl:Nat->Bool} {W:List Nat} {K:St->Prop}:∀ {l:List Nat} {s:St},jt P aos fl W s l K->gA aos s l=true
 |[],s,_=>rfl
 |
  i::r,s,h=>by
  simp only[jt]at h
  split at h
  ·exact h.1
  ·exact h.elim
theorem qv {aos:List AO} {s s':St} (h:s'.bx=s.bx) (l:List Nat):gA aos s' l=gA aos s l:=by unfold gA;rw[h]
theorem hU {aos:List AO} {s:St} {i:Nat} {l:List Nat}:gA aos s (i::l)=(gA aos s [i]&&gA aos s l):=by simp[gA]
theorem xi {aos:List AO} {s:St} {l m:List Nat}:gA aos s (l++m)=(gA aos s l&&gA aos s m):=by simp[gA]
theorem I1 {aos:List AO} {s:St} {i j:Nat} {l m:List Nat} (h:gA aos s (j::(l++i::m))=true):gA aos s [j]=true∧gA aos s l=true∧gA aos s [i]=true∧gA aos s m=true:=by
 rw[hU (l:=l++i::m),xi,hU (l:=m)]at h
 simpa only[aJ]using h
theorem I2 {aos:List AO} {s:St} {j:Nat} {l m:List Nat} (h1:gA aos s [j]=true) (h2:gA aos s l=true) (h3:gA aos s m=true):gA aos s (j::(l++m))=true:=by
 rw[hU (l:=l++m),xi,h1,h2,h3];rfl
theorem CG {aos:List AO} {s:St} {i:Nat} {x:AO} {k:Nat} (hi:aos[i]? =some x) (hx:x.ij=some k):gA aos s [i]=true↔get s.bx k=none:=by simp[gA,hi,hx]
theorem sO {aos:List AO} {s:St} {i:Nat} {x:AO} (hi:aos[i]? =some x) (hx:x.ij=none):gA aos s [i]=true:=by simp[gA,hi,hx]
theorem kG {x:AO} (hx:x.quiet=true):x.ij=none:=by
 obtain⟨d,g,mg,k⟩:=x
 unfold AO.ij
 split
 ·simp_all [AO.quiet,oc]
 ·rfl
def th (W:List Nat) (f:Bool) (s:St):St:=if f=true then s.less W else s
theorem pF {W:List Nat} {f:Bool} {o:AO} {K:St->Prop} (hq:o.quiet=true) (h:j1 P W f s o K):∃v,K (s.put o.dst v)∧Qv P (th W f s) o v:=by
 unfold j1 at h
 rw[if_pos hq]at h
 cases f with
 |
  true=>
  simp only[if_true]at h
  obtain⟨v,h1,h2⟩:=sM hq h
  rw[xh]at h1
  exact⟨v,h1,h2⟩
 |
  false=>
  simp only[fJ,if_false]at h
  obtain⟨v,h1,h2⟩:=sM hq h
  exact⟨v,h1,h2⟩
theorem vB {W:List Nat} {f:Bool} {o:AO} {v:PV} {r:St} {K:St->Prop} (hq:o.quiet=true) (h:Qv P r o v) (hs:Sub r.bx (th W f s).bx) (ha:eo r s o.reads) (hk:K (s.put o.dst v)):j1 P W f s o K:=by
 unfold j1
 rw[if_pos hq]
 cases f with
 |
  true=>
  simp only[if_true]
  refine h _ hs ha _ ?_
  show K {((s.less W).put o.dst v)with bx:=s.bx}
  rw[xh];exact hk
 |
  false=>
  simp only[fJ,if_false]
  exact h _ hs ha _ hk
theorem Fy {W:List Nat} {f:Bool}:Sub (th W f s).bx s.bx:=by
 unfold th;split
 ·exact MW W
 ·exact Sub.refl _
theorem Fz {W:List Nat} {f:Bool} {d:Option Nat} {v:PV}:(th W f (s.put d v)).bx=(th W f s).bx:=by
 unfold th;split
 ·rw[MX,lx]
 ·rw[lx]
theorem AJ {W:List Nat} {f:Bool}:(th W f s).env=s.env:=by unfold th;split<;>rfl
theorem sP {W:List Nat} {f:Bool} {l:List Nat} (h:eo s s' l):eo (th W f s) s' l:=by
 intro n hn;rw[AJ];exact h n hn
def AK.jU:AK->Bool
 | .mv _| .extract _ _| .mm _ _| .un _ _| .convI _ _| .field _ _ _ _ _| .build _ _=>true
 | .bin _ e _ _=>match e with| .ptr=>false|_=>true
 |_=>false
def AO.jU (o:AO):Bool:=o.guard.isNone&&o.k.jU
theorem MY {b:List (Nat×bh)} (x:AX):vx {s with bx:=b} x=vx s x:=by cases x<;>rfl
theorem DW {b:List (Nat×bh)} {g:Bool} (x:AX):vg g {s with bx:=b} x=vg g s x:=by
 funext K;unfold vg;rw[MY]
theorem I3 {b:List (Nat×bh)} {g:Bool}:∀(l:List AX),tR g {s with bx:=b} l=tR g s l
 |[]=>rfl
 |x::l=>by funext K;simp only[tR,DW,I3 l]
theorem I4 {b:List (Nat×bh)} {g:Bool}:∀(l:List (Nat×AX)),za g {s with bx:=b} l=za g s l
 |[]=>rfl
 |(n,x)::l=>by funext K;simp only[za,DW,I4 l]
theorem MZ {b:List (Nat×bh)} {o:BinOp} {e:ET} (he:(match e with| .ptr=>false|_=>true)=true) (p q:PV):qh {s with bx:=b} o e p q=qh s o e p q:=by
 funext K;cases e<;>first|rfl|simp at he
theorem WZ {b:List (Nat×bh)} {g:Bool} {k:AK} (hk:k.jU=true) (K:PV->Prop):ev g {s with bx:=b} k K=ev g s k K:=by
 cases k<;>first|(simp[AK.jU]at hk;done)|skip
 case bin o e x y=>
  simp only[ev,DW]
  simp only[AK.jU]at hk
  have:=λp q=>MZ (s:=s) (b:=b) (o:=o) hk p q
  simp only[this]
 all_goals simp only[ev,DW,I3,I4,MY]
theorem FA {k:AK} (h:k.jU=true):oc k=false:=by
 cases k<;>first|rfl|simp[AK.jU]at h
theorem yp {r:St} {o:AO} {v:PV} (hf:o.jU=true) (hv:Qv P r o v) (s':St) (ha:eo r s' o.reads) (K':St->Prop) (hk:K' (s'.put o.dst v)):iN P s' o K':=by
 have h:=hv {s' with bx:=r.bx} (Sub.refl _) ha (λt=>K' {t with bx:=s'.bx}) (by
  have e:({(({s' with bx:=r.bx}:St).put o.dst v)with bx:=s'.bx}:St)=s'.put o.dst v:=by cases o.dst<;>rfl
  show K' _
  rw[e];exact hk)
 obtain⟨dst,guard,mg,k⟩:=o
 have e:∀p,({(({s' with bx:=r.bx}:St).put dst p)with bx:=s'.bx}:St)=s'.put dst p:=by intro p;cases dst<;>rfl
 simp only[AO.jU,aJ,Option.isNone_iff_eq_none]at hf
 obtain⟨hg,E1⟩:=hf
 subst hg
 have hx:=FA E1
 cases k<;>first|(simp[AK.jU]at E1;done)|skip
 all_goals
  simp only[iN,lq,hx,fJ,if_false,WZ E1,e]at h⊢
  exact h
theorem CH {W:List Nat} {f:Bool} {o:AO} {v:PV} {r:St} {K:St->Prop} (hq:o.quiet=true) (hf:o.jU=true) (h:Qv P r o v) (ha:eo r s o.reads) (hk:K (s.put o.dst v)):j1 P W f s o K:=by
 unfold j1
 rw[if_pos hq]
 cases f with
 |
  true=>
  simp only[if_true]
  refine yp hf h (s.less W) (λn hn=>ha n hn) _ ?_
  show K {((s.less W).put o.dst v)with bx:=s.bx}
  rw[xh];exact hk
 |
  false=>
  simp only[fJ,if_false]
  exact yp hf h _ ha _ hk
def kH (aos:List AO) (fl:Nat->Bool) (j i:Nat):Bool:=match aos[j]?,aos[i]?with
 |some y,some x=>y.quiet&&y.dst.isSome&&y.apart x&&(x.quiet||y.jU||fl j&&fl i)|| !y.quiet&&y.alq&&(match x.ij with|some k=>y.dst !=some k&& !y.reads.contains k|none=>false)
 |_,_=>false
def rf (aos:List AO) (j i:Nat):Bool:=match aos[j]?,aos[i]?with
 |some y,some x=>(match y.ij,x.ij with|some a,some b=>a !=b|_,_=>true)
 |_,_=>true
theorem Hv {aos:List AO} {fl:Nat->Bool} {W:List Nat} {K:St->Prop} {i:Nat} {x:AO} (hi:aos[i]? =some x) (hx:x.quiet=true) (l2:List Nat):∀(l1:List Nat) (s:St),
  (∀j∈l1,kH aos fl j i=true)->jt P aos fl W s (l1++i::l2) K->∃v,jt P aos fl W (s.put x.dst v) (l1++l2) K∧Qv P s x v
 |
  [],s,_,h=>by
  simp only[List.nil_append,jt,hi]at h
  obtain⟨v,h1,h2⟩:=pF hx h.2
  exact⟨v,h1,λs' hb ha K' hk=>h2 s' (Fy.trans hb) (sP ha) K' hk⟩
 |
  j::l1,s,fu,h=>by
  have hp:=fu j (by simp)
  unfold kH at hp
  cases hy:aos[j]?with
  |none=>rw[hy]at hp;simp at hp
  |
   some y=>
   rw[hy,hi]at hp
   simp only[kG hx,Bool.and_false,Bool.or_false,aJ]at hp
   obtain⟨⟨⟨y9,_⟩,jc⟩,_⟩:=hp
   have h1:∀d,y.dst=some d->d∉x.reads:=λd hd=>by simp[AO.apart,hd]at jc;exact jc.1.1
   have h2:∀d,y.dst=some d->x.dst≠some d:=λd hd=>by simp[AO.apart,hd]at jc;exact jc.1.2
   have h3:∀d,x.dst=some d->d∉y.reads:=λd hd=>by simp[AO.apart,hd]at jc;exact jc.2
   simp only[List.cons_append,jt,hy]at h⊢
   obtain⟨n6,h⟩:=h
   obtain⟨v,h,hv⟩:=pF y9 h
   obtain⟨u,h,hu⟩:=Hv hi hx l2 l1 _ (λk hk=>fu k (by simp[hk])) h
   refine⟨u,⟨?_,vB y9 hv (by rw[Fz];exact Sub.refl _) (sP (eo.put h3)) ?_⟩,?_⟩
   ·have n6:=I1 n6
    rw[qv (lx _ _)]
    exact I2 n6.1 n6.2.1 n6.2.2.2
   ·rw[St.put_comm (λk hk he=>h2 k he hk)];exact h
   ·intro s' hb ha K' hk
    refine hu s' (by rw[lx];exact hb) (λn hn=> ?_) K' hk
    rw[ha n hn]
    exact((eo.put h1) n hn).symm
theorem xj {o:AO} {e:Nat} {u:PV} {K:St->Prop} (hq:o.quiet=false) (hd:o.dst≠some e) (hr:e∉o.k.reads) (h:lq P (s.put (some e) u) o K):lq P s o λt=>K (t.put (some e) u)∧rM o.dst s t:=by
 obtain⟨dst,guard,mg,k⟩:=o
 cases k with
 |call f args=>exact Fu hd hr h
 |callq f args=>simp[AO.quiet]at hq
 |
  _=>
  first
  |(simp[AO.quiet,oc]at hq;done)
  |(simp only[lq,oc,if_true]at h⊢;exact MQ hd hr h)
theorem sQ {o:AO} {e:Nat} {u:PV} {K:St->Prop} (hq:o.quiet=false) (hd:o.dst≠some e) (hr:e∉o.reads) (h:iN P (s.put (some e) u) o K):iN P s o λt=>K (t.put (some e) u)∧rM o.dst s t:=by
 have hrk:e∉o.k.reads:=λh=>hr (by simp[AO.reads,h])
 have E4:K ((s.put (some e) u).put o.dst .un)->K ((s.put o.dst .un).put (some e) u)∧rM o.dst s (s.put o.dst .un):=by
  intro hk
  refine⟨?_,kF (b:=s.bx)⟩
  have:=oO (s:=s) (b:=s.bx) (u:=u) (v:= .un) hd
  exact this▸hk
 have Px:∀(g:Bool) (s:St) K,ev g s o.k K->False:=by
  intro g s K h
  obtain⟨dst,guard,mg,k⟩:=o
  cases k<;>first|(simp[AO.quiet,oc]at hq;done)|(simp[ev]at h;done)
 unfold iN at h⊢
 cases hg:o.guard with
 |
  none=>
  rw[hg]at h
  exact xj hq hd hrk h
 |
  some gw=>
  obtain⟨sl,want⟩:=gw
  rw[hg]at h
  have Dp:get (s.put (some e) u).env sl=get s.env sl:=by
   simp only[St.put]
   rw[cQ]
   rintro rfl;exact hr (by simp[AO.reads,hg])
  simp only[Dp]at h⊢
  split at h
  ·split at h
   ·exact(Px _ _ _ h).elim
   ·rename_i hm
    rw[if_neg hm]
    exact⟨λe1=>xj hq hd hrk (h.1 e1),λe1=>E4 (h.2 e1)⟩
  ·split at h
   ·exact(Px _ _ _ h).elim
   ·rename_i hm
    rw[if_neg hm]
    exact⟨λe1 e2=>xj hq hd hrk (h.1 e1 e2),λe1=>E4 (h.2 e1)⟩
  ·exact h.elim
theorem FB {aos:List AO} {k:Nat} {z:PV} {i:Nat} {x:AO} (hi:aos[i]? =some x) (hx:x.ij=some k) {l:List Nat} (fB:∀j∈l,rf aos j i=true) (h:gA aos s l=true):gA aos (rN k z s) l=true:=by
 simp only[gA,List.all_eq_true]at h⊢
 intro j hj
 have h1:=h j hj
 have h2:=fB j hj
 unfold rf at h2
 rw[hi]at h2
 split
 ·rename_i y hy
  rw[hy]at h1 h2
  simp only at h1 h2⊢
  split
  ·rename_i b hb
   rw[hb]at h1 h2
   rw[hx]at h2
   simp only[bne_iff_ne,ne_eq]at h1 h2⊢
   simp only[rN]
   rw[cQ _ _ _ _ (λh=>h2 h.symm)]
   exact h1
  ·rfl
 ·rfl
theorem Ui {W:List Nat} {k:Nat} {z:PV} (hn:get s.bx k=none):Fr W s (rN k z s):=by
 intro j b _ hb
 refine⟨b,?_,rfl⟩
 simp only[rN]
 rw[cQ]
 ·exact hb
 ·rintro rfl;rw[hn]at hb;simp at hb
theorem M0 {W:List Nat} {k:Nat} {z:PV} {t:St} (h:Fr W s t):Fr W (rN k z s) (rN k z t):=by
 intro j b hw hb
 simp only[rN,fC]at hb⊢
 split
 ·rename_i e;rw[if_pos e]at hb;exact⟨b,hb,rfl⟩
 ·rename_i e;rw[if_neg e]at hb;exact h j b hw hb
theorem AL {aos:List AO} {fl:Nat->Bool} {W:List Nat} {K:St->Prop} {i:Nat} {x:AO} (hi:aos[i]? =some x) (hx:x.quiet=false) (l2:List Nat):∀(l1:List Nat) (s:St),
  (∀j∈l1,kH aos fl j i=true)->(∀j∈l1++l2,rf aos j i=true)->jt P aos fl W s (l1++i::l2) K->iN P s x λt=>(fl i=true->Fr W s t)∧jt P aos fl W t (l1++l2) K
 |
  [],s,_,_,h=>by
  simp only[List.nil_append,jt,hi]at h
  have h:=h.2
  unfold j1 at h
  rw[if_neg (by rw[hx];simp)]at h
  exact h
 |
  j::l1,s,fu,fB,h=>by
  have hp:=fu j (by simp)
  unfold kH at hp
  cases hy:aos[j]?with
  |none=>rw[hy]at hp;simp at hp
  |
   some y=>
   rw[hy,hi]at hp
   simp only[List.cons_append,jt,hy]at h⊢
   obtain⟨n6,h⟩:=h
   have n6:=I1 n6
   rcases Bool.or_eq_true_iff.1 hp with hp|hp
   ·simp only[aJ,hx,Bool.false_or]at hp
    obtain⟨⟨⟨y9,E2⟩,jc⟩,hff⟩:=hp
    obtain⟨e,he⟩:=Option.isSome_iff_exists.1 E2
    have h1:e∉x.reads:=by simp[AO.apart,he]at jc;exact jc.1.1
    have h2:x.dst≠some e:=by simp[AO.apart,he]at jc;exact jc.1.2
    have h3:∀d,x.dst=some d->d∉y.reads:=λd hd=>by simp[AO.apart,hd]at jc;exact jc.2
    rcases Bool.or_eq_true_iff.1 hff with hso|hff
    ·obtain⟨v,h,hv⟩:=pF y9 h
     have ih:=AL hi hx l2 l1 _ (λk hk=>fu k (by simp[hk])) (λk hk=>fB k (by simp only[List.cons_append,cJ];exact .inr hk)) h
     rw[he]at ih
     refine fj (λt ht=> ?_) (sQ hx h2 h1 ih)
     obtain⟨⟨hf,hk⟩,BS⟩:=ht
     refine⟨λTM=>λk b hw hb=>hf TM k b hw hb,?_,CH (r:=th W (fl j) s) y9 hso hv (λn hn=> ?_) (by rw[he];exact hk)⟩
     ·rw[hU,sO hy (kG y9),Bool.true_and]
      have:=CF hk
      rwa [qv (lx _ _)]at this
     ·rw[AJ];exact BS n (λhd=>h3 n hd hn)
    ·obtain⟨Py,TM⟩:=Bool.and_eq_true_iff.1 hff
     rw[Py]at h⊢
     obtain⟨v,h,hv⟩:=pF y9 h
     have ih:=AL hi hx l2 l1 _ (λk hk=>fu k (by simp[hk])) (λk hk=>fB k (by simp only[List.cons_append,cJ];exact .inr hk)) h
     rw[he]at ih
     refine fj (λt ht=> ?_) (sQ hx h2 h1 ih)
     obtain⟨⟨hf,hk⟩,BS⟩:=ht
     have hf':Fr W s t:=λk b hw hb=>hf TM k b hw hb
     refine⟨λ_=>hf',?_,vB (r:=s.less W) y9 (by simpa[th]using hv) (by simpa[th]using I0 hf') (λn hn=> ?_) (by rw[he];exact hk)⟩
     ·rw[hU,sO hy (kG y9),Bool.true_and]
      have:=CF hk
      rwa [qv (lx _ _)]at this
     ·exact BS n (λhd=>h3 n hd hn)
   ·simp only[aJ,Bool.not_eq_true']at hp
    obtain⟨⟨y9,hya⟩,hp⟩:=hp
    split at hp
    case h_2=>simp at hp
    rename_i k hk
    simp only[aJ,bne_iff_ne,ne_eq,Bool.not_eq_true',List.contains_eq_mem,decide_eq_false_iff_not]at hp
    obtain⟨z,aao,wR⟩:=Fx (P:=P) hk
    have hn:get s.bx k=none:=(CG hi hk).1 n6.2.2.1
    unfold j1 at h
    rw[if_neg (by rw[y9];simp)]at h
    have h':iN P s y λt=>get t.bx k=none∧(λt'=>(fl j=true->Fr W (rN k z s) t')∧jt P aos fl W t' (l1++l2) K) (rN k z t):=by
     refine fj (λt ht=> ?_) h
     obtain⟨hf,ht⟩:=ht
     have ih:=AL hi hx l2 l1 _ (λk hk=>fu k (by simp[hk])) (λk hk=>fB k (by simp only[List.cons_append,cJ];exact .inr hk)) ht
     obtain⟨i1,_,i3⟩:=(wR t _).1 ih
     exact⟨i1,λe=>M0 (hf e),i3⟩
    refine(wR s _).2 ⟨hn,λ_=>Ui hn,?_,?_⟩
    ·refine FB hi hk (λm hm=>fB m (by simpa using hm)) ?_
     exact I2 n6.1 n6.2.1 n6.2.2.2
    ·unfold j1
     rw[if_neg (by rw[y9];simp)]
     exact MV hya hp.1 hp.2 hn h'
end Go.Ab
namespace Go.Ab
variable [eE]
variable {P:Program} {nt:Nat} {ds:List Deferred} {s s':St} {Γ:Cx} {a:Act} {w:World} {Q:Exit->Act->World->Prop} [iZ]
def sR (ops:Array Oper):List Nat->List Nat->Bool
 |_,[]=>true
 |done,i::r=>(match ops[i]?with|some o=>(o.after.all λe=> !Region.binds .any e||done.contains e.on)|none=>false)&&sR ops (i::done) r
def rh (ms:List Nat) (aos:List AO) (fl:Nat->Bool):List Nat->Bool
 |[]=>true
 |j::r=>(r.all λi=>j !=i&&rf aos j i&&(DQ ms i j||kH aos fl j i))&&rh ms aos fl r
def sT (ops:Array Oper) (aos:List AO) (ord us:List Nat):Bool:=
 sR ops [] ord&&rh (jS ops.toList []) aos us.contains ord&&ord.length==ops.size&&(ord.all λi=>decide (i<ops.size))&&(List.range ops.size).all λi=>ord.contains i
theorem ri {ops:Array Oper}:∀(p:List Nat) (done:List Nat) {i:Nat} {q:List Nat},sR ops done (p++i::q)=true->∀o,ops[i]? =some o->∀e∈o.after,Region.binds .any e=true->e.on∈done∨e.on∈p
 |
  [],done,i,q,h,o,ho,e,he,hb=>by
  simp only[List.nil_append,sR,ho,aJ,Array.all_eq_true_iff_forall_mem]at h
  have:=h.1 e he
  simp[hb]at this
  exact .inl this
 |
  x::p,done,i,q,h,o,ho,e,he,hb=>by
  simp only[List.cons_append,sR,aJ]at h
  rcases ri p (x::done) h.2 o ho e he hb with h1|h1
  ·rcases List.mem_cons.1 h1 with h2|h2
   ·exact .inr (by simp[h2])
   ·exact .inl h2
  ·exact .inr (by simp[h1])
theorem rj {ms:List Nat} {aos:List AO} {fl:Nat->Bool}:∀ {l:List Nat},rh ms aos fl l=true->l.Pairwise λj i=>(j≠i∧rf aos j i=true)∧(DQ ms i j=true∨kH aos fl j i=true)
 |[],_=> .nil
 |
  j::r,h=>by
  simp only[rh,aJ,List.all_eq_true]at h
  refine .cons (λi hi=> ?_) (rj h.2)
  have:=h.1 i hi
  simpa using this
theorem mW {aos:List AO} {i j:Nat} (h:rf aos i j=true):rf aos j i=true:=by
 unfold rf at*
 cases h1:aos[i]? <;>cases h2:aos[j]? <;>simp only[h1,h2]at h⊢
 rename_i x y
 cases h3:x.ij<;>cases h4:y.ij<;>simp only[h3,h4,bne_iff_ne]at h⊢
 exact λe=>h e.symm
def pG (ops:Array Oper) (ord:List Nat):Bool:=
 sR ops [] ord&&ord.length==ops.size&&(ord.all λi=>decide (i<ops.size))&&(List.range ops.size).all λi=>ord.contains i
def vC (ops:Array Oper) (aos:List AO) (fl:Nat->Bool) (j i:Nat):Prop:=(j≠i∧rf aos j i=true)∧(DQ (jS ops.toList []) i j=true∨kH aos fl j i=true)
theorem aed {ro:Option Nat} {ops:Array Oper} {aos:List AO} {own sp:List Nat} {ord us:List Nat} {W:List Nat} (nW:∀(i:Nat) o,ops[i]? =some o->∃ao,aos[i]? =some ao∧nM P nt ops own sp true o=some ao) (ed:pG ops ord=true) {K:St->Prop}:
  ∀
   (n:Nat) (listed:Array Bool) {s:St} {Γ:Cx} {a:Act} {w:World},listed.size=ops.size->pX ops listed->(ord.filter λi=> !listed.getD i true).Pairwise (vC ops aos us.contains)->(ord.filter λi=> !listed.getD i true).length=n->
   iB nt ds s Γ a->w.heap=Γ.heap->As P Γ->jt P aos us.contains W s (ord.filter λi=> !listed.getD i true) K->Fh P nt ds Γ w K (Q .normal)->wpAnyIn (FW ro) 0 P .any ops Q n listed a w:=by
 simp only[pG,aJ,List.all_eq_true,decide_eq_true_eq,List.mem_range]at ed
 obtain⟨⟨⟨hE,_⟩,gG⟩,fu⟩:=ed
 have IK:∀listed:Array Bool,listed.size=ops.size->Region.ready .any ops listed=[]->(ord.filter λi=> !listed.getD i true)=[]:=by
  intro listed iQ hr
  cases hl:ord.filter λi=> !listed.getD i true with
  |nil=>rfl
  |
   cons i l=>
   exfalso
   obtain⟨p,q,IM,hp,hi,_⟩:=List.filter_eq_cons_iff.1 hl
   have hio:i<ops.size:=gG i (by rw[IM];simp)
   have:i∈Region.ready .any ops listed:=by
    rw[mem_ready]
    refine⟨by simpa using hi,ops[i],Array.getElem?_eq_getElem hio,λe he hb=> ?_⟩
    rw[IM]at hE
    rcases ri p [] hE _ (Array.getElem?_eq_getElem hio) e he hb with h1|h1
    ·simp at h1
    ·have h2:=hp _ h1
     have h3:e.on<listed.size:=by rw[iQ];exact gG _ (by rw[IM];simp[h1])
     simp[Array.getD_eq_getD_getElem?,Array.getElem?_eq_getElem h3]at h2⊢
     exact h2
   rw[hr]at this;simp at this
 intro n
 induction n with
 |
  zero=>
  intro listed s Γ a w iQ hc _ hn hs hw hY h hk
  have hl:=List.length_eq_zero_iff.1 hn
  rw[hl]at h
  refine⟨?_,hk _ _ _ _ hs hw (Le.refl Γ) (WF.refl w) h⟩
  rw[List.eq_nil_iff_forall_not_mem]
  intro i hi
  obtain⟨h1,o,ho,_⟩:=mem_ready.1 hi
  have:i∈ord.filter λi=> !listed.getD i true:=by
   rw[List.mem_filter]
   exact⟨by simpa using fu i (Array.getElem?_eq_some_iff.1 ho).1,by rw[h1];rfl⟩
  rw[hl]at this;simp at this
 |
  succ n ih=>
  intro listed s Γ a w iQ hc hPw hn hs hw hY h hk
  refine⟨λhr=> ?_,λi hi=> ?_⟩
  ·rw[IK listed iQ hr]at hn;simp at hn
  ·obtain⟨E4,o,ho,GX⟩:=mem_ready.1 hi
   have TW:=(Array.getElem?_eq_some_iff.1 ho).1
   obtain⟨ao,ES,htr⟩:=nW i o ho
   have jz:i∈ord.filter λi=> !listed.getD i true:=by
    rw[List.mem_filter];exact⟨by simpa using fu i TW,by rw[E4];rfl⟩
   obtain⟨l1,l2,hl⟩:=List.append_of_mem jz
   have QC:(l1++i::l2).Pairwise λj i=>(j≠i∧rf aos j i=true)∧(DQ (jS ops.toList []) i j=true∨kH aos us.contains j i=true):=by rw[←hl];exact hPw
   have zY:(l1++i::l2).Nodup:=QC.imp (λh=>h.1.1)
   have qT:ord.filter (λj=> !(listed.setIfInBounds i true).getD j true)=l1++l2:=by
    have e:(λj=> !(listed.setIfInBounds i true).getD j true)=λj=>(decide (j≠i))&& !listed.getD j true:=by
     funext j
     by_cases BZ:i=j
     ·subst BZ;simp[Array.getD_eq_getD_getElem?,uJ (by omega:i<listed.size)]
     ·rw[getD_set_ne true BZ];simp[Ne.symm BZ]
    rw[e,←List.filter_filter,hl,List.filter_append,List.filter_cons]
    simp only[ne_eq,not_true,decide_false,fJ,if_false]
    have Dr:=List.nodup_append.1 zY
    rw[List.filter_eq_self.2,List.filter_eq_self.2]
    ·intro x hx;simp;rintro rfl;exact(List.nodup_cons.1 Dr.2.1).1 hx
    ·intro x hx;simp;rintro rfl;exact Dr.2.2 x hx x (by simp) rfl
   rw[hl]at h hn
   have rQ:∀j∈l1,kH aos us.contains j i=true:=by
    intro j hj
    have h1:=(List.pairwise_append.1 QC).2.2 j hj i (by simp)
    rcases h1.2 with hb|hb
    ·exfalso
     have hjm:j∈ord.filter λi=> !listed.getD i true:=by rw[hl];simp[hj]
     obtain⟨hjo,TX⟩:=List.mem_filter.1 hjm
     have:=xd hc (Az hb) hi
     have y0:j<listed.size:=by rw[iQ];exact gG j hjo
     simp[Array.getD_eq_getD_getElem?,Array.getElem?_eq_getElem y0]at this TX
     rw[this]at TX;simp at TX
    ·exact hb
   have fB:∀j∈l1++l2,rf aos j i=true:=by
    intro j hj
    rcases List.mem_append.1 hj with hj|hj
    ·exact((List.pairwise_append.1 QC).2.2 j hj i (by simp)).1.2
    ·have h1:=(List.rel_of_pairwise_cons (List.pairwise_append.1 QC).2.1 hj).1.2
     exact mW h1
   have hf:iN P s ao λt=>jt P aos us.contains W t (l1++l2) K:=by
    cases hx:ao.quiet with
    |
     true=>
     obtain⟨v,h1,h2⟩:=Hv ES hx l2 l1 s rQ h
     exact h2 s (Sub.refl _) (λ_ _=>rfl) _ h1
    |false=>exact fj (λt ht=>ht.2) (AL ES hx l2 l1 s rQ fB h)
   refine qt ho htr hs hw hY hf ?_
   intro s' Γ' a' w' b1 b2 b3 b4 b5
   refine ih (listed.setIfInBounds i true) (by simp[iQ]) ?_ (by rw[qT];exact QC.sublist (List.Sublist.append (List.Sublist.refl l1) (List.sublist_cons_self i l2))) (by rw[qT];simp at hn⊢;omega) b1 b2 (hY.le b3) (by rw[qT];exact b5) (hk.trans b3 b4)
   intro k ok rV rY e he hb
   by_cases BR:i=k
   ·subst BR;rw[ho]at rV;cases rV;exact getD_set_true (GX e he hb)
   ·rw[getD_set_ne true BR]at rY;exact getD_set_true (hc k ok rV rY e he hb)
theorem M1 {ops:Array Oper} {aos:List AO} {ord us:List Nat} (h:sT ops aos ord us=true):pG ops ord=true:=by
 simp only[sT,pG,aJ]at h⊢
 exact⟨⟨⟨h.1.1.1.1,h.1.1.2⟩,h.1.2⟩,h.2⟩
theorem ua {ro:Option Nat} {ops:Array Oper} {aos:List AO} {own sp:List Nat} {ord us:List Nat} {id:Nat} (hm:P.follows .mixedOrders=true) (ht:kU P nt ops own sp true ops.toList=some aos) (ed:sT ops aos ord us=true) {K:St->Prop} (hs:iB nt ds s Γ a) (hw:w.heap=Γ.heap)
  (hY:As P Γ) (h:∃W,jt P aos us.contains W s ord K) (hk:Fh P nt ds Γ w K (Q .normal)):(Code.region id ops true).wpIn (FW ro) 0 P Q a w:=by
 obtain⟨W,h⟩:=h
 obtain⟨h1,h2⟩:=oM ht
 have TY:=ed
 simp only[sT,aJ,List.all_eq_true,decide_eq_true_eq,List.mem_range,beq_iff_eq]at TY
 have e:(ord.filter λi=> !(Array.replicate ops.size false).getD i true)=ord:=by
  rw[List.filter_eq_self]
  intro i hi
  have:=TY.1.2 i hi
  simp[Array.getD_eq_getD_getElem?,this]
 refine wpIn_region_any hm (aed (s:=s) (Γ:=Γ) (K:=K) (W:=W) (λi o hi=>h2 i o (by simpa using hi)) (M1 ed) _ _ (by simp) ?_ (by rw[e];exact rj TY.1.1.1.2) (by rw[e];exact TY.1.1.2) hs hw hY (by rw[e];exact h) ?_)
 ·intro k o WD hl
  have:=(Array.getElem?_eq_some_iff.1 WD).1
  simp[Array.getD_eq_getD_getElem?,this]at hl
 ·intro s' Γ' a' w' b1 b2 b3 b4 b5
  exact hk s' Γ' a' w' b1 b2 b3 ⟨b4.os,b4.tape,b4.output⟩ b5
def M3 (ops:Array Oper) (done:List Nat) (i:Nat):Bool:= !done.contains i&&match ops[i]?with|some o=>o.after.all λe=> !Region.binds .any e||done.contains e.on|none=>false
def ub (aos:List AO) (i:Nat):Bool:=match aos[i]?with|some x=>x.quiet|none=>false
def W0 (ops:Array Oper) (aos:List AO):Nat->List Nat->List Nat
 |0,done=>done.reverse
 |
  n+1,done=>match (List.range ops.size).find? (λi=>M3 ops done i&&ub aos i)with
  |some i=>W0 ops aos n (i::done)
  |
   none=>match (List.range ops.size).find? (M3 ops done)with
   |some i=>W0 ops aos n (i::done)
   |none=>done.reverse
def soB (aos:List AO) (i:Nat):Bool:=match aos[i]?with|some x=>x.jU|none=>false
def early (ms:List Nat) (aos:List AO):List Nat->List Nat
 |[]=>[]
 |j::r=>if(ub aos j&& !soB aos j&&r.any λi=> !ub aos i&& !DQ ms i j)=true then j::early ms aos r else early ms aos r
def sg (ops:Array Oper) (aos:List AO):List Nat:=W0 ops aos ops.size []
def FC (ms:List Nat) (aos:List AO):List Nat->List Nat->List Nat
 |_,[]=>[]
 |done,i::r=>if(!ub aos i&&done.any λj=>ub aos j&& !soB aos j&& !DQ ms i j)=true then i::FC ms aos (i::done) r else FC ms aos (i::done) r
def zg (ops:Array Oper) (aos:List AO):List Nat:=early (jS ops.toList []) aos (sg ops aos)++FC (jS ops.toList []) aos [] (sg ops aos)
end Go.Ab
namespace Go.Ab
variable [eE]
variable {P:Program} {nt:Nat} {ds:List Deferred} {s:St} {Γ Γ0:Cx} {a:Act} {w w0:World}
def Cx.out (Γ:Cx) (ks:List Nat) (bm:List bh):Cx:=
 {
  heap:=Γ.heap,ι:=λk=>if KB≤k then(match ks[k-KB]?with|some j=>Γ.ι j|none=>none)else none,
  bx:=aG 0 (bm.map (aZ (aV ks))),ej:=Γ.ej}
theorem Cx.vD {ks:List Nat} {bm:List bh} (hg:getAll Γ.bx ks=some bm) {b:Nat}:(Γ.out ks bm).iM b↔∃(i:Nat) (k:Nat),ks[i]? =some k∧Γ.ι k=some b:=Cx.lY (Γ:=Γ) hg
theorem Cx.FD {ks:List Nat} {bm:List bh} (hg:getAll Γ.bx ks=some bm):sd (bj ks) (aV ks) Γ (Γ.out ks bm) where
 heap:=rfl
 own b hb hn:=by
  rintro(h|h)
  ·obtain⟨i,k,h1,h2⟩:=(Cx.vD hg).1 h
   obtain⟨_,fb⟩:=fc hg
   obtain⟨b',g1,_⟩:=fb _ _ h1
   exact hn (.inl ⟨k,b',g1,h2⟩)
  ·exact hn (.inr h)
 ref:=(Cx.ox hg).ref
theorem Cx.I5 (hm:Mem Γ) {ks:List Nat} {bm:List bh} (hg:getAll Γ.bx ks=some bm) (hn:ks.Nodup) (ed:bm.all (ah (bj ks))=true):Mem (Γ.out ks bm) where
 blk k blk hk:=by
  obtain⟨hl,fb⟩:=fc hg
  simp only[Cx.out,gp]at hk
  split at hk
  ·rename_i hle
   rw[List.getElem?_map,mJ]at hk
   obtain⟨b0,y7,rfl⟩:=hk
   have hi:=(List.getElem?_eq_some_iff.1 y7).1
   obtain⟨j,hj⟩:∃j,ks[k-KB]? =some j:=⟨_,gJ (by omega)⟩
   obtain⟨b1,g1,g2⟩:=fb _ _ hj
   simp only[Nat.sub_zero]at y7
   rw[y7]at g2;cases g2
   have:=(hm.blk j b0 g1).aI (Cx.FD hg) (List.all_eq_true.1 ed b0 (List.mem_of_getElem? y7))
   have e:(Γ.out ks bm).ι k=Γ.ι j:=by simp only[Cx.out];rw[if_pos (by omega),hj]
   rw[e];exact this
  ·simp at hk
 inj:=(Cx.vf hm hg hn ed).inj
 ej:=hm.ej
 apart b h hp:=by
  obtain⟨i,k,h1,h2⟩:=(Cx.vD hg).1 h
  obtain⟨_,fb⟩:=fc hg
  obtain⟨b',g1,_⟩:=fb _ _ h1
  exact hm.apart b ⟨k,b',g1,h2⟩ hp
 yI b cs h:=by
  obtain⟨h1,h2⟩:=hm.yI b cs h
  refine⟨λhb=>h1 ?_,h2⟩
  obtain⟨i,k,g1,g2⟩:=(Cx.vD hg).1 hb
  obtain⟨b',g3,_⟩:=(fc hg).2 i k g1
  exact⟨k,b',g3,g2⟩
theorem Cx.M4 {ks:List Nat} {bm fp:List bh} (hle:Le Γ0 Γ) (h0:Γ0.bx=aG 0 fp) (hg:getAll Γ.bx ks=some bm) (hks:ks.take fp.length=eU fp.length):Le Γ0 (Γ.out ks bm) where
 heap:=hle.heap
 iM b hb h:=by
  obtain⟨i,k,h1,h2⟩:=(Cx.vD hg).1 h
  obtain⟨_,fb⟩:=fc hg
  obtain⟨b',g1,_⟩:=fb _ _ h1
  exact hle.iM b hb ⟨k,b',g1,h2⟩
 ej:=hle.ej
 size:=hle.size
 ref k blk hk:=by
  obtain⟨cI,h1,h2,h3⟩:=hle.ref k blk hk
  rw[h0,gp]at hk
  split at hk
  ·rename_i WE
   have hi:=(List.getElem?_eq_some_iff.1 hk).1
   have e:ks[k-KB]? =some k:=by
    have:(ks.take fp.length)[k-KB]? =some k:=by
     rw[hks,eU,List.getElem?_map,List.getElem?_range (by omega)]
     simp;omega
    rw[List.getElem?_take]at this
    split at this
    ·exact this
    ·simp at this
   obtain⟨hl,fb⟩:=fc hg
   obtain⟨b1,g1,g2⟩:=fb _ _ e
   rw[h1]at g1;cases g1
   refine⟨aZ (aV ks) cI,?_,by rw[j7];exact h2,λht=> ?_⟩
   ·simp only[Cx.out,gp]
    rw[if_pos (by omega),List.getElem?_map,show k-KB-0=k-KB by omega,g2];rfl
   ·rw[j7]at ht
    obtain⟨h4,h5⟩:=h3 ht
    exact⟨by simp only[Cx.out];rw[if_pos (by omega),e];exact h4,h5⟩
  ·simp at hk
def zh (Q:Exit->St->Prop) (K:St->Prop):Exit->St->Prop
 | .normal,s=>K s
 |e,s=>Q e s
def M5 (id:Nat) (Q:Exit->St->Prop):Exit->St->Prop
 | .exit id',s=>if id'=id then Q .normal s else Q (.exit id') s
 |e,s=>Q e s
def lift (nt:Nat) (Γ0:Cx) (w0:World) (Q:Exit->St->Prop):Exit->Act->World->Prop:=
 λe a w=>∃ds s Γ,iB nt ds s Γ a∧lZ Γ0.heap.size Γ ds∧w.heap=Γ.heap∧Le Γ0 Γ∧WF w0 w∧Q e s
theorem AM {Q:Exit->St->Prop} {K:St->Prop} {e:Exit} (h:lift nt Γ0 w0 (zh Q K) e a w):Exit.then (lift nt Γ0 w0 (λ_=>K) .normal) (lift nt Γ0 w0 Q) e a w:=by
 cases e<;>exact h
theorem M6 {Q:Exit->St->Prop} {id:Nat} {e:Exit} (h:lift nt Γ0 w0 (M5 id Q) e a w):Exit.inBlock id (lift nt Γ0 w0 Q) e a w:=by
 cases e with
 |
  exit id'=>
  obtain⟨ds,s,Γ,h1,hd,h2,h3,h4,h5⟩:=h
  simp only[Exit.inBlock,M5]at h5⊢
  split at h5
  ·rename_i hid;rw[if_pos hid];exact⟨ds,s,Γ,h1,hd,h2,h3,h4,h5⟩
  ·rename_i hid;rw[if_neg hid];exact⟨ds,s,Γ,h1,hd,h2,h3,h4,h5⟩
 |_=>exact h
def I6 (P:Program) (fid:FuncId) (cap:List PV) (fp:List bh) (Y:List PV->List bh->(List bh->Prop)->Prop) (R:List bh->Prop):Prop:=
 (∀(vs:Array Value) (w:World),(callFunc fid vs).run P w= .ok (.enter fid vs) w)∧
 ∀
  (Γ:Cx) (w:World) (vs:List Value) (l:Nat) (rec:Loop),w.heap=Γ.heap->Mem Γ->Γ.bx=aG 0 fp->ie Γ cap vs->Γ.heap[l]? =some (.loop rec)->
  (∀args uT R1,Y args uT R1->MC P l Γ args uT R1)->
  CallsIn (FW none) 0 P fid (#[.func (.yield l) #[] #[]]++vs.toArray) w (λe w'=>∃v kS Γ',e= .returned v∧R kS∧w'.heap=Γ'.heap∧Mem Γ'∧Γ'.bx=aG 0 kS∧Le Γ Γ'∧WF w w')
def aee (n:Nat) (R:List bh->Prop) (s:St):Prop:=
 ∃c:List Cut,iu c s λs'=>∃bm,getAll s'.bx (eU n)=some bm∧bm.all (ah (fY n))=true∧R bm
def M7 (n:Nat) (R:List bh->Prop):Exit->St->Prop
 | .normal,s=>aee n R s
 |_,_=>False
def noQ:Exit->St->Prop:=λ_ _=>False
def xk (ks:List Nat):List (Nat×PV)->List (Nat×PV)
 |[]=>[]
 |(n,p)::r=>(n,if ab (bj ks) p=true then aI (aV ks) p else .un)::xk ks r
def FE:List (Nat×PV)->List Nat->List PV->List (Nat×PV)
 |e,t::ts,p::ps=>FE (put e t p) ts ps
 |e,_,_=>e
def DX (ks:List Nat) (s:St) (ps:List Nat) (args:List PV) (fp:List bh):St:=⟨FE (xk ks s.env) ps args,aG 0 fp⟩
def Hw [iZ] (P:Program) (A B:(Exit->St->Prop)->St->Prop) (s:St) (fid:FuncId) (cap:List PV) (ps:List Nat) (K:St->Prop):Prop:=
 (∀l a f r,¬iZ.spec l a f r)∧∃ks bm Y R,(getAll s.bx ks=some bm∧ks.Nodup∧ae (bj ks) cap=true∧bm.all (ah (bj ks))=true)∧
  I6 P fid (aO (aV ks) cap) (bm.map (aZ (aV ks))) Y R∧
  (∀args fp R1,Y args fp R1->(args.length=ps.length∧fp.length=ks.length)∧A (zh noQ λs'=>B (M7 ks.length R1) s') (DX ks s ps args fp))∧
  ∀fp,R fp->(fp.length=ks.length∧fp.all (ah (fY fp.length))=true)∧K {s with bx:=bI s.bx ks (fp.map (aZ (eP ks)))}
theorem ie.length:∀ {l:List PV} {vs:List Value},ie Γ l vs->vs.length=l.length
 |[],[],_=>rfl
 |[],_::_,h=>by simp[ie]at h
 |_::_,[],h=>by simp[ie]at h
 |_::_,_::_,h=>by simp[ie.length h.2]
theorem ie.mono {Γ':Cx} (hle:Le Γ Γ'):∀ {l:List PV} {vs:List Value},ie Γ l vs->ie Γ' l vs
 |[],[],_=>trivial
 |p::l,v::vs,h=>⟨h.1.mono hle,h.2.mono hle⟩
 |[],_::_,h=>h.elim
 |_::_,[],h=>h.elim
theorem AN {ks:List Nat} {k:Nat}:∀ {e:List (Nat×PV)} {q:PV},get (xk ks e) k=some q->q= .un∨∃p,get e k=some p∧ab (bj ks) p=true∧q=aI (aV ks) p
 |[],q,h=>by simp[xk,get]at h
 |
  (n,p)::r,q,h=>by
  simp only[xk,get]at h⊢
  split at h
  ·rename_i hn
   simp only[sJ]at h
   rw[if_pos hn]
   split at h
   ·rename_i hr;exact .inr ⟨p,rfl,hr,h.symm⟩
   ·exact .inl h.symm
  ·rename_i hn
   rw[if_neg hn]
   exact AN h
theorem FF:∀ {ps:List Nat} {args:List PV} {vs:List Value} {env:List (Nat×PV)} {tmps:Array Value},tmps.size=nt->(∀t∈ps,t<nt)->ie Γ args vs->args.length=ps.length->
  (∀k p,get env k=some p->aP Γ p (tmps.getD k undef))->
  ((ps.zip vs).foldl (λts (x:Nat×Value)=>ts.setIfInBounds x.1 x.2) tmps).size=nt∧∀k p,get (FE env ps args) k=some p->aP Γ p (((ps.zip vs).foldl (λts (x:Nat×Value)=>ts.setIfInBounds x.1 x.2) tmps).getD k undef)
 |[],[],vs,env,tmps,h1,h2,h3,h4,h5=>by simp only[List.zip_nil_left,List.foldl_nil,FE];exact⟨h1,h5⟩
 |[],_::_,_,_,_,_,_,_,h4,_=>by simp at h4
 |_::_,[],_,_,_,_,_,_,h4,_=>by simp at h4
 |t::ps,p::args,[],env,tmps,h1,h2,h3,h4,h5=>h3.elim
 |
  t::ps,p::args,v::vs,env,tmps,h1,h2,h3,h4,h5=>by
  simp only[List.zip_cons_cons,List.foldl_cons,FE]
  refine FF (by simpa using h1) (λx hx=>h2 x (by simp[hx])) h3.2 (by simpa using h4) ?_
  intro k q hk
  rw[fC]at hk
  split at hk
  ·rename_i e;subst e
   simp only[sJ]at hk;subst hk
   rw[Array.getD_eq_getD_getElem?,uJ (by rw[h1];exact h2 _ (by simp))]
   exact h3.1
  ·rename_i fB
   rw[Array.getD_eq_getD_getElem?,Array.getElem?_setIfInBounds_ne fB,←Array.getD_eq_getD_getElem?]
   exact h5 k q hk
theorem lZ.obj {B l:Nat} {o:Obj} {rec:Loop} (h:lZ B Γ ds) (hl:Γ.heap[l]? =some (.loop rec)):lZ B (Γ.obj l o) ds:=by
 obtain⟨Ds,h1,h2,h3⟩:=h
 refine⟨Ds,h1,h2,λD hD=>⟨(h3 D hD).1,?_⟩⟩
 have h4:=(h3 D hD).2
 have fB:D≠l:=by rintro rfl;rw[hl]at h4;simp at h4
 rw[jQ fB];exact h4
theorem FG [iZ] {g:Operand} {ps:Array Nat} {as bo:Code} {A B:(Exit->St->Prop)->St->Prop} {fid:FuncId} {cap:List PV} {Q:Exit->St->Prop}
  (hA:∀ {l:Nat} {Γ1:Cx} {w1:World} {Q:Exit->St->Prop} {s:St} {Γ:Cx} {a:Act} {w:World} {ds:List Deferred},HK Γ1->As P Γ1->A Q s->iB nt ds s Γ a->lZ Γ1.heap.size Γ ds->w.heap=Γ.heap->Le Γ1 Γ->WF w1 w->as.wpIn (FW (some l)) 0 P (lift nt Γ1 w1 Q) a w)
  (hB:∀ {l:Nat} {Γ1:Cx} {w1:World} {Q:Exit->St->Prop} {s:St} {Γ:Cx} {a:Act} {w:World} {ds:List Deferred},HK Γ1->As P Γ1->B Q s->iB nt ds s Γ a->lZ Γ1.heap.size Γ ds->w.heap=Γ.heap->Le Γ1 Γ->WF w1 w->bo.wpIn (FW (some l)) 0 P (lift nt Γ1 w1 Q) a w)
  (tv:∀t∈ps.toList,t<nt) (hs:iB nt ds s Γ a) (hd:lZ Γ0.heap.size Γ ds) (hw:w.heap=Γ.heap) (hle:Le Γ0 Γ) (pS:WF w0 w)
  (hg:aP Γ (.fn (.func fid) [] cap) (a.eval g)) (h:Hw P A B s fid cap ps.toList λs'=>Q .normal s'):
  (Code.rangeFunc g ps as bo).wpIn (FW none) 0 P (lift nt Γ0 w0 Q) a w:=by
 obtain⟨GW,ks,bm,Y,R,⟨hgk,hn,hrc,hrb⟩,⟨Cp,BH⟩,aat,hK⟩:=h
 have amU:∀Γ1,As P Γ1:=λΓ1 l a f r wQ=>absurd wQ (GW l a f r)
 obtain⟨cs,WB,BY⟩:∃cs:List Value,a.eval g= .func (.func fid) #[] cs.toArray∧ie Γ cap cs:=by
  simp only[aP]at hg
  generalize a.eval g=v at hg
  cases hg with
  | @fn _ _ fs cs _ _ _ h1 h2 h3 h4 _=>cases h1;exact⟨cs,rfl,od h2 h4⟩
 refine wpIn_rangeFunc λfn _=> ?_
 obtain⟨rec,y8⟩:∃rec:Loop,rec= {state:= .ready,pending:=none,fn,tmps:=a.tmps,params:=ps,assign:=as,body:=bo,defers:=w.heap.size}:=⟨_,rfl⟩
 have uN:rec.state= .ready:=by rw[y8]
 have amV:rec.pending=none:=by rw[y8]
 have hlb:w.heap.size=Γ.heap.size:=by rw[hw]
 obtain⟨l,hl⟩:∃l,l=w.heap.size+1:=⟨_,rfl⟩
 obtain⟨w1,yc⟩:∃w1,w1=(w.alloc (.deferred (some []))).alloc (.loop rec):=⟨_,rfl⟩
 obtain⟨Γ1,hΓ1⟩:∃Γ1,Γ1=(Γ.push (.deferred (some []))).push (.loop rec):=⟨_,rfl⟩
 have LZ:Le Γ Γ1:=by rw[hΓ1];exact(qW _ _).trans (qW _ _)
 have Qw:Mem Γ1:=by rw[hΓ1];exact mem_push (mem_push hs.mem _) _
 have aau:Γ1.bx=s.bx:=by rw[hΓ1];exact hs.bx
 have aav:w1.heap=Γ1.heap:=by rw[yc,hΓ1];simp[World.alloc,Cx.push,hw]
 have uO:Γ1.heap[l]? =some (.loop rec):=by
  rw[hΓ1,hl];simp only[Cx.push]
  rw[Array.getElem?_push,if_pos (by simp[hlb])]
 have hD1:Γ1.heap[w.heap.size]? =some (.deferred (some [])):=by
  rw[hΓ1];simp only[Cx.push]
  rw[Array.getElem?_push,if_neg (by simp[hlb]),Array.getElem?_push,if_pos hlb]
 have yG:iB nt ds s Γ1 a:=⟨by rw[aau],hs.size,hs.defers,λk p hk=>(hs.env k p hk).mono LZ,Qw⟩
 have aaw:getAll Γ1.bx ks=some bm:=by rw[aau];exact hgk
 have mG:=Cx.ox (Γ:=Γ1) aaw
 have hmc:=Cx.vf Qw aaw hn hrb
 have Wv:(Γ1.call ks bm).heap[l]? =some (.loop rec):=uO
 have Cq:ie (Γ1.call ks bm) (aO (aV ks) cap) cs:=by
  have:ie Γ1 cap cs:=BY.mono LZ
  exact this.aI mG hrc
 refine⟨l,[{target:= .collected w.heap.size,args:= #[]}],w1,{target:= .fn (.func fid) cs.toArray,args:= #[.func (.yield l) #[] #[]]},w1,fid,
  #[.func (.yield l) #[] #[]]++cs.toArray,w1,?_,?_,λ_ _=>trivial,?_,λh=>by simp[Fence.wide]at h,?_⟩
 ·rw[yc,y8,hl];exact run_enterLoop_outer _ _ _ _ _
 ·simp only[resolve,WB]
  simp[Deferred.ofValue]
  rfl
 ·simp only[invoke]
  exact Cp _ _
 ·refine(BH (Γ1.call ks bm) w1 cs l rec aav hmc rfl Cq Wv λargs fp R1 hY=> ?_).mono ?_
  ·--a round
   intro Γy wy vs hwy hmy aax WG awd hly
   obtain⟨⟨hlen,Py⟩,hAA⟩:=aat args fp R1 hY
   have hlr:Γy.heap[l]? =some (.loop rec):=by rw[hly];exact Wv
   have hkY:HK Γy:=by
    intro k blk hk
    rw[aax,gp]at hk
    split at hk
    ·omega
    ·simp at hk
   have hvl:vs.length=ps.toList.length:=by rw[WG.length,hlen]
   refine⟨fn,(ps.toList.zip vs).foldl (λts (x:Nat×Value)=>ts.setIfInBounds x.1 x.2) a.tmps,as,bo,?_,roundIn_of_wpIn trivial ?_⟩
   ·have:=run_yield (P:=P) (w:=wy) (l:=l) (r:=rec) (args:=vs.toArray) (by rw[hwy];exact hlr) (by rw[y8];simpa using hvl)
    rw[this,y8]
    congr 2
    rw[←Array.foldl_toList,Array.toList_zip]
   ·have wQ:=FF (Γ:=Γy) (env:=xk ks s.env) hs.size tv WG hlen (λk p hk=>by
     rcases AN hk with rfl|⟨q,h1,h2,rfl⟩
     ·simp[aP]
     ·exact((yG.env k q h1).aI mG h2).nY awd)
    have awe:iB nt [] (DX ks s ps.toList args fp) Γy {tmps:=(ps.toList.zip vs).foldl (λts (x:Nat×Value)=>ts.setIfInBounds x.1 x.2) a.tmps,defers:=[]}:=⟨aax,wQ.1,rfl,wQ.2,hmy⟩
    refine wpIn_mono (hA (l:=l) (w1:=wy) hkY (amU _) hAA awe .nil hwy (Le.refl _) (WF.refl _)) ?_
    rintro e a1 wa ⟨ds1,s1,Γa,hsa,hda,hwa,amX,awf,hBB⟩
    cases e with
    |
     normal=>
     have hla:Γa.heap[l]? =some (.loop rec):=amX.plain hmy hlr rfl
     refine⟨_,run_beginRound (by rw[hwa];exact hla) uN,?_⟩
     obtain⟨o,ho⟩:∃o:Obj,o= .loop {rec with state:= .busy}:=⟨_,rfl⟩
     rw[←ho]
     have hoc:Ug o=false:=by rw[ho];rfl
     have hpy:Γy.iW l:=⟨_,hlr,rfl⟩
     have hpa:Γa.iW l:=⟨_,hla,rfl⟩
     have hky:HK (Γy.obj l o):=hkY
     refine wpIn_mono (hB (l:=l) (Γ1:=Γy.obj l o) (w1:=wy) hky (amU _) hBB (hsa.obj hpa) (by rw[nr];exact hda.obj hla) (vj hwa) (yi amX hmy hpy hoc) (awf.trans (WF.obj _ _ _))) ?_
     rintro e a2 wb ⟨ds2,s2,Γb,hsb,hdb,hwb,awi,awj,hq⟩
     cases e with
     |
      normal=>
      obtain⟨c,hc⟩:=hq
      obtain⟨s3,Γ3,QD,hh3,amZ,J0,GY,aaz,hR3⟩:=mV hky c hsb awi hc
      rw[←QD.bx]at GY
      have hl3:Γ3.heap[l]? =some o:=amZ.plain (zd hmy hpy) (vh hpy.lt) hoc
      have awk:wb.heap[l]? =some (.loop {rec with state:= .busy}):=by rw[hwb,←hh3,hl3,ho]
      have hmo:=Cx.I5 QD.mem GY (n9 _) (by rw[pB];exact aaz)
      have IF:=Cx.M4 amZ (fp:=fp) (by exact aax) GY (by rw[Py,tJ (by simp[eU])])
      have hpo:(Γ3.out (eU ks.length) J0).iW l:=⟨o,hl3,hoc⟩
      have awm:=run_endRound (P:=P) (jump:=none) awk
      refine⟨_,_,awm,J0,(Γ3.out (eU ks.length) J0).obj l (.loop rec),rfl,hR3,?_,zd hmo hpo,?_,?_,awj.trans (WF.obj _ _ _)⟩
      ·have e1:({({rec with state:= .busy}:Loop)with state:=if(none:Option Code).isNone=true then .ready else .done,pending:=none}:Loop)=rec:=by
        rw[y8];rfl
       rw[e1]
       exact vj (by rw[hwb,←hh3];rfl)
      ·show aG 0 (J0.map (aZ (aV (eU ks.length))))=_
       rw[tU (λ_=>pC)]
      ·have:=yi (o:= .loop rec) IF (zd hmy hpy) (CB hpy hoc) rfl
       rwa [MA hlr]at this
     |_=>exact hq.elim
    |_=>exact hBB.elim
  ·--behind it
   rintro e w' ⟨v,kS,Γ',rfl,hR,Pn,s9,Pv,xX,TZ⟩
   obtain⟨⟨hlen,n6⟩,hKK⟩:=hK kS hR
   obtain⟨same2,le2,mem2⟩:=tT Qw aaw (os:=[]) (by simpa using hn) (by simp) s9 Pv xX (by simpa using hlen) n6
   simp only[List.append_nil]at le2 mem2
   have rT:Γ'.heap[l]? =some (.loop rec):=xX.plain hmc Wv rfl
   have EU:(Γ1.back Γ' ks kS).heap[l]? =some (.loop rec):=rT
   refine⟨none,w'.putObj l (.loop {rec with state:= .exhausted}),?_,?_⟩
   ·have:=run_endLoop (P:=P) (w:=w') (l:=l) (r:=rec) (by rw[Pn];exact rT) (by rw[uN];simp)
    rw[this,amV]
   ·refine⟨{target:= .collected w.heap.size,args:= #[]}::ds,_,(Γ1.back Γ' ks kS).obj l (.loop {rec with state:= .exhausted}),?_,?_,vj (by exact Pn),?_,?_,hKK⟩
    ·have h2:=yG.le le2 mem2 (wM:=bI s.bx ks (kS.map (aZ (eP ks)))) (by simp[Cx.back,aau])
     have h3:=h2.obj (o:= .loop {rec with state:= .exhausted}) ⟨_,EU,rfl⟩
     exact⟨h3.bx,h3.size,by simp[h3.defers],h3.env,h3.mem⟩
    ·refine lZ.obj (rec:=rec) ?_ EU
     obtain⟨Ds,e1,e2,e3⟩:=(hd.le hs.mem LZ).le Qw le2
     refine⟨w.heap.size::Ds,by rw[e1];rfl,List.nodup_cons.2 ⟨λhm=> ?_,e2⟩,λD hD=> ?_⟩
     ·obtain⟨Ds',f1,f2,f3⟩:=hd
      have:Ds'=Ds:=by
       have:=f1.symm.trans e1
       exact(List.map_inj_right (λa b h=>by simpa using h)).1 this
      subst this
      have:=dm (f3 _ hm).2
      omega
     ·rcases List.mem_cons.1 hD with rfl|hD
      ·exact⟨by rw[hlb];exact hle.size,le2.plain Qw hD1 rfl⟩
      ·exact e3 D hD
    ·exact vi ((hle.trans LZ).trans le2) (by have:=hle.size;omega) ⟨_,EU,rfl⟩
    ·refine pS.trans (WF.trans ?_ (TZ.trans (WF.obj _ _ _)))
     rw[yc];exact(WF.alloc _ _).trans (WF.alloc _ _)
end Go.Ab
namespace Go.Ab
variable [eE]
variable {P:Program} {nt:Nat} {ds:List Deferred} {s s':St} [iZ]
def mX (P:Program) (aos:List AO) (fl:Nat->Bool) (W E:List Nat) (s:St):List Nat->(St->Prop)->Prop
 |[],K=>gA aos s E=true∧K s
 |
  i::r,K=>match aos[i]?with
  |some o=>gA aos s (i::(r++E))=true∧j1 P W (fl i) s o λt=>mX P aos fl W E t r K
  |none=>False
theorem CI {aos:List AO} {fl:Nat->Bool} {W E:List Nat} {K:St->Prop}:∀ {l:List Nat} {s:St},mX P aos fl W E s l K->gA aos s (l++E)=true
 |[],s,h=>by simpa using h.1
 |
  i::r,s,h=>by
  simp only[mX]at h
  split at h
  ·simpa using h.1
  ·exact h.elim
theorem I7 {aos:List AO} {fl:Nat->Bool} {W E:List Nat} {K:St->Prop} {i:Nat} {x:AO} (hi:aos[i]? =some x) (hx:x.quiet=true) (l2:List Nat):∀(l1:List Nat) (s:St),
  (∀j∈l1,kH aos fl j i=true)->mX P aos fl W E s (l1++i::l2) K->∃v,mX P aos fl W E (s.put x.dst v) (l1++l2) K∧Qv P s x v
 |
  [],s,_,h=>by
  simp only[List.nil_append,mX,hi]at h
  obtain⟨v,h1,h2⟩:=pF hx h.2
  exact⟨v,h1,λs' hb ha K' hk=>h2 s' (Fy.trans hb) (sP ha) K' hk⟩
 |
  j::l1,s,fu,h=>by
  have hp:=fu j (by simp)
  unfold kH at hp
  cases hy:aos[j]?with
  |none=>rw[hy]at hp;simp at hp
  |
   some y=>
   rw[hy,hi]at hp
   simp only[kG hx,Bool.and_false,Bool.or_false,aJ]at hp
   obtain⟨⟨⟨y9,_⟩,jc⟩,_⟩:=hp
   have h1:∀d,y.dst=some d->d∉x.reads:=λd hd=>by simp[AO.apart,hd]at jc;exact jc.1.1
   have h2:∀d,y.dst=some d->x.dst≠some d:=λd hd=>by simp[AO.apart,hd]at jc;exact jc.1.2
   have h3:∀d,x.dst=some d->d∉y.reads:=λd hd=>by simp[AO.apart,hd]at jc;exact jc.2
   simp only[List.cons_append,mX,hy,List.append_assoc]at h⊢
   obtain⟨n6,h⟩:=h
   obtain⟨v,h,hv⟩:=pF y9 h
   obtain⟨u,h,hu⟩:=I7 hi hx l2 l1 _ (λk hk=>fu k (by simp[hk])) h
   refine⟨u,⟨?_,vB y9 hv (by rw[Fz];exact Sub.refl _) (sP (eo.put h3)) ?_⟩,?_⟩
   ·have n6:=I1 n6
    rw[qv (lx _ _)]
    exact I2 n6.1 n6.2.1 n6.2.2.2
   ·rw[St.put_comm (λk hk he=>h2 k he hk)];exact h
   ·intro s' hb ha K' hk
    refine hu s' (by rw[lx];exact hb) (λn hn=> ?_) K' hk
    rw[ha n hn]
    exact((eo.put h1) n hn).symm
theorem zi {aos:List AO} {fl:Nat->Bool} {W E:List Nat} {K:St->Prop} {i:Nat} {x:AO} (hi:aos[i]? =some x) (hx:x.quiet=false) (l2:List Nat):∀(l1:List Nat) (s:St),
  (∀j∈l1,kH aos fl j i=true)->(∀j∈l1++(l2++E),rf aos j i=true)->mX P aos fl W E s (l1++i::l2) K->iN P s x λt=>(fl i=true->Fr W s t)∧mX P aos fl W E t (l1++l2) K
 |
  [],s,_,_,h=>by
  simp only[List.nil_append,mX,hi]at h
  have h:=h.2
  unfold j1 at h
  rw[if_neg (by rw[hx];simp)]at h
  exact h
 |
  j::l1,s,fu,fB,h=>by
  have hp:=fu j (by simp)
  unfold kH at hp
  cases hy:aos[j]?with
  |none=>rw[hy]at hp;simp at hp
  |
   some y=>
   rw[hy,hi]at hp
   simp only[List.cons_append,mX,hy,List.append_assoc]at h⊢
   obtain⟨n6,h⟩:=h
   have n6:=I1 n6
   rcases Bool.or_eq_true_iff.1 hp with hp|hp
   ·simp only[aJ,hx,Bool.false_or]at hp
    obtain⟨⟨⟨y9,E2⟩,jc⟩,hff⟩:=hp
    obtain⟨e,he⟩:=Option.isSome_iff_exists.1 E2
    have h1:e∉x.reads:=by simp[AO.apart,he]at jc;exact jc.1.1
    have h2:x.dst≠some e:=by simp[AO.apart,he]at jc;exact jc.1.2
    have h3:∀d,x.dst=some d->d∉y.reads:=λd hd=>by simp[AO.apart,hd]at jc;exact jc.2
    rcases Bool.or_eq_true_iff.1 hff with hso|hff
    ·obtain⟨v,h,hv⟩:=pF y9 h
     have ih:=zi hi hx l2 l1 _ (λk hk=>fu k (by simp[hk])) (λk hk=>fB k (by simp only[List.cons_append,cJ];exact .inr hk)) h
     rw[he]at ih
     refine fj (λt ht=> ?_) (sQ hx h2 h1 ih)
     obtain⟨⟨hf,hk⟩,BS⟩:=ht
     refine⟨λTM=>λk b hw hb=>hf TM k b hw hb,?_,CH (r:=th W (fl j) s) y9 hso hv (λn hn=> ?_) (by rw[he];exact hk)⟩
     ·rw[hU,sO hy (kG y9),Bool.true_and]
      have:=CI hk
      rw[qv (lx _ _),List.append_assoc]at this
      exact this
     ·rw[AJ];exact BS n (λhd=>h3 n hd hn)
    ·obtain⟨Py,TM⟩:=Bool.and_eq_true_iff.1 hff
     rw[Py]at h⊢
     obtain⟨v,h,hv⟩:=pF y9 h
     have ih:=zi hi hx l2 l1 _ (λk hk=>fu k (by simp[hk])) (λk hk=>fB k (by simp only[List.cons_append,cJ];exact .inr hk)) h
     rw[he]at ih
     refine fj (λt ht=> ?_) (sQ hx h2 h1 ih)
     obtain⟨⟨hf,hk⟩,BS⟩:=ht
     have hf':Fr W s t:=λk b hw hb=>hf TM k b hw hb
     refine⟨λ_=>hf',?_,vB (r:=s.less W) y9 (by simpa[th]using hv) (by simpa[th]using I0 hf') (λn hn=> ?_) (by rw[he];exact hk)⟩
     ·rw[hU,sO hy (kG y9),Bool.true_and]
      have:=CI hk
      rw[qv (lx _ _),List.append_assoc]at this
      exact this
     ·exact BS n (λhd=>h3 n hd hn)
   ·simp only[aJ,Bool.not_eq_true']at hp
    obtain⟨⟨y9,hya⟩,hp⟩:=hp
    split at hp
    case h_2=>simp at hp
    rename_i k hk
    simp only[aJ,bne_iff_ne,ne_eq,Bool.not_eq_true',List.contains_eq_mem,decide_eq_false_iff_not]at hp
    obtain⟨z,aao,wR⟩:=Fx (P:=P) hk
    have hn:get s.bx k=none:=(CG hi hk).1 n6.2.2.1
    unfold j1 at h
    rw[if_neg (by rw[y9];simp)]at h
    have h':iN P s y λt=>get t.bx k=none∧(λt'=>(fl j=true->Fr W (rN k z s) t')∧mX P aos fl W E t' (l1++l2) K) (rN k z t):=by
     refine fj (λt ht=> ?_) h
     obtain⟨hf,ht⟩:=ht
     have ih:=zi hi hx l2 l1 _ (λk hk=>fu k (by simp[hk])) (λk hk=>fB k (by simp only[List.cons_append,cJ];exact .inr hk)) ht
     obtain⟨i1,_,i3⟩:=(wR t _).1 ih
     exact⟨i1,λe=>M0 (hf e),i3⟩
    refine(wR s _).2 ⟨hn,λ_=>Ui hn,?_,?_⟩
    ·refine FB hi hk (λm hm=>fB m (by simpa using hm)) ?_
     exact I2 n6.1 n6.2.1 n6.2.2.2
    ·unfold j1
     rw[if_neg (by rw[y9];simp)]
     exact MV hya hp.1 hp.2 hn h'
theorem yq {W:List Nat} {f:Bool} {o:AO} {K K':St->Prop} (h:∀t,K t->K' t) (hk:j1 P W f s o K):j1 P W f s o K':=by
 unfold j1 at hk⊢
 split at hk
 ·rename_i hq
  rw[if_pos hq]
  split at hk
  ·rename_i hf;rw[if_pos hf];exact fj (λt ht=>h _ ht) hk
  ·rename_i hf;rw[if_neg hf];exact fj h hk
 ·rename_i hq
  rw[if_neg hq]
  exact fj (λt ht=>⟨ht.1,h t ht.2⟩) hk
theorem Hx {aos:List AO} {s:St} {p q:Nat} {l:List Nat}:gA aos s (q::p::l)=gA aos s (p::q::l):=by
 have h1:=hU (aos:=aos) (s:=s) (i:=q) (l:=p::l)
 have h2:=hU (aos:=aos) (s:=s) (i:=p) (l:=l)
 have h3:=hU (aos:=aos) (s:=s) (i:=p) (l:=q::l)
 have h4:=hU (aos:=aos) (s:=s) (i:=q) (l:=l)
 rw[h1,h2,h3,h4]
 exact Bool.and_left_comm _ _ _
theorem AP {aos:List AO} {fl:Nat->Bool} {W E E':List Nat} {K:St->Prop} (hE:∀s,gA aos s E'=gA aos s E):∀ {l:List Nat} {s:St},mX P aos fl W E s l (λt=>jt P aos fl W t E' K)->jt P aos fl W s (l++E') K
 |[],s,h=>h.2
 |
  i::r,s,h=>by
  simp only[mX]at h
  simp only[List.cons_append,jt]
  cases ho:aos[i]?with
  |none=>rw[ho]at h;exact h.elim
  |
   some o=>
   rw[ho]at h
   simp only at h⊢
   refine⟨?_,yq (λt ht=>AP hE ht) h.2⟩
   have:=h.1
   rw[hU,xi]at this⊢
   rw[hE];exact this
end Go.Ab
namespace Go.Ab
variable [eE]
variable {P:Program} {nt:Nat} {ds:List Deferred} {s s':St} {Γ:Cx} {a:Act} {w:World} {Q:Exit->Act->World->Prop} [iZ]
theorem FH {listed:Array Bool} {ord l1 l2:List Nat} {i:Nat} (hi:i<listed.size) (hl:(ord.filter λi=> !listed.getD i true)=l1++i::l2) (zY:(l1++i::l2).Nodup):ord.filter (λj=> !(listed.setIfInBounds i true).getD j true)=l1++l2:=by
 have e:(λj=> !(listed.setIfInBounds i true).getD j true)=λj=>(decide (j≠i))&& !listed.getD j true:=by
  funext j
  by_cases BZ:i=j
  ·subst BZ;simp[Array.getD_eq_getD_getElem?,uJ hi]
  ·rw[getD_set_ne true BZ];simp[Ne.symm BZ]
 rw[e,←List.filter_filter,hl,List.filter_append,List.filter_cons]
 simp only[ne_eq,not_true,decide_false,fJ,if_false]
 have Dr:=List.nodup_append.1 zY
 rw[List.filter_eq_self.2,List.filter_eq_self.2]
 ·intro x hx;simp;rintro rfl;exact(List.nodup_cons.1 Dr.2.1).1 hx
 ·intro x hx;simp;rintro rfl;exact Dr.2.2 x hx x (by simp) rfl
theorem W2 {aos:List AO} {us:List Nat} {W:List Nat} {i:Nat} {ao:AO} {l1 l2:List Nat} {K:St->Prop} (ES:aos[i]? =some ao) (rQ:∀j∈l1,kH aos us.contains j i=true) (fB:∀j∈l1++l2,rf aos j i=true)
  (h:jt P aos us.contains W s (l1++i::l2) K):iN P s ao λt=>jt P aos us.contains W t (l1++l2) K:=by
 cases hx:ao.quiet with
 |
  true=>
  obtain⟨v,h1,h2⟩:=Hv ES hx l2 l1 s rQ h
  exact h2 s (Sub.refl _) (λ_ _=>rfl) _ h1
 |false=>exact fj (λt ht=>ht.2) (AL ES hx l2 l1 s rQ fB h)
theorem QY {aos:List AO} {us:List Nat} {W E:List Nat} {i:Nat} {ao:AO} {l1 l2:List Nat} {K:St->Prop} (ES:aos[i]? =some ao) (rQ:∀j∈l1,kH aos us.contains j i=true) (fB:∀j∈l1++(l2++E),rf aos j i=true)
  (h:mX P aos us.contains W E s (l1++i::l2) K):iN P s ao λt=>mX P aos us.contains W E t (l1++l2) K:=by
 cases hx:ao.quiet with
 |
  true=>
  obtain⟨v,h1,h2⟩:=I7 ES hx l2 l1 s rQ h
  exact h2 s (Sub.refl _) (λ_ _=>rfl) _ h1
 |false=>exact fj (λt ht=>ht.2) (zi ES hx l2 l1 s rQ fB h)
theorem Hy {ops:Array Oper} {listed:Array Bool} {i:Nat} {o:Oper} (hc:pX ops listed) (ho:ops[i]? =some o) (GX:∀e∈o.after,Region.binds .any e=true->listed.getD e.on false=true):pX ops (listed.setIfInBounds i true):=by
 intro k ok rV rY e he hb
 by_cases BR:i=k
 ·subst BR;rw[ho]at rV;cases rV;exact getD_set_true (GX e he hb)
 ·rw[getD_set_ne true BR]at rY;exact getD_set_true (hc k ok rV rY e he hb)
theorem QZ {ops:Array Oper} {listed:Array Bool} {i j:Nat} (iQ:listed.size=ops.size) (hc:pX ops listed) (hi:i∈Region.ready .any ops listed) (hj:j<ops.size) (hb:DQ (jS ops.toList []) i j=true) (TX:(!listed.getD j true)=true):False:=by
 have:=xd hc (Az hb) hi
 have y0:j<listed.size:=by rw[iQ];exact hj
 simp[Array.getD_eq_getD_getElem?,Array.getElem?_eq_getElem y0]at this TX
 rw[this]at TX;simp at TX
theorem I8 {ops:Array Oper} {ord:List Nat} (h:pG ops ord=true):(∀i∈ord,i<ops.size)∧∀i,i<ops.size->i∈ord:=by
 simp only[pG,aJ,List.all_eq_true,decide_eq_true_eq,List.mem_range]at h
 exact⟨h.1.2,λi hi=>by simpa using h.2 i hi⟩
theorem Hz {ops:Array Oper} {ord:List Nat} (ed:pG ops ord=true):∀listed:Array Bool,listed.size=ops.size->Region.ready .any ops listed=[]->(ord.filter λi=> !listed.getD i true)=[]:=by
 simp only[pG,aJ,List.all_eq_true,decide_eq_true_eq,List.mem_range]at ed
 obtain⟨⟨⟨hE,_⟩,gG⟩,fu⟩:=ed
 intro listed iQ hr
 cases hl:ord.filter λi=> !listed.getD i true with
 |nil=>rfl
 |
  cons i l=>
  exfalso
  obtain⟨p,q,IM,hp,hi,_⟩:=List.filter_eq_cons_iff.1 hl
  have hio:i<ops.size:=gG i (by rw[IM];simp)
  have:i∈Region.ready .any ops listed:=by
   rw[mem_ready]
   refine⟨by simpa using hi,ops[i],Array.getElem?_eq_getElem hio,λe he hb=> ?_⟩
   rw[IM]at hE
   rcases ri p [] hE _ (Array.getElem?_eq_getElem hio) e he hb with h1|h1
   ·simp at h1
   ·have h2:=hp _ h1
    have h3:e.on<listed.size:=by rw[iQ];exact gG _ (by rw[IM];simp[h1])
    simp[Array.getD_eq_getD_getElem?,Array.getElem?_eq_getElem h3]at h2⊢
    exact h2
  rw[hr]at this;simp at this
theorem vE {aos:List AO} {fl:Nat->Bool} {W E:List Nat}:∀ {l:List Nat} {s:St} {K K':St->Prop},(∀p,K p->K' p)->mX P aos fl W E s l K->mX P aos fl W E s l K'
 |[],s,K,K',h,hk=>⟨hk.1,h _ hk.2⟩
 |
  i::l,s,K,K',h,hk=>by
  simp only[mX]at hk⊢
  split at hk
  ·exact⟨hk.1,yq (λt ht=>vE h ht) hk.2⟩
  ·exact hk.elim
theorem HA {l m:List Nat} {p q:Nat} (h:(l++p::q::m).Nodup):(l++q::p::m).Nodup:=by
 refine(List.Perm.nodup_iff (List.Perm.append_left l (List.Perm.swap q p m))).1 h
theorem CJ {ops:Array Oper} {aos:List AO} {fl:Nat->Bool} {l:List Nat} (h:rh (jS ops.toList []) aos fl l=true):l.Pairwise (vC ops aos fl):=rj h
def zj (ops:Array Oper) (aos:List AO) (pre:List Nat) (p q:Nat) (suf us:List Nat):Bool:=
 pG ops (pre++p::q::suf)&&pG ops (pre++q::p::suf)&&rh (jS ops.toList []) aos us.contains (pre++p::suf)&&rh (jS ops.toList []) aos us.contains (pre++q::suf)&&p !=q&&rf aos p q&&suf.all λi=>DQ (jS ops.toList []) i p||DQ (jS ops.toList []) i q
theorem aef {ro:Option Nat} {ops:Array Oper} {aos:List AO} {own sp:List Nat} {pre suf us:List Nat} {p q:Nat} {W:List Nat} (nW:∀(i:Nat) o,ops[i]? =some o->∃ao,aos[i]? =some ao∧nM P nt ops own sp true o=some ao)
  (aaB:pG ops (pre++p::q::suf)=true) (rV:pG ops (pre++q::p::suf)=true) (yc:(pre++p::suf).Pairwise (vC ops aos us.contains)) (uR:(pre++q::suf).Pairwise (vC ops aos us.contains)) (L3:p≠q) (wR:rf aos p q=true) (T0:∀i∈suf,DQ (jS ops.toList []) i p=true∨DQ (jS ops.toList []) i q=true) {K:St->Prop}:
  ∀
   (n:Nat) (listed:Array Bool) {s:St} {Γ:Cx} {a:Act} {w:World},listed.size=ops.size->pX ops listed->(∀i∈p::q::suf,(!listed.getD i true)=true)->(pre.filter λi=> !listed.getD i true).length=n->
   iB nt ds s Γ a->w.heap=Γ.heap->As P Γ->mX P aos us.contains W (p::q::suf) s (pre.filter λi=> !listed.getD i true) (λt=>jt P aos us.contains W t (p::q::suf) K∧jt P aos us.contains W t (q::p::suf) K)->Fh P nt ds Γ w K (Q .normal)->wpAnyIn (FW ro) 0 P .any ops Q (n+(suf.length+1+1)) listed a w:=by
 obtain⟨gG,fu⟩:=I8 aaB
 have am0:(pre++p::q::suf).Nodup:=by
  have a1:=yc.imp (λh=>h.1.1)
  have a2:=uR.imp (λh=>h.1.1)
  obtain⟨b1,b2,b3⟩:=List.pairwise_append.1 a1
  obtain⟨c1,c2,c3⟩:=List.pairwise_append.1 a2
  refine List.pairwise_append.2 ⟨b1,.cons (λx hx=> ?_) c2,λx hx y hy=> ?_⟩
  ·rcases List.mem_cons.1 hx with rfl|hx
   ·exact L3
   ·exact List.rel_of_pairwise_cons b2 hx
  ·rcases List.mem_cons.1 hy with rfl|hy
   ·exact b3 x hx _ (by simp)
   ·exact c3 x hx y hy
 --what is not listed yet,in both orders
 have hE1:∀listed:Array Bool,(∀i∈p::q::suf,(!listed.getD i true)=true)->((pre++p::q::suf).filter λi=> !listed.getD i true)=(pre.filter λi=> !listed.getD i true)++p::q::suf:=by
  intro listed h
  rw[List.filter_append]
  congr 1
  rw[List.filter_eq_self];exact h
 have hE2:∀listed:Array Bool,(∀i∈p::q::suf,(!listed.getD i true)=true)->((pre++q::p::suf).filter λi=> !listed.getD i true)=(pre.filter λi=> !listed.getD i true)++q::p::suf:=by
  intro listed h
  rw[List.filter_append]
  congr 1
  rw[List.filter_eq_self];intro i hi;exact h i (by simp at hi⊢;rcases hi with h|h|h<;>simp[h])
 --one step
 have stepP:∀ {n:Nat},(∀m,m+1=n->∀(listed:Array Bool) {s:St} {Γ:Cx} {a:Act} {w:World},listed.size=ops.size->pX ops listed->(∀i∈p::q::suf,(!listed.getD i true)=true)->(pre.filter λi=> !listed.getD i true).length=m->
   iB nt ds s Γ a->w.heap=Γ.heap->As P Γ->mX P aos us.contains W (p::q::suf) s (pre.filter λi=> !listed.getD i true) (λt=>jt P aos us.contains W t (p::q::suf) K∧jt P aos us.contains W t (q::p::suf) K)->Fh P nt ds Γ w K (Q .normal)->wpAnyIn (FW ro) 0 P .any ops Q (m+(suf.length+1+1)) listed a w)->
  ∀
   {listed:Array Bool} {s:St} {Γ:Cx} {a:Act} {w:World},listed.size=ops.size->pX ops listed->(∀i∈p::q::suf,(!listed.getD i true)=true)->(pre.filter λi=> !listed.getD i true).length=n->
   iB nt ds s Γ a->w.heap=Γ.heap->As P Γ->mX P aos us.contains W (p::q::suf) s (pre.filter λi=> !listed.getD i true) (λt=>jt P aos us.contains W t (p::q::suf) K∧jt P aos us.contains W t (q::p::suf) K)->Fh P nt ds Γ w K (Q .normal)->wpAnyIn (FW ro) 0 P .any ops Q (n+(suf.length+1+1)) listed a w:=by
  intro n IH listed s Γ a w iQ hc hu hn hs hw hY h hk
  refine⟨λhr=> ?_,λi hi=> ?_⟩
  ·exfalso
   have:=Hz aaB listed iQ hr
   rw[hE1 listed hu]at this;simp at this
  ·obtain⟨E4,o,ho,GX⟩:=mem_ready.1 hi
   have TW:=(Array.getElem?_eq_some_iff.1 ho).1
   have WH:i<listed.size:=by rw[iQ];exact TW
   obtain⟨ao,ES,htr⟩:=nW i o ho
   have uO:=hE1 listed hu
   have EU:=hE2 listed hu
   have am1:=Hy hc ho GX
   have am2:(listed.setIfInBounds i true).size=ops.size:=by simp[iQ]
   have hFs:(pre.filter λi=> !listed.getD i true).Sublist pre:=List.filter_sublist
   have hFu:∀j∈(pre.filter λi=> !listed.getD i true),(!listed.getD j true)=true:=λj hj=>(List.mem_filter.1 hj).2
   have aaC:((pre.filter λi=> !listed.getD i true)++p::q::suf).Nodup:=by rw[←uO];exact am0.sublist List.filter_sublist
   have uN:∀j,j∈pre++p::q::suf->(!listed.getD j true)=true->DQ (jS ops.toList []) i j=true->False:=λj hj TX hb=>QZ iQ hc hi (gG j hj) hb TX
   have jz:i∈(pre.filter λi=> !listed.getD i true)++p::q::suf:=by
    rw[←uO,List.mem_filter];exact⟨fu i TW,by rw[E4];rfl⟩
   have hpF:∀ {j x:Nat} {r:List Nat},j∈(pre.filter λi=> !listed.getD i true)->(pre++x::r).Pairwise (vC ops aos us.contains)->vC ops aos us.contains j x:=λhj hp=>(List.pairwise_append.1 hp).2.2 _ (hFs.subset hj) _ (by simp)
   --p or q:what comes then stands in one order
   have am3:∀(q':Nat),pG ops (pre++i::q'::suf)=true->((pre++i::q'::suf).filter λi=> !listed.getD i true)=(pre.filter λi=> !listed.getD i true)++i::q'::suf->(pre++i::suf).Pairwise (vC ops aos us.contains)->(pre++q'::suf).Pairwise (vC ops aos us.contains)->rf aos q' i=true->((pre.filter λi=> !listed.getD i true)++i::q'::suf).Nodup->
     jt P aos us.contains W s ((pre.filter λi=> !listed.getD i true)++i::q'::suf) K->wpOpIn (FW ro) 0 P ops Q i (wpAnyIn (FW ro) 0 P .any ops Q (n+(suf.length+1)) (listed.setIfInBounds i true)) a w:=by
    intro q' ok Py L4 awn T1 zY h
    have qT:=FH WH Py zY
    have rQ:∀j∈(pre.filter λi=> !listed.getD i true),kH aos us.contains j i=true:=by
     intro j hj
     rcases(hpF hj L4).2 with hb|hb
     ·exact(uN j (List.mem_append_left _ (hFs.subset hj)) (hFu j hj) hb).elim
     ·exact hb
    have fB:∀j∈(pre.filter λi=> !listed.getD i true)++(q'::suf),rf aos j i=true:=by
     intro j hj
     rcases List.mem_append.1 hj with hj|hj
     ·exact(hpF hj L4).1.2
     ·rcases List.mem_cons.1 hj with rfl|hj
      ·exact T1
      ·exact mW (List.rel_of_pairwise_cons (List.pairwise_append.1 L4).2.1 hj).1.2
    refine qt ho htr hs hw hY (W2 ES rQ fB h) ?_
    intro s' Γ' a' w' b1 b2 b3 b4 b5
    refine aed (W:=W) (us:=us) nW ok (n+(suf.length+1)) (listed.setIfInBounds i true) am2 am1 ?_ ?_ b1 b2 (hY.le b3) ?_ (hk.trans b3 b4)
    ·rw[qT];exact awn.sublist (List.Sublist.append hFs (List.Sublist.refl _))
    ·rw[qT,List.length_append,hn];rfl
    ·rw[qT];exact b5
   rcases List.mem_append.1 jz with hiF|hiE
   ·--one of those ahead of both
    obtain⟨l1,l2,hl⟩:=List.append_of_mem hiF
    have zY:(l1++i::l2).Nodup:=by rw[←hl];exact(List.nodup_append.1 aaC).1
    have qT:=FH WH hl zY
    have QC:(pre.filter λi=> !listed.getD i true).Pairwise (vC ops aos us.contains):=(List.pairwise_append.1 yc).1.sublist hFs
    rw[hl]at QC
    have rQ:∀j∈l1,kH aos us.contains j i=true:=by
     intro j hj
     have hjF:j∈pre.filter λi=> !listed.getD i true:=by rw[hl];simp[hj]
     rcases((List.pairwise_append.1 QC).2.2 j hj i (by simp)).2 with hb|hb
     ·exact(uN j (List.mem_append_left _ (hFs.subset hjF)) (hFu j hjF) hb).elim
     ·exact hb
    have fB:∀j∈l1++(l2++p::q::suf),rf aos j i=true:=by
     intro j hj
     rcases List.mem_append.1 hj with hj|hj
     ·exact((List.pairwise_append.1 QC).2.2 j hj i (by simp)).1.2
     ·rcases List.mem_append.1 hj with hj|hj
      ·exact mW (List.rel_of_pairwise_cons (List.pairwise_append.1 QC).2.1 hj).1.2
      ·rcases List.mem_cons.1 hj with rfl|hj
       ·exact mW (hpF hiF yc).1.2
       ·rcases List.mem_cons.1 hj with rfl|hj
        ·exact mW (hpF hiF uR).1.2
        ·exact mW ((List.pairwise_append.1 yc).2.2 _ (hFs.subset hiF) _ (by simp[hj])).1.2
    rw[hl]at h hn
    refine qt ho htr hs hw hY (QY ES rQ fB h) ?_
    intro s' Γ' a' w' b1 b2 b3 b4 b5
    have hf:n+(suf.length+1)=(l1++l2).length+(suf.length+1+1):=by simp at hn⊢;omega
    change wpAnyIn (FW ro) 0 P .any ops Q (n+(suf.length+1)) _ _ _
    rw[hf]
    refine IH (l1++l2).length (by simp at hn⊢;omega) (listed.setIfInBounds i true) am2 am1 ?_ (by rw[qT]) b1 b2 (hY.le b3) (by rw[qT];exact b5) (hk.trans b3 b4)
    intro j hj
    have BZ:i≠j:=by
     rintro rfl
     exact(List.nodup_append.1 aaC).2.2 _ hiF _ hj rfl
    rw[getD_set_ne true BZ];exact hu j hj
   ·rcases List.mem_cons.1 hiE with rfl|hiE
    ·refine am3 q aaB uO yc uR (mW wR) aaC ?_
     exact AP (λ_=>rfl) (vE (λt ht=>ht.1) h)
    ·rcases List.mem_cons.1 hiE with rfl|hiE
     ·refine am3 p rV EU uR yc wR (by rw[←EU];exact(List.Nodup.sublist List.filter_sublist (HA am0))) ?_
      exact AP (λ_=>Hx) (vE (λt ht=>ht.2) h)
     ·exfalso
      rcases T0 i hiE with hb|hb
      ·exact uN p (by simp) (hu p (by simp)) hb
      ·exact uN q (by simp) (hu q (by simp)) hb
 intro n
 induction n with
 |
  zero=>
  intro listed s Γ a w iQ hc hu hn hs hw hY h hk
  exact stepP (λ_ Pq=>absurd Pq (by omega)) iQ hc hu hn hs hw hY h hk
 |
  succ n ih=>
  intro listed s Γ a w iQ hc hu hn hs hw hY h hk
  exact stepP (λm hm=>by
                obtain rfl:m=n:=by omega
                exact ih) iQ hc hu hn hs hw hY h hk
theorem uc {ro:Option Nat} {ops:Array Oper} {aos:List AO} {own sp:List Nat} {pre suf us:List Nat} {p q:Nat} {id:Nat} (hm:P.follows .mixedOrders=true) (ht:kU P nt ops own sp true ops.toList=some aos) (ed:zj ops aos pre p q suf us=true) {K:St->Prop} (hs:iB nt ds s Γ a) (hw:w.heap=Γ.heap)
  (hY:As P Γ) (h:∃W,mX P aos us.contains W (p::q::suf) s pre (λt=>jt P aos us.contains W t (p::q::suf) K∧jt P aos us.contains W t (q::p::suf) K)) (hk:Fh P nt ds Γ w K (Q .normal)):(Code.region id ops true).wpIn (FW ro) 0 P Q a w:=by
 obtain⟨W,h⟩:=h
 obtain⟨h1,h2⟩:=oM ht
 simp only[zj,aJ,bne_iff_ne,ne_eq,List.all_eq_true,Bool.or_eq_true]at ed
 obtain⟨⟨⟨⟨⟨⟨k1,k2⟩,k3⟩,k4⟩,k5⟩,k6⟩,k7⟩:=ed
 obtain⟨gG,fu⟩:=I8 k1
 have hg:∀i∈pre++p::q::suf,(!(Array.replicate ops.size false).getD i true)=true:=by
  intro i hi
  have:=gG i hi
  simp[Array.getD_eq_getD_getElem?,this]
 have e:(pre.filter λi=> !(Array.replicate ops.size false).getD i true)=pre:=by
  rw[List.filter_eq_self]
  intro i hi
  exact hg i (by simp[hi])
 have hlen:ops.size=pre.length+(suf.length+1+1):=by
  simp only[pG,aJ,beq_iff_eq]at k1
  have:=k1.1.1.2
  simp at this;omega
 have WJ:=aef (P:=P) (nt:=nt) (ds:=ds) (ro:=ro) (Q:=Q) (s:=s) (Γ:=Γ) (a:=a) (w:= {w with drawn:=w.drawn+1}) (K:=K) (W:=W) (λi o hi=>h2 i o (by simpa using hi)) k1 k2 (CJ k3) (CJ k4) k5 k6 k7 pre.length (Array.replicate ops.size false) (by simp) ?_ (λi hi=>hg i (List.mem_append_right _ hi)) (by rw[e]) hs hw hY (by rw[e];exact h) ?_
 ·rw[←hlen]at WJ
  exact wpIn_region_any hm WJ
 ·intro k o WD hl
  have:=(Array.getElem?_eq_some_iff.1 WD).1
  simp[Array.getD_eq_getD_getElem?,this]at hl
 ·intro s' Γ' a' w' b1 b2 b3 b4 b5
  exact hk s' Γ' a' w' b1 b2 b3 ⟨b4.os,b4.tape,b4.output⟩ b5
def CK (ops:Array Oper) (aos:List AO) (p q:Nat):List Nat:=(sg ops aos).filter λi=> !(i==p||i==q||DQ (jS ops.toList []) i p||DQ (jS ops.toList []) i q)
def CL (ops:Array Oper) (aos:List AO) (p q:Nat):List Nat:=(sg ops aos).filter λi=> !(i==p||i==q)&&(DQ (jS ops.toList []) i p||DQ (jS ops.toList []) i q)
def DY (ops:Array Oper) (aos:List AO) (p q:Nat):List Nat:=
 let l:=CK ops aos p q++p::CL ops aos p q
 let m:=CK ops aos p q++q::CL ops aos p q
 early (jS ops.toList []) aos l++FC (jS ops.toList []) aos [] l++early (jS ops.toList []) aos m++FC (jS ops.toList []) aos [] m
def aeg (own:List Nat):Option (Nat×Nat):=match own.find? (λn=>decide (1000000≤n))with|some n=>some ((n-1000000)/1000,(n-1000000)%1000)|none=>none
def aeh (own:List Nat) (aos:List AO):Option (Nat×Nat):=match aeg own with|some (p,q)=>if(ub aos p&& !soB aos p&& !ub aos q)=true then some (p,q)else none|none=>none
end Go.Ab
namespace Go.Ab
variable [eE]
variable {P:Program} {nt:Nat} {ds:List Deferred} {s:St} {Γ Δ Γ0:Cx} {a:Act} {w w0:World} [iZ]
inductive dc
 |skip
 |region (l:List AO)
 |regionD (l:List AO) (ord us:List Nat)
 |regionE (l:List AO) (pre:List Nat) (p q:Nat) (suf us:List Nat)
 |seq (x y:dc)
 |cond (c:AX) (x y:dc)
 |block (id:Nat) (x:dc)
 |loop (x:dc)
 |exit (id:Nat)
 |ret
 |seqm (x y:dc)
 |rangeF (g:AX) (ps:List Nat) (x y:dc)
def erase:dc->dc
 | .seq x y| .seqm x y=> .seq (erase x) (erase y)
 | .cond c x y=> .cond c (erase x) (erase y)
 | .block id x=> .block id (erase x)
 | .loop x=> .loop (erase x)
 | .skip=> .skip
 | .region l=> .region l
 | .regionD l o u=> .regionD l o u
 | .regionE l a p q b u=> .regionE l a p q b u
 | .exit id=> .exit id
 | .ret=> .ret
 | .rangeF g ps x y=> .rangeF g ps (erase x) (erase y)
def rl:dc->Bool
 | .seq x y| .seqm x y| .cond _ x y=>rl x&&rl y
 | .block _ x| .loop x=>rl x
 | .rangeF .. =>false
 |_=>true
theorem rm:∀c:dc,rl (erase c)=rl c
 | .seq x y| .seqm x y| .cond _ x y=>by simp[erase,rl,rm x,rm y]
 | .block _ x| .loop x=>by simp[erase,rl,rm x]
 | .rangeF .. | .skip| .region _| .regionD .. | .regionE .. | .exit _| .ret=>by simp[erase,rl]
noncomputable def fk (P:Program) (nt:Nat) (own sp:List Nat):Code->Option dc
 | .skip=>some .skip
 | .region _ ops false=>match kU P nt ops own sp false ops.toList with|some l=>some (.region l)|none=>none
 | .region _ ops true=>match kU P nt ops own sp true ops.toList with|some l=>if P.follows .mixedOrders=true then(if AA ops l=true then some (.region l)else match aeh own l with|some (p,q)=>(if zj ops l (CK ops l p q) p q (CL ops l p q) (DY ops l p q)=true then some (.regionE l (CK ops l p q) p q (CL ops l p q) (DY ops l p q))else none)|none=>if sT ops l (sg ops l) (zg ops l)=true then some (.regionD l (sg ops l) (zg ops l))else none)else none|none=>none
 | .seq x y=>match fk P nt own sp x,fk P nt own sp y with|some x,some y=>some (.seq x y)|_,_=>none
 | .cond c x y=>match gN c,fk P nt own sp x,fk P nt own sp y with|some c,some x,some y=>some (.cond c x y)|_,_,_=>none
 | .block id x=>match fk P nt own sp x with|some x=>some (.block id x)|none=>none
 | .loop x=>match fk P nt own sp x with|some x=>some (.loop x)|none=>none
 | .exit id=>some (.exit id)
 | .ret=>some .ret
 |
  .rangeFunc g ps x y=>match gN g,fk P nt own sp x,fk P nt own sp y with
  |some g,some x,some y=>if(ps.toList.all (λt=>decide (t<nt))&&rl x&&rl y)=true then some (.rangeF g ps.toList x y)else none
  |_,_,_=>none
 |_=>none
theorem CM (own sp:List Nat):∀(c:Code) {ac:dc},fk P nt own sp c=some ac->erase ac=ac:=by
 intro c
 induction c with
 |
  seq x y ihx ihy=>
  intro ac h
  simp only[fk]at h
  split at h<;>simp only[sJ,reduceCtorEq]at h
  subst h
  rename_i hx hy
  simp only[erase,ihx hx,ihy hy]
 |
  cond c x y ihx ihy=>
  intro ac h
  simp only[fk]at h
  split at h<;>simp only[sJ,reduceCtorEq]at h
  subst h
  rename_i hx hy
  simp only[erase,ihx hx,ihy hy]
 |
  block id x ih=>
  intro ac h
  simp only[fk]at h
  split at h<;>simp only[sJ,reduceCtorEq]at h
  subst h
  rename_i hx
  simp only[erase,ih hx]
 |
  loop x ih=>
  intro ac h
  simp only[fk]at h
  split at h<;>simp only[sJ,reduceCtorEq]at h
  subst h
  rename_i hx
  simp only[erase,ih hx]
 |
  rangeFunc g ps x y ihx ihy=>
  intro ac h
  simp only[fk]at h
  split at h
  ·split at h<;>simp only[sJ,reduceCtorEq]at h
   subst h
   rename_i hx hy _
   simp only[erase,ihx hx,ihy hy]
  ·simp at h
 |
  region id ops d=>
  intro ac h
  cases d<;>simp only[fk]at h<;>(repeat' split at h)<;>simp only[sJ,reduceCtorEq]at h<;>subst h<;>rfl
 |_=>intro ac h;simp only[fk,sJ,reduceCtorEq]at h;try (subst h;rfl)
structure LkF where
 f:dc->dc
 h:∀c,f c=c
theorem M8:Nonempty LkF:=⟨⟨id,λ_=>rfl⟩⟩
noncomputable abbrev lk:dc->dc:=(Classical.choice M8).f
theorem Q0 (c:dc):lk c=c:=(Classical.choice M8).h c
def I9:dc->Bool
 | .loop _| .rangeF .. =>true
 | .seq x y| .cond _ x y=>I9 x||I9 y
 | .block _ x=>I9 x
 |_=>false
def W3:dc->Bool
 | .skip| .exit _| .ret=>true
 | .seq x y=>W3 x&&W3 y
 |_=>false
noncomputable def G2:dc->dc
 | .seq x y=> .seq (G2 x) (bif I9 x&& !W3 y then lk (G2 y)else G2 y)
 | .cond c x y=> .cond c (G2 x) (G2 y)
 | .block id x=> .block id (G2 x)
 | .loop x=> .loop (lk (G2 x))
 | .rangeF g ps x y=> .rangeF g ps (G2 x) (lk (G2 y))
 | .skip=> .skip
 | .region l=> .region l
 | .regionD l o u=> .regionD l o u
 | .regionE l a p q b u=> .regionE l a p q b u
 | .exit id=> .exit id
 | .ret=> .ret
 | .seqm x y=> .seqm x y
theorem rq:∀c,G2 c=c
 | .seq x y=>by simp only[G2,rq x,rq y,Q0,Bool.cond_self]
 | .cond _ x y=>by simp only[G2,rq x,rq y]
 | .block _ x=>by simp only[G2,rq x]
 | .loop x=>by simp only[G2,rq x,Q0]
 | .rangeF _ _ x y=>by simp only[G2,rq x,rq y,Q0]
 | .skip| .region _| .regionD .. | .regionE .. | .exit _| .ret| .seqm .. =>rfl
def Lp (body:(Exit->St->Prop)->St->Prop) (Q:Exit->St->Prop) (s:St):Prop:=
 ∃(I:Nat->St->Prop) (c:List Cut),(iu c s λs'=>∃n,I n s')∧∀n s,I n s->body (zh Q λs'=>∃c':List Cut,iu c' s' λs'=>∃m,m<n∧I m s') s
def Md (x y:(Exit->St->Prop)->St->Prop) (Q:Exit->St->Prop) (s:St):Prop:=
 ∃M:St->Prop,x (zh Q λs'=>∃c:List Cut,iu c s' M) s∧∀s',M s'->y Q s'
def aw (P:Program):dc->(Exit->St->Prop)->St->Prop
 | .skip,Q,s=>Q .normal s
 | .region l,Q,s=>Hn P s l (Q .normal)
 | .regionD l o u,Q,s=>∃W,jt P l u.contains W s o (Q .normal)
 | .regionE l a p q b u,Q,s=>∃W,mX P l u.contains W (p::q::b) s a λt=>jt P l u.contains W t (p::q::b) (Q .normal)∧jt P l u.contains W t (q::p::b) (Q .normal)
 | .seq x y,Q,s=>aw P x (zh Q λs'=>aw P y Q s') s
 |
  .cond c x y,Q,s=>match vx s c with
  | .bl b=>(b=true->aw P x Q s)∧(b=false->aw P y Q s)
  | .gd g (.bl b)=>g=true∧(b=true->aw P x Q s)∧(b=false->aw P y Q s)
  |_=>False
 | .block id x,Q,s=>aw P x (M5 id Q) s
 | .loop x,Q,s=>Lp (λQ s=>aw P x Q s) Q s
 | .exit id,Q,s=>Q (.exit id) s
 | .ret,Q,s=>Q .ret s
 | .seqm x y,Q,s=>Md (λQ s=>aw P x Q s) (λQ s=>aw P y Q s) Q s
 |
  .rangeF g ps x y,Q,s=>match vx s g with
  | .fn (.func fid) [] cap=>Hw P (λQ s=>aw P x Q s) (λQ s=>aw P y Q s) s fid cap ps λs'=>Q .normal s'
  |_=>False
theorem og {p:Nat->Prop} (h:∃n,p n):∃n,p n∧∀m,m<n->¬p m:=by
 obtain⟨n,hn⟩:=h
 induction n using Nat.strongRecOn with
 |
  _ n ih=>
  by_cases hex:∃m,m<n∧p m
  ·obtain⟨m,hm,hp⟩:=hex;exact ih m hm hp
  ·exact⟨n,hn,λm hm hp=>hex ⟨m,hm,hp⟩⟩
noncomputable def least (p:Nat->Prop):Nat:=by
 classical exact if h:∃n,p n then Classical.choose (og h)else 0
theorem AQ {p:Nat->Prop} (h:∃n,p n):p (least p)∧∀m,p m->least p≤m:=by
 unfold least
 rw[dif_pos h]
 have:=Classical.choose_spec (og h)
 exact⟨this.1,λm hm=>Nat.not_lt.1 λgG=>this.2 m gG hm⟩
theorem M9 (own sp:List Nat):∀(c:Code) {ro:Option Nat} {Γ0:Cx} {w0:World} {ac:dc} {Q:Exit->St->Prop} {s:St} {Γ:Cx} {a:Act} {w:World} {ds:List Deferred},(ro.isSome=true->rl ac=true)->HK Γ0->As P Γ0->fk P nt own sp c=some (erase ac)->aw P ac Q s->iB nt ds s Γ a->lZ Γ0.heap.size Γ ds->w.heap=Γ.heap->Le Γ0 Γ->WF w0 w->
  c.wpIn (FW ro) 0 P (lift nt Γ0 w0 Q) a w:=by
 have key:∀ {Γ0:Cx} {w0:World} {Γ:Cx} {a:Act} {w:World} {ds:List Deferred} {K:St->Prop},w.heap=Γ.heap->WF w0 w->lZ Γ0.heap.size Γ ds->rL nt ds Γ0 Γ a K->∃s' Γ',iB nt ds s' Γ' a∧lZ Γ0.heap.size Γ' ds∧w.heap=Γ'.heap∧Le Γ0 Γ'∧WF w0 w∧K s':=by
  intro Γ0 w0 Γ a w ds K b2 b4 bd hg
  obtain⟨s',Γ',g1,g2,g3,g4⟩:=hg
  exact⟨s',Γ',g1,bd.heap g2,by rw[g2];exact b2,g3,b4,g4⟩
 intro c
 induction c with
 |
  skip=>
  intro ro Γ0 w0 ac Q s Γ a w ds hr nK hY ht h hs hd hw hle pS
  simp only[fk,sJ]at ht
  cases ac<;>simp only[erase,reduceCtorEq]at ht
  exact wpIn_skip ⟨ds,s,Γ,hs,hd,hw,hle,pS,h⟩
 |
  exit id=>
  intro ro Γ0 w0 ac Q s Γ a w ds hr nK hY ht h hs hd hw hle pS
  simp only[fk,sJ]at ht
  cases ac<;>simp only[erase,reduceCtorEq,dc.exit.injEq]at ht
  subst ht
  exact wpIn_exit ⟨ds,s,Γ,hs,hd,hw,hle,pS,h⟩
 |
  ret=>
  intro ro Γ0 w0 ac Q s Γ a w ds hr nK hY ht h hs hd hw hle pS
  simp only[fk,sJ]at ht
  cases ac<;>simp only[erase,reduceCtorEq]at ht
  exact wpIn_ret ⟨ds,s,Γ,hs,hd,hw,hle,pS,h⟩
 |
  region id ops draw=>
  intro ro Γ0 w0 ac Q s Γ a w ds hr nK hY ht h hs hd hw hle pS
  have hk:Fh P nt ds Γ w (Q .normal) (lift nt Γ0 w0 Q .normal):=λs' Γ' a' w' b1 b2 b3 b4 b5=>⟨ds,s',Γ',b1,hd.le hs.mem b3,b2,hle.trans b3,pS.trans b4,b5⟩
  have hY':=hY.le hle
  cases draw with
  |
   false=>
   simp only[fk]at ht
   split at ht<;>simp only[sJ,reduceCtorEq]at ht
   rename_i l hl
   cases ac<;>simp only[erase,reduceCtorEq,dc.region.injEq]at ht
   subst ht
   exact DO hl hs hw hY' h hk
  |
   true=>
   simp only[fk]at ht
   split at ht
   ·rename_i l hl
    split at ht
    ·rename_i hm
     split at ht
     ·rename_i ed
      simp only[sJ]at ht
      cases ac<;>simp only[erase,reduceCtorEq,dc.region.injEq]at ht
      subst ht
      exact vq hm hl ed hs hw hY' h hk
     ·split at ht
      ·split at ht
       ·simp only[sJ]at ht
        rename_i ed
        cases ac<;>simp only[erase,reduceCtorEq,dc.regionE.injEq]at ht
        obtain⟨rfl,rfl,rfl,rfl,rfl,rfl⟩:=ht
        exact uc hm hl ed hs hw hY' h hk
       ·simp at ht
      ·split at ht
       ·simp only[sJ]at ht
        rename_i ed
        cases ac<;>simp only[erase,reduceCtorEq,dc.regionD.injEq]at ht
        obtain⟨rfl,rfl,rfl⟩:=ht
        exact ua hm hl ed hs hw hY' h hk
       ·simp at ht
    ·simp at ht
   ·simp at ht
 |
  seq x y ihx ihy=>
  intro ro Γ0 w0 ac Q s Γ a w ds hr nK hY ht h hs hd hw hle pS
  simp only[fk]at ht
  split at ht<;>simp only[sJ,reduceCtorEq]at ht
  rename_i ax ay hx hy
  cases ac<;>simp only[erase,reduceCtorEq,dc.seq.injEq]at ht
  ·obtain⟨rfl,rfl⟩:=ht
   simp only[aw]at h
   simp only[rl,aJ]at hr
   refine wpIn_seq (wpIn_mono (ihx (λe=>(hr e).1) nK hY hx h hs hd hw hle pS) λe a' w' he=> ?_)
   have:=AM he
   cases e with
   |
    normal=>
    obtain⟨ds',s',Γ',b1,bd,b2,b3,b4,b5⟩:=this
    exact ihy (λe=>(hr e).2) nK hY hy b5 b1 bd b2 b3 b4
   |_=>exact this
  ·obtain⟨rfl,rfl⟩:=ht
   simp only[aw]at h
   simp only[rl,aJ]at hr
   obtain⟨M,h1,h2⟩:=h
   refine wpIn_seq (wpIn_mono (ihx (λe=>(hr e).1) nK hY hx h1 hs hd hw hle pS) λe a' w' he=> ?_)
   have:=AM he
   cases e with
   |
    normal=>
    obtain⟨ds',s',Γ',b1,bd,b2,b3,b4,c,b5⟩:=this
    obtain⟨s3,Γ3,d1,dd,d2,d3,d4,d5⟩:=key (Γ:=Γ') b2 b4 bd (mV nK c b1 b3 b5)
    exact ihy (λe=>(hr e).2) nK hY hy (h2 _ d5) d1 dd d2 d3 d4
   |_=>exact this
 |
  cond c x y ihx ihy=>
  intro ro Γ0 w0 ac Q s Γ a w ds Mg nK hY ht h hs hd hw hle pS
  simp only[fk]at ht
  split at ht<;>simp only[sJ,reduceCtorEq]at ht
  rename_i c' ax ay hc hx hy
  cases ac<;>simp only[erase,reduceCtorEq,dc.cond.injEq]at ht
  obtain⟨rfl,rfl,rfl⟩:=ht
  simp only[aw]at h
  simp only[rl,aJ]at Mg
  have hr:=wU hc hs
  split at h
  ·rename_i b hb
   rw[hb]at hr
   simp only[aP]at hr
   have hcv:a.eval c= .bool b:=by generalize a.eval c=v at hr;cases hr;rfl
   exact wpIn_cond_split hcv (λhb=>ihx (λe=>(Mg e).1) nK hY hx (h.1 hb) hs hd hw hle pS) (λhb=>ihy (λe=>(Mg e).2) nK hY hy (h.2 hb) hs hd hw hle pS)
  ·rename_i g b hb
   rw[hb,aP]at hr
   have hr:=hr.1 h.1
   simp only[aP]at hr
   have hcv:a.eval c= .bool b:=by generalize a.eval c=v at hr;cases hr;rfl
   exact wpIn_cond_split hcv (λhb=>ihx (λe=>(Mg e).1) nK hY hx (h.2.1 hb) hs hd hw hle pS) (λhb=>ihy (λe=>(Mg e).2) nK hY hy (h.2.2 hb) hs hd hw hle pS)
  ·exact h.elim
 |
  block id x ih=>
  intro ro Γ0 w0 ac Q s Γ a w ds hr nK hY ht h hs hd hw hle pS
  simp only[fk]at ht
  split at ht<;>simp only[sJ,reduceCtorEq]at ht
  rename_i ax hx
  cases ac<;>simp only[erase,reduceCtorEq,dc.block.injEq]at ht
  obtain⟨rfl,rfl⟩:=ht
  simp only[aw]at h
  exact wpIn_block (wpIn_mono (ih (λe=>by simpa only[rl]using hr e) nK hY hx h hs hd hw hle pS) λe a' w' he=>M6 he)
 |
  loop x ih=>
  intro ro Γ0 w0 ac Q s Γ a w ds Mg nK hY ht h hs hd hw hle pS
  simp only[fk]at ht
  split at ht<;>simp only[sJ,reduceCtorEq]at ht
  rename_i ax hx
  cases ac<;>simp only[erase,reduceCtorEq,dc.loop.injEq]at ht
  subst ht
  simp only[aw]at h
  obtain⟨I,cs,h0,hr⟩:=h
  let J:Act->World->Nat->Prop:=λa w n=>∃ds s Γ,iB nt ds s Γ a∧lZ Γ0.heap.size Γ ds∧w.heap=Γ.heap∧Le Γ0 Γ∧WF w0 w∧I n s
  refine wpIn_loop (λa w=>∃n,J a w n) (λa w=>least (J a w)) ?_ ?_
  ·obtain⟨s',Γ',b1,bd,b2,b3,b4,n,b5⟩:=key (Γ:=Γ) hw pS hd (mV nK cs hs hle h0)
   exact⟨n,ds,s',Γ',b1,bd,b2,b3,b4,b5⟩
  ·intro a1 w1 hJ
   obtain⟨⟨ds1,s1,Γ1,b1,bd,b2,b3,b4,b5⟩,T2⟩:=AQ hJ
   refine wpIn_mono (ih (λe=>by simpa only[rl]using Mg e) nK hY hx (hr _ _ b5) b1 bd b2 b3 b4) λe a' w' he=> ?_
   have:=AM he
   cases e with
   |
    normal=>
    obtain⟨ds2,s2,Γ2,c1,cd,c2,c3,c4,Dl,c5⟩:=this
    obtain⟨s3,Γ3,d1,dd,d2,d3,d4,m,gG,d5⟩:=key (Γ:=Γ2) c2 c4 cd (mV nK Dl c1 c3 c5)
    have hJm:J a' w' m:=⟨ds2,s3,Γ3,d1,dd,d2,d3,d4,d5⟩
    exact⟨⟨m,hJm⟩,Nat.lt_of_le_of_lt ((AQ ⟨m,hJm⟩).2 m hJm) gG⟩
   |_=>exact this
 |
  rangeFunc g ps x y ihx ihy=>
  intro ro Γ0 w0 ac Q s Γ a w ds hr nK hY ht h hs hd hw hle pS
  simp only[fk]at ht
  split at ht
  case h_2=>simp at ht
  rename_i g' ax ay hg hx hy
  split at ht
  case isFalse=>simp at ht
  rename_i ed
  simp only[aJ,List.all_eq_true,decide_eq_true_eq]at ed
  simp only[sJ]at ht
  cases ac<;>simp only[erase,reduceCtorEq,dc.rangeF.injEq]at ht
  obtain⟨rfl,rfl,rfl,rfl⟩:=ht
  cases ro with
  |some l=>exact absurd (hr rfl) (by simp[rl])
  |
   none=>
   simp only[aw]at h
   have hrg:=wU hg hs
   split at h
   ·rename_i fid cap hb
    rw[hb]at hrg
    have n1:=ed.1.2
    have n2:=ed.2
    rw[rm]at n1 n2
    exact FG (λk1 k2 k3 k4 k5 k6 k7 k8=>ihx (λ_=>n1) k1 k2 hx k3 k4 k5 k6 k7 k8) (λk1 k2 k3 k4 k5 k6 k7 k8=>ihy (λ_=>n2) k1 k2 hy k3 k4 k5 k6 k7 k8) ed.1.1 hs hd hw hle pS hrg h
   ·exact h.elim
 |_=>intro ro Γ0 w0 ac Q s Γ a w ds hr nK hY ht;simp[fk]at ht
end Go.Ab
namespace Go.Ab
variable [eE]
variable {P:Program} {nt:Nat} {ds:List Deferred} {s:St} {Γ Δ Γ0:Cx} {a:Act} {w w0:World}
def AR (P:Program):ResultVar->Option AK
 | .tmp t=>some (.mv (.t t))
 | .cell t ty=>match lV P ty,gT P ty with|some g,some n=>some (.load g n (.t t))|_,_=>none
structure cY where
 nt:Nat
 res:List AK
 code:dc
def cY.er (f:cY):cY:=⟨f.nt,f.res,erase f.code⟩
noncomputable def kJ (P:Program) (own sp:List Nat) (f:FuncId):Option cY:=
 match P.funcs[f]?with
 |
  some fn=>if(fn.name== "runtime.NumGoroutine")=false then(match fn.body with
  |
   some c=>match fk P fn.ntmps own sp c,allM (AR P) fn.results.toList with
   |some ac,some rs=>some ⟨fn.ntmps,rs,ac⟩
   |_,_=>none
  |none=>none)else none
 |none=>none
noncomputable def Na (P:Program) (own sp:List Nat) (f:FuncId):Option cY:=
 match kJ P own sp f with|some A=>some ⟨A.nt,A.res,G2 A.code⟩|none=>none
theorem aR {own sp:List Nat} {f:FuncId} {A:cY} (h:Na P own sp f=some A):kJ P own sp f=some A.er:=by
 unfold Na at h
 split at h
 ·rename_i B hB
  rw[hB]
  simp only[sJ]at h
  subst h
  rw[rq]
  have h2:=hB
  unfold kJ at h2
  (repeat' split at h2)<;>simp only[sJ,reduceCtorEq]at h2
  subst h2
  rename_i hc _
  simp only[cY.er,CM _ _ _ hc]
 ·simp at h
abbrev RF (P:Program) (own sp:List Nat) (f:FuncId):= {A:cY//Na P own sp f=some A}
def FI (s:St):List AK->(List PV->Prop)->Prop
 |[],K=>K []
 |k::r,K=>ev true s k λp=>FI s r λps=>K (p::ps)
def fx:List PV->PV
 |[p]=>p
 |ps=> .tup ps
def PV.flat:PV->Bool
 | .gd _ _| .tup _=>false
 |_=>true
def Nb (n:Nat) (res:List AK) (R:PV->List bh->Prop) (s:St):Prop:=
 ∃
  (c:List Cut) (ks:List Nat),iu c s λs'=>FI s' res λps=>∃bm,(getAll s'.bx ks=some bm∧ks.Nodup∧ks.take n=eU n)∧
  (ps.all PV.flat=true∧ab (bj ks) (fx ps)=true∧bm.all (ah (bj ks))=true)∧R (aI (aV ks) (fx ps)) (bm.map (aZ (aV ks)))
def ends (n:Nat) (res:List AK) (R:PV->List bh->Prop):Exit->St->Prop
 | .ret,s| .normal,s=>Nb n res R s
 |_,_=>False
def an:Nat->List PV->List (Nat×PV)
 |_,[]=>[]
 |i,p::r=>(i,p)::an (i+1) r
theorem ud:∀(l:List PV) (i k:Nat),get (an i l) k=if i≤k then l[k-i]?else none
 |[],i,k=>by simp[an,get]
 |
  p::l,i,k=>by
  simp only[an,get,ud l (i+1) k]
  by_cases h:i=k
  ·subst h;simp
  ·rw[if_neg h]
   by_cases h2:i≤k
   ·rw[if_pos (by omega),if_pos h2,show k-i=(k-(i+1))+1 by omega,List.getElem?_cons_succ]
   ·rw[if_neg (by omega),if_neg h2]
theorem ie.at:∀ {l:List PV} {vs:List Value} {i:Nat} {p:PV},ie Γ l vs->l[i]? =some p->∃v,vs[i]? =some v∧aP Γ p v
 |[],_,_,_,_,h=>by simp at h
 |p::l,[],_,_,h,_=>by simp[ie]at h
 |p::l,v::vs,0,q,h,hi=>by simp at hi;subst hi;exact⟨v,rfl,h.1⟩
 |p::l,v::vs,i+1,q,h,hi=>by simp at hi;simpa using ie.at h.2 hi
theorem HB {t:TypeId} {v r:Value} (h:(Instr.loadAt t v).run P w= .ok r w):((do loadVar t (←asAddr v)):Sem Value).run P w= .ok r w:=by
 unfold Instr.loadAt at h
 cases v<;>first
  |(rename_i ad;cases ad<;>first|exact h|(simp[Instr.sureAddr,stuck]at h))
  |(simp[Instr.sureAddr,stuck]at h)
theorem aP.aei {p:PV} {v:Value} (h:aP Γ p v) (hf:p.flat=true):jG Γ p v:=by
 cases p<;>simp[PV.flat]at hf<;>first|exact h|(simp[jG])
def FJ (tmps:Array Value):ResultVar->Sem Value
 | .tmp t=>pure (tmps.getD t undef)
 | .cell a t=>do loadVar t (←asAddr (tmps.getD a undef))
theorem Ja (hs:iB nt ds s Γ a) (hw:w.heap=Γ.heap):∀ {rs:List ResultVar} {ks:List AK} {K:List PV->Prop},allM (AR P) rs=some ks->FI s ks K->
  ∃ps vs,K ps∧(rs.mapM (FJ a.tmps)).run P w= .ok vs w∧ie Γ ps vs
 |
  [],ks,K,h,he=>by
  simp only[allM,sJ]at h;subst h
  exact⟨[],[],he,rfl,trivial⟩
 |
  r::rs,ks,K,h,he=>by
  simp only[allM]at h
  split at h
  ·rename_i y l hy hl
   simp only[sJ]at h;subst h
   simp only[FI]at he
   have h1:∃p v,(FI s l λps=>K (p::ps))∧(FJ a.tmps r).run P w= .ok v w∧aP Γ p v:=by
    cases r with
    |
     tmp t=>
     simp only[AR,sJ]at hy;subst hy
     simp only[ev]at he
     obtain⟨p,hp,hr⟩:=cU (x:= .tmp t) rfl hs rfl he
     exact⟨p,_,hp,rfl,hr⟩
    |
     cell t ty=>
     simp only[AR]at hy
     split at hy<;>simp only[sJ,reduceCtorEq]at hy
     rename_i g n hg hn;subst hy
     obtain⟨p,v,hp,jl,hr⟩:=E5 (x:= .tmp t) rfl hs hw rfl hg hn he
     exact⟨p,v,hp,HB jl,hr⟩
   obtain⟨p,v,hp,jl,hr⟩:=h1
   obtain⟨ps,vs,hK,am6,fu⟩:=Ja hs hw hl hp
   refine⟨p::ps,v::vs,hK,?_,hr,fu⟩
   rw[List.mapM_cons]
   simp only[bJ,jl,rJ,am6]
   rfl
  ·simp at h
theorem Jb:∀ {ps:List PV} {vs:List Value},ie Γ ps vs->ps.all PV.flat=true->kx Γ ps vs
 |[],[],_,_=>trivial
 |[],_::_,h,_=>by simp[ie]at h
 |_::_,[],h,_=>by simp[ie]at h
 |
  p::ps,v::vs,h,hf=>by
  simp only[List.all_cons,aJ]at hf
  exact⟨h.1.aei hf.1,Jb h.2 hf.2⟩
def aej:List Value->Value
 |[v]=>v
 |vs=> .tuple vs.toArray
theorem HC (fn:Func) (tmps:Array Value) {vs:List Value} (h:(fn.results.toList.mapM (FJ tmps)).run P w= .ok vs w):
  (results fn tmps).run P w= .ok (aej vs) w:=by
 have e:results fn tmps=(do
   let vs←fn.results.mapM (FJ tmps)
   pure (if h:vs.size=1 then vs[0]else .tuple vs)):=by
  unfold results
  congr 1
 have h2:(fn.results.mapM (FJ tmps)).run P w= .ok vs.toArray w:=by
  rw[Array.mapM_eq_mapM_toList,Sem.run_map,h];rfl
 rw[e,bJ,h2]
 simp only[rJ,Sem.run_pure]
 match vs with
 |[]=>rfl
 |[v]=>rfl
 |v::u::vs=>rfl
theorem KA {fn:Func} {rs:List AK} {fp:List bh} {R:PV->List bh->Prop} (hr:allM (AR P) fn.results.toList=some rs) (h0:Γ0.bx=aG 0 fp) (nK:HK Γ0) (hs:iB nt ds s Γ a) (hw:w.heap=Γ.heap) (hle:Le Γ0 Γ) (h:Nb fp.length rs R s):
  ∃v r kS Γ',(results fn a.tmps).run P w= .ok v w∧R r kS∧w.heap=Γ'.heap∧Mem Γ'∧Γ'.bx=aG 0 kS∧aP Γ' r v∧Le Γ0 Γ':=by
 obtain⟨c,ks,h⟩:=h
 obtain⟨s',Γ1,yG,hh,LZ,h⟩:=mV nK c hs hle h
 have yc:w.heap=Γ1.heap:=by rw[hh];exact hw
 obtain⟨ps,vs,h,jl,fu⟩:=Ja yG yc hr h
 obtain⟨bm,⟨hg,hn,hks⟩,⟨hf,hro,hbo⟩,hR⟩:=h
 rw[←yG.bx]at hg
 have mG:=Cx.FD hg
 refine⟨_,_,_,Γ1.out ks bm,HC fn a.tmps jl,hR,yc,Cx.I5 yG.mem hg hn hbo,rfl,?_,Cx.M4 LZ h0 hg hks⟩
 have hv:aP Γ1 (fx ps) (aej vs):=by
  have hl:=fu.length
  match ps,vs,fu,hl with
  |[],[],_,_=>exact⟨[],rfl,trivial⟩
  |[p],[v],fu,_=>exact fu.1
  |p::q::ps,v::u::vs,fu,_=>exact⟨_,rfl,Jb fu hf⟩
 exact hv.aI mG hro
theorem rr {fn:Func} {rs:List AK} {fp:List bh} {R:PV->List bh->Prop} (hr:allM (AR P) fn.results.toList=some rs) (h0:Γ0.bx=aG 0 fp) (nK:HK Γ0) (h:Nb fp.length rs R s):
  ∀
   (Ds:List Nat) {ds:List Deferred} {Γ:Cx} {w:World},iB nt ds s Γ a->w.heap=Γ.heap->Le Γ0 Γ->WF w0 w->Ds.Nodup->(∀D∈Ds,Γ0.heap.size≤D∧Γ.heap[D]? =some (.deferred (some [])))->
   LeavesInM (FW none) 0 P fn a.tmps (λe w'=>∃v r kS Γ',e= .returned v∧R r kS∧w'.heap=Γ'.heap∧Mem Γ'∧Γ'.bx=aG 0 kS∧aP Γ' r v∧Le Γ0 Γ'∧WF w0 w')
    (Ds.map λD=> {target:= .collected D,args:= #[]}) .returning w
 |
  [],ds,Γ,w,hs,hw,hle,pS,_,_=>by
  obtain⟨v,r,kS,Γ2,h1,h2,h3⟩:=KA hr h0 nK hs hw hle h
  exact⟨v,h1,v,r,kS,Γ2,rfl,h2,h3.1,h3.2.1,h3.2.2.1,h3.2.2.2.1,h3.2.2.2.2,pS⟩
 |
  D::Ds,ds,Γ,w,hs,hw,hle,pS,hn,hd=>by
  obtain⟨IF,hh⟩:=hd D (by simp)
  have hp:Γ.iW D:=⟨_,hh,rfl⟩
  obtain⟨hnm,Pq⟩:=List.nodup_cons.1 hn
  refine⟨by simp,.inl ⟨D,w.putObj D (.deferred none),rfl,run_takeDeferred (by rw[hw];exact hh),?_⟩⟩
  refine rr hr h0 nK h Ds (hs.obj hp) (vj hw) (vi hle IF hp) (pS.trans (WF.obj _ _ _)) Pq (λD' hD'=> ?_)
  obtain⟨h1,h2⟩:=hd D' (by simp[hD'])
  exact⟨h1,by rw[jQ (l:=D) (b:=D') (by rintro rfl;exact hnm hD')];exact h2⟩
theorem sU [iZ] {f:FuncId} {A:cY} {own sp:List Nat} {args:List PV} {fp:List bh} {R:PV->List bh->Prop} (ht:kJ P own sp f=some A.er) (hl:args.length≤A.nt)
  (h:aw P A.code (ends fp.length A.res R) ⟨an 0 args,aG 0 fp⟩):
  (∀(vs:Array Value) (w:World),(callFunc f vs).run P w= .ok (.enter f vs) w)∧∀(Γ:Cx) (w:World) (vs:List Value),w.heap=Γ.heap->Mem Γ->Γ.bx=aG 0 fp->As P Γ->ie Γ args vs->
   CallsIn (FW none) 0 P f vs.toArray w (λe w'=>∃v r kS Γ',e= .returned v∧R r kS∧w'.heap=Γ'.heap∧Mem Γ'∧Γ'.bx=aG 0 kS∧aP Γ' r v∧Le Γ Γ'∧WF w w'):=by
 unfold kJ at ht
 split at ht
 case h_2=>simp at ht
 rename_i fn hfn
 split at ht
 case isFalse=>simp at ht
 rename_i am7
 split at ht
 case h_2=>simp at ht
 rename_i c hb
 split at ht
 case h_2=>simp at ht
 rename_i ac rs hac QB
 simp only[sJ,cY.er,cY.mk.injEq]at ht
 obtain⟨hnt,T3,am8⟩:=ht
 subst T3 am8
 refine⟨λvs w=> ?_,λΓ w vs hw hm mH hY fu=> ?_⟩
 ·unfold callFunc
  simp only[bJ,run_program,rJ,hfn,am7,fJ,if_false,hb,Option.isNone_some,Sem.run_pure]
 ·have hlen:=fu.length
  have nK:HK Γ:=by
   intro k blk hk
   rw[mH,gp]at hk
   split at hk
   ·omega
   ·simp at hk
  refine callsIn_of_wp_marks hfn hb trivial (wpIn_mono (M9 own sp c (ro:=none) (ds:=[]) (by simp) nK hY hac h (Γ:=Γ) (a:= {tmps:=vs.toArray++Array.replicate (fn.ntmps-vs.toArray.size) undef,defers:=[]}) ⟨mH,?_,rfl,?_,hm⟩ .nil hw (Le.refl Γ) (WF.refl w)) ?_)
  ·simp;omega
  ·intro k p hk
   rw[ud]at hk
   simp only[Nat.zero_le,if_true,Nat.sub_zero]at hk
   obtain⟨v,hv,hr⟩:=fu.at hk
   have gG:=(List.getElem?_eq_some_iff.1 hv).1
   have e:(vs.toArray++Array.replicate (fn.ntmps-vs.toArray.size) undef).getD k undef=v:=by
    rw[Array.getD_eq_getD_getElem?,Array.getElem?_append_left (by simpa using gG)]
    simp[hv]
   simp only
   rw[e];exact hr
  ·rintro e a' w' ⟨ds',s',Γ',BX,⟨Ds,hD1,hD2,hD3⟩,Pn,xX,TZ,he⟩
   cases e with
   |ret=>show LeavesInM _ _ _ _ _ _ a'.defers _ _;rw[BX.defers,hD1];exact rr QB mH nK he Ds BX Pn xX TZ hD2 hD3
   |normal=>show LeavesInM _ _ _ _ _ _ a'.defers _ _;rw[BX.defers,hD1];exact rr QB mH nK he Ds BX Pn xX TZ hD2 hD3
   |_=>exact he.elim
theorem af.intro {f:FuncId} {A:cY} {own sp:List Nat} {args:List PV} {fp:List bh} {R:PV->List bh->Prop} (ht:kJ P own sp f=some A.er) (hl:args.length≤A.nt)
  (h:aw P A.code (ends fp.length A.res R) ⟨an 0 args,aG 0 fp⟩):af P f args fp R:=
 λΓ w vs h1 h2 h3 h4=> .inl ⟨(sU ht hl h).1 _ _,Kk ((sU ht hl h).2 Γ w vs h1 h2 h3 .no h4)⟩
abbrev ofY (n l:Nat) (Y:List PV->List bh->(List bh->Prop)->Prop):iZ:=⟨n,λl' args fp R=>l'=l∧Y args fp R⟩
theorem I6.intro {f:FuncId} {A:cY} {own sp:List Nat} {cap:List PV} {fp:List bh} {Y:List PV->List bh->(List bh->Prop)->Prop} {R:List bh->Prop} (ht:kJ P own sp f=some A.er) (hl:cap.length+1≤A.nt)
  (h:∀l,@aw _ (ofY fp.length l Y) P A.code (ends fp.length A.res λ_ kS=>R kS) ⟨an 0 (.fn (.yield l) [] []::cap),aG 0 fp⟩):I6 P f cap fp Y R:=by
 refine⟨(@sU _ P (ofY fp.length 0 Y) _ _ _ _ _ _ _ ht (by simpa using hl) (h 0)).1,λΓ w vs l rec h1 h2 h3 h4 h5 h6=> ?_⟩
 have hr:aP Γ (.fn (.yield l) [] []) (.func (.yield l) #[] #[]):=by
  simp only[aP]
  exact .fn (.yield l) [] [] .nil .nil (by simp) (by simp) .nil
 have:=(@sU _ P (ofY fp.length l Y) _ _ _ _ _ _ _ ht (by simpa using hl) (h l)).2 Γ w (.func (.yield l) #[] #[]::vs) h1 h2 h3 (λl' args uT R1 wQ=>by
  obtain⟨rfl,wQ⟩:=wQ
  refine⟨Γ,rec,Le.refl Γ,λk blk hk=> ?_,h5,h2,h6 args uT R1 wQ⟩
  rw[h3,gp]at hk
  split at hk
  ·have:=(List.getElem?_eq_some_iff.1 hk).1
   show KB≤k∧k<KB+fp.length
   omega
  ·simp at hk) ⟨hr,h4⟩
 have e: #[Value.func (.yield l) #[] #[]]++vs.toArray=(Value.func (.yield l) #[] #[]::vs).toArray:=by apply Array.ext';simp
 rw[e]
 refine this.mono ?_
 rintro e w' ⟨v,r,kS,Γ',e1,e2,e3,e4,e5,e6,e7,e8⟩
 exact⟨v,kS,Γ',e1,e2,e3,e4,e5,e7,e8⟩
end Go.Ab
