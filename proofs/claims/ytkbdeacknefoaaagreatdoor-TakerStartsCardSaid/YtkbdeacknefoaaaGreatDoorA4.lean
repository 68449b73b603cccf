/- Regions, loops and bodies do what their abstract reading says. No condition. -/
import Derived.Test.YtkbdeacknefoaaaGreatDoorA3
set_option linter.all false
namespace Go.Ab
variable [eo]
variable {P:Program} {nt:Nat} {ds:List Deferred} {s:St} {Γ:Cx} {a:Act} {w:World} [gK]
structure AO where
 dst:Option Nat
 guard:Option (Nat×Bool)
 mg:Bool
 k:AK
def ow:AK->Bool
 | .alloc _| .box _| .buildSlice .. | .makeSlice .. | .store .. | .append .. | .appendZ .. | .copy .. | .fill .. | .isNil .. | .convB .. | .convL .. | .mkMap .. | .mapGet .. | .mapSet .. =>true
 |_=>false
def mK (P:Program) (s:St) (d:Option Nat) (f:AX) (args:List AX) (K:St->Prop):Prop:=
 vg true s f λpf=>uD true s args λps=>match pf with
  | .fn (.func fid) first cap=>∃ks os,uQ P s d fid (first++ps++cap) ks os K
  | .fn (.yield l) [] []=>F4 s d l ps K
  |_=>False
def oR (P:Program) (s:St) (d:Option Nat) (f:AX) (args:List AX) (K:St->Prop):Prop:=
 vg true s f λpf=>uD true s args λps=>match pf with
  | .fn (.func fid) first cap=>∃v,(ae (λ_=>false) (first++ps++cap)=true∧ab (λ_=>false) v=true)∧
    af P fid (first++ps++cap) [] (λr fp=>r=v∧fp=[])∧K (s.put d v)
  |_=>False
def kV (P:Program) (s:St) (o:AO) (K:St->Prop):Prop:=
 match o.k with
 | .call f args=>mK P s o.dst f args K
 | .callq f args=>oR P s o.dst f args K
 |k=>if ow k=true then ex s o.dst k K else ev true s k λp=>K (s.put o.dst p)
def jd (P:Program) (s:St) (o:AO) (K:St->Prop):Prop:=
 match o.guard with
 |none=>kV P s o K
 |
  some (sl,want)=>match(get s.env sl).getD .un with
  | .bl b=>if o.mg=true then ev (b==want) s o.k (λp=>K (s.put o.dst (.gd (b==want) p)))
    else(b=want->kV P s o K)∧(b≠want->K (s.put o.dst .un))
  | .gd g (.bl b)=>if o.mg=true then ev (g&&b==want) s o.k (λp=>K (s.put o.dst (.gd (g&&b==want) p)))
    else(g=true->b=want->kV P s o K)∧((g=true->b≠want)->K (s.put o.dst .un))
  |_=>False
def sQ:AK->Bool
 | .mv _| .pick .. | .load .. | .nilCheck _| .un .. | .convI .. | .convS _| .fieldA .. | .s2a .. | .field .. | .extract .. | .len _| .lenS _| .lenC _| .cap _| .mm .. =>true
 | .bin op _ _ _=>match op with| .quo| .rem| .shl| .shr=>false|_=>true
 |_=>false
def uX (ops:Array Oper):Option (Nat×Bool)->Option (Option (Nat×Bool))
 |none=>some none
 |some (j,want)=>match(ops[j]?).bind (·.dst)with|some d=>some (some (d,want))|none=>none
def xB (nt:Nat) (d:Option Nat) (k:AK):Bool:=
 match d,k with
 |some _,.store .. =>false
 |some d,_=>decide (d<nt)
 |none,_=>true
def wC (P:Program) (draw:Bool) (ty:TypeId):AK->AK
 | .call f args=>if draw=true then .callq f args else .call f args
 |
  .mv (.c (.sl 0 [] true))=>(match P.underlying ty with
  |some (.slice e)=> .mv (.c (.sl (P.cellsOf e) [] true))
  |_=> .mv (.c (.sl 0 [] true)))
 |k=>k
def Uu (own:List Nat):Option Nat->Bool
 |some d=>own.contains d
 |none=>true
noncomputable def qe (P:Program) (nt:Nat) (ops:Array Oper) (own sp:List Nat) (draw:Bool) (o:Oper):Option AO:=
 match lB P (match o.dst with|some d=>own.contains d|none=>false) o.op,uX ops o.guard with
 |some k,some g=>if xB nt o.dst k=true then some ⟨o.dst,g,sQ k&& !(match o.dst with|some d=>sp.contains d|none=>false),wC P (draw&& !Uu own o.dst) o.type k⟩else none
 |_,_=>none
theorem xC {own:Bool} {op:Op} {k:AK} (h:lB P own op=some k) (c:Call):op≠ .defer c:=by
 rintro rfl;simp[lB]at h
theorem Oper.xD {ro:Option Nat} {o:Oper} {own:Bool} {k:AK} (oq:lB P own o.op=some k) {K:St->Prop} {Kr:Act->World->Prop} {Q:Exit->Act->World->Prop} (h:lK P nt ds o a w Γ K)
  (hk:∀s' Γ' a' w',iz nt ds s' Γ' a'->w'.heap=Γ'.heap->Le Γ Γ'->WF w w'->K s'->Kr a' w'):o.wpIn (FW ro) 0 P a w Kr Q:=by
 obtain⟨nx,v,w',s',Γ',ja,hnx,hs,hh,hle,qq,hK⟩:=h
 refine⟨λ_ _=>trivial,?_⟩
 rw[Oper.semAt_eq _ _ _ (xC oq),ja]
 rcases hnx with rfl|⟨rfl,rfl⟩
 ·exact hk _ _ _ _ hs hh hle qq hK
 ·exact hk _ _ _ _ hs hh hle qq hK
theorem KW {o:Oper} {k:AK} {own:Bool} {K:St->Prop} (hk:lB P own o.op=some k) (hs:iz nt ds s Γ a) (hw:w.heap=Γ.heap) (hd:xB nt o.dst k=true) (he:ex s o.dst k K):lK P nt ds o a w Γ K:=by
 have FB:(∀x y z,k≠ .store x y z)->∀j,o.dst=some j->j<nt:=by
  intro dF j hj
  rw[hj]at hd
  unfold xB at hd
  split at hd
  ·exact absurd rfl (dF _ _ _)
  ·rename_i heq _;simp at heq;subst heq;simpa using hd
  ·rename_i heq;simp at heq
 cases od:o.op with
 |
  alloc t=>
  rw[od]at hk;simp only[lB]at hk
  split at hk<;>simp only[sJ,reduceCtorEq]at hk
  rename_i z hz;subst hk
  exact I3 od hz hs hw (FB (by intros;simp)) he
 |
  box t x=>
  rw[od]at hk;simp only[lB]at hk
  split at hk<;>simp only[sJ,reduceCtorEq]at hk
  rename_i y hy;subst hk
  exact OJ od hy hs hw (FB (by intros;simp)) he
 |
  buildSlice t n parts=>
  rw[od]at hk;simp only[lB]at hk
  split at hk
  ·rename_i e ps hu hp
   split at hk
   ·rename_i z sz hz iA
    split at hk<;>simp only[sJ,reduceCtorEq]at hk
    rename_i hc;subst hk
    exact ze od hu hp hz iA hc.1 hc.2 hs hw (FB (by intros;simp)) he
   ·simp at hk
  ·simp at hk
 |
  makeSlice t l c=>
  rw[od]at hk;simp only[lB]at hk
  split at hk
  ·rename_i e l' c' hu hl hc
   split at hk
   ·rename_i z i hz hi
    split at hk<;>simp only[sJ,reduceCtorEq]at hk
    rename_i kz;subst hk
    exact Bh od hu hl hc hz hi kz hs hw (FB (by intros;simp)) he
   ·simp at hk
  ·simp at hk
 |
  store t x y=>
  rw[od]at hk;simp only[lB]at hk
  split at hk<;>simp only[sJ,reduceCtorEq]at hk
  rename_i n x' y' hn hx hy;subst hk
  refine I5 od hn hx hy hs hw ?_ he
  cases DF:o.dst with
  |none=>rfl
  |some d=>rw[DF]at hd;simp[xB]at hd
 |
  convert t e x=>
  rw[od]at hk;simp only[lB]at hk
  split at hk
  ·simp only[sJ]at hk;subst hk;simp[ex]at he
  ·split at hk<;>simp only[sJ,reduceCtorEq]at hk
   subst hk;simp[ex]at he
  ·rename_i e' y h1 h2 hx
   split at hk<;>simp only[sJ,reduceCtorEq]at hk
   rename_i h3;subst hk
   exact I4 od h1 h2 h3 hx hs hw (FB (by intros;simp)) he
  ·rename_i e0 e' y h1 h2 hx
   split at hk
   ·rename_i hte
    split at hk<;>simp only[sJ,reduceCtorEq]at hk
    rename_i h3;subst hk hte
    exact Ja od h1 (by rw[h1]at h2;cases h2;exact h3) hx hs hw (FB (by intros;simp)) he
   ·simp at hk
  ·simp at hk
 |makeMap t r=>rw[od]at hk;simp[lB]at hk
 |lookup t m x ok=>rw[od]at hk;simp[lB]at hk
 |mapUpdate t m x y=>rw[od]at hk;simp[lB]at hk
 |
  call c=>
  obtain⟨callee,args,tys⟩:=c
  rw[od]at hk
  cases callee with
  |
   value f=>
   simp only[lB]at hk
   split at hk<;>simp only[sJ,reduceCtorEq]at hk
   subst hk;simp[ex]at he
  |invoke r m=>simp[lB]at hk
  |
   builtin b=>
   simp only[lB]at hk
   obtain⟨args⟩:=args
   obtain⟨tys⟩:=tys
   simp only at hk
   cases b with
   |
    append=>
    match args,tys,od,hk with
    |
     [x,y],[t,u],od,hk=>
     unfold dx at hk
     simp only at hk
     split at hk
     ·rename_i e d x' y' XC hu2 hx hy
      split at hk
      ·rename_i i hi
       split at hk
       ·rename_i z hz
        split at hk
        ·rename_i hc
         split at hk
         ·simp only[sJ]at hk;subst hk
          exact zh od XC hu2 (.inl ⟨_,rfl⟩) hi hz hc.1 hc.2.1 hc.2.2 hx hy hs hw (FB (by intros;simp)) he
         ·split at hk<;>simp only[sJ,reduceCtorEq]at hk
          rename_i h1;subst hk
          exact zh od XC hu2 (.inr rfl) hi hz hc.1 hc.2.1 hc.2.2 hx hy hs hw (FB (by intros;simp)) he
         ·split at hk<;>simp only[sJ,reduceCtorEq]at hk
          rename_i zz hzz;subst hk
          exact D3 od XC hu2 hi hz hzz hc.1 hc.2.1 hc.2.2 hx hy hs hw (FB (by intros;simp)) he
         ·simp at hk
        ·simp at hk
       ·simp at hk
      ·simp at hk
     ·simp at hk
    |[],_,_,hk|[_],_,_,hk|_::_::_::_,_,_,hk|[_,_],[],_,hk|[_,_],[_],_,hk|[_,_],_::_::_::_,_,hk=>simp[dx]at hk
   |
    clear=>
    match args,tys,od,hk with
    |
     [x],[t],od,hk=>
     unfold dx at hk
     simp only at hk
     split at hk
     ·rename_i e x' XC hx
      split at hk
      ·rename_i n z hn hz
       split at hk<;>simp only[sJ,reduceCtorEq]at hk
       subst hk
       exact KR od XC hn hz hx hs hw he
      ·simp at hk
     ·simp at hk
    |[],_,_,hk|_::_::_,_,_,hk|[_],[],_,hk|[_],_::_::_,_,hk=>simp[dx]at hk
   |
    copy=>
    match args,tys,od,hk with
    |
     [x,y],[t,u],od,hk=>
     unfold dx at hk
     simp only at hk
     split at hk
     ·rename_i e x' y' XC hx hy
      split at hk<;>simp only[sJ,reduceCtorEq]at hk
      rename_i n hn;subst hk
      exact KQ od XC hn hx hy hs hw (FB (by intros;simp)) he
     ·simp at hk
    |[],_,_,hk|[_],_,_,hk|_::_::_::_,_,_,hk|[_,_],[],_,hk|[_,_],[_],_,hk|[_,_],_::_::_::_,_,hk=>simp[dx]at hk
   |
    len=>
    exfalso
    unfold dx at hk
    repeat (split at hk<;>(try contradiction))
    all_goals first|(simp only[sJ]at hk;subst hk;simp[ex]at he;done)|(simp at hk;done)|(split at hk<;>first|(simp only[sJ]at hk;subst hk;simp[ex]at he;done)|(simp at hk;done))
   |
    cap=>
    unfold dx at hk
    split at hk<;>(try contradiction)
    split at hk<;>simp only[sJ,reduceCtorEq]at hk
    subst hk;simp[ex]at he
   |
    min=>
    unfold dx at hk
    split at hk<;>(try contradiction)
    split at hk<;>simp only[sJ,reduceCtorEq]at hk
    subst hk;simp[ex]at he
   |
    max=>
    unfold dx at hk
    split at hk<;>(try contradiction)
    split at hk<;>simp only[sJ,reduceCtorEq]at hk
    subst hk;simp[ex]at he
   |_=>unfold dx at hk;split at hk<;>contradiction
 |
  binOp op t x y yt=>
  by_cases hn:∃ng p,k= .isNil ng p
  ·obtain⟨ng,p,rfl⟩:=hn
   rw[od]at hk
   exact I7 od hk hs hw (FB (by intros;simp)) he
  rw[od]at hk;simp only[lB]at hk
  exfalso
  repeat (split at hk<;>(try contradiction))
  all_goals first|(simp only[sJ]at hk;subst hk;simp[ex]at he;done)|(simp at hk;done)|(simp only[sJ]at hk;exact hn ⟨_,_,hk.symm⟩)|(split at hk<;>first|(simp only[sJ]at hk;subst hk;simp[ex]at he;done)|(simp at hk;done)|(simp only[sJ]at hk;exact hn ⟨_,_,hk.symm⟩)|(split at hk<;>first|(simp only[sJ]at hk;subst hk;simp[ex]at he;done)|(simp at hk;done)|(simp only[sJ]at hk;exact hn ⟨_,_,hk.symm⟩)|(split at hk<;>first|(simp only[sJ]at hk;subst hk;simp[ex]at he;done)|(simp at hk;done)|(simp only[sJ]at hk;exact hn ⟨_,_,hk.symm⟩))))
 |
  _=>
  exfalso
  rw[od]at hk
  first
  |(simp only[lB,reduceCtorEq]at hk;done)
  |(simp only[lB]at hk
    repeat (split at hk<;>(try contradiction))
    all_goals first|(simp only[sJ]at hk;subst hk;simp[ex]at he;done)|(simp at hk;done)|(split at hk<;>first|(simp only[sJ]at hk;subst hk;simp[ex]at he;done)|(simp at hk;done)|(split at hk<;>first|(simp only[sJ]at hk;subst hk;simp[ex]at he;done)|(simp at hk;done))))
end Go.Ab
namespace Go.Ab
variable [eo]
variable {P:Program} {nt:Nat} {ds:List Deferred} {s:St} {Γ:Cx} {a:Act} {w:World} [gK]
theorem aD.toV {p:PV} {v:Value} (h:aD Γ [p] [v]) (ha:p.isAgg=false):aN Γ p v:=by
 cases p<;>simp[PV.isAgg]at ha<;>first|(simp only[aN];done)|(simp only[aN];exact h)|(exact absurd h (by intro h;cases h))
theorem ox:∀ {l:List PV} {vs:List Value},aD Γ l vs->(∀x∈l,x.isAgg=false)->gp Γ l vs
 |[],vs,h,_=>by cases h;trivial
 |
  p::l,vs,h,hn=>by
  obtain⟨cs,us,rfl,h1,h2⟩:=h.qb
  have hp:=hn p (by simp)
  have hw:p.width=1:=by cases p<;>simp[PV.isAgg]at hp<;>rfl
  have hl:=h1.iR
  rw[hw]at hl
  obtain⟨v,rfl⟩:=List.length_eq_one_iff.1 hl
  exact⟨h1.toV hp,ox h2 (λx hx=>hn x (by simp[hx]))⟩
theorem gp.append:∀ {l m:List PV} {vs us:List Value},gp Γ l vs->gp Γ m us->gp Γ (l++m) (vs++us)
 |[],m,[],us,_,h=>h
 |p::l,m,v::vs,us,h,h'=>⟨h.1,gp.append h.2 h'⟩
 |[],m,v::vs,us,h,_=>by simp[gp]at h
 |p::l,m,[],us,h,_=>by simp[gp]at h
theorem gp.az {f:Nat->Bool} {ρ:Nat->Nat} {Δ:Cx} (hs:wA f ρ Γ Δ):∀ {l:List PV} {vs:List Value},gp Γ l vs->ae f l=true->gp Δ (aO ρ l) vs
 |[],[],_,_=>trivial
 |
  p::l,v::vs,h,hf=>by
  simp only[ae,aJ]at hf
  exact⟨h.1.az hs hf.1,gp.az hs h.2 hf.2⟩
 |[],v::vs,h,_=>by simp[gp]at h
 |p::l,[],h,_=>by simp[gp]at h
theorem tT:∀ {ps:List PV} {xs:List Operand},ps.length=xs.length->(∀(i:Nat) p x,ps[i]? =some p->xs[i]? =some x->aN Γ p (a.eval x))->gp Γ ps (xs.map a.eval)
 |[],[],_,_=>trivial
 |p::ps,x::xs,hl,h=>⟨h 0 p x rfl rfl,tT (by simpa using hl) (λi q y h1 h2=>h (i+1) q y h1 h2)⟩
 |[],_::_,hl,_=>by simp at hl
 |_::_,[],hl,_=>by simp at hl
def D4 (P:Program) (nt:Nat) (ds:List Deferred) (Γ:Cx) (w:World) (K:St->Prop) (Kr:Act->World->Prop):Prop:=
 ∀s' Γ' a' w',iz nt ds s' Γ' a'->w'.heap=Γ'.heap->Le Γ Γ'->WF w w'->K s'->Kr a' w'
theorem Jb {o:Oper} {f:Operand} {args:Array Operand} {tys:Array TypeId} {fid:FuncId} {fs cs:Array Value} (ho:o.op= .call {callee:= .value f,args,argTypes:=tys}) (hf:a.eval f= .func (.func fid) fs cs):
  execOp a.eval o=(do let d←(Pure.pure {target:= .fn (.func fid) cs,args:=fs++args.map a.eval}:Sem Deferred);invoke d.target d.args):=by
 unfold execOp
 rw[ho]
 simp only[resolve,hf,Deferred.ofValue]
theorem F5 {o:Oper} {f:Operand} {args:Array Operand} {tys:Array TypeId} {fid:FuncId} {first cap ps:List PV} (ho:o.op= .call {callee:= .value f,args,argTypes:=tys})
  (hf:aN Γ (.fn (.func fid) first cap) (a.eval f)) (hl:ps.length=args.toList.length) (hp:∀(i:Nat) p x,ps[i]? =some p->args.toList[i]? =some x->aN Γ p (a.eval x)):
  ∃vs:List Value,gp Γ (first++ps++cap) vs∧∀w r,(callFunc fid vs.toArray).run P w=r->(execOp a.eval o).run P w=r:=by
 simp only[aN]at hf
 generalize hv:a.eval f=v at hf
 cases hf with
 |
  @fn _ _ fs cs _ _ _ h1 h2 h3 h4 _=>
  refine⟨fs++args.toList.map a.eval++cs,((ox h1 h3).append (tT hl hp)).append (ox h2 h4),λw r hc=> ?_⟩
  rw[Jb ho hv]
  have e:(fs++args.toList.map a.eval++cs).toArray=(fs.toArray++args.map a.eval)++cs.toArray:=by
   apply Array.ext';simp
  rw[e]at hc
  exact hc
theorem D5 {n k:Nat}:fu (eX n) k=k:=by
 unfold fu
 split
 ·rename_i h
  cases hi:(eX n)[k-KB]?with
  |none=>rfl
  |some j=>simp only[Option.getD_some];have:=(wB.1 hi).2;omega
 ·rfl
theorem KX {ro:Option Nat} {l:Nat} {f:FuncId} {tmps:Array Value} {as bo:Code} {R:Ending->World->Prop} (h:RoundIn (FW none) 0 P l f tmps as bo w R):RoundIn (FW ro) 0 P l f tmps as bo w R:=h
theorem D6 {o:Oper} {f:Operand} {args:Array Operand} {tys:Array TypeId} {f':AX} {gI:List AX} {K:St->Prop} {Kr:Act->World->Prop} {Q:Exit->Act->World->Prop} {ro:Option Nat} (ho:o.op= .call {callee:= .value f,args,argTypes:=tys})
  (hf:jG f=some f') (hx:uK args.toList=some gI) (hs:iz nt ds s Γ a) (hw:w.heap=Γ.heap) (hd:∀j,o.dst=some j->j<nt) (hY:zn P Γ) (h:mK P s o.dst f' gI K) (hk:D4 P nt ds Γ w K Kr):o.wpIn (FW ro) 0 P a w Kr Q:=by
 unfold mK at h
 obtain⟨pf,h,Kt⟩:=cy hf hs rfl h
 obtain⟨ps,h,hl,hp⟩:=uL hs rfl hx h
 split at h
 case h_3=>exact h.elim
 case h_2=>
  rename_i l _
  obtain⟨cm,R,hg,tt,pG,BE,hK⟩:=h
  obtain⟨Γ0,rec,RV,h0,DH,Ns,hAY⟩:=hY l ps cm R BE
  rw[←hs.bx]at hg
  have Uc:a.eval f= .func (.yield l) #[] #[]:=by
   simp only[aN]at Kt
   generalize a.eval f=v at Kt
   cases Kt with
   | @fn _ _ fs cs _ _ _ h1 h2 h3 h4 _=>cases h1;cases h2;rfl
  have ja:(execOp a.eval o).run P w=(Instr.yield l (args.toList.map a.eval).toArray).run P w:=by
   have e:(args.toList.map a.eval).toArray= #[]++args.map a.eval:=by apply Array.ext';simp
   rw[e]
   unfold execOp
   rw[ho]
   simp only[resolve,Uc,Deferred.ofValue]
   rfl
  have pq:=Cx.oH hg
  have hA:gp Γ ps (args.toList.map a.eval):=tT hl hp
  have Ot:=hA.az pq (by rw[pJ];exact tt)
  rw[kh (λ_=>pK)]at Ot
  have IF:Γ.heap[l]? =Γ0.heap[l]? :=by rw[RV.plain Ns DH rfl,DH]
  obtain⟨fn,tmps,as,bo,hy,hR⟩:=hAY (Γ.call (eX gK.n) cm) w _ hw (Cx.uR hs.mem hg (ov _) (by rw[pJ];exact pG)) (by simp only[Cx.call];rw[tS (λ_=>pK)]) Ot (KV h0 RV hg) IF
  refine⟨λ_ _=>trivial,?_⟩
  rw[Oper.semAt_eq _ _ _ (λc=>by rw[ho];simp),ja,hy,Oper.uponIn_round]
  refine⟨λh=>by simp[FW,Fence.wide]at h,KX (hR.mono ?_)⟩
  rintro e w' ⟨fp,Γ',rfl,hR,Nv,tI,NB,hle,qq⟩
  obtain⟨⟨hlen,sb⟩,hKK⟩:=hK fp hR
  have hlk:(eX gK.n++[]).length=gK.n:=by simp[eX]
  obtain⟨same2,le2,mem2⟩:=tQ hs.mem hg (os:=[]) (by simpa using ov _) (by simp) tI NB hle (by rw[hlen,hlk]) (by rw[hlen];exact sb)
  have pz:=hs.le le2 mem2 (vY:=bB s.bx (eX gK.n) fp) (by simp only[Cx.back,List.append_nil,hs.bx];rw[tS (λ_=>D5)])
  exact hk _ _ _ _ (pz.put hd (p:= .bl true) (v:= .bool true) (by simp only[aN];exact .bl _ .nil)) (by simp[Cx.back,Nv]) le2 qq hKK
 rename_i fid first cap
 obtain⟨ks,os,cm,R,hg,hn,Ou,tt,pG,hc,hK⟩:=h
 obtain⟨vs,hA,ja⟩:=F5 (P:=P) ho Kt hl hp
 refine⟨λ_ _=>trivial,?_⟩
 rw[←hs.bx]at hg Ou
 have hnk:ks.Nodup:=(List.nodup_append.1 hn).1
 have pq:=Cx.oH hg
 have key:∀e w',(∃v r rR Γ',e=Ending.returned v∧R r rR∧w'.heap=Γ'.heap∧Mem Γ'∧Γ'.bx=aG 0 rR∧aN Γ' r v∧Le (Γ.call ks cm) Γ'∧WF w w')->∃v,e= .returned v∧Kr (a.put o.dst v) w':=by
  rintro e w' ⟨v,r,fp,Γ',rfl,hR,Nv,tI,NB,Cp,hle,qq⟩
  obtain⟨⟨hlen,hrr,sb⟩,hKK⟩:=hK r fp hR
  obtain⟨same2,le2,mem2⟩:=tQ hs.mem hg hn Ou tI NB hle hlen sb
  have pz:=hs.le le2 mem2 (vY:=bB s.bx (ks++os) (fp.map (aM (fu (ks++os))))) (by simp[Cx.back,hs.bx])
  exact⟨v,rfl,hk _ _ _ _ (pz.put hd (Cp.az same2 hrr)) (by simp[Cx.back,Nv]) le2 qq hKK⟩
 rcases hc (Γ.call ks cm) w vs hw (Cx.uR hs.mem hg hnk pG) rfl (hA.az pq tt)with⟨v8,xr⟩|⟨v,w',v8,xr⟩
 ·rw[Oper.semAt_eq _ _ _ (λc=>by rw[ho];simp),ja w _ v8,Oper.uponIn_enter]
  refine⟨λh=>by simp[FW,Fence.wide]at h,KS ?_⟩
  refine xr.mono λe w' he=> ?_
  obtain⟨v,rfl,h⟩:=key e w' he
  exact h
 ·rw[Oper.semAt_eq _ _ _ (λc=>by rw[ho];simp),ja w _ v8]
  obtain⟨u,hu,h⟩:=key _ w' xr
  cases hu
  exact h
theorem qC {ρ:Nat->Nat} {p:PV} (h:ab (λ_=>false) p=true):az ρ p=p:=zj (f:=λ_=>false) (by simp) p h
theorem pL {ρ:Nat->Nat} {l:List PV} (h:ae (λ_=>false) l=true):aO ρ l=l:=nF (f:=λ_=>false) (by simp) l h
mutual
theorem ki {f g:Nat->Bool} (h:∀k,f k=true->g k=true):∀p,ab f p=true->ab g p=true
 | .st w l,hh=>by simp only[ab]at*;exact fw h l hh
 | .ar sz n l,hh=>by simp only[ab]at*;exact fw h l hh
 | .tup l,hh=>by simp only[ab]at*;exact fw h l hh
 | .sl sz l c,hh=>by simp only[ab]at*;exact fw h l hh
 | .fp sz l c,hh=>by simp only[ab]at*;exact fw h l hh
 | .fn f x y,hh=>by simp only[ab,aJ]at*;exact⟨fw h x hh.1,fw h y hh.2⟩
 | .gd b p,hh=>by simp only[ab]at*;exact ki h p hh
 | .ifc b p,hh=>by simp only[ab]at*;exact ki h p hh
 | .rs ..,hh=>by simp only[ab]at*;exact h _ hh
 | .pt ..,hh=>by simp only[ab]at*;exact h _ hh
 | .un,_| .bl _,_| .int ..,_| .str _,_| .np,_| .nf,_| .ni,_| .mp ..,_=>by simp[ab]
theorem fw {f g:Nat->Bool} (h:∀k,f k=true->g k=true):∀l,ae f l=true->ae g l=true
 |[],_=>by simp[ae]
 |p::l,hh=>by simp only[ae,aJ]at*;exact⟨ki h p hh.1,fw h l hh.2⟩
end
theorem zp {d:Option Nat} {f:AX} {args:List AX} {K:St->Prop} (h:oR P s d f args K):mK P s d f args K:=by
 unfold oR at h
 unfold mK
 have hv:∀ {g:Bool} {x:AX} {K K':PV->Prop},(∀p,K p->K' p)->vg g s x K->vg g s x K':=by
  intro g x K K' hh hv
  unfold vg at*
  split at hv
  ·exact⟨hv.1,hh _ hv.2⟩
  ·exact hh _ hv
 have hvs:∀ {g:Bool} {xs:List AX} {K K':List PV->Prop},(∀p,K p->K' p)->uD g s xs K->uD g s xs K':=by
  intro g xs
  induction xs with
  |nil=>intro K K' hh hv;exact hh _ hv
  |cons x xs ih=>intro K K' hh hq;exact hv (λp hp=>ih (λq hq=>hh _ hq) hp) hq
 refine hv (λpf hq=>hvs (λps hr=> ?_) hq) h
 split at hr
 case h_2=>exact hr.elim
 rename_i fid first cap
 obtain⟨v,⟨h1,h2⟩,hc,hK⟩:=hr
 refine⟨[],[],[],(λr fp=>r=v∧fp=[]),rfl,by simp,by simp,fw (by simp) _ h1,rfl,?_,?_⟩
 ·rw[pL h1];exact hc
 ·rintro r fp ⟨rfl,rfl⟩
  refine⟨⟨rfl,ki (by simp) _ h2,rfl⟩,?_⟩
  rw[qC h2]
  exact hK
end Go.Ab
namespace Go.Ab
variable [eo]
variable {P:Program} {nt:Nat} {ds:List Deferred} {s:St} {Γ:Cx} {a:Act} {w:World} [gK]
def Dt {α:Type} (C:(α->Prop)->Prop):Prop:=∀K,C K->∃p,K p∧∀K':α->Prop,K' p->C K'
theorem Dt.ret {α:Type} (v:α):Dt (λK=>K v):=λ_ h=>⟨v,h,λ_ h=>h⟩
theorem Dt.no {α:Type}:Dt (λ_:α->Prop=>False):=λ_ h=>h.elim
theorem Dt.bind {α β:Type} {C:(α->Prop)->Prop} {D:α->(β->Prop)->Prop} (hc:Dt C) (hd:∀p,Dt (D p)):Dt (λK=>C (λp=>D p K)):=by
 intro K h
 obtain⟨p,hp,hk⟩:=hc _ h
 obtain⟨q,hq,A8⟩:=hd p _ hp
 exact⟨q,hq,λK' h'=>hk _ (A8 _ h')⟩
theorem Dt.and {α:Type} {c:Prop} {C:(α->Prop)->Prop} (hc:Dt C):Dt (λK=>c∧C K):=by
 intro K h
 obtain⟨p,hp,hk⟩:=hc _ h.2
 exact⟨p,hp,λK' h'=>⟨h.1,hk _ h'⟩⟩
theorem qD (g:Bool) (s:St) (x:AX):Dt (vg g s x):=by
 unfold vg
 split
 ·exact Dt.and (Dt.ret _)
 ·exact Dt.ret _
theorem q7 (g:Bool) (s:St):∀xs,Dt (uD g s xs)
 |[]=>Dt.ret _
 |
  x::xs=>by
  show Dt λK=>uD g s (x::xs) K
  simp only[uD]
  exact Dt.bind (qD g s x) λp=>Dt.bind (q7 g s xs) λps=>Dt.ret _
theorem wD (g:Bool) (s:St):∀xs,Dt (y5 g s xs)
 |[]=>Dt.ret _
 |
  (i,x)::xs=>by
  show Dt λK=>y5 g s ((i,x)::xs) K
  simp only[y5]
  exact Dt.bind (qD g s x) λp=>Dt.bind (wD g s xs) λps=>Dt.ret _
theorem pM (p:PV):Dt (ot p):=by
 unfold ot;split
 ·exact Dt.ret _
 ·exact Dt.no
theorem D7 (mx:Bool):∀l a,Dt (nk mx a l)
 |[],a=>Dt.ret _
 |
  p::r,a=>by
  show Dt λK=>nk mx a (p::r) K
  simp only[nk]
  exact Dt.bind (pM p) λb=>D7 mx r _
theorem OL (op:BinOp) (k:IntKind) (a b:Int):Dt (pC op k a b):=by
 cases op<;>first|exact Dt.ret _|exact Dt.and (Dt.ret _)
theorem OM (op:BinOp) (a b:List UInt8):Dt (xZ op a b):=by
 cases op<;>first|exact Dt.ret _|exact Dt.and (Dt.ret _)|exact Dt.no
theorem uY (op:BinOp) (b:Bool):Dt (tM op b):=by
 cases op<;>first|exact Dt.ret _|exact Dt.no
theorem ON (s:St) (op:BinOp) (eqs:ET) (p q:PV):Dt (qW s op eqs p q):=by
 show Dt λK=>qW s op eqs p q K
 cases eqs<;>simp only[qW]
 case no=>split<;>first|exact Dt.and (OL _ _ _ _)|exact OM _ _ _|exact Dt.no
 case sh x=>exact Dt.and (uY _ _)
 case bl=>split<;>first|exact uY _ _|exact Dt.no
 case ptr=>
  split
  ·exact uY _ _
  ·split
   ·exact Dt.and (uY _ _)
   ·exact Dt.no
  ·exact uY _ _
  ·exact Dt.no
def yf {α β:Type} (C:(α->β->Prop)->Prop):Prop:=∀K,C K->∃p q,K p q∧∀K':α->β->Prop,K' p q->C K'
theorem yf.ret {α β:Type} (v:α) (u:β):yf (λK=>K v u):=λ_ h=>⟨v,u,h,λ_ h=>h⟩
theorem yf.no {α β:Type}:yf (λ_:α->β->Prop=>False):=λ_ h=>h.elim
theorem yf.and {α β:Type} {c:Prop} {C:(α->β->Prop)->Prop} (hc:yf C):yf (λK=>c∧C K):=by
 intro K h
 obtain⟨p,q,hp,hk⟩:=hc _ h.2
 exact⟨p,q,hp,λK' h'=>⟨h.1,hk _ h'⟩⟩
theorem yf.of {α β γ:Type} {C:(α->Prop)->Prop} {D:α->(β->γ->Prop)->Prop} (hc:Dt C) (hd:∀p,yf (D p)):yf (λK=>C (λp=>D p K)):=by
 intro K h
 obtain⟨p,hp,hk⟩:=hc _ h
 obtain⟨q,r,hq,A8⟩:=hd p _ hp
 exact⟨q,r,hq,λK' h'=>hk _ (A8 _ h')⟩
theorem Dt.xE {α β γ:Type} {C:(α->β->Prop)->Prop} {D:α->β->(γ->Prop)->Prop} (hc:yf C) (hd:∀p q,Dt (D p q)):Dt (λK=>C (λp q=>D p q K)):=by
 intro K h
 obtain⟨p,q,hp,hk⟩:=hc _ h
 obtain⟨r,hq,A8⟩:=hd p q _ hp
 exact⟨r,hq,λK' h'=>hk _ (A8 _ h')⟩
theorem oS (s:St) (p:PV):yf (content s p):=by
 show yf λK=>content s p K
 cases p<;>simp only[content]<;>first
  |exact yf.ret _ _|exact yf.no
  |(split<;>first|exact yf.and (yf.ret _ _)|exact yf.no|(split<;>first|exact yf.and (yf.ret _ _)|exact yf.no))
theorem q8 (g:Bool) (s:St) (lo hi:Option AX) (len cap:Nat):yf (kU g s lo hi len cap):=by
 unfold kU
 refine yf.of (C:=match hi with|none=>λ(J:Nat->Prop)=>J len|some x=>λJ=>vg g s x λp=>ot p λh=>(0≤h∧h≤cap)∧J h.toNat) ?_ λh=> ?_
 ·cases hi with
  |none=>exact Dt.ret _
  |some x=>exact Dt.bind (qD g s x) λp=>Dt.bind (pM p) λh=>Dt.and (Dt.ret _)
 ·refine yf.of (C:=match lo with|none=>λ(J:Nat->Prop)=>J 0|some x=>λJ=>vg g s x λp=>ot p λl=>(0≤l∧l≤h)∧J l.toNat) ?_ λl=>yf.ret _ _
  cases lo with
  |none=>exact Dt.ret _
  |some x=>exact Dt.bind (qD g s x) λp=>Dt.bind (pM p) λh=>Dt.and (Dt.ret _)
theorem rL (g:Bool) (s:St) (k:AK):Dt (ev g s k):=by
 have V:=qD g s
 have I:=pM
 show Dt λK=>ev g s k K
 cases k with
 |mv x=>exact V x
 |
  pick c a b=>
  simp only[ev]
  refine Dt.bind (V c) λp=> ?_
  split
  ·split<;>first|exact Dt.ret _|exact Dt.and (Dt.ret _)|exact Dt.no
  ·exact Dt.no
 |
  build z parts=>
  simp only[ev]
  refine Dt.bind (wD g s parts) λp=> ?_
  split<;>first|exact Dt.no|(split<;>first|exact Dt.ret _|exact Dt.no)
 |
  load agg w x=>
  simp only[ev]
  refine Dt.bind (V x) λp=> ?_
  split
  ·split
   ·split<;>first|exact Dt.and (Dt.ret _)|exact Dt.no
   ·exact Dt.no
  ·split<;>first|exact Dt.and (Dt.ret _)|exact Dt.no
  ·exact Dt.no
 |
  nilCheck x=>
  simp only[ev]
  refine Dt.bind (V x) λp=> ?_
  split
  ·split<;>first|exact Dt.and (Dt.ret _)|exact Dt.no
  all_goals first|exact Dt.ret _|exact Dt.no
 |bin op eqs x y=>simp only[ev];exact Dt.bind (V x) λp=>Dt.bind (V y) λq=>ON _ _ _ _ _
 |
  un op x=>
  simp only[ev]
  refine Dt.bind (V x) λp=> ?_
  split<;>first|exact Dt.ret _|exact Dt.no
 |convI k x=>simp only[ev];exact Dt.bind (V x) λp=>Dt.bind (I p) λn=>Dt.ret _
 |
  convS x=>
  simp only[ev]
  refine Dt.bind (V x) λp=>Dt.xE (oS s p) λsz l=>Dt.and ?_
  split<;>first|exact Dt.ret _|exact Dt.no
 |mkFunc f first cap=>simp only[ev];exact Dt.bind (q7 g s first) λp=>Dt.bind (q7 g s cap) λq=>Dt.and (Dt.ret _)
 |
  slice k x lo hi mx=>
  cases k with
  |
   str=>
   simp only[ev]
   refine Dt.bind (V x) λp=> ?_
   split
   ·exact Dt.and (Dt.xE (q8 _ _ _ _ _ _) λl h=>Dt.ret _)
   ·exact Dt.no
  |
   sl sz=>
   simp only[ev]
   refine Dt.bind (V x) λp=> ?_
   split
   ·split
    ·exact Dt.xE (q8 _ _ _ _ _ _) λl h=>Dt.and (Dt.ret _)
    ·exact Dt.bind (V _) λq=>Dt.bind (I q) λm=>Dt.and (Dt.xE (q8 _ _ _ _ _ _) λl h=>Dt.and (Dt.ret _))
   ·split
    ·refine Dt.and ?_
     split
     ·exact Dt.xE (q8 _ _ _ _ _ _) λl h=>Dt.ret _
     ·exact Dt.bind (V _) λq=>Dt.bind (I q) λm=>Dt.and (Dt.xE (q8 _ _ _ _ _ _) λl h=>Dt.ret _)
    ·exact Dt.no
   ·exact Dt.no
  |
   ar n sz=>
   simp only[ev]
   refine Dt.bind (V x) λp=> ?_
   split
   ·split
    ·exact Dt.and (Dt.and (Dt.xE (q8 _ _ _ _ _ _) λl h=>Dt.ret _))
    ·exact Dt.no
   ·split
    ·exact Dt.and (Dt.xE (q8 _ _ _ _ _ _) λl h=>Dt.ret _)
    ·exact Dt.no
   ·exact Dt.no
 |
  fieldA i off x=>
  simp only[ev]
  refine Dt.bind (V x) λp=> ?_
  split
  ·split<;>first|exact Dt.and (Dt.ret _)|exact Dt.no
  all_goals first|exact Dt.ret _|exact Dt.no
 |
  s2a n sz x=>
  simp only[ev]
  refine Dt.bind (V x) λp=> ?_
  split
  ·exact Dt.and (Dt.ret _)
  ·split<;>first|exact Dt.and (Dt.ret _)|exact Dt.no
  all_goals first|exact Dt.ret _|exact Dt.no
 |
  field i off agg w x=>
  simp only[ev]
  refine Dt.bind (V x) λp=> ?_
  split
  ·split<;>first|exact Dt.and (Dt.ret _)|exact Dt.no
  ·exact Dt.no
 |
  indexA k x i=>
  cases k with
  |str=>simp only[ev];exact Dt.no
  |
   sl sz=>
   simp only[ev]
   refine Dt.bind (V x) λp=>Dt.bind (V i) λq=>Dt.bind (I q) λj=> ?_
   split
   ·exact Dt.and (Dt.ret _)
   ·split<;>first|exact Dt.and (Dt.ret _)|exact Dt.no
   ·exact Dt.no
  |
   ar n sz=>
   simp only[ev]
   refine Dt.bind (V x) λp=>Dt.bind (V i) λq=>Dt.bind (I q) λj=>Dt.and ?_
   split
   ·split<;>first|exact Dt.and (Dt.ret _)|exact Dt.no
   all_goals first|exact Dt.ret _|exact Dt.no
 |
  index agg n w x i=>
  simp only[ev]
  refine Dt.bind (V x) λp=>Dt.bind (V i) λq=>Dt.bind (I q) λj=> ?_
  split
  ·split<;>first|exact Dt.and (Dt.ret _)|exact Dt.no
  ·exact Dt.no
 |
  indexS x i=>
  simp only[ev]
  refine Dt.bind (V x) λp=>Dt.bind (V i) λq=>Dt.bind (I q) λj=> ?_
  split
  ·split<;>first|exact Dt.and (Dt.ret _)|exact Dt.no
  ·exact Dt.no
 |
  extract i x=>
  simp only[ev]
  split
  ·split<;>first|exact Dt.ret _|exact Dt.no
  ·exact Dt.no
 |
  len x=>
  simp only[ev]
  refine Dt.bind (V x) λp=> ?_
  split
  ·exact Dt.ret _
  ·split<;>first|exact Dt.and (Dt.ret _)|exact Dt.no
  ·exact Dt.no
 |
  cap x=>
  simp only[ev]
  refine Dt.bind (V x) λp=> ?_
  split
  ·split<;>first|exact Dt.and (Dt.ret _)|exact Dt.no
  ·exact Dt.no
 |
  lenS x=>
  simp only[ev]
  refine Dt.bind (V x) λp=> ?_
  split<;>first|exact Dt.ret _|exact Dt.no
 |lenC n=>simp only[ev];exact Dt.ret _
 |
  mm mx xs=>
  simp only[ev]
  refine Dt.bind (q7 g s xs) λps=> ?_
  split
  ·exact Dt.bind (D7 _ _ _) λn=>Dt.ret _
  ·exact Dt.no
 |_=>simp only[ev];exact Dt.no
end Go.Ab
namespace Go.Ab
variable [eo]
variable {P:Program} {nt:Nat} {ds:List Deferred} {s s':St} {Γ:Cx} {a:Act} {w:World} [gK]
def AX.reads:AX->List Nat
 | .t n=>[n]
 | .c _=>[]
def Yh:List AX->List Nat
 |[]=>[]
 |x::r=>x.reads++Yh r
def axo:Option AX->List Nat
 |none=>[]
 |some x=>x.reads
def axp:List (Nat×AX)->List Nat
 |[]=>[]
 |(_,x)::r=>x.reads++axp r
def AK.reads:AK->List Nat
 | .mv x| .load _ _ x| .nilCheck x| .un _ x| .convI _ x| .convS x| .convB x| .convL x| .fieldA _ _ x| .s2a _ _ x| .field _ _ _ _ x| .extract _ x| .len x| .lenS x| .cap x| .box x=>x.reads
 | .pick c a b=>c.reads++a.reads++b.reads
 | .build _ parts| .buildSlice _ _ _ _ parts=>axp parts
 | .bin _ _ x y| .indexA _ x y| .index _ _ _ x y| .indexS x y| .store _ x y| .append _ _ _ x y| .appendZ _ _ _ x y| .copy _ x y| .makeSlice _ _ _ x y=>x.reads++y.reads
 | .mkFunc _ a b=>Yh a++Yh b
 | .slice _ x lo hi mx=>x.reads++(axo lo++(axo hi++axo mx))
 | .lenC _| .alloc _| .mkMap .. =>[]
 | .mapGet _ _ _ _ m x=>m.reads++x.reads
 | .mapSet _ _ m x y=>m.reads++(x.reads++y.reads)
 | .mm _ xs=>Yh xs
 | .call f args| .callq f args=>f.reads++Yh args
 | .isNil _ x| .fill _ _ x=>x.reads
def dK (s s':St) (l:List Nat):Prop:=∀n∈l,get s'.env n=get s.env n
theorem dK.left {l m:List Nat} (h:dK s s' (l++m)):dK s s' l:=λn hn=>h n (List.mem_append.2 (.inl hn))
theorem dK.right {l m:List Nat} (h:dK s s' (l++m)):dK s s' m:=λn hn=>h n (List.mem_append.2 (.inr hn))
theorem lL {x:AX} (h:dK s s' x.reads):vx s' x=vx s x:=by
 cases x with
 |t n=>simp only[vx];rw[h n (by simp[AX.reads])]
 |c p=>rfl
theorem aE {g:Bool} {x:AX} (h:dK s s' x.reads):vg g s' x=vg g s x:=by
 funext K;unfold vg;rw[lL h]
theorem iu {g:Bool}:∀ {xs:List AX},dK s s' (Yh xs)->uD g s' xs=uD g s xs
 |[],_=>rfl
 |
  x::xs,h=>by
  funext K;simp only[uD];rw[aE (x:=x) h.left,iu (xs:=xs) h.right]
theorem nv {g:Bool}:∀ {xs:List (Nat×AX)},dK s s' (axp xs)->y5 g s' xs=y5 g s xs
 |[],_=>rfl
 |
  (i,x)::xs,h=>by
  funext K;simp only[y5];rw[aE (x:=x) h.left,nv (xs:=xs) h.right]
theorem tA (hb:s'.bx=s.bx) (p:PV):content s' p=content s p:=by
 funext K;cases p<;>simp only[content,hb]
theorem F6 (hb:s'.bx=s.bx) (op:BinOp) (e:ET) (p q:PV):qW s' op e p q=qW s op e p q:=by
 funext K;unfold qW;rw[hb]
theorem zq {g:Bool} {lo hi:Option AX} (h1:dK s s' (axo lo)) (h2:dK s s' (axo hi)) (n c:Nat):kU g s' lo hi n c=kU g s lo hi n c:=by
 funext K
 cases lo<;>cases hi<;>simp only[kU]
 ·rw[aE h2]
 ·rw[aE h1]
 ·rw[aE h2];simp only[aE h1]
theorem zt {g:Bool} {k:AK} (hb:s'.bx=s.bx) (h:dK s s' k.reads):ev g s' k=ev g s k:=by
 funext K
 cases k with
 |mv x=>simp only[ev];rw[aE h]
 |pick c a b=>simp only[ev];rw[aE h.left.left,lL h.left.right,lL h.right]
 |build z parts=>simp only[ev];rw[nv h]
 |load agg w x=>simp only[ev];rw[aE h,hb]
 |nilCheck x=>simp only[ev];rw[aE h,hb]
 |bin op e x y=>simp only[ev];rw[aE h.left,aE h.right];simp only[F6 hb]
 |un op x=>simp only[ev];rw[aE h]
 |convI k x=>simp only[ev];rw[aE h]
 |convS x=>simp only[ev];rw[aE h];simp only[tA hb]
 |mkFunc f a b=>simp only[ev];rw[iu h.left,iu h.right]
 |
  slice k x lo hi mx=>
  have hx:=aE (g:=g) h.left
  have hl:=λn c=>zq (g:=g) h.right.left h.right.right.left n c
  have hm:=h.right.right.right
  cases k<;>cases mx<;>simp only[ev,hx,hl,hb]
  rw[aE (x:=_) hm]
 |fieldA i off x=>simp only[ev];rw[aE h,hb]
 |s2a n sz x=>simp only[ev];rw[aE h,hb]
 |field i off agg w x=>simp only[ev];rw[aE h]
 |
  indexA k x i=>
  have hx:=aE (g:=g) h.left
  have hi:=aE (g:=g) h.right
  cases k<;>simp only[ev,hx,hi,hb]
 |index agg n w x i=>simp only[ev];rw[aE h.left,aE h.right]
 |indexS x i=>simp only[ev];rw[aE h.left,aE h.right]
 |extract i x=>simp only[ev];rw[lL h]
 |len x=>simp only[ev];rw[aE h,hb]
 |lenS x=>simp only[ev];rw[aE h]
 |cap x=>simp only[ev];rw[aE h,hb]
 |lenC n=>rfl
 |mm mx xs=>simp only[ev];rw[iu h]
 |_=>rfl
def AO.quiet (o:AO):Bool:=
 match o.k with
 | .call .. =>false
 | .callq .. =>true
 | .buildSlice own .. => !own
 |k=> !ow k
def AO.reads (o:AO):List Nat:=(match o.guard with|some (n,_)=>[n]|none=>[])++o.k.reads
theorem KY {d:Option Nat} {f:AX} {args:List AX} {K:St->Prop} (h:oR P s d f args K):
  ∃v,K (s.put d v)∧∀s',s'.bx=s.bx->dK s s' (AK.callq f args).reads->∀K':St->Prop,K' (s'.put d v)->oR P s' d f args K':=by
 unfold oR at h
 obtain⟨pf,h,h1⟩:=qD _ _ _ _ h
 obtain⟨ps,h,h2⟩:=q7 _ _ _ _ h
 split at h
 case h_2=>exact h.elim
 rename_i fid first cap
 obtain⟨v,v8,xr,hK⟩:=h
 refine⟨v,hK,λs' hb ha K' ll=> ?_⟩
 unfold oR
 rw[aE ha.left]
 refine h1 _ ?_
 rw[iu ha.right]
 exact h2 _ ⟨v,v8,xr,ll⟩
theorem KZ {d:Option Nat} {sz n:Nat} {z:PV} {parts:List (Nat×AX)} {K:St->Prop} (h:ex s d (.buildSlice false sz z n parts) K):
  ∃v,K (s.put d v)∧∀s',s'.bx=s.bx->dK s s' (AK.buildSlice false sz z n parts).reads->∀K':St->Prop,K' (s'.put d v)->ex s' d (.buildSlice false sz z n parts) K':=by
 simp only[ex]at h
 obtain⟨ps,h,h1⟩:=wD _ _ _ _ h
 split at h
 case h_2=>exact h.elim
 rename_i l hl
 simp only[fJ,if_false]at h
 refine⟨_,h,λs' hb ha K' ll=> ?_⟩
 simp only[ex]
 rw[nv ha]
 refine h1 _ ?_
 simp only[hl,fJ,if_false]
 exact ll
theorem F7 {o:AO} {K:St->Prop} (hq:o.quiet=true) (h:kV P s o K):
  ∃v,K (s.put o.dst v)∧∀s',s'.bx=s.bx->dK s s' o.k.reads->∀K':St->Prop,K' (s'.put o.dst v)->kV P s' o K':=by
 obtain⟨dst,guard,mg,k⟩:=o
 cases k with
 |call f args=>simp[AO.quiet]at hq
 |callq f args=>exact KY h
 |
  buildSlice own sz z n parts=>
  simp only[AO.quiet,Bool.not_eq_true']at hq
  subst hq
  simp only[kV,ow,if_true]at h⊢
  exact KZ h
 |
  _=>
  first
  |(simp[AO.quiet,ow]at hq;done)
  |(simp only[kV,ow,fJ,if_false]at h⊢
    obtain⟨v,hK,hv⟩:=rL _ _ _ _ h
    refine⟨v,hK,λs' hb ha K' ll=> ?_⟩
    rw[zt hb ha]
    exact hv _ ll)
theorem F8 {o:AO} {K:St->Prop} (hq:o.quiet=true) (h:jd P s o K):
  ∃v,K (s.put o.dst v)∧∀s',s'.bx=s.bx->dK s s' o.reads->∀K':St->Prop,K' (s'.put o.dst v)->jd P s' o K':=by
 unfold jd at h
 cases hg:o.guard with
 |
  none=>
  rw[hg]at h
  obtain⟨v,hK,hv⟩:=F7 hq h
  refine⟨v,hK,λs' hb ha K' ll=> ?_⟩
  unfold jd;rw[hg]
  exact hv s' hb ha.right K' ll
 |
  some gw=>
  obtain⟨sl,want⟩:=gw
  rw[hg]at h
  simp only at h
  have fo:∀ {s':St},dK s s' o.reads->get s'.env sl=get s.env sl:=λha=>ha sl (by simp[AO.reads,hg])
  split at h
  ·rename_i b hb
   split at h
   ·rename_i hm
    obtain⟨v,hK,hv⟩:=rL _ _ _ _ h
    refine⟨_,hK,λs' lj ha K' ll=> ?_⟩
    unfold jd;rw[hg];simp only[fo ha,hb,hm,if_true]
    rw[zt lj ha.right]
    exact hv _ ll
   ·rename_i hm
    by_cases oF:b=want
    ·obtain⟨v,hK,hv⟩:=F7 hq (h.1 oF)
     refine⟨v,hK,λs' lj ha K' ll=> ?_⟩
     unfold jd;rw[hg];simp only[fo ha,hb,hm]
     exact⟨λ_=>hv s' lj ha.right K' ll,λhn=>absurd oF hn⟩
    ·refine⟨.un,h.2 oF,λs' lj ha K' ll=> ?_⟩
     unfold jd;rw[hg];simp only[fo ha,hb,hm]
     exact⟨λhn=>absurd hn oF,λ_=>ll⟩
  ·rename_i g b hb
   split at h
   ·rename_i hm
    obtain⟨v,hK,hv⟩:=rL _ _ _ _ h
    refine⟨_,hK,λs' lj ha K' ll=> ?_⟩
    unfold jd;rw[hg];simp only[fo ha,hb,hm,if_true]
    rw[zt lj ha.right]
    exact hv _ ll
   ·rename_i hm
    by_cases oF:g=true∧b=want
    ·obtain⟨v,hK,hv⟩:=F7 hq (h.1 oF.1 oF.2)
     refine⟨v,hK,λs' lj ha K' ll=> ?_⟩
     unfold jd;rw[hg];simp only[fo ha,hb,hm]
     exact⟨λ_ _=>hv s' lj ha.right K' ll,λhn=>absurd oF.2 (hn oF.1)⟩
    ·refine⟨.un,h.2 (λh1 h2=>oF ⟨h1,h2⟩),λs' lj ha K' ll=> ?_⟩
     unfold jd;rw[hg];simp only[fo ha,hb,hm]
     exact⟨λh1 h2=>absurd ⟨h1,h2⟩ oF,λ_=>ll⟩
  ·exact h.elim
theorem put_comm {α:Type} {n m:Nat} (h:n≠m) (x y:α):∀l:List (Nat×α),put (put l n x) m y=put (put l m y) n x
 |
  []=>by
  simp only[put]
  by_cases h1:n<m
  ·simp[h,Ne.symm h,show¬m<n by omega,h1,put]
  ·simp[h,Ne.symm h,show m<n by omega,h1,put]
 |
  (k,v)::r=>by
  have ih:=put_comm h x y r
  grind [put]
theorem St.put_comm {d e:Option Nat} (h:∀k,d=some k->e≠some k) (v u:PV):(s.put d v).put e u=(s.put e u).put d v:=by
 cases d with
 |none=>rfl
 |
  some d=>
  cases e with
  |none=>rfl
  |
   some e=>
   have:d≠e:=λhh=>h d rfl (by rw[hh])
   simp only[St.put,Ab.put_comm this]
def AO.apart (x y:AO):Bool:=
 (match x.dst with|some d=> !y.reads.contains d&&y.dst !=some d|none=>true)&&
 (match y.dst with|some d=> !x.reads.contains d|none=>true)
theorem dK.put {d:Option Nat} {v:PV} {l:List Nat} (h:∀k,d=some k->k∉l):dK s (s.put d v) l:=by
 intro n hn
 cases d with
 |none=>rfl
 |
  some d=>
  have:d≠n:=λe=>h d rfl (e▸hn)
  simp[St.put,ch _ _ _ _ this]
theorem dK.aaX {d:Option Nat} {v:PV} {l:List Nat} (h:∀k,d=some k->k∉l):dK (s.put d v) s l:=λn hn=>((dK.put h) n hn).symm
theorem lC (d:Option Nat) (v:PV):(s.put d v).bx=s.bx:=by cases d<;>rfl
theorem K0 {x y:AO} {K:St->Prop} (hx:x.quiet=true) (hy:y.quiet=true) (gn:x.apart y=true) (h:jd P s x λs1=>jd P s1 y K):jd P s y λs2=>jd P s2 x K:=by
 have h1:∀d,x.dst=some d->d∉y.reads:=λd hd=>by simp[AO.apart,hd]at gn;exact gn.1.1
 have h2:∀d,x.dst=some d->y.dst≠some d:=λd hd=>by simp[AO.apart,hd]at gn;exact gn.1.2
 have h3:∀d,y.dst=some d->d∉x.reads:=λd hd=>by simp[AO.apart,hd]at gn;exact gn.2
 obtain⟨v,h,hv⟩:=F8 hx h
 obtain⟨u,h,hu⟩:=F8 hy h
 refine hu s (lC _ _).symm (dK.aaX h1) _ ?_
 refine hv _ (lC _ _) (dK.put h3) _ ?_
 rw[St.put_comm (λk hk he=>h2 k he hk)]
 exact h
end Go.Ab
namespace Go.Ab
variable [eo]
variable {P:Program} {nt:Nat} {ds:List Deferred} {s s':St} {Γ:Cx} {a:Act} {w:World} [gK]
theorem q9 {ro:Option Nat} {ops:Array Oper} {o:Oper} {i:Nat} {Q:Exit->Act->World->Prop} {K:Act->World->Prop} (hi:ops[i]? =some o) (h1:Region.wanted o (yielded ops a.tmps)=true->o.wpIn (FW ro) 0 P a w K Q) (h2:Region.wanted o (yielded ops a.tmps)=false->K (a.put o.dst undef) w):wpOpIn (FW ro) 0 P ops Q i K a w:=by
 unfold wpOpIn
 rw[hi]
 simp only
 cases h:Region.wanted o (yielded ops a.tmps)with
 |true=>simp only[if_true];exact h1 h
 |false=>simp only[fJ,if_false];exact⟨λ_ _=>trivial,h2 h⟩
theorem uZ {b:Builtin} {xs:List Operand} {ts:List TypeId} {f:AX} {l:List AX} (h:dx P b xs ts=some (.call f l)):False:=by
 unfold dx at h
 split at h
 all_goals (repeat' (split at h))
 all_goals first|(simp at h;done)|contradiction
theorem tU {b:Builtin} {xs:List Operand} {ts:List TypeId} {f:AX} {l:List AX} (h:dx P b xs ts=some (.callq f l)):False:=by
 unfold dx at h
 split at h
 all_goals (repeat' (split at h))
 all_goals first|(simp at h;done)|contradiction
theorem CL {own:Bool} {op:Op} {f:AX} {l:List AX} (h:lB P own op=some (.callq f l)):False:=by
 unfold lB at h
 split at h
 all_goals first|(exact tU h)|skip
 all_goals (repeat' (split at h))
 all_goals first|(simp at h;done)|contradiction
theorem aN.slz {z z':Nat} {v:Value} (h:aN Γ (.sl z [] true) v):aN Γ (.sl z' [] true) v:=by
 simp only[aN]at h⊢
 cases h with
 |
  sl _ _ _ ad bt h1 h2 h3 h4 h5 h6=>
  have:=aD.sl (Γ:=Γ) z' [] true ad bt .nil (by simp) h3 h4 (λh=>absurd rfl h) .nil
  exact this
theorem K4 {o:Oper} {k:AK} {own draw:Bool} {ty:TypeId} {K:PV->Prop} (hk:lB P own o.op=some k) (hs:iz nt ds s Γ a) (hw:w.heap=Γ.heap) (he:ev true s (wC P draw ty k) K):
  ∃p v,K p∧(execOp a.eval o).run P w= .ok (.value v) w∧aN Γ p v:=by
 unfold wC at he
 split at he
 ·split at he<;>simp[ev]at he
 ·split at he
  ·rename_i e _
   obtain⟨p,v,rfl,ja,hr⟩:=za (K:=λp=>p= .sl 0 [] true) hk hs hw rfl (by simp[ev,vg,vx])
   simp only[ev,vg,vx]at he
   exact⟨_,v,he,ja,hr.slz⟩
  ·exact za hk hs hw rfl he
 ·exact za hk hs hw rfl he
theorem K5 {draw:Bool} {ty:TypeId} {k:AK}:ow (wC P draw ty k)=ow k:=by
 unfold wC
 split
 ·split<;>rfl
 ·split<;>rfl
 ·rfl
theorem Uv {draw:Bool} {ty:TypeId} {k:AK} (h:ow k=true):wC P draw ty k=k:=by
 unfold wC
 split
 ·simp[ow]at h
 ·simp[ow]at h
 ·rfl
theorem wE {ro:Option Nat} {o:Oper} {ao:AO} {ops:Array Oper} {own sp:List Nat} {draw:Bool} {K:St->Prop} {Kr:Act->World->Prop} {Q:Exit->Act->World->Prop} (ht:qe P nt ops own sp draw o=some ao) (hs:iz nt ds s Γ a) (hw:w.heap=Γ.heap)
  (hY:zn P Γ) (h:kV P s ao K) (hk:D4 P nt ds Γ w K Kr):o.wpIn (FW ro) 0 P a w Kr Q:=by
 unfold qe at ht
 generalize (draw&& !Uu own o.dst)=dr at ht
 split at ht
 case h_2=>simp at ht
 rename_i k g pr hg
 split at ht
 case isFalse=>simp at ht
 rename_i hd
 simp only[sJ]at ht
 by_cases hc:∃f args,k= .call f args
 ·obtain⟨f,args,rfl⟩:=hc
  have h':mK P s o.dst f args K:=by
   rw[←ht]at h
   cases dr with
   |true=>simp only[wC,if_true,kV]at h;exact zp h
   |false=>simp only[wC,fJ,if_false,kV]at h;exact h
  have FB:∀j,o.dst=some j->j<nt:=by
   intro j hj;rw[hj]at hd;simpa[xB]using hd
  --the operation is a call
  obtain⟨f0,args0,ae4,ho,hf0,ha0⟩:∃f0 args0 ae4,o.op= .call {callee:= .value f0,args:=args0,argTypes:=ae4}∧jG f0=some f∧uK args0.toList=some args:=by
   cases od:o.op with
   |
    call c=>
    obtain⟨callee,args0,tys⟩:=c
    rw[od]at pr
    cases callee with
    |
     value f0=>
     simp only[lB]at pr
     split at pr<;>simp only[sJ,reduceCtorEq,AK.call.injEq]at pr
     rename_i g0 l0 e1 e2
     exact⟨f0,args0,tys,rfl,by rw[e1,pr.1],by rw[e2,pr.2]⟩
    |invoke r m=>simp[lB]at pr
    |
     builtin b=>
     exfalso
     simp only[lB]at pr
     exact uZ pr
   |
    binOp op t x y yt=>
    exfalso
    rw[od]at pr;simp only[lB]at pr
    repeat (split at pr<;>(try contradiction))
    all_goals first|(simp at pr;done)|(split at pr<;>first|(simp at pr;done)|(split at pr<;>first|(simp at pr;done)|(split at pr<;>first|(simp at pr;done)|(split at pr<;>simp at pr))))
   |
    _=>
    exfalso
    rw[od]at pr
    first
    |(simp only[lB,reduceCtorEq]at pr;done)
    |(simp only[lB]at pr
      repeat (split at pr<;>(try contradiction))
      all_goals first|(simp at pr;done)|(split at pr<;>first|(simp at pr;done)|(split at pr<;>first|(simp at pr;done)|(split at pr<;>simp at pr))))
  exact D6 ho hf0 ha0 hs hw FB hY h' hk
 ·by_cases hx:ow k=true
  ·have e:kV P s ao K=ex s o.dst k K:=by
    rw[←ht]
    unfold kV
    rw[Uv hx]
    split
    ·rename_i heq;exact absurd ⟨_,_,heq⟩ hc
    ·rename_i heq;simp only at heq;rw[heq]at hx;simp[ow]at hx
    ·rw[if_pos hx]
   rw[e]at h
   exact Oper.xD pr (KW pr hs hw hd h) hk
  ·have e:kV P s ao K->ev true s (wC P dr o.type k) λp=>K (s.put o.dst p):=by
    rw[←ht]
    unfold kV
    intro h
    simp only at h
    split at h
    ·rename_i heq
     exfalso
     unfold wC at heq
     split at heq
     ·exact absurd ⟨_,_,rfl⟩ hc
     ·split at heq<;>simp at heq
     ·exact absurd ⟨_,_,heq⟩ hc
    ·rename_i heq
     exfalso
     unfold wC at heq
     split at heq
     ·exact absurd ⟨_,_,rfl⟩ hc
     ·split at heq<;>simp at heq
     ·rw[heq]at pr
      exact CL pr
    ·rw[if_neg (by rw[K5];exact hx)]at h
     exact h
   have he:=e h
   obtain⟨p,v,hK,ja,hr⟩:=K4 pr hs hw he
   refine Oper.xD pr (q5 hs (λj hj=> ?_) (Le.refl Γ) hs.mem rfl ja hw (WF.refl w) hr hK) hk
   rw[hj]at hd
   unfold xB at hd
   split at hd
   ·rename_i heq;simp[ow]at hx
   ·rename_i heq _;simp at heq;subst heq;simpa using hd
   ·rename_i heq;simp at heq
theorem Bj:aN Γ .un undef:=by simp[aN]
theorem CM {ops:Array Oper} {j sl:Nat} {want Ud:Bool} (h:uX ops (some (j,want))=some (some (sl,Ud))):(ops[j]?).bind (·.dst)=some sl∧Ud=want:=by
 unfold uX at h
 simp only at h
 split at h<;>simp at h
 rename_i d hd
 obtain⟨rfl,rfl⟩:=h
 exact⟨hd,rfl⟩
theorem qE {ro:Option Nat} {ops:Array Oper} {i:Nat} {o:Oper} {ao:AO} {own sp:List Nat} {draw:Bool} {K:St->Prop} {Kr:Act->World->Prop} {Q:Exit->Act->World->Prop} (hi:ops[i]? =some o) (ht:qe P nt ops own sp draw o=some ao) (hs:iz nt ds s Γ a) (hw:w.heap=Γ.heap)
  (hY:zn P Γ) (h:jd P s ao K) (hk:D4 P nt ds Γ w K Kr):wpOpIn (FW ro) 0 P ops Q i Kr a w:=by
 have ht0:=ht
 unfold qe at ht
 generalize (draw&& !Uu own o.dst)=dr at ht
 split at ht
 case h_2=>simp at ht
 rename_i k g pr hg
 split at ht
 case isFalse=>simp at ht
 rename_i hd
 simp only[sJ]at ht
 have hkd:ao.k=wC P dr o.type k:=by rw[←ht]
 have DF:ao.dst=o.dst:=by rw[←ht]
 have T6:ao.guard=g:=by rw[←ht]
 have hmg:ao.mg=true->sQ k=true:=by
  rw[←ht];intro hm
  simp only[aJ]at hm
  exact hm.1
 have Hd:∀ {p:PV} {v:Value},(∀x y z,k≠ .store x y z)->aN Γ p v->K (s.put o.dst p)->Kr (a.put o.dst v) w:=by
  intro p v dF hr hK
  refine hk _ _ _ _ (hs.put (λj hj=> ?_) hr) hw (Le.refl Γ) (WF.refl w) hK
  rw[hj]at hd
  unfold xB at hd
  split at hd
  ·exact absurd rfl (dF _ _ _)
  ·rename_i heq _;simp at heq;subst heq;simpa using hd
  ·rename_i heq;simp at heq
 have NC:K (s.put o.dst .un)->Kr (a.put o.dst undef) w:=by
  intro hK
  refine hk _ _ _ _ (hs.put (λj hj=> ?_) Bj) hw (Le.refl Γ) (WF.refl w) hK
  rw[hj]at hd
  unfold xB at hd
  split at hd
  ·simp at hd
  ·rename_i heq _;simp at heq;subst heq;simpa using hd
  ·rename_i heq;simp at heq
 unfold jd at h
 cases hog:o.guard with
 |
  none=>
  rw[hog]at hg;simp only[uX,sJ]at hg
  rw[T6,←hg]at h
  refine q9 hi (λ_=>wE ht0 hs hw hY h hk) (λhn=> ?_)
  simp[Region.wanted,hog]at hn
 |
  some jw=>
  obtain⟨j,am4⟩:=jw
  rw[hog]at hg
  obtain⟨sl,want,rfl⟩:∃sl want,g=some (sl,want):=by
   unfold uX at hg;simp only at hg;split at hg<;>simp at hg
   exact⟨_,_,hg.symm⟩
  obtain⟨ND,rfl⟩:=CM hg
  have IN:Region.wanted o (yielded ops a.tmps)=(yielded ops a.tmps j==some want):=by unfold Region.wanted;rw[hog]
  have hy:∀v,a.tmps.getD sl undef=v->yielded ops a.tmps j=(match v with| .bool b=>some b|_=>none):=by
   intro v hv
   unfold yielded
   rw[ND]
   simp only[Option.bind_some]
   rw[Array.getD_eq_getD_getElem?]at hv
   cases ho:a.tmps[sl]?with
   |none=>rw[ho]at hv;subst hv;rfl
   |some u=>rw[ho]at hv;subst hv;cases u<;>rfl
  rw[T6]at h
  simp only at h
  have Uc:∀ {gg:Bool},ao.mg=true->ev gg s ao.k (λp=>K (s.put ao.dst (.gd gg p)))->(Region.wanted o (yielded ops a.tmps)=gg)->wpOpIn (FW ro) 0 P ops Q i Kr a w:=by
   intro gg hm he hwg
   have hmm:sQ k=true:=hmg hm
   have dF:∀x y z,k≠ .store x y z:=by rintro x y z rfl;simp[sQ]at hmm
   rw[hkd,DF]at he
   refine q9 hi (λh1=> ?_) (λh1=> ?_)
   ·rw[hwg]at h1;subst h1
    obtain⟨p,v,hK,ja,hr⟩:=K4 pr hs hw he
    refine⟨λ_ _=>trivial,?_⟩
    rw[Oper.semAt_eq _ _ _ (xC pr),ja]
    exact Hd dF (p:= .gd true p) (by rw[aN];exact⟨λ_=>hr,by simp⟩) hK
   ·rw[hwg]at h1;subst h1
    obtain⟨p,hK,_⟩:=rL _ _ _ _ he
    exact Hd dF (p:= .gd false p) (by rw[aN];exact⟨by simp,λ_=>rfl⟩) hK
  split at h
  ·rename_i b hb
   have hbv:a.tmps.getD sl undef= .bool b:=by
    cases XD:get s.env sl with
    |none=>rw[XD]at hb;simp at hb
    |
     some q=>
     rw[XD]at hb;simp only[Option.getD_some]at hb;subst hb
     have:=hs.env sl _ XD
     simp only[aN]at this
     generalize a.tmps.getD sl undef=v at this
     cases this;rfl
   have hyb:yielded ops a.tmps j=some b:=by rw[hy _ hbv]
   split at h
   ·rename_i hm
    exact Uc hm h (by rw[IN,hyb];rfl)
   ·refine q9 hi (λh1=> ?_) (λh1=> ?_)
    ·rw[IN,hyb]at h1
     exact wE ht0 hs hw hY (h.1 (by simpa using h1)) hk
    ·rw[IN,hyb]at h1
     exact NC (by rw[←DF];exact h.2 (by simpa using h1))
  ·rename_i gg b hb
   have hbv:(gg=true->a.tmps.getD sl undef= .bool b)∧(gg=false->a.tmps.getD sl undef=undef):=by
    cases XD:get s.env sl with
    |none=>rw[XD]at hb;simp at hb
    |
     some q=>
     rw[XD]at hb;simp only[Option.getD_some]at hb;subst hb
     have:=hs.env sl _ XD
     rw[aN]at this
     refine⟨λhg=> ?_,this.2⟩
     have:=this.1 hg
     simp only[aN]at this
     generalize a.tmps.getD sl undef=v at this
     cases this;rfl
   have hwg:Region.wanted o (yielded ops a.tmps)=(gg&&b==want):=by
    rw[IN]
    cases gg with
    |true=>rw[hy _ (hbv.1 rfl)];rfl
    |false=>rw[hy _ (hbv.2 rfl)];simp[undef]
   split at h
   ·rename_i hm
    exact Uc hm h hwg
   ·refine q9 hi (λh1=> ?_) (λh1=> ?_)
    ·rw[hwg]at h1
     simp only[aJ,beq_iff_eq]at h1
     exact wE ht0 hs hw hY (h.1 h1.1 h1.2) hk
    ·rw[hwg]at h1
     have h2:=h.2 (λhg oF=>by rw[hg,oF]at h1;simp at h1)
     exact NC (by rw[←DF];exact h2)
  ·exact h.elim
end Go.Ab
namespace Go.Ab
variable [eo]
variable {P:Program} {nt:Nat} {ds:List Deferred} {s s':St} [gK]
def AK.free:AK->Bool
 | .mv _| .pick .. | .build .. | .un .. | .convI .. | .mkFunc .. | .field .. | .index .. | .indexS .. | .extract .. | .lenS _| .lenC _| .mm .. =>true
 |_=>false
def AO.free (o:AO):Bool:=o.k.free
def AO.pN (o:AO):Bool:=o.dst.isNone&&(match o.k with| .store .. =>true|_=>false)
theorem CN {g:Bool} {k:AK} {K:PV->Prop} (hf:k.free=true) (h:dK s s' k.reads) (he:ev g s k K):ev g s' k K:=by
 cases k with
 |mv x=>simp only[ev]at he⊢;rw[aE h];exact he
 |pick c a b=>simp only[ev]at he⊢;rw[aE h.left.left,lL h.left.right,lL h.right];exact he
 |build z parts=>simp only[ev]at he⊢;rw[nv h];exact he
 |un op x=>simp only[ev]at he⊢;rw[aE h];exact he
 |convI k x=>simp only[ev]at he⊢;rw[aE h];exact he
 |mkFunc f a b=>simp only[ev]at he⊢;rw[iu h.left];simp only[iu h.right];exact he
 |field i off agg w x=>simp only[ev]at he⊢;rw[aE h];exact he
 |index agg n w x i=>simp only[ev]at he⊢;rw[aE h.left,aE h.right];exact he
 |indexS x i=>simp only[ev]at he⊢;rw[aE h.left,aE h.right];exact he
 |extract i x=>simp only[ev]at he⊢;rw[lL h];exact he
 |lenS x=>simp only[ev]at he⊢;rw[aE h];exact he
 |lenC n=>simp only[ev]at he⊢;exact he
 |mm mx xs=>simp only[ev]at he⊢;rw[iu h];exact he
 |_=>simp[AK.free]at hf
theorem F9 {o:AO} (h:o.free=true):o.quiet=true:=by
 obtain⟨d,g,m,k⟩:=o
 cases k<;>simp[AO.free,AK.free]at h<;>rfl
theorem zu {o:AO} {K:St->Prop} (hf:o.free=true) (h:kV P s o K):
  ∃v,K (s.put o.dst v)∧∀s',dK s s' o.k.reads->∀K':St->Prop,K' (s'.put o.dst v)->kV P s' o K':=by
 obtain⟨dst,guard,mg,k⟩:=o
 have e:∀(s:St) K,kV P s ⟨dst,guard,mg,k⟩ K=ev true s k λp=>K (s.put dst p):=by
  intro s K
  cases k<;>first|rfl|(simp[AO.free,AK.free]at hf;done)
 rw[e]at h
 obtain⟨v,hK,hv⟩:=rL _ _ _ _ h
 refine⟨v,hK,λs' ha K' ll=> ?_⟩
 rw[e]
 exact CN hf ha (hv _ ll)
def Qf (P:Program) (r:St) (o:AO) (v:PV):Prop:=∀s':St,dK r s' o.reads->∀K':St->Prop,K' (s'.put o.dst v)->jd P s' o K'
theorem D8 {o:AO} {K:St->Prop} (hq:o.free=true) (h:jd P s o K):∃v,K (s.put o.dst v)∧Qf P s o v:=by
 unfold jd at h
 cases hg:o.guard with
 |
  none=>
  rw[hg]at h
  obtain⟨v,hK,hv⟩:=zu hq h
  refine⟨v,hK,λs' ha K' ll=> ?_⟩
  unfold jd;rw[hg]
  exact hv s' ha.right K' ll
 |
  some gw=>
  obtain⟨sl,want⟩:=gw
  rw[hg]at h
  simp only at h
  have fo:∀ {s':St},dK s s' o.reads->get s'.env sl=get s.env sl:=λha=>ha sl (by simp[AO.reads,hg])
  split at h
  ·rename_i b hb
   split at h
   ·rename_i hm
    obtain⟨v,hK,hv⟩:=rL _ _ _ _ h
    refine⟨_,hK,λs' ha K' ll=> ?_⟩
    unfold jd;rw[hg];simp only[fo ha,hb,hm,if_true]
    exact CN hq ha.right (hv _ ll)
   ·rename_i hm
    by_cases oF:b=want
    ·obtain⟨v,hK,hv⟩:=zu hq (h.1 oF)
     refine⟨v,hK,λs' ha K' ll=> ?_⟩
     unfold jd;rw[hg];simp only[fo ha,hb,hm]
     exact⟨λ_=>hv s' ha.right K' ll,λhn=>absurd oF hn⟩
    ·refine⟨.un,h.2 oF,λs' ha K' ll=> ?_⟩
     unfold jd;rw[hg];simp only[fo ha,hb,hm]
     exact⟨λhn=>absurd hn oF,λ_=>ll⟩
  ·rename_i g b hb
   split at h
   ·rename_i hm
    obtain⟨v,hK,hv⟩:=rL _ _ _ _ h
    refine⟨_,hK,λs' ha K' ll=> ?_⟩
    unfold jd;rw[hg];simp only[fo ha,hb,hm,if_true]
    exact CN hq ha.right (hv _ ll)
   ·rename_i hm
    by_cases oF:g=true∧b=want
    ·obtain⟨v,hK,hv⟩:=zu hq (h.1 oF.1 oF.2)
     refine⟨v,hK,λs' ha K' ll=> ?_⟩
     unfold jd;rw[hg];simp only[fo ha,hb,hm]
     exact⟨λ_ _=>hv s' ha.right K' ll,λhn=>absurd oF.2 (hn oF.1)⟩
    ·refine⟨.un,h.2 (λh1 h2=>oF ⟨h1,h2⟩),λs' ha K' ll=> ?_⟩
     unfold jd;rw[hg];simp only[fo ha,hb,hm]
     exact⟨λh1 h2=>absurd ⟨h1,h2⟩ oF,λ_=>ll⟩
  ·exact h.elim
theorem CO {o:AO} {K:St->Prop} (hq:o.pN=true) (h:kV P s o K):
  ∃b,K {s with bx:=b}∧∀s',s'.bx=s.bx->dK s s' o.k.reads->∀K':St->Prop,K' {s' with bx:=b}->kV P s' o K':=by
 obtain⟨dst,guard,mg,k⟩:=o
 simp only[AO.pN,aJ]at hq
 cases k<;>simp at hq
 rename_i n x y
 simp only[kV,ow,if_true,ex]at h⊢
 obtain⟨p,h,h1⟩:=qD _ _ _ _ h
 obtain⟨v,h,h2⟩:=qD _ _ _ _ h
 cases p<;>simp only at h
 case pt k pth aK=>
  split at h
  case h_2=>exact h.elim
  rename_i blk hb
  split at h
  case h_2=>exact h.elim
  rename_i b8 A6
  obtain⟨hc,hK⟩:=h
  refine⟨_,hK,λs' lj ha K' ll=> ?_⟩
  rw[aE ha.left]
  refine h1 _ ?_
  rw[aE ha.right]
  refine h2 _ ?_
  simp only[lj,hb,A6]
  exact⟨hc,ll⟩
theorem wF {o:AO} {K:St->Prop} (hq:o.pN=true) (h:jd P s o K):
  ∃b,K {s with bx:=b}∧∀s',s'.bx=s.bx->dK s s' o.reads->∀K':St->Prop,K' {s' with bx:=b}->jd P s' o K':=by
 have hd:o.dst=none:=by simp[AO.pN]at hq;exact hq.1
 have Hd:∀(s:St) p,s.put o.dst p=s:=by intro s p;rw[hd];rfl
 have NF:∀(g:Bool) (s:St) K,ev g s o.k K->False:=by
  intro g s K h
  obtain⟨dst,guard,mg,k⟩:=o
  cases k<;>simp[AO.pN]at hq
  simp[ev]at h
 unfold jd at h
 cases hg:o.guard with
 |
  none=>
  rw[hg]at h
  obtain⟨b,hK,hv⟩:=CO hq h
  refine⟨b,hK,λs' hb ha K' ll=> ?_⟩
  unfold jd;rw[hg]
  exact hv s' hb ha.right K' ll
 |
  some gw=>
  obtain⟨sl,want⟩:=gw
  rw[hg]at h
  simp only at h
  have fo:∀ {s':St},dK s s' o.reads->get s'.env sl=get s.env sl:=λha=>ha sl (by simp[AO.reads,hg])
  split at h
  ·rename_i b hb
   split at h
   ·exact(NF _ _ _ h).elim
   ·rename_i hm
    by_cases oF:b=want
    ·obtain⟨v,hK,hv⟩:=CO hq (h.1 oF)
     refine⟨v,hK,λs' lj ha K' ll=> ?_⟩
     unfold jd;rw[hg];simp only[fo ha,hb,hm]
     exact⟨λ_=>hv s' lj ha.right K' ll,λhn=>absurd oF hn⟩
    ·refine⟨s.bx,by have:=h.2 oF;rw[Hd]at this;exact this,λs' lj ha K' ll=> ?_⟩
     unfold jd;rw[hg];simp only[fo ha,hb,hm]
     exact⟨λhn=>absurd hn oF,λ_=>by rw[Hd];rw[←lj]at ll;exact ll⟩
  ·rename_i g b hb
   split at h
   ·exact(NF _ _ _ h).elim
   ·rename_i hm
    by_cases oF:g=true∧b=want
    ·obtain⟨v,hK,hv⟩:=CO hq (h.1 oF.1 oF.2)
     refine⟨v,hK,λs' lj ha K' ll=> ?_⟩
     unfold jd;rw[hg];simp only[fo ha,hb,hm]
     exact⟨λ_ _=>hv s' lj ha.right K' ll,λhn=>absurd oF.2 (hn oF.1)⟩
    ·refine⟨s.bx,by have:=h.2 (λh1 h2=>oF ⟨h1,h2⟩);rw[Hd]at this;exact this,λs' lj ha K' ll=> ?_⟩
     unfold jd;rw[hg];simp only[fo ha,hb,hm]
     exact⟨λh1 h2=>absurd ⟨h1,h2⟩ oF,λ_=>by rw[Hd];rw[←lj]at ll;exact ll⟩
  ·exact h.elim
theorem D9 {d:Option Nat} {v:PV} {b:List (Nat×br)}:({s with bx:=b}:St).put d v= {s.put d v with bx:=b}:=by cases d<;>rfl
theorem dK.bx {l:List Nat} {b:List (Nat×br)}:dK s {s with bx:=b} l:=λ_ _=>rfl
theorem dK.vY {l:List Nat} {b:List (Nat×br)}:dK {s with bx:=b} s l:=λ_ _=>rfl
def AO.comm (y x:AO):Bool:=y.apart x&&(y.quiet&&x.quiet||y.free&&x.pN||y.pN&&x.free)
theorem K6 {y x:AO} {K:St->Prop} (h:y.comm x=true) (hh:jd P s y λs1=>jd P s1 x K):jd P s x λs2=>jd P s2 y K:=by
 simp only[AO.comm,aJ,Bool.or_eq_true]at h
 obtain⟨gn,h⟩:=h
 have h1:∀d,y.dst=some d->d∉x.reads:=λd hd=>by simp[AO.apart,hd]at gn;exact gn.1.1
 have h3:∀d,x.dst=some d->d∉y.reads:=λd hd=>by simp[AO.apart,hd]at gn;exact gn.2
 rcases h with(h|h)|h
 ·exact K0 h.1 h.2 gn hh
 ·obtain⟨v,hh,hv⟩:=D8 h.1 hh
  obtain⟨b,hh,hb⟩:=wF h.2 hh
  refine hb s (lC _ _).symm (dK.aaX h1) _ ?_
  refine hv _ dK.bx _ ?_
  rw[D9];exact hh
 ·obtain⟨b,hh,hb⟩:=wF h.1 hh
  obtain⟨v,hh,hv⟩:=D8 h.2 hh
  refine hv s dK.vY _ ?_
  refine hb _ (lC _ _) (dK.put h3) _ ?_
  rw[D9]at hh;exact hh
theorem Jc {y x:AO} {K K':St->Prop} (h:y.comm x=true) (hk:∀s,K s->K' s) (hh:jd P s y K):jd P s y K':=by
 simp only[AO.comm,aJ,Bool.or_eq_true]at h
 obtain⟨_,h⟩:=h
 have hq:y.quiet=true∨y.pN=true:=by
  rcases h with(h|h)|h
  ·exact .inl h.1
  ·exact .inl (F9 h.1)
  ·exact .inr h.1
 rcases hq with hq|hq
 ·obtain⟨v,h1,h2⟩:=F8 hq hh
  exact h2 s rfl (λ_ _=>rfl) _ (hk _ h1)
 ·obtain⟨b,h1,h2⟩:=wF hq hh
  exact h2 s rfl (λ_ _=>rfl) _ (hk _ h1)
end Go.Ab
namespace Go.Ab
variable [eo]
variable {P:Program} {nt:Nat} {ds:List Deferred} {s s':St} {Γ:Cx} {a:Act} {w:World} {Q:Exit->Act->World->Prop} [gK]
def Hv (P:Program) (s:St):List AO->(St->Prop)->Prop
 |[],K=>K s
 |o::r,K=>jd P s o λs'=>Hv P s' r K
def Kj (P:Program) (aos:List AO) (s:St):List Nat->(St->Prop)->Prop
 |[],K=>K s
 |
  i::r,K=>match aos[i]?with
  |some o=>jd P s o λs'=>Kj P aos s' r K
  |none=>False
theorem tV {aos:List AO} {K:St->Prop}:∀(n i:Nat) (s:St),i+n=aos.length->(Hv P s (aos.drop i) K↔Kj P aos s (List.range' i n) K)
 |0,i,s,h=>by simp only[List.range'_zero,Kj];rw[List.drop_of_length_le (by omega)];rfl
 |
  n+1,i,s,h=>by
  have eu:i<aos.length:=by omega
  rw[List.range'_succ,List.drop_eq_getElem_cons eu]
  simp only[Hv,Kj,gJ eu]
  have:(λs'=>Hv P s' (aos.drop (i+1)) K)=λs'=>Kj P aos s' (List.range' (i+1) n) K:=funext λs'=>propext (tV n (i+1) s' (by omega))
  rw[this]
noncomputable def nH (P:Program) (nt:Nat) (ops:Array Oper) (own sp:List Nat) (draw:Bool):List Oper->Option (List AO)
 |[]=>some []
 |o::r=>match qe P nt ops own sp draw o,nH P nt ops own sp draw r with|some x,some l=>some (x::l)|_,_=>none
theorem oT {ops:Array Oper} {own sp:List Nat} {draw:Bool}:∀ {os:List Oper} {aos:List AO},nH P nt ops own sp draw os=some aos->aos.length=os.length∧∀(i:Nat) o,os[i]? =some o->∃ao,aos[i]? =some ao∧qe P nt ops own sp draw o=some ao
 |[],aos,h=>by simp[nH]at h;subst h;simp
 |
  o::r,aos,h=>by
  simp only[nH]at h
  split at h
  ·rename_i x l hx hl
   simp only[sJ]at h;subst h
   obtain⟨h1,h2⟩:=oT hl
   refine⟨by simp[h1],λi o' hi=> ?_⟩
   cases i with
   |zero=>simp at hi;subst hi;exact⟨x,rfl,hx⟩
   |succ i=>simp at hi;simpa using h2 i o' hi
  ·simp at h
theorem D4.trans {Γ1:Cx} {w1:World} {K:St->Prop} {Kr:Act->World->Prop} (h1:Le Γ Γ1) (h2:WF w w1) (h:D4 P nt ds Γ w K Kr):D4 P nt ds Γ1 w1 K Kr:=
 λs' Γ' a' w' a1 a2 a3 a4 a5=>h s' Γ' a' w' a1 a2 (h1.trans a3) (h2.trans a4) a5
theorem BP {ro:Option Nat} {ops:Array Oper} {aos:List AO} {own sp:List Nat} {draw:Bool} (od:∀(i:Nat) o,ops[i]? =some o->∃ao,aos[i]? =some ao∧qe P nt ops own sp draw o=some ao) (hlen:aos.length=ops.size) {K:St->Prop}:
  ∀(l:List Nat) {s:St} {Γ:Cx} {a:Act} {w:World},iz nt ds s Γ a->w.heap=Γ.heap->zn P Γ->Kj P aos s l K->D4 P nt ds Γ w K (Q .normal)->wpOpsIn (FW ro) 0 P ops Q l a w
 |[],s,Γ,a,w,hs,hw,_,h,hk=>hk _ _ _ _ hs hw (Le.refl Γ) (WF.refl w) h
 |
  i::r,s,Γ,a,w,hs,hw,hY,h,hk=>by
  rw[wpOpsIn_cons]
  simp only[Kj]at h
  split at h
  case h_2=>exact h.elim
  rename_i ao DI
  have hi:i<ops.size:=by rw[←hlen];exact(List.getElem?_eq_some_iff.1 DI).1
  obtain⟨ao',h1,h2⟩:=od i ops[i] (Array.getElem?_eq_getElem hi)
  rw[DI]at h1;cases h1
  refine qE (Array.getElem?_eq_getElem hi) h2 hs hw hY h ?_
  intro s' Γ' a' w' b1 b2 b3 b4 b5
  exact BP od hlen r b1 b2 (hY.le b3) b5 (hk.trans b3 b4)
theorem CP {ro:Option Nat} {ops:Array Oper} {aos:List AO} {own sp:List Nat} {id:Nat} (ht:nH P nt ops own sp false ops.toList=some aos) {K:St->Prop} (hs:iz nt ds s Γ a) (hw:w.heap=Γ.heap) (hY:zn P Γ) (h:Hv P s aos K) (hk:D4 P nt ds Γ w K (Q .normal)):
  (Code.region id ops false).wpIn (FW ro) 0 P Q a w:=by
 obtain⟨h1,h2⟩:=oT ht
 refine wpIn_region (BP (λi o hi=>h2 i o (by simpa using hi)) (by simpa using h1) _ hs hw hY ?_ hk)
 rw[List.range_eq_range']
 exact(tV (P:=P) ops.size 0 s (by simpa using h1.symm)).1 (by simpa using h)
inductive OO (ops:Array Oper):Nat->Nat->Prop
 |dir {i:Nat} {o:Oper} {e:Edge}:ops[i]? =some o->e∈o.after->Region.binds .any e=true->OO ops i e.on
 |tr {i j:Nat} {o:Oper} {e:Edge}:ops[i]? =some o->e∈o.after->Region.binds .any e=true->OO ops e.on j->OO ops i j
def CQ (ms:List Nat):List Edge->Nat->Nat
 |[],m=>m
 |e::r,m=>CQ ms r (if Region.binds .any e=true then m|||2^e.on|||ms.getD e.on 0 else m)
def jO:List Oper->List Nat->List Nat
 |[],ms=>ms
 |o::r,ms=>jO r (ms++[CQ ms o.after.toList 0])
theorem xF {ms:List Nat} {B:Nat->Prop}:∀(l:List Edge) (m:Nat),(∀e∈l,Region.binds .any e=true->B e.on∧∀j,(ms.getD e.on 0).testBit j=true->B j)->(∀j,m.testBit j=true->B j)->
  ∀j,(CQ ms l m).testBit j=true->B j
 |[],m,_,hm,j,h=>hm j h
 |
  e::r,m,hl,hm,j,h=>by
  simp only[CQ]at h
  refine xF r _ (λe he=>hl e (by simp[he])) ?_ j h
  intro j hj
  split at hj
  ·rename_i hb
   obtain⟨h1,h2⟩:=hl e (by simp) hb
   rw[Nat.testBit_or,Nat.testBit_or,Bool.or_eq_true,Bool.or_eq_true,Nat.testBit_two_pow]at hj
   rcases hj with(hj|hj)|hj
   ·exact hm j hj
   ·simp only[decide_eq_true_eq]at hj;subst hj;exact h1
   ·exact h2 j hj
  ·exact hm j hj
theorem zx {ops:Array Oper}:∀(l done:List Oper) (ms:List Nat),ops.toList=done++l->ms.length=done.length->(∀(i:Nat) m,ms[i]? =some m->∀j,m.testBit j=true->OO ops i j)->
  ∀(i:Nat) m,(jO l ms)[i]? =some m->∀j,m.testBit j=true->OO ops i j
 |[],_,ms,_,_,h=>h
 |
  o::r,done,ms,hd,hl,h=>by
  refine zx r (done++[o]) _ (by simp[hd]) (by simp[hl]) ?_
  intro i m hi j hj
  rw[List.getElem?_append]at hi
  split at hi
  ·exact h i m hi j hj
  ·rename_i Ue
   have hi0:i=ms.length:=by
    have:=(List.getElem?_eq_some_iff.1 hi).1
    simp at this;omega
   subst hi0
   simp at hi
   subst hi
   have ho:ops[ms.length]? =some o:=by
    rw[←Array.getElem?_toList,hd,hl];simp
   refine xF (B:=λj=>OO ops ms.length j) _ 0 (λe he hb=>⟨.dir ho (by simpa using he) hb,λj hj=> .tr ho (by simpa using he) hb ?_⟩) (by simp) j hj
   cases hx:ms[e.on]?with
   |none=>rw[List.getD_eq_getElem?_getD,hx]at hj;simp at hj
   |some m=>rw[List.getD_eq_getElem?_getD,hx]at hj;exact h _ m hx j hj
def CR (ms:List Nat) (i j:Nat):Bool:=(ms.getD i 0).testBit j
theorem zy {ops:Array Oper} {i j:Nat} (h:CR (jO ops.toList []) i j=true):OO ops i j:=by
 unfold CR at h
 cases hx:(jO ops.toList [])[i]?with
 |none=>rw[List.getD_eq_getElem?_getD,hx]at h;simp at h
 |
  some m=>
  rw[List.getD_eq_getElem?_getD,hx]at h
  exact zx ops.toList [] [] (by simp) rfl (by simp) i m hx j h
def Hw (ops:Array Oper) (aos:List AO) (ms:List Nat):Bool:=
 (List.range ops.size).all λi=>match ops[i]?,aos[i]?with
  |some o,some x=>(o.after.all λe=> !Region.binds .any e||decide (e.on<i))&&
    (List.range i).all λj=>CR ms i j||(match aos[j]?with|some y=>y.comm x|none=>false)
  |_,_=>false
def CS (ops:Array Oper) (aos:List AO):Bool:=Hw ops aos (jO ops.toList [])
def qf (ops:Array Oper) (listed:Array Bool):Prop:=
 ∀(k:Nat) o,ops[k]? =some o->listed.getD k true=true->∀e∈o.after,Region.binds .any e=true->listed.getD e.on false=true
theorem Ga {ops:Array Oper} {listed:Array Bool} (hc:qf ops listed) {i j:Nat} (h:OO ops i j):listed.getD i false=true->listed.getD j false=true:=by
 have up:∀i:Nat,listed.getD i false=true->listed.getD i true=true:=by
  intro i hl
  have hi:i<listed.size:=by
   rcases Nat.lt_or_ge i listed.size with h'|h'
   ·exact h'
   ·simp[Array.getElem?_eq_none h']at hl
  simpa[Array.getD_eq_getD_getElem?,Array.getElem?_eq_getElem hi]using hl
 induction h with
 |dir ho he hb=>intro hl;exact hc _ _ ho (up _ hl) _ he hb
 |tr ho he hb _ ih=>intro hl;exact ih (hc _ _ ho (up _ hl) _ he hb)
theorem wG {ops:Array Oper} {listed:Array Bool} (hc:qf ops listed) {i j:Nat} (h:OO ops i j) (hr:i∈Region.ready .any ops listed):listed.getD j false=true:=by
 obtain⟨_,o,ho,eO⟩:=mem_ready.1 hr
 cases h with
 |dir ho' he hb=>rw[ho]at ho';cases ho';exact eO _ he hb
 |tr ho' he hb h2=>rw[ho]at ho';cases ho';exact Ga hc h2 (eO _ he hb)
theorem BQ {aos:List AO} {K:St->Prop} {i:Nat} {x:AO} (hi:aos[i]? =some x) (l2:List Nat):∀(l1:List Nat) (s:St),
  (∀j∈l1,∃y,aos[j]? =some y∧y.comm x=true)->Kj P aos s (l1++i::l2) K->jd P s x λs'=>Kj P aos s' (l1++l2) K
 |[],s,_,h=>by simpa[Kj,hi]using h
 |
  j::l1,s,eO,h=>by
  obtain⟨y,hy,gn⟩:=eO j (by simp)
  simp only[List.cons_append,Kj,hy]at h⊢
  exact K6 gn (Jc gn (λs' h'=>BQ hi l2 l1 s' (λk hk=>eO k (by simp[hk])) h') h)
theorem air {ro:Option Nat} {ops:Array Oper} {aos:List AO} {own sp:List Nat} (od:∀(i:Nat) o,ops[i]? =some o->∃ao,aos[i]? =some ao∧qe P nt ops own sp true o=some ao) (hlen:aos.length=ops.size) (cY:CS ops aos=true) {K:St->Prop}:
  ∀
   (n:Nat) (listed:Array Bool) {s:St} {Γ:Cx} {a:Act} {w:World},listed.size=ops.size->qf ops listed->((List.range ops.size).filter λi=> !listed.getD i true).length=n->
   iz nt ds s Γ a->w.heap=Γ.heap->zn P Γ->Kj P aos s ((List.range ops.size).filter λi=> !listed.getD i true) K->D4 P nt ds Γ w K (Q .normal)->wpAnyIn (FW ro) 0 P .any ops Q n listed a w:=by
 simp only[CS,Hw,aJ,List.all_eq_true,List.mem_range]at cY
 have hoi:=cY
 --what is first is ready
 have He:∀listed:Array Bool,listed.size=ops.size->Region.ready .any ops listed=[]->((List.range ops.size).filter λi=> !listed.getD i true)=[]:=by
  intro listed iA hr
  cases hl:(List.range ops.size).filter λi=> !listed.getD i true with
  |nil=>rfl
  |
   cons i l=>
   exfalso
   have hm:∀j,j∈i::l↔j<ops.size∧listed.getD j true=false:=by intro j;rw[←hl];simp
   have IP:(i::l).Pairwise (·<·):=by rw[←hl];exact(List.pairwise_lt_range).filter _
   obtain⟨hi,Ov⟩:=(hm i).1 (by simp)
   have Hf:=hoi i hi
   obtain⟨ao,DI,_⟩:=od i ops[i] (Array.getElem?_eq_getElem hi)
   rw[Array.getElem?_eq_getElem hi,DI]at Hf
   simp only[aJ,Array.all_eq_true_iff_forall_mem,Bool.or_eq_true,Bool.not_eq_true',decide_eq_true_eq]at Hf
   have:i∈Region.ready .any ops listed:=by
    rw[mem_ready]
    refine⟨Ov,ops[i],Array.getElem?_eq_getElem hi,λe he hb=> ?_⟩
    have eu:=(Hf.1 e he).resolve_left (by simp[hb])
    cases hx:listed.getD e.on false with
    |true=>rfl
    |
     false=>
     have ak2:e.on<listed.size:=by omega
     have hu:listed.getD e.on true=false:=by
      simpa[Array.getD_eq_getD_getElem?,Array.getElem?_eq_getElem ak2]using hx
     have kp:=(hm e.on).2 ⟨by omega,hu⟩
     rcases List.mem_cons.1 kp with h|h
     ·omega
     ·have:=List.rel_of_pairwise_cons IP h;omega
   rw[hr]at this;simp at this
 intro n
 induction n with
 |
  zero=>
  intro listed s Γ a w iA hc hn hs hw hY h hk
  have hl:=List.length_eq_zero_iff.1 hn
  rw[hl]at h
  refine⟨?_,hk _ _ _ _ hs hw (Le.refl Γ) (WF.refl w) h⟩
  rw[List.eq_nil_iff_forall_not_mem]
  intro i hi
  have h0:=(mem_ready.1 hi)
  obtain⟨h1,o,ho,_⟩:=h0
  have:i∈(List.range ops.size).filter λi=> !listed.getD i true:=by
   rw[List.mem_filter,List.mem_range];exact⟨(Array.getElem?_eq_some_iff.1 ho).1,by rw[h1];rfl⟩
  rw[hl]at this;simp at this
 |
  succ n ih=>
  intro listed s Γ a w iA hc hn hs hw hY h hk
  refine⟨λhr=> ?_,λi hi=> ?_⟩
  ·rw[He listed iA hr]at hn;simp at hn
  ·obtain⟨Ov,o,ho,eO⟩:=mem_ready.1 hi
   have eu:=(Array.getElem?_eq_some_iff.1 ho).1
   obtain⟨ao,DI,NG⟩:=od i o ho
   have kp:i∈(List.range ops.size).filter λi=> !listed.getD i true:=by
    rw[List.mem_filter,List.mem_range];exact⟨eu,by rw[Ov];rfl⟩
   obtain⟨l1,l2,hl⟩:=List.append_of_mem kp
   have IP:(l1++i::l2).Pairwise (·<·):=by rw[←hl];exact(List.pairwise_lt_range).filter _
   have NH:(l1++i::l2).Nodup:=IP.imp (λh=>Nat.ne_of_lt h)
   have qT:(List.range ops.size).filter (λj=> !(listed.setIfInBounds i true).getD j true)=l1++l2:=by
    have e:(λj=> !(listed.setIfInBounds i true).getD j true)=λj=>(decide (j≠i))&& !listed.getD j true:=by
     funext j
     by_cases A9:i=j
     ·subst A9;simp[Array.getD_eq_getD_getElem?,uJ (by omega:i<listed.size)]
     ·rw[getD_set_ne true A9];simp[Ne.symm A9]
    rw[e,←List.filter_filter,hl,List.filter_append,List.filter_cons]
    simp only[ne_eq,not_true,decide_false,fJ,if_false]
    have Ow:=List.nodup_append.1 NH
    rw[List.filter_eq_self.2,List.filter_eq_self.2]
    ·intro x hx;simp;rintro rfl;exact(List.nodup_cons.1 Ow.2.1).1 hx
    ·intro x hx;simp;rintro rfl;exact Ow.2.2 x hx x (by simp) rfl
   rw[hl]at h hn
   have ae7:∀j∈l1,j<i:=λj hj=>by
    have:=(List.pairwise_append.1 IP).2.2 j hj i (by simp);exact this
   have ak3:∀j∈l1,listed.getD j true=false:=λj hj=>by
    have:j∈(List.range ops.size).filter λi=> !listed.getD i true:=by rw[hl];simp[hj]
    simpa using(List.mem_filter.1 this).2
   have Hf:=hoi i eu
   rw[ho,DI]at Hf
   simp only[aJ,List.all_eq_true,List.mem_range,Bool.or_eq_true]at Hf
   have hf:=BQ (P:=P) (K:=K) DI l2 l1 s (λj hj=>by
    have rK:=Hf.2 j (ae7 j hj)
    rcases rK with hb|hb
    ·have:=wG hc (zy hb) hi
     have hx:=ak3 j hj
     have sL:j<listed.size:=by have:=ae7 j hj;omega
     simp[Array.getD_eq_getD_getElem?,Array.getElem?_eq_getElem sL]at this hx
     rw[this]at hx;simp at hx
    ·split at hb
     ·rename_i y hy;exact⟨y,hy,hb⟩
     ·simp at hb) h
   refine qE ho NG hs hw hY hf ?_
   intro s' Γ' a' w' b1 b2 b3 b4 b5
   refine ih (listed.setIfInBounds i true) (by simp[iA]) ?_ (by rw[qT];simp at hn⊢;omega) b1 b2 (hY.le b3) (by rw[qT];exact b5) (hk.trans b3 b4)
   intro k ok xt oe e he hb
   by_cases FX:i=k
   ·subst FX;rw[ho]at xt;cases xt;exact getD_set_true (eO e he hb)
   ·rw[getD_set_ne true FX]at oe;exact getD_set_true (hc k ok xt oe e he hb)
theorem u5 {ro:Option Nat} {ops:Array Oper} {aos:List AO} {own sp:List Nat} {id:Nat} (hm:P.follows .mixedOrders=true) (ht:nH P nt ops own sp true ops.toList=some aos) (cY:CS ops aos=true) {K:St->Prop} (hs:iz nt ds s Γ a) (hw:w.heap=Γ.heap) (hY:zn P Γ) (h:Hv P s aos K) (hk:D4 P nt ds Γ w K (Q .normal)):
  (Code.region id ops true).wpIn (FW ro) 0 P Q a w:=by
 obtain⟨h1,h2⟩:=oT ht
 have e:((List.range ops.size).filter λi=> !(Array.replicate ops.size false).getD i true)=List.range ops.size:=by
  rw[List.filter_eq_self]
  intro i hi
  rw[List.mem_range]at hi
  simp[Array.getD_eq_getD_getElem?,hi]
 refine wpIn_region_any hm (air (s:=s) (Γ:=Γ) (K:=K) (λi o hi=>h2 i o (by simpa using hi)) (by simpa using h1) cY _ _ (by simp) ?_ (by rw[e];simp) hs hw hY ?_ ?_)
 ·intro k o Uf hl
  have:=(Array.getElem?_eq_some_iff.1 Uf).1
  simp[Array.getD_eq_getD_getElem?,this]at hl
 ·rw[e,List.range_eq_range']
  exact(tV (P:=P) ops.size 0 s (by simpa using h1.symm)).1 (by simpa using h)
 ·intro s' Γ' a' w' b1 b2 b3 b4 b5
  exact hk s' Γ' a' w' b1 b2 b3 ⟨b4.os,b4.tape,b4.output⟩ b5
end Go.Ab
namespace Go.Ab
variable [eo]
variable {P:Program} {nt:Nat} {ds:List Deferred} {s:St} {Γ Δ:Cx} {a:Act} {w:World}
mutual
def jI (k sz:Nat) (l0:List PV):PV->PV
 | .rs k' p off len aK cR c=>if k'=k then(if aK=l0.length∧p=[]∧cR=sz∧off+len≤l0.length then .sl sz ((l0.drop off).take len) (decide (c= .clip))else .un)else .rs k' p off len aK cR c
 | .pt k' p aK=>if k'=k then(if aK=l0.length then .fp sz l0 p else .un)else .pt k' p aK
 | .st w l=> .st w (kW k sz l0 l)
 | .ar z n l=> .ar z n (kW k sz l0 l)
 | .tup l=> .tup (kW k sz l0 l)
 | .sl z l c=> .sl z (kW k sz l0 l) c
 | .fp z l p=> .fp z (kW k sz l0 l) p
 | .fn f x y=> .fn f (kW k sz l0 x) (kW k sz l0 y)
 | .gd b p=> .gd b (jI k sz l0 p)
 | .ifc t p=> .ifc t (jI k sz l0 p)
 |p=>p
def kW (k sz:Nat) (l0:List PV):List PV->List PV
 |[]=>[]
 |p::l=>jI k sz l0 p::kW k sz l0 l
end
def zC (k sz:Nat) (l0:List PV):br->br
 | .box v=> .box (jI k sz l0 v)
 | .arr z l=> .arr z (kW k sz l0 l)
 | .map b ks vs l=> .map b ks vs l
variable {k sz:Nat} {l0:List PV}
theorem sR (p:PV):(jI k sz l0 p).width=p.width:=by
 cases p<;>simp only[jI]<;>(try split)<;>(try split)<;>simp[PV.width]
theorem nw (p:PV):(jI k sz l0 p).isAgg=p.isAgg:=by
 cases p<;>simp only[jI]<;>(try split)<;>(try split)<;>simp[PV.isAgg]
theorem nP (l:List PV):(kW k sz l0 l).length=l.length:=by induction l<;>simp[kW, *]
theorem qF {l:List PV} {q:PV} (h:q∈kW k sz l0 l):∃p∈l,q=jI k sz l0 p:=by
 induction l with
 |nil=>simp[kW]at h
 |
  cons x l ih=>
  simp only[kW,cJ]at h
  rcases h with h|h
  ·exact⟨x,by simp,h⟩
  ·obtain⟨p,hp,e⟩:=ih h;exact⟨p,by simp[hp],e⟩
theorem u6 (b:br):(zC k sz l0 b).aK=b.aK:=by cases b<;>simp[zC,br.aK,nP]
mutual
theorem CT:∀p,ab (λj=>decide (j≠k)) p=true->jI k sz l0 p=p
 | .rs k' _ _ _ _ _ _,hp=>by simp only[ab,decide_eq_true_eq]at hp;simp[jI,hp]
 | .pt k' _ _,hp=>by simp only[ab,decide_eq_true_eq]at hp;simp[jI,hp]
 | .st _ l,hp=>by simp only[ab]at hp;simp[jI,oy l hp]
 | .ar _ _ l,hp=>by simp only[ab]at hp;simp[jI,oy l hp]
 | .tup l,hp=>by simp only[ab]at hp;simp[jI,oy l hp]
 | .sl _ l _,hp=>by simp only[ab]at hp;simp[jI,oy l hp]
 | .fp _ l _,hp=>by simp only[ab]at hp;simp[jI,oy l hp]
 | .fn _ x y,hp=>by simp only[ab,aJ]at hp;simp[jI,oy x hp.1,oy y hp.2]
 | .gd _ p,hp=>by simp only[ab]at hp;simp[jI,CT p hp]
 | .ifc _ p,hp=>by simp only[ab]at hp;simp[jI,CT p hp]
 | .un,_=>by simp[jI]
 | .bl _,_=>by simp[jI]
 | .int _ _,_=>by simp[jI]
 | .str _,_=>by simp[jI]
 | .np,_=>by simp[jI]
 | .nf,_=>by simp[jI]
 | .ni,_=>by simp[jI]
 | .mp ..,_=>by simp[jI]
theorem oy:∀l,ae (λj=>decide (j≠k)) l=true->kW k sz l0 l=l
 |[],_=>rfl
 |p::l,hp=>by simp only[ae,aJ]at hp;simp[kW,CT p hp.1,oy l hp.2]
end
structure Yi (Γ Δ:Cx) (k sz:Nat) (l0:List PV):Prop where
 heap:Δ.heap=Γ.heap
 own:∀b,b<Γ.heap.size->¬Γ.own b->¬Δ.own b
 ref:∀k' blk,k'≠k->get Γ.bx k'=some blk->∃b8,get Δ.bx k'=some b8∧b8.aK=blk.aK∧Δ.ι k'=Γ.ι k'
 here:∀blk,get Γ.bx k=some blk->blk= .arr sz l0
 wd:∀x∈l0,x.width=sz
 cells:∀b,Γ.ι k=some b->b<Γ.heap.size∧¬Δ.own b∧∃c e cs rest,Γ.heap[b]? =some (.cells c e (0,0))∧c.toList=cs++rest∧aD Δ l0 cs
theorem aD.jI (hf:Yi Γ Δ k sz l0) {l:List PV} {cs:List Value} (h:aD Γ l cs):aD Δ (kW k sz l0 l) cs:=by
 induction h with
 |nil=>exact .nil
 |un h hr ih=>exact .un h ih
 |bl x hr ih=>exact .bl x ih
 |int k n hr ih=>exact .int k n ih
 |str l s h hr ih=>exact .str l s h ih
 |st w l hl hw hr ihl ih=>exact .st w _ ihl hw ih
 |
  ar z n l hl hn hw hr ihl ih=>
  refine .ar z n _ ihl (by rw[nP];exact hn) (λx hx=> ?_) ih
  obtain⟨p,hp,rfl⟩:=qF hx
  rw[sR];exact hw p hp
 |
  sl z l clip ad bt hl hw hc hk hb hr ihl ih=>
  have:=aD.sl (Γ:=Δ) z (kW k sz l0 l) clip ad bt ihl (λx hx=>by obtain⟨p,hp,rfl⟩:=qF hx;rw[sR];exact hw p hp) (by rw[nP];exact hc) (by rw[nP];exact hk)
   (λdF=>by
    obtain⟨b,o,h1,h2,h3,h4⟩:=hb (by intro h;subst h;simp[kW]at dF)
    exact⟨b,o,h1,by rw[hf.heap];exact h2,hf.own b h2 h3,by rw[hf.heap];exact h4⟩) ih
  rw[nP]at this
  exact this
 |
  rs k' p off len aK cR c v blk hg h1 hv hr ih=>
  simp only[kW,Ab.jI]
  by_cases hk:k'=k
  ·rw[if_pos hk]
   subst hk
   have lH:=hf.here blk hg.1
   subst lH
   split
   ·rename_i hc
    obtain⟨ht,hp,iA,hle⟩:=hc
    subst hp iA
    obtain⟨ad,bt,rfl,Ox⟩:=hv (by simpa[br.aK]using ht)
    have hlen:((l0.drop off).take len).length=len:=by simp;omega
    unfold jo at Ox
    cases hι:Γ.ι k' with
    |
     none=>
     rw[hι]at Ox
     obtain⟨rfl,rfl,_⟩:=Ox
     have:=aD.sl (Γ:=Δ) cR ((l0.drop off).take 0) (decide (c= .clip)) ad 0 (cs:=[]) (by simpa using aD.nil) (by simp) (by simp) (by simp) (by simp) ih
     simpa using this
    |
     some b=>
     rw[hι]at Ox
     obtain⟨XE,had,qV,_⟩:=Ox
     obtain⟨IM,BC,cc,e,cs,rest,hh,AS,yV⟩:=hf.cells b hι
     have pG:=(yV.Sb hf.wd off (by omega)).D1 (λx hx=>hf.wd x (List.mem_of_mem_drop hx)) len (by simp;omega)
     have XF:cs.length=l0.length*cR:=by rw[yV.length,bF hf.wd]
     have:=aD.sl (Γ:=Δ) cR ((l0.drop off).take len) (decide (c= .clip)) ad bt pG (λx hx=>hf.wd x (List.mem_of_mem_drop (List.mem_of_mem_take hx))) (by rw[hlen];exact XE) (by rw[hlen];intro e;exact og.clip qV (of_decide_eq_true e))
      (λdF=>by
       have am6:len≠0:=by rintro rfl;simp at dF
       refine⟨b,off*cR,?_,by rw[hf.heap];exact IM,BC,λi x hi=> ?_⟩
       ·rcases had with h|h
        ·omega
        ·simpa[cG]using h
       ·rw[List.getElem?_take]at hi
        split at hi
        ·rw[List.getElem?_drop]at hi
         simp only[cell,hf.heap,hh]
         rw[←Array.getElem?_toList,AS]
         have eu:=(List.getElem?_eq_some_iff.1 hi).1
         rw[List.getElem?_append_left eu];exact hi
        ·simp at hi) ih
     rw[hlen]at this
     exact this
   ·exact .un h1 ih
  ·rw[if_neg hk]
   obtain⟨b8,g1,g2,g3⟩:=hf.ref k' blk hk hg.1
   refine .rs k' p off len aK cR c v b8 ⟨g1,by rw[g2];exact hg.2⟩ h1 (λht=> ?_) ih
   obtain⟨ad,bt,e1,e2⟩:=hv (by rw[ht,g2])
   exact⟨ad,bt,e1,e2.az g3 hf.heap⟩
 |np hr ih=>exact .np ih
 |
  pt k' p aK v blk hg h1 hv hr ih=>
  simp only[kW,Ab.jI]
  by_cases hk:k'=k
  ·rw[if_pos hk]
   subst hk
   have lH:=hf.here blk hg.1
   subst lH
   split
   ·rename_i ht
    obtain⟨b,hι,rfl⟩:=hv (by simpa[br.aK]using ht)
    obtain⟨IM,BC,cc,e,cs,rest,hh,AS,yV⟩:=hf.cells b hι
    have:=aD.fp (Γ:=Δ) sz l0 p b 0 yV hf.wd ⟨by rw[hf.heap];exact IM,BC⟩ (λi x hi=>by
     simp only[cell,hf.heap,hh]
     rw[←Array.getElem?_toList,AS,Nat.zero_add]
     have eu:=(List.getElem?_eq_some_iff.1 hi).1
     rw[List.getElem?_append_left eu];exact hi) ih
    simpa using this
   ·exact .un h1 ih
  ·rw[if_neg hk]
   obtain⟨b8,g1,g2,g3⟩:=hf.ref k' blk hk hg.1
   refine .pt k' p aK v b8 ⟨g1,by rw[g2];exact hg.2⟩ h1 (λht=> ?_) ih
   obtain⟨b,e1,e2⟩:=hv (by rw[ht,g2])
   exact⟨b,by rw[g3,e1],e2⟩
 |
  fp z l p b o hl hw hm hc hr ihl ih=>
  exact .fp z _ p b o ihl (λx hx=>by obtain⟨p,hp,rfl⟩:=qF hx;rw[sR];exact hw p hp) ⟨by rw[hf.heap];exact hm.1,hf.own b hm.1 hm.2⟩ (by rw[hf.heap];exact hc) ih
 |
  fn g first cap h1 h2 h3 h4 hr i1 i2 ih=>
  exact .fn g _ _ i1 i2 (λx hx=>by obtain⟨p,hp,rfl⟩:=qF hx;rw[nw];exact h3 p hp) (λx hx=>by obtain⟨p,hp,rfl⟩:=qF hx;rw[nw];exact h4 p hp) ih
 |nf hr ih=>exact .nf ih
 |
  ifc t v h1 h2 hr i1 ih=>
  simp only[kW]at i1
  exact .ifc t _ i1 (by rw[nw];exact h2) ih
 |ni hr ih=>exact .ni ih
 |mp k b hr ih=>exact .mp k b ih
theorem aD.zF (hf:Yi Γ Δ k sz l0) {p:PV} {cs:List Value} (h:aD Γ [p] cs):aD Δ [Ab.jI k sz l0 p] cs:=by
 have:=h.jI hf
 simpa only[kW]using this
theorem aD.aaY {p:PV} {v:Value} (h:aD Γ [p] [v]) (ha:p.isAgg=false):kr Γ p v:=by
 cases p<;>simp[PV.isAgg]at ha<;>first|(simp only[kr];done)|(simp only[kr];exact h)
theorem kr.jI (hf:Yi Γ Δ k sz l0) {p:PV} {v:Value} (h:kr Γ p v):kr Δ (Ab.jI k sz l0 p) v:=by
 cases p
 case un=>trivial
 case st w l=>obtain⟨cs,h1,h2⟩:=h;exact⟨cs,h1,h2.zF hf⟩
 case ar z n l=>obtain⟨cs,h1,h2⟩:=h;exact⟨cs,h1,h2.zF hf⟩
 case rs=>exact(aD.zF hf h).aaY (by rw[nw];rfl)
 case pt=>exact(aD.zF hf h).aaY (by rw[nw];rfl)
 all_goals exact aD.zF hf h
theorem aN.jI (hf:Yi Γ Δ k sz l0):∀ {p:PV} {v:Value},aN Γ p v->aN Δ (Ab.jI k sz l0 p) v:=by
 have h2:∀ {l:List PV} {vs:List Value},kS Γ l vs->kS Δ (kW k sz l0 l) vs:=by
  intro l
  induction l with
  |nil=>intro vs h;cases vs<;>simp_all [kS,kW]
  |
   cons p l ih=>
   intro vs h
   cases vs with
   |nil=>simp[kS]at h
   |cons v vs=>simp only[kS,kW]at h⊢;exact⟨h.1.jI hf,ih h.2⟩
 intro p
 induction p using PV.rec (motive_2:=λ_=>True)with
 |gd b p ih=>intro v h;simp only[Ab.jI];rw[aN]at h⊢;exact⟨λhb=>ih (h.1 hb),h.2⟩
 |tup l=>intro v h;simp only[aN,Ab.jI]at h⊢;obtain⟨vs,e,h⟩:=h;exact⟨vs,e,h2 h⟩
 |un=>intro v h;simp[aN,Ab.jI]
 |st w l=>intro v h;obtain⟨cs,e,h⟩:=h;exact⟨cs,e,h.zF hf⟩
 |ar z n l=>intro v h;obtain⟨cs,e,h⟩:=h;exact⟨cs,e,h.zF hf⟩
 |nil=>trivial
 |cons=>trivial
 |rs=>intro v h;exact(aD.zF hf h).toV (by rw[nw];rfl)
 |pt=>intro v h;exact(aD.zF hf h).toV (by rw[nw];rfl)
 |_=>intro v h;exact aD.zF hf h
theorem br.xv.jI (hf:Yi Γ Δ k sz l0) {blk:br} {ob:Option Nat} (h:blk.xv Γ ob):(zC k sz l0 blk).xv Δ ob:=by
 cases blk with
 |
  box v=>
  obtain⟨b,c,e,h1,h2,h3⟩:=h
  exact⟨b,c,e,h1,by rw[hf.heap];exact h2,h3.zF hf⟩
 |
  arr z l=>
  obtain⟨h1,h2,h3⟩:=h
  refine⟨λx hx=>by obtain⟨p,hp,rfl⟩:=qF hx;rw[sR];exact h1 p hp,h2,?_⟩
  cases ob with
  |none=>trivial
  |
   some b=>
   obtain⟨c,e,cs,rest,h4,h5,h6,h7⟩:=h3
   exact⟨c,e,cs,rest,by rw[hf.heap];exact h4,h5,h6.jI hf,h7⟩
 |
  map b ks vs l=>
  obtain⟨h1,h2⟩:=h
  exact⟨h1,by rw[hf.heap];exact h2⟩
end Go.Ab
namespace Go.Ab
variable [eo]
variable {P:Program} {nt:Nat} {ds:List Deferred} {s:St} {Γ Δ Γ0:Cx} {a:Act} {w:World} {k sz:Nat} {l0:List PV}
def del {α:Type}:List (Nat×α)->Nat->List (Nat×α)
 |[],_=>[]
 |(j,v)::r,k=>if j=k then del r k else(j,v)::del r k
def mw {α:Type} (f:α->α):List (Nat×α)->List (Nat×α)
 |[]=>[]
 |(j,v)::r=>(j,f v)::mw f r
def nQ {α:Type} (sl:List Nat):List (Nat×α)->List (Nat×α)
 |[]=>[]
 |(j,v)::r=>if sl.contains j=true then(j,v)::nQ sl r else nQ sl r
theorem mL {α:Type} (l:List (Nat×α)) (k j:Nat):get (del l k) j=if j=k then none else get l j:=by
 induction l with
 |nil=>simp[del,get]
 |
  cons x r ih=>
  obtain⟨i,v⟩:=x
  simp only[del]
  split
  ·rename_i h;subst h;rw[ih];simp only[get];split
   ·rfl
   ·rename_i h2;rw[if_neg (λe=>h2 e.symm)]
  ·simp only[get,ih]
   split
   ·rename_i h h2;subst h2;rw[if_neg h]
   ·rfl
theorem kf {α:Type} (f:α->α) (l:List (Nat×α)) (j:Nat):get (mw f l) j=(get l j).map f:=by
 induction l with
 |nil=>rfl
 |cons x r ih=>obtain⟨i,v⟩:=x;simp only[mw,get,ih];split<;>rfl
theorem Jd {α:Type} (sl:List Nat) (l:List (Nat×α)) (j:Nat) {v:α} (h:get (nQ sl l) j=some v):get l j=some v:=by
 induction l with
 |nil=>simp[nQ,get]at h
 |
  cons x r ih=>
  obtain⟨i,u⟩:=x
  simp only[nQ]at h
  split at h
  ·simp only[get]at h⊢
   split
   ·rename_i h2;rw[if_pos h2]at h;exact h
   ·rename_i h2;rw[if_neg h2]at h;exact ih h
  ·rename_i hc
   have h3:=ih h
   simp only[get]
   split
   ·rename_i h2;subst h2
    exfalso
    have:∀r:List (Nat×α),get (nQ sl r) i=none:=by
     intro r
     induction r with
     |nil=>rfl
     |
      cons y r ih2=>
      obtain⟨m,q⟩:=y
      simp only[nQ]
      split
      ·rename_i h4
       simp only[get]
       rw[if_neg (by rintro rfl;exact hc h4)];exact ih2
      ·exact ih2
    rw[this]at h;simp at h
   ·exact h3
def HK (Γ:Cx):Prop:=∀k blk,get Γ.bx k=some blk->KB≤k
def rM (nt:Nat) (ds:List Deferred) (Γ0 Γ:Cx) (a:Act) (K:St->Prop):Prop:=∃s' Γ',iz nt ds s' Γ' a∧Γ'.heap=Γ.heap∧Le Γ0 Γ'∧K s'
theorem u7 (hm:Mem Γ) (f:br->br) (hft:∀b,(f b).aK=b.aK):wA (λj=>decide (j≠k)) id Γ {Γ with bx:=mw f (del Γ.bx k)} where
 heap:=rfl
 own b _ hn:=by
  rintro(⟨j,blk,h1,h2⟩|h)
  ·simp only[kf,mL]at h1
   split at h1
   ·simp at h1
   ·obtain⟨b0,g1,_⟩:=Option.map_eq_some_iff.1 h1
    exact hn (.inl ⟨j,b0,g1,h2⟩)
  ·exact hn (.inr h)
 ref j blk hj hb:=by
  simp only[decide_eq_true_eq]at hj
  exact⟨f blk,by simp[kf,mL,hj,hb],hft _,rfl⟩
theorem zG {f:Nat->Bool} {l:List PV} (h:ae f l=true):aO id l=l:=nF (f:=f) (λ_ _=>rfl) l h
theorem yC {f:Nat->Bool} {p:PV} (h:ab f p=true):az id p=p:=zj (f:=f) (λ_ _=>rfl) p h
theorem K7 (hle:Le Γ0 Γ) (oq:HK Γ0) (hkb:k<KB) (f:br->br) (hft:∀b,(f b).aK=b.aK):Le Γ0 {Γ with bx:=mw f (del Γ.bx k)} where
 heap:=hle.heap
 iQ b hb h:=by
  obtain⟨j,blk,h1,h2⟩:=h
  simp only[kf,mL]at h1
  split at h1
  ·simp at h1
  ·obtain⟨b0,g1,_⟩:=Option.map_eq_some_iff.1 h1
   exact hle.iQ b hb ⟨j,b0,g1,h2⟩
 dU:=hle.dU
 size:=hle.size
 ref j blk hj:=by
  obtain⟨b8,h1,h2,h3⟩:=hle.ref j blk hj
  have:=oq j blk hj
  have dF:j≠k:=by omega
  exact⟨f b8,by simp[kf,mL,dF,h1],by rw[hft];exact h2,λht=>h3 (by rw[←ht,hft])⟩
theorem K8 (hm:Mem Γ) (hg:get Γ.bx k=some (.arr sz l0)) (hr:ae (λj=>decide (j≠k)) l0=true):Yi Γ {Γ with bx:=mw (zC k sz l0) (del Γ.bx k)} k sz l0 where
 heap:=rfl
 own:=(u7 hm _ u6).own
 ref j blk hj hb:=by
  obtain⟨b',h1,h2,h3⟩:=(u7 (k:=k) hm _ (u6 (k:=k) (sz:=sz) (l0:=l0))).ref j blk (by simpa using hj) hb
  exact⟨b',h1,h2,h3⟩
 here blk hb:=by rw[hg]at hb;exact(Option.some.inj hb).symm
 wd:=(hm.blk k _ hg).1
 cells b hb:=by
  have h:=hm.blk k _ hg
  obtain⟨h1,h2,h3⟩:=h
  rw[hb]at h3
  obtain⟨c,e,cs,rest,h4,h5,h6,_⟩:=h3
  refine⟨cH h4,?_,c,e,cs,rest,h4,h5,?_⟩
  ·rintro(⟨j,blk,g1,g2⟩|g)
   ·simp only[kf,mL]at g1
    split at g1
    ·simp at g1
    ·rename_i dF
     obtain⟨b0,g3,_⟩:=Option.map_eq_some_iff.1 g1
     exact dF (hm.inj j k b (by simp[g3]) (by simp[hg]) g2 hb)
   ·exact hm.apart b ⟨k,_,hg,hb⟩ g
  ·have:=h6.az (u7 (k:=k) hm _ (u6 (k:=k) (sz:=sz) (l0:=l0))) hr
   rwa [zG hr]at this
theorem CU (hm:Mem Γ) (f:br->br) (hf:∀j blk,j≠k->get Γ.bx j=some blk->(f blk).xv {Γ with bx:=mw f (del Γ.bx k)} (Γ.ι j)):Mem {Γ with bx:=mw f (del Γ.bx k)} where
 blk j blk hb:=by
  simp only[kf,mL]at hb
  split at hb
  ·simp at hb
  ·rename_i dF
   obtain⟨b0,g1,rfl⟩:=Option.map_eq_some_iff.1 hb
   exact hf j b0 dF g1
 inj i j b hi hj h1 h2:=by
  have:∀x,(get (mw f (del Γ.bx k)) x).isSome=true->(get Γ.bx x).isSome=true:=by
   intro x hx
   simp only[kf,mL]at hx
   split at hx
   ·simp at hx
   ·simpa using hx
  exact hm.inj i j b (this i hi) (this j hj) h1 h2
 dU:=hm.dU
 apart b h hp:=by
  refine hm.apart b ?_ hp
  obtain⟨j,blk,h1,h2⟩:=h
  simp only[kf,mL]at h1
  split at h1
  ·simp at h1
  ·obtain⟨b0,g1,_⟩:=Option.map_eq_some_iff.1 h1
   exact⟨j,b0,g1,h2⟩
 uI b cs h:=by
  obtain⟨h1,h2⟩:=hm.uI b cs h
  refine⟨λhb=>h1 ?_,h2⟩
  obtain⟨j,blk,h1,h2⟩:=hb
  simp only[kf,mL]at h1
  split at h1
  ·simp at h1
  ·obtain⟨b0,g1,_⟩:=Option.map_eq_some_iff.1 h1
   exact⟨j,b0,g1,h2⟩
def Yj (k:Nat) (s:St) (K:St->Prop):Prop:=
 match get s.bx k with
 |some (.arr sz l)=>(ae (λj=>decide (j≠k)) l=true∧k<KB)∧K {env:=mw (jI k sz l) s.env,bx:=mw (zC k sz l) (del s.bx k)}
 |_=>False
theorem Je {K:St->Prop} (hs:iz nt ds s Γ a) (hle:Le Γ0 Γ) (oq:HK Γ0) (h:Yj k s K):rM nt ds Γ0 Γ a K:=by
 unfold Yj at h
 split at h
 ·rename_i sz l hg
  obtain⟨⟨hr,hkb⟩,hK⟩:=h
  rw[←hs.bx]at hg
  have hf:=K8 hs.mem hg hr
  refine⟨_,{Γ with bx:=mw (zC k sz l) (del Γ.bx k)},⟨by simp[hs.bx],hs.size,hs.defers,λj p hj=> ?_,CU hs.mem _ (λj blk dF hb=>(hs.mem.blk j blk hb).jI hf)⟩,rfl,K7 hle oq hkb _ u6,hK⟩
  simp only[kf]at hj
  obtain⟨q,g1,rfl⟩:=Option.map_eq_some_iff.1 hj
  exact(hs.env j q g1).jI hf
 ·exact h.elim
def jq (f:Nat->Bool):List (Nat×PV)->Bool
 |[]=>true
 |(_,p)::r=>ab f p&&jq f r
def kG (f:Nat->Bool):List (Nat×br)->Bool
 |[]=>true
 |(_,b)::r=>ah f b&&kG f r
theorem xG {f:Nat->Bool}:∀ {l:List (Nat×PV)} {j:Nat} {p:PV},jq f l=true->get l j=some p->ab f p=true
 |[],_,_,_,h=>by simp[get]at h
 |
  (i,q)::r,j,p,hr,h=>by
  simp only[jq,aJ]at hr
  simp only[get]at h
  split at h
  ·cases h;exact hr.1
  ·exact xG hr.2 h
theorem zI {f:Nat->Bool}:∀ {l:List (Nat×br)} {j:Nat} {p:br},kG f l=true->get l j=some p->ah f p=true
 |[],_,_,_,h=>by simp[get]at h
 |
  (i,q)::r,j,p,hr,h=>by
  simp only[kG,aJ]at hr
  simp only[get]at h
  split at h
  ·cases h;exact hr.1
  ·exact zI hr.2 h
theorem Hx {α:Type}:∀l:List (Nat×α),mw id l=l
 |[]=>rfl
 |(j,v)::r=>by simp[mw,Hx r]
def dr1 (k:Nat) (s:St) (K:St->Prop):Prop:=
 (jq (λj=>decide (j≠k)) s.env=true∧kG (λj=>decide (j≠k)) (del s.bx k)=true∧k<KB)∧K {s with bx:=del s.bx k}
theorem K9 {f:Nat->Bool} {b:br} (h:ah f b=true):aM id b=b:=by
 cases b with
 |box v=>simp only[aM,yC (f:=f) h]
 |arr sz l=>simp only[aM,zG (f:=f) h]
 |map b ks vs l=>rfl
theorem Jf {K:St->Prop} (hs:iz nt ds s Γ a) (hle:Le Γ0 Γ) (oq:HK Γ0) (h:dr1 k s K):rM nt ds Γ0 Γ a K:=by
 obtain⟨⟨h1,h2,h3⟩,hK⟩:=h
 have pq:=u7 (k:=k) hs.mem id (λ_=>rfl)
 refine⟨_,{Γ with bx:=mw id (del Γ.bx k)},⟨by simp[hs.bx,Hx],hs.size,hs.defers,λj p hj=> ?_,CU hs.mem _ (λj blk dF hb=> ?_)⟩,rfl,K7 hle oq h3 _ (λ_=>rfl),hK⟩
 ·have hr:=xG h1 hj
  have:=(hs.env j p hj).az pq hr
  rwa [yC hr]at this
 ·have hr:ah (λj=>decide (j≠k)) blk=true:=by
   refine zI (j:=j) h2 ?_
   rw[mL,if_neg dF,←hs.bx];exact hb
  have:=(hs.mem.blk j blk hb).az pq hr
  rwa [K9 hr]at this
theorem Gb {K:St->Prop} {sl:List Nat} (hs:iz nt ds s Γ a) (hle:Le Γ0 Γ) (h:K {s with env:=nQ sl s.env}):rM nt ds Γ0 Γ a K:=
 ⟨{s with env:=nQ sl s.env},Γ,⟨hs.bx,hs.size,hs.defers,λj p hj=>hs.env j p (Jd sl _ _ hj),hs.mem⟩,rfl,hle,h⟩
def Uw (n k sz:Nat) (s:St) (K:St->Prop):Prop:=
 match get s.env n with
 |some (.sl _ [] true)=>(get s.bx k=none∧0<sz)∧K {env:=put s.env n (.rs k [] 0 0 0 sz .tip),bx:=put s.bx k (.arr sz [])}
 |_=>False
theorem Jg {n:Nat} {K:St->Prop} (hs:iz nt ds s Γ a) (hle:Le Γ0 Γ) (h:Uw n k sz s K):rM nt ds Γ0 Γ a K:=by
 unfold Uw at h
 split at h
 ·rename_i z hg
  obtain⟨⟨j6,iA⟩,hK⟩:=h
  rw[←hs.bx]at j6
  have hl:=sP Γ (.arr sz []) j6
  have hm:=zc hs.mem j6 (blk:= .arr sz []) ⟨by simp,iA,trivial⟩
  refine⟨_,Γ.mu k (.arr sz []),⟨by simp[Cx.mu,hs.bx],hs.size,hs.defers,λj p hj=> ?_,hm⟩,rfl,hle.trans hl,hK⟩
  simp only[iD]at hj
  split at hj
  ·rename_i hnj
   subst hnj
   simp only[sJ]at hj;subst hj
   have h0:=hs.env n _ hg
   simp only[aN]at h0⊢
   generalize a.tmps.getD n undef=v at h0
   cases h0 with
   |
    @sl _ _ cs _ _ _ ad bt h1 h2 h3 h4 h5 h6=>
    have hr0:bt=0:=h4 rfl
    subst hr0
    refine .rs k [] 0 0 0 sz .tip _ (.arr sz []) ⟨by simp[Cx.mu,cZ],by simp[br.aK]⟩ rfl (λ_=>⟨ad,0,rfl,?_⟩) .nil
    unfold jo
    simp[Cx.mu,og]
  ·exact(hs.env j p hj).mono hl
 ·exact h.elim
mutual
theorem pO:∀p:PV,ab (λ_=>true) p=true
 | .st _ l| .ar _ _ l| .tup l| .sl _ l _| .fp _ l _=>by simp only[ab];exact mM l
 | .fn _ x y=>by simp only[ab,mM x,mM y,Bool.and_self]
 | .gd _ p| .ifc _ p=>by simp only[ab];exact pO p
 | .rs .. | .pt .. | .un| .bl _| .int .. | .str _| .np| .nf| .ni| .mp .. =>by simp only[ab]
theorem mM:∀l:List PV,ae (λ_=>true) l=true
 |[]=>rfl
 |p::l=>by simp only[ae,pO p,mM l,Bool.and_self]
end
theorem u9 (b:br):ah (λ_=>true) b=true:=by cases b<;>simp[ah,pO,mM]
def zJ (k k':Nat) (j:Nat):Nat:=if j=k then k' else j
def Yk (k k':Nat) (s:St) (K:St->Prop):Prop:=
 match get s.bx k with
 |some b=>(get s.bx k'=none∧k<KB∧k'<KB∧k≠k')∧K {env:=mw (az (zJ k k')) s.env,bx:=put (mw (aM (zJ k k')) (del s.bx k)) k' (aM (zJ k k') b)}
 |none=>False
def Cx.mv (Γ:Cx) (k k':Nat) (b:br):Cx:=
 {heap:=Γ.heap,ι:=λj=>if j=k' then Γ.ι k else Γ.ι j,bx:=put (mw (aM (zJ k k')) (del Γ.bx k)) k' (aM (zJ k k') b),dU:=Γ.dU}
theorem wH {k k':Nat} {b:br} (dF:k≠k') (j:Nat):get (Γ.mv k k' b).bx j=if j=k' then some (aM (zJ k k') b)else if j=k then none else(get Γ.bx j).map (aM (zJ k k')):=by
 simp only[Cx.mv,iD,kf,mL]
 by_cases h:k'=j
 ·subst h;simp
 ·have h':¬j=k':=λe=>h e.symm
  rw[if_neg h,if_neg h']
  by_cases h2:j=k
  ·simp[h2]
  ·simp[h2]
theorem yD {k k':Nat} {b:br} (hg:get Γ.bx k=some b) (dF:k≠k') {x:Nat} (h:(Γ.mv k k' b).iQ x):Γ.iQ x:=by
 obtain⟨j,blk,h1,h2⟩:=h
 rw[wH dF]at h1
 simp only[Cx.mv]at h2
 by_cases hj:j=k'
 ·rw[if_pos hj]at h2;exact⟨k,b,hg,h2⟩
 ·rw[if_neg hj]at h1 h2
  by_cases rK:j=k
  ·rw[if_pos rK]at h1;cases h1
  ·rw[if_neg rK]at h1
   obtain⟨b0,g1,_⟩:=Option.map_eq_some_iff.1 h1
   exact⟨j,b0,g1,h2⟩
theorem CV {k k':Nat} {b:br} (hg:get Γ.bx k=some b) (hf:get Γ.bx k'=none) (dF:k≠k'):wA (λ_=>true) (zJ k k') Γ (Γ.mv k k' b) where
 heap:=rfl
 own x _ hn:=by
  rintro(h|h)
  ·exact hn (.inl (yD hg dF h))
  ·exact hn (.inr h)
 ref j blk _ hb:=by
  by_cases hj:j=k
  ·subst hj
   rw[hg]at hb;cases hb
   exact⟨aM (zJ j k') b,by rw[wH dF];simp[zJ],ke _ _,by simp[zJ,Cx.mv]⟩
  ·have rK:j≠k':=by rintro rfl;rw[hf]at hb;cases hb
   exact⟨aM (zJ k k') blk,by rw[wH dF];simp[zJ,hj,rK,hb],ke _ _,by simp[zJ,Cx.mv,hj,rK]⟩
theorem Ux (hm:Mem Γ) {k k':Nat} {b:br} (hg:get Γ.bx k=some b) (hf:get Γ.bx k'=none) (dF:k≠k'):Mem (Γ.mv k k' b) where
 blk j blk hb:=by
  rw[wH dF]at hb
  by_cases hj:j=k'
  ·rw[if_pos hj]at hb;cases hb
   have:=(hm.blk k b hg).az (CV hg hf dF) (u9 b)
   simpa[Cx.mv,hj]using this
  ·rw[if_neg hj]at hb
   by_cases rK:j=k
   ·rw[if_pos rK]at hb;cases hb
   ·rw[if_neg rK]at hb
    obtain⟨b0,g1,rfl⟩:=Option.map_eq_some_iff.1 hb
    have:=(hm.blk j b0 g1).az (CV hg hf dF) (u9 b0)
    have hι:(Γ.mv k k' b).ι j=Γ.ι j:=by simp[Cx.mv,hj]
    rw[hι];exact this
 inj i j x hi hj h1 h2:=by
  have back:∀y,(get (Γ.mv k k' b).bx y).isSome=true->(Γ.mv k k' b).ι y=some x->(get Γ.bx (if y=k' then k else y)).isSome=true∧Γ.ι (if y=k' then k else y)=some x∧(y≠k'->y≠k):=by
   intro y hy hx
   rw[wH dF]at hy
   simp only[Cx.mv]at hx
   by_cases hyk:y=k'
   ·rw[if_pos hyk]at hx⊢;exact⟨by simp[hg],hx,λh=>absurd hyk h⟩
   ·rw[if_neg hyk]at hx hy⊢
    by_cases hy2:y=k
    ·rw[if_pos hy2]at hy;cases hy
    ·rw[if_neg hy2]at hy;exact⟨by simpa using hy,hx,λ_=>hy2⟩
  obtain⟨a1,a2,a3⟩:=back i hi h1
  obtain⟨c1,c2,c3⟩:=back j hj h2
  have:=hm.inj _ _ x a1 c1 a2 c2
  by_cases iP:i=k'
  ·by_cases vX:j=k'
   ·rw[iP,vX]
   ·rw[if_pos iP,if_neg vX]at this;exact absurd this.symm (c3 vX)
  ·by_cases vX:j=k'
   ·rw[if_neg iP,if_pos vX]at this;exact absurd this (a3 iP)
   ·rw[if_neg iP,if_neg vX]at this;exact this
 dU:=hm.dU
 apart x h hp:=hm.apart x (yD hg dF h) hp
 uI x cs h:=by
  obtain⟨h1,h2⟩:=hm.uI x cs h
  exact⟨λhb=>h1 (yD hg dF hb),h2⟩
theorem Jh {k k':Nat} {K:St->Prop} (hs:iz nt ds s Γ a) (hle:Le Γ0 Γ) (oq:HK Γ0) (h:Yk k k' s K):rM nt ds Γ0 Γ a K:=by
 unfold Yk at h
 split at h
 ·rename_i b hg
  obtain⟨⟨hf,hkb,aoH,dF⟩,hK⟩:=h
  rw[←hs.bx]at hg hf
  refine⟨_,Γ.mv k k' b,⟨by simp[Cx.mv,hs.bx],hs.size,hs.defers,λj p hj=> ?_,Ux hs.mem hg hf dF⟩,rfl,?_,hK⟩
  ·simp only[kf]at hj
   obtain⟨q,g1,rfl⟩:=Option.map_eq_some_iff.1 hj
   exact(hs.env j q g1).az (CV hg hf dF) (pO q)
  ·refine⟨hle.heap,λx hx h=>hle.iQ x hx (yD hg dF h),hle.dU,hle.size,λj blk hj=> ?_⟩
   obtain⟨b8,h1,h2,h3⟩:=hle.ref j blk hj
   have vX:=oq j blk hj
   have hj1:j≠k:=by omega
   have rK:j≠k':=by omega
   refine⟨aM (zJ k k') b8,by rw[wH dF];simp[hj1,rK,h1],by rw[ke];exact h2,λht=> ?_⟩
   rw[ke]at ht
   obtain⟨g1,g2⟩:=h3 ht
   exact⟨by simp only[Cx.mv];rw[if_neg rK];exact g1,g2⟩
 ·exact h.elim
def Gc (sz:Nat):PV:= .st sz (List.replicate sz .un)
@[simp] theorem Yl (sz:Nat):(Gc sz).width=sz:=rfl
theorem Ea:∀ {vs:List Value},(∀v∈vs,gq v=true)->aD Γ (List.replicate vs.length .un) vs
 |[],_=> .nil
 |v::vs,h=> .un (h v (by simp)) (Ea λx hx=>h x (by simp[hx]))
theorem BR {sz:Nat}:∀ {j:Nat} {vs:List Value},vs.length=j*sz->(∀v∈vs,gq v=true)->aD Γ (List.replicate j (Gc sz)) vs
 |
  0,vs,h,_=>by
  have:vs=[]:=List.eq_nil_of_length_eq_zero (by simpa using h)
  subst this;exact .nil
 |
  j+1,vs,h,h1=>by
  rw[Nat.add_mul,Nat.one_mul]at h
  have hl:(vs.take sz).length=sz:=by rw[lJ];omega
  have hr:=aD.st (Γ:=Γ) sz (List.replicate sz .un) (by have:=Ea (Γ:=Γ) (vs:=vs.take sz) (λv hv=>h1 v (List.mem_of_mem_take hv));rwa [hl]at this) hl
   (BR (sz:=sz) (j:=j) (vs:=vs.drop sz) (by rw[List.length_drop];omega) (λv hv=>h1 v (List.mem_of_mem_drop hv)))
  rw[List.take_append_drop]at hr
  exact hr
def Ym (n:Nat) (s:St) (K:St->Prop):Prop:=
 match get s.env n with
 |
  some (.rs k [] 0 len aK sz .tip)=>(match get s.bx k with
  |some (.arr cR l)=>(cR=sz∧aK=l.length)∧∀c j:Nat,(c=l.length+j∨(c=0∧j=0∧len=0))->
    K {env:=put s.env n (.rs k [] 0 len (l.length+j) sz (.full c)),bx:=put s.bx k (.arr sz (l++List.replicate j (Gc sz)))}
  |_=>False)
 |_=>False
theorem La {l l':List PV} {b:Nat} (hm:Mem Γ) (hg:get Γ.bx k=some (.arr sz l)) (hb:Γ.ι k=some b) (ht:l.length≤l'.length)
  (hr:Le Γ {Γ with bx:=put Γ.bx k (.arr sz l')}->(br.arr sz l').xv {Γ with bx:=put Γ.bx k (.arr sz l')} (some b)):
  Le Γ {Γ with bx:=put Γ.bx k (.arr sz l')}∧Mem {Γ with bx:=put Γ.bx k (.arr sz l')}:=by
 have fo:∀j,get (put Γ.bx k (.arr sz l')) j=if k=j then some (.arr sz l')else get Γ.bx j:=λj=>iD _ _ _ _
 have p9:∀j,(get (put Γ.bx k (.arr sz l')) j).isSome=true->(get Γ.bx j).isSome=true:=by
  intro j hj
  rw[fo]at hj
  split at hj
  ·rename_i e;subst e;simp[hg]
  ·exact hj
 have hl:Le Γ {Γ with bx:=put Γ.bx k (.arr sz l')}:=by
  refine⟨λ_ _ _=>rfl,λb hb hm=> ?_,rfl,Nat.le_refl _,λj blk hj=> ?_⟩
  ·obtain⟨j,blk,h1,h2⟩:=hm
   have:=p9 j (by rw[h1];rfl)
   obtain⟨b0,h3⟩:=Option.isSome_iff_exists.1 this
   exact⟨j,b0,h3,h2⟩
  ·by_cases e:k=j
   ·subst e
    rw[hg]at hj;cases hj
    exact⟨.arr sz l',by rw[fo,if_pos rfl],by simpa[br.aK]using ht,λ_=>⟨rfl,λb hb cs e hh=>⟨cs,hh,rfl⟩⟩⟩
   ·exact⟨blk,by rw[fo,if_neg e];exact hj,Nat.le_refl _,λ_=>⟨rfl,λb hb cs e hh=>⟨cs,hh,rfl⟩⟩⟩
 refine⟨hl,λj blk hj=> ?_,λi j b hi hj h1 h2=>hm.inj i j b (p9 i hi) (p9 j hj) h1 h2,hm.dU,λb hb hp=>hm.apart b ?_ hp,hm.ns hl⟩
 ·rw[fo]at hj
  split at hj
  ·rename_i e;subst e;cases hj
   have:=hr hl
   rw[←hb]at this
   exact this
  ·exact(hm.blk j blk hj).mono hl (λb hb=>rfl)
 ·obtain⟨j,blk,h1,h2⟩:=hb
  have:=p9 j (by rw[h1];rfl)
  obtain⟨b0,h3⟩:=Option.isSome_iff_exists.1 this
  exact⟨j,b0,h3,h2⟩
theorem Ji {n:Nat} {K:St->Prop} (hs:iz nt ds s Γ a) (hle:Le Γ0 Γ) (h:Ym n s K):rM nt ds Γ0 Γ a K:=by
 unfold Ym at h
 split at h
 case h_2=>exact h.elim
 rename_i k len aK sz he
 split at h
 case h_2=>exact h.elim
 rename_i cR l hg
 obtain⟨⟨rfl,rfl⟩,hK⟩:=h
 have lI:=hg
 rw[←hs.bx]at lI
 obtain⟨ad,bt,hv,cY⟩:=(hs.env n _ he).rs lI rfl
 obtain⟨mY,kz,lH⟩:=hs.mem.blk k _ lI
 have aoJ:=cY
 unfold jo at cY
 cases hι:Γ.ι k with
 |
  none=>
  rw[hι]at cY
  obtain⟨rfl,rfl,_⟩:=cY
  have hK:=hK 0 0 (.inr ⟨rfl,rfl,rfl⟩)
  rw[List.replicate_zero,List.append_nil,Nat.add_zero]at hK
  have lx:=mI lI
  have q1:=hs.le (oQ lx) (zf hs.mem lx) (vY:=put s.bx k (.arr cR l)) (by rw[hs.bx])
  refine⟨{env:=put s.env n (.rs k [] 0 0 l.length cR (.full 0)),bx:=put s.bx k (.arr cR l)},{Γ with bx:=put Γ.bx k (.arr cR l)},⟨q1.bx,q1.size,q1.defers,λj p hj=> ?_,q1.mem⟩,rfl,hle.trans (oQ lx),hK⟩
  simp only[iD]at hj
  split at hj
  ·rename_i e;subst e;cases hj
   rw[hv]
   simp only[aN]
   refine .rs k [] 0 0 l.length cR _ _ (.arr cR l) ⟨by rw[lx];exact lI,by simp[br.aK]⟩ rfl (λ_=>⟨ad,0,rfl,?_⟩) .nil
   unfold jo
   rw[show({Γ with bx:=put Γ.bx k (.arr cR l)}:Cx).ι k=none from hι]
   exact⟨rfl,rfl,rfl⟩
  ·exact q1.env j p hj
 |
  some b=>
  rw[hι]at cY lH
  obtain⟨o1,o2,_,o4⟩:=cY
  obtain⟨_,IK,e0,q1,q2⟩:=o4 rfl
  obtain⟨c,ce,cs,rest,h7,h8,h9,FT⟩:=lH
  rw[q1]at h7
  simp only[sJ,Obj.cells.injEq]at h7
  obtain⟨rfl,rfl,_⟩:=h7
  have qV:cs.length=l.length*cR:=by rw[h9.length,bF mY]
  have Nx:IK.size=cs.length+rest.length:=by rw[←Array.length_toList,h8];simp
  rw[Nat.zero_add]at q2
  have XE:l.length≤bt:=by
   refine Nat.le_of_not_lt λeu=> ?_
   have:bt*cR<l.length*cR:=Nat.mul_lt_mul_of_pos_right eu kz
   omega
  obtain⟨j,rfl⟩:∃j,bt=l.length+j:=⟨bt-l.length,by omega⟩
  have yV:rest.length=j*cR:=by rw[Nat.add_mul]at q2;omega
  have hK:=hK (l.length+j) j (.inl rfl)
  have FU:(l++List.replicate j (Gc cR)).length=l.length+j:=by simp
  obtain⟨g1,g2⟩:=La (l':=l++List.replicate j (Gc cR)) hs.mem lI hι (by rw[FU];omega) (λhl=>
   ⟨λx hx=>(List.mem_append.1 hx).elim (mY x) (λhx=>by rw[(List.mem_replicate.1 hx).2];rfl),kz,IK,e0,cs++rest,[],q1,by rw[List.append_nil];exact h8,(h9.mono hl).append (BR yV FT),by simp⟩)
  have t1:=hs.le g1 g2 (vY:=put s.bx k (.arr cR (l++List.replicate j (Gc cR)))) (by rw[hs.bx])
  refine⟨{env:=put s.env n (.rs k [] 0 len (l.length+j) cR (.full (l.length+j))),bx:=put s.bx k (.arr cR (l++List.replicate j (Gc cR)))},_,⟨t1.bx,t1.size,t1.defers,λi p hj=> ?_,g2⟩,rfl,hle.trans g1,hK⟩
  simp only[iD]at hj
  split at hj
  ·rename_i e;subst e;cases hj
   rw[hv]
   simp only[aN]
   refine .rs k [] 0 len _ cR _ _ (.arr cR (l++List.replicate j (Gc cR))) ⟨by simp[cZ],by simp[br.aK]⟩ rfl (λ_=>⟨ad,_,rfl,?_⟩) .nil
   unfold jo
   rw[show({Γ with bx:=put Γ.bx k (.arr cR (l++List.replicate j (Gc cR)))}:Cx).ι k=some b from hι]
   exact⟨o1,o2,rfl,λhc=>by cases hc⟩
  ·exact t1.env i p hj
inductive Cut
 |fz (k:Nat)
 |dr (k:Nat)
 |keep (sl:List Nat)
 |vt (n k sz:Nat)
 |wk (n:Nat)
 |wb (k:Nat)
 |vb (b:Nat) (p:List Step) (k sz:Nat)
 |mv (k k':Nat)
 |mt (n:Nat)
def OP (n:Nat) (s:St) (K:St->Prop):Prop:=
 match get s.env n with
 |some p=>K {s with env:=put s.env n (wk p)}
 |none=>False
theorem Jj {n:Nat} {K:St->Prop} (hs:iz nt ds s Γ a) (hle:Le Γ0 Γ) (h:OP n s K):rM nt ds Γ0 Γ a K:=by
 unfold OP at h
 split at h
 ·rename_i p hp
  refine⟨{s with env:=put s.env n (Ab.wk p)},Γ,⟨hs.bx,hs.size,hs.defers,λj q hj=> ?_,hs.mem⟩,rfl,hle,h⟩
  simp only[iD]at hj
  split at hj
  ·rename_i hnj;subst hnj;cases hj;exact(hs.env _ p hp).wk
  ·exact hs.env j q hj
 ·exact h.elim
def Yn (k:Nat) (s:St) (K:St->Prop):Prop:=
 match get s.bx k with
 |some (.box v)=>K {s with bx:=put s.bx k (.box (wk v))}
 |_=>False
theorem Jk {K:St->Prop} (hs:iz nt ds s Γ a) (hle:Le Γ0 Γ) (h:Yn k s K):rM nt ds Γ0 Γ a K:=by
 unfold Yn at h
 split at h
 ·rename_i v hg
  rw[←hs.bx]at hg
  have fo:∀j,get (put Γ.bx k (.box (Ab.wk v))) j=if k=j then some (.box (Ab.wk v))else get Γ.bx j:=λj=>iD _ _ _ _
  have p9:∀j,(get (put Γ.bx k (.box (Ab.wk v))) j).isSome=true->(get Γ.bx j).isSome=true:=by
   intro j hj
   rw[fo]at hj
   split at hj
   ·rename_i e;subst e;simp[hg]
   ·exact hj
  have hl:Le Γ {Γ with bx:=put Γ.bx k (.box (Ab.wk v))}:=by
   refine⟨λ_ _ _=>rfl,λb hb hm=> ?_,rfl,Nat.le_refl _,λj blk hj=> ?_⟩
   ·obtain⟨j,blk,h1,h2⟩:=hm
    have:=p9 j (by rw[h1];rfl)
    obtain⟨b0,h3⟩:=Option.isSome_iff_exists.1 this
    exact⟨j,b0,h3,h2⟩
   ·by_cases e:k=j
    ·subst e
     rw[hg]at hj;cases hj
     exact⟨.box (Ab.wk v),by rw[fo,if_pos rfl],Nat.le_refl _,λ_=>⟨rfl,λb hb cs e hh=>⟨cs,hh,rfl⟩⟩⟩
    ·exact⟨blk,by rw[fo,if_neg e];exact hj,Nat.le_refl _,λ_=>⟨rfl,λb hb cs e hh=>⟨cs,hh,rfl⟩⟩⟩
  have hm:Mem {Γ with bx:=put Γ.bx k (.box (Ab.wk v))}:=by
   refine⟨λj blk hj=> ?_,λi j b hi hj h1 h2=>hs.mem.inj i j b (p9 i hi) (p9 j hj) h1 h2,hs.mem.dU,λb hb hp=>hs.mem.apart b ?_ hp,hs.mem.ns hl⟩
   ·rw[fo]at hj
    split at hj
    ·rename_i e;subst e;cases hj
     obtain⟨b,c,e,h1,h2,h3⟩:=hs.mem.blk _ _ hg
     exact⟨b,c,e,h1,h2,h3.wk.mono hl⟩
    ·exact(hs.mem.blk j blk hj).mono hl (λb hb=>rfl)
   ·obtain⟨j,blk,h1,h2⟩:=hb
    have:=p9 j (by rw[h1];rfl)
    obtain⟨b0,h3⟩:=Option.isSome_iff_exists.1 this
    exact⟨j,b0,h3,h2⟩
  exact⟨{s with bx:=put s.bx k (.box (Ab.wk v))},_,⟨by simp[hs.bx],hs.size,hs.defers,λj q hj=>(hs.env j q hj).mono hl,hm⟩,rfl,hle.trans hl,h⟩
 ·exact h.elim
def Yo (b:Nat) (p:List Step) (k sz:Nat) (s:St) (K:St->Prop):Prop:=
 match get s.bx b with
 |
  some (.box v)=>(match aX v p,gN v p (.rs k [] 0 0 0 sz .tip)with
  |some (.sl _ [] true),some v'=>(get s.bx k=none∧0<sz)∧K {s with bx:=put (put s.bx k (.arr sz [])) b (.box v')}
  |_,_=>False)
 |_=>False
theorem Lb {v v':PV} (hm:Mem Γ) (hg:get Γ.bx k=some (.box v)) (hv:∀cs,aD Γ [v] cs->aD Γ [v'] cs):
  Le Γ {Γ with bx:=put Γ.bx k (.box v')}∧Mem {Γ with bx:=put Γ.bx k (.box v')}:=by
 have fo:∀j,get (put Γ.bx k (.box v')) j=if k=j then some (.box v')else get Γ.bx j:=λj=>iD _ _ _ _
 have p9:∀j,(get (put Γ.bx k (.box v')) j).isSome=true->(get Γ.bx j).isSome=true:=by
  intro j hj
  rw[fo]at hj
  split at hj
  ·rename_i e;subst e;simp[hg]
  ·exact hj
 have hl:Le Γ {Γ with bx:=put Γ.bx k (.box v')}:=by
  refine⟨λ_ _ _=>rfl,λb hb hm=> ?_,rfl,Nat.le_refl _,λj blk hj=> ?_⟩
  ·obtain⟨j,blk,h1,h2⟩:=hm
   have:=p9 j (by rw[h1];rfl)
   obtain⟨b0,h3⟩:=Option.isSome_iff_exists.1 this
   exact⟨j,b0,h3,h2⟩
  ·by_cases e:k=j
   ·subst e
    rw[hg]at hj;cases hj
    exact⟨.box v',by rw[fo,if_pos rfl],Nat.le_refl _,λ_=>⟨rfl,λb hb cs e hh=>⟨cs,hh,rfl⟩⟩⟩
   ·exact⟨blk,by rw[fo,if_neg e];exact hj,Nat.le_refl _,λ_=>⟨rfl,λb hb cs e hh=>⟨cs,hh,rfl⟩⟩⟩
 refine⟨hl,λj blk hj=> ?_,λi j b hi hj h1 h2=>hm.inj i j b (p9 i hi) (p9 j hj) h1 h2,hm.dU,λb hb hp=>hm.apart b ?_ hp,hm.ns hl⟩
 ·rw[fo]at hj
  split at hj
  ·rename_i e;subst e;cases hj
   obtain⟨b,c,e,h1,h2,h3⟩:=hm.blk _ _ hg
   exact⟨b,c,e,h1,h2,(hv _ h3).mono hl⟩
  ·exact(hm.blk j blk hj).mono hl (λb hb=>rfl)
 ·obtain⟨j,blk,h1,h2⟩:=hb
  have:=p9 j (by rw[h1];rfl)
  obtain⟨b0,h3⟩:=Option.isSome_iff_exists.1 this
  exact⟨j,b0,h3,h2⟩
theorem Jl {b:Nat} {p:List Step} {K:St->Prop} (hs:iz nt ds s Γ a) (hle:Le Γ0 Γ) (h:Yo b p k sz s K):rM nt ds Γ0 Γ a K:=by
 unfold Yo at h
 split at h
 case h_2=>exact h.elim
 rename_i v hg
 split at h
 case h_2=>exact h.elim
 rename_i z v' G8 BE
 obtain⟨⟨j6,iA⟩,hK⟩:=h
 rw[←hs.bx]at j6 hg
 have hl:=sP Γ (.arr sz []) j6
 have hm:=zc hs.mem j6 (blk:= .arr sz []) ⟨by simp,iA,trivial⟩
 have Ku:b≠k:=by rintro rfl;rw[hg]at j6;simp at j6
 have hg2:get (Γ.mu k (.arr sz [])).bx b=some (.box v):=by
  simp only[Cx.mu];rw[ch _ _ _ _ (λh=>Ku h.symm)];exact hg
 obtain⟨h1,h2⟩:=Lb (v':=v') hm hg2 (by
  intro cs hc
  obtain⟨Ny,hr⟩:=qu p hc G8
  have hw:(PV.sl z [] true).width=1:=rfl
  rw[hw]at Ny hr
  obtain⟨x,hx⟩:∃x,(cs.drop (cG p)).take 1=[x]:=by
   have hlen:((cs.drop (cG p)).take 1).length=1:=by rw[lJ,List.length_drop];omega
   exact List.length_eq_one_iff.1 hlen
  rw[hx]at hr
  have Ox:aD (Γ.mu k (.arr sz [])) [.rs k [] 0 0 0 sz .tip] [x]:=by
   cases hr with
   |
    @sl _ _ cs _ _ _ ad bt h1 h2 h3 h4 h5 h6=>
    have hr0:bt=0:=h4 rfl
    subst hr0
    refine .rs k [] 0 0 0 sz .tip _ (.arr sz []) ⟨by simp[Cx.mu,cZ],by simp[br.aK]⟩ rfl (λ_=>⟨ad,0,rfl,?_⟩) .nil
    unfold jo
    simp[Cx.mu,og]
  obtain⟨g1,g2,g3⟩:=y0 Ox p hc BE
  have e:bL cs (cG p) [x]=cs:=by
   unfold bL
   rw[←hx,lJ,List.length_drop,Nat.min_eq_left (by omega),List.append_assoc]
   rw[←List.drop_drop,List.take_append_drop,List.take_append_drop]
  rwa [e]at g3)
 refine⟨{s with bx:=put (put s.bx k (.arr sz [])) b (.box v')},_,⟨by simp[Cx.mu,hs.bx],hs.size,hs.defers,λj q hj=>((hs.env j q hj).mono hl).mono h1,h2⟩,rfl,(hle.trans hl).trans h1,hK⟩
def kj:Cut->St->(St->Prop)->Prop
 | .fz k,s,K=>Yj k s K
 | .dr k,s,K=>dr1 k s K
 | .keep sl,s,K=>K {s with env:=nQ sl s.env}
 | .vt n k sz,s,K=>Uw n k sz s K
 | .wk n,s,K=>OP n s K
 | .wb k,s,K=>Yn k s K
 | .vb b p k sz,s,K=>Yo b p k sz s K
 | .mv k k',s,K=>Yk k k' s K
 | .mt n,s,K=>Ym n s K
def gQ:List Cut->St->(St->Prop)->Prop
 |[],s,K=>K s
 |c::r,s,K=>kj c s λs'=>gQ r s' K
theorem ny {K:St->Prop} (oq:HK Γ0):∀(c:List Cut) {s:St} {Γ:Cx},iz nt ds s Γ a->Le Γ0 Γ->gQ c s K->rM nt ds Γ0 Γ a K
 |[],s,Γ,hs,hle,h=>⟨s,Γ,hs,rfl,hle,h⟩
 |
  c::r,s,Γ,hs,hle,h=>by
  have:rM nt ds Γ0 Γ a λs'=>gQ r s' K:=by
   cases c with
   |fz k=>exact Je hs hle oq h
   |dr k=>exact Jf hs hle oq h
   |keep sl=>exact Gb hs hle h
   |vt n k sz=>exact Jg hs hle h
   |wk n=>exact Jj hs hle h
   |wb k=>exact Jk hs hle h
   |vb b p k sz=>exact Jl hs hle h
   |mv k k'=>exact Jh hs hle oq h
   |mt n=>exact Ji hs hle h
  obtain⟨s',Γ',h1,h2,h3,h4⟩:=this
  obtain⟨s2,Γ2,g1,g2,g3,g4⟩:=ny oq r h1 h3 h4
  exact⟨s2,Γ2,g1,by rw[g2,h2],g3,g4⟩
end Go.Ab
namespace Go.Ab
variable [eo]
variable {P:Program} {nt:Nat} {ds:List Deferred} {s s':St} {Γ:Cx} {a:Act} {w:World} {Q:Exit->Act->World->Prop} [gK]
def Gd:br:= .map 0 (.i .u8) (.i .u8) []
def Sub (b c:List (Nat×br)):Prop:=∀k blk,get b k=some blk->get c k=some blk∨blk=Gd∧∃v,get c k=some (.box v)
theorem Sub.refl (b:List (Nat×br)):Sub b b:=λ_ _ h=> .inl h
theorem Sub.trans {a b c:List (Nat×br)} (h:Sub a b) (h':Sub b c):Sub a c:=by
 intro k blk hk
 rcases h k blk hk with h1|⟨h1,v,h2⟩
 ·exact h' k blk h1
 ·rcases h' k _ h2 with h3|⟨h3,_⟩
  ·exact .inr ⟨h1,v,h3⟩
  ·simp[Gd]at h3
theorem Eb (hb:Sub s.bx s'.bx) {p:PV} {K:Nat->List PV->Prop} (h:content s p K):content s' p K:=by
 cases p<;>simp only[content]at h⊢<;>first|exact h|skip
 rename_i k p off len aK sz c
 cases hg:get s.bx k with
 |none=>rw[hg]at h;exact h.elim
 |
  some b=>
  rw[hg]at h
  rcases hb k b hg with h1|⟨rfl,v1,h1⟩
  ·rw[h1];exact h
  ·rw[h1];simp only[Gd,ku,br.aK]at h⊢<;>exact h
theorem Lc (hb:Sub s.bx s'.bx) {op:BinOp} {e:ET} {p q:PV} {K:PV->Prop} (h:qW s op e p q K):qW s' op e p q K:=by
 cases e<;>simp only[qW]at h⊢<;>first|exact h|skip
 cases p<;>cases q<;>simp only at h⊢<;>first|exact h|skip
 rename_i k _ _
 cases hg:get s.bx k with
 |none=>rw[hg]at h;exact h.elim
 |
  some b=>
  rw[hg]at h
  rcases hb k b hg with h1|⟨rfl,v1,h1⟩
  ·rw[h1];exact h
  ·rw[h1];simp only[Gd,ku,br.aK]at h⊢<;>exact h
theorem cr {g:Bool} {x:AX} {K K':PV->Prop} (hk:vg g s x K) (h:∀p,K p->K' p):vg g s x K':=by
 obtain⟨p,h1,h2⟩:=qD g s x K hk;exact h2 K' (h p h1)
theorem oU {p:PV} {K K':Int->Prop} (hk:ot p K) (h:∀n,K n->K' n):ot p K':=by
 obtain⟨n,h1,h2⟩:=pM p K hk;exact h2 K' (h n h1)
theorem Ge {g:Bool} {k:AK} {K:PV->Prop} (hb:Sub s.bx s'.bx) (h:dK s s' k.reads) (he:ev g s k K):ev g s' k K:=by
 cases k with
 |mv x=>simp only[ev]at he⊢;rw[aE h];exact he
 |pick c a b=>simp only[ev]at he⊢;rw[aE h.left.left,lL h.left.right,lL h.right];exact he
 |build z parts=>simp only[ev]at he⊢;rw[nv h];exact he
 |
  load agg w x=>
  simp only[ev]at he⊢;rw[aE h]
  refine cr he λp hp=> ?_
  cases p<;>simp only at hp⊢<;>first|exact hp|skip
  rename_i k _ _
  cases hg:get s.bx k with
  |none=>rw[hg]at hp;exact hp.elim
  |
   some b=>
   rw[hg]at hp
   rcases hb k b hg with h1|⟨rfl,v1,h1⟩
   ·rw[h1];exact hp
   ·rw[h1];simp only[Gd,ku,br.aK]at hp⊢<;>exact hp
 |
  nilCheck x=>
  simp only[ev]at he⊢;rw[aE h]
  refine cr he λp hp=> ?_
  cases p<;>first|exact hp|(rename_i f _ _;cases f<;>exact hp)|skip
  rename_i k _ _
  simp only at hp⊢
  cases hg:get s.bx k with
  |none=>rw[hg]at hp;exact hp.elim
  |
   some b=>
   rw[hg]at hp
   rcases hb k b hg with h1|⟨rfl,v1,h1⟩
   ·rw[h1];exact hp
   ·rw[h1];simp only[Gd,ku,br.aK]at hp⊢<;>exact hp
 |bin op e x y=>simp only[ev]at he⊢;rw[aE h.left];refine cr he λp hp=> ?_;rw[aE h.right];exact cr hp λq hq=>Lc hb hq
 |un op x=>simp only[ev]at he⊢;rw[aE h];exact he
 |convI k x=>simp only[ev]at he⊢;rw[aE h];exact he
 |convS x=>simp only[ev]at he⊢;rw[aE h];exact cr he λp hp=>Eb hb hp
 |mkFunc f a b=>simp only[ev]at he⊢;rw[iu h.left];simp only[iu h.right];exact he
 |
  slice k x lo hi mx=>
  have hx:=aE (g:=g) h.left
  have hl:=λn c=>zq (g:=g) h.right.left h.right.right.left n c
  have hm:=h.right.right.right
  cases k with
  |str=>simp only[ev,hx,hl]at he⊢;exact he
  |
   sl sz=>
   simp only[ev,hx,hl]at he⊢
   refine cr he λp hp=> ?_
   cases p<;>simp only at hp⊢<;>first|exact hp|skip
   ·cases mx with
    |none=>exact hp
    |some m=>simp only at hp⊢;rw[aE (x:=m) hm];exact hp
   ·rename_i k _ _ _ _ _ _
    cases hg:get s.bx k with
    |none=>rw[hg]at hp;exact hp.elim
    |
     some b=>
     rw[hg]at hp
     rcases hb k b hg with h1|⟨rfl,v1,h1⟩
     ·rw[h1]
      cases mx with
      |none=>exact hp
      |some m=>simp only at hp⊢;rw[aE (x:=m) hm];exact hp
     ·rw[h1];simp only[Gd,ku,br.aK]at hp⊢
      cases mx with
      |none=>exact hp
      |some m=>simp only at hp⊢;rw[aE (x:=m) hm];exact hp
  |
   ar n sz=>
   simp only[ev,hx,hl]at he⊢
   refine cr he λp hp=> ?_
   cases p<;>simp only at hp⊢<;>first|exact hp|skip
   rename_i k _ _
   cases hg:get s.bx k with
   |none=>rw[hg]at hp;exact hp.elim
   |
    some b=>
    rw[hg]at hp
    rcases hb k b hg with h1|⟨rfl,v1,h1⟩
    ·rw[h1];exact hp
    ·rw[h1];simp only[Gd,ku,br.aK]at hp⊢<;>exact hp
 |
  fieldA i off x=>
  simp only[ev]at he⊢;rw[aE h]
  refine cr he λp hp=> ?_
  cases p<;>simp only at hp⊢<;>first|exact hp|skip
  rename_i k _ _
  cases hg:get s.bx k with
  |none=>rw[hg]at hp;exact hp.elim
  |
   some b=>
   rw[hg]at hp
   rcases hb k b hg with h1|⟨rfl,v1,h1⟩
   ·rw[h1];exact hp
   ·rw[h1];simp only[Gd,ku,br.aK]at hp⊢<;>exact hp
 |
  s2a n sz x=>
  simp only[ev]at he⊢;rw[aE h]
  refine cr he λp hp=> ?_
  cases p<;>simp only at hp⊢<;>first|exact hp|skip
  rename_i k _ _ _ _ _ _
  cases hg:get s.bx k with
  |none=>rw[hg]at hp;exact hp.elim
  |
   some b=>
   rw[hg]at hp
   rcases hb k b hg with h1|⟨rfl,v1,h1⟩
   ·rw[h1];exact hp
   ·rw[h1];simp only[Gd,ku,br.aK]at hp⊢<;>exact hp
 |field i off agg w x=>simp only[ev]at he⊢;rw[aE h];exact he
 |
  indexA k x i=>
  have hx:=aE (g:=g) h.left
  have hi:=aE (g:=g) h.right
  cases k with
  |str=>simp only[ev]at he
  |
   sl sz=>
   simp only[ev,hx,hi]at he⊢
   refine cr he λp hp=>cr hp λq hq=>oU hq λj hj=> ?_
   cases p<;>simp only at hj⊢<;>first|exact hj|skip
   rename_i k _ _ _ _ _ _
   cases hg:get s.bx k with
   |none=>rw[hg]at hj;exact hj.elim
   |
    some b=>
    rw[hg]at hj
    rcases hb k b hg with h1|⟨rfl,v1,h1⟩
    ·rw[h1];exact hj
    ·rw[h1];simp only[Gd,ku,br.aK]at hj⊢<;>exact hj
  |
   ar n sz=>
   simp only[ev,hx,hi]at he⊢
   refine cr he λp hp=>cr hp λq hq=>oU hq λj hj=>⟨hj.1,?_⟩
   have hj:=hj.2
   cases p<;>simp only at hj⊢<;>first|exact hj|skip
   rename_i k _ _ _
   cases hg:get s.bx k with
   |none=>rw[hg]at hj;exact hj.elim
   |
    some b=>
    rw[hg]at hj
    rcases hb k b hg with h1|⟨rfl,v1,h1⟩
    ·rw[h1];exact hj
    ·rw[h1];simp only[Gd,ku,br.aK]at hj⊢<;>exact hj
 |index agg n w x i=>simp only[ev]at he⊢;rw[aE h.left,aE h.right];exact he
 |indexS x i=>simp only[ev]at he⊢;rw[aE h.left,aE h.right];exact he
 |extract i x=>simp only[ev]at he⊢;rw[lL h];exact he
 |
  len x=>
  simp only[ev]at he⊢;rw[aE h]
  refine cr he λp hp=> ?_
  cases p<;>simp only at hp⊢<;>first|exact hp|skip
  rename_i k _ _ _ _ _ _
  cases hg:get s.bx k with
  |none=>rw[hg]at hp;exact hp.elim
  |
   some b=>
   rw[hg]at hp
   rcases hb k b hg with h1|⟨rfl,v1,h1⟩
   ·rw[h1];exact hp
   ·rw[h1];simp only[Gd,ku,br.aK]at hp⊢<;>exact hp
 |
  cap x=>
  simp only[ev]at he⊢;rw[aE h]
  refine cr he λp hp=> ?_
  split at hp
  ·rename_i k p off len aK sz n
   cases hg:get s.bx k with
   |none=>rw[hg]at hp;exact hp.elim
   |
    some b=>
    rw[hg]at hp
    rcases hb k b hg with h1|⟨rfl,v1,h1⟩
    ·rw[h1];exact hp
    ·rw[h1];simp only[Gd,ku,br.aK]at hp⊢<;>exact hp
  ·exact hp.elim
 |lenS x=>simp only[ev]at he⊢;rw[aE h];exact he
 |lenC n=>simp only[ev]at he⊢;exact he
 |mm mx xs=>simp only[ev]at he⊢;rw[iu h];exact he
 |_=>simp only[ev]at he
def Qv (P:Program) (r:St) (o:AO) (v:PV):Prop:=∀s':St,Sub r.bx s'.bx->dK r s' o.reads->∀K':St->Prop,K' (s'.put o.dst v)->jd P s' o K'
theorem CW {o:AO} {K:St->Prop} (hq:o.quiet=true) (h:kV P s o K):
  ∃v,K (s.put o.dst v)∧∀s',Sub s.bx s'.bx->dK s s' o.k.reads->∀K':St->Prop,K' (s'.put o.dst v)->kV P s' o K':=by
 obtain⟨dst,guard,mg,k⟩:=o
 cases k with
 |call f args=>simp[AO.quiet]at hq
 |
  callq f args=>
  simp only[kV]at h⊢
  unfold oR at h
  obtain⟨pf,h,h1⟩:=qD _ _ _ _ h
  obtain⟨ps,h,h2⟩:=q7 _ _ _ _ h
  split at h
  case h_2=>exact h.elim
  rename_i fid first cap
  obtain⟨v,v8,xr,hK⟩:=h
  refine⟨v,hK,λs' hb ha K' ll=> ?_⟩
  unfold oR
  rw[aE ha.left]
  refine h1 _ ?_
  rw[iu ha.right]
  exact h2 _ ⟨v,v8,xr,ll⟩
 |
  buildSlice own sz z n parts=>
  simp only[AO.quiet,Bool.not_eq_true']at hq
  subst hq
  simp only[kV,ow,if_true]at h⊢
  simp only[ex]at h
  obtain⟨ps,h,h1⟩:=wD _ _ _ _ h
  split at h
  case h_2=>exact h.elim
  rename_i l hl
  simp only[fJ,if_false]at h
  refine⟨_,h,λs' hb ha K' ll=> ?_⟩
  simp only[ex]
  rw[nv ha]
  refine h1 _ ?_
  simp only[hl,fJ,if_false]
  exact ll
 |
  _=>
  first
  |(simp[AO.quiet,ow]at hq;done)
  |(simp only[kV,ow,fJ,if_false]at h⊢
    obtain⟨v,hK,hv⟩:=rL _ _ _ _ h
    refine⟨v,hK,λs' hb ha K' ll=> ?_⟩
    exact Ge hb ha (hv _ ll))
theorem sS {o:AO} {K:St->Prop} (hq:o.quiet=true) (h:jd P s o K):∃v,K (s.put o.dst v)∧Qv P s o v:=by
 unfold jd at h
 cases hg:o.guard with
 |
  none=>
  rw[hg]at h
  obtain⟨v,hK,hv⟩:=CW hq h
  refine⟨v,hK,λs' hb ha K' ll=> ?_⟩
  unfold jd;rw[hg]
  exact hv s' hb ha.right K' ll
 |
  some gw=>
  obtain⟨sl,want⟩:=gw
  rw[hg]at h
  simp only at h
  have fo:∀ {s':St},dK s s' o.reads->get s'.env sl=get s.env sl:=λha=>ha sl (by simp[AO.reads,hg])
  split at h
  ·rename_i b hb
   split at h
   ·rename_i hm
    obtain⟨v,hK,hv⟩:=rL _ _ _ _ h
    refine⟨_,hK,λs' lj ha K' ll=> ?_⟩
    unfold jd;rw[hg];simp only[fo ha,hb,hm,if_true]
    exact Ge lj ha.right (hv _ ll)
   ·rename_i hm
    by_cases oF:b=want
    ·obtain⟨v,hK,hv⟩:=CW hq (h.1 oF)
     refine⟨v,hK,λs' lj ha K' ll=> ?_⟩
     unfold jd;rw[hg];simp only[fo ha,hb,hm]
     exact⟨λ_=>hv s' lj ha.right K' ll,λhn=>absurd oF hn⟩
    ·refine⟨.un,h.2 oF,λs' lj ha K' ll=> ?_⟩
     unfold jd;rw[hg];simp only[fo ha,hb,hm]
     exact⟨λhn=>absurd hn oF,λ_=>ll⟩
  ·rename_i g b hb
   split at h
   ·rename_i hm
    obtain⟨v,hK,hv⟩:=rL _ _ _ _ h
    refine⟨_,hK,λs' lj ha K' ll=> ?_⟩
    unfold jd;rw[hg];simp only[fo ha,hb,hm,if_true]
    exact Ge lj ha.right (hv _ ll)
   ·rename_i hm
    by_cases oF:g=true∧b=want
    ·obtain⟨v,hK,hv⟩:=CW hq (h.1 oF.1 oF.2)
     refine⟨v,hK,λs' lj ha K' ll=> ?_⟩
     unfold jd;rw[hg];simp only[fo ha,hb,hm]
     exact⟨λ_ _=>hv s' lj ha.right K' ll,λhn=>absurd oF.2 (hn oF.1)⟩
    ·refine⟨.un,h.2 (λh1 h2=>oF ⟨h1,h2⟩),λs' lj ha K' ll=> ?_⟩
     unfold jd;rw[hg];simp only[fo ha,hb,hm]
     exact⟨λh1 h2=>absurd ⟨h1,h2⟩ oF,λ_=>ll⟩
  ·exact h.elim
end Go.Ab
namespace Go.Ab
variable [eo]
variable {P:Program} {nt:Nat} {ds:List Deferred} {s s':St} [gK]
def rN (d:Option Nat) (s t:St):Prop:=∀n,d≠some n->get t.env n=get s.env n
theorem jl {k:Nat} {v:PV} {b:List (Nat×br)}:rN (some k) s {env:=put s.env k v,bx:=b}:=by
 intro n hn
 rw[ch]
 intro e;exact hn (by rw[e])
theorem kH {d:Option Nat} {v:PV} {b:List (Nat×br)}:rN d s ({s with bx:=b}.put d v):=by
 cases d with
 |none=>intro n _;rfl
 |some k=>exact jl
theorem Ec {d:Option Nat} {b:List (Nat×br)}:rN d s {s with bx:=b}:=λ_ _=>rfl
theorem mQ {e k:Nat} {u v:PV} {b:List (Nat×br)} (h:k≠e):({env:=put (put s.env e u) k v,bx:=b}:St)=St.put {env:=put s.env k v,bx:=b} (some e) u:=by
 simp only[St.put];rw[Ab.put_comm (Ne.symm h)]
theorem oV {e:Nat} {d:Option Nat} {u v:PV} {b:List (Nat×br)} (h:d≠some e):St.put {s.put (some e) u with bx:=b} d v=St.put (St.put {s with bx:=b} d v) (some e) u:=by
 cases d with
 |none=>rfl
 |
  some k=>
  have:k≠e:=λh'=>h (by rw[h'])
  simp only[St.put];rw[Ab.put_comm (Ne.symm this)]
theorem xH {e:Nat} {u:PV} {p:PV}:content (s.put (some e) u) p=content s p:=tA rfl p
theorem Hy {e:Nat} {u:PV} {str:Bool} {sz:Nat} {q:PV} {K:List PV->Prop}:src (s.put (some e) u) str sz q K=src s str sz q K:=by
 unfold src;simp only[xH]
theorem vc {e:Nat} {u:PV} {d:Option Nat} {sz bytes:Nat} {p:PV} {ys:List PV} {K:St->Prop} (hd:d≠some e) (h:gP (s.put (some e) u) d sz bytes p ys K):
  gP s d sz bytes p ys λt=>K (t.put (some e) u)∧rN d s t:=by
 cases d with
 |none=>exact h.elim
 |
  some k=>
  have hk:k≠e:=λh'=>hd (by rw[h'])
  unfold gP at h⊢
  simp only at h⊢
  split at h
  ·refine⟨h.1,?_,jl⟩
   rw[←mQ hk];exact h.2
  ·have lj:(s.put (some e) u).bx=s.bx:=rfl
   rw[lj]at h
   split at h
   ·refine⟨h.1,?_,jl⟩
    rw[←mQ hk];exact h.2
   ·exact h.elim
  ·have lj:(s.put (some e) u).bx=s.bx:=rfl
   rw[lj]at h
   split at h
   ·refine⟨h.1,λhle=>⟨?_,jl⟩,λeu=>⟨?_,jl⟩⟩
    ·rw[←mQ hk];exact h.2.1 hle
    ·rw[←mQ hk];exact h.2.2 eu
   ·exact h.elim
  ·rw[xH]at h
   obtain⟨cR,l,h,h2⟩:∃cR l,_∧_:=by
    have:=h
    exact oS _ _ _ this
   exact h2 _ ⟨h.1,by rw[←mQ hk];exact h.2,jl⟩
  ·exact h.elim
theorem Gf {e:Nat} {u:PV} {d:Option Nat} {sz bytes:Nat} {z p:PV} {m:Int} {K:St->Prop} (hd:d≠some e) (h:oO (s.put (some e) u) d sz bytes z p m K):
  oO s d sz bytes z p m λt=>K (t.put (some e) u)∧rN d s t:=by
 cases d with
 |none=>exact h.elim
 |
  some k=>
  have hk:k≠e:=λh'=>hd (by rw[h'])
  unfold oO at h⊢
  simp only at h⊢
  split at h
  ·have lj:(s.put (some e) u).bx=s.bx:=rfl
   rw[lj]at h
   split at h
   ·refine⟨h.1,?_,jl⟩
    rw[←mQ hk];exact h.2
   ·exact h.elim
  ·exact h.elim
theorem tW {e:Nat} {u:PV} {d:Option Nat} {sz:Nat} {p:PV} {ys:List PV} {K:St->Prop} (hd:d≠some e) (h:kE (s.put (some e) u) d sz p ys K):
  kE s d sz p ys λt=>K (t.put (some e) u)∧rN d s t:=by
 have lj:(s.put (some e) u).bx=s.bx:=rfl
 cases p<;>simp only[kE]at h⊢<;>first|exact h|skip
 rename_i k pth off len aK cR c
 rw[lj]at h
 split at h
 ·refine⟨h.1,?_,kH⟩
  rw[←oV hd];exact h.2
 ·rename_i v hv
  split at h
  ·rename_i sz'' n l hg
   split at h
   ·rename_i v' hs
    refine⟨h.1,?_,kH⟩
    rw[←oV hd];exact h.2
   ·exact h.elim
  ·exact h.elim
 ·exact h.elim
theorem Ld {e:Nat} {u:PV} {d:Option Nat} {k:AK} {K:St->Prop} (hd:d≠some e) (hr:e∉k.reads) (h:ex (s.put (some e) u) d k K):
  ex s d k λt=>K (t.put (some e) u)∧rN d s t:=by
 have ag:dK s (s.put (some e) u) k.reads:=dK.put (λj hj=>by cases hj;exact hr)
 have lj:(s.put (some e) u).bx=s.bx:=rfl
 cases k with
 |
  alloc z=>
  cases d with
  |none=>exact h.elim
  |
   some k=>
   have hk:k≠e:=λh'=>hd (by rw[h'])
   simp only[ex]at h⊢
   refine⟨h.1,?_,jl⟩
   rw[←mQ hk];exact h.2
 |
  box x=>
  cases d with
  |none=>exact h.elim
  |
   some k=>
   have hk:k≠e:=λh'=>hd (by rw[h'])
   simp only[ex]at h⊢
   rw[aE ag]at h
   refine cr h λp hp=>⟨hp.1,?_,jl⟩
   rw[←mQ hk];exact hp.2
 |
  buildSlice own sz z n parts=>
  simp only[ex]at h⊢
  rw[nv ag]at h
  obtain⟨ps,h,h1⟩:=wD _ _ _ _ h
  refine h1 _ ?_
  split at h
  ·split at h
   ·cases d with
    |none=>exact h.elim
    |
     some k=>
     have hk:k≠e:=λh'=>hd (by rw[h'])
     rename_i l hl ho
     simp only[hl,ho,if_true]
     refine⟨h.1,?_,jl⟩
     rw[←mQ hk];exact h.2
   ·rename_i l hl ho
    simp only[hl,if_neg ho]
    refine⟨?_,kH (b:=s.bx)⟩
    have:=oV (s:=s) (b:=s.bx) (u:=u) (v:= .sl sz l true) hd
    exact this▸h
  ·exact h.elim
 |
  makeSlice sz bytes z len cap=>
  cases d with
  |
   none=>
   simp only[ex]at h
   obtain⟨p,h,_⟩:=qD _ _ _ _ h
   obtain⟨l,h,_⟩:=pM _ _ h
   obtain⟨q,h,_⟩:=qD _ _ _ _ h
   obtain⟨c,h,_⟩:=pM _ _ h
   exact h.elim
  |
   some k=>
   have hk:k≠e:=λh'=>hd (by rw[h'])
   simp only[ex]at h⊢
   rw[aE ag.left]at h
   refine cr h λp hp=>oU hp λl hl=> ?_
   rw[aE ag.right]at hl
   refine cr hl λq hq=>oU hq λc hc=>⟨hc.1,?_,jl⟩
   rw[←mQ hk];exact hc.2
 |
  store n x y=>
  simp only[ex]at h⊢
  rw[aE ag.left]at h
  refine cr h λp hp=> ?_
  rw[aE ag.right]at hp
  refine cr hp λv hv=> ?_
  cases p<;>simp only at hv⊢
  rename_i k pth aK
  rw[lj]at hv
  split at hv
  ·split at hv
   ·exact⟨hv.1,hv.2,Ec⟩
   ·exact hv.elim
  ·exact hv.elim
 |
  isNil ng x=>
  simp only[ex]at h⊢
  rw[aE ag]at h
  refine cr h λp hp=> ?_
  cases p<;>simp only at hp⊢
  ·intro b hb
   refine⟨?_,kH (b:=s.bx)⟩
   have:=oV (s:=s) (b:=s.bx) (u:=u) (v:= .bl (b !=ng)) hd
   exact this▸hp b hb
  ·rename_i k _ _ _ _ _ _
   rw[lj]at hp
   split at hp
   ·refine⟨hp.1,λb hb=>⟨?_,kH (b:=s.bx)⟩⟩
    have:=oV (s:=s) (b:=s.bx) (u:=u) (v:= .bl (b !=ng)) hd
    exact this▸hp.2 b hb
   ·exact hp.elim
 |
  appendZ sz bytes z x y=>
  simp only[ex]at h⊢
  rw[aE ag.left]at h
  refine cr h λp hp=> ?_
  rw[aE ag.right]at hp
  refine cr hp λq hq=>oU hq λm hm=>Gf hd hm
 |
  append sz bytes str x y=>
  simp only[ex]at h⊢
  rw[aE ag.left]at h
  refine cr h λp hp=> ?_
  rw[aE ag.right]at hp
  refine cr hp λq hq=> ?_
  rw[Hy]at hq
  unfold src at hq⊢
  split at hq
  ·rename_i hs
   simp only[hs,if_true]
   cases q<;>simp only at hq⊢
   exact⟨hq.1,vc hd hq.2⟩
  ·rename_i hs
   simp only[hs]
   obtain⟨z,l,hq,h2⟩:=oS _ _ _ hq
   exact h2 _ ⟨hq.1,vc hd hq.2⟩
 |
  copy sz x y=>
  simp only[ex]at h⊢
  rw[aE ag.left]at h
  refine cr h λp hp=> ?_
  rw[aE ag.right]at hp
  refine cr hp λq hq=> ?_
  have ak6:∀str,src (s.put (some e) u) str sz q (λys=>kE (s.put (some e) u) d sz p ys K)->src s str sz q (λys=>kE s d sz p ys λt=>K (t.put (some e) u)∧rN d s t):=by
   intro str hq
   rw[Hy]at hq
   unfold src at hq⊢
   split at hq
   ·rename_i hs
    simp only[hs,if_true]
    cases q<;>simp only at hq⊢
    exact⟨hq.1,tW hd hq.2⟩
   ·rename_i hs
    simp only[hs]
    obtain⟨z,l,hq,h2⟩:=oS _ _ _ hq
    exact h2 _ ⟨hq.1,tW hd hq.2⟩
  cases q<;>exact ak6 _ hq
 |
  fill sz z x=>
  simp only[ex]at h⊢
  rw[aE ag]at h
  refine cr h λp hp=> ?_
  obtain⟨h1,h2⟩:=hp
  subst h1
  refine⟨rfl,?_⟩
  cases p<;>simp only at h2⊢<;>first|exact h2.elim|skip
  exact tW hd h2
 |
  mkMap ks vs=>
  cases d with
  |none=>exact h.elim
  |
   some k=>
   have hk:k≠e:=λh'=>hd (by rw[h'])
   simp only[ex]at h⊢
   refine⟨h.1,λb=>⟨?_,jl⟩⟩
   rw[←mQ hk];exact h.2 b
 |
  mapGet ks vs z ok m x=>
  simp only[ex]at h⊢
  rw[aE ag.left]at h
  refine cr h λpm hp=> ?_
  rw[aE ag.right]at hp
  refine cr hp λp hq=> ?_
  cases pm<;>simp only at hq⊢<;>first|exact hq.elim|skip
  rw[lj]at hq
  split at hq
  ·rename_i b' ks' vs' l hg
   refine⟨hq.1,?_,kH (b:=s.bx)⟩
   have:=oV (s:=s) (b:=s.bx) (u:=u) (v:=if ok=true then .tup [(Ut p l).getD z,.bl (Ut p l).isSome]else(Ut p l).getD z) hd
   exact this▸hq.2
  ·exact hq.elim
 |
  mapSet ks vs m x y=>
  simp only[ex]at h⊢
  rw[aE ag.left]at h
  refine cr h λpm hp=> ?_
  rw[aE ag.right.left]at hp
  refine cr hp λp hq=> ?_
  rw[aE ag.right.right]at hq
  refine cr hq λv hv=> ?_
  cases pm<;>simp only at hv⊢<;>first|exact hv.elim|skip
  rw[lj]at hv
  split at hv
  ·exact⟨hv.1,hv.2,Ec⟩
  ·exact hv.elim
 |
  convL x=>
  simp only[ex]at h⊢
  rw[aE ag]at h
  refine cr h λp hp=> ?_
  cases p<;>simp only at hp⊢<;>first|exact hp.elim|skip
  rename_i k pth off len aK sz c
  rw[lj]at hp
  split at hp
  ·rename_i cR l hg
   refine⟨hp.1,?_,kH (b:=put s.bx k (.arr 1 (l++[.int .u8 0])))⟩
   have:=oV (s:=s) (b:=put s.bx k (.arr 1 (l++[.int .u8 0]))) (u:=u) (v:= .sl 1 l false) hd
   exact this▸hp.2
  ·exact hp.elim
 |
  convB x=>
  simp only[ex]at h⊢
  rw[aE ag]at h
  refine cr h λp hp=> ?_
  cases p<;>simp only at hp⊢<;>first|exact hp.elim|skip
  rename_i bs
  refine⟨?_,kH (b:=s.bx)⟩
  have:=oV (s:=s) (b:=s.bx) (u:=u) (v:= .sl 1 (bs.map u8) false) hd
  exact this▸hp
 |_=>exact h.elim
theorem Ed {e:Nat} {u:PV} {d:Option Nat} {f:AX} {args:List AX} {K:St->Prop} (hd:d≠some e) (hr:e∉(AK.call f args).reads) (h:mK P (s.put (some e) u) d f args K):
  mK P s d f args λt=>K (t.put (some e) u)∧rN d s t:=by
 have ag:dK s (s.put (some e) u) (AK.call f args).reads:=dK.put (λj hj=>by cases hj;exact hr)
 unfold mK at h⊢
 rw[aE ag.left]at h
 refine cr h λpf hpf=> ?_
 rw[iu ag.right]at hpf
 obtain⟨ps,hp,h2⟩:=q7 _ _ _ _ hpf
 refine h2 _ ?_
 split at hp
 ·obtain⟨ks,os,cm,R,a1,a2,a3,a4,a5,a6,a7⟩:=hp
  refine⟨ks,os,cm,R,a1,a2,a3,a4,a5,a6,λr fp hR=>⟨(a7 r fp hR).1,?_,kH⟩⟩
  rw[←oV hd]
  exact(a7 r fp hR).2
 ·obtain⟨cm,R,a1,a2,a3,a4,a5⟩:=hp
  refine⟨cm,R,a1,a2,a3,a4,λfp hR=>⟨(a5 fp hR).1,?_,kH⟩⟩
  rw[←oV hd]
  exact(a5 fp hR).2
 ·exact hp.elim
end Go.Ab
namespace Go.Ab
variable [eo]
variable {P:Program} {s:St} [gK]
theorem yE {g:Bool} {k:AK} {K K':PV->Prop} (h:∀p,K p->K' p) (hk:ev g s k K):ev g s k K':=by
 obtain⟨p,h1,h2⟩:=rL g s k K hk;exact h2 K' (h p h1)
theorem gM {g:Bool} {x:AX} {K K':PV->Prop} (h:∀p,K p->K' p) (hk:vg g s x K):vg g s x K':=by
 obtain⟨p,h1,h2⟩:=qD g s x K hk;exact h2 K' (h p h1)
theorem Ee {g:Bool} {xs:List AX} {K K':List PV->Prop} (h:∀p,K p->K' p) (hk:uD g s xs K):uD g s xs K':=by
 obtain⟨p,h1,h2⟩:=q7 g s xs K hk;exact h2 K' (h p h1)
theorem Lf {g:Bool} {xs:List (Nat×AX)} {K K':List (Nat×PV)->Prop} (h:∀p,K p->K' p) (hk:y5 g s xs K):y5 g s xs K':=by
 obtain⟨p,h1,h2⟩:=wD g s xs K hk;exact h2 K' (h p h1)
theorem wI {p:PV} {K K':Int->Prop} (h:∀p,K p->K' p) (hk:ot p K):ot p K':=by
 obtain⟨p,h1,h2⟩:=pM p K hk;exact h2 K' (h p h1)
theorem ve {p:PV} {K K':Nat->List PV->Prop} (h:∀a b,K a b->K' a b) (hk:content s p K):content s p K':=by
 obtain⟨a,b,h1,h2⟩:=oS s p K hk;exact h2 K' (h a b h1)
theorem zK {str:Bool} {sz:Nat} {q:PV} {K K':List PV->Prop} (h:∀p,K p->K' p) (hk:src s str sz q K):src s str sz q K':=by
 unfold src at hk⊢
 split at hk
 ·rename_i hs;rw[if_pos hs]
  split at hk
  ·exact⟨hk.1,h _ hk.2⟩
  ·exact hk.elim
 ·rename_i hs;rw[if_neg hs]
  exact ve (λa b hab=>⟨hab.1,h _ hab.2⟩) hk
theorem Bk {d:Option Nat} {sz b:Nat} {p:PV} {ys:List PV} {K K':St->Prop} (h:∀p,K p->K' p) (hk:gP s d sz b p ys K):gP s d sz b p ys K':=by
 unfold gP at hk⊢
 split at hk
 ·exact hk.elim
 ·split at hk
  ·exact⟨hk.1,h _ hk.2⟩
  ·split at hk
   ·exact⟨hk.1,h _ hk.2⟩
   ·exact hk.elim
  ·split at hk
   ·exact⟨hk.1,λhle=>h _ (hk.2.1 hle),λeu=>h _ (hk.2.2 eu)⟩
   ·exact hk.elim
  ·exact ve (λa b hab=>⟨hab.1,h _ hab.2⟩) hk
  ·exact hk.elim
theorem Ef {d:Option Nat} {sz b:Nat} {z p:PV} {m:Int} {K K':St->Prop} (h:∀p,K p->K' p) (hk:oO s d sz b z p m K):oO s d sz b z p m K':=by
 unfold oO at hk⊢
 split at hk
 ·exact hk.elim
 ·split at hk
  ·split at hk
   ·exact⟨hk.1,h _ hk.2⟩
   ·exact hk.elim
  ·exact hk.elim
theorem sj {d:Option Nat} {sz:Nat} {p:PV} {ys:List PV} {K K':St->Prop} (h:∀p,K p->K' p) (hk:kE s d sz p ys K):kE s d sz p ys K':=by
 unfold kE at hk⊢
 split at hk
 ·split at hk
  ·exact⟨hk.1,h _ hk.2⟩
  ·split at hk
   ·split at hk
    ·exact⟨hk.1,h _ hk.2⟩
    ·exact hk.elim
   ·exact hk.elim
  ·exact hk.elim
 ·exact hk.elim
theorem OQ {d:Option Nat} {k:AK} {K K':St->Prop} (h:∀p,K p->K' p) (hk:ex s d k K):ex s d k K':=by
 cases k with
 |alloc z=>simp only[ex]at hk⊢;split at hk;exact⟨hk.1,h _ hk.2⟩;exact hk.elim
 |box x=>simp only[ex]at hk⊢;split at hk;exact gM (λp hp=>⟨hp.1,h _ hp.2⟩) hk;exact hk.elim
 |
  buildSlice own sz z n parts=>
  simp only[ex]at hk⊢
  refine Lf (λps hp=> ?_) hk
  split at hp
  ·split at hp
   ·rename_i ho;rw[if_pos ho]
    split at hp
    ·exact⟨hp.1,h _ hp.2⟩
    ·exact hp.elim
   ·rename_i ho;rw[if_neg ho];exact h _ hp
  ·exact hp.elim
 |
  makeSlice sz b z l c=>
  simp only[ex]at hk⊢
  refine gM (λp hp=>wI (λn hn=>gM (λq hq=>wI (λm hm=> ?_) hq) hn) hp) hk
  split at hm
  ·exact⟨hm.1,h _ hm.2⟩
  ·exact hm.elim
 |
  store n x y=>
  simp only[ex]at hk⊢
  refine gM (λp hp=>gM (λv hv=> ?_) hp) hk
  split at hv
  ·split at hv
   ·split at hv
    ·exact⟨hv.1,h _ hv.2⟩
    ·exact hv.elim
   ·exact hv.elim
  ·exact hv.elim
 |
  isNil ng x=>
  simp only[ex]at hk⊢
  refine gM (λp hp=> ?_) hk
  split at hp
  ·exact λb hb=>h _ (hp b hb)
  ·split at hp
   ·exact⟨hp.1,λb hb=>h _ (hp.2 b hb)⟩
   ·exact hp.elim
  ·exact hp.elim
 |
  append sz b str x y=>
  simp only[ex]at hk⊢
  exact gM (λp hp=>gM (λq hq=>zK (λys hy=>Bk h hy) hq) hp) hk
 |
  copy sz x y=>
  simp only[ex]at hk⊢
  refine gM (λp hp=>gM (λq hq=> ?_) hp) hk
  split at hq
  ·exact zK (λys hy=>sj h hy) hq
  ·exact zK (λys hy=>sj h hy) hq
 |
  appendZ sz b z x y=>
  simp only[ex]at hk⊢
  exact gM (λp hp=>gM (λq hq=>wI (λm hm=>Ef h hm) hq) hp) hk
 |
  fill sz z x=>
  simp only[ex]at hk⊢
  refine gM (λp hp=> ?_) hk
  obtain⟨h1,h2⟩:=hp
  refine⟨h1,?_⟩
  cases p<;>simp only at h2⊢<;>first|exact h2.elim|exact sj h h2
 |mkMap ks vs=>simp only[ex]at hk⊢;split at hk;exact⟨hk.1,λb=>h _ (hk.2 b)⟩;exact hk.elim
 |
  mapGet ks vs z ok m x=>
  simp only[ex]at hk⊢
  refine gM (λpm hp=>gM (λp hq=> ?_) hp) hk
  cases pm<;>simp only at hq⊢<;>first|exact hq.elim|skip
  split at hq
  ·exact⟨hq.1,h _ hq.2⟩
  ·exact hq.elim
 |
  mapSet ks vs m x y=>
  simp only[ex]at hk⊢
  refine gM (λpm hp=>gM (λp hq=>gM (λv hv=> ?_) hq) hp) hk
  cases pm<;>simp only at hv⊢<;>first|exact hv.elim|skip
  split at hv
  ·exact⟨hv.1,h _ hv.2⟩
  ·exact hv.elim
 |
  convL x=>
  simp only[ex]at hk⊢
  refine gM (λp hp=> ?_) hk
  cases p<;>simp only at hp⊢<;>first|exact hp.elim|skip
  split at hp
  ·exact⟨hp.1,h _ hp.2⟩
  ·exact hp.elim
 |
  convB x=>
  simp only[ex]at hk⊢
  refine gM (λp hp=> ?_) hk
  cases p<;>simp only at hp⊢<;>first|exact hp.elim|exact h _ hp
 |_=>simp only[ex]at hk
theorem Gg {d:Option Nat} {f:FuncId} {l:List PV} {ks os:List Nat} {K K':St->Prop} (h:∀p,K p->K' p) (hk:uQ P s d f l ks os K):uQ P s d f l ks os K':=by
 obtain⟨b,R,h1,h2,h3,h4,h5,h6,h7⟩:=hk
 exact⟨b,R,h1,h2,h3,h4,h5,h6,λr fp hr=>⟨(h7 r fp hr).1,h _ (h7 r fp hr).2⟩⟩
theorem Gh {d:Option Nat} {f:AX} {l:List AX} {K K':St->Prop} (h:∀p,K p->K' p) (hk:mK P s d f l K):mK P s d f l K':=by
 unfold mK at hk⊢
 refine gM (λpf hf=>Ee (λps hp=> ?_) hf) hk
 split at hp
 ·obtain⟨ks,os,hc⟩:=hp;exact⟨ks,os,Gg h hc⟩
 ·obtain⟨cm,R,a1,a2,a3,a4,a5⟩:=hp
  exact⟨cm,R,a1,a2,a3,a4,λfp hR=>⟨(a5 fp hR).1,h _ (a5 fp hR).2⟩⟩
 ·exact hp.elim
theorem Gi {d:Option Nat} {f:AX} {l:List AX} {K K':St->Prop} (h:∀p,K p->K' p) (hk:oR P s d f l K):oR P s d f l K':=by
 unfold oR at hk⊢
 refine gM (λpf hf=>Ee (λps hp=> ?_) hf) hk
 split at hp
 ·obtain⟨v,h1,h2,h3⟩:=hp;exact⟨v,h1,h2,h _ h3⟩
 ·exact hp.elim
theorem zL {o:AO} {K K':St->Prop} (h:∀p,K p->K' p) (hk:kV P s o K):kV P s o K':=by
 unfold kV at hk⊢
 split at hk
 ·exact Gh h hk
 ·exact Gi h hk
 ·split at hk
  ·rename_i he;rw[if_pos he];exact OQ h hk
  ·rename_i he;rw[if_neg he];exact yE (λp hp=>h _ hp) hk
theorem eJ {o:AO} {K K':St->Prop} (h:∀p,K p->K' p) (hk:jd P s o K):jd P s o K':=by
 unfold jd at hk⊢
 split at hk
 ·exact zL h hk
 ·split at hk
  ·split at hk
   ·rename_i hm;rw[if_pos hm];exact yE (λp hp=>h _ hp) hk
   ·rename_i hm;rw[if_neg hm];exact⟨λe=>zL h (hk.1 e),λe=>h _ (hk.2 e)⟩
  ·split at hk
   ·rename_i hm;rw[if_pos hm];exact yE (λp hp=>h _ hp) hk
   ·rename_i hm;rw[if_neg hm];exact⟨λe e'=>zL h (hk.1 e e'),λe=>h _ (hk.2 e)⟩
  ·exact hk.elim
end Go.Ab
namespace Go.Ab
variable [eo]
variable {P:Program} {nt:Nat} {ds:List Deferred} {s s':St} [gK]
def AO.je:AO->Option Nat
 |⟨some k,none,_,.alloc _⟩=>some k
 |⟨some k,none,_,.makeSlice _ b _ (.c (.int _ l)) (.c (.int _ c))⟩=>if 0≤l∧l≤c∧c*b≤281474976710656∧c≤9223372036854775807 then some k else none
 |_=>none
def AO.alq (y:AO):Bool:=y.guard.isNone&&((match y.k with| .call .. =>true|_=>false)||y.je.isSome)
def r9 (k:Nat) (z:PV×br) (s:St):St:= {env:=put s.env k z.1,bx:=put s.bx k z.2}
theorem Lg {k:Nat} {z:PV×br} {l:List Nat} (h:k∉l):dK s (r9 k z s) l:=by
 intro n hn
 simp only[r9]
 rw[ch]
 rintro rfl;exact h hn
theorem sT {k:Nat} {b:br}:∀ {ks:List Nat} {bx:List (Nat×br)} {l:List br},get bx k=none->getAll bx ks=some l->getAll (put bx k b) ks=some l
 |[],bx,l,_,h=>h
 |
  x::ks,bx,l,hn,h=>by
  simp only[getAll]at h⊢
  split at h
  ·rename_i u v hu hv
   have dF:k≠x:=by rintro rfl;rw[hn]at hu;simp at hu
   rw[ch _ _ _ _ dF,hu,sT hn hv]
   exact h
  ·simp at h
theorem wJ {k:Nat} {b:br}:∀ {ks:List Nat} {bx:List (Nat×br)} {l:List br},k∉ks->bB (put bx k b) ks l=put (bB bx ks l) k b
 |[],bx,l,_=>by cases l<;>rfl
 |x::ks,bx,[],_=>rfl
 |
  x::ks,bx,y::l,h=>by
  simp only[bB]
  rw[Ab.put_comm (n:=k) (m:=x) (by rintro rfl;simp at h),wJ (λh'=>h (by simp[h']))]
theorem rf {k:Nat}:∀ {ks:List Nat} {bx:List (Nat×br)} {l:List br},get bx k=none->getAll bx ks=some l->k∉ks
 |[],_,_,_,_=>by simp
 |
  x::ks,bx,l,hn,h=>by
  simp only[getAll]at h
  split at h
  ·rename_i u v hu hv
   intro hm
   rcases List.mem_cons.1 hm with rfl|hm
   ·rw[hn]at hu;simp at hu
   ·exact rf hn hv hm
  ·simp at h
theorem Sd {k:Nat} {z:PV×br} {d:Option Nat} {v:PV} {b:List (Nat×br)} (hd:d≠some k):St.put {env:=put s.env k z.1,bx:=put b k z.2} d v=r9 k z (St.put {s with bx:=b} d v):=by
 cases d with
 |none=>rfl
 |
  some j=>
  have:j≠k:=λh=>hd (by rw[h])
  simp only[St.put,r9]
  rw[Ab.put_comm (Ne.symm this)]
theorem Lh {d:Option Nat} {f:FuncId} {args:List PV} {ks os:List Nat} {k:Nat} {z:PV×br} {K:St->Prop} (hd:d≠some k) (hn:get s.bx k=none) (h:uQ P s d f args ks os λt=>get t.bx k=none∧K (r9 k z t)):∃os',uQ P (r9 k z s) d f args ks os' K:=by
 obtain⟨cm,R,a1,a2,a3,a4,a5,a6,a7⟩:=h
 have hk:=rf hn a1
 by_cases hR:∃r fp,R r fp
 ·obtain⟨r0,fp0,XG⟩:=hR
  have Uf:k∉os:=by
   intro hm
   obtain⟨⟨b1,_,_⟩,b2,_⟩:=a7 r0 fp0 XG
   have e:({s with bx:=bB s.bx (ks++os) (fp0.map (aM (fu (ks++os))))}.put d (az (fu (ks++os)) r0)).bx=bB s.bx (ks++os) (fp0.map (aM (fu (ks++os)))):=by cases d<;>rfl
   rw[e,tP k a2 (by simpa using b1)]at b2
   cases hi:idx (ks++os) k with
   |none=>exact D2 hi (by simp[hm])
   |
    some i=>
    rw[hi]at b2
    have:=(List.getElem?_eq_some_iff.1 (nG hi)).1
    simp at b2
    omega
  refine⟨os,cm,R,sT hn a1,a2,λo ho=> ?_,a4,a5,a6,λr fp hr=>⟨(a7 r fp hr).1,?_⟩⟩
  ·simp only[r9]
   rw[ch]
   ·exact a3 o ho
   ·rintro rfl;exact Uf ho
  ·have:=(a7 r fp hr).2.2
   simp only[r9]at this⊢
   rw[wJ (by simp[hk,Uf]),Sd hd]
   exact this
 ·exact⟨[],cm,R,sT hn a1,by simpa using(List.nodup_append.1 a2).1,by simp,a4,a5,a6,λr fp hr=>absurd ⟨r,fp,hr⟩ hR⟩
theorem Li {d:Option Nat} {f:AX} {args:List AX} {k:Nat} {z:PV×br} {K:St->Prop} (hd:d≠some k) (hn:get s.bx k=none) (hr:k∉(AK.call f args).reads) (h:mK P s d f args λt=>get t.bx k=none∧K (r9 k z t)):mK P (r9 k z s) d f args K:=by
 have ag:dK s (r9 k z s) (AK.call f args).reads:=Lg hr
 unfold mK at h⊢
 rw[aE ag.left]
 refine cr h λpf hpf=> ?_
 rw[iu ag.right]
 obtain⟨ps,hp,h2⟩:=q7 _ _ _ _ hpf
 refine h2 _ ?_
 split at hp
 ·obtain⟨ks,os,hc⟩:=hp
  obtain⟨os',G7⟩:=Lh hd hn hc
  exact⟨ks,os',G7⟩
 ·obtain⟨cm,R,a1,a2,a3,a4,a5⟩:=hp
  have hk:=rf hn a1
  refine⟨cm,R,sT hn a1,a2,a3,a4,λfp hR=>⟨(a5 fp hR).1,?_⟩⟩
  have:=(a5 fp hR).2.2
  simp only[r9]at this⊢
  rw[wJ hk,Sd hd]
  exact this
 ·exact hp.elim
theorem zO {x:AO} {k:Nat} (hx:x.je=some k):∃z,x.dst=some k∧∀(s:St) (K:St->Prop),jd P s x K↔(get s.bx k=none∧K (r9 k z s)):=by
 unfold AO.je at hx
 split at hx
 ·rename_i k' mg z
  simp only[sJ]at hx;subst hx
  exact⟨(.pt k' [] 0,.box z),rfl,λs K=>Iff.rfl⟩
 ·rename_i k' mg sz b z kl l kc c
  split at hx
  ·rename_i hc
   simp only[sJ]at hx;subst hx
   refine⟨(.rs k' [] 0 l.toNat l.toNat sz .tip,.arr sz (List.replicate l.toNat z)),rfl,λs K=> ?_⟩
   have e:jd P s ⟨some k',none,mg,.makeSlice sz b z (.c (.int kl l)) (.c (.int kc c))⟩ K↔((get s.bx k'=none∧0≤l∧l≤c∧c*b≤281474976710656∧c≤9223372036854775807)∧K (r9 k' (.rs k' [] 0 l.toNat l.toNat sz .tip,.arr sz (List.replicate l.toNat z)) s)):=Iff.rfl
   rw[e]
   exact⟨λh=>⟨h.1.1,h.2⟩,λh=>⟨⟨h.1,hc⟩,h.2⟩⟩
  ·simp at hx
 ·simp at hx
theorem Lj {y:AO} {k:Nat} {z:PV×br} {K:St->Prop} (hy:y.alq=true) (hd:y.dst≠some k) (hr:k∉y.reads) (hn:get s.bx k=none) (h:jd P s y λt=>get t.bx k=none∧K (r9 k z t)):jd P (r9 k z s) y K:=by
 unfold AO.alq at hy
 simp only[aJ]at hy
 cases pH:y.je with
 |
  some j=>
  obtain⟨z',ND,hw⟩:=zO (P:=P) pH
  have vX:j≠k:=λh=>hd (by rw[ND,h])
  have h:get s.bx j=none∧get (r9 j z' s).bx k=none∧K (r9 k z (r9 j z' s)):=(hw _ _).1 h
  refine(hw _ _).2 ⟨by simp only[r9];rw[ch _ _ _ _ (Ne.symm vX)];exact h.1,?_⟩
  have e:r9 j z' (r9 k z s)=r9 k z (r9 j z' s):=by
   simp only[r9];rw[Ab.put_comm (Ne.symm vX),Ab.put_comm (Ne.symm vX)]
  rw[e];exact h.2.2
 |
  none=>
  obtain⟨dst,guard,mg,ak⟩:=y
  rw[pH]at hy
  cases guard with
  |some g=>simp at hy
  |
   none=>
   cases ak with
   |call f args=>exact Li hd hn (λh=>hr (by simp[AO.reads,h])) h
   |_=>simp at hy
end Go.Ab
namespace Go.Ab
variable [eo]
variable {P:Program} {nt:Nat} {ds:List Deferred} {s s':St} [gK]
def Hz:List Nat->Bool
 |a::b::_=>a==b
 |_=>false
def yg (W:List Nat) (k:Nat) (b:br):br:=match b with| .box v=>if Hz W=true∧W.contains k=true then Gd else .box v|b=>b
def St.less (s:St) (W:List Nat):St:= {s with bx:=(s.bx.filter λp=>Hz W|| !W.contains p.1).map λp=>(p.1,yg W p.1 p.2)}
def Fr (W:List Nat) (s t:St):Prop:=∀k b,(Hz W|| !W.contains k)=true->get s.bx k=some b->∃b',get t.bx k=some b'∧yg W k b'=yg W k b
theorem get_filter {c:Nat->Bool} (k:Nat):∀l:List (Nat×br),get (l.filter λp=>c p.1) k=if c k=true then get l k else none
 |[]=>by simp[get]
 |
  (n,v)::r=>by
  have ih:=get_filter (c:=c) k r
  by_cases hn:c n=true
  ·rw[List.filter_cons_of_pos (by simpa using hn)]
   simp only[get,ih]
   by_cases hk:n=k
   ·subst hk;rw[if_pos rfl,if_pos hn,if_pos rfl]
   ·rw[if_neg hk,if_neg hk]
  ·rw[List.filter_cons_of_neg (by simpa using hn),ih]
   by_cases hk:n=k
   ·subst hk;rw[if_neg hn,if_neg hn]
   ·simp only[get,if_neg hk]
theorem HA {W:List Nat} (k:Nat):∀l:List (Nat×br),get (l.map λp=>(p.1,yg W p.1 p.2)) k=(get l k).map (yg W k)
 |[]=>rfl
 |
  (n,v)::r=>by
  simp only[List.map_cons,get]
  by_cases hk:n=k
  ·subst hk;simp
  ·rw[if_neg hk,if_neg hk];exact HA k r
theorem zQ {W:List Nat} (k:Nat):get (s.less W).bx k=if(Hz W|| !W.contains k)=true then(get s.bx k).map (yg W k)else none:=by
 simp only[St.less,HA]
 rw[get_filter (c:=λn=>Hz W|| !W.contains n)]
 split<;>rfl
theorem Lk (W:List Nat):Sub (s.less W).bx s.bx:=by
 intro k b h
 rw[zQ]at h
 split at h
 ·cases hg:get s.bx k with
  |none=>rw[hg]at h;simp at h
  |
   some c=>
   rw[hg]at h
   simp only[Option.map_some,sJ]at h
   cases c with
   |
    box v=>
    simp only[yg]at h
    split at h
    ·exact .inr ⟨h.symm,v,rfl⟩
    ·exact .inl (by rw[h])
   |arr sz l=>exact .inl (by rw[←h];rfl)
   |map b ks vs l=>exact .inl (by rw[←h];rfl)
 ·simp at h
theorem HB {W:List Nat} (h:Fr W s s'):Sub (s.less W).bx (s'.less W).bx:=by
 intro k b hk
 rw[zQ]at hk
 split at hk
 ·rename_i hw
  cases hg:get s.bx k with
  |none=>rw[hg]at hk;simp at hk
  |
   some c=>
   obtain⟨b',h1,h2⟩:=h k c hw hg
   rw[hg]at hk
   left
   rw[zQ,if_pos hw,h1,Option.map_some,h2]
   exact hk
 ·simp at hk
theorem Ll {W:List Nat} {d:Option Nat} {v:PV}:(s.put d v).less W=(s.less W).put d v:=by cases d<;>rfl
theorem wK {W:List Nat} {d:Option Nat} {v:PV}:({((s.less W).put d v)with bx:=s.bx}:St)=s.put d v:=by cases d<;>rfl
def kI (P:Program) (W:List Nat) (f:Bool) (s:St) (o:AO) (K:St->Prop):Prop:=
 if o.quiet=true then(if f=true then jd P (s.less W) o (λt=>K {t with bx:=s.bx})else jd P s o K)else jd P s o (λt=>(f=true->Fr W s t)∧K t)
def gr (aos:List AO) (s:St) (l:List Nat):Bool:=l.all λi=>match aos[i]?with|some o=>(match o.je with|some k=>(get s.bx k).isNone|none=>true)|none=>true
def jW (P:Program) (aos:List AO) (fl:Nat->Bool) (W:List Nat) (s:St):List Nat->(St->Prop)->Prop
 |[],K=>K s
 |
  i::r,K=>match aos[i]?with
  |some o=>gr aos s (i::r)=true∧kI P W (fl i) s o λt=>jW P aos fl W t r K
  |none=>False
theorem BS {aos:List AO} {fl:Nat->Bool} {W:List Nat} {K:St->Prop}:∀ {l:List Nat} {s:St},jW P aos fl W s l K->gr aos s l=true
 |[],s,_=>rfl
 |
  i::r,s,h=>by
  simp only[jW]at h
  split at h
  ·exact h.1
  ·exact h.elim
theorem qG {aos:List AO} {s s':St} (h:s'.bx=s.bx) (l:List Nat):gr aos s' l=gr aos s l:=by unfold gr;rw[h]
theorem gV {aos:List AO} {s:St} {i:Nat} {l:List Nat}:gr aos s (i::l)=(gr aos s [i]&&gr aos s l):=by simp[gr]
theorem wL {aos:List AO} {s:St} {l m:List Nat}:gr aos s (l++m)=(gr aos s l&&gr aos s m):=by simp[gr]
theorem HC {aos:List AO} {s:St} {i j:Nat} {l m:List Nat} (h:gr aos s (j::(l++i::m))=true):gr aos s [j]=true∧gr aos s l=true∧gr aos s [i]=true∧gr aos s m=true:=by
 rw[gV (l:=l++i::m),wL,gV (l:=m)]at h
 simpa only[aJ]using h
theorem HD {aos:List AO} {s:St} {j:Nat} {l m:List Nat} (h1:gr aos s [j]=true) (h2:gr aos s l=true) (h3:gr aos s m=true):gr aos s (j::(l++m))=true:=by
 rw[gV (l:=l++m),wL,h1,h2,h3];rfl
theorem BT {aos:List AO} {s:St} {i:Nat} {x:AO} {k:Nat} (hi:aos[i]? =some x) (hx:x.je=some k):gr aos s [i]=true↔get s.bx k=none:=by simp[gr,hi,hx]
theorem sU {aos:List AO} {s:St} {i:Nat} {x:AO} (hi:aos[i]? =some x) (hx:x.je=none):gr aos s [i]=true:=by simp[gr,hi,hx]
theorem kJ {x:AO} (hx:x.quiet=true):x.je=none:=by
 cases h:x.je with
 |none=>rfl
 |
  some k=>
  exfalso
  unfold AO.je at h
  split at h
  ·simp[AO.quiet,ow]at hx
  ·simp[AO.quiet,ow]at hx
  ·simp at h
def tf (W:List Nat) (f:Bool) (s:St):St:=if f=true then s.less W else s
theorem pP {W:List Nat} {f:Bool} {o:AO} {K:St->Prop} (hq:o.quiet=true) (h:kI P W f s o K):∃v,K (s.put o.dst v)∧Qv P (tf W f s) o v:=by
 unfold kI at h
 rw[if_pos hq]at h
 cases f with
 |
  true=>
  simp only[if_true]at h
  obtain⟨v,h1,h2⟩:=sS hq h
  rw[wK]at h1
  exact⟨v,h1,h2⟩
 |
  false=>
  simp only[fJ,if_false]at h
  obtain⟨v,h1,h2⟩:=sS hq h
  exact⟨v,h1,h2⟩
theorem vf {W:List Nat} {f:Bool} {o:AO} {v:PV} {r:St} {K:St->Prop} (hq:o.quiet=true) (h:Qv P r o v) (hs:Sub r.bx (tf W f s).bx) (ha:dK r s o.reads) (hk:K (s.put o.dst v)):kI P W f s o K:=by
 unfold kI
 rw[if_pos hq]
 cases f with
 |
  true=>
  simp only[if_true]
  refine h _ hs ha _ ?_
  show K {((s.less W).put o.dst v)with bx:=s.bx}
  rw[wK];exact hk
 |
  false=>
  simp only[fJ,if_false]
  exact h _ hs ha _ hk
theorem Eg {W:List Nat} {f:Bool}:Sub (tf W f s).bx s.bx:=by
 unfold tf;split
 ·exact Lk W
 ·exact Sub.refl _
theorem Eh {W:List Nat} {f:Bool} {d:Option Nat} {v:PV}:(tf W f (s.put d v)).bx=(tf W f s).bx:=by
 unfold tf;split
 ·rw[Ll,lC]
 ·rw[lC]
theorem zT {W:List Nat} {f:Bool}:(tf W f s).env=s.env:=by unfold tf;split<;>rfl
theorem sV {W:List Nat} {f:Bool} {l:List Nat} (h:dK s s' l):dK (tf W f s) s' l:=by
 intro n hn;rw[zT];exact h n hn
def AK.jP:AK->Bool
 | .mv _| .extract _ _| .mm _ _| .un _ _| .convI _ _| .field _ _ _ _ _| .build _ _=>true
 | .bin _ e _ _=>match e with| .ptr=>false|_=>true
 |_=>false
def AO.jP (o:AO):Bool:=o.guard.isNone&&o.k.jP
theorem Lm {b:List (Nat×br)} (x:AX):vx {s with bx:=b} x=vx s x:=by cases x<;>rfl
theorem CX {b:List (Nat×br)} {g:Bool} (x:AX):vg g {s with bx:=b} x=vg g s x:=by
 funext K;unfold vg;rw[Lm]
theorem HE {b:List (Nat×br)} {g:Bool}:∀(l:List AX),uD g {s with bx:=b} l=uD g s l
 |[]=>rfl
 |x::l=>by funext K;simp only[uD,CX,HE l]
theorem HF {b:List (Nat×br)} {g:Bool}:∀(l:List (Nat×AX)),y5 g {s with bx:=b} l=y5 g s l
 |[]=>rfl
 |(n,x)::l=>by funext K;simp only[y5,CX,HF l]
theorem Ln {b:List (Nat×br)} {o:BinOp} {e:ET} (he:(match e with| .ptr=>false|_=>true)=true) (p q:PV):qW {s with bx:=b} o e p q=qW s o e p q:=by
 funext K;cases e<;>first|rfl|simp at he
theorem Uy {b:List (Nat×br)} {g:Bool} {k:AK} (hk:k.jP=true) (K:PV->Prop):ev g {s with bx:=b} k K=ev g s k K:=by
 cases k<;>first|(simp[AK.jP]at hk;done)|skip
 case bin o e x y=>
  simp only[ev,CX]
  simp only[AK.jP]at hk
  have:=λp q=>Ln (s:=s) (b:=b) (o:=o) hk p q
  simp only[this]
 all_goals simp only[ev,CX,HE,HF,Lm]
theorem Ei {k:AK} (h:k.jP=true):ow k=false:=by
 cases k<;>first|rfl|simp[AK.jP]at h
theorem xI {r:St} {o:AO} {v:PV} (hf:o.jP=true) (hv:Qv P r o v) (s':St) (ha:dK r s' o.reads) (K':St->Prop) (hk:K' (s'.put o.dst v)):jd P s' o K':=by
 have h:=hv {s' with bx:=r.bx} (Sub.refl _) ha (λt=>K' {t with bx:=s'.bx}) (by
  have e:({(({s' with bx:=r.bx}:St).put o.dst v)with bx:=s'.bx}:St)=s'.put o.dst v:=by cases o.dst<;>rfl
  show K' _
  rw[e];exact hk)
 obtain⟨dst,guard,mg,k⟩:=o
 have e:∀p,({(({s' with bx:=r.bx}:St).put dst p)with bx:=s'.bx}:St)=s'.put dst p:=by intro p;cases dst<;>rfl
 simp only[AO.jP,aJ,Option.isNone_iff_eq_none]at hf
 obtain⟨hg,IG⟩:=hf
 subst hg
 have hx:=Ei IG
 cases k<;>first|(simp[AK.jP]at IG;done)|skip
 all_goals
  simp only[jd,kV,hx,fJ,if_false,Uy IG,e]at h⊢
  exact h
theorem BU {W:List Nat} {f:Bool} {o:AO} {v:PV} {r:St} {K:St->Prop} (hq:o.quiet=true) (hf:o.jP=true) (h:Qv P r o v) (ha:dK r s o.reads) (hk:K (s.put o.dst v)):kI P W f s o K:=by
 unfold kI
 rw[if_pos hq]
 cases f with
 |
  true=>
  simp only[if_true]
  refine xI hf h (s.less W) (λn hn=>ha n hn) _ ?_
  show K {((s.less W).put o.dst v)with bx:=s.bx}
  rw[wK];exact hk
 |
  false=>
  simp only[fJ,if_false]
  exact xI hf h _ ha _ hk
def kK (aos:List AO) (fl:Nat->Bool) (j i:Nat):Bool:=match aos[j]?,aos[i]?with
 |some y,some x=>y.quiet&&y.dst.isSome&&y.apart x&&(x.quiet||y.jP||fl j&&fl i)|| !y.quiet&&y.alq&&(match x.je with|some k=>y.dst !=some k&& !y.reads.contains k|none=>false)
 |_,_=>false
def rh (aos:List AO) (j i:Nat):Bool:=match aos[j]?,aos[i]?with
 |some y,some x=>(match y.je,x.je with|some a,some b=>a !=b|_,_=>true)
 |_,_=>true
theorem Gj {aos:List AO} {fl:Nat->Bool} {W:List Nat} {K:St->Prop} {i:Nat} {x:AO} (hi:aos[i]? =some x) (hx:x.quiet=true) (l2:List Nat):∀(l1:List Nat) (s:St),
  (∀j∈l1,kK aos fl j i=true)->jW P aos fl W s (l1++i::l2) K->∃v,jW P aos fl W (s.put x.dst v) (l1++l2) K∧Qv P s x v
 |
  [],s,_,h=>by
  simp only[List.nil_append,jW,hi]at h
  obtain⟨v,h1,h2⟩:=pP hx h.2
  exact⟨v,h1,λs' hb ha K' hk=>h2 s' (Eg.trans hb) (sV ha) K' hk⟩
 |
  j::l1,s,eO,h=>by
  have hp:=eO j (by simp)
  unfold kK at hp
  cases hy:aos[j]?with
  |none=>rw[hy]at hp;simp at hp
  |
   some y=>
   rw[hy,hi]at hp
   simp only[kJ hx,Bool.and_false,Bool.or_false,aJ]at hp
   obtain⟨⟨⟨yv,_⟩,gn⟩,_⟩:=hp
   have h1:∀d,y.dst=some d->d∉x.reads:=λd hd=>by simp[AO.apart,hd]at gn;exact gn.1.1
   have h2:∀d,y.dst=some d->x.dst≠some d:=λd hd=>by simp[AO.apart,hd]at gn;exact gn.1.2
   have h3:∀d,x.dst=some d->d∉y.reads:=λd hd=>by simp[AO.apart,hd]at gn;exact gn.2
   simp only[List.cons_append,jW,hy]at h⊢
   obtain⟨sb,h⟩:=h
   obtain⟨v,h,hv⟩:=pP yv h
   obtain⟨u,h,hu⟩:=Gj hi hx l2 l1 _ (λk hk=>eO k (by simp[hk])) h
   refine⟨u,⟨?_,vf yv hv (by rw[Eh];exact Sub.refl _) (sV (dK.put h3)) ?_⟩,?_⟩
   ·have sb:=HC sb
    rw[qG (lC _ _)]
    exact HD sb.1 sb.2.1 sb.2.2.2
   ·rw[St.put_comm (λk hk he=>h2 k he hk)];exact h
   ·intro s' hb ha K' hk
    refine hu s' (by rw[lC];exact hb) (λn hn=> ?_) K' hk
    rw[ha n hn]
    exact((dK.put h1) n hn).symm
theorem wM {o:AO} {e:Nat} {u:PV} {K:St->Prop} (hq:o.quiet=false) (hd:o.dst≠some e) (hr:e∉o.k.reads) (h:kV P (s.put (some e) u) o K):kV P s o λt=>K (t.put (some e) u)∧rN o.dst s t:=by
 obtain⟨dst,guard,mg,k⟩:=o
 cases k with
 |call f args=>exact Ed hd hr h
 |callq f args=>simp[AO.quiet]at hq
 |
  _=>
  first
  |(simp[AO.quiet,ow]at hq;done)
  |(simp only[kV,ow,if_true]at h⊢;exact Ld hd hr h)
theorem sW {o:AO} {e:Nat} {u:PV} {K:St->Prop} (hq:o.quiet=false) (hd:o.dst≠some e) (hr:e∉o.reads) (h:jd P (s.put (some e) u) o K):jd P s o λt=>K (t.put (some e) u)∧rN o.dst s t:=by
 have hrk:e∉o.k.reads:=λh=>hr (by simp[AO.reads,h])
 have Ov:K ((s.put (some e) u).put o.dst .un)->K ((s.put o.dst .un).put (some e) u)∧rN o.dst s (s.put o.dst .un):=by
  intro hk
  refine⟨?_,kH (b:=s.bx)⟩
  have:=oV (s:=s) (b:=s.bx) (u:=u) (v:= .un) hd
  exact this▸hk
 have NF:∀(g:Bool) (s:St) K,ev g s o.k K->False:=by
  intro g s K h
  obtain⟨dst,guard,mg,k⟩:=o
  cases k<;>first|(simp[AO.quiet,ow]at hq;done)|(simp[ev]at h;done)
 unfold jd at h⊢
 cases hg:o.guard with
 |
  none=>
  rw[hg]at h
  exact wM hq hd hrk h
 |
  some gw=>
  obtain⟨sl,want⟩:=gw
  rw[hg]at h
  have Ks:get (s.put (some e) u).env sl=get s.env sl:=by
   simp only[St.put]
   rw[ch]
   rintro rfl;exact hr (by simp[AO.reads,hg])
  simp only[Ks]at h⊢
  split at h
  ·split at h
   ·exact(NF _ _ _ h).elim
   ·rename_i hm
    rw[if_neg hm]
    exact⟨λe1=>wM hq hd hrk (h.1 e1),λe1=>Ov (h.2 e1)⟩
  ·split at h
   ·exact(NF _ _ _ h).elim
   ·rename_i hm
    rw[if_neg hm]
    exact⟨λe1 e2=>wM hq hd hrk (h.1 e1 e2),λe1=>Ov (h.2 e1)⟩
  ·exact h.elim
theorem Ej {aos:List AO} {k:Nat} {z:PV×br} {i:Nat} {x:AO} (hi:aos[i]? =some x) (hx:x.je=some k) {l:List Nat} (dF:∀j∈l,rh aos j i=true) (h:gr aos s l=true):gr aos (r9 k z s) l=true:=by
 simp only[gr,List.all_eq_true]at h⊢
 intro j hj
 have h1:=h j hj
 have h2:=dF j hj
 unfold rh at h2
 rw[hi]at h2
 split
 ·rename_i y hy
  rw[hy]at h1 h2
  simp only at h1 h2⊢
  split
  ·rename_i b hb
   rw[hb]at h1 h2
   rw[hx]at h2
   simp only[bne_iff_ne,ne_eq]at h1 h2⊢
   simp only[r9]
   rw[ch _ _ _ _ (λh=>h2 h.symm)]
   exact h1
  ·rfl
 ·rfl
theorem Se {W:List Nat} {k:Nat} {z:PV×br} (hn:get s.bx k=none):Fr W s (r9 k z s):=by
 intro j b _ hb
 refine⟨b,?_,rfl⟩
 simp only[r9]
 rw[ch]
 ·exact hb
 ·rintro rfl;rw[hn]at hb;simp at hb
theorem Lo {W:List Nat} {k:Nat} {z:PV×br} {t:St} (h:Fr W s t):Fr W (r9 k z s) (r9 k z t):=by
 intro j b hw hb
 simp only[r9,iD]at hb⊢
 split
 ·rename_i e;rw[if_pos e]at hb;exact⟨b,hb,rfl⟩
 ·rename_i e;rw[if_neg e]at hb;exact h j b hw hb
theorem zV {aos:List AO} {fl:Nat->Bool} {W:List Nat} {K:St->Prop} {i:Nat} {x:AO} (hi:aos[i]? =some x) (hx:x.quiet=false) (l2:List Nat):∀(l1:List Nat) (s:St),
  (∀j∈l1,kK aos fl j i=true)->(∀j∈l1++l2,rh aos j i=true)->jW P aos fl W s (l1++i::l2) K->jd P s x λt=>(fl i=true->Fr W s t)∧jW P aos fl W t (l1++l2) K
 |
  [],s,_,_,h=>by
  simp only[List.nil_append,jW,hi]at h
  have h:=h.2
  unfold kI at h
  rw[if_neg (by rw[hx];simp)]at h
  exact h
 |
  j::l1,s,eO,dF,h=>by
  have hp:=eO j (by simp)
  unfold kK at hp
  cases hy:aos[j]?with
  |none=>rw[hy]at hp;simp at hp
  |
   some y=>
   rw[hy,hi]at hp
   simp only[List.cons_append,jW,hy]at h⊢
   obtain⟨sb,h⟩:=h
   have sb:=HC sb
   rcases Bool.or_eq_true_iff.1 hp with hp|hp
   ·simp only[aJ,hx,Bool.false_or]at hp
    obtain⟨⟨⟨yv,DR⟩,gn⟩,XH⟩:=hp
    obtain⟨e,he⟩:=Option.isSome_iff_exists.1 DR
    have h1:e∉x.reads:=by simp[AO.apart,he]at gn;exact gn.1.1
    have h2:x.dst≠some e:=by simp[AO.apart,he]at gn;exact gn.1.2
    have h3:∀d,x.dst=some d->d∉y.reads:=λd hd=>by simp[AO.apart,hd]at gn;exact gn.2
    rcases Bool.or_eq_true_iff.1 XH with hso|XH
    ·obtain⟨v,h,hv⟩:=pP yv h
     have ih:=zV hi hx l2 l1 _ (λk hk=>eO k (by simp[hk])) (λk hk=>dF k (by simp only[List.cons_append,cJ];exact .inr hk)) h
     rw[he]at ih
     refine eJ (λt ht=> ?_) (sW hx h2 h1 ih)
     obtain⟨⟨hf,hk⟩,A0⟩:=ht
     refine⟨λyr=>λk b hw hb=>hf yr k b hw hb,?_,BU (r:=tf W (fl j) s) yv hso hv (λn hn=> ?_) (by rw[he];exact hk)⟩
     ·rw[gV,sU hy (kJ yv),Bool.true_and]
      have:=BS hk
      rwa [qG (lC _ _)]at this
     ·rw[zT];exact A0 n (λhd=>h3 n hd hn)
    ·obtain⟨Oy,yr⟩:=Bool.and_eq_true_iff.1 XH
     rw[Oy]at h⊢
     obtain⟨v,h,hv⟩:=pP yv h
     have ih:=zV hi hx l2 l1 _ (λk hk=>eO k (by simp[hk])) (λk hk=>dF k (by simp only[List.cons_append,cJ];exact .inr hk)) h
     rw[he]at ih
     refine eJ (λt ht=> ?_) (sW hx h2 h1 ih)
     obtain⟨⟨hf,hk⟩,A0⟩:=ht
     have hf':Fr W s t:=λk b hw hb=>hf yr k b hw hb
     refine⟨λ_=>hf',?_,vf (r:=s.less W) yv (by simpa[tf]using hv) (by simpa[tf]using HB hf') (λn hn=> ?_) (by rw[he];exact hk)⟩
     ·rw[gV,sU hy (kJ yv),Bool.true_and]
      have:=BS hk
      rwa [qG (lC _ _)]at this
     ·exact A0 n (λhd=>h3 n hd hn)
   ·simp only[aJ,Bool.not_eq_true']at hp
    obtain⟨⟨yv,hya⟩,hp⟩:=hp
    split at hp
    case h_2=>simp at hp
    rename_i k hk
    simp only[aJ,bne_iff_ne,ne_eq,Bool.not_eq_true',List.contains_eq_mem,decide_eq_false_iff_not]at hp
    obtain⟨z,ND,pH⟩:=zO (P:=P) hk
    have hn:get s.bx k=none:=(BT hi hk).1 sb.2.2.1
    unfold kI at h
    rw[if_neg (by rw[yv];simp)]at h
    have h':jd P s y λt=>get t.bx k=none∧(λt'=>(fl j=true->Fr W (r9 k z s) t')∧jW P aos fl W t' (l1++l2) K) (r9 k z t):=by
     refine eJ (λt ht=> ?_) h
     obtain⟨hf,ht⟩:=ht
     have ih:=zV hi hx l2 l1 _ (λk hk=>eO k (by simp[hk])) (λk hk=>dF k (by simp only[List.cons_append,cJ];exact .inr hk)) ht
     obtain⟨i1,_,i3⟩:=(pH t _).1 ih
     exact⟨i1,λe=>Lo (hf e),i3⟩
    refine(pH s _).2 ⟨hn,λ_=>Se hn,?_,?_⟩
    ·refine Ej hi hk (λm hm=>dF m (by simpa using hm)) ?_
     exact HD sb.1 sb.2.1 sb.2.2.2
    ·unfold kI
     rw[if_neg (by rw[yv];simp)]
     exact Lj hya hp.1 hp.2 hn h'
end Go.Ab
namespace Go.Ab
variable [eo]
variable {P:Program} {nt:Nat} {ds:List Deferred} {s s':St} {Γ:Cx} {a:Act} {w:World} {Q:Exit->Act->World->Prop} [gK]
def sX (ops:Array Oper):List Nat->List Nat->Bool
 |_,[]=>true
 |done,i::r=>(match ops[i]?with|some o=>(o.after.all λe=> !Region.binds .any e||done.contains e.on)|none=>false)&&sX ops (i::done) r
def ri (ms:List Nat) (aos:List AO) (fl:Nat->Bool):List Nat->Bool
 |[]=>true
 |j::r=>(r.all λi=>j !=i&&rh aos j i&&(CR ms i j||kK aos fl j i))&&ri ms aos fl r
def vh (ops:Array Oper) (aos:List AO) (ord us:List Nat):Bool:=
 sX ops [] ord&&ri (jO ops.toList []) aos us.contains ord&&ord.length==ops.size&&(ord.all λi=>decide (i<ops.size))&&(List.range ops.size).all λi=>ord.contains i
theorem rj {ops:Array Oper}:∀(p:List Nat) (done:List Nat) {i:Nat} {q:List Nat},sX ops done (p++i::q)=true->∀o,ops[i]? =some o->∀e∈o.after,Region.binds .any e=true->e.on∈done∨e.on∈p
 |
  [],done,i,q,h,o,ho,e,he,hb=>by
  simp only[List.nil_append,sX,ho,aJ,Array.all_eq_true_iff_forall_mem]at h
  have:=h.1 e he
  simp[hb]at this
  exact .inl this
 |
  x::p,done,i,q,h,o,ho,e,he,hb=>by
  simp only[List.cons_append,sX,aJ]at h
  rcases rj p (x::done) h.2 o ho e he hb with h1|h1
  ·rcases List.mem_cons.1 h1 with h2|h2
   ·exact .inr (by simp[h2])
   ·exact .inl h2
  ·exact .inr (by simp[h1])
theorem rk {ms:List Nat} {aos:List AO} {fl:Nat->Bool}:∀ {l:List Nat},ri ms aos fl l=true->l.Pairwise λj i=>(j≠i∧rh aos j i=true)∧(CR ms i j=true∨kK aos fl j i=true)
 |[],_=> .nil
 |
  j::r,h=>by
  simp only[ri,aJ,List.all_eq_true]at h
  refine .cons (λi hi=> ?_) (rk h.2)
  have:=h.1 i hi
  simpa using this
theorem nz {aos:List AO} {i j:Nat} (h:rh aos i j=true):rh aos j i=true:=by
 unfold rh at*
 cases h1:aos[i]? <;>cases h2:aos[j]? <;>simp only[h1,h2]at h⊢
 rename_i x y
 cases h3:x.je<;>cases h4:y.je<;>simp only[h3,h4,bne_iff_ne]at h⊢
 exact λe=>h e.symm
def pQ (ops:Array Oper) (ord:List Nat):Bool:=
 sX ops [] ord&&ord.length==ops.size&&(ord.all λi=>decide (i<ops.size))&&(List.range ops.size).all λi=>ord.contains i
def vi (ops:Array Oper) (aos:List AO) (fl:Nat->Bool) (j i:Nat):Prop:=(j≠i∧rh aos j i=true)∧(CR (jO ops.toList []) i j=true∨kK aos fl j i=true)
theorem aaZ {ro:Option Nat} {ops:Array Oper} {aos:List AO} {own sp:List Nat} {ord us:List Nat} {W:List Nat} (od:∀(i:Nat) o,ops[i]? =some o->∃ao,aos[i]? =some ao∧qe P nt ops own sp true o=some ao) (cY:pQ ops ord=true) {K:St->Prop}:
  ∀
   (n:Nat) (listed:Array Bool) {s:St} {Γ:Cx} {a:Act} {w:World},listed.size=ops.size->qf ops listed->(ord.filter λi=> !listed.getD i true).Pairwise (vi ops aos us.contains)->(ord.filter λi=> !listed.getD i true).length=n->
   iz nt ds s Γ a->w.heap=Γ.heap->zn P Γ->jW P aos us.contains W s (ord.filter λi=> !listed.getD i true) K->D4 P nt ds Γ w K (Q .normal)->wpAnyIn (FW ro) 0 P .any ops Q n listed a w:=by
 simp only[pQ,aJ,List.all_eq_true,decide_eq_true_eq,List.mem_range]at cY
 obtain⟨⟨⟨hE,_⟩,eu⟩,eO⟩:=cY
 have He:∀listed:Array Bool,listed.size=ops.size->Region.ready .any ops listed=[]->(ord.filter λi=> !listed.getD i true)=[]:=by
  intro listed iA hr
  cases hl:ord.filter λi=> !listed.getD i true with
  |nil=>rfl
  |
   cons i l=>
   exfalso
   obtain⟨p,q,Hg,hp,hi,_⟩:=List.filter_eq_cons_iff.1 hl
   have hio:i<ops.size:=eu i (by rw[Hg];simp)
   have:i∈Region.ready .any ops listed:=by
    rw[mem_ready]
    refine⟨by simpa using hi,ops[i],Array.getElem?_eq_getElem hio,λe he hb=> ?_⟩
    rw[Hg]at hE
    rcases rj p [] hE _ (Array.getElem?_eq_getElem hio) e he hb with h1|h1
    ·simp at h1
    ·have h2:=hp _ h1
     have h3:e.on<listed.size:=by rw[iA];exact eu _ (by rw[Hg];simp[h1])
     simp[Array.getD_eq_getD_getElem?,Array.getElem?_eq_getElem h3]at h2⊢
     exact h2
   rw[hr]at this;simp at this
 intro n
 induction n with
 |
  zero=>
  intro listed s Γ a w iA hc _ hn hs hw hY h hk
  have hl:=List.length_eq_zero_iff.1 hn
  rw[hl]at h
  refine⟨?_,hk _ _ _ _ hs hw (Le.refl Γ) (WF.refl w) h⟩
  rw[List.eq_nil_iff_forall_not_mem]
  intro i hi
  obtain⟨h1,o,ho,_⟩:=mem_ready.1 hi
  have:i∈ord.filter λi=> !listed.getD i true:=by
   rw[List.mem_filter]
   exact⟨by simpa using eO i (Array.getElem?_eq_some_iff.1 ho).1,by rw[h1];rfl⟩
  rw[hl]at this;simp at this
 |
  succ n ih=>
  intro listed s Γ a w iA hc hPw hn hs hw hY h hk
  refine⟨λhr=> ?_,λi hi=> ?_⟩
  ·rw[He listed iA hr]at hn;simp at hn
  ·obtain⟨Ov,o,ho,FD⟩:=mem_ready.1 hi
   have RW:=(Array.getElem?_eq_some_iff.1 ho).1
   obtain⟨ao,DI,NG⟩:=od i o ho
   have kp:i∈ord.filter λi=> !listed.getD i true:=by
    rw[List.mem_filter];exact⟨by simpa using eO i RW,by rw[Ov];rfl⟩
   obtain⟨l1,l2,hl⟩:=List.append_of_mem kp
   have Kd:(l1++i::l2).Pairwise λj i=>(j≠i∧rh aos j i=true)∧(CR (jO ops.toList []) i j=true∨kK aos us.contains j i=true):=by rw[←hl];exact hPw
   have NH:(l1++i::l2).Nodup:=Kd.imp (λh=>h.1.1)
   have qT:ord.filter (λj=> !(listed.setIfInBounds i true).getD j true)=l1++l2:=by
    have e:(λj=> !(listed.setIfInBounds i true).getD j true)=λj=>(decide (j≠i))&& !listed.getD j true:=by
     funext j
     by_cases A9:i=j
     ·subst A9;simp[Array.getD_eq_getD_getElem?,uJ (by omega:i<listed.size)]
     ·rw[getD_set_ne true A9];simp[Ne.symm A9]
    rw[e,←List.filter_filter,hl,List.filter_append,List.filter_cons]
    simp only[ne_eq,not_true,decide_false,fJ,if_false]
    have Ow:=List.nodup_append.1 NH
    rw[List.filter_eq_self.2,List.filter_eq_self.2]
    ·intro x hx;simp;rintro rfl;exact(List.nodup_cons.1 Ow.2.1).1 hx
    ·intro x hx;simp;rintro rfl;exact Ow.2.2 x hx x (by simp) rfl
   rw[hl]at h hn
   have rS:∀j∈l1,kK aos us.contains j i=true:=by
    intro j hj
    have h1:=(List.pairwise_append.1 Kd).2.2 j hj i (by simp)
    rcases h1.2 with hb|hb
    ·exfalso
     have hjm:j∈ord.filter λi=> !listed.getD i true:=by rw[hl];simp[hj]
     obtain⟨hjo,RX⟩:=List.mem_filter.1 hjm
     have:=wG hc (zy hb) hi
     have sL:j<listed.size:=by rw[iA];exact eu j hjo
     simp[Array.getD_eq_getD_getElem?,Array.getElem?_eq_getElem sL]at this RX
     rw[this]at RX;simp at RX
    ·exact hb
   have dF:∀j∈l1++l2,rh aos j i=true:=by
    intro j hj
    rcases List.mem_append.1 hj with hj|hj
    ·exact((List.pairwise_append.1 Kd).2.2 j hj i (by simp)).1.2
    ·have h1:=(List.rel_of_pairwise_cons (List.pairwise_append.1 Kd).2.1 hj).1.2
     exact nz h1
   have hf:jd P s ao λt=>jW P aos us.contains W t (l1++l2) K:=by
    cases hx:ao.quiet with
    |
     true=>
     obtain⟨v,h1,h2⟩:=Gj DI hx l2 l1 s rS h
     exact h2 s (Sub.refl _) (λ_ _=>rfl) _ h1
    |false=>exact eJ (λt ht=>ht.2) (zV DI hx l2 l1 s rS dF h)
   refine qE ho NG hs hw hY hf ?_
   intro s' Γ' a' w' b1 b2 b3 b4 b5
   refine ih (listed.setIfInBounds i true) (by simp[iA]) ?_ (by rw[qT];exact Kd.sublist (List.Sublist.append (List.Sublist.refl l1) (List.sublist_cons_self i l2))) (by rw[qT];simp at hn⊢;omega) b1 b2 (hY.le b3) (by rw[qT];exact b5) (hk.trans b3 b4)
   intro k ok xt oe e he hb
   by_cases FX:i=k
   ·subst FX;rw[ho]at xt;cases xt;exact getD_set_true (FD e he hb)
   ·rw[getD_set_ne true FX]at oe;exact getD_set_true (hc k ok xt oe e he hb)
theorem Lq {ops:Array Oper} {aos:List AO} {ord us:List Nat} (h:vh ops aos ord us=true):pQ ops ord=true:=by
 simp only[vh,pQ,aJ]at h⊢
 exact⟨⟨⟨h.1.1.1.1,h.1.1.2⟩,h.1.2⟩,h.2⟩
theorem tX {ro:Option Nat} {ops:Array Oper} {aos:List AO} {own sp:List Nat} {ord us:List Nat} {id:Nat} (hm:P.follows .mixedOrders=true) (ht:nH P nt ops own sp true ops.toList=some aos) (cY:vh ops aos ord us=true) {K:St->Prop} (hs:iz nt ds s Γ a) (hw:w.heap=Γ.heap)
  (hY:zn P Γ) (h:∃W,jW P aos us.contains W s ord K) (hk:D4 P nt ds Γ w K (Q .normal)):(Code.region id ops true).wpIn (FW ro) 0 P Q a w:=by
 obtain⟨W,h⟩:=h
 obtain⟨h1,h2⟩:=oT ht
 have RY:=cY
 simp only[vh,aJ,List.all_eq_true,decide_eq_true_eq,List.mem_range,beq_iff_eq]at RY
 have e:(ord.filter λi=> !(Array.replicate ops.size false).getD i true)=ord:=by
  rw[List.filter_eq_self]
  intro i hi
  have:=RY.1.2 i hi
  simp[Array.getD_eq_getD_getElem?,this]
 refine wpIn_region_any hm (aaZ (s:=s) (Γ:=Γ) (K:=K) (W:=W) (λi o hi=>h2 i o (by simpa using hi)) (Lq cY) _ _ (by simp) ?_ (by rw[e];exact rk RY.1.1.1.2) (by rw[e];exact RY.1.1.2) hs hw hY (by rw[e];exact h) ?_)
 ·intro k o Uf hl
  have:=(Array.getElem?_eq_some_iff.1 Uf).1
  simp[Array.getD_eq_getD_getElem?,this]at hl
 ·intro s' Γ' a' w' b1 b2 b3 b4 b5
  exact hk s' Γ' a' w' b1 b2 b3 ⟨b4.os,b4.tape,b4.output⟩ b5
def Lr (ops:Array Oper) (done:List Nat) (i:Nat):Bool:= !done.contains i&&match ops[i]?with|some o=>o.after.all λe=> !Region.binds .any e||done.contains e.on|none=>false
def tY (aos:List AO) (i:Nat):Bool:=match aos[i]?with|some x=>x.quiet|none=>false
def Uz (ops:Array Oper) (aos:List AO):Nat->List Nat->List Nat
 |0,done=>done.reverse
 |
  n+1,done=>match(List.range ops.size).find? (λi=>Lr ops done i&&tY aos i)with
  |some i=>Uz ops aos n (i::done)
  |
   none=>match(List.range ops.size).find? (Lr ops done)with
   |some i=>Uz ops aos n (i::done)
   |none=>done.reverse
def soB (aos:List AO) (i:Nat):Bool:=match aos[i]?with|some x=>x.jP|none=>false
def early (ms:List Nat) (aos:List AO):List Nat->List Nat
 |[]=>[]
 |j::r=>if(tY aos j&& !soB aos j&&r.any λi=> !tY aos i&& !CR ms i j)=true then j::early ms aos r else early ms aos r
def wN (ops:Array Oper) (aos:List AO):List Nat:=Uz ops aos ops.size []
def Ek (ms:List Nat) (aos:List AO):List Nat->List Nat->List Nat
 |_,[]=>[]
 |done,i::r=>if(!tY aos i&&done.any λj=>tY aos j&& !soB aos j&& !CR ms i j)=true then i::Ek ms aos (i::done) r else Ek ms aos (i::done) r
def HG (ops:Array Oper) (aos:List AO):List Nat:=early (jO ops.toList []) aos (wN ops aos)++Ek (jO ops.toList []) aos [] (wN ops aos)
end Go.Ab
namespace Go.Ab
variable [eo]
variable {P:Program} {nt:Nat} {ds:List Deferred} {s:St} {Γ Γ0:Cx} {a:Act} {w w0:World}
def Cx.out (Γ:Cx) (ks:List Nat) (cm:List br):Cx:=
 {
  heap:=Γ.heap,ι:=λk=>if KB≤k then(match ks[k-KB]?with|some j=>Γ.ι j|none=>none)else none,
  bx:=aG 0 (cm.map (aM (bE ks))),dU:=Γ.dU}
theorem Cx.vj {ks:List Nat} {cm:List br} (hg:getAll Γ.bx ks=some cm) {b:Nat}:(Γ.out ks cm).iQ b↔∃(i:Nat) (k:Nat),ks[i]? =some k∧Γ.ι k=some b:=Cx.mi (Γ:=Γ) hg
theorem Cx.El {ks:List Nat} {cm:List br} (hg:getAll Γ.bx ks=some cm):wA (bS ks) (bE ks) Γ (Γ.out ks cm) where
 heap:=rfl
 own b hb hn:=by
  rintro(h|h)
  ·obtain⟨i,k,h1,h2⟩:=(Cx.vj hg).1 h
   obtain⟨_,fo⟩:=fN hg
   obtain⟨b',g1,_⟩:=fo _ _ h1
   exact hn (.inl ⟨k,b',g1,h2⟩)
  ·exact hn (.inr h)
 ref:=(Cx.oH hg).ref
theorem Cx.HH (hm:Mem Γ) {ks:List Nat} {cm:List br} (hg:getAll Γ.bx ks=some cm) (hn:ks.Nodup) (cY:cm.all (ah (bS ks))=true):Mem (Γ.out ks cm) where
 blk k blk hk:=by
  obtain⟨hl,fo⟩:=fN hg
  simp only[Cx.out,ig]at hk
  split at hk
  ·rename_i hle
   rw[List.getElem?_map,mJ]at hk
   obtain⟨b0,Ha,rfl⟩:=hk
   have hi:=(List.getElem?_eq_some_iff.1 Ha).1
   obtain⟨j,hj⟩:∃j,ks[k-KB]? =some j:=⟨_,gJ (by omega)⟩
   obtain⟨b1,g1,g2⟩:=fo _ _ hj
   simp only[Nat.sub_zero]at Ha
   rw[Ha]at g2;cases g2
   have:=(hm.blk j b0 g1).az (Cx.El hg) (List.all_eq_true.1 cY b0 (List.mem_of_getElem? Ha))
   have e:(Γ.out ks cm).ι k=Γ.ι j:=by simp only[Cx.out];rw[if_pos (by omega),hj]
   rw[e];exact this
  ·simp at hk
 inj:=(Cx.uR hm hg hn cY).inj
 dU:=hm.dU
 apart b h hp:=by
  obtain⟨i,k,h1,h2⟩:=(Cx.vj hg).1 h
  obtain⟨_,fo⟩:=fN hg
  obtain⟨b',g1,_⟩:=fo _ _ h1
  exact hm.apart b ⟨k,b',g1,h2⟩ hp
 uI b cs h:=by
  obtain⟨h1,h2⟩:=hm.uI b cs h
  refine⟨λhb=>h1 ?_,h2⟩
  obtain⟨i,k,g1,g2⟩:=(Cx.vj hg).1 hb
  obtain⟨b',g3,_⟩:=(fN hg).2 i k g1
  exact⟨k,b',g3,g2⟩
theorem Cx.Ls {ks:List Nat} {cm fp:List br} (hle:Le Γ0 Γ) (h0:Γ0.bx=aG 0 fp) (hg:getAll Γ.bx ks=some cm) (hks:ks.take fp.length=eX fp.length):Le Γ0 (Γ.out ks cm) where
 heap:=hle.heap
 iQ b hb h:=by
  obtain⟨i,k,h1,h2⟩:=(Cx.vj hg).1 h
  obtain⟨_,fo⟩:=fN hg
  obtain⟨b',g1,_⟩:=fo _ _ h1
  exact hle.iQ b hb ⟨k,b',g1,h2⟩
 dU:=hle.dU
 size:=hle.size
 ref k blk hk:=by
  obtain⟨b8,h1,h2,h3⟩:=hle.ref k blk hk
  rw[h0,ig]at hk
  split at hk
  ·rename_i hkb
   have hi:=(List.getElem?_eq_some_iff.1 hk).1
   have e:ks[k-KB]? =some k:=by
    have:(ks.take fp.length)[k-KB]? =some k:=by
     rw[hks,eX,List.getElem?_map,List.getElem?_range (by omega)]
     simp;omega
    rw[List.getElem?_take]at this
    split at this
    ·exact this
    ·simp at this
   obtain⟨hl,fo⟩:=fN hg
   obtain⟨b1,g1,g2⟩:=fo _ _ e
   rw[h1]at g1;cases g1
   refine⟨aM (bE ks) b8,?_,by rw[ke];exact h2,λht=> ?_⟩
   ·simp only[Cx.out,ig]
    rw[if_pos (by omega),List.getElem?_map,show k-KB-0=k-KB by omega,g2];rfl
   ·rw[ke]at ht
    obtain⟨h4,h5⟩:=h3 ht
    exact⟨by simp only[Cx.out];rw[if_pos (by omega),e];exact h4,h5⟩
  ·simp at hk
def th (Q:Exit->St->Prop) (K:St->Prop):Exit->St->Prop
 | .normal,s=>K s
 |e,s=>Q e s
def Sf (id:Nat) (Q:Exit->St->Prop):Exit->St->Prop
 | .exit id',s=>if id'=id then Q .normal s else Q (.exit id') s
 |e,s=>Q e s
def lift (nt:Nat) (Γ0:Cx) (w0:World) (Q:Exit->St->Prop):Exit->Act->World->Prop:=
 λe a w=>∃ds s Γ,iz nt ds s Γ a∧mj Γ0.heap.size Γ ds∧w.heap=Γ.heap∧Le Γ0 Γ∧WF w0 w∧Q e s
theorem zX {Q:Exit->St->Prop} {K:St->Prop} {e:Exit} (h:lift nt Γ0 w0 (th Q K) e a w):Exit.then (lift nt Γ0 w0 (λ_=>K) .normal) (lift nt Γ0 w0 Q) e a w:=by
 cases e<;>exact h
theorem Lt {Q:Exit->St->Prop} {id:Nat} {e:Exit} (h:lift nt Γ0 w0 (Sf id Q) e a w):Exit.inBlock id (lift nt Γ0 w0 Q) e a w:=by
 cases e with
 |
  exit id'=>
  obtain⟨ds,s,Γ,h1,hd,h2,h3,h4,h5⟩:=h
  simp only[Exit.inBlock,Sf]at h5⊢
  split at h5
  ·rename_i hid;rw[if_pos hid];exact⟨ds,s,Γ,h1,hd,h2,h3,h4,h5⟩
  ·rename_i hid;rw[if_neg hid];exact⟨ds,s,Γ,h1,hd,h2,h3,h4,h5⟩
 |_=>exact h
def Sg (P:Program) (fid:FuncId) (cap:List PV) (fp:List br) (Y:List PV->List br->(List br->Prop)->Prop) (R:List br->Prop):Prop:=
 (∀(vs:Array Value) (w:World),(callFunc fid vs).run P w= .ok (.enter fid vs) w)∧
 ∀
  (Γ:Cx) (w:World) (vs:List Value) (l:Nat) (rec:Loop),w.heap=Γ.heap->Mem Γ->Γ.bx=aG 0 fp->gp Γ cap vs->Γ.heap[l]? =some (.loop rec)->
  (∀args FY R1,Y args FY R1->KU P l Γ args FY R1)->
  CallsIn (FW none) 0 P fid (#[.func (.yield l) #[] #[]]++vs.toArray) w (λe w'=>∃v rR Γ',e= .returned v∧R rR∧w'.heap=Γ'.heap∧Mem Γ'∧Γ'.bx=aG 0 rR∧Le Γ Γ'∧WF w w')
def aa0 (n:Nat) (R:List br->Prop) (s:St):Prop:=
 ∃c:List Cut,gQ c s λs'=>∃cm,getAll s'.bx (eX n)=some cm∧cm.all (ah (eI n))=true∧R cm
def Lu (n:Nat) (R:List br->Prop):Exit->St->Prop
 | .normal,s=>aa0 n R s
 |_,_=>False
def noQ:Exit->St->Prop:=λ_ _=>False
def wO (ks:List Nat):List (Nat×PV)->List (Nat×PV)
 |[]=>[]
 |(n,p)::r=>(n,if ab (bS ks) p=true then az (bE ks) p else .un)::wO ks r
def Em:List (Nat×PV)->List Nat->List PV->List (Nat×PV)
 |e,t::ts,p::ps=>Em (put e t p) ts ps
 |e,_,_=>e
def CY (ks:List Nat) (s:St) (ps:List Nat) (args:List PV) (fp:List br):St:=⟨Em (wO ks s.env) ps args,aG 0 fp⟩
def Gk [gK] (P:Program) (A B:(Exit->St->Prop)->St->Prop) (s:St) (fid:FuncId) (cap:List PV) (ps:List Nat) (K:St->Prop):Prop:=
 (∀l a f r,¬gK.spec l a f r)∧∃ks cm Y R,(getAll s.bx ks=some cm∧ks.Nodup∧ae (bS ks) cap=true∧cm.all (ah (bS ks))=true)∧
  Sg P fid (aO (bE ks) cap) (cm.map (aM (bE ks))) Y R∧
  (∀args fp R1,Y args fp R1->(args.length=ps.length∧fp.length=ks.length)∧A (th noQ λs'=>B (Lu ks.length R1) s') (CY ks s ps args fp))∧
  ∀fp,R fp->(fp.length=ks.length∧fp.all (ah (eI fp.length))=true)∧K {s with bx:=bB s.bx ks (fp.map (aM (fu ks)))}
theorem gp.length:∀ {l:List PV} {vs:List Value},gp Γ l vs->vs.length=l.length
 |[],[],_=>rfl
 |[],_::_,h=>by simp[gp]at h
 |_::_,[],h=>by simp[gp]at h
 |_::_,_::_,h=>by simp[gp.length h.2]
theorem gp.mono {Γ':Cx} (hle:Le Γ Γ'):∀ {l:List PV} {vs:List Value},gp Γ l vs->gp Γ' l vs
 |[],[],_=>trivial
 |p::l,v::vs,h=>⟨h.1.mono hle,h.2.mono hle⟩
 |[],_::_,h=>h.elim
 |_::_,[],h=>h.elim
theorem zY {ks:List Nat} {k:Nat}:∀ {e:List (Nat×PV)} {q:PV},get (wO ks e) k=some q->q= .un∨∃p,get e k=some p∧ab (bS ks) p=true∧q=az (bE ks) p
 |[],q,h=>by simp[wO,get]at h
 |
  (n,p)::r,q,h=>by
  simp only[wO,get]at h⊢
  split at h
  ·rename_i hn
   simp only[sJ]at h
   rw[if_pos hn]
   split at h
   ·rename_i hr;exact .inr ⟨p,rfl,hr,h.symm⟩
   ·exact .inl h.symm
  ·rename_i hn
   rw[if_neg hn]
   exact zY h
theorem En:∀ {ps:List Nat} {args:List PV} {vs:List Value} {env:List (Nat×PV)} {tmps:Array Value},tmps.size=nt->(∀t∈ps,t<nt)->gp Γ args vs->args.length=ps.length->
  (∀k p,get env k=some p->aN Γ p (tmps.getD k undef))->
  ((ps.zip vs).foldl (λts (x:Nat×Value)=>ts.setIfInBounds x.1 x.2) tmps).size=nt∧∀k p,get (Em env ps args) k=some p->aN Γ p (((ps.zip vs).foldl (λts (x:Nat×Value)=>ts.setIfInBounds x.1 x.2) tmps).getD k undef)
 |[],[],vs,env,tmps,h1,h2,h3,h4,h5=>by simp only[List.zip_nil_left,List.foldl_nil,Em];exact⟨h1,h5⟩
 |[],_::_,_,_,_,_,_,_,h4,_=>by simp at h4
 |_::_,[],_,_,_,_,_,_,h4,_=>by simp at h4
 |t::ps,p::args,[],env,tmps,h1,h2,h3,h4,h5=>h3.elim
 |
  t::ps,p::args,v::vs,env,tmps,h1,h2,h3,h4,h5=>by
  simp only[List.zip_cons_cons,List.foldl_cons,Em]
  refine En (by simpa using h1) (λx hx=>h2 x (by simp[hx])) h3.2 (by simpa using h4) ?_
  intro k q hk
  rw[iD]at hk
  split at hk
  ·rename_i e;subst e
   simp only[sJ]at hk;subst hk
   rw[Array.getD_eq_getD_getElem?,uJ (by rw[h1];exact h2 _ (by simp))]
   exact h3.1
  ·rename_i dF
   rw[Array.getD_eq_getD_getElem?,Array.getElem?_setIfInBounds_ne dF,←Array.getD_eq_getD_getElem?]
   exact h5 k q hk
theorem mj.obj {B l:Nat} {o:Obj} {rec:Loop} (h:mj B Γ ds) (hl:Γ.heap[l]? =some (.loop rec)):mj B (Γ.obj l o) ds:=by
 obtain⟨Ds,h1,h2,h3⟩:=h
 refine⟨Ds,h1,h2,λD hD=>⟨(h3 D hD).1,?_⟩⟩
 have h4:=(h3 D hD).2
 have dF:D≠l:=by rintro rfl;rw[hl]at h4;simp at h4
 rw[jN dF];exact h4
theorem Eo [gK] {g:Operand} {ps:Array Nat} {as bo:Code} {A B:(Exit->St->Prop)->St->Prop} {fid:FuncId} {cap:List PV} {Q:Exit->St->Prop}
  (hA:∀ {l:Nat} {Γ1:Cx} {w1:World} {Q:Exit->St->Prop} {s:St} {Γ:Cx} {a:Act} {w:World} {ds:List Deferred},HK Γ1->zn P Γ1->A Q s->iz nt ds s Γ a->mj Γ1.heap.size Γ ds->w.heap=Γ.heap->Le Γ1 Γ->WF w1 w->as.wpIn (FW (some l)) 0 P (lift nt Γ1 w1 Q) a w)
  (hB:∀ {l:Nat} {Γ1:Cx} {w1:World} {Q:Exit->St->Prop} {s:St} {Γ:Cx} {a:Act} {w:World} {ds:List Deferred},HK Γ1->zn P Γ1->B Q s->iz nt ds s Γ a->mj Γ1.heap.size Γ ds->w.heap=Γ.heap->Le Γ1 Γ->WF w1 w->bo.wpIn (FW (some l)) 0 P (lift nt Γ1 w1 Q) a w)
  (BA:∀t∈ps.toList,t<nt) (hs:iz nt ds s Γ a) (hd:mj Γ0.heap.size Γ ds) (hw:w.heap=Γ.heap) (hle:Le Γ0 Γ) (qq:WF w0 w)
  (hg:aN Γ (.fn (.func fid) [] cap) (a.eval g)) (h:Gk P A B s fid cap ps.toList λs'=>Q .normal s'):
  (Code.rangeFunc g ps as bo).wpIn (FW none) 0 P (lift nt Γ0 w0 Q) a w:=by
 obtain⟨DG,ks,cm,Y,R,⟨hgk,hn,hrc,hrb⟩,⟨v8,xr⟩,XI,hK⟩:=h
 have afd:∀Γ1,zn P Γ1:=λΓ1 l a f r BE=>absurd BE (DG l a f r)
 obtain⟨cs,Uc,AS⟩:∃cs:List Value,a.eval g= .func (.func fid) #[] cs.toArray∧gp Γ cap cs:=by
  simp only[aN]at hg
  generalize a.eval g=v at hg
  cases hg with
  | @fn _ _ fs cs _ _ _ h1 h2 h3 h4 _=>cases h1;exact⟨cs,rfl,ox h2 h4⟩
 refine wpIn_rangeFunc λfn _=> ?_
 obtain⟨rec,DH⟩:∃rec:Loop,rec= {state:= .ready,pending:=none,fn,tmps:=a.tmps,params:=ps,assign:=as,body:=bo,defers:=w.heap.size}:=⟨_,rfl⟩
 have ux:rec.state= .ready:=by rw[DH]
 have afe:rec.pending=none:=by rw[DH]
 have hlb:w.heap.size=Γ.heap.size:=by rw[hw]
 obtain⟨l,hl⟩:∃l,l=w.heap.size+1:=⟨_,rfl⟩
 obtain⟨w1,xu⟩:∃w1,w1=(w.alloc (.deferred (some []))).alloc (.loop rec):=⟨_,rfl⟩
 obtain⟨Γ1,hΓ1⟩:∃Γ1,Γ1=(Γ.push (.deferred (some []))).push (.loop rec):=⟨_,rfl⟩
 have Ke:Le Γ Γ1:=by rw[hΓ1];exact(qZ _ _).trans (qZ _ _)
 have DP:Mem Γ1:=by rw[hΓ1];exact mem_push (mem_push hs.mem _) _
 have XJ:Γ1.bx=s.bx:=by rw[hΓ1];exact hs.bx
 have XK:w1.heap=Γ1.heap:=by rw[xu,hΓ1];simp[World.alloc,Cx.push,hw]
 have Hh:Γ1.heap[l]? =some (.loop rec):=by
  rw[hΓ1,hl];simp only[Cx.push]
  rw[Array.getElem?_push,if_pos (by simp[hlb])]
 have hD1:Γ1.heap[w.heap.size]? =some (.deferred (some [])):=by
  rw[hΓ1];simp only[Cx.push]
  rw[Array.getElem?_push,if_neg (by simp[hlb]),Array.getElem?_push,if_pos hlb]
 have T4:iz nt ds s Γ1 a:=⟨by rw[XJ],hs.size,hs.defers,λk p hk=>(hs.env k p hk).mono Ke,DP⟩
 have XL:getAll Γ1.bx ks=some cm:=by rw[XJ];exact hgk
 have pq:=Cx.oH (Γ:=Γ1) XL
 have hmc:=Cx.uR DP XL hn hrb
 have hlc:(Γ1.call ks cm).heap[l]? =some (.loop rec):=Hh
 have uw:gp (Γ1.call ks cm) (aO (bE ks) cap) cs:=by
  have:gp Γ1 cap cs:=AS.mono Ke
  exact this.az pq hrc
 refine⟨l,[{target:= .collected w.heap.size,args:= #[]}],w1,{target:= .fn (.func fid) cs.toArray,args:= #[.func (.yield l) #[] #[]]},w1,fid,
  #[.func (.yield l) #[] #[]]++cs.toArray,w1,?_,?_,λ_ _=>trivial,?_,λh=>by simp[FW,Fence.wide]at h,?_⟩
 ·rw[xu,DH,hl];exact run_enterLoop_outer _ _ _ _ _
 ·simp only[resolve,Uc]
  simp[Deferred.ofValue]
  rfl
 ·simp only[invoke]
  exact v8 _ _
 ·refine(xr (Γ1.call ks cm) w1 cs l rec XK hmc rfl uw hlc λargs fp R1 hY=> ?_).mono ?_
  ·--a round
   intro Γy wy vs hwy hmy XM Ug ala hly
   obtain⟨⟨hlen,Oy⟩,hAA⟩:=XI args fp R1 hY
   have XE:Γy.heap[l]? =some (.loop rec):=by rw[hly];exact hlc
   have hkY:HK Γy:=by
    intro k blk hk
    rw[XM,ig]at hk
    split at hk
    ·omega
    ·simp at hk
   have hvl:vs.length=ps.toList.length:=by rw[Ug.length,hlen]
   refine⟨fn,(ps.toList.zip vs).foldl (λts (x:Nat×Value)=>ts.setIfInBounds x.1 x.2) a.tmps,as,bo,?_,roundIn_of_wpIn trivial ?_⟩
   ·have:=run_yield (P:=P) (w:=wy) (l:=l) (r:=rec) (args:=vs.toArray) (by rw[hwy];exact XE) (by rw[DH];simpa using hvl)
    rw[this,DH]
    congr 2
    rw[←Array.foldl_toList,Array.toList_zip]
   ·have BE:=En (Γ:=Γy) (env:=wO ks s.env) hs.size BA Ug hlen (λk p hk=>by
     rcases zY hk with rfl|⟨q,h1,h2,rfl⟩
     ·simp[aN]
     ·exact((T4.env k q h1).az pq h2).oh ala)
    have alb:iz nt [] (CY ks s ps.toList args fp) Γy {tmps:=(ps.toList.zip vs).foldl (λts (x:Nat×Value)=>ts.setIfInBounds x.1 x.2) a.tmps,defers:=[]}:=⟨XM,BE.1,rfl,BE.2,hmy⟩
    refine wpIn_mono (hA (l:=l) (w1:=wy) hkY (afd _) hAA alb .nil hwy (Le.refl _) (WF.refl _)) ?_
    rintro e a1 wa ⟨ds1,s1,Γa,hsa,Ba,hwa,afg,alc,hBB⟩
    cases e with
    |
     normal=>
     have hla:Γa.heap[l]? =some (.loop rec):=afg.plain hmy XE rfl
     refine⟨_,run_beginRound (by rw[hwa];exact hla) ux,?_⟩
     obtain⟨o,ho⟩:∃o:Obj,o= .loop {rec with state:= .busy}:=⟨_,rfl⟩
     rw[←ho]
     have hoc:Sc o=false:=by rw[ho];rfl
     have hpy:Γy.jb l:=⟨_,XE,rfl⟩
     have hpa:Γa.jb l:=⟨_,hla,rfl⟩
     have hky:HK (Γy.obj l o):=hkY
     refine wpIn_mono (hB (l:=l) (Γ1:=Γy.obj l o) (w1:=wy) hky (afd _) hBB (hsa.obj hpa) (by rw[nO];exact Ba.obj hla) (uU hwa) (xA afg hmy hpy hoc) (alc.trans (WF.obj _ _ _))) ?_
     rintro e a2 wb ⟨ds2,s2,Γb,hsb,hdb,hwb,ale,alf,hq⟩
     cases e with
     |
      normal=>
      obtain⟨c,hc⟩:=hq
      obtain⟨s3,Γ3,hs3,hh3,afi,IQ,hg3,alh,hR3⟩:=ny hky c hsb ale hc
      rw[←hs3.bx]at hg3
      have hl3:Γ3.heap[l]? =some o:=afi.plain (yB hmy hpy) (uS hpy.lt) hoc
      have ali:wb.heap[l]? =some (.loop {rec with state:= .busy}):=by rw[hwb,←hh3,hl3,ho]
      have hmo:=Cx.HH hs3.mem hg3 (ov _) (by rw[pJ];exact alh)
      have Ko:=Cx.Ls afi (fp:=fp) (by exact XM) hg3 (by rw[Oy,tJ (by simp[eX])])
      have Uh:(Γ3.out (eX ks.length) IQ).jb l:=⟨o,hl3,hoc⟩
      have alj:=run_endRound (P:=P) (jump:=none) ali
      refine⟨_,_,alj,IQ,(Γ3.out (eX ks.length) IQ).obj l (.loop rec),rfl,hR3,?_,yB hmo Uh,?_,?_,alf.trans (WF.obj _ _ _)⟩
      ·have e1:({({rec with state:= .busy}:Loop)with state:=if(none:Option Code).isNone=true then .ready else .done,pending:=none}:Loop)=rec:=by
        rw[DH];rfl
       rw[e1]
       exact uU (by rw[hwb,←hh3];rfl)
      ·show aG 0 (IQ.map (aM (bE (eX ks.length))))=_
       rw[tS (λ_=>pK)]
      ·have:=xA (o:= .loop rec) Ko (yB hmy hpy) (BO hpy hoc) rfl
       rwa [KT XE]at this
     |_=>exact hq.elim
    |_=>exact hBB.elim
  ·--behind it
   rintro e w' ⟨v,rR,Γ',rfl,hR,Nv,tI,NB,xq,RZ⟩
   obtain⟨⟨hlen,sb⟩,hKK⟩:=hK rR hR
   obtain⟨same2,le2,mem2⟩:=tQ DP XL (os:=[]) (by simpa using hn) (by simp) tI NB xq (by simpa using hlen) sb
   simp only[List.append_nil]at le2 mem2
   have DQ:Γ'.heap[l]? =some (.loop rec):=xq.plain hmc hlc rfl
   have qU:(Γ1.back Γ' ks rR).heap[l]? =some (.loop rec):=DQ
   refine⟨none,w'.putObj l (.loop {rec with state:= .exhausted}),?_,?_⟩
   ·have:=run_endLoop (P:=P) (w:=w') (l:=l) (r:=rec) (by rw[Nv];exact DQ) (by rw[ux];simp)
    rw[this,afe]
   ·refine⟨{target:= .collected w.heap.size,args:= #[]}::ds,_,(Γ1.back Γ' ks rR).obj l (.loop {rec with state:= .exhausted}),?_,?_,uU (by exact Nv),?_,?_,hKK⟩
    ·have h2:=T4.le le2 mem2 (vY:=bB s.bx ks (rR.map (aM (fu ks)))) (by simp[Cx.back,XJ])
     have h3:=h2.obj (o:= .loop {rec with state:= .exhausted}) ⟨_,qU,rfl⟩
     exact⟨h3.bx,h3.size,by simp[h3.defers],h3.env,h3.mem⟩
    ·refine mj.obj (rec:=rec) ?_ qU
     obtain⟨Ds,e1,e2,e3⟩:=(hd.le hs.mem Ke).le DP le2
     refine⟨w.heap.size::Ds,by rw[e1];rfl,List.nodup_cons.2 ⟨λhm=> ?_,e2⟩,λD hD=> ?_⟩
     ·obtain⟨Ds',f1,f2,f3⟩:=hd
      have:Ds'=Ds:=by
       have:=f1.symm.trans e1
       exact(List.map_inj_right (λa b h=>by simpa using h)).1 this
      subst this
      have:=cH (f3 _ hm).2
      omega
     ·rcases List.mem_cons.1 hD with rfl|hD
      ·exact⟨by rw[hlb];exact hle.size,le2.plain DP hD1 rfl⟩
      ·exact e3 D hD
    ·exact uT ((hle.trans Ke).trans le2) (by have:=hle.size;omega) ⟨_,qU,rfl⟩
    ·refine qq.trans (WF.trans ?_ (RZ.trans (WF.obj _ _ _)))
     rw[xu];exact(WF.alloc _ _).trans (WF.alloc _ _)
end Go.Ab
namespace Go.Ab
variable [eo]
variable {P:Program} {nt:Nat} {ds:List Deferred} {s s':St} [gK]
def nC (P:Program) (aos:List AO) (fl:Nat->Bool) (W E:List Nat) (s:St):List Nat->(St->Prop)->Prop
 |[],K=>gr aos s E=true∧K s
 |
  i::r,K=>match aos[i]?with
  |some o=>gr aos s (i::(r++E))=true∧kI P W (fl i) s o λt=>nC P aos fl W E t r K
  |none=>False
theorem BV {aos:List AO} {fl:Nat->Bool} {W E:List Nat} {K:St->Prop}:∀ {l:List Nat} {s:St},nC P aos fl W E s l K->gr aos s (l++E)=true
 |[],s,h=>by simpa using h.1
 |
  i::r,s,h=>by
  simp only[nC]at h
  split at h
  ·simpa using h.1
  ·exact h.elim
theorem HI {aos:List AO} {fl:Nat->Bool} {W E:List Nat} {K:St->Prop} {i:Nat} {x:AO} (hi:aos[i]? =some x) (hx:x.quiet=true) (l2:List Nat):∀(l1:List Nat) (s:St),
  (∀j∈l1,kK aos fl j i=true)->nC P aos fl W E s (l1++i::l2) K->∃v,nC P aos fl W E (s.put x.dst v) (l1++l2) K∧Qv P s x v
 |
  [],s,_,h=>by
  simp only[List.nil_append,nC,hi]at h
  obtain⟨v,h1,h2⟩:=pP hx h.2
  exact⟨v,h1,λs' hb ha K' hk=>h2 s' (Eg.trans hb) (sV ha) K' hk⟩
 |
  j::l1,s,eO,h=>by
  have hp:=eO j (by simp)
  unfold kK at hp
  cases hy:aos[j]?with
  |none=>rw[hy]at hp;simp at hp
  |
   some y=>
   rw[hy,hi]at hp
   simp only[kJ hx,Bool.and_false,Bool.or_false,aJ]at hp
   obtain⟨⟨⟨yv,_⟩,gn⟩,_⟩:=hp
   have h1:∀d,y.dst=some d->d∉x.reads:=λd hd=>by simp[AO.apart,hd]at gn;exact gn.1.1
   have h2:∀d,y.dst=some d->x.dst≠some d:=λd hd=>by simp[AO.apart,hd]at gn;exact gn.1.2
   have h3:∀d,x.dst=some d->d∉y.reads:=λd hd=>by simp[AO.apart,hd]at gn;exact gn.2
   simp only[List.cons_append,nC,hy,List.append_assoc]at h⊢
   obtain⟨sb,h⟩:=h
   obtain⟨v,h,hv⟩:=pP yv h
   obtain⟨u,h,hu⟩:=HI hi hx l2 l1 _ (λk hk=>eO k (by simp[hk])) h
   refine⟨u,⟨?_,vf yv hv (by rw[Eh];exact Sub.refl _) (sV (dK.put h3)) ?_⟩,?_⟩
   ·have sb:=HC sb
    rw[qG (lC _ _)]
    exact HD sb.1 sb.2.1 sb.2.2.2
   ·rw[St.put_comm (λk hk he=>h2 k he hk)];exact h
   ·intro s' hb ha K' hk
    refine hu s' (by rw[lC];exact hb) (λn hn=> ?_) K' hk
    rw[ha n hn]
    exact((dK.put h1) n hn).symm
theorem yF {aos:List AO} {fl:Nat->Bool} {W E:List Nat} {K:St->Prop} {i:Nat} {x:AO} (hi:aos[i]? =some x) (hx:x.quiet=false) (l2:List Nat):∀(l1:List Nat) (s:St),
  (∀j∈l1,kK aos fl j i=true)->(∀j∈l1++(l2++E),rh aos j i=true)->nC P aos fl W E s (l1++i::l2) K->jd P s x λt=>(fl i=true->Fr W s t)∧nC P aos fl W E t (l1++l2) K
 |
  [],s,_,_,h=>by
  simp only[List.nil_append,nC,hi]at h
  have h:=h.2
  unfold kI at h
  rw[if_neg (by rw[hx];simp)]at h
  exact h
 |
  j::l1,s,eO,dF,h=>by
  have hp:=eO j (by simp)
  unfold kK at hp
  cases hy:aos[j]?with
  |none=>rw[hy]at hp;simp at hp
  |
   some y=>
   rw[hy,hi]at hp
   simp only[List.cons_append,nC,hy,List.append_assoc]at h⊢
   obtain⟨sb,h⟩:=h
   have sb:=HC sb
   rcases Bool.or_eq_true_iff.1 hp with hp|hp
   ·simp only[aJ,hx,Bool.false_or]at hp
    obtain⟨⟨⟨yv,DR⟩,gn⟩,XH⟩:=hp
    obtain⟨e,he⟩:=Option.isSome_iff_exists.1 DR
    have h1:e∉x.reads:=by simp[AO.apart,he]at gn;exact gn.1.1
    have h2:x.dst≠some e:=by simp[AO.apart,he]at gn;exact gn.1.2
    have h3:∀d,x.dst=some d->d∉y.reads:=λd hd=>by simp[AO.apart,hd]at gn;exact gn.2
    rcases Bool.or_eq_true_iff.1 XH with hso|XH
    ·obtain⟨v,h,hv⟩:=pP yv h
     have ih:=yF hi hx l2 l1 _ (λk hk=>eO k (by simp[hk])) (λk hk=>dF k (by simp only[List.cons_append,cJ];exact .inr hk)) h
     rw[he]at ih
     refine eJ (λt ht=> ?_) (sW hx h2 h1 ih)
     obtain⟨⟨hf,hk⟩,A0⟩:=ht
     refine⟨λyr=>λk b hw hb=>hf yr k b hw hb,?_,BU (r:=tf W (fl j) s) yv hso hv (λn hn=> ?_) (by rw[he];exact hk)⟩
     ·rw[gV,sU hy (kJ yv),Bool.true_and]
      have:=BV hk
      rw[qG (lC _ _),List.append_assoc]at this
      exact this
     ·rw[zT];exact A0 n (λhd=>h3 n hd hn)
    ·obtain⟨Oy,yr⟩:=Bool.and_eq_true_iff.1 XH
     rw[Oy]at h⊢
     obtain⟨v,h,hv⟩:=pP yv h
     have ih:=yF hi hx l2 l1 _ (λk hk=>eO k (by simp[hk])) (λk hk=>dF k (by simp only[List.cons_append,cJ];exact .inr hk)) h
     rw[he]at ih
     refine eJ (λt ht=> ?_) (sW hx h2 h1 ih)
     obtain⟨⟨hf,hk⟩,A0⟩:=ht
     have hf':Fr W s t:=λk b hw hb=>hf yr k b hw hb
     refine⟨λ_=>hf',?_,vf (r:=s.less W) yv (by simpa[tf]using hv) (by simpa[tf]using HB hf') (λn hn=> ?_) (by rw[he];exact hk)⟩
     ·rw[gV,sU hy (kJ yv),Bool.true_and]
      have:=BV hk
      rw[qG (lC _ _),List.append_assoc]at this
      exact this
     ·exact A0 n (λhd=>h3 n hd hn)
   ·simp only[aJ,Bool.not_eq_true']at hp
    obtain⟨⟨yv,hya⟩,hp⟩:=hp
    split at hp
    case h_2=>simp at hp
    rename_i k hk
    simp only[aJ,bne_iff_ne,ne_eq,Bool.not_eq_true',List.contains_eq_mem,decide_eq_false_iff_not]at hp
    obtain⟨z,ND,pH⟩:=zO (P:=P) hk
    have hn:get s.bx k=none:=(BT hi hk).1 sb.2.2.1
    unfold kI at h
    rw[if_neg (by rw[yv];simp)]at h
    have h':jd P s y λt=>get t.bx k=none∧(λt'=>(fl j=true->Fr W (r9 k z s) t')∧nC P aos fl W E t' (l1++l2) K) (r9 k z t):=by
     refine eJ (λt ht=> ?_) h
     obtain⟨hf,ht⟩:=ht
     have ih:=yF hi hx l2 l1 _ (λk hk=>eO k (by simp[hk])) (λk hk=>dF k (by simp only[List.cons_append,cJ];exact .inr hk)) ht
     obtain⟨i1,_,i3⟩:=(pH t _).1 ih
     exact⟨i1,λe=>Lo (hf e),i3⟩
    refine(pH s _).2 ⟨hn,λ_=>Se hn,?_,?_⟩
    ·refine Ej hi hk (λm hm=>dF m (by simpa using hm)) ?_
     exact HD sb.1 sb.2.1 sb.2.2.2
    ·unfold kI
     rw[if_neg (by rw[yv];simp)]
     exact Lj hya hp.1 hp.2 hn h'
theorem xJ {W:List Nat} {f:Bool} {o:AO} {K K':St->Prop} (h:∀t,K t->K' t) (hk:kI P W f s o K):kI P W f s o K':=by
 unfold kI at hk⊢
 split at hk
 ·rename_i hq
  rw[if_pos hq]
  split at hk
  ·rename_i hf;rw[if_pos hf];exact eJ (λt ht=>h _ ht) hk
  ·rename_i hf;rw[if_neg hf];exact eJ h hk
 ·rename_i hq
  rw[if_neg hq]
  exact eJ (λt ht=>⟨ht.1,h t ht.2⟩) hk
theorem Gl {aos:List AO} {s:St} {p q:Nat} {l:List Nat}:gr aos s (q::p::l)=gr aos s (p::q::l):=by
 have h1:=gV (aos:=aos) (s:=s) (i:=q) (l:=p::l)
 have h2:=gV (aos:=aos) (s:=s) (i:=p) (l:=l)
 have h3:=gV (aos:=aos) (s:=s) (i:=p) (l:=q::l)
 have h4:=gV (aos:=aos) (s:=s) (i:=q) (l:=l)
 rw[h1,h2,h3,h4]
 exact Bool.and_left_comm _ _ _
theorem zZ {aos:List AO} {fl:Nat->Bool} {W E E':List Nat} {K:St->Prop} (hE:∀s,gr aos s E'=gr aos s E):∀ {l:List Nat} {s:St},nC P aos fl W E s l (λt=>jW P aos fl W t E' K)->jW P aos fl W s (l++E') K
 |[],s,h=>h.2
 |
  i::r,s,h=>by
  simp only[nC]at h
  simp only[List.cons_append,jW]
  cases ho:aos[i]?with
  |none=>rw[ho]at h;exact h.elim
  |
   some o=>
   rw[ho]at h
   simp only at h⊢
   refine⟨?_,xJ (λt ht=>zZ hE ht) h.2⟩
   have:=h.1
   rw[gV,wL]at this⊢
   rw[hE];exact this
end Go.Ab
namespace Go.Ab
variable [eo]
variable {P:Program} {nt:Nat} {ds:List Deferred} {s s':St} {Γ:Cx} {a:Act} {w:World} {Q:Exit->Act->World->Prop} [gK]
theorem Ep {listed:Array Bool} {ord l1 l2:List Nat} {i:Nat} (hi:i<listed.size) (hl:(ord.filter λi=> !listed.getD i true)=l1++i::l2) (NH:(l1++i::l2).Nodup):ord.filter (λj=> !(listed.setIfInBounds i true).getD j true)=l1++l2:=by
 have e:(λj=> !(listed.setIfInBounds i true).getD j true)=λj=>(decide (j≠i))&& !listed.getD j true:=by
  funext j
  by_cases A9:i=j
  ·subst A9;simp[Array.getD_eq_getD_getElem?,uJ hi]
  ·rw[getD_set_ne true A9];simp[Ne.symm A9]
 rw[e,←List.filter_filter,hl,List.filter_append,List.filter_cons]
 simp only[ne_eq,not_true,decide_false,fJ,if_false]
 have Ow:=List.nodup_append.1 NH
 rw[List.filter_eq_self.2,List.filter_eq_self.2]
 ·intro x hx;simp;rintro rfl;exact(List.nodup_cons.1 Ow.2.1).1 hx
 ·intro x hx;simp;rintro rfl;exact Ow.2.2 x hx x (by simp) rfl
theorem UA {aos:List AO} {us:List Nat} {W:List Nat} {i:Nat} {ao:AO} {l1 l2:List Nat} {K:St->Prop} (DI:aos[i]? =some ao) (rS:∀j∈l1,kK aos us.contains j i=true) (dF:∀j∈l1++l2,rh aos j i=true)
  (h:jW P aos us.contains W s (l1++i::l2) K):jd P s ao λt=>jW P aos us.contains W t (l1++l2) K:=by
 cases hx:ao.quiet with
 |
  true=>
  obtain⟨v,h1,h2⟩:=Gj DI hx l2 l1 s rS h
  exact h2 s (Sub.refl _) (λ_ _=>rfl) _ h1
 |false=>exact eJ (λt ht=>ht.2) (zV DI hx l2 l1 s rS dF h)
theorem OR {aos:List AO} {us:List Nat} {W E:List Nat} {i:Nat} {ao:AO} {l1 l2:List Nat} {K:St->Prop} (DI:aos[i]? =some ao) (rS:∀j∈l1,kK aos us.contains j i=true) (dF:∀j∈l1++(l2++E),rh aos j i=true)
  (h:nC P aos us.contains W E s (l1++i::l2) K):jd P s ao λt=>nC P aos us.contains W E t (l1++l2) K:=by
 cases hx:ao.quiet with
 |
  true=>
  obtain⟨v,h1,h2⟩:=HI DI hx l2 l1 s rS h
  exact h2 s (Sub.refl _) (λ_ _=>rfl) _ h1
 |false=>exact eJ (λt ht=>ht.2) (yF DI hx l2 l1 s rS dF h)
theorem Gm {ops:Array Oper} {listed:Array Bool} {i:Nat} {o:Oper} (hc:qf ops listed) (ho:ops[i]? =some o) (FD:∀e∈o.after,Region.binds .any e=true->listed.getD e.on false=true):qf ops (listed.setIfInBounds i true):=by
 intro k ok xt oe e he hb
 by_cases FX:i=k
 ·subst FX;rw[ho]at xt;cases xt;exact getD_set_true (FD e he hb)
 ·rw[getD_set_ne true FX]at oe;exact getD_set_true (hc k ok xt oe e he hb)
theorem OS {ops:Array Oper} {listed:Array Bool} {i j:Nat} (iA:listed.size=ops.size) (hc:qf ops listed) (hi:i∈Region.ready .any ops listed) (hj:j<ops.size) (hb:CR (jO ops.toList []) i j=true) (RX:(!listed.getD j true)=true):False:=by
 have:=wG hc (zy hb) hi
 have sL:j<listed.size:=by rw[iA];exact hj
 simp[Array.getD_eq_getD_getElem?,Array.getElem?_eq_getElem sL]at this RX
 rw[this]at RX;simp at RX
theorem HJ {ops:Array Oper} {ord:List Nat} (h:pQ ops ord=true):(∀i∈ord,i<ops.size)∧∀i,i<ops.size->i∈ord:=by
 simp only[pQ,aJ,List.all_eq_true,decide_eq_true_eq,List.mem_range]at h
 exact⟨h.1.2,λi hi=>by simpa using h.2 i hi⟩
theorem Gn {ops:Array Oper} {ord:List Nat} (cY:pQ ops ord=true):∀listed:Array Bool,listed.size=ops.size->Region.ready .any ops listed=[]->(ord.filter λi=> !listed.getD i true)=[]:=by
 simp only[pQ,aJ,List.all_eq_true,decide_eq_true_eq,List.mem_range]at cY
 obtain⟨⟨⟨hE,_⟩,eu⟩,eO⟩:=cY
 intro listed iA hr
 cases hl:ord.filter λi=> !listed.getD i true with
 |nil=>rfl
 |
  cons i l=>
  exfalso
  obtain⟨p,q,Hg,hp,hi,_⟩:=List.filter_eq_cons_iff.1 hl
  have hio:i<ops.size:=eu i (by rw[Hg];simp)
  have:i∈Region.ready .any ops listed:=by
   rw[mem_ready]
   refine⟨by simpa using hi,ops[i],Array.getElem?_eq_getElem hio,λe he hb=> ?_⟩
   rw[Hg]at hE
   rcases rj p [] hE _ (Array.getElem?_eq_getElem hio) e he hb with h1|h1
   ·simp at h1
   ·have h2:=hp _ h1
    have h3:e.on<listed.size:=by rw[iA];exact eu _ (by rw[Hg];simp[h1])
    simp[Array.getD_eq_getD_getElem?,Array.getElem?_eq_getElem h3]at h2⊢
    exact h2
  rw[hr]at this;simp at this
theorem vk {aos:List AO} {fl:Nat->Bool} {W E:List Nat}:∀ {l:List Nat} {s:St} {K K':St->Prop},(∀p,K p->K' p)->nC P aos fl W E s l K->nC P aos fl W E s l K'
 |[],s,K,K',h,hk=>⟨hk.1,h _ hk.2⟩
 |
  i::l,s,K,K',h,hk=>by
  simp only[nC]at hk⊢
  split at hk
  ·exact⟨hk.1,xJ (λt ht=>vk h ht) hk.2⟩
  ·exact hk.elim
theorem Gp {l m:List Nat} {p q:Nat} (h:(l++p::q::m).Nodup):(l++q::p::m).Nodup:=by
 refine(List.Perm.nodup_iff (List.Perm.append_left l (List.Perm.swap q p m))).1 h
theorem BW {ops:Array Oper} {aos:List AO} {fl:Nat->Bool} {l:List Nat} (h:ri (jO ops.toList []) aos fl l=true):l.Pairwise (vi ops aos fl):=rk h
def CZ (ops:Array Oper) (aos:List AO) (pre:List Nat) (p q:Nat) (suf us:List Nat):Bool:=
 pQ ops (pre++p::q::suf)&&pQ ops (pre++q::p::suf)&&ri (jO ops.toList []) aos us.contains (pre++p::suf)&&ri (jO ops.toList []) aos us.contains (pre++q::suf)&&p !=q&&rh aos p q&&suf.all λi=>CR (jO ops.toList []) i p||CR (jO ops.toList []) i q
theorem aa1 {ro:Option Nat} {ops:Array Oper} {aos:List AO} {own sp:List Nat} {pre suf us:List Nat} {p q:Nat} {W:List Nat} (od:∀(i:Nat) o,ops[i]? =some o->∃ao,aos[i]? =some ao∧qe P nt ops own sp true o=some ao)
  (XN:pQ ops (pre++p::q::suf)=true) (xt:pQ ops (pre++q::p::suf)=true) (xu:(pre++p::suf).Pairwise (vi ops aos us.contains)) (FC:(pre++q::suf).Pairwise (vi ops aos us.contains)) (XO:p≠q) (pH:rh aos p q=true) (alk:∀i∈suf,CR (jO ops.toList []) i p=true∨CR (jO ops.toList []) i q=true) {K:St->Prop}:
  ∀
   (n:Nat) (listed:Array Bool) {s:St} {Γ:Cx} {a:Act} {w:World},listed.size=ops.size->qf ops listed->(∀i∈p::q::suf,(!listed.getD i true)=true)->(pre.filter λi=> !listed.getD i true).length=n->
   iz nt ds s Γ a->w.heap=Γ.heap->zn P Γ->nC P aos us.contains W (p::q::suf) s (pre.filter λi=> !listed.getD i true) (λt=>jW P aos us.contains W t (p::q::suf) K∧jW P aos us.contains W t (q::p::suf) K)->D4 P nt ds Γ w K (Q .normal)->wpAnyIn (FW ro) 0 P .any ops Q (n+(suf.length+1+1)) listed a w:=by
 obtain⟨eu,eO⟩:=HJ XN
 have afj:(pre++p::q::suf).Nodup:=by
  have a1:=xu.imp (λh=>h.1.1)
  have a2:=FC.imp (λh=>h.1.1)
  obtain⟨b1,b2,b3⟩:=List.pairwise_append.1 a1
  obtain⟨c1,c2,c3⟩:=List.pairwise_append.1 a2
  refine List.pairwise_append.2 ⟨b1,.cons (λx hx=> ?_) c2,λx hx y hy=> ?_⟩
  ·rcases List.mem_cons.1 hx with rfl|hx
   ·exact XO
   ·exact List.rel_of_pairwise_cons b2 hx
  ·rcases List.mem_cons.1 hy with rfl|hy
   ·exact b3 x hx _ (by simp)
   ·exact c3 x hx y hy
 --what is not listed yet,in both orders
 have hE1:∀listed:Array Bool,(∀i∈p::q::suf,(!listed.getD i true)=true)->((pre++p::q::suf).filter λi=> !listed.getD i true)=(pre.filter λi=> !listed.getD i true)++p::q::suf:=by
  intro listed h
  rw[List.filter_append]
  congr 1
  rw[List.filter_eq_self];exact h
 have hE2:∀listed:Array Bool,(∀i∈p::q::suf,(!listed.getD i true)=true)->((pre++q::p::suf).filter λi=> !listed.getD i true)=(pre.filter λi=> !listed.getD i true)++q::p::suf:=by
  intro listed h
  rw[List.filter_append]
  congr 1
  rw[List.filter_eq_self];intro i hi;exact h i (by simp at hi⊢;rcases hi with h|h|h<;>simp[h])
 --one step
 have stepP:∀ {n:Nat},(∀m,m+1=n->∀(listed:Array Bool) {s:St} {Γ:Cx} {a:Act} {w:World},listed.size=ops.size->qf ops listed->(∀i∈p::q::suf,(!listed.getD i true)=true)->(pre.filter λi=> !listed.getD i true).length=m->
   iz nt ds s Γ a->w.heap=Γ.heap->zn P Γ->nC P aos us.contains W (p::q::suf) s (pre.filter λi=> !listed.getD i true) (λt=>jW P aos us.contains W t (p::q::suf) K∧jW P aos us.contains W t (q::p::suf) K)->D4 P nt ds Γ w K (Q .normal)->wpAnyIn (FW ro) 0 P .any ops Q (m+(suf.length+1+1)) listed a w)->
  ∀
   {listed:Array Bool} {s:St} {Γ:Cx} {a:Act} {w:World},listed.size=ops.size->qf ops listed->(∀i∈p::q::suf,(!listed.getD i true)=true)->(pre.filter λi=> !listed.getD i true).length=n->
   iz nt ds s Γ a->w.heap=Γ.heap->zn P Γ->nC P aos us.contains W (p::q::suf) s (pre.filter λi=> !listed.getD i true) (λt=>jW P aos us.contains W t (p::q::suf) K∧jW P aos us.contains W t (q::p::suf) K)->D4 P nt ds Γ w K (Q .normal)->wpAnyIn (FW ro) 0 P .any ops Q (n+(suf.length+1+1)) listed a w:=by
  intro n IH listed s Γ a w iA hc hu hn hs hw hY h hk
  refine⟨λhr=> ?_,λi hi=> ?_⟩
  ·exfalso
   have:=Gn XN listed iA hr
   rw[hE1 listed hu]at this;simp at this
  ·obtain⟨Ov,o,ho,FD⟩:=mem_ready.1 hi
   have RW:=(Array.getElem?_eq_some_iff.1 ho).1
   have Ui:i<listed.size:=by rw[iA];exact RW
   obtain⟨ao,DI,NG⟩:=od i o ho
   have Hh:=hE1 listed hu
   have qU:=hE2 listed hu
   have afk:=Gm hc ho FD
   have afl:(listed.setIfInBounds i true).size=ops.size:=by simp[iA]
   have NI:(pre.filter λi=> !listed.getD i true).Sublist pre:=List.filter_sublist
   have hFu:∀j∈(pre.filter λi=> !listed.getD i true),(!listed.getD j true)=true:=λj hj=>(List.mem_filter.1 hj).2
   have XP:((pre.filter λi=> !listed.getD i true)++p::q::suf).Nodup:=by rw[←Hh];exact afj.sublist List.filter_sublist
   have ux:∀j,j∈pre++p::q::suf->(!listed.getD j true)=true->CR (jO ops.toList []) i j=true->False:=λj hj RX hb=>OS iA hc hi (eu j hj) hb RX
   have kp:i∈(pre.filter λi=> !listed.getD i true)++p::q::suf:=by
    rw[←Hh,List.mem_filter];exact⟨eO i RW,by rw[Ov];rfl⟩
   have hpF:∀ {j x:Nat} {r:List Nat},j∈(pre.filter λi=> !listed.getD i true)->(pre++x::r).Pairwise (vi ops aos us.contains)->vi ops aos us.contains j x:=λhj hp=>(List.pairwise_append.1 hp).2.2 _ (NI.subset hj) _ (by simp)
   --p or q:what comes then stands in one order
   have afm:∀(q':Nat),pQ ops (pre++i::q'::suf)=true->((pre++i::q'::suf).filter λi=> !listed.getD i true)=(pre.filter λi=> !listed.getD i true)++i::q'::suf->(pre++i::suf).Pairwise (vi ops aos us.contains)->(pre++q'::suf).Pairwise (vi ops aos us.contains)->rh aos q' i=true->((pre.filter λi=> !listed.getD i true)++i::q'::suf).Nodup->
     jW P aos us.contains W s ((pre.filter λi=> !listed.getD i true)++i::q'::suf) K->wpOpIn (FW ro) 0 P ops Q i (wpAnyIn (FW ro) 0 P .any ops Q (n+(suf.length+1)) (listed.setIfInBounds i true)) a w:=by
    intro q' ok Oy Hi alm R0 NH h
    have qT:=Ep Ui Oy NH
    have rS:∀j∈(pre.filter λi=> !listed.getD i true),kK aos us.contains j i=true:=by
     intro j hj
     rcases(hpF hj Hi).2 with hb|hb
     ·exact(ux j (List.mem_append_left _ (NI.subset hj)) (hFu j hj) hb).elim
     ·exact hb
    have dF:∀j∈(pre.filter λi=> !listed.getD i true)++(q'::suf),rh aos j i=true:=by
     intro j hj
     rcases List.mem_append.1 hj with hj|hj
     ·exact(hpF hj Hi).1.2
     ·rcases List.mem_cons.1 hj with rfl|hj
      ·exact R0
      ·exact nz (List.rel_of_pairwise_cons (List.pairwise_append.1 Hi).2.1 hj).1.2
    refine qE ho NG hs hw hY (UA DI rS dF h) ?_
    intro s' Γ' a' w' b1 b2 b3 b4 b5
    refine aaZ (W:=W) (us:=us) od ok (n+(suf.length+1)) (listed.setIfInBounds i true) afl afk ?_ ?_ b1 b2 (hY.le b3) ?_ (hk.trans b3 b4)
    ·rw[qT];exact alm.sublist (List.Sublist.append NI (List.Sublist.refl _))
    ·rw[qT,List.length_append,hn];rfl
    ·rw[qT];exact b5
   rcases List.mem_append.1 kp with hiF|hiE
   ·--one of those ahead of both
    obtain⟨l1,l2,hl⟩:=List.append_of_mem hiF
    have NH:(l1++i::l2).Nodup:=by rw[←hl];exact(List.nodup_append.1 XP).1
    have qT:=Ep Ui hl NH
    have Kd:(pre.filter λi=> !listed.getD i true).Pairwise (vi ops aos us.contains):=(List.pairwise_append.1 xu).1.sublist NI
    rw[hl]at Kd
    have rS:∀j∈l1,kK aos us.contains j i=true:=by
     intro j hj
     have hjF:j∈pre.filter λi=> !listed.getD i true:=by rw[hl];simp[hj]
     rcases((List.pairwise_append.1 Kd).2.2 j hj i (by simp)).2 with hb|hb
     ·exact(ux j (List.mem_append_left _ (NI.subset hjF)) (hFu j hjF) hb).elim
     ·exact hb
    have dF:∀j∈l1++(l2++p::q::suf),rh aos j i=true:=by
     intro j hj
     rcases List.mem_append.1 hj with hj|hj
     ·exact((List.pairwise_append.1 Kd).2.2 j hj i (by simp)).1.2
     ·rcases List.mem_append.1 hj with hj|hj
      ·exact nz (List.rel_of_pairwise_cons (List.pairwise_append.1 Kd).2.1 hj).1.2
      ·rcases List.mem_cons.1 hj with rfl|hj
       ·exact nz (hpF hiF xu).1.2
       ·rcases List.mem_cons.1 hj with rfl|hj
        ·exact nz (hpF hiF FC).1.2
        ·exact nz ((List.pairwise_append.1 xu).2.2 _ (NI.subset hiF) _ (by simp[hj])).1.2
    rw[hl]at h hn
    refine qE ho NG hs hw hY (OR DI rS dF h) ?_
    intro s' Γ' a' w' b1 b2 b3 b4 b5
    have hf:n+(suf.length+1)=(l1++l2).length+(suf.length+1+1):=by simp at hn⊢;omega
    change wpAnyIn (FW ro) 0 P .any ops Q (n+(suf.length+1)) _ _ _
    rw[hf]
    refine IH (l1++l2).length (by simp at hn⊢;omega) (listed.setIfInBounds i true) afl afk ?_ (by rw[qT]) b1 b2 (hY.le b3) (by rw[qT];exact b5) (hk.trans b3 b4)
    intro j hj
    have A9:i≠j:=by
     rintro rfl
     exact(List.nodup_append.1 XP).2.2 _ hiF _ hj rfl
    rw[getD_set_ne true A9];exact hu j hj
   ·rcases List.mem_cons.1 hiE with rfl|hiE
    ·refine afm q XN Hh xu FC (nz pH) XP ?_
     exact zZ (λ_=>rfl) (vk (λt ht=>ht.1) h)
    ·rcases List.mem_cons.1 hiE with rfl|hiE
     ·refine afm p xt qU FC xu pH (by rw[←qU];exact(List.Nodup.sublist List.filter_sublist (Gp afj))) ?_
      exact zZ (λ_=>Gl) (vk (λt ht=>ht.2) h)
     ·exfalso
      rcases alk i hiE with hb|hb
      ·exact ux p (by simp) (hu p (by simp)) hb
      ·exact ux q (by simp) (hu q (by simp)) hb
 intro n
 induction n with
 |
  zero=>
  intro listed s Γ a w iA hc hu hn hs hw hY h hk
  exact stepP (λ_ II=>absurd II (by omega)) iA hc hu hn hs hw hY h hk
 |
  succ n ih=>
  intro listed s Γ a w iA hc hu hn hs hw hY h hk
  exact stepP (λm hm=>by
                obtain rfl:m=n:=by omega
                exact ih) iA hc hu hn hs hw hY h hk
theorem tZ {ro:Option Nat} {ops:Array Oper} {aos:List AO} {own sp:List Nat} {pre suf us:List Nat} {p q:Nat} {id:Nat} (hm:P.follows .mixedOrders=true) (ht:nH P nt ops own sp true ops.toList=some aos) (cY:CZ ops aos pre p q suf us=true) {K:St->Prop} (hs:iz nt ds s Γ a) (hw:w.heap=Γ.heap)
  (hY:zn P Γ) (h:∃W,nC P aos us.contains W (p::q::suf) s pre (λt=>jW P aos us.contains W t (p::q::suf) K∧jW P aos us.contains W t (q::p::suf) K)) (hk:D4 P nt ds Γ w K (Q .normal)):(Code.region id ops true).wpIn (FW ro) 0 P Q a w:=by
 obtain⟨W,h⟩:=h
 obtain⟨h1,h2⟩:=oT ht
 simp only[CZ,aJ,bne_iff_ne,ne_eq,List.all_eq_true,Bool.or_eq_true]at cY
 obtain⟨⟨⟨⟨⟨⟨k1,k2⟩,k3⟩,k4⟩,k5⟩,k6⟩,k7⟩:=cY
 obtain⟨eu,eO⟩:=HJ k1
 have hg:∀i∈pre++p::q::suf,(!(Array.replicate ops.size false).getD i true)=true:=by
  intro i hi
  have:=eu i hi
  simp[Array.getD_eq_getD_getElem?,this]
 have e:(pre.filter λi=> !(Array.replicate ops.size false).getD i true)=pre:=by
  rw[List.filter_eq_self]
  intro i hi
  exact hg i (by simp[hi])
 have hlen:ops.size=pre.length+(suf.length+1+1):=by
  simp only[pQ,aJ,beq_iff_eq]at k1
  have:=k1.1.1.2
  simp at this;omega
 have hgo:=aa1 (P:=P) (nt:=nt) (ds:=ds) (ro:=ro) (Q:=Q) (s:=s) (Γ:=Γ) (a:=a) (w:= {w with drawn:=w.drawn+1}) (K:=K) (W:=W) (λi o hi=>h2 i o (by simpa using hi)) k1 k2 (BW k3) (BW k4) k5 k6 k7 pre.length (Array.replicate ops.size false) (by simp) ?_ (λi hi=>hg i (List.mem_append_right _ hi)) (by rw[e]) hs hw hY (by rw[e];exact h) ?_
 ·rw[←hlen]at hgo
  exact wpIn_region_any hm hgo
 ·intro k o Uf hl
  have:=(Array.getElem?_eq_some_iff.1 Uf).1
  simp[Array.getD_eq_getD_getElem?,this]at hl
 ·intro s' Γ' a' w' b1 b2 b3 b4 b5
  exact hk s' Γ' a' w' b1 b2 b3 ⟨b4.os,b4.tape,b4.output⟩ b5
def HL (ops:Array Oper) (aos:List AO) (p q:Nat):List Nat:=(wN ops aos).filter λi=> !(i==p||i==q||CR (jO ops.toList []) i p||CR (jO ops.toList []) i q)
def HM (ops:Array Oper) (aos:List AO) (p q:Nat):List Nat:=(wN ops aos).filter λi=> !(i==p||i==q)&&(CR (jO ops.toList []) i p||CR (jO ops.toList []) i q)
def Lv (ops:Array Oper) (aos:List AO) (p q:Nat):List Nat:=
 let l:=HL ops aos p q++p::HM ops aos p q
 let m:=HL ops aos p q++q::HM ops aos p q
 early (jO ops.toList []) aos l++Ek (jO ops.toList []) aos [] l++early (jO ops.toList []) aos m++Ek (jO ops.toList []) aos [] m
def aa2 (own:List Nat):Option (Nat×Nat):=match own.find? (λn=>decide (1000000≤n))with|some n=>some ((n-1000000)/1000,(n-1000000)%1000)|none=>none
def aiu (own:List Nat) (aos:List AO):Option (Nat×Nat):=match aa2 own with|some (p,q)=>if(tY aos p&& !soB aos p&& !tY aos q)=true then some (p,q)else none|none=>none
end Go.Ab
namespace Go.Ab
variable [eo]
variable {P:Program} {nt:Nat} {ds:List Deferred} {s:St} {Γ Δ Γ0:Cx} {a:Act} {w w0:World} [gK]
inductive dD
 |skip
 |region (l:List AO)
 |regionD (l:List AO) (ord us:List Nat)
 |regionE (l:List AO) (pre:List Nat) (p q:Nat) (suf us:List Nat)
 |seq (x y:dD)
 |cond (c:AX) (x y:dD)
 |block (id:Nat) (x:dD)
 |loop (x:dD)
 |exit (id:Nat)
 |ret
 |seqm (x y:dD)
 |rangeF (g:AX) (ps:List Nat) (x y:dD)
def erase:dD->dD
 | .seq x y| .seqm x y=> .seq (erase x) (erase y)
 | .cond c x y=> .cond c (erase x) (erase y)
 | .block id x=> .block id (erase x)
 | .loop x=> .loop (erase x)
 | .skip=> .skip
 | .region l=> .region l
 | .regionD l o u=> .regionD l o u
 | .regionE l a p q b u=> .regionE l a p q b u
 | .exit id=> .exit id
 | .ret=> .ret
 | .rangeF g ps x y=> .rangeF g ps (erase x) (erase y)
def sk:dD->Bool
 | .seq x y| .seqm x y| .cond _ x y=>sk x&&sk y
 | .block _ x| .loop x=>sk x
 | .rangeF .. =>false
 |_=>true
theorem rl:∀c:dD,sk (erase c)=sk c
 | .seq x y| .seqm x y| .cond _ x y=>by simp[erase,sk,rl x,rl y]
 | .block _ x| .loop x=>by simp[erase,sk,rl x]
 | .rangeF .. | .skip| .region _| .regionD .. | .regionE .. | .exit _| .ret=>by simp[erase,sk]
noncomputable def gu (P:Program) (nt:Nat) (own sp:List Nat):Code->Option dD
 | .skip=>some .skip
 | .region _ ops false=>match nH P nt ops own sp false ops.toList with|some l=>some (.region l)|none=>none
 | .region _ ops true=>match nH P nt ops own sp true ops.toList with|some l=>if P.follows .mixedOrders=true then(if CS ops l=true then some (.region l)else match aiu own l with|some (p,q)=>(if CZ ops l (HL ops l p q) p q (HM ops l p q) (Lv ops l p q)=true then some (.regionE l (HL ops l p q) p q (HM ops l p q) (Lv ops l p q))else none)|none=>if vh ops l (wN ops l) (HG ops l)=true then some (.regionD l (wN ops l) (HG ops l))else none)else none|none=>none
 | .seq x y=>match gu P nt own sp x,gu P nt own sp y with|some x,some y=>some (.seq x y)|_,_=>none
 | .cond c x y=>match jG c,gu P nt own sp x,gu P nt own sp y with|some c,some x,some y=>some (.cond c x y)|_,_,_=>none
 | .block id x=>match gu P nt own sp x with|some x=>some (.block id x)|none=>none
 | .loop x=>match gu P nt own sp x with|some x=>some (.loop x)|none=>none
 | .exit id=>some (.exit id)
 | .ret=>some .ret
 |
  .rangeFunc g ps x y=>match jG g,gu P nt own sp x,gu P nt own sp y with
  |some g,some x,some y=>if(ps.toList.all (λt=>decide (t<nt))&&sk x&&sk y)=true then some (.rangeF g ps.toList x y)else none
  |_,_,_=>none
 |_=>none
theorem Jm (own sp:List Nat):∀(c:Code) {ac:dD},gu P nt own sp c=some ac->erase ac=ac:=by
 intro c
 induction c with
 |
  seq x y ihx ihy=>
  intro ac h
  simp only[gu]at h
  split at h<;>simp only[sJ,reduceCtorEq]at h
  subst h
  rename_i hx hy
  simp only[erase,ihx hx,ihy hy]
 |
  cond c x y ihx ihy=>
  intro ac h
  simp only[gu]at h
  split at h<;>simp only[sJ,reduceCtorEq]at h
  subst h
  rename_i hx hy
  simp only[erase,ihx hx,ihy hy]
 |
  block id x ih=>
  intro ac h
  simp only[gu]at h
  split at h<;>simp only[sJ,reduceCtorEq]at h
  subst h
  rename_i hx
  simp only[erase,ih hx]
 |
  loop x ih=>
  intro ac h
  simp only[gu]at h
  split at h<;>simp only[sJ,reduceCtorEq]at h
  subst h
  rename_i hx
  simp only[erase,ih hx]
 |
  rangeFunc g ps x y ihx ihy=>
  intro ac h
  simp only[gu]at h
  split at h
  ·split at h<;>simp only[sJ,reduceCtorEq]at h
   subst h
   rename_i hx hy _
   simp only[erase,ihx hx,ihy hy]
  ·simp at h
 |
  region id ops d=>
  intro ac h
  cases d<;>simp only[gu]at h<;>(repeat' split at h)<;>simp only[sJ,reduceCtorEq]at h<;>subst h<;>rfl
 |_=>intro ac h;simp only[gu,sJ,reduceCtorEq]at h;try(subst h;rfl)
structure LkF where
 f:dD->dD
 h:∀c,f c=c
theorem Lw:Nonempty LkF:=⟨⟨id,λ_=>rfl⟩⟩
noncomputable abbrev lk:dD->dD:=(Classical.choice Lw).f
theorem Lx (c:dD):lk c=c:=(Classical.choice Lw).h c
def HN:dD->Bool
 | .loop _| .rangeF .. =>true
 | .seq x y| .cond _ x y=>HN x||HN y
 | .block _ x=>HN x
 |_=>false
def UB:dD->Bool
 | .skip| .exit _| .ret=>true
 | .seq x y=>UB x&&UB y
 |_=>false
noncomputable def FI:dD->dD
 | .seq x y=> .seq (FI x) (bif HN x&& !UB y then lk (FI y)else FI y)
 | .cond c x y=> .cond c (FI x) (FI y)
 | .block id x=> .block id (FI x)
 | .loop x=> .loop (lk (FI x))
 | .rangeF g ps x y=> .rangeF g ps (FI x) (lk (FI y))
 | .skip=> .skip
 | .region l=> .region l
 | .regionD l o u=> .regionD l o u
 | .regionE l a p q b u=> .regionE l a p q b u
 | .exit id=> .exit id
 | .ret=> .ret
 | .seqm x y=> .seqm x y
theorem rm:∀c,FI c=c
 | .seq x y=>by simp only[FI,rm x,rm y,Lx,Bool.cond_self]
 | .cond _ x y=>by simp only[FI,rm x,rm y]
 | .block _ x=>by simp only[FI,rm x]
 | .loop x=>by simp only[FI,rm x,Lx]
 | .rangeF _ _ x y=>by simp only[FI,rm x,rm y,Lx]
 | .skip| .region _| .regionD .. | .regionE .. | .exit _| .ret| .seqm .. =>rfl
def Lp (body:(Exit->St->Prop)->St->Prop) (Q:Exit->St->Prop) (s:St):Prop:=
 ∃(I:Nat->St->Prop) (c:List Cut),(gQ c s λs'=>∃n,I n s')∧∀n s,I n s->body (th Q λs'=>∃c':List Cut,gQ c' s' λs'=>∃m,m<n∧I m s') s
def Md (x y:(Exit->St->Prop)->St->Prop) (Q:Exit->St->Prop) (s:St):Prop:=
 ∃M:St->Prop,x (th Q λs'=>∃c:List Cut,gQ c s' M) s∧∀s',M s'->y Q s'
def aw (P:Program):dD->(Exit->St->Prop)->St->Prop
 | .skip,Q,s=>Q .normal s
 | .region l,Q,s=>Hv P s l (Q .normal)
 | .regionD l o u,Q,s=>∃W,jW P l u.contains W s o (Q .normal)
 | .regionE l a p q b u,Q,s=>∃W,nC P l u.contains W (p::q::b) s a λt=>jW P l u.contains W t (p::q::b) (Q .normal)∧jW P l u.contains W t (q::p::b) (Q .normal)
 | .seq x y,Q,s=>aw P x (th Q λs'=>aw P y Q s') s
 |
  .cond c x y,Q,s=>match vx s c with
  | .bl b=>(b=true->aw P x Q s)∧(b=false->aw P y Q s)
  | .gd g (.bl b)=>g=true∧(b=true->aw P x Q s)∧(b=false->aw P y Q s)
  |_=>False
 | .block id x,Q,s=>aw P x (Sf id Q) s
 | .loop x,Q,s=>Lp (λQ s=>aw P x Q s) Q s
 | .exit id,Q,s=>Q (.exit id) s
 | .ret,Q,s=>Q .ret s
 | .seqm x y,Q,s=>Md (λQ s=>aw P x Q s) (λQ s=>aw P y Q s) Q s
 |
  .rangeF g ps x y,Q,s=>match vx s g with
  | .fn (.func fid) [] cap=>Gk P (λQ s=>aw P x Q s) (λQ s=>aw P y Q s) s fid cap ps λs'=>Q .normal s'
  |_=>False
theorem vl {p:Nat->Prop} (h:∃n,p n):∃n,p n∧∀m,m<n->¬p m:=by
 obtain⟨n,hn⟩:=h
 induction n using Nat.strongRecOn with
 |
  _ n ih=>
  by_cases hex:∃m,m<n∧p m
  ·obtain⟨m,hm,hp⟩:=hex;exact ih m hm hp
  ·exact⟨n,hn,λm hm hp=>hex ⟨m,hm,hp⟩⟩
noncomputable def least (p:Nat->Prop):Nat:=by
 classical exact if h:∃n,p n then Classical.choose (vl h)else 0
theorem z6 {p:Nat->Prop} (h:∃n,p n):p (least p)∧∀m,p m->least p≤m:=by
 unfold least
 rw[dif_pos h]
 have:=Classical.choose_spec (vl h)
 exact⟨this.1,λm hm=>Nat.not_lt.1 λeu=>this.2 m eu hm⟩
theorem Ly (own sp:List Nat):∀(c:Code) {ro:Option Nat} {Γ0:Cx} {w0:World} {ac:dD} {Q:Exit->St->Prop} {s:St} {Γ:Cx} {a:Act} {w:World} {ds:List Deferred},(ro.isSome=true->sk ac=true)->HK Γ0->zn P Γ0->gu P nt own sp c=some (erase ac)->aw P ac Q s->iz nt ds s Γ a->mj Γ0.heap.size Γ ds->w.heap=Γ.heap->Le Γ0 Γ->WF w0 w->
  c.wpIn (FW ro) 0 P (lift nt Γ0 w0 Q) a w:=by
 have key:∀ {Γ0:Cx} {w0:World} {Γ:Cx} {a:Act} {w:World} {ds:List Deferred} {K:St->Prop},w.heap=Γ.heap->WF w0 w->mj Γ0.heap.size Γ ds->rM nt ds Γ0 Γ a K->∃s' Γ',iz nt ds s' Γ' a∧mj Γ0.heap.size Γ' ds∧w.heap=Γ'.heap∧Le Γ0 Γ'∧WF w0 w∧K s':=by
  intro Γ0 w0 Γ a w ds K b2 b4 bd hg
  obtain⟨s',Γ',g1,g2,g3,g4⟩:=hg
  exact⟨s',Γ',g1,bd.heap g2,by rw[g2];exact b2,g3,b4,g4⟩
 intro c
 induction c with
 |
  skip=>
  intro ro Γ0 w0 ac Q s Γ a w ds hr oq hY ht h hs hd hw hle qq
  simp only[gu,sJ]at ht
  cases ac<;>simp only[erase,reduceCtorEq]at ht
  exact wpIn_skip ⟨ds,s,Γ,hs,hd,hw,hle,qq,h⟩
 |
  exit id=>
  intro ro Γ0 w0 ac Q s Γ a w ds hr oq hY ht h hs hd hw hle qq
  simp only[gu,sJ]at ht
  cases ac<;>simp only[erase,reduceCtorEq,dD.exit.injEq]at ht
  subst ht
  exact wpIn_exit ⟨ds,s,Γ,hs,hd,hw,hle,qq,h⟩
 |
  ret=>
  intro ro Γ0 w0 ac Q s Γ a w ds hr oq hY ht h hs hd hw hle qq
  simp only[gu,sJ]at ht
  cases ac<;>simp only[erase,reduceCtorEq]at ht
  exact wpIn_ret ⟨ds,s,Γ,hs,hd,hw,hle,qq,h⟩
 |
  region id ops draw=>
  intro ro Γ0 w0 ac Q s Γ a w ds hr oq hY ht h hs hd hw hle qq
  have hk:D4 P nt ds Γ w (Q .normal) (lift nt Γ0 w0 Q .normal):=λs' Γ' a' w' b1 b2 b3 b4 b5=>⟨ds,s',Γ',b1,hd.le hs.mem b3,b2,hle.trans b3,qq.trans b4,b5⟩
  have hY':=hY.le hle
  cases draw with
  |
   false=>
   simp only[gu]at ht
   split at ht<;>simp only[sJ,reduceCtorEq]at ht
   rename_i l hl
   cases ac<;>simp only[erase,reduceCtorEq,dD.region.injEq]at ht
   subst ht
   exact CP hl hs hw hY' h hk
  |
   true=>
   simp only[gu]at ht
   split at ht
   ·rename_i l hl
    split at ht
    ·rename_i hm
     split at ht
     ·rename_i cY
      simp only[sJ]at ht
      cases ac<;>simp only[erase,reduceCtorEq,dD.region.injEq]at ht
      subst ht
      exact u5 hm hl cY hs hw hY' h hk
     ·split at ht
      ·split at ht
       ·simp only[sJ]at ht
        rename_i cY
        cases ac<;>simp only[erase,reduceCtorEq,dD.regionE.injEq]at ht
        obtain⟨rfl,rfl,rfl,rfl,rfl,rfl⟩:=ht
        exact tZ hm hl cY hs hw hY' h hk
       ·simp at ht
      ·split at ht
       ·simp only[sJ]at ht
        rename_i cY
        cases ac<;>simp only[erase,reduceCtorEq,dD.regionD.injEq]at ht
        obtain⟨rfl,rfl,rfl⟩:=ht
        exact tX hm hl cY hs hw hY' h hk
       ·simp at ht
    ·simp at ht
   ·simp at ht
 |
  seq x y ihx ihy=>
  intro ro Γ0 w0 ac Q s Γ a w ds hr oq hY ht h hs hd hw hle qq
  simp only[gu]at ht
  split at ht<;>simp only[sJ,reduceCtorEq]at ht
  rename_i ax ay hx hy
  cases ac<;>simp only[erase,reduceCtorEq,dD.seq.injEq]at ht
  ·obtain⟨rfl,rfl⟩:=ht
   simp only[aw]at h
   simp only[sk,aJ]at hr
   refine wpIn_seq (wpIn_mono (ihx (λe=>(hr e).1) oq hY hx h hs hd hw hle qq) λe a' w' he=> ?_)
   have:=zX he
   cases e with
   |
    normal=>
    obtain⟨ds',s',Γ',b1,bd,b2,b3,b4,b5⟩:=this
    exact ihy (λe=>(hr e).2) oq hY hy b5 b1 bd b2 b3 b4
   |_=>exact this
  ·obtain⟨rfl,rfl⟩:=ht
   simp only[aw]at h
   simp only[sk,aJ]at hr
   obtain⟨M,h1,h2⟩:=h
   refine wpIn_seq (wpIn_mono (ihx (λe=>(hr e).1) oq hY hx h1 hs hd hw hle qq) λe a' w' he=> ?_)
   have:=zX he
   cases e with
   |
    normal=>
    obtain⟨ds',s',Γ',b1,bd,b2,b3,b4,c,b5⟩:=this
    obtain⟨s3,Γ3,d1,dd,d2,d3,d4,d5⟩:=key (Γ:=Γ') b2 b4 bd (ny oq c b1 b3 b5)
    exact ihy (λe=>(hr e).2) oq hY hy (h2 _ d5) d1 dd d2 d3 d4
   |_=>exact this
 |
  cond c x y ihx ihy=>
  intro ro Γ0 w0 ac Q s Γ a w ds Kt oq hY ht h hs hd hw hle qq
  simp only[gu]at ht
  split at ht<;>simp only[sJ,reduceCtorEq]at ht
  rename_i c' ax ay hc hx hy
  cases ac<;>simp only[erase,reduceCtorEq,dD.cond.injEq]at ht
  obtain⟨rfl,rfl,rfl⟩:=ht
  simp only[aw]at h
  simp only[sk,aJ]at Kt
  have hr:=wg hc hs
  split at h
  ·rename_i b hb
   rw[hb]at hr
   simp only[aN]at hr
   have hcv:a.eval c= .bool b:=by generalize a.eval c=v at hr;cases hr;rfl
   exact wpIn_cond_split hcv (λhb=>ihx (λe=>(Kt e).1) oq hY hx (h.1 hb) hs hd hw hle qq) (λhb=>ihy (λe=>(Kt e).2) oq hY hy (h.2 hb) hs hd hw hle qq)
  ·rename_i g b hb
   rw[hb,aN]at hr
   have hr:=hr.1 h.1
   simp only[aN]at hr
   have hcv:a.eval c= .bool b:=by generalize a.eval c=v at hr;cases hr;rfl
   exact wpIn_cond_split hcv (λhb=>ihx (λe=>(Kt e).1) oq hY hx (h.2.1 hb) hs hd hw hle qq) (λhb=>ihy (λe=>(Kt e).2) oq hY hy (h.2.2 hb) hs hd hw hle qq)
  ·exact h.elim
 |
  block id x ih=>
  intro ro Γ0 w0 ac Q s Γ a w ds hr oq hY ht h hs hd hw hle qq
  simp only[gu]at ht
  split at ht<;>simp only[sJ,reduceCtorEq]at ht
  rename_i ax hx
  cases ac<;>simp only[erase,reduceCtorEq,dD.block.injEq]at ht
  obtain⟨rfl,rfl⟩:=ht
  simp only[aw]at h
  exact wpIn_block (wpIn_mono (ih (λe=>by simpa only[sk]using hr e) oq hY hx h hs hd hw hle qq) λe a' w' he=>Lt he)
 |
  loop x ih=>
  intro ro Γ0 w0 ac Q s Γ a w ds Kt oq hY ht h hs hd hw hle qq
  simp only[gu]at ht
  split at ht<;>simp only[sJ,reduceCtorEq]at ht
  rename_i ax hx
  cases ac<;>simp only[erase,reduceCtorEq,dD.loop.injEq]at ht
  subst ht
  simp only[aw]at h
  obtain⟨I,cs,h0,hr⟩:=h
  let J:Act->World->Nat->Prop:=λa w n=>∃ds s Γ,iz nt ds s Γ a∧mj Γ0.heap.size Γ ds∧w.heap=Γ.heap∧Le Γ0 Γ∧WF w0 w∧I n s
  refine wpIn_loop (λa w=>∃n,J a w n) (λa w=>least (J a w)) ?_ ?_
  ·obtain⟨s',Γ',b1,bd,b2,b3,b4,n,b5⟩:=key (Γ:=Γ) hw qq hd (ny oq cs hs hle h0)
   exact⟨n,ds,s',Γ',b1,bd,b2,b3,b4,b5⟩
  ·intro a1 w1 hJ
   obtain⟨⟨ds1,s1,Γ1,b1,bd,b2,b3,b4,b5⟩,pv⟩:=z6 hJ
   refine wpIn_mono (ih (λe=>by simpa only[sk]using Kt e) oq hY hx (hr _ _ b5) b1 bd b2 b3 b4) λe a' w' he=> ?_
   have:=zX he
   cases e with
   |
    normal=>
    obtain⟨ds2,s2,Γ2,c1,cd,c2,c3,c4,Cn,c5⟩:=this
    obtain⟨s3,Γ3,d1,dd,d2,d3,d4,m,eu,d5⟩:=key (Γ:=Γ2) c2 c4 cd (ny oq Cn c1 c3 c5)
    have hJm:J a' w' m:=⟨ds2,s3,Γ3,d1,dd,d2,d3,d4,d5⟩
    exact⟨⟨m,hJm⟩,Nat.lt_of_le_of_lt ((z6 ⟨m,hJm⟩).2 m hJm) eu⟩
   |_=>exact this
 |
  rangeFunc g ps x y ihx ihy=>
  intro ro Γ0 w0 ac Q s Γ a w ds hr oq hY ht h hs hd hw hle qq
  simp only[gu]at ht
  split at ht
  case h_2=>simp at ht
  rename_i g' ax ay hg hx hy
  split at ht
  case isFalse=>simp at ht
  rename_i cY
  simp only[aJ,List.all_eq_true,decide_eq_true_eq]at cY
  simp only[sJ]at ht
  cases ac<;>simp only[erase,reduceCtorEq,dD.rangeF.injEq]at ht
  obtain⟨rfl,rfl,rfl,rfl⟩:=ht
  cases ro with
  |some l=>exact absurd (hr rfl) (by simp[sk])
  |
   none=>
   simp only[aw]at h
   have hrg:=wg hg hs
   split at h
   ·rename_i fid cap hb
    rw[hb]at hrg
    have n1:=cY.1.2
    have n2:=cY.2
    rw[rl]at n1 n2
    exact Eo (λk1 k2 k3 k4 k5 k6 k7 k8=>ihx (λ_=>n1) k1 k2 hx k3 k4 k5 k6 k7 k8) (λk1 k2 k3 k4 k5 k6 k7 k8=>ihy (λ_=>n2) k1 k2 hy k3 k4 k5 k6 k7 k8) cY.1.1 hs hd hw hle qq hrg h
   ·exact h.elim
 |_=>intro ro Γ0 w0 ac Q s Γ a w ds hr oq hY ht;simp[gu]at ht
end Go.Ab
namespace Go.Ab
variable [eo]
variable {P:Program} {nt:Nat} {ds:List Deferred} {s:St} {Γ Δ Γ0:Cx} {a:Act} {w w0:World}
def BX (P:Program):ResultVar->Option AK
 | .tmp t=>some (.mv (.t t))
 | .cell t ty=>match nM P ty,jz P ty with|some g,some n=>some (.load g n (.t t))|_,_=>none
structure aY where
 nt:Nat
 res:List AK
 code:dD
def aY.er (f:aY):aY:=⟨f.nt,f.res,erase f.code⟩
noncomputable def kL (P:Program) (own sp:List Nat) (f:FuncId):Option aY:=
 match P.funcs[f]?with
 |
  some fn=>if(fn.name== "runtime.NumGoroutine")=false then(match fn.body with
  |
   some c=>match gu P fn.ntmps own sp c,allM (BX P) fn.results.toList with
   |some ac,some rs=>some ⟨fn.ntmps,rs,ac⟩
   |_,_=>none
  |none=>none)else none
 |none=>none
noncomputable def Si (P:Program) (own sp:List Nat) (f:FuncId):Option aY:=
 match kL P own sp f with|some A=>some ⟨A.nt,A.res,FI A.code⟩|none=>none
theorem aL {own sp:List Nat} {f:FuncId} {A:aY} (h:Si P own sp f=some A):kL P own sp f=some A.er:=by
 unfold Si at h
 split at h
 ·rename_i B hB
  rw[hB]
  simp only[sJ]at h
  subst h
  rw[rm]
  have h2:=hB
  unfold kL at h2
  (repeat' split at h2)<;>simp only[sJ,reduceCtorEq]at h2
  subst h2
  rename_i hc _
  simp only[aY.er,Jm _ _ _ hc]
 ·simp at h
def FJ (s:St):List AK->(List PV->Prop)->Prop
 |[],K=>K []
 |k::r,K=>ev true s k λp=>FJ s r λps=>K (p::ps)
def gF:List PV->PV
 |[p]=>p
 |ps=> .tup ps
def PV.flat:PV->Bool
 | .gd _ _| .tup _=>false
 |_=>true
def OT (n:Nat) (res:List AK) (R:PV->List br->Prop) (s:St):Prop:=
 ∃
  (c:List Cut) (ks:List Nat),gQ c s λs'=>FJ s' res λps=>∃cm,(getAll s'.bx ks=some cm∧ks.Nodup∧ks.take n=eX n)∧
  (ps.all PV.flat=true∧ab (bS ks) (gF ps)=true∧cm.all (ah (bS ks))=true)∧R (az (bE ks) (gF ps)) (cm.map (aM (bE ks)))
def ends (n:Nat) (res:List AK) (R:PV->List br->Prop):Exit->St->Prop
 | .ret,s| .normal,s=>OT n res R s
 |_,_=>False
def ai:Nat->List PV->List (Nat×PV)
 |_,[]=>[]
 |i,p::r=>(i,p)::ai (i+1) r
theorem z7:∀(l:List PV) (i k:Nat),get (ai i l) k=if i≤k then l[k-i]?else none
 |[],i,k=>by simp[ai,get]
 |
  p::l,i,k=>by
  simp only[ai,get,z7 l (i+1) k]
  by_cases h:i=k
  ·subst h;simp
  ·rw[if_neg h]
   by_cases h2:i≤k
   ·rw[if_pos (by omega),if_pos h2,show k-i=(k-(i+1))+1 by omega,List.getElem?_cons_succ]
   ·rw[if_neg (by omega),if_neg h2]
theorem gp.at:∀ {l:List PV} {vs:List Value} {i:Nat} {p:PV},gp Γ l vs->l[i]? =some p->∃v,vs[i]? =some v∧aN Γ p v
 |[],_,_,_,_,h=>by simp at h
 |p::l,[],_,_,h,_=>by simp[gp]at h
 |p::l,v::vs,0,q,h,hi=>by simp at hi;subst hi;exact⟨v,rfl,h.1⟩
 |p::l,v::vs,i+1,q,h,hi=>by simp at hi;simpa using gp.at h.2 hi
theorem Gq {t:TypeId} {v r:Value} (h:(Instr.loadAt t v).run P w= .ok r w):((do loadVar t (←asAddr v)):Sem Value).run P w= .ok r w:=by
 unfold Instr.loadAt at h
 cases v<;>first
  |(rename_i ad;cases ad<;>first|exact h|(simp[Instr.sureAddr,stuck]at h))
  |(simp[Instr.sureAddr,stuck]at h)
theorem aN.aa3 {p:PV} {v:Value} (h:aN Γ p v) (hf:p.flat=true):kr Γ p v:=by
 cases p<;>simp[PV.flat]at hf<;>first|exact h|(simp[kr])
def Er (tmps:Array Value):ResultVar->Sem Value
 | .tmp t=>pure (tmps.getD t undef)
 | .cell a t=>do loadVar t (←asAddr (tmps.getD a undef))
theorem HO (hs:iz nt ds s Γ a) (hw:w.heap=Γ.heap):∀ {rs:List ResultVar} {ks:List AK} {K:List PV->Prop},allM (BX P) rs=some ks->FJ s ks K->
  ∃ps vs,K ps∧(rs.mapM (Er a.tmps)).run P w= .ok vs w∧gp Γ ps vs
 |
  [],ks,K,h,he=>by
  simp only[allM,sJ]at h;subst h
  exact⟨[],[],he,rfl,trivial⟩
 |
  r::rs,ks,K,h,he=>by
  simp only[allM]at h
  split at h
  ·rename_i y l hy hl
   simp only[sJ]at h;subst h
   simp only[FJ]at he
   have h1:∃p v,(FJ s l λps=>K (p::ps))∧(Er a.tmps r).run P w= .ok v w∧aN Γ p v:=by
    cases r with
    |
     tmp t=>
     simp only[BX,sJ]at hy;subst hy
     simp only[ev]at he
     obtain⟨p,hp,hr⟩:=cy (x:= .tmp t) rfl hs rfl he
     exact⟨p,_,hp,rfl,hr⟩
    |
     cell t ty=>
     simp only[BX]at hy
     split at hy<;>simp only[sJ,reduceCtorEq]at hy
     rename_i g n hg hn;subst hy
     obtain⟨p,v,hp,ja,hr⟩:=DT (x:= .tmp t) rfl hs hw rfl hg hn he
     exact⟨p,v,hp,Gq ja,hr⟩
   obtain⟨p,v,hp,ja,hr⟩:=h1
   obtain⟨ps,vs,hK,afp,eO⟩:=HO hs hw hl hp
   refine⟨p::ps,v::vs,hK,?_,hr,eO⟩
   rw[List.mapM_cons]
   simp only[bJ,ja,rJ,afp]
   rfl
  ·simp at h
theorem HP:∀ {ps:List PV} {vs:List Value},gp Γ ps vs->ps.all PV.flat=true->kS Γ ps vs
 |[],[],_,_=>trivial
 |[],_::_,h,_=>by simp[gp]at h
 |_::_,[],h,_=>by simp[gp]at h
 |
  p::ps,v::vs,h,hf=>by
  simp only[List.all_cons,aJ]at hf
  exact⟨h.1.aa3 hf.1,HP h.2 hf.2⟩
def aa4:List Value->Value
 |[v]=>v
 |vs=> .tuple vs.toArray
theorem Gr (fn:Func) (tmps:Array Value) {vs:List Value} (h:(fn.results.toList.mapM (Er tmps)).run P w= .ok vs w):
  (results fn tmps).run P w= .ok (aa4 vs) w:=by
 have e:results fn tmps=(do
   let vs←fn.results.mapM (Er tmps)
   pure (if h:vs.size=1 then vs[0]else .tuple vs)):=by
  unfold results
  congr 1
 have h2:(fn.results.mapM (Er tmps)).run P w= .ok vs.toArray w:=by
  rw[Array.mapM_eq_mapM_toList,Sem.run_map,h];rfl
 rw[e,bJ,h2]
 simp only[rJ,Sem.run_pure]
 match vs with
 |[]=>rfl
 |[v]=>rfl
 |v::u::vs=>rfl
theorem Jn {fn:Func} {rs:List AK} {fp:List br} {R:PV->List br->Prop} (hr:allM (BX P) fn.results.toList=some rs) (h0:Γ0.bx=aG 0 fp) (oq:HK Γ0) (hs:iz nt ds s Γ a) (hw:w.heap=Γ.heap) (hle:Le Γ0 Γ) (h:OT fp.length rs R s):
  ∃v r rR Γ',(results fn a.tmps).run P w= .ok v w∧R r rR∧w.heap=Γ'.heap∧Mem Γ'∧Γ'.bx=aG 0 rR∧aN Γ' r v∧Le Γ0 Γ':=by
 obtain⟨c,ks,h⟩:=h
 obtain⟨s',Γ1,T4,hh,Ke,h⟩:=ny oq c hs hle h
 have xu:w.heap=Γ1.heap:=by rw[hh];exact hw
 obtain⟨ps,vs,h,ja,eO⟩:=HO T4 xu hr h
 obtain⟨cm,⟨hg,hn,hks⟩,⟨hf,hro,hbo⟩,hR⟩:=h
 rw[←T4.bx]at hg
 have pq:=Cx.El hg
 refine⟨_,_,_,Γ1.out ks cm,Gr fn a.tmps ja,hR,xu,Cx.HH T4.mem hg hn hbo,rfl,?_,Cx.Ls Ke h0 hg hks⟩
 have hv:aN Γ1 (gF ps) (aa4 vs):=by
  have hl:=eO.length
  match ps,vs,eO,hl with
  |[],[],_,_=>exact⟨[],rfl,trivial⟩
  |[p],[v],eO,_=>exact eO.1
  |p::q::ps,v::u::vs,eO,_=>exact⟨_,rfl,HP eO hf⟩
 exact hv.az pq hro
theorem rq {fn:Func} {rs:List AK} {fp:List br} {R:PV->List br->Prop} (hr:allM (BX P) fn.results.toList=some rs) (h0:Γ0.bx=aG 0 fp) (oq:HK Γ0) (h:OT fp.length rs R s):
  ∀
   (Ds:List Nat) {ds:List Deferred} {Γ:Cx} {w:World},iz nt ds s Γ a->w.heap=Γ.heap->Le Γ0 Γ->WF w0 w->Ds.Nodup->(∀D∈Ds,Γ0.heap.size≤D∧Γ.heap[D]? =some (.deferred (some [])))->
   LeavesInM (FW none) 0 P fn a.tmps (λe w'=>∃v r rR Γ',e= .returned v∧R r rR∧w'.heap=Γ'.heap∧Mem Γ'∧Γ'.bx=aG 0 rR∧aN Γ' r v∧Le Γ0 Γ'∧WF w0 w')
    (Ds.map λD=> {target:= .collected D,args:= #[]}) .returning w
 |
  [],ds,Γ,w,hs,hw,hle,qq,_,_=>by
  obtain⟨v,r,rR,Γ2,h1,h2,h3⟩:=Jn hr h0 oq hs hw hle h
  exact⟨v,h1,v,r,rR,Γ2,rfl,h2,h3.1,h3.2.1,h3.2.2.1,h3.2.2.2.1,h3.2.2.2.2,qq⟩
 |
  D::Ds,ds,Γ,w,hs,hw,hle,qq,hn,hd=>by
  obtain⟨Ko,hh⟩:=hd D (by simp)
  have hp:Γ.jb D:=⟨_,hh,rfl⟩
  obtain⟨hnm,II⟩:=List.nodup_cons.1 hn
  refine⟨by simp,.inl ⟨D,w.putObj D (.deferred none),rfl,run_takeDeferred (by rw[hw];exact hh),?_⟩⟩
  refine rq hr h0 oq h Ds (hs.obj hp) (uU hw) (uT hle Ko hp) (qq.trans (WF.obj _ _ _)) II (λD' hD'=> ?_)
  obtain⟨h1,h2⟩:=hd D' (by simp[hD'])
  exact⟨h1,by rw[jN (l:=D) (b:=D') (by rintro rfl;exact hnm hD')];exact h2⟩
theorem BY [gK] {f:FuncId} {A:aY} {own sp:List Nat} {args:List PV} {fp:List br} {R:PV->List br->Prop} (ht:kL P own sp f=some A.er) (hl:args.length≤A.nt)
  (h:aw P A.code (ends fp.length A.res R) ⟨ai 0 args,aG 0 fp⟩):
  (∀(vs:Array Value) (w:World),(callFunc f vs).run P w= .ok (.enter f vs) w)∧∀(Γ:Cx) (w:World) (vs:List Value),w.heap=Γ.heap->Mem Γ->Γ.bx=aG 0 fp->zn P Γ->gp Γ args vs->
   CallsIn (FW none) 0 P f vs.toArray w (λe w'=>∃v r rR Γ',e= .returned v∧R r rR∧w'.heap=Γ'.heap∧Mem Γ'∧Γ'.bx=aG 0 rR∧aN Γ' r v∧Le Γ Γ'∧WF w w'):=by
 unfold kL at ht
 split at ht
 case h_2=>simp at ht
 rename_i fn hfn
 split at ht
 case isFalse=>simp at ht
 rename_i afq
 split at ht
 case h_2=>simp at ht
 rename_i c hb
 split at ht
 case h_2=>simp at ht
 rename_i ac rs hac Ox
 simp only[sJ,aY.er,aY.mk.injEq]at ht
 obtain⟨hnt,R2,afr⟩:=ht
 subst R2 afr
 refine⟨λvs w=> ?_,λΓ w vs hw hm lj hY eO=> ?_⟩
 ·unfold callFunc
  simp only[bJ,run_program,rJ,hfn,afq,fJ,if_false,hb,Option.isNone_some,Sem.run_pure]
 ·have hlen:=eO.length
  have oq:HK Γ:=by
   intro k blk hk
   rw[lj,ig]at hk
   split at hk
   ·omega
   ·simp at hk
  refine callsIn_of_wp_marks hfn hb trivial (wpIn_mono (Ly own sp c (ro:=none) (ds:=[]) (by simp) oq hY hac h (Γ:=Γ) (a:= {tmps:=vs.toArray++Array.replicate (fn.ntmps-vs.toArray.size) undef,defers:=[]}) ⟨lj,?_,rfl,?_,hm⟩ .nil hw (Le.refl Γ) (WF.refl w)) ?_)
  ·simp;omega
  ·intro k p hk
   rw[z7]at hk
   simp only[Nat.zero_le,if_true,Nat.sub_zero]at hk
   obtain⟨v,hv,hr⟩:=eO.at hk
   have eu:=(List.getElem?_eq_some_iff.1 hv).1
   have e:(vs.toArray++Array.replicate (fn.ntmps-vs.toArray.size) undef).getD k undef=v:=by
    rw[Array.getD_eq_getD_getElem?,Array.getElem?_append_left (by simpa using eu)]
    simp[hv]
   simp only
   rw[e];exact hr
  ·rintro e a' w' ⟨ds',s',Γ',pz,⟨Ds,hD1,hD2,hD3⟩,Nv,xq,RZ,he⟩
   cases e with
   |ret=>show LeavesInM _ _ _ _ _ _ a'.defers _ _;rw[pz.defers,hD1];exact rq Ox lj oq he Ds pz Nv xq RZ hD2 hD3
   |normal=>show LeavesInM _ _ _ _ _ _ a'.defers _ _;rw[pz.defers,hD1];exact rq Ox lj oq he Ds pz Nv xq RZ hD2 hD3
   |_=>exact he.elim
theorem af.intro {f:FuncId} {A:aY} {own sp:List Nat} {args:List PV} {fp:List br} {R:PV->List br->Prop} (ht:kL P own sp f=some A.er) (hl:args.length≤A.nt)
  (h:aw P A.code (ends fp.length A.res R) ⟨ai 0 args,aG 0 fp⟩):af P f args fp R:=
 λΓ w vs h1 h2 h3 h4=> .inl ⟨(BY ht hl h).1 _ _,I8 ((BY ht hl h).2 Γ w vs h1 h2 h3 .no h4)⟩
end Go.Ab
