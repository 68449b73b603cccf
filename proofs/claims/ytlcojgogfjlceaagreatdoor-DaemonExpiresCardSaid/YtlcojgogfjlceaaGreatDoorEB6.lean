/- Functions of the program and of the document, as the abstract reading walks them, part 6. No condition. -/
import Derived.Test.YtlcojgogfjlceaaGreatDoorEB5
import Derived.Test.YtlcojgogfjlceaaGreatDoorEA5
set_option maxRecDepth 10000
set_option maxHeartbeats 4000000
set_option linter.all false
noncomputable section
namespace Go.Ab
structure VD (d:bh):Prop where
 ru:AP d.rules
 n0:0≤d.now
 n1:d.now≤16777216
 p0:0≤d.port
 p1:d.port≤65535
 bad:d.bad=0
 DT:IQ d.an
 Bg:∀p∈d.an,nI d p
 rts:Rf d.bQ
 rtl:d.bQ.length=d.an.length
 sls:sK d
 tis:Rh d
 s0:0≤d.qn
 s1:d.qn≤d.now
 rcn:d.fg=[]
 buc:d.buckets=[]
 kp:∃k:Key,d.ju=k.fv
 kr:∃k:Key,d.random=k.fv
theorem Wz {d:bh} (h:VD d):aL Pg 94 [gP d] (.int .i64 0):=by
 refine ae.intro (aC R.ny.2) (by simp[R.ny]) ?_;have hl:=h.DT.1;have hs:0≤d.rules.tV:=by have:=h.ru.2.2.2.2.2.2.2.2.2.2.2.2.2.2.2.1;omega
 have Sa:∀(i:Nat) (h:i+1<d.an.length),Ws d.an[i].b8 d.an[i+1].b8=true:=by
  intro i hi;rw[h.DT.2 i (by omega),h.DT.2 (i+1) hi];exact Re (by omega) (by omega)
 have hb:=h.bad;simp[R.ny,aj,av];refine ai.rA (GH h.ru) ?_;simp;refine ai.rA (jA (n:=d.now) (a:=0) (b:=1099511627776) h.n0 (by have:=h.n1;omega)) ?_;simp;refine ai.rA (jA (n:=d.port) (a:=0) (b:=65535) h.p0 h.p1) ?_;simp[hb];refine ai.rA (jA (n:=0) (a:=0) (b:=1099511627776) (by omega) (by omega)) ?_;simp;refine ai.rA (Wx (d:=d) (by omega) Sa) ?_;simp;refine ai.rA (Ku (d:=d) (k:=3) (by omega) (by omega) h.Bg h.n0 hs) ?_;simp;refine ai.rA (Ku (d:=d) (k:=4) (by omega) (by omega) h.Bg h.n0 hs) ?_;simp;refine ai.rA (Ku (d:=d) (k:=5) (by omega) (by omega) h.Bg h.n0 hs) ?_;simp;refine ai.rA (Rg (d:=d) h.rts h.DT h.rtl) ?_;simp;refine ai.rA (Wy (d:=d) h.sls h.DT h.Bg) ?_;simp;refine ai.rA (Ri (d:=d) h.tis h.n0 h.DT h.Bg) ?_;simp;refine ai.rA (adn (d:=d) h.s0 h.s1 h.rcn h.buc) ?_;simp;refine aA.plain [] ?_;simp
theorem VX {d:bh} (h:VD d):aL Pg 42 [gP d] (.bl true):=by
 refine ae.intro (aC R.nz.2) (by simp[R.nz]) ?_;simp[R.nz,aj,av];refine ai.rA (Wz h) ?_;simp;refine aA.plain [] ?_;simp
def Rn:PV:= .sl 86 [] true
@[simp] theorem ahk:Pure Rn:=by simp[Rn]
@[simp] theorem adq:Rn.width=1:=rfl
def E3 (d:bh) (p:PV):PV:= .st 149 [aY d p,Rn]
@[simp↓] theorem amD (d:bh) (p:PV) (r:List Step):aO (E3 d p) (.f 0 0::r)=aO (aY d p) r:=by simp[E3]
def Ro (c:PV):PV:= .st 149 [c,Rn]
@[simp↓] theorem amE (d:bh) (p:PV) (r:List Step) (x:PV):bO (E3 d p) (.f 0 0::r) x=(bO (aY d p) r x).bind λc=>some (Ro c):=by
 simp[E3,Ro]
@[simp↓] theorem aqX (d:bh) (p:PV):Ro (aY d p)=E3 d p:=_root_.id rfl
@[simp] theorem amF (f:Nat->Bool) (d:bh) (p:PV):af f (E3 d p)=af f p:=by
 simp[E3,ah]
@[simp] theorem aqY (ρ:Nat->Nat) (d:bh) (p:PV):aE ρ (E3 d p)=E3 d (aE ρ p):=by
 simp[E3,aS]
theorem Zs (d:bh) (p:PV):PV.st 149 [aY d p,.sl 86 [] true]=E3 d p:=rfl
def py (d:bh) (s:List gh):bh:= {d with aR:=s}
def uU (d:bh) (s:List cT):bh:= {d with timers:=s}
@[simp] theorem ahl (d:bh) (s:List gh):(py d s).aR=s:=rfl
@[simp] theorem auf (d:bh) (s t:List gh):py (py d s) t=py d t:=rfl
def bY (s:List gh) (l:List Int):List gh:=l.foldl (λs x=>s.filter (EW x)) s
theorem kt:∀(l:List Int) (s:List gh),(bY s l).length≤s.length
 |[],s=>JaQ _
 |x::l,s=>JeW (kt l _) (JfZ _ _)
theorem yz {s:List gh} {l:List Int} {i:Nat} (h:i<l.length):bY s (l.take (i+1))=(bY s (l.take i)).filter (EW l[i]):=by
 rw[JcZ h];unfold bY;rw[List.foldl_append];rfl
theorem yH {d:bh} (hs:d.aR.length≤1048576) {l:List Int} (hl:l.length≤8) (ps:List bM):
  ae Pg 49 [.pt KB [] 0,ow l] [.box (E3 d (.rs (KB+1) [] 0 ps.length ps.length 464 .tip)),.arr 464 (ps.map aP)]
   (λr fp=>r= .tup []∧fp=[.box (E3 (py d (bY d.aR l)) (.rs (KB+1) [] 0 ps.length ps.length 464 .tip)),.arr 464 (ps.map aP)]):=by
 refine ae.intro (aC R.iz.2) (by simp[R.iz]) ?_;simp[R.iz,aj,av];refine eW.fM l.length (λ_=>True) [0,6,7,8] (λi=>[(8,.int .i64 i)]) (λi=>[(KB,.box (E3 (py d (bY d.aR (l.take i))) (.rs (KB+1) [] 0 ps.length ps.length 464 .tip)))]) [.keep [0,6,7,8]] ?_;simp[show∀s,bY s []=s from λ_=>rfl,show py d d.aR=d from rfl];refine⟨λi hi K hK=> ?_,λK=> ?_⟩
 ·have hx:l[i]? =some l[i]:=gJ hi;rw[yz hi]at hK;have hle:=kt (l.take i) d.aR;generalize bY d.aR (l.take i)=S at*;simp[↓al,hi];refine ai.rA (Q9 (l:=S) (by omega) l[i]) ?_;simp[eI hi (by omega)];refine⟨[.keep [0,6,7,8]],?_⟩;simp;exact hK _ (by simp[py])
 ·simp[↓al];refine aA.with [] [KB,KB+1] ?_;simp[dh]
theorem AM {d:bh} (ht:d.timers.length≤1048575) {ps:List bM} {i:Nat} (hi:i<ps.length) (k:Int) {n:Int} (h1:0≤d.now) (h2:d.now≤16777216) (h3:0≤n) (h4:n≤16777216):
  ae Pg 51 [.pt KB [] 0,.int .i64 i,.int .i64 k,.int .i64 n] [.box (E3 d (.rs (KB+1) [] 0 ps.length ps.length 464 .tip)),.arr 464 (ps.map aP)]
   (λr fp=>r= .tup []∧fp=[.box (E3 (uU d (iI d.timers ⟨d.now+n,ps[i].b8,k⟩)) (.rs (KB+1) [] 0 ps.length ps.length 464 .tip)),.arr 464 (ps.map aP)]):=by
 refine ae.intro T.ed (by simp[F.ed]) ?_;have hx:ps[i]? =some ps[i]:=gJ hi;have hw:IntKind.i64.wrap (d.now+n)=d.now+n:=wrap_i64 (by omega);have e:PV.st 34 [.int .i64 (d.now+n),aG ps[i].b8,.int .i64 k]=bm ⟨d.now+n,ps[i].b8,k⟩:=rfl;simp[F.ed,aj,av,hi,hw,e];refine aM.rA (dL (l:=d.timers) ht ⟨d.now+n,ps[i].b8,k⟩) ?_;simp;refine aA.with [] [KB,KB+1] ?_;simp[dh,uU]
theorem VD.sml {d:bh} (h:VD d):Qo d where
 an:=by have:=h.DT.1;omega
 bQ:=by have:=h.rts.1;omega
 aR:=by have:=h.sls.len h.DT.1;omega
 timers:=by have:=h.tis.len;omega
 fg:=by rw[h.rcn];simp
 buckets:=by rw[h.buc];simp
 ej:=λp hp=>by rw[(h.Bg p hp).ej];simp
def u7 (r:rF) (s:kS) (own:Bool):rF:=if own=true then xl r s else QJ r s
def kC (r:rF) (own:Bool):List Int:=if own=true then tz r else Iq r
def pR (p:bM) (r:rF):bM:= {p with ring:=r}
def mw (d:bh) (i:Nat) (hi:i<d.an.length) (s:kS) (own:Bool):bh:=
 {d with an:=d.an.set i (pR d.an[i] (u7 d.an[i].ring s own)),aR:=Bj (bY d.aR (kC d.an[i].ring own)) ⟨s.loc,pC i,true⟩,timers:=iI d.timers ⟨d.now+3*d.rules.nc,pC i,5⟩}
theorem E2 (r:rF) (own:Bool):(kC r own).length≤8:=by
 unfold kC tz Iq;split
 ·split
  ·exact JeW (zL _) (by simp)
  ·exact JeW (zL _) (by simp)
 ·exact JeW (zL _) (by simp)
theorem oC {x:gh}:∀ {l:List Int} {s:List gh},x∈bY s l->x∈s
 |[],s,h=>h
 |y::l,s,h=>(JgQ.1 (oC (l:=l) h)).1
theorem E9 {l:List gh}:tY l↔(∀s∈l,s.index≠0)∧l.Pairwise (λa b=>a.index<b.index):=by
 constructor
 ·intro h;refine⟨λs hs=> ?_,JkX.2 (λi j hi hj G6=>h.lt' G6 hj)⟩;obtain⟨i,hi,rfl⟩:=JmJ.1 hs;exact h.1 i hi
 ·rintro⟨h1,h2⟩;exact⟨λi hi=>h1 _ (JbJ hi),λi hi=>JkX.1 h2 i (i+1) (by omega) hi (by omega)⟩
theorem Rp (s:gh):Bj [] s=[s]:=rfl
theorem Fa (a:gh) (l:List gh) (s:gh):Bj (a::l) s=if a.index<s.index then a::Bj l s else s::a::l:=by
 unfold Bj;by_cases h:a.index<s.index<;>simp[mK,h]
theorem sL (s:gh):∀l,(Bj l s).Perm (s::l)
 |[]=> .refl _
 |
  a::l=>by
  rw[Fa];split
  ·exact((sL s l).cons a).trans (.swap s a l)
  ·exact .refl _
theorem Fb {s:gh}:∀ {l:List gh},l.Pairwise (λa b=>a.index<b.index)->(∀x∈l,x.index≠s.index)->(Bj l s).Pairwise (λa b=>a.index<b.index)
 |[],_,_=>by simp[Rp]
 |
  a::l,h,hn=>by
  obtain⟨h1,h2⟩:=JjX.1 h
  have hna:=hn a (by simp)
  rw[Fa];split
  ·rename_i dk
   refine JjX.2 ⟨λx hx=> ?_,Fb h2 (λx hx=>hn x (by simp[hx]))⟩
   rcases cJ.1 ((sL s l).mem_iff.1 hx)with rfl|hx
   ·exact dk
   ·exact h1 x hx
  ·rename_i dk
   refine JjX.2 ⟨λx hx=> ?_,h⟩
   rcases cJ.1 hx with rfl|hx
   ·omega
   ·have:=h1 x hx;omega
theorem DD:∀(l:List Int) (s:List gh),bY s l=s.filter (λx=>decide (x.index∉l))
 |
  [],s=>by
  have:s.filter (λx=>decide (x.index∉([]:List Int)))=s:=JfX.2 (by simp)
  rw[this];rfl
 |
  y::l,s=>by
  have h:bY s (y::l)=bY (s.filter (EW y)) l:=rfl
  rw[h,DD l,JkZ]
  congr 1;funext x
  by_cases h1:x.index=y<;>by_cases h2:x.index∈l<;>simp[EW,h1,h2]
theorem Kv (r:rF) (s:kS) (own:Bool) (h:(AJ r).Nodup):
  (AJ (u7 r s own)).Perm (s.loc::(AJ r).filter (λx=>decide (x∉kC r own))):=by
 obtain⟨⟨ph,ps⟩,⟨ch,cs⟩,⟨nh,ns⟩⟩:=r
 cases own<;>cases ph<;>cases ch<;>cases nh<;>
  simp_all [AJ,tW,u7,kC,xl,tz,QJ,Iq,Wu,oN,JpV]<;>
  first
   |exact List.Perm.swap _ _ _
   |(rw[if_neg (λe=>h e.symm)];exact List.Perm.swap _ _ _)
   |(rw[if_neg (λe=>h.1.1 e.symm)];exact List.Perm.swap _ _ _)
   |(rw[if_pos ⟨λe=>h.1.2 e.symm,λe=>h.2 e.symm⟩];exact List.Perm.swap _ _ _)
theorem Kw {r:rF} {own:Bool} {x:Int} (h:x∈kC r own):x∈AJ r:=by
 obtain⟨⟨ph,ps⟩,⟨ch,cs⟩,⟨nh,ns⟩⟩:=r
 cases own<;>cases ph<;>cases ch<;>cases nh<;>
  simp_all [AJ,tW,kC,tz,Iq]<;>first|done|(rcases h with h|h<;>simp[h])
theorem Rr {α:Type} {l:List α} {i:Nat} (h:i<l.length):l=l.take i++l[i]::l.drop (i+1):=by
 rw[←List.drop_eq_getElem_cons h,JcJ]
theorem NO {α:Type} {l:List α} {i:Nat} (h:i<l.length) (x:α):l.set i x=l.take i++x::l.drop (i+1):=by
 rw[JpX,if_pos h]
theorem WA (p:bM) (r:rF):qw (pR p r)=(AJ r).map (λx=>⟨x,p.b8,true⟩):=rfl
theorem sK.inst {d:bh} (h:sK d) {i:Nat} (hi:i<d.an.length) (hk:d.an[i].b8=pC i) {s:kS} (h1:1≤s.loc) (pF:∀x∈d.aR,x.index≠s.loc) (own:Bool):sK (mw d i hi s own):=by
 obtain⟨Em,Bm⟩:=E9.1 h.so;have Ha:=h.nd;have nG:=h.pm;have hE:bY d.aR (kC d.an[i].ring own)=d.aR.filter (λx=>decide (x.index∉kC d.an[i].ring own)):=DD _ _;constructor
 ·show tY (Bj (bY d.aR (kC d.an[i].ring own)) ⟨s.loc,pC i,true⟩);rw[E9,hE];refine⟨λx hx=> ?_,Fb (Bm.filter _) (λx hx=>pF x (JgQ.1 hx).1)⟩;rcases cJ.1 ((sL _ _).mem_iff.1 hx)with rfl|hx
  ·show s.loc≠0;omega
  ·exact Em x (JgQ.1 hx).1
 ·show(Bj (bY d.aR (kC d.an[i].ring own)) ⟨s.loc,pC i,true⟩).Perm ((d.an.set i (pR d.an[i] (u7 d.an[i].ring s own))).flatMap qw);rw[hE];refine(sL _ _).trans ?_;rw[NO hi,List.flatMap_append,JsX,WA];have GR:=Rr hi;obtain⟨A,hA⟩:∃A,A=d.an.take i:=⟨_,rfl⟩
  obtain⟨B,hB⟩:∃B,B=d.an.drop (i+1):=⟨_,rfl⟩
  obtain⟨p,hp⟩:∃p,p=d.an[i]:=⟨_,rfl⟩
  rw[←hA,←hB,←hp]at GR;rw[←hA,←hB,←hp];rw[←hp]at hk;rw[GR,List.flatMap_append,JsX]at nG Ha;have Hb:=JgJ.1 Ha;have hn2:=JgJ.1 Hb.2.1;have hI:=Kv p.ring s own hn2.1;have hf:=nG.filter (λx=>decide (x.index∉kC p.ring own))
  have key:∀ {l:List bM},(∀q∈l,∀x∈AJ q.ring,x∉AJ p.ring)->(l.flatMap qw).filter (λx=>decide (x.index∉kC p.ring own))=l.flatMap qw:=by
   intro l hl;refine JfX.2 (λx hx=> ?_);obtain⟨q,hq,hx⟩:=JkW.1 hx;obtain⟨y,hy,rfl⟩:=JgX.1 hx;simp only[decide_eq_true_eq];exact λhd=>hl q hq y hy (Kw hd)
  have kA:=key (l:=A) (λq hq x hx hxp=>Hb.2.2 x (JkW.2 ⟨q,hq,hx⟩) x (JaZ.2 (.inl hxp)) rfl);have kB:=key (l:=B) (λq hq x hx hxp=>hn2.2.2 x hxp x (JkW.2 ⟨q,hq,hx⟩) rfl)
  have kp:(qw p).filter (λx=>decide (x.index∉kC p.ring own))=((AJ p.ring).filter (λx=>decide (x∉kC p.ring own))).map (λx=>⟨x,p.b8,true⟩):=by
   unfold qw;rw[List.filter_map];rfl
  rw[JkV,JkV,kA,kB,kp]at hf;have hI2:=hI.map (λx=>(⟨x,p.b8,true⟩:gh));refine((hf.cons _).trans ?_);refine List.Perm.trans ?_ ((hI2.symm.append_right _).append_left _);rw[JdX,hk,JeZ];exact List.perm_middle.symm
def Tok (t:cT):Prop:=∃i,i<3∧t.peer=pC i
theorem sM {a b:cT} {i j:Nat} (hi:i<3) (hj:j<3) (ha:a.peer=pC i) (hb:b.peer=pC j):
  dW a b=true↔a.at_<b.at_∨a.at_=b.at_∧(i<j∨i=j∧a.kind<b.kind):=by
 unfold dW;by_cases h1:a.at_=b.at_
 ·by_cases h2:i=j
  ·subst h2;have:a.peer=b.peer:=by rw[ha,hb]
   simp[h1,this]
  ·have h3:¬a.peer=b.peer:=by rw[ha,hb];exact λe=>h2 (vP hi hj e)
   rcases Nat.lt_or_gt_of_ne h2 with h4|h4
   ·have:=Re h4 hj;simp[h1,ha,hb,this,h4];exact Or.inl (λe=>h2 (vP hi hj e))
   ·have h5:Ws (pC i) (pC j)=false:=by
     rcases(by omega:i=1∧j=0∨i=2∧j=0∨i=2∧j=1)with⟨rfl,rfl⟩|⟨rfl,rfl⟩|⟨rfl,rfl⟩<;>rfl
    have h6:¬i<j:=by omega
    simp[h1,ha,hb,h5,h6,h2];intro e;exact absurd (vP hi hj e) h2
 ·simp[h1]
def Eh (t:cT):List cT->List cT
 |[]=>[t]
 |x::r=>if dW t x=true then t::x::r else x::Eh t r
theorem vO (l:List cT) (t:cT):iI l t=Eh t (bc l t.peer t.kind):=by
 have:∀r:List cT,r.take (ik t r)++[t]++r.drop (ik t r)=Eh t r:=by
  intro r;induction r with
  |nil=>rfl
  |
   cons x r ih=>
   by_cases h:dW t x=true
   ·simp[ik,Eh,h]
   ·simp[ik,Eh,h]at ih⊢
    exact ih
 exact this _
theorem mq (t:cT):∀l,(Eh t l).Perm (t::l)
 |[]=> .refl _
 |
  x::l=>by
  simp only[Eh];split
  ·exact .refl _
  ·exact((mq t l).cons x).trans (.swap t x l)
theorem Fc {t:cT} (ht:Tok t):∀ {l:List cT},(∀x∈l,Tok x)->(∀x∈l,¬(x.peer=t.peer∧x.kind=t.kind))->l.Pairwise (λa b=>dW a b=true)->(Eh t l).Pairwise (λa b=>dW a b=true)
 |[],_,_,_=>by simp[Eh]
 |
  x::l,hT,hn,h=>by
  obtain⟨h1,h2⟩:=JjX.1 h
  obtain⟨i,hi,ZY⟩:=ht
  obtain⟨j,hj,hxj⟩:=hT x (by simp)
  have hxn:=hn x (by simp)
  simp only[Eh];split
  ·rename_i dk
   refine JjX.2 ⟨λy hy=> ?_,h⟩
   rcases cJ.1 hy with rfl|hy
   ·exact dk
   ·obtain⟨k,hk,S9⟩:=hT y (by simp[hy])
    have:=h1 y hy
    rw[sM hj hk hxj S9]at this
    rw[sM hi hj ZY hxj]at dk
    rw[sM hi hk ZY S9]
    omega
  ·rename_i dk
   refine JjX.2 ⟨λy hy=> ?_,Fc ⟨i,hi,ZY⟩ (λz hz=>hT z (by simp[hz])) (λz hz=>hn z (by simp[hz])) h2⟩
   rcases cJ.1 ((mq t l).mem_iff.1 hy)with rfl|hy
   ·rw[sM hi hj ZY hxj]at dk
    rw[sM hj hi hxj ZY]
    have cS:¬(j=i∧x.kind=y.kind):=λe=>hxn ⟨by rw[hxj,ZY,e.1],e.2⟩
    omega
   ·exact h1 y hy
structure od (d:bh) (l:List cT) (m:Nat):Prop where
 so:l.Pairwise (λa b=>dW a b=true)
 rg:∀t∈l,2≤t.kind∧t.kind≤5∧d.now<t.at_∧t.at_≤4398046511104∧∃i,∃h:i<d.an.length,t.peer=pC i∧(t.kind=4->d.an[i].iH≠0)
 un:l.Pairwise (λa b=>¬(b.peer=a.peer∧b.kind=a.kind))
 len:l.length≤m
theorem od.toT {d:bh} {m:Nat} (hm:m≤1000) (h:od d d.timers m):Rh d where
 so:=λi hi=>JkX.1 h.so i (i+1) (by omega) hi (by omega)
 rg:=h.rg
 un:=λi j hi hj G6=>JkX.1 h.un i j hi hj G6
 len:=JeW h.len hm
theorem jh {l:List cT} {k:Key} {n:Int} {x:cT} (h:x∈bc l k n):x∈l∧¬(x.peer=k∧x.kind=n):=by
 obtain⟨h1,h2⟩:=JgQ.1 h;refine⟨h1,λe=> ?_⟩;simp[nX,e.1,e.2]at h2
theorem od.set {d:bh} {l:List cT} {m:Nat} (h:od d l m) (hp:d.an.length≤3) {t:cT} (k1:2≤t.kind) (k2:t.kind≤5) (a1:d.now<t.at_) (a2:t.at_≤4398046511104) {i:Nat} (hi:i<d.an.length) (ht:t.peer=pC i) (h4:t.kind=4->d.an[i].iH≠0):od d (iI l t) (m+1):=by
 have awd:∀x∈l,Tok x:=λx hx=>by obtain⟨_,_,_,_,j,hj,e,_⟩:=h.rg x hx;exact⟨j,by omega,e⟩
 have kX:Tok t:=⟨i,by omega,ht⟩
 rw[vO];have hc:∀x∈bc l t.peer t.kind,x∈l∧¬(x.peer=t.peer∧x.kind=t.kind):=λx hx=>jh hx;have Sj:=mq t (bc l t.peer t.kind);constructor
 ·exact Fc kX (λx hx=>awd x (hc x hx).1) (λx hx=>(hc x hx).2) (h.so.filter _)
 ·intro x hx;rcases cJ.1 (Sj.mem_iff.1 hx)with rfl|hx
  ·exact⟨k1,k2,a1,a2,i,hi,ht,h4⟩
  ·exact h.rg x (hc x hx).1
 ·have aep:∀ {a b:cT},¬(b.peer=a.peer∧b.kind=a.kind)->¬(a.peer=b.peer∧a.kind=b.kind):=λhn e=>hn ⟨e.1.symm,e.2.symm⟩;refine(Sj.pairwise_iff aep).2 (JjX.2 ⟨λx hx=>(hc x hx).2,h.un.filter _⟩)
 ·rw[Sj.length_eq,JcQ];have:(bc l t.peer t.kind).length≤l.length:=JfZ _ _;have:=h.len;omega
structure VM (d:bh) (m:Nat):Prop where
 vd:VD d
 ti:od d d.timers m
 wp:∀p∈d.an,qw p≠[]->∃t∈d.timers,t.peer=p.b8∧t.kind=5∧t.at_≤d.now+3*d.rules.nc
theorem yG.of {d e:bh} (hn:e.now=d.now) (hr:e.rules=d.rules) {s:kS} (h:yG d s):yG e s:=by
 obtain⟨h1,h2,h3,h4,h5,h6,h7,h8⟩:=h;exact⟨h1,by rw[hn];exact h2,by rw[hr];exact h3,h4,h5,h6,h7,h8⟩
theorem mr.of {d e:bh} (hn:e.now=d.now) (hr:e.rules=d.rules) {s:ue} (h:mr d s):mr e s:=by
 rcases h with⟨h1,h2⟩|h
 ·exact Or.inl ⟨h1,h2.of hn hr⟩
 ·exact Or.inr h
theorem mr.z (d:bh):mr d oN:=Or.inr ⟨rfl,rfl⟩
theorem mr.Wu {d:bh} {p:ue} (h:mr d p):mr d (Wu p):=by
 unfold Ab.Wu;split
 ·exact h
 ·exact .z d
theorem nI.of {d e:bh} (hn:e.now=d.now) (hr:e.rules=d.rules) {p:bM} (h:nI d p):nI e p:=by
 obtain⟨h1,h2,h3,h4,h5,h6,h7,h8,h9,h10,h11,Te⟩:=h;exact⟨h1,h2,h3,h4,h5,h6,h7,h8,h9,h10.of hn hr,h11.of hn hr,Te.of hn hr⟩
theorem nI.pR {d:bh} {p:bM} (h:nI d p) {r:rF} (h1:mr d r.p) (h2:mr d r.c) (h3:mr d r.n):nI d (pR p r):=by
 obtain⟨g1,g2,g3,g4,g5,g6,g7,g8,g9,g10,g11,g12⟩:=h;exact⟨g1,g2,g3,g4,g5,g6,g7,g8,g9,h1,h2,h3⟩
theorem Rs {d:bh} {p:bM} (h:nI d p) {s:kS} (hs:yG d s) (own:Bool):mr d (u7 p.ring s own).p∧mr d (u7 p.ring s own).c∧mr d (u7 p.ring s own).n:=by
 have GQ:mr d ⟨true,s⟩:=Or.inl ⟨rfl,hs⟩;unfold u7;split
 ·unfold xl;split
  ·exact⟨h.rn,GQ,.z d⟩
  ·exact⟨h.rc.Wu,GQ,.z d⟩
 ·exact⟨.z d,h.rc,GQ⟩
theorem VM.inst {d:bh} {m:Nat} (h:VM d m) (hm:m≤999) {i:Nat} (hi:i<d.an.length) {s:kS} (hs:yG d s) (h1:1≤s.loc) (pF:∀x∈d.aR,x.index≠s.loc) (own:Bool):VM (mw d i hi s own) (m+1):=by
 obtain⟨v,t,hwp⟩:=h;have oJ:=v.DT.1;have GV:d.an[i].b8=pC i:=v.DT.2 i hi;have hlen:(mw d i hi s own).an.length=d.an.length:=JjQ;have GW:=Rs (v.Bg _ (JbJ hi)) hs own;obtain⟨q1,q2,q3,q4,q5,q6,q7,q8,q9,q10,q11,_⟩:=v.ru;have NY:=v.n0;have Hb:=v.n1
 have b6:∀(j:Nat) (hj:j<d.an.length) (Jf:j<(mw d i hi s own).an.length),(mw d i hi s own).an[j].b8=d.an[j].b8∧(mw d i hi s own).an[j].iH=d.an[j].iH:=by
  intro j hj Jf;simp only[mw,JpW];split
  ·rename_i e;subst e;exact⟨rfl,rfl⟩
  ·exact⟨rfl,rfl⟩
 have ht0:=t.set oJ (t:=⟨d.now+3*d.rules.nc,pC i,5⟩) (by show(2:Int)≤5;omega) (by show(5:Int)≤5;omega) (by show d.now<d.now+3*d.rules.nc;omega) (by show d.now+3*d.rules.nc≤4398046511104;omega) hi rfl (λe=>absurd e (by show¬(5:Int)=4;omega))
 have ht1:od (mw d i hi s own) (mw d i hi s own).timers (m+1):=by
  obtain⟨a,b,c,e⟩:=ht0;refine⟨a,λx hx=> ?_,c,e⟩;obtain⟨r1,r2,r3,r4,j,hj,r5,r6⟩:=b x hx;exact⟨r1,r2,r3,r4,j,by rw[hlen];exact hj,r5,λhk=>by rw[(b6 j hj _).2];exact r6 hk⟩
 have hsm:∀(l:List cT) (y x:cT),x∈iI l y↔x=y∨(x∈l∧¬(x.peer=y.peer∧x.kind=y.kind)):=by
  intro l y x;rw[vO,(mq y _).mem_iff,cJ];constructor
  ·rintro(h|h)
   ·exact .inl h
   ·exact .inr (jh h)
  ·rintro(h|⟨h,hn⟩)
   ·exact .inl h
   ·exact .inr (JgQ.2 ⟨h,by simp only[nX,JhZ,Bool.and_eq_false_iff,decide_eq_false_iff_not];exact Decidable.not_and_iff_or_not.1 hn⟩)
 refine⟨?_,ht1,λp hp DQ=> ?_⟩;rotate_left
 ·have hp':p∈d.an.set i (Ab.pR d.an[i] (u7 d.an[i].ring s own)):=hp;by_cases wv:p.b8=pC i
  ·exact⟨⟨d.now+3*d.rules.nc,pC i,5⟩,(hsm _ _ _).2 (.inl rfl),wv.symm,rfl,Int.le_refl _⟩
  ·rcases JhJ hp' with hp|rfl
   ·obtain⟨t,ht,e1,e2,e3⟩:=hwp p hp DQ;exact⟨t,(hsm _ _ _).2 (.inr ⟨ht,λe=>wv (by rw[←e1];exact e.1)⟩),e1,e2,e3⟩
   ·exact absurd GV wv
 constructor
 ·exact v.ru
 ·exact v.n0
 ·exact v.n1
 ·exact v.p0
 ·exact v.p1
 ·exact v.bad
 ·refine⟨by rw[hlen];exact oJ,λj hj=> ?_⟩;rw[(b6 j (by rw[hlen]at hj;exact hj) hj).1];exact v.DT.2 j _
 ·intro p hp;have hp':p∈d.an.set i (Ab.pR d.an[i] (u7 d.an[i].ring s own)):=hp;refine nI.of (d:=d) (e:=mw d i hi s own) rfl rfl ?_;rcases JhJ hp' with hp|rfl
  ·exact v.Bg p hp
  ·exact(v.Bg _ (JbJ hi)).pR GW.1 GW.2.1 GW.2.2
 ·exact v.rts
 ·rw[hlen];exact v.rtl
 ·exact v.sls.inst hi GV h1 pF own
 ·exact ht1.toT (by omega)
 ·exact v.s0
 ·exact v.s1
 ·exact v.rcn
 ·exact v.buc
 ·exact v.kp
 ·exact v.kr
def Key.put (k:Key) (j:Nat) (b:UInt8):Key:=⟨k.l.set j b,by rw[JjQ];exact k.h⟩
theorem DE (k:Key) {j:Nat} (hj:j<32) {n:Int} (h0:0≤n) (h1:n<256):bO (aG k) [.i j 1] (.int .u8 n)=some (aG (k.put j (UInt8.ofNat n.toNat))):=by
 have hn:(UInt8.ofNat n.toNat).toNat=n.toNat:=by simp;omega
 have hx:(k.l.map u8)[j]? =some (u8 (k.l[j]'(by rw[k.h];exact hj))):=by
  rw[List.getElem?_map,gJ (by rw[k.h];exact hj)];rfl
 have hu:PV.int .u8 n=u8 (UInt8.ofNat n.toNat):=by simp only[u8,hn];congr 1;omega
 have h2:bO (.ar 1 32 (k.l.map u8)) [.i j 1] (.int .u8 n)=some (.ar 1 32 ((k.l.map u8).set j (.int .u8 n))):=by simp[hx,u8]
 have h3:aG (k.put j (UInt8.ofNat n.toNat))= .ar 1 32 ((k.l.map u8).set j (.int .u8 n)):=by
  show PV.ar 1 32 ((k.l.set j (UInt8.ofNat n.toNat)).map u8)=_;rw[JfJ,hu]
 rw[h3];exact h2
theorem NP (s:kS) (k:Key):F6 s (aG k)=eT {s with send:=k.fv}:=rfl
theorem NQ (s:kS) (k:Key):F7 s (aG k)=eT {s with recv:=k.fv}:=rfl
@[simp] theorem aqZ (w:z6):Pure (wP w):=by simp[wP]
@[simp] theorem awX (w:z6):wk (wP w)=wP w:=by simp[wP]
@[simp↓] theorem aug (g:Bool) (w:z6) (K:PV->Prop):ei g (wP w) K=K (wP w):=_root_.id rfl
@[simp] theorem amG (w:z6):(wP w).width=6:=_root_.id rfl
@[simp] theorem aq0 (w:z6):(wP w).aT=true:=_root_.id rfl
def zW:z6:=⟨false,0,0,0,0,0⟩
theorem Rt:GG zW=NM:=by
 unfold GG NM;congr 1;rw[cm];rfl
theorem Aa (s:kS) (w:z6):F9 s (wP w)=eT {s with GZ:=GG w}:=rfl
theorem Kx (w:z6):(GG w).p=wP w:=rfl
def WI (w:z6):Prop:=0≤w.top∧w.top<8∧(w.used=true∨w=zW)
theorem WI.z:WI zW:=⟨by decide,by decide,Or.inr rfl⟩
theorem WI.acc {w:z6} (h:WI w) {c:Int} (c0:0≤c) (c8:c<8):SmW w c∧WI (uq w c).1:=by
 have hs:SmW w c:=⟨h.1,h.2.1,c0,c8⟩
 refine⟨hs,(IN hs).1,(IN hs).2,?_⟩;rcases Wt hs with⟨_,h2⟩|h2
 ·rw[h2];exact h.2.2
 ·exact Or.inl h2
theorem WI.ok {w:z6} (h:WI w):ZM (GG w):=by
 rcases h.2.2 with h2|h2
 ·exact Or.inr ⟨w,h2,⟨h.1,h.2.1⟩,rfl⟩
 ·rw[h2];exact Or.inl Rt
def ur (c:tA):Nat->z6×tA
 |0=>(zW,c)
 |i+1=>((uq (ur c i).1 ((oD (ur c i).2 8).1:Int)).1,(oD (ur c i).2 8).2)
theorem xo {c:tA} (h:iD c):∀i,WI (ur c i).1∧iD (ur c i).2
 |0=>⟨.z,h⟩
 |
  i+1=>by
  obtain⟨h1,h2⟩:=xo h i
  have hl:=dB (ur c i).2 (n:=8) (by omega)
  exact⟨(h1.acc (by omega) (by omega)).2,dC h2 8⟩
def sW (s:kS) (w:z6):kS:= {s with GZ:=GG w}
theorem adr {s:kS} (h:s.GZ=NM):sW s zW=s:=by unfold sW;rw[Rt,←h]
theorem dQ {c:tA} (h:iD c) {d:bh} (h0:0≤d.now) (h1:d.now≤16777216) (hr:AP d.rules) {n:Nat} (Hb:1≤n) (hn2:n≤100):
  ae Pg 23 [.pt KB [] 0,gP d,.int .u32 n] [.box (eu c)] (λr fp=>∃w:kS×tA,(yG d w.1∧w.1.loc=n∧iD w.2)∧r=eT w.1∧fp=[.box (eu w.2)]):=by
 refine ae.intro T.dQ (by simp[F.dQ]) ?_;simp[F.dQ,aj,av];refine lv.run [KB] rfl ?_;simp;refine ai.jJ KB (bg h 12 (by omega)) ?_;have l0:=dB c (n:=12) (by omega);have o0:=dC h 12;generalize oD c 12=x0 at*;have w1:IntKind.i64.wrap ((x0.1:Int)*5000)=(x0.1:Int)*5000:=wrap_i64 (by omega);have w2:IntKind.i64.wrap (d.now-min d.now ((x0.1:Int)*5000))=d.now-min d.now ((x0.1:Int)*5000):=wrap_i64 (by omega);simp[w1,w2];obtain⟨b,hb⟩:∃b,b=d.now-min d.now ((x0.1:Int)*5000):=⟨_,rfl⟩
 rw[←hb];refine lv.run [KB,8] rfl ?_;have w3:IntKind.u32.wrap (7000+(n:Int))=7000+(n:Int):=by simp[IntKind.wrap,IntKind.bits,IntKind.signed];omega
 simp[w3];refine ai.u9 KB (pS o0) ?_;rintro⟨k1,c1⟩ o1;simp;refine ai.u9 KB (pS o1) ?_;rintro⟨k2,c2⟩ o2;simp;refine ai.jJ KB (Du o2) ?_;have o3:iD (bool c2).2:=dC o2 2;generalize bool c2=x3 at*;simp;refine aM.ret (jz n (7000+n) k1.fv k2.fv b x3.1 d.rules.sy) (by simp[Key.fv]) (by simp) (by simp) ?_;have w5:IntKind.u8.wrap (n:Int)=(n:Int):=wrap_u8 (by omega)
 have e1:∀k:Key,bO (aG k) [.i 0 1] (.int .u8 (n:Int))=some (aG (k.put 0 (UInt8.ofNat n))):=λk=>by
  have:=DE k (j:=0) (by omega) (n:=(n:Int)) (by omega) (by omega);simpa using this
 have e2:∀k:Key,bO (aG k) [.i 1 1] (.int .u8 1)=some (aG (k.put 1 1)):=λk=>by
  have:=DE k (j:=1) (by omega) (n:=1) (by omega) (by omega);simpa using this
 have e3:∀k:Key,bO (aG k) [.i 1 1] (.int .u8 2)=some (aG (k.put 1 2)):=λk=>by
  have:=DE k (j:=1) (by omega) (n:=2) (by omega) (by omega);simpa using this
 simp[w5,e1,e2,e3,NP,NQ];refine ai.jJ KB (bg o3 4 (by omega)) ?_;have l4:=dB x3.2 (n:=4) (by omega);have o4:=dC o3 4;generalize oD x3.2 4=x4 at*;obtain⟨s0,Bq⟩:∃s0:kS,s0=⟨n,7000+n,((k1.put 0 (UInt8.ofNat n)).put 1 1).fv,((k2.put 0 (UInt8.ofNat n)).put 1 2).fv,0,d.rules.sy,NM,b,x3.1⟩:=⟨_,rfl⟩
 rw[←Bq];simp;have aew:s0.GZ=NM:=by rw[Bq]
 refine⟨λhx=> ?_,λhx=>⟨λA7=> ?_,λA7=> ?_⟩⟩
 ·refine ai.jJ KB (bg o4 40 (by omega)) ?_;have l5:=dB x4.2 (n:=40) (by omega);have o5:=dC o4 40;generalize oD x4.2 40=x5 at*;have w8:IntKind.u64.wrap (x5.1:Int)=(x5.1:Int):=by simp[IntKind.wrap,IntKind.bits,IntKind.signed];omega
  simp[w8];obtain⟨s1,Em⟩:∃s1:kS,s1= {s0 with next:=(x5.1:Int)}:=⟨_,rfl⟩
  rw[←Em];have Sk:s1.GZ=NM:=by rw[Em];exact aew
  have W9:0≤s1.next∧s1.next≤18446744073709543423:=by rw[Em];show 0≤(x5.1:Int)∧(x5.1:Int)≤18446744073709543423;omega
  have KJ:s1.fC=s0.fC∧s1.born=s0.born∧s1.loc=s0.loc:=by rw[Em];exact⟨rfl,rfl,rfl⟩
  refine ai.jJ KB (bg o5 4 (by omega)) ?_;have l6:=dB x5.2 (n:=4) (by omega);have o6:=dC o5 4;generalize oD x5.2 4=x6 at*;simp;refine eW.fM x6.1 (λ_=>True) [0,6,8,9] (λi=>[(9,.int .i64 ((x6.1:Int)-i))]) (λi=>[(8,.box (eT (sW s1 (ur x6.2 i).1))),(KB,.box (eu (ur x6.2 i).2))]) [.keep [0,6,8,9]] ?_;simp[show(ur x6.2 0)=(zW,x6.2) from rfl,adr Sk];refine⟨λi hi K hK=> ?_,λK=> ?_⟩
  ·obtain⟨g1,g2⟩:=xo o6 i;have gl:=dB (ur x6.2 i).2 (n:=8) (by omega);have qH:ur x6.2 (i+1)=((uq (ur x6.2 i).1 ((oD (ur x6.2 i).2 8).1:Int)).1,(oD (ur x6.2 i).2 8).2):=rfl;rw[qH]at hK;generalize ur x6.2 i=y at*;have hgt:(0:Int)<(x6.1:Int)-i:=by omega
   have hw9:IntKind.i64.wrap ((x6.1:Int)-i-1)=(x6.1:Int)-(i+1):=by rw[wrap_i64 (by omega)];omega
   simp[↓al,hi];refine lv.run [KB] rfl ?_;simp[sW];refine ai.jJ KB (bg g2 8 (by omega)) ?_;generalize oD y.2 8=z at*;have hw8:IntKind.u64.wrap (z.1:Int)=(z.1:Int):=by simp[IntKind.wrap,IntKind.bits,IntKind.signed];omega
   simp[hw8,Kx];refine aM.rA (bB (g1.acc (c:=(z.1:Int)) (by omega) (by omega)).1) ?_;simp[Aa,hw9];refine⟨[.keep [0,6,8,9]],?_⟩;simp;exact hK _ (by simp[sW])
  ·obtain⟨g1,g2⟩:=xo o6 x6.1;generalize ur x6.2 x6.1=y at*;simp[↓al,↓al];refine aA.with [] [KB] ?_;simp[ab,az];refine⟨sW s1 y.1,y.2,⟨⟨?_,?_,?_,?_,?_,?_,?_,?_⟩,?_,g2⟩,rfl,rfl⟩
   ·show 0≤s1.born;rw[KJ.2.1,Bq];dsimp only;omega
   ·show s1.born≤d.now;rw[KJ.2.1,Bq];dsimp only;omega
   ·show s1.fC=d.rules.sy;rw[KJ.1,Bq]
   ·show 0≤s1.next;have:=W9;omega
   ·show s1.next≤_;have:=W9;omega
   ·exact g1.ok
   ·exact⟨_,by show s1.send=_;rw[Em,Bq]⟩
   ·show 0≤s1.rem∧s1.rem≤4294967295;rw[Em,Bq];dsimp only;omega
   ·show s1.loc=n;rw[KJ.2.2,Bq]
 ·obtain⟨q1,q2,q3,_⟩:=hr;have hfe:s0.fC=d.rules.sy:=by rw[Bq]
  refine lv.run [KB] rfl ?_;simp;refine ai.jJ KB (bg o4 4 (by omega)) ?_;have l5:=dB x4.2 (n:=4) (by omega);have o5:=dC o4 4;generalize oD x4.2 4=x5 at*;have w8:IntKind.u64.wrap (x5.1:Int)=(x5.1:Int):=by simp[IntKind.wrap,IntKind.bits,IntKind.signed];omega
  have w9:IntKind.u64.wrap (s0.fC-min s0.fC (x5.1:Int))=s0.fC-min s0.fC (x5.1:Int):=by rw[hfe];simp[IntKind.wrap,IntKind.bits,IntKind.signed];omega
  simp[w8,w9];obtain⟨s1,Em⟩:∃s1:kS,s1= {s0 with next:=s0.fC-min s0.fC (x5.1:Int)}:=⟨_,rfl⟩
  rw[←Em];have Sk:s1.GZ=NM:=by rw[Em];exact aew
  have W9:0≤s1.next∧s1.next≤18446744073709543423:=by rw[Em];show 0≤s0.fC-min s0.fC (x5.1:Int)∧s0.fC-min s0.fC (x5.1:Int)≤18446744073709543423;rw[hfe];omega
  have KJ:s1.fC=s0.fC∧s1.born=s0.born∧s1.loc=s0.loc:=by rw[Em];exact⟨rfl,rfl,rfl⟩
  refine ai.jJ KB (bg o5 4 (by omega)) ?_;have l6:=dB x5.2 (n:=4) (by omega);have o6:=dC o5 4;generalize oD x5.2 4=x6 at*;simp;refine eW.fM x6.1 (λ_=>True) [0,6,8,9] (λi=>[(9,.int .i64 ((x6.1:Int)-i))]) (λi=>[(8,.box (eT (sW s1 (ur x6.2 i).1))),(KB,.box (eu (ur x6.2 i).2))]) [.keep [0,6,8,9]] ?_;simp[show(ur x6.2 0)=(zW,x6.2) from rfl,adr Sk];refine⟨λi hi K hK=> ?_,λK=> ?_⟩
  ·obtain⟨g1,g2⟩:=xo o6 i;have gl:=dB (ur x6.2 i).2 (n:=8) (by omega);have qH:ur x6.2 (i+1)=((uq (ur x6.2 i).1 ((oD (ur x6.2 i).2 8).1:Int)).1,(oD (ur x6.2 i).2 8).2):=rfl;rw[qH]at hK;generalize ur x6.2 i=y at*;have hgt:(0:Int)<(x6.1:Int)-i:=by omega
   have hw9:IntKind.i64.wrap ((x6.1:Int)-i-1)=(x6.1:Int)-(i+1):=by rw[wrap_i64 (by omega)];omega
   simp[↓al,hi];refine lv.run [KB] rfl ?_;simp[sW];refine ai.jJ KB (bg g2 8 (by omega)) ?_;generalize oD y.2 8=z at*;have hw8:IntKind.u64.wrap (z.1:Int)=(z.1:Int):=by simp[IntKind.wrap,IntKind.bits,IntKind.signed];omega
   simp[hw8,Kx];refine aM.rA (bB (g1.acc (c:=(z.1:Int)) (by omega) (by omega)).1) ?_;simp[Aa,hw9];refine⟨[.keep [0,6,8,9]],?_⟩;simp;exact hK _ (by simp[sW])
  ·obtain⟨g1,g2⟩:=xo o6 x6.1;generalize ur x6.2 x6.1=y at*;simp[↓al,↓al];refine aA.with [] [KB] ?_;simp[ab,az];refine⟨sW s1 y.1,y.2,⟨⟨?_,?_,?_,?_,?_,?_,?_,?_⟩,?_,g2⟩,rfl,rfl⟩
   ·show 0≤s1.born;rw[KJ.2.1,Bq];dsimp only;omega
   ·show s1.born≤d.now;rw[KJ.2.1,Bq];dsimp only;omega
   ·show s1.fC=d.rules.sy;rw[KJ.1,Bq]
   ·show 0≤s1.next;have:=W9;omega
   ·show s1.next≤_;have:=W9;omega
   ·exact g1.ok
   ·exact⟨_,by show s1.send=_;rw[Em,Bq]⟩
   ·show 0≤s1.rem∧s1.rem≤4294967295;rw[Em,Bq];dsimp only;omega
   ·show s1.loc=n;rw[KJ.2.2,Bq]
 ·refine ai.jJ KB (bg o4 4 (by omega)) ?_;have l6:=dB x4.2 (n:=4) (by omega);have o6:=dC o4 4;generalize oD x4.2 4=x6 at*;simp;refine eW.fM x6.1 (λ_=>True) [0,6,8,9] (λi=>[(9,.int .i64 ((x6.1:Int)-i))]) (λi=>[(8,.box (eT (sW s0 (ur x6.2 i).1))),(KB,.box (eu (ur x6.2 i).2))]) [.keep [0,6,8,9]] ?_;simp[show(ur x6.2 0)=(zW,x6.2) from rfl,adr aew];refine⟨λi hi K hK=> ?_,λK=> ?_⟩
  ·obtain⟨g1,g2⟩:=xo o6 i;have gl:=dB (ur x6.2 i).2 (n:=8) (by omega);have qH:ur x6.2 (i+1)=((uq (ur x6.2 i).1 ((oD (ur x6.2 i).2 8).1:Int)).1,(oD (ur x6.2 i).2 8).2):=rfl;rw[qH]at hK;generalize ur x6.2 i=y at*;have hgt:(0:Int)<(x6.1:Int)-i:=by omega
   have hw9:IntKind.i64.wrap ((x6.1:Int)-i-1)=(x6.1:Int)-(i+1):=by rw[wrap_i64 (by omega)];omega
   simp[↓al,hi];refine lv.run [KB] rfl ?_;simp[sW];refine ai.jJ KB (bg g2 8 (by omega)) ?_;generalize oD y.2 8=z at*;have hw8:IntKind.u64.wrap (z.1:Int)=(z.1:Int):=by simp[IntKind.wrap,IntKind.bits,IntKind.signed];omega
   simp[hw8,Kx];refine aM.rA (bB (g1.acc (c:=(z.1:Int)) (by omega) (by omega)).1) ?_;simp[Aa,hw9];refine⟨[.keep [0,6,8,9]],?_⟩;simp;exact hK _ (by simp[sW])
  ·obtain⟨g1,g2⟩:=xo o6 x6.1;generalize ur x6.2 x6.1=y at*;simp[↓al,↓al];refine aA.with [] [KB] ?_;simp[ab,az];refine⟨sW s0 y.1,y.2,⟨⟨?_,?_,?_,?_,?_,?_,?_,?_⟩,?_,g2⟩,rfl,rfl⟩
   ·show 0≤s0.born;rw[Bq];dsimp only;omega
   ·show s0.born≤d.now;rw[Bq];dsimp only;omega
   ·show s0.fC=d.rules.sy;rw[Bq]
   ·show 0≤s0.next;rw[Bq];dsimp only;omega
   ·show s0.next≤_;rw[Bq];dsimp only;omega
   ·exact g1.ok
   ·exact⟨_,by show s0.send=_;rw[Bq]⟩
   ·show 0≤s0.rem∧s0.rem≤4294967295;rw[Bq];dsimp only;omega
   ·show s0.loc=n;rw[Bq]
structure VP (d:bh) (i:Nat):Prop where
 vm:VM d i
 sl:d.aR=[]
 len:d.an.length=i
 rg:∀p∈d.an,qw p=[]
def sF (d:bh) (p:bM) (i:Nat) (T:List cT):bh:= {d with an:=d.an++[p],bQ:=d.bQ++[rt i],timers:=T}
theorem VP.add {d:bh} {i:Nat} (h:VP d i) (hi:i<3) {p:bM} (hp:nI d p) (hk:p.b8=pC i) (hr:qw p=[]) {T:List cT}
  (hT:T=d.timers∨∃a,d.now<a∧a≤4398046511104∧p.iH≠0∧T=iI d.timers ⟨a,pC i,4⟩):VP (sF d p i T) (i+1):=by
 obtain⟨⟨v,t,_⟩,DQ,hlen,hrg⟩:=h;have Fq:(sF d p i T).an.length=i+1:=by show(d.an++[p]).length=i+1;simp[hlen]
 have b6:∀(j:Nat) (hj:j<d.an.length) (Jf:j<(sF d p i T).an.length),(sF d p i T).an[j]=d.an[j]:=by
  intro j hj Jf;show(d.an++[p])[j]=d.an[j];exact List.getElem_append_left hj
 have aaf:∀(Jf:i<(sF d p i T).an.length),(sF d p i T).an[i]=p:=by
  intro Jf;have:(d.an++[p])[d.an.length]'(by simp)=p:=by simp
  show(d.an++[p])[i]'(by simpa[hlen]using Jf)=p;simp only[←hlen,List.getElem_concat_length]
 have t0:od (sF d p i T) d.timers i:=by
  obtain⟨a,b,c,e⟩:=t;refine⟨a,λx hx=> ?_,c,e⟩;obtain⟨r1,r2,r3,r4,j,hj,r5,r6⟩:=b x hx;exact⟨r1,r2,r3,r4,j,by rw[Fq];omega,r5,λhk=>by rw[b6 j hj];exact r6 hk⟩
 have t1:od (sF d p i T) (sF d p i T).timers (i+1):=by
  show od (sF d p i T) T (i+1);rcases hT with rfl|⟨a,a1,a2,a3,e⟩
  ·obtain⟨a,b,c,e⟩:=t0;exact⟨a,b,c,by omega⟩
  ·have:=t0.set (by rw[Fq];omega) (t:=⟨a,pC i,4⟩) (by show(2:Int)≤4;omega) (by show(4:Int)≤5;omega) a1 a2 (i:=i) (by rw[Fq];omega) rfl (λ_=>by rw[aaf];exact a3);rw[←e]at this;exact this
 have aex:∀q∈(sF d p i T).an,qw q=[]:=by
  intro q hq;rcases JaZ.1 (show q∈d.an++[p] from hq)with hq|hq
  ·exact hrg q hq
  ·rw[List.mem_singleton.1 hq];exact hr
 refine⟨⟨?_,t1,λq hq cS=>absurd (aex q hq) cS⟩,DQ,Fq,aex⟩;constructor
 ·exact v.ru
 ·exact v.n0
 ·exact v.n1
 ·exact v.p0
 ·exact v.p1
 ·exact v.bad
 ·refine⟨by rw[Fq];omega,λj hj=> ?_⟩;rw[Fq]at hj;by_cases e:j<d.an.length
  ·rw[b6 j e];exact v.DT.2 j e
  ·have:j=i:=by omega
   subst this;rw[aaf];exact hk
 ·intro q hq;refine nI.of (d:=d) (e:=sF d p i T) rfl rfl ?_;rcases JaZ.1 (show q∈d.an++[p] from hq)with hq|hq
  ·exact v.Bg q hq
  ·rw[List.mem_singleton.1 hq];exact hp
 ·have G9:=v.rtl;refine⟨?_,λj hj=> ?_⟩
  ·show(d.bQ++[rt i]).length≤3;simp;omega
  ·have Er:j<(d.bQ++[rt i]).length:=hj;show(d.bQ++[rt i])[j]=rt j;by_cases e:j<d.bQ.length
   ·rw[List.getElem_append_left e];exact v.rts.2 j e
   ·have:j=d.bQ.length:=by simp at Er;omega
    have h2:j=i:=by omega
    rw[List.getElem_append_right (by omega)];simp[h2]
 ·show(d.bQ++[rt i]).length=(d.an++[p]).length;have G9:=v.rtl;simp;omega
 ·constructor
  ·show tY d.aR;exact v.sls.so
  ·show d.aR.Perm ((d.an++[p]).flatMap qw);rw[DQ]
   have:(d.an++[p]).flatMap qw=[]:=by
    rw[List.flatMap_eq_nil_iff];exact aex
   rw[this]
 ·exact t1.toT (by omega)
 ·exact v.s0
 ·exact v.s1
 ·exact v.rcn
 ·exact v.buc
 ·exact v.kp
 ·exact v.kr
def zD:PV:=PV.st 148 [PV.st 10 [.int .u64 0,.int .u64 0,.int .i64 0,.int .i64 0,.int .i64 0,.int .i64 0,.int .i64 0,.int .i64 0,.int .i64 0,.int .i64 0],
 .ar 1 32 (zr 32 (.int .u8 0)),.ar 1 32 (zr 32 (.int .u8 0)),.int .i64 0,.ar 1 32 (zr 32 (.int .u8 0)),.int .i64 0,.sl 464 [] true,.sl 50 [] true,.sl 34 [] true,.sl 34 [] true,
 .ar 1 32 (zr 32 (.int .u8 0)),.int .i64 0,.sl 1 [] true,.sl 19 [] true,.int .i64 0]
@[simp] theorem amH:zD.width=148:=rfl
@[simp] theorem auh (ρ:Nat->Nat):aE ρ zD=zD:=by simp[zD]
@[simp] theorem aui (k sz:Nat) (l:List PV):iQ k sz l zD=zD:=by simp[zD]
theorem od.mono {d:bh} {l:List cT} {m k:Nat} (h:od d l m) (hk:m≤k):od d l k:=⟨h.so,h.rg,h.un,JeW h.len hk⟩
def atS (d:bh) (m:Int):Prop:=∀x∈d.aR,0≤x.index∧x.index<m
def Bd (d:bh):Prop:=∀x∈d.aR,0≤x.index∧x.index≤1000
theorem Nw {d:bh} {i:Nat} {hi:i<d.an.length} {s:kS} {own:Bool} {x:gh} (h:x∈(mw d i hi s own).aR):x.index=s.loc∨x∈d.aR:=by
 rcases cJ.1 ((sL _ _).mem_iff.1 h)with h|h
 ·left;rw[h]
 ·right;exact oC h
theorem E4 {d:bh} {i:Nat} {hi:i<d.an.length} {s:kS} {own:Bool}:(mw d i hi s own).an.length=d.an.length:=JjQ
def Di:rF:=⟨oN,oN,oN⟩
def pz (i:Nat) (e:Bool) (k:Int):bM:=⟨pC i,Ly,e,if e=true then u6 i else Gr,k,zSm,false,0,yA,false,LA,0,LA,Di,[]⟩
theorem QM:gZ Gr= .st 18 [.st 17 [.bl false,.ar 1 16 (zr 16 (.int .u8 0))],.int .i64 0]:=by rw[cm];rfl
theorem amd (i:Nat) (k:Int):aP (pz i false k)= .st 464 [aG (pC i),Ly.p,.bl false,.st 18 [.st 17 [.bl false,.ar 1 16 (zr 16 (.int .u8 0))],.int .i64 0],.int .i64 k,zSm.p,.bl false,.int .i64 0,lU yA,.bl false,LA.p,.int .i64 0,LA.p,gO Di,gq []]:=by
 show PV.st 464 [aG (pC i),Ly.p,.bl false,gZ Gr,.int .i64 k,zSm.p,.bl false,.int .i64 0,lU yA,.bl false,LA.p,.int .i64 0,LA.p,gO Di,gq []]=_;rw[QM]
theorem LG {d:bh} {i:Nat} (hi:i<3) {e:Bool} {k:Int} (hk:k=0∨1000≤k∧k≤1073741824):nI d (pz i e k):=by
 refine⟨?_,hk,rfl,rfl,rfl,rfl,rfl,rfl,rfl,.z d,.z d,.z d⟩;cases e
 ·exact Or.inr ⟨rfl,rfl⟩
 ·exact Or.inl ⟨rfl,i,hi,rfl⟩
@[simp] theorem awY (f:Fn) (a b:List PV):wk (.fn f a b)= .fn f a b:=by simp only[wk]
def fst (p:Nat->Bool):Nat->Nat
 |0=>0
 |n+1=>if fst p n<n then fst p n else if p n=true then n else n+1
theorem GJ (p:Nat->Bool):∀n,fst p n≤n
 |0=>JaQ _
 |
  n+1=>by
  have:=GJ p n
  unfold fst;(repeat' split)<;>omega
theorem GK {p:Nat->Bool}:∀ {n i},i<fst p n->p i=false
 |0,i,h=>by simp[fst]at h
 |
  n+1,i,h=>by
  have hl:=GJ p n
  unfold fst at h
  split at h
  ·exact GK h
  ·rename_i h1
   have he:fst p n=n:=by omega
   split at h
   ·exact GK (n:=n) (by omega)
   ·rename_i h2
    by_cases e:i=n
    ·subst e;simpa using h2
    ·exact GK (n:=n) (by omega)
theorem Ru {p:Nat->Bool}:∀ {n},fst p n<n->p (fst p n)=true
 |0,h=>by simp[fst]at h
 |
  n+1,h=>by
  have hl:=GJ p n
  unfold fst at h⊢
  split
  ·rename_i h1;exact Ru h1
  ·rename_i h1
   rw[if_neg h1]at h
   split
   ·assumption
   ·rename_i h2;rw[if_neg h2]at h;omega
theorem L6 {p:Nat->Bool} {n:Nat}:fst p n=n↔∀i,i<n->p i=false:=by
 refine⟨λh i hi=>GK (n:=n) (by omega),λh=> ?_⟩;have h1:=GJ p n;by_cases h2:fst p n<n
 ·have:=Ru h2;rw[h _ h2]at this;cases this
 ·omega
structure Els {α:Type} (sz:Nat) (g:Bool) (e:α->PV) (l:List α):Prop where
 len:l.length≤1048576
 el:∀x:α,((e x).width=sz∧(e x).isAgg=g)∧Pure (e x)∧wk (e x)=e x∧∀K:PV->Prop,ei true (e x) K=K (e x)
def fi {α:Type} (p:α->Bool) (l:List α):Int:=if l.any p=true then(l.findIdx p:Int)else-1
section
variable {α:Type} {sz:Nat} {ag:Bool} {f ix:FuncId} {e:α->PV} {l:List α} {p:α->Bool} {g:FuncId} {v w:PV}
end
def Ja (x a b:Int):Bool:=decide (a≤x)&&decide (x≤b)
def I64 (x:Int):Prop:= -9223372036854775808≤x∧x≤9223372036854775807
theorem I64.w {x:Int} (h:I64 x):IntKind.i64.wrap x=x:=wrap_i64 (by unfold I64 at h;omega)
def auk (r:zt):Bool:=decide (¬r.H3<1)&&decide (¬r.sy<r.H3)&&decide (¬(18446744073709543423:Int)<r.sy)&&Ja r.ret 1000 1073741824&&Ja r.Ss 1000 1073741824&&Ja r.cot 1 1073741824&&Ja r.J0 1 1073741824&&Ja r.nc 1 1073741824&&decide (r.J0≤r.nc)&&decide (r.Ss+r.ret<r.nc)&&Ja r.Yn r.ret (20*r.ret)&&Ja r.load 1 64&&Ja r.tV 1 8
def r1 (d:bh):Bool:=auk d.rules&&Ja d.now 0 1099511627776&&Ja d.port 0 65535&&Ja d.bad 0 1099511627776
end Go.Ab
