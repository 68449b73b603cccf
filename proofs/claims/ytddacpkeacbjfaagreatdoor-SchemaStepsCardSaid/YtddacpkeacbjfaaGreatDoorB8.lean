/- Walks of functions, part 8. No condition. -/
import Derived.Test.YtddacpkeacbjfaaGreatDoorB7
set_option maxRecDepth 10000
set_option maxHeartbeats 4000000
set_option linter.all false
noncomputable section
namespace Go.Ab
def dq (e:aR) (p q:PV):PV:= .st 148 [cQ e.rules,e.qk.p,e.qT.p,.int .i64 e.port,e.random.p,.int .i64 e.now,p,cR e.aX,q,bM e.timers,e.iG.p,.int .i64 e.iM,ee e.aY,dA e.buckets,.int .i64 e.bad]
@[simp] def abD (e:aR) (p q:PV):(dq e p q).width=148:=_root_.id rfl
@[simp] theorem aiO (e:aR) (p q:PV):(dq e p q).isAgg=true:=rfl
@[simp] theorem afk (e:aR) (p q:PV):(dq e p q).aV=true:=rfl
@[simp] theorem afl (e:aR) (p q:PV):(dq e p q).flat=true:=rfl
@[simp↓] theorem aiP (g:Bool) (e:aR) (p q:PV) (K:W7):eT g (dq e p q) K=K (dq e p q):=_root_.id rfl
@[simp↓] theorem Yn (e:aR) (p q:PV) (r:Zy):aO (dq e p q) (.f 6 108::r)=aO (p) r:=by simp[dq,au]
@[simp↓] theorem Yo (e:aR) (p q:PV) (hp:p.width=1) (r:Zy):aO (dq e p q) (.f 8 110::r)=aO (q) r:=by simp[dq,au,hp]
def Dp (e:aR) (p q c:PV):PV:= .st 148 [cQ e.rules,e.qk.p,e.qT.p,.int .i64 e.port,e.random.p,.int .i64 e.now,p,cR e.aX,c,bM e.timers,e.iG.p,.int .i64 e.iM,ee e.aY,dA e.buckets,.int .i64 e.bad]
@[simp↓] def Yp (e:aR) (p q:PV) (hp:p.width=1) (r:Zy) (x:PV):cu (dq e p q) (.f 8 110::r) x=(cu (q) r x).bind λc=>some (Dp e p q c):=by simp[dq,Dp,au,hp]
@[simp↓] theorem afm (e:aR) (p q v:PV):Dp e p q v=dq e p v:=_root_.id rfl
def jI (e:aR) (p q c:PV):PV:= .st 148 [cQ e.rules,e.qk.p,e.qT.p,.int .i64 e.port,e.random.p,.int .i64 e.now,p,cR e.aX,q,c,e.iG.p,.int .i64 e.iM,ee e.aY,dA e.buckets,.int .i64 e.bad]
@[simp↓] def Yq (e:aR) (p q:PV) (hp:p.width=1) (hq:q.width=1) (r:Zy) (x:PV):cu (dq e p q) (.f 9 111::r) x=(cu (bM e.timers) r x).bind λc=>some (jI e p q c):=by simp[dq,jI,au,hp,hq]
@[simp↓] theorem afn (e:aR) (p q:PV) (v:Wu):jI e p q (bM v)=dq {e with timers:=v} p q:=_root_.id rfl
@[simp↓] theorem UU (e:aR) (p q:PV) (hp:p.width=1) (hq:q.width=1) (r:Zy):aO (dq e p q) (.f 12 145::r)=aO (ee e.aY) r:=by simp[dq,au,hp,hq]
def Aa (e:aR) (p q c:PV):PV:= .st 148 [cQ e.rules,e.qk.p,e.qT.p,.int .i64 e.port,e.random.p,.int .i64 e.now,p,cR e.aX,q,bM e.timers,e.iG.p,.int .i64 e.iM,c,dA e.buckets,.int .i64 e.bad]
@[simp↓] def UW (e:aR) (p q:PV) (hp:p.width=1) (hq:q.width=1) (r:Zy) (x:PV):cu (dq e p q) (.f 12 145::r) x=(cu (ee e.aY) r x).bind λc=>some (Aa e p q c):=by simp[dq,Aa,au,hp,hq]
@[simp↓] theorem abE (e:aR) (p q:PV) (v:WQ):Aa e p q (ee v)=dq {e with aY:=v} p q:=_root_.id rfl
@[simp↓] theorem UX (e:aR) (p q:PV) (hp:p.width=1) (hq:q.width=1) (r:Zy):aO (dq e p q) (.f 13 146::r)=aO (dA e.buckets) r:=by simp[dq,au,hp,hq]
def Ac (e:aR) (p q c:PV):PV:= .st 148 [cQ e.rules,e.qk.p,e.qT.p,.int .i64 e.port,e.random.p,.int .i64 e.now,p,cR e.aX,q,bM e.timers,e.iG.p,.int .i64 e.iM,ee e.aY,c,.int .i64 e.bad]
@[simp↓] def UY (e:aR) (p q:PV) (hp:p.width=1) (hq:q.width=1) (r:Zy) (x:PV):cu (dq e p q) (.f 13 146::r) x=(cu (dA e.buckets) r x).bind λc=>some (Ac e p q c):=by simp[dq,Ac,au,hp,hq]
@[simp↓] theorem abF (e:aR) (p q:PV) (v:List vW):Ac e p q (dA v)=dq {e with buckets:=v} p q:=_root_.id rfl
@[simp] theorem GR (f:Nat->Bool) (e:aR) (p q:PV):ae f (dq e p q)=(ae f p&&ae f q):=by
 have h1:ae f (cQ e.rules)=true:=(C2 _).refs f;have h2:ae f (cR e.aX)=true:=(AA _).refs f;have h4:ae f (bM e.timers)=true:=(wN _).refs f;have h5:ae f (ee e.aY)=true:=(C0 _).refs f;have h6:ae f (dA e.buckets)=true:=(AD _).refs f;have g1:ae f e.qk.p=true:=(FV.pure e.qk).refs f;have g2:ae f e.qT.p=true:=(FV.pure e.qT).refs f;have g3:ae f e.random.p=true:=(FV.pure e.random).refs f;have g4:ae f e.iG.p=true:=(FV.pure e.iG).refs f;simp[dq,ae,al]
@[simp] def aiQ (ρ:Nat->Nat) (e:aR) (p q:PV):aI ρ (dq e p q)=dq e (aI ρ p) (aI ρ q):=by
 simp[dq,aI,bw]
@[simp] def arI (e:aR) (p q:PV):wk (dq e p q)=dq e (wk p) (wk q):=by simp[dq]
@[simp] theorem aiR (k sz:Nat) (l:WG) (e:aR) (p q:PV):eG k sz l (dq e p q)=dq e (eG k sz l p) (eG k sz l q):=by
 simp[dq,eG,fF]
theorem Lo (e:aR) (p c:PV):xV e p c=dq e p c:=rfl
def kj {d:aR} (h:G9 d):ab Pg 21 [bN d] [] (λr fp=>r=dq d (.rs KB [] 0 d.aa.length d.aa.length 464 .tip) (.rs (KB+1) [] 0 d.aE.length d.aE.length 34 .tip)∧fp=[.arr 464 (d.aa.map aH),.arr 34 (d.aE.map aZ)]):=by
 refine ab.intro T.kj (by simp[F.kj]) ?_;have Fj:uf Pg 50 [bQ d.aE] 34 (d.aE.map aZ):=s7 (bytes:=40) (aA R.nJ.2) (by omega) (aL fB d.aE) (by simpa using h.aE) (by omega);simp[F.kj,ah,az,bN];refine aj.own 6 (R7 h.aa) (by simp) (by simp) (by simp) (by simp) ?_;simp;refine fa.fN d.aa.length (λ_=>True) [1,2,10,11] (λi=>[(11,.int .i64 i)]) (λi=>[]) [.keep [1,2,10,11]] ?_;simp;refine⟨λi hi K hK=> ?_,λK=> ?_⟩
 ·have hx:d.aa[i]? =some d.aa[i]:=gJ hi;have hs:=h.aM _ (JaJ hi);have hl:=h.aa;simp[↓an,hi];refine aK.rA (sg hs.1 hs.2) ?_;simp(disch:=omega) [hi];refine⟨[.keep [1,2,10,11]],?_⟩;simp;exact hK _ (by simp;exact s9 aH _ i hi)
 ·simp[↓an,↓an];refine oG.run [32] rfl ?_;simp;refine aK.rA (OJ h.aX) ?_;simp;refine aj.own 32 Fj (by simp) (by simp) (aL fB d.aE) (by simp) ?_;simp;refine aK.rA (OK h.timers) ?_;simp[Lo];refine aK.rA (XI h.aY) ?_;simp;refine aK.rA (KS h.buckets) ?_;simp;refine bj.with [.keep [2],.dr 1] [6,32] ?_;simp
def TB (e:aR) (p q:PV):PV:= .st 148 [cQ e.rules,e.qk.p,e.qT.p,.int .i64 e.port,e.random.p,.int .i64 e.now,p,cR e.aX,q,bM e.timers,e.iG.p,.int .i64 e.iM,.sl 0 [] true,.sl 0 [] true,.int .i64 0]
def iB (e:bE):bE:= {e with aM:=[]}
def pe0 (e:bE):PV:=jO e (.sl 0 [] false)
@[simp] theorem aiS (e:bE):(pe0 e).width=464:=rfl
theorem TC:∀l:Xo,Nz (l.map pe0) ((l.map iB).map aH)
 |[]=> .nil
 |e::l=> .st 464 (.same _<| .same _<| .same _<| .same _<| .same _<| .same _<| .same _<| .same _<| .same _<| .same _<| .same _<| .same _<| .same _<| .same _<| .sl 0 1 false false (by simp) .nil) (TC l)
def I5 (e:bE):Pure (pe0 e):=Pure.of (by rw[pe0,zt];simp[ae])
def TD {α:Type} (f g:α->PV) (l:List α):∃D:Nat->WG,D 0=l.map f∧D l.length=l.map g∧(∀i (h:i<l.length),(D i)[i]? =some (f l[i]))∧(∀i (h:i<l.length),(D i).set i (g l[i])=D (i+1))∧(∀i,(D i).length=l.length)∧((∀x,Pure (f x))->(∀x,Pure (g x))->∀i,aB (D i)):=by
 refine⟨λi=>(l.take i).map g++(l.drop i).map f,by simp,by simp,λi h=> ?_,λi h=> ?_,λi=>by simp;omega,λhf hg i=>(aB.map hg _).append (aB.map hf _)⟩
 ·have h1:((l.take i).map g).length=i:=by simp;omega
  show(((l.take i).map g)++(l.drop i).map f)[i]? =_;rw[List.getElem?_append_right (by omega),h1,Nat.sub_self,List.getElem?_map,List.getElem?_drop,JmZ,gJ h];rfl
 ·have h1:((l.take i).map g).length=i:=by simp;omega
  show(((l.take i).map g)++(l.drop i).map f).set i _=(l.take (i+1)).map g++(l.drop (i+1)).map f;rw[JhV _ _ (by omega),h1,Nat.sub_self,List.drop_eq_getElem_cons h,JcQ,JjW,JcJ h,List.map_append,JfX];rfl
def I6 {d:aR} {ps:Xo} {S:WG} {n:Nat} (hl:ps.length≤1048576) (hS:aB S) (hSl:S.length=n):
  ab Pg 18 [dq d (.rs KB [] 0 ps.length ps.length 464 .tip) (.rs (KB+1) [] 0 n n 34 .tip)] [.arr 464 (ps.map aH),.arr 34 S] (λr fp=>r=TB d (.rs KB [] 0 ps.length ps.length 464 .tip) (.rs (KB+1) [] 0 n n 34 .tip)∧fp=[.arr 464 (ps.map pe0),.arr 34 S]):=by
 refine ab.intro (aA R.nK.2) (by simp[R.nK]) ?_;obtain⟨D,d0,dn,dg,ds,dl,dp⟩:=TD aH pe0 ps;have dp:=dp bh I5;subst hSl;simp[R.nK,ah,az];rw[←d0];refine fa.fN ps.length (λ_=>True) [1,2,6,7] (λi=>[(7,.int .i64 i)]) (λi=>[(KB,.arr 464 (D i))]) [.keep [1,2,6,7]] ?_;simp;refine⟨λi hi K hK=> ?_,λK=> ?_⟩
 ·have hx:=dg i hi;have hsd:=ds i hi;have hld:=dl i;have wi:IntKind.i64.wrap ((i:Int)+1)=(i:Int)+1:=wrap_i64 (by omega);generalize ps[i]=e at*;generalize D i=Di at*;generalize D (i+1)=Di1 at*;have aCN:Di.set i (jO e (.sl 0 [] false))=Di1:=hsd;simp[↓an,hx,hi,hld,wi,aCN,-getElem?_pos];refine⟨[.keep [1,2,6,7]],?_⟩;simp;exact hK _ (by simp)
 ·simp[↓an,↓an,dq];rw[dn];have Ag:aB (ps.map pe0):=aB.map I5 ps;refine bj.with [] [KB,KB+1] ?_;simp[af,ae,al,aG,aI,bw,hS.refs,hS.aI,Ag.refs,Ag.aI,TB]
def Yr {d:aR} {ps:Xo} {S:WG} {n:Nat} (hl:ps.length≤1048576) (hS:aB S) (hSl:S.length=n):
  ab Pg 18 [dq d (.rs KB [] 0 ps.length ps.length 464 .tip) (.rs (KB+1) [] 0 n n 34 .tip)] [.arr 464 (ps.map aH),.arr 34 S] (λr fp=>r=dq {d with aY:=[],buckets:=[],bad:=0} (.rs KB [] 0 ps.length ps.length 464 .tip) (.rs (KB+1) [] 0 n n 34 .tip)∧fp=[.arr 464 ((ps.map iB).map aH),.arr 34 S]):=by
 refine(I6 hl hS hSl).nz ?_;rintro r fp ⟨rfl,rfl⟩;exact⟨_,_,.st 148 (.same _<| .same _<| .same _<| .same _<| .same _<| .same _<| .same _<| .same _<| .same _<| .same _<| .same _<| .same _<| .sl 0 1 true false (by simp)<| .sl 0 19 true false (by simp)<| .same _ .nil) .nil,.cons (.arr 464 (TC ps)) (.cons (.same _) .nil),rfl,rfl⟩
def inU (n:Int):Prop:=0≤n∧n≤18446744073709551615
def tw:Int:=18446744073709551615
def Fe (t:Int):Int:=tw.fdiv (2^min (63-t.tmod 64).toNat 64)
def Ad (t:Int):Nat:=((t.tdiv 64).tmod 4).toNat
def mH (w:td):td:=if w.used=true then⟨true,w.top,if Ad w.top=0 then Fe w.top else tw,if Ad w.top=1 then Fe w.top else tw,if Ad w.top=2 then Fe w.top else tw,if Ad w.top=3 then Fe w.top else tw⟩else w
def zfs {L:WG} (hL:L.length=4) (hw:∀x∈L,x.width=1):∃Z:Nat->WG,Z 0=L∧Z 4=List.replicate 4 (.int .u64 tw)∧(∀i,i<4->(Z i).set i (.int .u64 tw)=Z (i+1))∧(∀i,i≤4->(Z i).length=4)∧(∀i,∀x∈Z i,x.width=1):=by
 refine⟨λi=>List.replicate i (.int .u64 tw)++L.drop i,by simp,?_,?_,?_,?_⟩
 ·show List.replicate 4 _++List.drop 4 L=_;rw[List.drop_eq_nil_of_le (by omega),JdW]
 ·intro i hi;have e:=List.drop_eq_getElem_cons (l:=L) (i:=i) (by omega);show(List.replicate i _++List.drop i L).set i _=_;rw[JhV _ _ (by simp),e];generalize L[i]=y;simp[List.replicate_succ']
 ·intro i hi;simp;omega
 ·intro i x hx;rcases JaX.1 hx with h|h
  ·rw[JhZ h];rfl
  ·exact hw x (JbW h)
def Nd {t:Int} (h:inU t):Ad t<4∧0≤(t.tdiv 64).tmod 4∧(t.tdiv 64).tmod 4<4:=by
 obtain⟨h0,h1⟩:=h;have q1:t.tdiv 64=t/64:=Int.tdiv_eq_ediv_of_nonneg h0;have q2:(t/64).tmod 4=t/64%4:=JiJ (by omega);unfold Ad;rw[q1,q2];omega
def afp (w:td) (hu:w.used=true) (h:inU w.top):PV.st 6 [.bl true,.int .u64 w.top,.ar 1 4 ((List.replicate 4 (.int .u64 tw)).set (Ad w.top) (.int .u64 (Fe w.top)))]=wP (mH w):=by
 have hk:=(Nd h).1;simp only[wP,mH,hu,if_true];rcases(by omega:Ad w.top=0∨Ad w.top=1∨Ad w.top=2∨Ad w.top=3)with e|e|e|e<;>simp[e,List.replicate]
theorem arJ {w:td} (h:inU w.top):aP Pg 44 [wP w] (wP (mH w)):=by
 refine ab.intro (aA R.Nf.2) (by simp[R.Nf]) ?_;by_cases hu:w.used=true
 ·obtain⟨hk,k0,k4⟩:=Nd h;have hfe:=afp w hu h;obtain⟨h0,h1⟩:=h;have q1:w.top.tdiv 64=w.top/64:=Int.tdiv_eq_ediv_of_nonneg h0;have q3:w.top.tmod 64=w.top%64:=JiJ h0;have w2:IntKind.u64.wrap (w.top.tdiv 64)=w.top.tdiv 64:=by rw[q1];exact wrap_u64 (by omega)
  have w3:IntKind.u64.wrap (63-w.top.tmod 64)=63-w.top.tmod 64:=by rw[q3];exact wrap_u64 (by omega)
  have m0:0≤63-w.top.tmod 64:=by rw[q3];omega
  have hw:wP w= .st 6 [.bl true,.int .u64 w.top,.ar 1 4 [.int .u64 w.w0,.int .u64 w.w1,.int .u64 w.w2,.int .u64 w.w3]]:=by rw[wP,hu]
  have hL4:([PV.int .u64 w.w0,.int .u64 w.w1,.int .u64 w.w2,.int .u64 w.w3]:WG).length=4:=rfl
  have hLw:∀x∈([PV.int .u64 w.w0,.int .u64 w.w1,.int .u64 w.w2,.int .u64 w.w3]:WG),x.width=1:=by
   intro x hx;simp at hx;rcases hx with rfl|rfl|rfl|rfl<;>rfl
  rw[hw];have He:Pure (wP (mH w)):=by simp[wP]
  generalize hX:wP (mH w)=X at hfe He;generalize ([PV.int .u64 w.w0,.int .u64 w.w1,.int .u64 w.w2,.int .u64 w.w3]:WG)=L at*;obtain⟨Z,z0,z4,zs,zl,zw⟩:=zfs hL4 hLw;simp[R.Nf,ah,az];refine fa.fN 4 (λ_=>True) [1,2,8] (λi=>[(8,.int .i64 i)]) (λi=>[(1,.box (.st 6 [.bl true,.int .u64 w.top,.ar 1 4 (Z i)]))]) [.keep [1,2,8]] ?_;have ho:(PV.int IntKind.u64 18446744073709551615)= .int .u64 tw:=rfl;simp[z0];refine⟨λi hi K hK=> ?_,λK=> ?_⟩
  ·have hw:IntKind.i64.wrap ((i:Int)+1)=(i:Int)+1:=wrap_i64 (by omega);have je:(i:Int)<4:=by omega
   have hse:=zs i hi;have hlen:=zl i (by omega);have U1:=zw i;generalize Z i=Y at*;generalize Z (i+1)=Y2 at*;have hzi:Y[i].width=1:=U1 _ (JaJ (by omega));simp[↓an,hi,je,hw,ho,hse,hlen,hzi];refine⟨[.keep [1,2,8]],?_⟩;simp;exact hK _ (by simp)
  ·have hlen:=zl 4 (by omega);have U1:=zw 4;rw[←z4]at hfe;generalize Z 4=Y at*;unfold Fe Ad at hfe;unfold Ad at hk;generalize hq:w.top.tdiv 64=q at*;generalize hkk:q.tmod 4=k at*;generalize hm:w.top.tmod 64=m at*;have Fp:k.toNat<Y.length:=by omega
   have hzi:Y[k.toNat].width=1:=U1 _ (JaJ Fp);have m1:m≤63:=by omega
   simp[↓an,hlen,hq,hkk,hm,w2,w3,k0,k4,m1,ho,hzi];refine bH ?_;simp;have e:IntKind.u64.bits=64:=rfl;rw[e];rw[←hfe]at He;simp at He;exact⟨He,hfe⟩
 ·simp[R.Nf,ah,az,wP,hu];refine bH ?_;simp[mH,hu]
def Ys (s:cG):ab Pg 42 [aZ s] [] (λr fp=>r= .bl (!s.eM)∧fp=[]):=by
 refine ab.intro (aA R.mI.2) (by simp[R.mI]) ?_;simp[R.mI,ah,az];refine bH ?_;simp
def WU (v:FV uo):Prop:=∃w:td,inU w.top∧v=nW w
def WU.ex (v:FV uo):∃v':FV uo,∀w:td,inU w.top->v=nW w->v'=nW (mH w):=by
 by_cases h:WU v
 ·obtain⟨w,h1,rfl⟩:=h;refine⟨nW (mH w),λw' h2 e=> ?_⟩;have hp:wP w=wP w':=congrArg FV.p e;obtain⟨a,b,c,d,f,g⟩:=w;obtain⟨a',b',c',d',f',g'⟩:=w';simp[wP]at hp;obtain⟨rfl,rfl,rfl,rfl,rfl,rfl⟩:=hp;rfl
 ·exact⟨v,λw h1 e=>absurd ⟨w,h1,e⟩ h⟩
def qI (v:FV uo):FV uo:=Classical.choose (WU.ex v)
def nM {w:td} (h:inU w.top):qI (nW w)=nW (mH w):=Classical.choose_spec (WU.ex (nW w)) w h rfl
def TE {v:FV uo} (h:WU v):aP Pg 44 [v.p] (qI v).p:=by
 obtain⟨w,h1,rfl⟩:=h;rw[nM h1];exact arJ h1
def yp (s:jx):jx:= {s with tC:=qI s.tC}
def ez (p:nU):nU:=if p.has=true then⟨true,yp p.eM⟩else p
def iV (r:lU) (k:Nat):lU:=⟨if 1≤k then ez r.p else r.p,if 2≤k then ez r.c else r.c,if 3≤k then ez r.n else r.n⟩
def GS (p:nU) (a:Bool×Int):Bool×Int:=if p.has=true then(if a.1=false∨a.2<p.eM.born then(true,p.eM.born)else a)else a
def AM (r:lU):Nat->Bool×Int
 |0=>(false,0)
 |k+1=>GS (jC r (k+1)) (AM r k)
def TF (r:lU) {k:Nat} (h:k<3):jC (iV r k) (k+1)=jC r (k+1):=by
 rcases(by omega:k=0∨k=1∨k=2)with rfl|rfl|rfl<;>simp[jC,iV]
def Yt (r:lU) {k:Nat} (h:k<3) (hh:(jC r (k+1)).has=false):iV r (k+1)=iV r k:=by
 rcases(by omega:k=0∨k=1∨k=2)with rfl|rfl|rfl<;>simp[jC]at hh<;>simp[iV,ez,hh]
def TG (r:lU) {k:Nat} (h:k<3) (hh:(jC r (k+1)).has=true):D4 (iV r k) (k+1) (yp (jC r (k+1)).eM)=iV r (k+1):=by
 rcases(by omega:k=0∨k=1∨k=2)with rfl|rfl|rfl<;>simp[jC]at hh<;>simp[iV,ez,hh,D4,jC]
def Ec:Wu->PV
 |[]=> .sl 0 [] true
 |l=>bM l
def I7 {l:Wu} (h:l≠[]):Ec l=bM l:=by cases l<;>simp_all [Ec]
@[simp] def aiU (l:Wu):(Ec l).width=1:=by cases l<;>rfl
@[simp] theorem au9 (l:Wu):(Ec l).isAgg=false:=by cases l<;>rfl
@[simp] theorem arK (l:Wu):(Ec l).aV=true:=by cases l<;>rfl
@[simp↓] theorem ava (g:Bool) (l:Wu) (K:W7):eT g (Ec l) K=K (Ec l):=by cases l<;>rfl
@[simp] theorem TH (l:Wu):Pure (Ec l):=by cases l<;>simp[Ec]
theorem Yu (l:Wu) (t:cZ):im l t≠[]:=by simp[im]
theorem abG {l:Wu} (h:l.length≤1048575) (t:cZ):aP Pg 46 [wk (Ec l),bn t] (Ec (im l t)):=by
 rw[I7 (Yu l t)];have:=aBt h t;cases l with
 |nil=>exact ab.nzA this (.cons (by simp only[Ec,wk];exact .sl 0 34 false false (by simp) .nil) (Kk.refl _)) .nil
 |
  cons x r=>
  have e:wk (Ec (x::r))=bM (x::r):=by rw[I7 (by simp)];simp
  rw[e];exact this
def jk (e:aR) (p q c:PV):PV:=jI e p q c
theorem Yv (e:aR) (p q c:PV):jI e p q c=jk e p q c:=rfl
@[simp] def abH (e:aR) (p q c:PV):(jk e p q c).width=148:=_root_.id rfl
@[simp] theorem aiV (e:aR) (p q c:PV):(jk e p q c).isAgg=true:=rfl
@[simp] theorem afq (e:aR) (p q c:PV):(jk e p q c).aV=true:=rfl
@[simp] theorem afr (e:aR) (p q c:PV):(jk e p q c).flat=true:=rfl
@[simp↓] theorem aiW (g:Bool) (e:aR) (p q c:PV) (K:W7):eT g (jk e p q c) K=K (jk e p q c):=_root_.id rfl
@[simp↓] theorem Yw (e:aR) (p q c:PV) (r:Zy):aO (jk e p q c) (.f 0 0::r)=aO (cQ e.rules) r:=by simp[jk,jI]
@[simp↓] theorem LaX (e:aR) (p q c:PV) (r:Zy):aO (jk e p q c) (.f 5 107::r)=aO (.int .i64 e.now) r:=by simp[jk,jI,au]
@[simp↓] theorem Yy (e:aR) (p q c:PV) (r:Zy):aO (jk e p q c) (.f 6 108::r)=aO p r:=by simp[jk,jI,au]
@[simp↓] theorem Yz (e:aR) (p q c:PV) (hp:p.width=1) (hq:q.width=1) (r:Zy):aO (jk e p q c) (.f 9 111::r)=aO c r:=by simp[jk,jI,au,hp,hq]
@[simp↓] theorem YA (e:aR) (p q c:PV) (hp:p.width=1) (hq:q.width=1) (r:Zy) (x:PV):cu (jk e p q c) (.f 9 111::r) x=(cu c r x).bind λc'=>some (jk e p q c'):=by simp[jk,jI,au,hp,hq]
@[simp] theorem YB (f:Nat->Bool) (e:aR) (p q:PV) (l:Wu):ae f (jk e p q (Ec l))=(ae f p&&ae f q):=by
 have:=GR f e p q;have h4:ae f (bM e.timers)=true:=(wN _).refs f;have h5:ae f (Ec l)=true:=(TH _).refs f;rw[←this];simp[dq,jk,jI,ae,al]
@[simp] def aiX (ρ:Nat->Nat) (e:aR) (p q:PV) (l:Wu):aI ρ (jk e p q (Ec l))=jk e (aI ρ p) (aI ρ q) (Ec l):=by
 simp[jk,jI,aI,bw]
theorem TI (e:aR) (p q:PV) (l:Wu):Nz [jk e p q (Ec l)] [dq {e with timers:=l} p q]:=by
 cases l with
 |nil=>exact .st 148 (.same _<| .same _<| .same _<| .same _<| .same _<| .same _<| .same _<| .same _<| .same _<| .sl 0 34 true false (by simp)<| .same _<| .same _<| .same _<| .same _<| .same _ .nil) .nil
 |cons x r=>exact .refl _
def hU (e:bE):bE:= {e with hand:=kJ,jj:=false,kU:=v8,kV:=0,yy:=v8,ring:=iV e.ring 3}
def yA (d:aR) (l:Wu) (e:bE):Wu:=
 let l1:=if(AM e.ring 3).1=true then im l ⟨max (IntKind.i64.wrap ((AM e.ring 3).2+IntKind.i64.wrap (3*d.rules.iP))) (IntKind.i64.wrap (d.now+1)),e.cK,5⟩else l
 if e.ik≠0 then im l1 ⟨IntKind.i64.wrap (d.now+e.ik),e.cK,4⟩else l1
def PU (e:bE):Prop:=∀k,k=1∨k=2∨k=3->(jC e.ring k).has=true->WU (jC e.ring k).eM.tC
def qJ (l:Wu) (t:cZ):(im l t).length≤l.length+1:=by
 have h1:(bI l t.peer t.kind).length≤l.length:=JeV _ _;have h2:=xY t (bI l t.peer t.kind);simp only[im,JaV,lJ,JdX,JbZ,List.length_nil];omega
def Lq (d:aR) (l:Wu) (e:bE):(yA d l e).length≤l.length+2:=by
 unfold yA;simp only;split
 ·refine JgJ (qJ _ _) ?_;split
  ·have:=qJ l ⟨max (IntKind.i64.wrap ((AM e.ring 3).2+IntKind.i64.wrap (3*d.rules.iP))) (IntKind.i64.wrap (d.now+1)),e.cK,5⟩;omega
  ·omega
 ·split
  ·have:=qJ l ⟨max (IntKind.i64.wrap ((AM e.ring 3).2+IntKind.i64.wrap (3*d.rules.iP))) (IntKind.i64.wrap (d.now+1)),e.cK,5⟩;omega
  ·omega
theorem wZ (d:aR):∀(ps:Xo) (l:Wu),(ps.foldl (yA d) l).length≤l.length+2*ps.length
 |[],l=>by simp
 |
  e::ps,l=>by
  have h1:=wZ d ps (yA d l e)
  have h2:=Lq d l e
  simp only[List.foldl_cons,JbZ];omega
theorem Lr {d:aR} {ps:Xo} {S:WO} (hl:ps.length≤100000) (hS:S.length≤1048576) (hw:∀e∈ps,PU e):
  ab Pg 19 [dq d (.rs KB [] 0 ps.length ps.length 464 .tip) (.rs (KB+1) [] 0 S.length S.length 34 .tip)] [.arr 464 (ps.map aH),.arr 34 (S.map aZ)] (λr fp=>r=jk d (.rs KB [] 0 ps.length ps.length 464 .tip) (.rs (KB+1) [] 0 (S.filter λx=>x.eM).length S.length 34 .tip) (Ec (ps.foldl (yA d) []))∧fp=[.arr 464 ((ps.map hU).map aH),.arr 34 ((S.filter λx=>x.eM).map aZ++List.replicate (S.length-(S.filter λx=>x.eM).length) GQ)]):=by
 refine ab.intro T.jJ (by simp[F.jJ]) ?_;have hdl:=aBs (L:=S) hS (g:=42) (q:=λs=> !s.eM) (λx _=>Ys x);simp only[Bool.not_not]at hdl;have xh:aB (S.map aZ):=aL fB S;obtain⟨D,d0,dn,dg,ds,dl,dp⟩:=TD aH (λe=>aH (hU e)) ps;have dp:=dp bh (λ_=>bh _);simp[F.jJ,ah,az];have uY:(S.filter λx=>x.eM).length≤S.length:=JeV _ _;obtain⟨J,hJe,hJ,hJl⟩:∃J,List.replicate (S.length-(S.filter λx=>x.eM).length) GQ=J∧aB J∧J.length=S.length-(S.filter λx=>x.eM).length:=⟨_,rfl,aB.mk' λp hp=>by rw[JhZ hp];simp[GQ],by simp⟩
 rw[hJe]at hdl⊢;have fL:aB ((S.filter λx=>x.eM).map aZ++J):=(aL fB _).append hJ;have qm:((S.filter λx=>x.eM).map aZ++J).length=S.length:=by simp;omega
 generalize hKd:(S.filter λx=>x.eM)=Kp at*;refine aj.gA [KB+1] [] [.arr 34 (S.map aZ)] hdl (by simp[af]) (by simp[aG]) (by simp[af,ae,dL,fL.refs]) ?_;simp[aQ,aG,aI,cN,fL.aI,Yv];rw[←d0]
 have JF:∀i,i≤ps.length->((ps.take i).foldl (yA d) []).length≤1000000:=λi hi=>by
  have:=wZ d (ps.take i) [];rw[lJ]at this;simp only[List.length_nil]at this;omega
 refine fa.fN ps.length (λ_=>True) [1,2,16,17] (λi=>[(17,.int .i64 i)]) (λi=>[(1,.box (jk d (.rs KB [] 0 ps.length ps.length 464 .tip) (.rs (KB+1) [] 0 Kp.length S.length 34 .tip) (Ec ((ps.take i).foldl (yA d) [])))),(KB,.arr 464 (D i))]) [.keep [1,2,16,17]] ?_;simp;refine⟨by simp[Ec],λi hi K hK=> ?_,λK=> ?_⟩
 ·have hx:=dg i hi;have hsd:=ds i hi;have hld:=dl i;have wi:IntKind.i64.wrap ((i:Int)+1)=(i:Int)+1:=wrap_i64 (by omega);have He:=hw ps[i] (JaJ hi);have YY:=JF i (by omega)
  have hts:(ps.take (i+1)).foldl (yA d) []=yA d ((ps.take i).foldl (yA d) []) ps[i]:=by
   rw[JcJ hi,List.foldl_append];rfl
  rw[hts]at hK;generalize (ps.take i).foldl (yA d) []=tl at*;generalize ps[i]=e at*
  obtain⟨X,X0,Xd,Xg,Xs,Xl,Xp⟩:∃X:PV->WG,X (aH e)=D i∧X (aH (hU e))=D (i+1)∧(∀a,(X a)[i]? =some a)∧(∀a b,(X a).set i b=X b)∧(∀a,(X a).length=ps.length)∧(∀a,Pure a->aB (X a)):=by
   refine⟨λa=>(D i).set i a,?_,hsd,λa=> ?_,λa b=>List.set_set ..,λa=>by rw[JnW,hld],λa ha=>aB.mk' λx hx=> ?_⟩
   ·apply List.ext_getElem?;intro j;rw[List.getElem?_set];split
    ·rename_i h;subst h;rw[if_pos (by omega),hx]
    ·rfl
   ·rw[List.getElem?_set_self (by omega)]
   ·rcases JjZ hx with h|rfl
    ·exact(dp i).forget x h
    ·exact ha
  rw[←X0];rw[←Xd]at hK;have z8:∀e:bE,xU e (.st 100 [.bl false,.int .u32 0,.ar 1 32 (zr 32 (.int .u8 0)),.st 64 [.ar 1 32 (zr 32 (.int .u8 0)),.ar 1 32 (zr 32 (.int .u8 0))],.int .i64 0,.int .i64 0])=aH {e with hand:=kJ}:=λ_=>rfl;have z10:∀e:bE,vp e (.ar 1 16 (zr 16 (.int .u8 0)))=aH {e with kU:=v8}:=λ_=>rfl;have z12:∀e:bE,vq e (.ar 1 16 (zr 16 (.int .u8 0)))=aH {e with yy:=v8}:=λ_=>rfl;simp[↓an,hi,Xg,Xs,Xl,z8,z10,z12,-getElem?_pos];refine fa.fN 3 (λ_=>True) [1,2,4,5,6,7,16,17] (λk=>[(5,.bl (AM e.ring k).1),(6,.int .i64 (AM e.ring k).2),(7,.int .i64 ((k:Int)+1))]) (λk=>[(KB,.arr 464 (X (aH {e with hand:=kJ,jj:=false,kU:=v8,kV:=0,yy:=v8,ring:=iV e.ring k})))]) [.keep [1,2,4,5,6,7,16,17]] ?_;have r0:iV e.ring 0=e.ring:=by simp[iV]
  have Fo:AM e.ring 0=(false,0):=rfl;simp[r0,Fo];refine⟨λk hk K2 yu=> ?_,λK2=> ?_⟩
  ·have hg:aP Pg 43 [dt (iV e.ring k),.int .i64 ((k:Int)+1)] (gq (jC e.ring (k+1))):=by
    have:=mB (iV e.ring k) (k:=k+1) (by omega);rw[TF e.ring hk]at this;rw[show(k:Int)+1=((k+1:Nat):Int) by omega];exact this
   have El:∀x,aP Pg 45 [dt (iV e.ring k),.int .i64 ((k:Int)+1),dQ x] (dt (D4 (iV e.ring k) (k+1) x)):=λx=>by
    have:=Tv (iV e.ring k) (k:=k+1) (by omega) x;rw[show(k:Int)+1=((k+1:Nat):Int) by omega];exact this
   rw[show AM e.ring (k+1)=GS (jC e.ring (k+1)) (AM e.ring k) from rfl]at yu;have Hg:=He (k+1) (by omega);have yw:=Yt e.ring hk;have hpt:=TG e.ring hk;have hk3:(k:Int)+1≤3:=by omega
   have wk':IntKind.i64.wrap ((k:Int)+1+1)=(k:Int)+1+1:=wrap_i64 (by omega);generalize AM e.ring k=ac at*;generalize jC e.ring (k+1)=pl at*;generalize iV e.ring k=rk at*;generalize iV e.ring (k+1)=rk1 at*;simp[↓an,hk3,Xg,Xl,-getElem?_pos];refine aj.rA hg ?_;by_cases hh:pl.has=true
   ·simp[hh];refine⟨λhb=> ?_,λJG vM=> ?_⟩
    ·refine aj.rA (TE (Hg hh)) ?_;simp[Xg,Xl,-getElem?_pos];refine aK.ret (El (yp pl.eM)) (by simp[yp]) (by simp) (by simp) ?_;simp[Xg,Xs,Xl,wk',-getElem?_pos];rw[hpt hh];refine⟨[.keep [1,2,4,5,6,7,16,17],.dr 8],?_⟩;simp[aW,bA,ae,al,af];refine⟨⟨(Xp _ (by simp)).refs _,hJ.refs _⟩,yu _ ?_⟩;have Jh:GS pl ac=(true,pl.eM.born):=by rw[GS,if_pos hh,if_pos hb]
     simp[Jh]
    ·refine aj.rA (TE (Hg hh)) ?_;simp[Xg,Xl,-getElem?_pos];refine aK.ret (El (yp pl.eM)) (by simp[yp]) (by simp) (by simp) ?_;simp[Xg,Xs,Xl,wk',-getElem?_pos];rw[hpt hh];refine⟨[.keep [1,2,4,5,6,7,16,17],.dr 8],?_⟩;simp[aW,bA,ae,al,af];refine⟨⟨(Xp _ (by simp)).refs _,hJ.refs _⟩,yu _ ?_⟩;have Jh:GS pl ac=ac:=by rw[GS,if_pos hh,if_neg (by rintro(h|h)<;>simp_all<;>omega)]
     simp[Jh]
   ·have hh:pl.has=false:=by simpa using hh
    simp[hh];refine⟨[.keep [1,2,4,5,6,7,16,17],.dr 8],?_⟩;simp[wk',aW,bA,ae,al,af];exact⟨⟨(Xp _ (by simp)).refs _,hJ.refs _⟩,yu _ (by simp[GS,hh,yw hh])⟩
  ·have aCQ:({cK:=e.cK,shared:=e.shared,ff:=e.ff,ep:=e.ep,ik:=e.ik,tF:=e.tF,oz:=e.oz,pW:=e.pW,hand:=kJ,jj:=false,kU:=v8,kV:=0,yy:=v8,ring:=iV e.ring 3,aM:=e.aM}:bE)=hU e:=rfl;have htm:yA d tl e=(if e.ik≠0 then im (if(AM e.ring 3).1=true then im tl ⟨max (IntKind.i64.wrap ((AM e.ring 3).2+IntKind.i64.wrap (3*d.rules.iP))) (IntKind.i64.wrap (d.now+1)),e.cK,5⟩else tl) ⟨IntKind.i64.wrap (d.now+e.ik),e.cK,4⟩else(if(AM e.ring 3).1=true then im tl ⟨max (IntKind.i64.wrap ((AM e.ring 3).2+IntKind.i64.wrap (3*d.rules.iP))) (IntKind.i64.wrap (d.now+1)),e.cK,5⟩else tl)):=rfl;have Be:=abG (l:=tl) (by omega);have xd:=qJ tl;have agl:=λt=>abG (l:=im tl t) (by have:=xd t;omega);rw[aCQ];have lk1:(hU e).ik=e.ik:=rfl;have lk2:(hU e).cK=e.cK:=rfl;have Pu:Pure (aH (hU e)):=by simp
   have hdg:∀e':bE,(aH e').isAgg=true:=λ_=>by simp
   generalize AM e.ring 3=hb at*;generalize hU e=le at*;by_cases h1:hb.1=true
   ·by_cases h2:e.ik=0
    ·simp[↓an,h1,lk2,Xg,Xl,-getElem?_pos];refine aK.ret (Be (⟨max (IntKind.i64.wrap (hb.2+IntKind.i64.wrap (3*d.rules.iP))) (IntKind.i64.wrap (d.now+1)),e.cK,5⟩:cZ)) (by simp[bn]) (by simp) (by simp) ?_;simp[↓an,h2,lk1,Xg,Xl,wi,-getElem?_pos];refine⟨[.keep [1,2,16,17]],?_⟩;simp;exact hK _ (by simp[htm,h1,h2])
    ·simp[↓an,h1,lk2,Xg,Xl,-getElem?_pos];refine aK.ret (Be (⟨max (IntKind.i64.wrap (hb.2+IntKind.i64.wrap (3*d.rules.iP))) (IntKind.i64.wrap (d.now+1)),e.cK,5⟩:cZ)) (by simp[bn]) (by simp) (by simp) ?_;simp[h2,lk1,lk2,Xg,Xl,-getElem?_pos];refine aK.ret (agl (⟨max (IntKind.i64.wrap (hb.2+IntKind.i64.wrap (3*d.rules.iP))) (IntKind.i64.wrap (d.now+1)),e.cK,5⟩:cZ) (⟨IntKind.i64.wrap (d.now+e.ik),e.cK,4⟩:cZ)) (by simp[bn]) (by simp) (by simp) ?_;simp[↓an,wi,-getElem?_pos];refine⟨[.keep [1,2,16,17]],?_⟩;simp;exact hK _ (by simp[htm,h1,h2])
   ·have h1:hb.1=false:=by simpa using h1
    by_cases h2:e.ik=0
    ·simp[↓an,h1,h2,lk1,Xg,Xl,wi,-getElem?_pos];refine⟨[.keep [1,2,16,17]],?_⟩;simp;exact hK _ (by simp[htm,h1,h2])
    ·simp[↓an,h1,h2,lk1,lk2,Xg,Xl,-getElem?_pos];refine aK.ret (Be (⟨IntKind.i64.wrap (d.now+e.ik),e.cK,4⟩:cZ)) (by simp[bn]) (by simp) (by simp) ?_;simp[↓an,wi,-getElem?_pos];refine⟨[.keep [1,2,16,17]],?_⟩;simp;exact hK _ (by simp[htm,h1,h2])
 ·simp[↓an,↓an];rw[dn];have Ag:aB (ps.map λe=>aH (hU e)):=aB.map (λ_=>bh _) ps;have UZ:ps.map (aH∘hU)=ps.map λe=>aH (hU e):=rfl;rw[UZ];generalize (ps.map λe=>aH (hU e))=PL at*;generalize hSL:Kp.map aZ++J=SL at*;refine bj.with [] [KB,KB+1] ?_;simp[af,ae,aG,aI,Ag.refs,Ag.aI,fL.refs,fL.aI]
def afs {d:aR} {ps:Xo} {S:WO} (hl:ps.length≤100000) (hS:S.length≤1048576) (hw:∀e∈ps,PU e):
  ab Pg 19 [dq d (.rs KB [] 0 ps.length ps.length 464 .tip) (.rs (KB+1) [] 0 S.length S.length 34 .tip)] [.arr 464 (ps.map aH),.arr 34 (S.map aZ)] (λr fp=>r=dq {d with timers:=ps.foldl (yA d) []} (.rs KB [] 0 ps.length ps.length 464 .tip) (.rs (KB+1) [] 0 (S.filter λx=>x.eM).length S.length 34 .tip)∧fp=[.arr 464 ((ps.map hU).map aH),.arr 34 ((S.filter λx=>x.eM).map aZ++List.replicate (S.length-(S.filter λx=>x.eM).length) GQ)]):=by
 refine(Lr hl hS hw).nz ?_;rintro r fp ⟨rfl,rfl⟩;exact⟨_,_,TI _ _ _ _,.cons (.same _) (.cons (.same _) .nil),rfl,rfl⟩
def DL (ps:Xo):Nat->Xo
 |0=>ps
 |1=>ps.map iB
 |_=>(ps.map iB).map hU
def Ff (d:aR) (ps:Xo):Nat->aR
 |0=>d
 |1=> {d with aY:=[],buckets:=[],bad:=0}
 |_=> {d with aY:=[],buckets:=[],bad:=0,timers:=(ps.map iB).foldl (yA {d with aY:=[],buckets:=[],bad:=0}) []}
def Ha (S:WO):Nat->WG
 |0=>S.map aZ
 |1=>S.map aZ
 |_=>(S.filter λx=>x.eM).map aZ++List.replicate (S.length-(S.filter λx=>x.eM).length) GQ
def Pa (S:WO):Nat->Nat
 |0=>S.length
 |1=>S.length
 |_=>(S.filter λx=>x.eM).length
def Pb:Nat->WG
 |0=>[]
 |1=>[.fn (.func 18) [] []]
 |_=>[.fn (.func 18) [] [],.fn (.func 19) [] []]
def YC {m:Nat} (h:m≤2):(Pb m).length=m:=by
 rcases(by omega:m=0∨m=1∨m=2)with rfl|rfl|rfl<;>rfl
theorem arL {m:Nat} (h:0<m):(Pb m)[0]? =some (.fn (.func 18) [] []):=by
 match m,h with
 |1,_=>rfl
 |m+2,_=>rfl
theorem arM {m:Nat} (h:1<m):(Pb m)[1]? =some (.fn (.func 19) [] []):=by
 match m,h with
 |m+2,_=>rfl
theorem I8 (m:Nat):aB (Pb m):=by
 match m with
 |0=>simp[Pb]
 |1=>simp[Pb]
 |m+2=>simp[Pb]
def YD {e:bE} (h:PU e):PU (iB e):=h
theorem MM (ps:Xo) (m:Nat):(DL ps m).length=ps.length:=by
 match m with
 |0=>rfl
 |1=>simp[DL]
 |m+2=>simp[DL]
def Pc:Pure GQ:=by simp[GQ]
theorem Dq (S:WO) (m:Nat):aB (Ha S m):=by
 have h:∀l:WO,aB (l.map aZ):=λl=>aL fB l;match m with
 |0=>exact h S
 |1=>exact h S
 |m+2=>exact(h _).append (aB.mk' λp hp=>by rw[JhZ hp];exact Pc)
theorem YE (S:WO) (m:Nat):(Ha S m).length=S.length:=by
 have:=JeV (λx:cG=>x.eM) S;match m with
 |0=>simp[Ha]
 |1=>simp[Ha]
 |m+2=>simp[Ha];omega
theorem aft {d:aR} {ps:Xo} {S:WO} {m:Nat} (hm:m≤2) (hl:ps.length≤100000) (hS:S.length≤1048576) (hw:∀e∈ps,PU e):
  ab Pg 20 [dq d (.rs KB [] 0 ps.length ps.length 464 .tip) (.rs (KB+1) [] 0 S.length S.length 34 .tip),.sl 1 (Pb m) false] [.arr 464 (ps.map aH),.arr 34 (S.map aZ)] (λr fp=>r=dq (Ff d ps m) (.rs KB [] 0 ps.length ps.length 464 .tip) (.rs (KB+1) [] 0 (Pa S m) S.length 34 .tip)∧fp=[.arr 464 ((DL ps m).map aH),.arr 34 (Ha S m)]):=by
 refine ab.intro (aA R.qf.2) (by simp[R.qf]) ?_;have Ud:=YC hm;have f0:=λh=>arL (m:=m) h;have f1:=λh=>arM (m:=m) h;have hfp:=I8 m;have xh:∀l:Xo,aB (l.map aH):=λl=>aL bh l;have T8:aB (S.map aZ):=aL fB S;generalize Pb m=fs at*;simp[R.qf,ah,az,Ud];refine fa.fN m (λ_=>True) [2,4,7,8,9] (λi=>[(9,.int .i64 i)]) (λi=>[(2,.box (dq (Ff d ps i) (.rs KB [] 0 ps.length ps.length 464 .tip) (.rs (KB+1) [] 0 (Pa S i) S.length 34 .tip))),(KB,.arr 464 ((DL ps i).map aH)),(KB+1,.arr 34 (Ha S i))]) [.keep [2,4,7,8,9]] ?_;have d0:Ff d ps 0=d:=rfl;have p0:DL ps 0=ps:=rfl;have n0:Pa S 0=S.length:=rfl;have t0:Ha S 0=S.map aZ:=rfl;have d1:Ff d ps 1= {d with aY:=[],buckets:=[],bad:=0}:=rfl;have p1:DL ps 1=ps.map iB:=rfl;have n1:Pa S 1=S.length:=rfl;have t1:Ha S 1=S.map aZ:=rfl;have d2:Ff d ps 2= {d with aY:=[],buckets:=[],bad:=0,timers:=(ps.map iB).foldl (yA {d with aY:=[],buckets:=[],bad:=0}) []}:=rfl;have p2:DL ps 2=(ps.map iB).map hU:=rfl;have n2:Pa S 2=(S.filter λx=>x.eM).length:=rfl;have t2:Ha S 2=(S.filter λx=>x.eM).map aZ++List.replicate (S.length-(S.filter λx=>x.eM).length) GQ:=rfl;simp[d0,p0,n0,t0];refine⟨λi hi K hK=> ?_,λK=> ?_⟩
 ·rcases(by omega:i=0∨i=1)with rfl|rfl
  ·have f0:=f0 hi;have Fq:=Yr (d:=d) (ps:=ps) (S:=S.map aZ) (n:=S.length) (by omega) T8 (by simp);have hp1:=xh ps;have vK:=xh (ps.map iB);have h0m:(0:Int)<m:=by omega
   simp only[d0,p0,n0,t0];simp only[JhX,d1,p1,n1,t1]at hK;generalize (ps.map iB).map aH=P2 at*;simp[↓an,hi,Ud,f0,-getElem?_pos];refine aj.gA [KB,KB+1] [] [.arr 464 (ps.map aH),.arr 34 (S.map aZ)] Fq (by simp[af]) (by simp[aG]) (by simp[af,ae,dL,vK.refs]) ?_;simp[aQ,aG,aI,cN,vK.aI];refine⟨[.keep [2,4,7,8,9]],?_⟩;simp;exact hK _ (by simp)
  ·have f1:=f1 hi;have Fq:=afs (d:=Ff d ps 1) (ps:=ps.map iB) (S:=S) (by simpa using hl) hS (λe he=>by obtain⟨e',h',rfl⟩:=JcV.1 he;exact YD (hw e' h'));rw[JeW]at Fq;have JA: {Ff d ps 1 with timers:=(ps.map iB).foldl (yA (Ff d ps 1)) []}=Ff d ps 2:=rfl;rw[JA,←t2,←n2,←p2]at Fq;have hp1:=xh (ps.map iB);have vK:=xh (DL ps 2);have Eo:=Dq S 2;have h0m:(1:Int)<m:=by omega
   have DF:((1:Nat):Int)=1:=rfl;simp only[p1,n1,t1];simp only[show 1+1=2 from rfl]at hK;generalize Ff d ps 1=dd1 at*;generalize Ff d ps 2=dd2 at*;generalize (DL ps 2).map aH=P2 at*;generalize Ha S 2=S2 at*;generalize Pa S 2=N2 at*;generalize hP1:(ps.map iB).map aH=P1 at*;simp[↓an,h0m,Ud,f1,DF,-getElem?_pos];refine aj.gA [KB,KB+1] [] [.arr 464 P1,.arr 34 (S.map aZ)] Fq (by simp[af,hp1.refs]) (by simp[aG,hp1.aI]) (by simp[af,ae,dL,Eo.refs,vK.refs]) ?_;simp[aQ,aG,aI,cN,Eo.aI,vK.aI];refine⟨[.keep [2,4,7,8,9]],?_⟩;simp;exact hK _ (by simp)
 ·have vK:=xh (DL ps m);have Eo:=Dq S m;generalize (DL ps m).map aH=P2 at*;generalize Ha S m=S2 at*;simp[↓an,↓an];refine bj.with [] [KB,KB+1] ?_;simp[af,ae,aG,aI,vK.refs,vK.aI,Eo.refs,Eo.aI]
def Dr (S:WO) (m:Nat):WO:=if m≤1 then S else S.filter λx=>x.eM
def gN (d:aR) (m:Nat):aR:= {Ff d d.aa m with aa:=DL d.aa m,aE:=Dr d.aE m}
theorem TJ (S:WO) (m:Nat):(Ha S m).take (Pa S m)=(Dr S m).map aZ:=by
 match m with
 |0=>simp[Ha,Pa,Dr]
 |1=>simp[Ha,Pa,Dr]
 |m+2=>simp[Ha,Pa,Dr]
theorem afu (S:WO) (m:Nat):Pa S m≤S.length:=by
 match m with
 |0=>simp[Pa]
 |1=>simp[Pa]
 |m+2=>exact JeV _ _
def Ls {d:aR} (h:G9 d) (hp:d.aa.length≤100000) (hw:∀e∈d.aa,PU e) {m:Nat} (hm:m≤2):aP Pg 5 [bN d,.int .i64 (3-m)] (.tup [bN (gN d m),.int .i64 0]):=by
 refine ab.intro (aA R.gC.2) (by simp[R.gC]) ?_;have g1:¬(3-(m:Int))<1:=by omega
 have g2:¬3<(3-(m:Int)):=by omega
 have w1:IntKind.i64.wrap (3-(3-(m:Int)))=m:=by rw[wrap_i64 (by omega)];omega
 simp[R.gC,ah,az,g1,g2]
 have ht:List.take m [PV.fn (.func 18) [] [],.fn (.func 19) [] []]=Pb m:=by
  rcases(by omega:m=0∨m=1∨m=2)with rfl|rfl|rfl<;>rfl
 have hfp:=I8 m;have ss:gI (Pb m)=Pb m:=by rcases(by omega:m=0∨m=1∨m=2)with rfl|rfl|rfl<;>simp[Pb]
 have fL:=aft (d:=d) (ps:=d.aa) (S:=d.aE) hm hp h.aE hw;have hp1:aB (d.aa.map aH):=aL bh _;have Ef:aB (d.aE.map aZ):=aL fB _;have vK:aB ((DL d.aa m).map aH):=aL bh _;have DM:=Dq d.aE m;refine oG.run [16,30] rfl ?_;simp[w1,ht];refine⟨by omega,?_⟩;refine aj.gA [] [16,30] [] (kj h) (by simp) (by simp) (by simp[af,ae,dL]) ?_;simp[aQ,aG,aI,cN];refine aj.gen [16,30] [] [.arr 464 (d.aa.map aH),.arr 34 (d.aE.map aZ)] fL (by simp[getAll]) (by simp) (by simp) (by simp[al,ae,cW,idx,hfp.refs]) (by simp[af]) (by simp[bw,aI,bV,idx,hfp.aI,ss]) (by simp[aG]) (by simp[af,ae,dL,DM.refs]) ?_;simp[aQ,aG,aI,cN,DM.aI];refine bj.plain [.fz 16,.fz 30] ?_;have LL:=MM d.aa m;have hl3:=YE d.aE m;have hl4:=afu d.aE m;have hfz:∀l0,fF 16 464 l0 (Ha d.aE m)=Ha d.aE m:=λl0=>nO _ (DM.refs _);have Hc:List.take d.aa.length ((DL d.aa m).map aH)=(DL d.aa m).map aH:=tJ (by simp[LL]);have Ps:Pure (bN (gN d m)):=by simp
 simp[DM.refs,LL,hl3,hl4,hfz,Hc,TJ];exact⟨Ps,rfl⟩
def YF:yx:=⟨0,0,0,0,0,0,0,0,0,0⟩
def yq:aR:=⟨YF,MQ,MQ,0,MQ,0,[],[],[],[],MQ,0,[],[],0⟩
def Pd (d:aR) {v:Int} (hv:v<1∨3<v):aP Pg 5 [bN d,.int .i64 v] (.tup [bN yq,.int .i64 17]):=by
 refine ab.nzT (l:=[.st 148 [cQ YF,.ar 1 32 (zr 32 (.int .u8 0)),.ar 1 32 (zr 32 (.int .u8 0)),.int .i64 0,.ar 1 32 (zr 32 (.int .u8 0)),.int .i64 0,.sl 464 [] true,.sl 50 [] true,.sl 34 [] true,.sl 34 [] true,.ar 1 32 (zr 32 (.int .u8 0)),.int .i64 0,.sl 1 [] true,.sl 19 [] true,.int .i64 0],.int .i64 17]) (l':=[bN yq,.int .i64 17]) ?_ ?_ ⟨rfl,rfl⟩
 ·refine ab.intro (aA R.gC.2) (by simp[R.gC]) ?_;rcases hv with hv|hv
  ·simp[R.gC,ah,az,hv];refine bH ?_;simp;rfl
  ·have yB:¬v<1:=by omega
   simp[R.gC,ah,az,hv,yB];refine bH ?_;simp;rfl
 ·exact .cons (.st 148 (.same _<| .same _<| .same _<| .same _<| .same _<| .same _<| .sl 464 464 true false (by simp)<| .sl 50 50 true false (by simp)<| .sl 34 34 true false (by simp)<| .sl 34 34 true false (by simp)<| .same _<| .same _<| .sl 1 1 true false (by simp)<| .sl 19 19 true false (by simp)<| .same _ .nil) .nil) (Kk.refl _)
def Lt (w:td):mH (mH w)=mH w:=by
 unfold mH;by_cases h:w.used=true
 ·simp[h]
 ·simp[h]
def Ae (w:td):(mH w).top=w.top:=by unfold mH;split<;>rfl
def WU.full {v:FV uo} (h:WU v):WU (qI v):=by
 obtain⟨w,h1,rfl⟩:=h;exact⟨mH w,by rw[Ae];exact h1,nM h1⟩
def Lu {v:FV uo} (h:WU v):qI (qI v)=qI v:=by
 obtain⟨w,h1,rfl⟩:=h;rw[nM h1,nM (by rw[Ae];exact h1),Lt]
def Af (p:nU):(ez p).has=p.has:=by
 unfold ez;split
 ·rename_i h;rw[h]
 ·rfl
def w6 {p:nU} (h:p.has=true->WU p.eM.tC):ez (ez p)=ez p:=by
 by_cases hp:p.has=true
 ·have e:ez p=⟨true,yp p.eM⟩:=by unfold ez;rw[if_pos hp]
  rw[e];unfold ez;rw[if_pos rfl];show(⟨true,{yp p.eM with tC:=qI (qI p.eM.tC)}⟩:nU)=_;rw[Lu (h hp)];rfl
 ·have e:ez p=p:=by unfold ez;rw[if_neg hp]
  rw[e,e]
def Lv (p:nU):(ez p).eM.born=p.eM.born:=by unfold ez;split<;>rfl
def PU.pcn {e:bE} (h:PU e):(e.ring.p.has=true->WU e.ring.p.eM.tC)∧(e.ring.c.has=true->WU e.ring.c.eM.tC)∧(e.ring.n.has=true->WU e.ring.n.eM.tC):=
 ⟨h 1 (.inl rfl),h 2 (.inr (.inl rfl)),h 3 (.inr (.inr rfl))⟩
def Fg (r:lU):iV r 3=⟨ez r.p,ez r.c,ez r.n⟩:=by simp[iV]
def Pe {e:bE} (h:PU e):iV (iV e.ring 3) 3=iV e.ring 3:=by
 obtain⟨h1,h2,h3⟩:=h.pcn;rw[Fg,Fg,w6 h1,w6 h2,w6 h3]
def Du (p:nU) (a:Bool×Int):GS (ez p) a=GS p a:=by unfold GS;rw[Af,Lv]
def TK (r:lU):AM (iV r 3) 3=AM r 3:=by
 rw[Fg];show GS (ez r.n) (GS (ez r.c) (GS (ez r.p) (false,0)))=GS r.n (GS r.c (GS r.p (false,0)));rw[Du,Du,Du]
def Pf {e:bE} (h:PU e):hU (hU e)=hU e:=by
 show({e with hand:=kJ,jj:=false,kU:=v8,kV:=0,yy:=v8,ring:=iV (iV e.ring 3) 3}:bE)=_;rw[Pe h];rfl
def PU.low {e:bE} (h:PU e):PU (hU e):=by
 obtain⟨h1,h2,h3⟩:=h.pcn
 have hf:∀p:nU,(p.has=true->WU p.eM.tC)->(ez p).has=true->WU (ez p).eM.tC:=by
  intro p hp hh;have hh:p.has=true:=by rw[←Af];exact hh
  unfold ez;rw[if_pos hh];exact(hp hh).full
 intro k hk;show(jC (iV e.ring 3) k).has=true->WU (jC (iV e.ring 3) k).eM.tC;rw[Fg];rcases hk with rfl|rfl|rfl
 ·exact hf _ h1
 ·exact hf _ h2
 ·exact hf _ h3
def YG (d:aR) (l:Wu) (e:bE):yA d l (hU e)=yA d l e:=by
 unfold yA
 show(let l1:=if(AM (iV e.ring 3) 3).1=true then im l ⟨max (IntKind.i64.wrap ((AM (iV e.ring 3) 3).2+IntKind.i64.wrap (3*d.rules.iP))) (IntKind.i64.wrap (d.now+1)),e.cK,5⟩else l
  if e.ik≠0 then im l1 ⟨IntKind.i64.wrap (d.now+e.ik),e.cK,4⟩else l1)=_
 rw[TK]
theorem Ng (d:aR):∀(ps:Xo) (l:Wu),((ps.map hU).foldl (yA d) l)=ps.foldl (yA d) l
 |[],_=>rfl
 |
  e::ps,l=>by
  simp only[JcQ,List.foldl_cons,YG]
  exact Ng d ps _
def I9 {α:Type} {f g:α->α} {l:List α} (h:∀x∈l,f (g x)=g x):(l.map g).map f=l.map g:=by
 rw[List.map_map];exact List.map_congr_left h
def vC (l:Xo):(l.map iB).map iB=l.map iB:=I9 λ_ _=>rfl
def Ja (l:Xo):(l.map hU).map iB=(l.map iB).map hU:=by rw[List.map_map,List.map_map];rfl
def YH {l:Xo} (h:∀e∈l,PU e):(l.map hU).map hU=l.map hU:=I9 λx hx=>Pf (h x hx)
def PUs.iB {l:Xo} (h:∀e∈l,PU e):∀e∈l.map Ab.iB,PU e:=by
 intro e he;obtain⟨x,hx,rfl⟩:=JcV.1 he;exact h x hx
def XG {d:aR} (h:∀e∈d.aa,PU e) {m n:Nat} (hm:m≤2) (hn:n≤2):gN (gN d m) n=gN d (max m n):=by
 have hN:=PUs.iB h;rcases(by omega:m=0∨m=1∨m=2)with rfl|rfl|rfl<;>rcases(by omega:n=0∨n=1∨n=2)with rfl|rfl|rfl
 ·rfl
 ·rfl
 ·rfl
 ·rfl
 ·simp[gN,Ff,DL,Dr,vC,-List.map_map]
 ·simp[gN,Ff,DL,Dr,vC,-List.map_map];rfl
 ·rfl
 ·simp[gN,Ff,DL,Dr,vC,Ja,-List.map_map]
 ·simp[gN,Ff,DL,Dr,vC,Ja,YH hN,Ng,-List.map_map];rfl
structure Gd (d:aR):Prop where
 ru:qE d.rules
 n0:0≤d.now
 n1:d.now≤16777216
 p0:0≤d.port
 p1:d.port≤65535
 b0:0≤d.bad
 b1:d.bad≤1000
 qV:yd d.aa
 Gq:∀p∈d.aa,gZ d p=true
 u9:∀p∈d.aa,tI d p=true
 MD:∀p∈d.aa,cB d p.ring.p∧cB d p.ring.c∧cB d p.ring.n
 Jv:Dc d.aX
 KN:d.aX.length=d.aa.length
 so:d.aE.Pairwise (λa b=>a.index<b.index)
 s0:∀s∈d.aE,1≤s.index∧s.index<4294967296
 pm:d.aE.Perm (gl d.aa d.aa.length)
 tso:d.timers.Pairwise (λa b=>ej a b=true)
 trg:∀t∈d.timers,1≤t.kind∧t.kind≤5∧d.now<t.at_∧t.at_≤4398046511104∧∃i,∃h:i<d.aa.length,t.peer=lK i∧(t.kind=4->d.aa[i].ik≠0)
 tun:d.timers.Pairwise (λa b=>¬(b.peer=a.peer∧b.kind=a.kind))
 ME:∀p∈d.aa,hasB d.timers p.cK 1=p.hand.has
 ld:r9 d=true
def qg {p:Nat->Bool} {n:Nat} (h:∀i,i<n->p i=false):decide (fst p n=n)=true:=decide_eq_true (te.2 h)
def Gd.r1 {d:aR} (h:Gd d):Ab.r1 d=true:=by
 obtain⟨q1,q2,q3,q4,q5,q6,q7,q8,q9,q10,q11,q12,q13,q14,q15,q16,q17⟩:=h.ru;have:=h.n0;have:=h.n1;have:=h.p0;have:=h.p1;have:=h.b0;have:=h.b1;simp only[Ab.r1,uC,jV,aJ,decide_eq_true_eq];omega
def afv {i:Nat} (h:i+1<3):Op.bytesLess (lK i).l (lK (i+1)).l=true:=by
 rcases(by omega:i=0∨i=1)with rfl|rfl<;>rfl
theorem Gd.r2 {d:aR} (h:Gd d):Ab.r2 d=true:=by
 obtain⟨hl,hk⟩:=h.qV;simp only[Ab.r2,aJ];refine⟨qg λi hi=> ?_,by simp;omega⟩;cases i with
 |zero=>rfl
 |
  succ j=>
  have e1:d.aa[j]? =some d.aa[j]:=gJ (by omega)
  have e2:d.aa[j+1]? =some d.aa[j+1]:=gJ hi
  simp only[zG,e1,e2]
  rw[hk j (by omega),hk (j+1) hi,afv (by omega)];rfl
def Gd.r3 {d:aR} (h:Gd d):Ab.r3 d=true:=JbJ.2 h.Gq
def Gd.r4 {d:aR} (h:Gd d):Ab.r4 d=true:=JbJ.2 h.u9
def cB.wnO {d:aR} {x:nU} (h:cB d x):K6 x.eM:=by
 rcases h with⟨_,h⟩|⟨_,rfl⟩
 ·rcases h.wi with e|⟨w,_,_,e⟩
  ·exact⟨⟨false,0,0,0,0,0⟩,by rw[e];unfold yz;congr 1;rw[dh];rfl⟩
  ·exact⟨w,e⟩
 ·exact⟨⟨false,0,0,0,0,0⟩,by show yz=_;unfold yz;congr 1;rw[dh];rfl⟩
def cB.b {d:aR} {x:nU} (h:cB d x):kg d x=true:=by
 have hw:=ae1 h.wnO;rcases h with⟨h1,h⟩|⟨h1,rfl⟩
 ·unfold kg;rw[if_pos h1];simp only[XT,jV,aJ,decide_eq_true_eq];refine⟨⟨⟨⟨h.b0,h.b1⟩,h.fe⟩,h.n1⟩,?_⟩;rcases h.wi with e|⟨w,hu,_,e⟩
  ·have e2:wP (wn x.eM)=yz.p:=by
    have:=congrArg FV.p (hw.symm.trans e);exact this
   rw[e2];simp[(cY _ _ yz.ok).beq]
  ·have e2:wP (wn x.eM)=wP w:=congrArg FV.p (hw.symm.trans e)
   have:(wn x.eM).used=w.used:=by
    simp only[wP,PV.st.injEq,List.cons.injEq,PV.bl.injEq]at e2;exact e2.2.1
   rw[this,hu];rfl
 ·unfold kg;rw[if_neg (by rw[h1];simp)];simp
def Gd.r5 {d:aR} (h:Gd d):Ab.r5 d=true:=by
 refine JbJ.2 λp hp=> ?_;obtain⟨h1,h2,h3⟩:=h.MD p hp;refine qg λi hi=> ?_;rcases(by omega:i=0∨i=1∨i=2)with rfl|rfl|rfl
 ·show(!kg d p.ring.p)=false;rw[h1.b];rfl
 ·show(!kg d p.ring.c)=false;rw[h2.b];rfl
 ·show(!kg d p.ring.n)=false;rw[h3.b];rfl
def Gd.known {d:aR} (h:Gd d) {i:Nat} (hi:i<d.aa.length):tq d (lK i)=true:=
 List.any_eq_true.2 ⟨d.aa[i],JaJ hi,by simp[isP,h.qV.2 i hi]⟩
def abI {i:Nat} (h:i<3):uH (rt i).rq=true:=by
 rcases(by omega:i=0∨i=1∨i=2)with rfl|rfl|rfl<;>decide
def YI {i:Nat} (h:i+1<3):yn (rt i).rq (rt (i+1)).rq=true:=by
 rcases(by omega:i=0∨i=1)with rfl|rfl<;>decide
def Gd.r6 {d:aR} (h:Gd d):Ab.r6 d=true:=by
 obtain⟨hl,hr⟩:=h.Jv;have Hd:=h.KN;simp only[Ab.r6,SV,aJ];refine⟨⟨qg λi hi=> ?_,by simp;omega⟩,JbJ.2 λr hm=> ?_⟩
 ·have e:=gJ hi;cases i with
  |zero=>rw[Lf e,hr 0 hi,abI (by omega)];rfl
  |
   succ j=>
   have e1:d.aX[j]? =some d.aX[j]:=gJ (by omega)
   rw[Lg e1 e,hr (j+1) hi,hr j (by omega),abI (by omega),YI (by omega)];rfl
 ·obtain⟨i,hi,rfl⟩:=JiX.1 hm;rw[hr i hi];exact h.known (by omega)
def Gd.len {d:aR} (h:Gd d):d.aE.length≤12:=by
 have h1:=h.pm.length_eq
 have h2:∀(l:Xo),(l.flatMap uP).length≤4*l.length:=by
  intro l;induction l with
  |nil=>simp
  |
   cons p l ih=>
   rw[JeX,JaV,JbZ]
   have:(uP p).length≤4:=by
    have:=GN p;unfold uP I3;split<;>simp<;>omega
   omega
 have h3:=h2 (d.aa.take d.aa.length);have h4:=h.qV.1;rw[lJ]at h3;unfold gl at h1;omega
def Gd.r7 {d:aR} (h:Gd d):Ab.r7 d=true:=by
 have hl:=h.len;simp only[Ab.r7,slB,aJ];refine⟨⟨qg λi hi=> ?_,by simp;omega⟩,decide_eq_true ?_⟩
 ·have e:=gJ hi;have hz:d.aE[i].index≠0:=by have:=h.s0 _ (JaJ hi);omega
  cases i with
  |zero=>rw[Lj e];simpa using hz
  |
   succ j=>
   have e1:d.aE[j]? =some d.aE[j]:=gJ (by omega)
   have dx:=JfV.1 h.so j (j+1) (by omega) hi (by omega)
   rw[Lk e1 e]
   simp only[Bool.or_eq_false_iff,decide_eq_false_iff_not]
   exact⟨hz,by omega⟩
 ·exact uniq h.so (M4 _) (h.pm.trans (yo _).symm)
def Gd.r8 {d:aR} (h:Gd d):Ab.r8 d=true:=by
 simp only[Ab.r8,tmB,aJ,JfW]
 have hb:∀t∈d.timers,GM t=false:=by
  intro t ht;obtain⟨r1,r2,r3,r4,_⟩:=h.trg t ht;have:=h.n0;simp only[GM,Bool.or_eq_false_iff,decide_eq_false_iff_not];omega
 refine⟨qg λi hi=> ?_,?_,JbJ.2 λp hp=> ?_⟩
 ·have e:=gJ hi;have hz:=hb _ (JaJ hi);cases i with
  |zero=>rw[Tk e];exact hz
  |
   succ j=>
   have e1:d.timers[j]? =some d.timers[j]:=gJ (by omega)
   rw[Tl e1 e,hz,JfV.1 h.tso j (j+1) (by omega) hi (by omega)]
   simp only[Bool.not_true,Bool.false_or,hasB,List.any_eq_false]
   intro x hx
   rw[List.mem_take_iff_getElem]at hx
   obtain⟨k,hk,rfl⟩:=hx
   have Fq:=JfV.1 h.tun k (j+1) (by omega) hi (by omega)
   simp only[Ti,aJ,decide_eq_true_eq]
   exact λe=>Fq ⟨e.1.symm,e.2.symm⟩
 ·rw[List.any_eq_false];intro t ht;obtain⟨_,_,r3,_,i,hi,r5,_⟩:=h.trg t ht;simp only[IY,r5,h.known hi,Bool.not_true,Bool.or_false,decide_eq_true_eq];omega
 ·simp only[IZ,h.ME p hp,beq_self_eq_true,JhW,JhQ,JfW];by_cases hk:p.ik=0
  ·right;simp only[hasB,List.any_eq_false];intro t ht hT;simp only[Ti,aJ,decide_eq_true_eq]at hT;obtain⟨_,_,_,_,i,hi,r5,r6⟩:=h.trg t ht;obtain⟨j,hj,rfl⟩:=JiX.1 hp;have hl:=h.qV.1;have e:lK i=lK j:=by rw[←r5,←h.qV.2 j hj];exact hT.1
   have:=s5 (by omega) (by omega) e;subst this;exact r6 hT.2 hk
  ·left;simpa using hk
end Go.Ab
