/- Walks of functions, part 14. No condition. -/
import Derived.Test.YtddacpkeacbjfaaGreatDoorB12
import Derived.Test.YtddacpkeacbjfaaGreatDoorB13
set_option maxRecDepth 10000
set_option maxHeartbeats 2000000
set_option linter.all false
noncomputable section
namespace Go.Ab
def ayz (n:Int):∃c:WQ,c.length=12∧aP Pg 239 [.int .u64 n] (.ar 1 12 (gM c)):=by
 obtain⟨_,v,h1,h2⟩:=S65 z65 (.head _) [.int .u64 n] ⟨by simp[uI,gm],trivial⟩;obtain⟨c,hc,rfl⟩:=nV h1;exact⟨c,hc,h2⟩
def Gn:gm (.sl 0 [] false) (.sl 0 [] false):=by simp[gm,bB]
def an4 {k:PV} (hk:gm (uA .u8 32) k) {c p:WQ} (hc:c.length=12) (hp:p.length=32∨p.length=48∨p.length=64∨p.length=80):∃b:WQ,b.length=p.length+16∧uf Pg 271 [k,.ar 1 12 (gM c),bS p,.sl 0 [] false] 1 (gM b):=by
 rcases hp with hp|hp|hp|hp
 ·obtain⟨_,m,h1,h2⟩:=ani ang (.head _) [k,.ar 1 12 (gM c),bS p,.sl 0 [] false] ⟨hk,vY hc,pX hp,Gn,trivial⟩;obtain⟨b,hb,rfl⟩:=qB h1;exact⟨b,by omega,h2⟩
 ·obtain⟨_,m,h1,h2⟩:=anl anj (.head _) [k,.ar 1 12 (gM c),bS p,.sl 0 [] false] ⟨hk,vY hc,pX hp,Gn,trivial⟩;obtain⟨b,hb,rfl⟩:=qB h1;exact⟨b,by omega,h2⟩
 ·obtain⟨_,m,h1,h2⟩:=ann z152 (.head _) [k,.ar 1 12 (gM c),bS p,.sl 0 [] false] ⟨hk,vY hc,pX hp,Gn,trivial⟩;obtain⟨b,hb,rfl⟩:=qB h1;exact⟨b,by omega,h2⟩
 ·obtain⟨_,m,h1,h2⟩:=anq ano (.head _) [k,.ar 1 12 (gM c),bS p,.sl 0 [] false] ⟨hk,vY hc,pX hp,Gn,trivial⟩;obtain⟨b,hb,rfl⟩:=qB h1;exact⟨b,by omega,h2⟩
def ayA (r c:Int) {b:WQ} (hb:b.length=48∨b.length=64∨b.length=80∨b.length=96):∃(x:WQ) (e:Int),aP Pg 273 [.st 3 [.int .u32 r,.int .u64 c,bS b]] (.tup [bS x,.int .i64 e]):=by
 rcases hb with hb|hb|hb|hb
 ·obtain⟨_,v,m,h,hm,h2⟩:=anV z168 (.head _) [.st 3 [.int .u32 r,.int .u64 c,bS b]] ⟨⟨rfl,by simp[uI,gm],by simp[uI,gm],pX hb,trivial⟩,trivial⟩;obtain⟨ms,rfl,g⟩:=vr h;obtain⟨x1,ms,rfl,h1,h⟩:=dY g;obtain⟨x2,ms,rfl,he,h⟩:=dY h;obtain rfl:=qA h;obtain⟨e,rfl⟩:=EU he;obtain⟨l,JD,rfl⟩:=qB hm;simp only[gm]at h1;subst h1;refine⟨l,e,?_⟩;have this:aP Pg 273 [.st 3 [.int .u32 r,.int .u64 c,bS b]] _:=ab.RO h2 (fb l);simpa[eG,fF,JD,bS,(fb l).eG,tJ]using this
 ·obtain⟨_,v,m,h,hm,h2⟩:=anY anW (.head _) [.st 3 [.int .u32 r,.int .u64 c,bS b]] ⟨⟨rfl,by simp[uI,gm],by simp[uI,gm],pX hb,trivial⟩,trivial⟩;obtain⟨ms,rfl,g⟩:=vr h;obtain⟨x1,ms,rfl,h1,h⟩:=dY g;obtain⟨x2,ms,rfl,he,h⟩:=dY h;obtain rfl:=qA h;obtain⟨e,rfl⟩:=EU he;obtain⟨l,JD,rfl⟩:=qB hm;simp only[gm]at h1;subst h1;refine⟨l,e,?_⟩;have this:aP Pg 273 [.st 3 [.int .u32 r,.int .u64 c,bS b]] _:=ab.RO h2 (fb l);simpa[eG,fF,JD,bS,(fb l).eG,tJ]using this
 ·obtain⟨_,v,m,h,hm,h2⟩:=an1 anZ (.head _) [.st 3 [.int .u32 r,.int .u64 c,bS b]] ⟨⟨rfl,by simp[uI,gm],by simp[uI,gm],pX hb,trivial⟩,trivial⟩;obtain⟨ms,rfl,g⟩:=vr h;obtain⟨x1,ms,rfl,h1,h⟩:=dY g;obtain⟨x2,ms,rfl,he,h⟩:=dY h;obtain rfl:=qA h;obtain⟨e,rfl⟩:=EU he;obtain⟨l,JD,rfl⟩:=qB hm;simp only[gm]at h1;subst h1;refine⟨l,e,?_⟩;have this:aP Pg 273 [.st 3 [.int .u32 r,.int .u64 c,bS b]] _:=ab.RO h2 (fb l);simpa[eG,fF,JD,bS,(fb l).eG,tJ]using this
 ·obtain⟨_,v,m,h,hm,h2⟩:=an3 z171 (.head _) [.st 3 [.int .u32 r,.int .u64 c,bS b]] ⟨⟨rfl,by simp[uI,gm],by simp[uI,gm],pX hb,trivial⟩,trivial⟩;obtain⟨ms,rfl,g⟩:=vr h;obtain⟨x1,ms,rfl,h1,h⟩:=dY g;obtain⟨x2,ms,rfl,he,h⟩:=dY h;obtain rfl:=qA h;obtain⟨e,rfl⟩:=EU he;obtain⟨l,JD,rfl⟩:=qB hm;simp only[gm]at h1;subst h1;refine⟨l,e,?_⟩;have this:aP Pg 273 [.st 3 [.int .u32 r,.int .u64 c,bS b]] _:=ab.RO h2 (fb l);simpa[eG,fF,JD,bS,(fb l).eG,tJ]using this
def Xz {n:Nat} (h1:17≤n) (h2:n≤80):n+xZ n=32∨n+xZ n=48∨n+xZ n=64∨n+xZ n=80:=by
 unfold xZ;omega
def an5 {s:jx} {limit:Int} {l:WQ} (h1:17≤l.length) (h2:l.length≤80) (hn:s.next<min (min s.eY limit) 18446744073709543423):
  ∃b:WQ,aP Pg 210 [dQ s,.int .u64 limit,bS l] (.tup [dQ {s with next:=IntKind.u64.wrap (s.next+1)},bS b,.int .i64 0]):=by
 obtain⟨c,hc,hC⟩:=ayz s.next;have hP:=jA (l:=l) (by omega) (by omega);generalize Pt:l++List.replicate (xZ l.length) 0=p at hP
 have mV:p.length=32∨p.length=48∨p.length=64∨p.length=80:=by
  subst Pt;simpa using Xz h1 h2
 obtain⟨b,hb,hS⟩:=an4 (xX s.send.ok) hc mV;obtain⟨x,e,hE⟩:=ayA s.rem s.next (b:=b) (by omega);refine⟨x,?_⟩;refine ab.intro (aA R.nq.2) (by simp[R.nq]) ?_;have Ah:¬(2000:Int)<l.length:=by omega
 have Ft:¬min s.eY (min limit 18446744073709543423)≤s.next:=by omega
 simp only[bS]at hP hS hE;simp[R.nq,ah,az,↓an,bS,Ah,Ft];refine aK.rA hC ?_;simp;refine aK.rA (hP.eG (fb p)) ?_;simp;refine aK.rA (hS.eG (fb b)) ?_;simp;refine aj.rA hE ?_;simp;refine bH ?_;simp
def Iv {d:aR} {ps:Xo} {i:Nat} (hi:i<ps.length) (ht:d.timers.length≤1000000) {L:WG} (hL:aB L) (hl:L.length≤900) {l:WQ} (h1:17≤l.length) (h2:l.length≤80) (hu:KM d ps[i]=true):
  ∃
   d' p' L',(BC 1 d ps d' (ps.set i p')∧d'.aE=d.aE∧(qD (pe d ps)->qD (pe d' (ps.set i p'))))∧p'.aM=ps[i].aM∧aB L'∧L'.length=L.length+1∧
   ab Pg 119 [.pt KB [] 0,.int .i64 i,bS l] (MB d ps L) (λr fp=>r= .tup []∧fp=MB d' (ps.set i p') L'):=by
 have hx:ps[i]? =some ps[i]:=gJ hi
 have hn:ps[i].ring.c.eM.next<min (min ps[i].ring.c.eM.eY d.rules.pV) 18446744073709543423:=by
  simp only[KM,yc,aJ,decide_eq_true_eq]at hu;exact hu.2.2
 obtain⟨b,hS⟩:=an5 h1 h2 hn;generalize hp:({ps[i]with ring:= {ps[i].ring with c:= {ps[i].ring.c with eM:= {ps[i].ring.c.eM with next:=IntKind.u64.wrap (ps[i].ring.c.eM.next+1)}}}}:bE)=p';have Ag:C9 ps[i] p':=by subst hp;exact⟨rfl,rfl,rfl,List.suffix_refl _⟩
 have xh:p'.aM=ps[i].aM:=by subst hp;rfl
 have hox:Pure (PV.st 86 [.int .i64 1,fc ps[i].ep,bW ps[i].cK,ps[i].ring.c.eM.send.p,.int .u64 ps[i].ring.c.eM.next,.sl 1 (gM b) false,.str []]):=by simp
 have Hf:aB (L++[PV.st 86 [.int .i64 1,fc ps[i].ep,bW ps[i].cK,ps[i].ring.c.eM.send.p,.int .u64 ps[i].ring.c.eM.next,.sl 1 (gM b) false,.str []]]):=(sN _ _).2 ⟨hL,(wH _ _).2 ⟨hox,nk⟩⟩;obtain⟨d',hG,hE,hT⟩:=My (d:=d) (ps:=ps.set i p') (i:=i) (by omega) (by simp[hi]) Hf;refine⟨d',p',L++[PV.st 86 [.int .i64 1,fc ps[i].ep,bW ps[i].cK,ps[i].ring.c.eM.send.p,.int .u64 ps[i].ring.c.eM.next,.sl 1 (gM b) false,.str []]],⟨?_,hG.2,λhz=> ?_⟩,xh,Hf,by simp,?_⟩
 ·have h0:BC 0 d ps d (ps.set i p'):=⟨by omega,by omega,rfl,rfl,rfl,qC.set hi Ag⟩
  exact(h0.trans hG.1).mono (by omega)
 ·have hc:ps[i].ring.c.has=true:=by
   simp only[KM,aJ]at hu;exact hu.1
  rw[hE];refine qD.trv (d:=d) (ps:=ps.set i p') (i:=i) ?_ (by simpa using hi);subst hp;exact hz.tx hi hc hn
 refine ab.intro T.dm (by simp[F.dm]) ?_;simp only[bS]at hS;simp[F.dm,ah,az,MB,hx,hi,↓an,bS];refine oG.run [] rfl ?_;simp;refine aK.rA hS ?_;simp[hx,hi,hp];have hep:p'.ep=ps[i].ep:=by subst hp;rfl
 have He:p'.cK=ps[i].cK:=by subst hp;rfl
 refine oG.run [] rfl ?_;simp[hx,hi,hep,He];refine⟨⟨by omega,by omega⟩,?_⟩;refine aj.Gm (h1:=by simp[JeJ]) hT Hf ?_;rintro x fp ⟨rfl,rfl⟩;refine⟨_,_,_,rfl,by simp,Hf,?_⟩;simp;refine bj.with [] [KB,KB+1,KB+2] ?_;simp[dN,Hf.refs,Hf.aI,aW,bA,ae,af,(aL bh ps).refs]
def mAt:Nat->bT->bT
 |0,.seq x y=> .seqm x y
 |n+1,.seq x y=> .seq x (mAt n y)
 |_,c=>c
theorem RR:∀(n:Nat) (c:bT),erase (mAt n c)=erase c
 |0,.seq x y=>rfl
 |n+1,.seq x y=>by simp only[mAt,erase,RR n y]
 |0,.skip|0,.region _|0,.regionD .. |0,.regionE .. |0,.cond .. |0,.block .. |0,.loop _|0,.exit _|0,.ret|0,.seqm .. =>rfl
 |_+1,.skip|_+1,.region _|_+1,.regionD .. |_+1,.regionE .. |_+1,.cond .. |_+1,.block .. |_+1,.loop _|_+1,.exit _|_+1,.ret|_+1,.seqm .. =>rfl
def RS {own sp:Yx} {f:FuncId} {A:dP} (n:Nat) (h:eI Pg own sp f=some A.er):eI Pg own sp f=some (dP.er ⟨A.nt,A.res,mAt n A.code⟩):=by
 rw[h];simp only[dP.er,RR]
def aew (n m:Nat) (d:aR) (ps:Xo) (L:WG) (r:PV) (fp:WD):Prop:=r= .tup []∧∃d' tR L',GrG n d ps d' tR∧aB L'∧L'.length≤L.length+m∧fp=MB d' tR L'
def vv {n m:Nat} {d e:aR} {ps qs:Xo} {L N:WG} (h:GrG n d ps e qs) (hN:aB N) (hl:N.length≤L.length+m):aew n m d ps L (.tup []) (MB e qs N):=⟨rfl,e,qs,N,h,hN,hl,rfl⟩
def Iw {d:aR} {ps:Xo} {i:Nat} (hi:i<ps.length) (hs:d.aE.length<32) (hb:∀s∈d.aE,s.index≤1000) (ht:d.timers.length≤1000000) {L:WG} (hL:aB L) (hl:L.length≤900) (hh:ps[i].hand.has=false):
  ab Pg 118 [.pt KB [] 0,.int .i64 i] (MB d ps L) (aew 4 1 d ps L):=by
 have hx:ps[i]? =some ps[i]:=gJ hi;refine ab.intro T.zm (by simp[F.zm]) ?_;by_cases h1:ps[i].ff=true
 ·have hI:=D1 hi hs hb ht hL hl hh h1;simp[F.zm,ah,az,MB,hx,hi,↓an,h1,hh];refine aj.Gm hI hL ?_;rintro r fp ⟨rfl,d',tR,L',hG,yC,AP,rfl⟩;refine⟨_,_,_,rfl,by simp,yC,?_⟩;simp;refine bj.with [] [KB,KB+1,KB+2] ?_;simp[dN,yC.refs,yC.aI,aW,bA,ae,af,(aL bh tR).refs];exact vv hG yC AP
 ·simp[F.zm,ah,az,MB,hx,hi,↓an,h1];refine bj.with [] [KB,KB+1,KB+2] ?_;simp[dN,hL.refs,hL.aI,aW,bA,ae,af,(aL bh ps).refs];exact vv ⟨.refl _ _ _,λhz=>hz.gd⟩ hL (by omega)
def MA (b:Zz):cy b=bS (b.map λx=>(x.toNat:Int)):=by simp[cy,bS,gM,u8]
def Gp {d:aR} {ps:Xo} {i:Nat} (hi:i<ps.length) (ht:d.timers.length≤1000000) {L:WG} (hL:aB L) (hl:L.length≤900) {l:Zz} (h1:17≤l.length) (h2:l.length≤80) (hu:KM d ps[i]=true):
  ∃
   d' p' L',(BC 1 d ps d' (ps.set i p')∧d'.aE=d.aE∧(qD (pe d ps)->qD (pe d' (ps.set i p'))))∧p'.aM=ps[i].aM∧aB L'∧L'.length=L.length+1∧
   ab Pg 119 [.pt KB [] 0,.int .i64 i,cy l] (MB d ps L) (λr fp=>r= .tup []∧fp=MB d' (ps.set i p') L'):=by
 rw[MA];exact Iv hi ht hL hl (by simpa using h1) (by simpa using h2) hu
def BC.Ju {n:Nat} {d e:aR} {qs:Xo} {i:Nat} (hi:i<qs.length) {p':bE} {b:Zz} {r:List (Zz)} (h:BC n d qs e (qs.set i p')) (hs:p'.aM=b::r):BC n d qs e (qs.set i {p' with aM:=r}):=by
 obtain⟨q,hq,hp⟩:=h.tO.2 i _ (gJ hi);have hqp:q=p':=by simpa[hi]using hq.symm
 subst hqp;refine⟨h.timers,h.aE,h.aX,h.aY,h.buckets,qC.set hi (hp.trans ⟨rfl,rfl,rfl,?_⟩)⟩;rw[hs];exact⟨[b],rfl⟩
def qD.pop {d:aR} {qs:Xo} {i:Nat} (hi:i<qs.length) {p':bE} {b:Zz} {r:List (Zz)} (h:qD (pe d (qs.set i p'))) (hs:p'.aM=b::r):qD (pe d (qs.set i {p' with aM:=r})):=by
 have jv:i<(qs.set i p').length:=by simpa using hi
 have ep:(qs.set i p')[i]=p':=List.getElem_set_self _
 have hm:p'∈qs.set i p':=by
  have:=JaJ jv;rw[ep]at this;exact this
 have hf:=h.gd.Gq p' hm;simp only[gZ,aJ]at hf;have h1:=of_decide_eq_true hf.1.2;have h2:=JbJ.1 hf.2;rw[hs]at h1 h2;have:=h.Ju jv (l:=r) (by simp only[JbZ]at h1;have h1:((r.length+1:Nat):Int)≤d.rules.fU:=h1;omega) (λx hx=>zn.1 (h2 x (List.mem_cons_of_mem _ hx)));rw[ep,List.set_set]at this;exact this
structure Fls (d:aR) (ps:Xo) (L:WG) (i j:Nat) (e:aR) (qs:Xo) (N:WG):Prop where
 g:BC j d ps e qs
 sl:e.aE=d.aE
 st:∀(h:i<qs.length) (h':i<ps.length),qs[i].aM=ps[i].aM.drop j
 nL:aB N
 nl:N.length≤L.length+j
 kz:qD (pe d ps)->qD (pe e qs)
def XA (i n:Nat) (e:aR) (qs:Xo) (N:WG):St:=⟨[(0,.pt KB [] 0),(1,.int .i64 i),(4,.pt (KB+1) [.i i 464] n)],[(KB,.box (AF e (KB+1) qs.length (KB+2) N.length)),(KB+1,.arr 464 (qs.map aH)),(KB+2,.arr 86 N)]⟩
noncomputable def F.Da:dP:=⟨F.uu.nt,F.uu.res,mAt 3 F.uu.code⟩
def T.Da:eI Pg [80] [124,125] 75=some F.Da.er:=RS 3 T.uu
theorem RT {d:aR} {ps:Xo} {i:Nat} (hi:i<ps.length) (hs:d.aE.length<32) (hb:∀s∈d.aE,s.index≤1000) (ht:d.timers.length≤900000) {L:WG} (hL:aB L) (hl:L.length≤100)
  (Be:ps[i].aM.length≤100) (xd:∀b∈ps[i].aM,17≤b.length∧b.length≤80) (JH:qD (pe d ps)):
  ab Pg 75 [.pt KB [] 0,.int .i64 i] (MB d ps L) (aew 120 120 d ps L):=by
 have hx:ps[i]? =some ps[i]:=gJ hi;refine ab.intro T.Da (by simp[F.Da,F.uu]) ?_;simp[F.Da,F.uu,mAt,ah,az,MB,hx,hi];refine⟨λ_=> ?_,λhep bY=> ?_⟩
 ·refine bj.with [] [KB,KB+1,KB+2] ?_;simp[dN,hL.refs,hL.aI,aW,bA,ae,af,(aL bh ps).refs];exact vv ⟨.refl _ _ _,λhz=>hz.gd⟩ hL (by omega)
 refine aj.Gm (EW d hi hL) hL ?_;rintro r fp ⟨rfl,rfl⟩;refine⟨_,_,_,rfl,by simp,hL,?_⟩;simp;refine⟨λhu=> ?_,λhu=> ?_⟩
 ·refine aj.Gm (Iw hi hs hb (by omega) hL (by omega) (JH.hz _ (JaJ hi))) hL ?_;rintro r fp ⟨rfl,d',tR,L',hG,yC,AP,rfl⟩;refine⟨_,_,_,rfl,by simp,yC,?_⟩;simp;refine bj.with [] [KB,KB+1,KB+2] ?_;simp[dN,yC.refs,yC.aI,aW,bA,ae,af,(aL bh tR).refs];exact vv ⟨hG.1.mono (by omega),hG.2⟩ yC (by omega)
 refine Px.of (λs'=>∃j e qs N,Fls d ps L i j e qs N∧j≤ps[i].aM.length∧s'=XA i ps.length e qs N) ?_ ?_
 ·simp;refine fa.iV ps[i].aM.length (d,ps,L) (λj y=>Fls d ps L i j y.1 y.2.1 y.2.2) [0,1,4] (λ_ _=>[]) (λj y=>[(KB,.box (AF y.1 (KB+1) y.2.1.length (KB+2) y.2.2.length)),(KB+1,.arr 464 (y.2.1.map aH)),(KB+2,.arr 86 y.2.2)]) [.keep [0,1,4]] ?_;simp;refine⟨⟨.refl _ _ _,rfl,by simp,hL,by omega,λh=>h⟩,?_,?_⟩
  ·intro j e qs N hj hF K hK;have hlen:=hF.g.tO.1;have je:i<qs.length:=by omega
   have Uf:qs[i]? =some qs[i]:=gJ je;have hsj:=hF.st je hi;obtain⟨b,r,hbr,hr,hbm⟩:∃b r,qs[i].aM=b::r∧r=ps[i].aM.drop (j+1)∧b∈ps[i].aM:=⟨ps[i].aM[j],_,by rw[hsj];exact List.drop_eq_getElem_cons hj,rfl,JaJ hj⟩
   simp[↓an,Uf,hlen,je,hbr];refine aj.Gm (h0:=by simp[hlen]) (h1:=by simp[hlen]) (EW e je hF.nL) hF.nL ?_;rintro r0 fp ⟨rfl,rfl⟩;refine⟨_,_,_,rfl,by simp,hF.nL,?_⟩;simp[hlen];refine⟨λhu=> ?_,λhu=> ?_⟩
   ·obtain⟨e',p',N',hG,Za,hN',aIU,hT⟩:=Gp je (by have:=hF.g.timers;omega) hF.nL (by have:=hF.nl;omega) (xd b hbm).1 (xd b hbm).2 hu;have age:p'.aM=b::r:=by rw[Za,hbr]
    simp[Uf,je,hbr];refine aj.Gm (h0:=by simp[hlen]) (h1:=by simp[hlen]) hT hF.nL ?_;rintro r0 fp ⟨rfl,rfl⟩;refine⟨_,_,_,rfl,by simp,hN',?_⟩;have es:PV.sl 1 (r.map cy) false=ey r:=rfl;have eb:ey (b::r)= .sl 1 ((b::r).map cy) false:=rfl;simp[hlen,je,hi,age,eb,es];refine⟨by omega,[.keep [0,1,4]],?_⟩;simp;refine hK e' (qs.set i {p' with aM:=r}) N' _ (by simp[hlen,JeJ]) ?_;refine⟨(hF.g.trans (hG.1.Ju je age)),hG.2.1.trans hF.sl,λh h'=>by simp[hr],hN',by have:=hF.nl;omega,λhz=>(hG.2.2 (hF.kz hz)).pop je age⟩
   ·refine⟨[.keep [0,1,4]],?_⟩;simp;exact⟨j,e,qs,N,hF,by omega,by simp[XA,hlen]⟩
  ·intro e qs N hF K;have hlen:=hF.g.tO.1;have je:i<qs.length:=by omega
   have Uf:qs[i]? =some qs[i]:=gJ je;have hsj:qs[i].aM=[]:=by rw[hF.st je hi];simp
   simp[↓an,Uf,hlen,je,hsj];refine⟨[.keep [0,1,4]],?_⟩;simp;exact⟨_,e,qs,N,hF,by omega,by simp[XA,hlen]⟩
 ·rintro s' ⟨j,e,qs,N,hF,hj,rfl⟩;have hlen:=hF.g.tO.1;have je:i<qs.length:=by omega
  have Uf:qs[i]? =some qs[i]:=gJ je;have hNl:=hF.nl;have htt:=hF.g.timers;have hN:=hF.nL;simp[XA,↓an];refine aj.Gm (h0:=by simp[hlen]) (h1:=by simp[hlen]) (aex (d:=e) (by omega) je 2 hF.nL) hF.nL ?_;rintro r0 fp ⟨rfl,rfl⟩;refine⟨_,_,_,rfl,by simp,hF.nL,?_⟩;simp;refine⟨λhh=> ?_,λhh=> ?_⟩
  case' refine_1=>
   obtain⟨e1,⟨hG1,Ef⟩,hE1,hS⟩:=Mz (d:=e) (ps:=qs) (i:=i) (by omega) je 2 (IntKind.i64.wrap (e.rules.Gi+e.rules.ret)) hN;refine aj.Gm (h0:=by simp[hlen]) (h1:=by simp[hlen]) hS hN ?_;rintro r0 fp ⟨rfl,rfl⟩;refine⟨_,_,_,rfl,by simp,hN,?_⟩;have Ul:=hF.g.trans hG1;have Zg:=Ef.trans hF.sl
   have kz1:qD (pe e1 qs):=by
    have k0:=hF.kz JH;have xb:qE e.rules:=k0.gd.ru;obtain⟨_,_,_,t1,t2,t3,t4,_⟩:=xb;have hw:IntKind.i64.wrap (e.rules.Gi+e.rules.ret)=e.rules.Gi+e.rules.ret:=wrap_i64 (by omega);rw[hE1];exact k0.set je (by omega) (by omega) (by rw[hw];omega) (by rw[hw];omega) (λe=>absurd e (by omega))
   simp
  case' refine_2=>
   have Ul:=hF.g.mono (m:=j+1) (by omega);have Zg:=hF.sl;have kz1:=hF.kz JH;obtain⟨e1,he1⟩:∃e1,e1=e:=⟨_,rfl⟩
   rw[←he1]at Ul Zg kz1;rw[←he1]
  all_goals
   have ht1:=Ul.timers
   obtain⟨e2,⟨hG2,DM⟩,hE2,hC⟩:=KL (d:=e1) (ps:=qs) (i:=i) (by omega) je 3 hN
   refine aj.Gm (h0:=by simp[hlen]) (h1:=by simp[hlen]) hC hN ?_
   rintro r0 fp ⟨rfl,rfl⟩
   refine⟨_,_,_,rfl,by simp,hN,?_⟩
   have hs3:e2.aE.length<32:=by rw[DM,Zg];exact hs
   have hb3:∀s∈e2.aE,s.index≤1000:=by rw[DM,Zg];exact hb
   have hg3:=Ul.trans hG2
   have hg2:=hg3.timers
   have kz3:qD (pe e2 qs):=by rw[hE2];exact kz1.can _ (by omega)
   have hh3:=kz3.hz _ (JaJ je)
   by_cases a:qs[i].aM=[]
   case' neg=>
    have a':0<qs[i].aM.length:=JiV.2 a
    simp[Uf,hlen,je,hi,a,a']
   case' pos=>
    by_cases b:qs[i].ring.c.eM.next<e2.rules.zd
    case' neg=>
     have b':e2.rules.zd≤qs[i].ring.c.eM.next:=by omega
     simp[Uf,hlen,je,hi,a,b,b']
    case' pos=>
     have b':¬e2.rules.zd≤qs[i].ring.c.eM.next:=by omega
     by_cases c:qs[i].ring.c.eM.Mt=true
     case' neg=>simp[Uf,hlen,je,hi,a,b,b',c]
     case' pos=>
      simp[Uf,hlen,je,hi,a,b,b',c]
      refine aK.rA (fC qs[i].ring.c.eM e2.now) ?_
      simp
      refine⟨λf=> ?_,λf=> ?_⟩
   all_goals first
    |(refine bj.with [] [KB,KB+1,KB+2] ?_
      simp[dN,hN.refs,hN.aI,aW,bA,ae,af,(aL bh qs).refs]
      rw[←hlen];exact vv ⟨hg3.mono (by omega),λ_=>kz3.gd⟩ hN (by omega))
    |(refine aj.Gm (h0:=by simp[hlen]) (h1:=by simp[hlen]) (Iw (d:=e2) (ps:=qs) je hs3 hb3 (by omega) hN (by omega) hh3) hN ?_
      rintro r0 fp ⟨rfl,d',tR,L',hG,yC,AP,rfl⟩
      refine⟨_,_,_,rfl,by simp,yC,?_⟩
      simp
      refine bj.with [] [KB,KB+1,KB+2] ?_
      simp[dN,yC.refs,yC.aI,aW,bA,ae,af,(aL bh tR).refs]
      exact vv ⟨(hg3.trans hG.1).mono (by omega),λ_=>hG.2 kz3⟩ yC (by omega))
end Go.Ab
