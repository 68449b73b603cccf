/- Walks of functions, part 6. No condition. -/
import Derived.Test.YtddacpkeacbjfaaGreatDoorB5
set_option maxRecDepth 10000
set_option maxHeartbeats 2000000
set_option linter.all false
noncomputable section
namespace Go.Ab
section
variable {α:Type} {sz:Nat} {ag:Bool} {f ix:FuncId} {e:α->PV} {l:List α} {p:α->Bool} {g:FuncId} {v w:PV}
def aBm (ht:eI Pg [] [] f=some (kK sz ag).er) (hL:OT sz ag e l) (hv:Pure v) (hw:Pure w)
  (hp:∀x∈l,ab Pg g [e x,.pt KB [] 0,.pt (KB+1) [] 0] [.box v,.box w] (λr fp=>r= .bl (p x)∧fp=[.box v,.box w])):
  ab Pg f [.sl sz (l.map e) false,.fn (.func g) [] [.pt KB [] 0,.pt (KB+1) [] 0]] [.box v,.box w] (λr fp=>r= .int .i64 (fi p l)∧fp=[.box v,.box w]):=by
 refine ab.intro ht (by simp[kK]) ?_;have hl:=hL.len;obtain⟨m,hm⟩:∃m,m=l.findIdx p:=⟨_,rfl⟩
 have hle:m≤l.length:=by rw[hm];exact List.findIdx_le_length
 have hb:∀i (h:i<l.length),i<m->p l[i]=false:=λi h h2=>List.not_of_lt_findIdx (by rw[←hm];exact h2)
 have ha:∀(h:m<l.length),p l[m]=true∧fi p l=m:=λh=>by
  have h2:p l[m]=true:=by subst hm;exact List.findIdx_getElem
  exact⟨h2,by unfold fi;rw[if_pos (List.any_eq_true.2 ⟨_,JaJ h,h2⟩),hm]⟩
 have hc:¬m<l.length->fi p l= -1:=λh=>by
  unfold fi;rw[if_neg];intro h2;exact h (by rw[hm];exact List.findIdx_lt_length.2 (List.any_eq_true.1 h2))
 clear hm;simp[kK,ah,az];refine fa.fN m (λ_=>True) [0,1,4,6,7,8] (λi=>[(8,.int .i64 i)]) (λ_=>[]) [.keep [0,1,4,6,7,8]] ?_;simp;refine⟨λi hi K hK=> ?_,λK=> ?_⟩
 ·have jv:i<l.length:=by omega
  have hx:l[i]? =some l[i]:=gJ jv;obtain⟨⟨e1,e2⟩,e3,e4,e5⟩:=hL.el l[i];have hc:=hp l[i] (JaJ jv);have hf:=hb i jv hi;rw[hf]at hc;have wi:IntKind.i64.wrap ((i:Int)+1)=(i:Int)+1:=wrap_i64 (by omega);generalize l[i]=x at*;simp[↓an,hx,jv,e1,e2,e5,-getElem?_pos];refine aj.gen [KB,KB+1] [] [.box v,.box w] (hc) (by simp[getAll]) (by simp) (by simp) (by simp[al,ae,cW,idx,e3.refs]) (by simp[hv.refs,hw.refs,af]) (by simp[bw,aI,bV,idx,e3.aI,e4]) (by simp[hv.aI,hw.aI,aG]) (by simp[hv.refs,hw.refs,af,ae]) ?_;simp[hv.aI,hw.aI,aQ,aG,aI];simp[wi];refine⟨[.keep [0,1,4,6,7,8]],?_⟩;simp;exact hK _ (by simp)
 ·by_cases hn:m<l.length
  ·have hx:l[m]? =some l[m]:=gJ hn;obtain⟨⟨e1,e2⟩,e3,e4,e5⟩:=hL.el l[m];have hc:=hp l[m] (JaJ hn);obtain⟨hf,yv⟩:=ha hn;rw[hf]at hc;generalize l[m]=x at*;simp[↓an,hx,hn,e1,e2,e5,-getElem?_pos];refine aj.gen [KB,KB+1] [] [.box v,.box w] (hc) (by simp[getAll]) (by simp) (by simp) (by simp[al,ae,cW,idx,e3.refs]) (by simp[hv.refs,hw.refs,af]) (by simp[bw,aI,bV,idx,e3.aI,e4]) (by simp[hv.aI,hw.aI,aG]) (by simp[hv.refs,hw.refs,af,ae]) ?_;simp[hv.aI,hw.aI,aQ,aG,aI];refine bj.with [] [KB,KB+1] ?_;simp[hv.refs,hv.aI,hw.refs,hw.aI,af,aG,yv]
  ·have yv:=hc hn;have Em:¬(m:Int)<l.length:=by omega
   simp[↓an,Em];refine bj.with [] [KB,KB+1] ?_;simp[hv.refs,hv.aI,hw.refs,hw.aI,af,aG,yv]
def aBn (hf:eI Pg [] [] f=some (oq ix).er) (ht:eI Pg [] [] ix=some (kK sz ag).er) (hL:OT sz ag e l) (hv:Pure v) (hw:Pure w)
  (hp:∀x∈l,ab Pg g [e x,.pt KB [] 0,.pt (KB+1) [] 0] [.box v,.box w] (λr fp=>r= .bl (p x)∧fp=[.box v,.box w])):
  ab Pg f [.sl sz (l.map e) false,.fn (.func g) [] [.pt KB [] 0,.pt (KB+1) [] 0]] [.box v,.box w] (λr fp=>r= .bl (l.any p)∧fp=[.box v,.box w]):=by
 refine ab.intro hf (by simp[oq]) ?_;have mV:aB (l.map e):=aL (λx=>(hL.el x).2.1) l;have Ni:gI (l.map e)=l.map e:=sO (λx=>(hL.el x).2.2.1) l;simp[oq,ah,az];refine aj.gen [KB,KB+1] [] [.box v,.box w] (aBm (p:=p) ht hL hv hw hp) (by simp[getAll]) (by simp) (by simp) (by simp[al,ae,cW,idx,mV.refs]) (by simp[hv.refs,hw.refs,af]) (by simp[bw,aI,bV,idx,mV.aI,Ni]) (by simp[hv.aI,hw.aI,aG]) (by simp[hv.refs,hw.refs,af,ae]) ?_;simp[hv.aI,hw.aI,aQ,aG,aI];refine bj.with [] [KB,KB+1] ?_;simp[hv.refs,hv.aI,hw.refs,hw.aI,af,aG,GG]
end
theorem Tf:∀a b:Zz,a.length=b.length->(tf a b=0↔a=b)
 |[],[],_=>by rw[vA];simp
 |[],y::b,h=>by simp at h
 |x::a,[],h=>by simp at h
 |
  x::a,y::b,h=>by
  rw[E6]
  have:=Tf a b (by simpa using h)
  by_cases e:x=y
  ·subst e;simpa using this
  ·by_cases h2:x<y
   ·simp[e,h2]
   ·simp[e,h2]
def Th (a b:Key):tf a.l b.l=0↔a=b:=by
 rw[Tf _ _ (by rw[a.h,b.h])];exact⟨Key.ext',λe=>by rw[e]⟩
def Ti (k:Key) (n:Int) (t:cZ):Bool:=decide (t.peer=k)&&decide (t.kind=n)
def hasB (l:Wu) (k:Key) (n:Int):Bool:=l.any (Ti k n)
def M1 {l:Wu} (h:l.length≤1048576):OT 34 true bn l:=⟨h,λx=>⟨⟨rfl,rfl⟩,by simp,by simp,λK=>by simp⟩⟩
def pof (t:cZ) (k:Key) (n:Int):aP Pg 167 [.st 34 [bn t],bW k,.int .i64 n] (.bl (Ti k n t)):=by
 refine ab.intro (aA R.mF.2) (by simp[R.mF]) ?_;by_cases h1:t.peer=k
 ·simp[R.mF,ah,az,h1];refine bH ?_;simp[Ti,h1]
 ·simp[R.mF,ah,az,tG,h1];refine bH ?_;simp[Ti,h1]
def arn (t:cZ) (k:Key) (n:Int):ab Pg 260 [bn t,.pt KB [] 0,.pt (KB+1) [] 0] [.box (bW k),.box (.int .i64 n)] (λr fp=>r= .bl (Ti k n t)∧fp=[.box (bW k),.box (.int .i64 n)]):=by
 refine ab.intro (aA R.uM.2) (by simp[R.uM]) ?_;simp[R.uM,ah,az];refine aj.rA (pof t k n) ?_;simp;refine bj.with [] [KB,KB+1] ?_;simp[af,ae,aG,aI]
def X9 {l:Wu} (hl:l.length≤1048576) (k:Key) (n:Int):aP Pg 194 [.sl 34 (l.map bn) false,bW k,.int .i64 n] (.bl (hasB l k n)):=by
 refine ab.intro (aA R.zX.2) (by simp[R.zX]) ?_;have hc:=aBn (f:=191) (ix:=89) (p:=Ti k n) (aA R.eZ.2) (aA R.fK.2) (M1 hl) (g:=260) (v:=bW k) (w:= .int .i64 n) (by simp) (by simp) (λx _=>arn x k n);simp[R.zX,ah,az];refine aj.gA [4,5] [] [.box (bW k),.box (.int .i64 n)] hc (by simp[af,ae]) (by simp[aG,aI]) (by simp[af,ae]) ?_;simp[aQ,aG,aI];refine bH ?_;simp[hasB]
def Ya (a b:cZ):aP Pg 168 [.st 34 [bn a],.st 34 [bn b]] (.bl (ej a b)):=by
 refine ab.intro (aA R.jt.2) (by simp[R.jt]) ?_;have g1:aO (.st 34 [bn a]) [.f 0 0,.f 1 1]=some (.ar 1 32 (a.peer.l.map u8)):=by simp[bW]
 have g2:aO (.st 34 [bn b]) [.f 0 0,.f 1 1]=some (.ar 1 32 (b.peer.l.map u8)):=by simp[bW]
 have hv:=GL g1 g2 a.peer.h b.peer.h;have p1:Pure (.st 34 [bn a]):=by simp
 have p2:Pure (.st 34 [bn b]):=by simp
 by_cases h1:a.at_=b.at_
 ·simp[R.jt,ah,az,h1];refine aj.gA [2,3] [] [.box (.st 34 [bn a]),.box (.st 34 [bn b])] hv (by simp[af]) (by simp[aG]) (by simp[af,ae]) ?_;simp[aQ,aG,aI];by_cases h2:a.peer=b.peer
  ·have h3:=(Th a.peer b.peer).2 h2;simp[h3];refine bH ?_;simp[ej,h1,h2]
  ·have h3:¬tf a.peer.l b.peer.l=0:=λe=>h2 ((Th _ _).1 e);simp[h3];refine bH ?_;simp[ej,h1,h2,UQ,←BG]
 ·simp[R.jt,ah,az,h1];refine bH ?_;simp[ej,h1]
def Tj (a b:cZ):aP Pg 91 [bn a,bn b] (.bl (ej a b)):=by
 refine ab.intro (aA R.wX.2) (by simp[R.wX]) ?_;simp[R.wX,ah,az];refine aj.rA (Ya a b) ?_;simp;refine bH ?_;simp
def GM (t:cZ):Bool:=decide (t.kind<1)||(decide (5<t.kind)||(decide (t.at_<0)||decide (4398046511104<t.at_)))
def O4 (l:Wu) (i:Nat):Bool:=match l[i]?with
 |none=>false
 |
  some t=>GM t||((match i with
  |0=>false
  |
   j+1=>match l[j]?with
   |none=>false
   |some s=> !ej s t)||hasB (l.take i) t.peer t.kind)
def Tk {l:Wu} {t:cZ} (h:l[0]? =some t):O4 l 0=GM t:=by simp[O4,h,hasB]
def Tl {l:Wu} {j:Nat} {s t:cZ} (hs:l[j]? =some s) (ht:l[j+1]? =some t):O4 l (j+1)=(GM t||(!ej s t||hasB (l.take (j+1)) t.peer t.kind)):=by simp only[O4,hs,ht]
def tmB (l:Wu):Bool:=decide (fst (O4 l) l.length=l.length)
def Tm {t:cZ} (h:GM t=false):¬t.kind<1∧¬5<t.kind∧¬t.at_<0∧¬4398046511104<t.at_:=by simpa[GM]using h
theorem Yb {l:Wu} (hl:l.length≤1048576):aP Pg 190 [bM l] (.bl (tmB l)):=by
 refine ab.intro T.nZ (by simp[F.nZ]) ?_;have hle:=om (O4 l) l.length;have yw:∀i,i<fst (O4 l) l.length->O4 l i=false:=λi h=>oo h;have Hh:fst (O4 l) l.length<l.length->O4 l (fst (O4 l) l.length)=true:=qY;have hr:tmB l=decide (fst (O4 l) l.length=l.length):=rfl;generalize fst (O4 l) l.length=n at*;simp[F.nZ,ah,az];refine fa.fN n (λ_=>True) [0,2,5,6,7] (λi=>[(7,.int .i64 i)]) (λi=>[]) [.keep [0,2,5,6,7]] ?_;simp;refine⟨λi hi K hK=> ?_,λK=> ?_⟩
 ·have jv:i<l.length:=by omega
  have hx:l[i]? =some l[i]:=gJ jv;have hb:=yw i hi;have hH:=X9 (l:=l.take i) (by rw[lJ];omega) l[i].peer l[i].kind;by_cases hz:i=0
  ·subst hz;rw[Tk hx]at hb;obtain⟨g1,g2,g3,g4⟩:=Tm hb;rw[show hasB (l.take 0) l[0].peer l[0].kind=false from rfl]at hH;simp at hH;simp[↓an,jv,g1,g2,g3,g4,bM];refine aK.rA hH ?_;simp;refine⟨[.keep [0,2,5,6,7],.dr 4],?_⟩;simp;exact hK _ (by simp[bM])
  ·obtain⟨j,rfl⟩:∃j,i=j+1:=⟨i-1,by omega⟩
   have hj:j<l.length:=by omega
   have hy:l[j]? =some l[j]:=gJ hj;rw[Tl hy hx]at hb;simp only[Bool.or_eq_false_iff]at hb;obtain⟨JG,vM,hb3⟩:=hb;obtain⟨g1,g2,g3,g4⟩:=Tm JG;have hL:=Tj l[j] l[j+1];rw[show ej l[j] l[j+1]=true by simpa using vM]at hL;rw[hb3]at hH;have hw:IntKind.i64.wrap (j:Int)=j:=wrap_i64 (by omega);have hp:(0:Int)<(j:Int)+1:=by omega
   have hg:(j:Int)+1<l.length:=by omega
   have DF:(0:Int)≤(j:Int)+1:=by omega
   have ht:((j:Int)+1).toNat=j+1:=by omega
   have w2:=cT jv hl;simp at w2;simp[↓an,jv,hj,g1,g2,g3,g4,hw,hp,hg,DF,ht,bM];refine aK.rA hL ?_;simp[show(j:Int)+1≤l.length by omega,ht,DF];refine aK.rA hH ?_;simp[w2];refine⟨[.keep [0,2,5,6,7],.dr 4],?_⟩;simp;exact hK _ (by simp[bM])
 ·by_cases hn:n<l.length
  ·have hx:l[n]? =some l[n]:=gJ hn;have hb:=Hh hn;have bY:¬n=l.length:=by omega
   by_cases g1:l[n].kind<1
   ·simp[↓an,hn,g1,bM];refine bH ?_;simp[hr,bY]
   by_cases g2:5<l[n].kind
   ·simp[↓an,hn,g1,g2,bM];refine bH ?_;simp[hr,bY]
   by_cases g3:l[n].at_<0
   ·simp[↓an,hn,g1,g2,g3,bM];refine bH ?_;simp[hr,bY]
   by_cases g4:4398046511104<l[n].at_
   ·simp[↓an,hn,g1,g2,g3,g4,bM];refine bH ?_;simp[hr,bY]
   have hB:GM l[n]=false:=by simp[GM,g1,g2,g3,g4]
   by_cases hz:n=0
   ·subst hz;rw[Tk hx,hB]at hb;exact absurd hb (by simp)
   obtain⟨j,rfl⟩:∃j,n=j+1:=⟨n-1,by omega⟩
   have hj:j<l.length:=by omega
   have hy:l[j]? =some l[j]:=gJ hj;rw[Tl hy hx,hB]at hb;have hL:=Tj l[j] l[j+1];have hw:IntKind.i64.wrap (j:Int)=j:=wrap_i64 (by omega);have hp:(0:Int)<(j:Int)+1:=by omega
   have hg:(j:Int)+1<l.length:=by omega
   have DF:(0:Int)≤(j:Int)+1:=by omega
   have Ug:min (j+1) l.length=j+1:=by omega
   have ht:((j:Int)+1).toNat=j+1:=by omega
   simp[↓an,hn,hj,g1,g2,g3,g4,hw,hp,hg,DF,ht,bM];refine aK.rA hL ?_;cases dx:ej l[j] l[j+1]
   ·simp;refine bH ?_;simp[hr,bY]
   have hH:hasB (l.take (j+1)) l[j+1].peer l[j+1].kind=true:=by simpa[dx]using hb
   have hP:=X9 (l:=l.take (j+1)) (by rw[lJ];omega) l[j+1].peer l[j+1].kind;rw[hH]at hP;simp[show(j:Int)+1≤l.length by omega,ht,DF];refine aK.rA hP ?_;simp;refine bH ?_;simp[hr,bY]
  ·have bY:n=l.length:=by omega
   have Em:¬((n:Int)<l.length):=by omega
   simp[↓an,Em];refine bH ?_;simp[hr,bY]
def IY (d:aR) (t:cZ):Bool:=decide (t.at_≤d.now)|| !tq d t.peer
def IZ (d:aR) (p:bE):Bool:=(hasB d.timers p.cK 1==p.hand.has)&&(!decide (p.ik=0)|| !hasB d.timers p.cK 4)
def r8 (d:aR):Bool:=tmB d.timers&&(!d.timers.any (IY d)&&d.aa.all (IZ d))
def aro {d:aR} (hl:d.aa.length≤1048576) (t:cZ):ab Pg 192 [bn t,.pt KB [] 0] [.box (bN d)] (λr fp=>r= .bl (IY d t)∧fp=[.box (bN d)]):=by
 refine ab.intro (aA R.mG.2) (by simp[R.mG]) ?_;by_cases hn:t.at_≤d.now
 ·simp[R.mG,ah,az,hn];refine bj.with [] [KB] ?_;simp[af,aG,IY,hn]
 ·simp[R.mG,ah,az,hn];refine aj.rA (SW hl t.peer) ?_;simp;refine bj.with [] [KB] ?_;simp[af,aG,IY,hn]
def arp {d:aR} (hl:d.timers.length≤1048576) (p:bE):ab Pg 193 [aH p,.pt KB [] 0] [.box (bN d)] (λr fp=>r= .bl (IZ d p)∧fp=[.box (bN d)]):=by
 refine ab.intro (aA R.qb.2) (by simp[R.qb]) ?_;have h1:=X9 hl p.cK 1;have h4:=X9 hl p.cK 4;simp[R.qb,ah,az,bM];refine aK.rA h1 ?_;cases g1:hasB d.timers p.cK 1<;>cases g2:p.hand.has
 case false.true=>
  simp[g2];refine bj.with [] [KB] ?_;simp[af,aG,IZ,g1,g2]
 case true.false=>
  simp[g2];refine bj.with [] [KB] ?_;simp[af,aG,IZ,g1,g2]
 all_goals
  by_cases hk:p.ik=0
  ·simp[hk,g2,bM]
   refine aK.rA h4 ?_
   simp
   refine bj.with [] [KB] ?_
   simp[af,aG,IZ,g1,g2,hk]
  ·simp[hk,g2]
   refine bj.with [] [KB] ?_
   simp[af,aG,IZ,g1,g2,hk]
theorem Yc {d:aR} (hl:d.aa.length≤1048576) (ht:d.timers.length≤1048576):aP Pg 102 [bN d] (.bl (r8 d)):=by
 refine ab.intro (aA R.tu.2) (by simp[R.tu]) ?_;have hc:=XQ (f:=191) (ix:=89) (p:=IY d) (aA R.eZ.2) (aA R.fK.2) (M1 ht) (g:=192) (v:=bN d) (by simp) (λx _=>aro hl x);have hr:r8 d=(tmB d.timers&&(!d.timers.any (IY d)&&d.aa.all (IZ d))):=rfl;generalize d.timers.any (IY d)=b at hc hr;simp[R.tu,ah,az];refine aj.rA (Yb ht) ?_;cases g1:tmB d.timers
 ·simp;refine bH ?_;simp[r8,g1]
 simp;refine aj.gen [1] [] [.box (bN d)] hc (by simp[getAll]) (by simp) (by simp) (by simp[al,ae,cW,idx,bM]) (by simp[af]) (by simp[bw,aI,bV,idx,bM]) (by simp[aG]) (by simp[af,ae]) ?_;simp[aQ,aG,aI];cases b
 ·simp;refine th hl (by simp) (λx _=>arp ht x) ?_;simp;refine bH ?_;simp[hr,g1]
 ·simp;refine bH ?_;simp[hr,g1]
def zY (l:WO) (i:Nat):Bool:=match l[i]?with
 |none=>false
 |
  some s=>decide (s.index=0)||(match i with
  |0=>false
  |
   j+1=>match l[j]?with
   |none=>false
   |some q=>decide (s.index≤q.index))
def Lj {l:WO} {s:cG} (h:l[0]? =some s):zY l 0=decide (s.index=0):=by simp[zY,h]
def Lk {l:WO} {j:Nat} {q s:cG} (hq:l[j]? =some q) (hs:l[j+1]? =some s):zY l (j+1)=(decide (s.index=0)||decide (s.index≤q.index)):=by simp only[zY,hq,hs]
def slB (l:WO):Bool:=decide (fst (zY l) l.length=l.length)&&decide ((l.length:Int)≤32)
theorem Yd {l:WO} (hl:l.length≤1048576):aP Pg 187 [bQ l] (.bl (slB l)):=by
 refine ab.intro (aA R.uN.2) (by simp[R.uN]) ?_;have hle:=om (zY l) l.length;have yw:∀i,i<fst (zY l) l.length->zY l i=false:=λi h=>oo h;have Hh:fst (zY l) l.length<l.length->zY l (fst (zY l) l.length)=true:=qY;have hr:slB l=(decide (fst (zY l) l.length=l.length)&&decide ((l.length:Int)≤32)):=rfl;generalize fst (zY l) l.length=n at*;simp[R.uN,ah,az];refine fa.fN n (λ_=>True) [0,2,5,6,7] (λi=>[(7,.int .i64 i)]) (λi=>[]) [.keep [0,2,5,6,7]] ?_;simp;refine⟨λi hi K hK=> ?_,λK=> ?_⟩
 ·have jv:i<l.length:=by omega
  have hx:l[i]? =some l[i]:=gJ jv;have hb:=yw i hi;by_cases hz:i=0
  ·subst hz;rw[Lj hx]at hb;have g1:¬l[0].index=0:=of_decide_eq_false hb;generalize l[0]=s at*;simp[↓an,hx,jv,g1,bQ,-getElem?_pos];refine⟨[.keep [0,2,5,6,7],.dr 4],?_⟩;simp;exact hK _ (by simp[bQ])
  ·obtain⟨j,rfl⟩:∃j,i=j+1:=⟨i-1,by omega⟩
   have hj:j<l.length:=by omega
   have hy:l[j]? =some l[j]:=gJ hj;rw[Lk hy hx]at hb;generalize l[j+1]=s at*;generalize l[j]=q at*;have g1:¬s.index=0∧¬s.index≤q.index:=by simpa using hb
   have hw:IntKind.i64.wrap (j:Int)=j:=wrap_i64 (by omega);have hp:(0:Int)<(j:Int)+1:=by omega
   have hg:(j:Int)+1<l.length:=by omega
   have DF:(0:Int)≤(j:Int)+1:=by omega
   have ht:((j:Int)+1).toNat=j+1:=by omega
   have w2:=cT jv hl;simp at w2;simp[↓an,hx,hy,hj,g1.1,g1.2,hw,hp,hg,DF,ht,bQ,w2,-getElem?_pos];refine⟨[.keep [0,2,5,6,7],.dr 4],?_⟩;simp;exact hK _ (by simp[bQ])
 ·by_cases hn:n<l.length
  ·have hx:l[n]? =some l[n]:=gJ hn;have hb:=Hh hn;have bY:¬n=l.length:=by omega
   by_cases g1:l[n].index=0
   ·generalize l[n]=s at*;simp[↓an,hx,hn,g1,bQ,-getElem?_pos];refine bH ?_;simp[hr,bY]
   by_cases hz:n=0
   ·subst hz;rw[Lj hx]at hb;exact absurd (of_decide_eq_true hb) g1
   obtain⟨j,rfl⟩:∃j,n=j+1:=⟨n-1,by omega⟩
   have hj:j<l.length:=by omega
   have hy:l[j]? =some l[j]:=gJ hj;rw[Lk hy hx]at hb;generalize l[j+1]=s at*;generalize l[j]=q at*;have g2:s.index≤q.index:=by simpa[g1]using hb
   have hw:IntKind.i64.wrap (j:Int)=j:=wrap_i64 (by omega);have hp:(0:Int)<(j:Int)+1:=by omega
   have hg:(j:Int)+1<l.length:=by omega
   have DF:(0:Int)≤(j:Int)+1:=by omega
   have ht:((j:Int)+1).toNat=j+1:=by omega
   simp[↓an,hx,hy,hj,g1,g2,hw,hp,hg,DF,ht,bQ,-getElem?_pos];refine bH ?_;simp[hr,bY]
  ·have bY:n=l.length:=by omega
   have Em:¬((n:Int)<l.length):=by omega
   simp[↓an,Em,bQ];refine bH ?_;simp[hr,bY]
def uO (p:bE):WQ:=uB [p.ring.p,p.ring.c,p.ring.n]
def GN (p:bE):(uO p).length≤3:=wT _
def aBo (p:bE):Nat:=(if p.hand.has=true then 1 else 0)+(uO p).length
def aD:Xo->Nat->Nat
 |[],_=>0
 |_::_,0=>0
 |p::l,i+1=>aBo p+aD l i
def n5 {l:List nU} (h:l.length≤8) (b:Bool):aP Pg 293 [.sl 77 (l.map gq) b] (lr (uB l)):=by
 refine ab.intro (aA R.n5.2) (by simp[R.n5]) ?_;simp[R.n5,ah,az,lr];refine fa.fN l.length (λ_=>True) [2,3,6,7,8] (λi=>[(3,.rs 3 [] 0 (uB (l.take i)).length (uB (l.take i)).length 1 .tip),(8,.int .i64 i)]) (λi=>[(3,.arr 1 ((uB (l.take i)).map (λn:Int=>PV.int .u32 n)))]) [.vt 3 3 1] ?_;simp[show uB []=[] from rfl];refine⟨λi hi K hK=> ?_,λK=> ?_⟩
 ·have hx:l[i]? =some l[i]:=gJ hi;have hlen:=wT (l.take i);have Nj:(l.take i).length≤i:=by rw[lJ];omega
  rw[IK hi]at hK;generalize uB (l.take i)=out at*;by_cases h1:l[i].has=true
  ·simp[↓an,hi,h1,cT hi (by omega)];refine⟨⟨by omega,by omega⟩,[.keep [2,3,6,7,8],.dr 5],?_⟩;simp[aW,bA,ae,af];exact hK _ (by simp[h1])
  ·simp[↓an,hi,h1,cT hi (by omega)];refine⟨[.keep [2,3,6,7,8],.dr 5],?_⟩;simp[aW,bA,ae,af];exact hK _ (by simp[h1])
 ·simp[↓an];refine bj.plain [.keep [2],.fz 3,.wk 2] ?_;simp
def lQ (r:lU):aP Pg 257 [dt r] (lr (uB [r.p,r.c,r.n])):=by
 refine ab.intro (aA R.lQ.2) (by simp[R.lQ]) ?_;simp[R.lQ,ah,az];refine aj.rA (n5 (l:=[r.p,r.c,r.n]) (by simp) false) ?_;simp;refine bH ?_;simp
def pos (x:cG):WO->Nat
 |[]=>0
 |y::l=>if y.index≤x.index then pos x l+1 else 0
def ins (x:cG):WO->WO
 |[]=>[x]
 |y::l=>if y.index≤x.index then y::ins x l else x::y::l
def E8 (l:WO):WO:=l.foldl (λa x=>ins x a) []
def I0 (l:WO):Prop:=l.Pairwise (λa b=>a.index≤b.index)
theorem Ll (x:cG):∀l:WO,ins x l=l.take (pos x l)++x::l.drop (pos x l)
 |[]=>rfl
 |
  y::l=>by
  simp only[ins,pos]
  split
  ·rw[Ll x l];simp
  ·simp
theorem Tn (x:cG):∀l:WO,pos x l≤l.length
 |[]=>by simp[pos]
 |
  y::l=>by
  have:=Tn x l
  simp only[pos];split<;>simp<;>omega
theorem To {x:cG}:∀ {l:WO} {j:Nat},j<pos x l->(hj:j<l.length)->l[j].index≤x.index
 |[],j,h,hj=>by simp at hj
 |
  y::l,j,h,hj=>by
  simp only[pos]at h
  split at h
  ·rename_i hy
   cases j with
   |zero=>exact hy
   |succ j=>exact To (l:=l) (j:=j) (by omega) (by simpa using hj)
  ·omega
theorem Tp {x:cG}:∀ {l:WO},I0 l->∀ {j:Nat},pos x l≤j->(hj:j<l.length)->x.index<l[j].index
 |[],_,j,_,hj=>by simp at hj
 |
  y::l,h,j,hp,hj=>by
  have h1:=JfJ.1 h
  simp only[pos]at hp
  split at hp
  ·cases j with
   |zero=>omega
   |succ j=>exact Tp (l:=l) h1.2 (j:=j) (by omega) (by simpa using hj)
  ·rename_i hy
   cases j with
   |zero=>show x.index<y.index;omega
   |
    succ j=>
    have Ek:j<l.length:=by simpa using hj
    have:=h1.1 l[j] (JaJ Ek)
    show x.index<l[j].index
    omega
def I1 (x:cG) (l:WO):(ins x l).Perm (x::l):=by
 rw[Ll];refine List.perm_middle.trans (List.Perm.cons x ?_);rw[JbV]
theorem M3 {x:cG}:∀ {l:WO},I0 l->I0 (ins x l)
 |[],_=>by simp[ins,I0]
 |
  y::l,h=>by
  have h1:=JfJ.1 h
  simp only[ins]
  split
  ·rename_i hy
   refine JfJ.2 ⟨λz hz=> ?_,M3 h1.2⟩
   rcases cJ.1 ((I1 x l).mem_iff.1 hz)with e|hz
   ·rw[e];exact hy
   ·exact h1.1 z hz
  ·rename_i hy
   refine JfJ.2 ⟨λz hz=> ?_,h⟩
   rcases cJ.1 hz with e|hz
   ·rw[e];omega
   ·have:=h1.1 z hz;omega
def Tq (l:WO) (x:cG):E8 (l++[x])=ins x (E8 l):=by simp[E8]
theorem E9:∀(l a:WO),(l.foldl (λa x=>ins x a) a).Perm (a++l)
 |[],a=>by simp
 |
  x::l,a=>by
  refine(E9 l (ins x a)).trans ?_
  refine((I1 x a).append_right l).trans ?_
  exact(List.perm_middle (l₁:=a) (a:=x) (l₂:=l)).symm
theorem I2:∀(l a:WO),I0 a->I0 (l.foldl (λa x=>ins x a) a)
 |[],a,h=>h
 |x::l,a,h=>I2 l _ (M3 h)
def yo (l:WO):(E8 l).Perm l:=by simpa[E8]using E9 l []
def M4 (l:WO):I0 (E8 l):=I2 l [] .nil
theorem uniq:∀ {a b:WO},a.Pairwise (λx y=>x.index<y.index)->I0 b->a.Perm b->a=b
 |[],b,_,_,h=>by rw[h.nil_eq]
 |x::a,[],_,_,h=>by have:=h.length_eq;simp at this
 |
  x::a,y::b,ha,hb,h=>by
  have h1:=JfJ.1 ha
  have h2:=JfJ.1 hb
  have LG:x=y:=by
   have hy:y∈x::a:=h.mem_iff.2 (by simp);have hx:x∈y::b:=h.mem_iff.1 (by simp);rcases cJ.1 hy with e|hy
   ·exact e.symm
   ·rcases cJ.1 hx with e|hx
    ·exact e
    ·have:=h1.1 y hy;have:=h2.1 x hx;omega
  subst LG
  rw[uniq h1.2 h2.2 (h.cons_inv)]
instance:DecidableEq cG:=λa b=>if h:a.index=b.index∧a.peer=b.peer∧a.eM=b.eM then isTrue (by rcases a with⟨i,p,s⟩;rcases b with⟨j,q,t⟩;simp at h;simp[h])else isFalse (λe=>h (by rw[e];exact⟨rfl,rfl,rfl⟩))
def eSl (a b:cG):PV.beq (aZ a) (aZ b)=decide (a=b):=by
 have h:=tG a.peer b.peer;rcases a with⟨i,p,s⟩;rcases b with⟨j,q,t⟩;simp only at h;rw[Bool.eq_iff_iff];simp[aZ,PV.beq,PV.oe,h]
def UT (l m:WO) (i:Nat):Bool:=match l[i]?,m[i]?with
 |some a,some b=> !decide (a=b)
 |_,_=>false
def M5 {l m:WO} {i:Nat} {a b:cG} (ha:l[i]? =some a) (hb:m[i]? =some b):UT l m i= !decide (a=b):=by simp only[UT,ha,hb]
def Ye {l m:WO} (h:l.length=m.length):decide (l=m)=decide (fst (UT l m) l.length=l.length):=by
 congr 1;apply propext;rw[te];constructor
 ·rintro rfl i hi;have hx:l[i]? =some l[i]:=gJ hi;rw[M5 hx hx];simp
 ·intro hh;refine JmW h λi h1 h2=> ?_;have:=hh i h1;rw[M5 (gJ h1) (gJ h2)]at this;simpa using this
def afd {l m:WO} (hl:l.length≤1048576):aP Pg 188 [bQ l,bQ m] (.bl (decide (l=m))):=by
 refine ab.intro (aA R.dJ.2) (by simp[R.dJ]) ?_;by_cases hlen:l.length=m.length
 ·have hr:=Ye hlen;have hle:=om (UT l m) l.length;have yw:∀i,i<fst (UT l m) l.length->UT l m i=false:=λi h=>oo h;have Hh:fst (UT l m) l.length<l.length->UT l m (fst (UT l m) l.length)=true:=qY;generalize fst (UT l m) l.length=n at*;rw[hr];simp[R.dJ,ah,az,hlen];refine fa.fN n (λ_=>True) [0,1,4,11,12,13] (λi=>[(13,.int .i64 i)]) (λi=>[]) [.keep [0,1,4,11,12,13]] ?_;simp;refine⟨λi hi K hK=> ?_,λK=> ?_⟩
  ·have jv:i<l.length:=by omega
   have PG:i<m.length:=by omega
   have hx:l[i]? =some l[i]:=gJ jv;have hy:m[i]? =some m[i]:=gJ PG;have hb:=yw i hi;rw[M5 hx hy]at hb;have he:l[i]=m[i]:=by simpa using hb
   rw[←he]at hy;have hf:=sV l[i];have hbq:=OB l[i];generalize l[i]=a at*;simp[↓an,hx,hy,jv,PG,hf,hbq,cT PG (by omega),-getElem?_pos];refine⟨[.keep [0,1,4,11,12,13]],?_⟩;simp;exact hK _ (by simp)
  ·by_cases hn:n<l.length
   ·have PG:n<m.length:=by omega
    have bY:¬n=l.length:=by omega
    have agt:¬n=m.length:=by omega
    have hx:l[n]? =some l[n]:=gJ hn;have hy:m[n]? =some m[n]:=gJ PG;have hb:=Hh hn;rw[M5 hx hy]at hb;have hf:=sV l[n];have hf2:=sV m[n];have hbq:=eSl l[n] m[n];rw[show decide (l[n]=m[n])=false by simpa using hb]at hbq;generalize l[n]=a at*;generalize m[n]=b at*;simp[↓an,hx,hy,hn,PG,hf,hf2,hbq,-getElem?_pos];refine bH ?_;simp[agt]
   ·have bY:n=m.length:=by omega
    have Em:¬((n:Int)<m.length):=by omega
    have PE:¬n<m.length:=by omega
    simp[↓an,Em];refine bH ?_;simp[bY]
 ·have bY:¬((l.length:Int)=m.length):=by omega
  have agt:¬l=m:=λe=>hlen (by rw[e]);simp[R.dJ,ah,az,bY];refine bH ?_;simp[agt]
def Tr (s:cG):Prop:=0≤s.index∧s.index<4294967296
def abA {a b:cG} (ha:Tr a) (hb:Tr b):aP Pg 259 [aZ a,aZ b] (.int .i64 (a.index-b.index)):=by
 refine ab.intro (aA R.ri.2) (by simp[R.ri]) ?_;unfold Tr at ha hb;have w1:IntKind.i64.wrap a.index=a.index:=wrap_i64 (by omega);have w2:IntKind.i64.wrap b.index=b.index:=wrap_i64 (by omega);have w3:IntKind.i64.wrap (a.index-b.index)=a.index-b.index:=wrap_i64 (by omega);simp[R.ri,ah,az,w1,w2,w3];refine bH ?_;simp
def M6 (l:WO):(E8 l).length=l.length:=(yo l).length_eq
def PA (pre rest:WO) (x:cG) (k:Nat):WO:=pre.take k++x::(pre.drop k++rest)
def arq {pre rest:WO} {x:cG} {k:Nat} (h:k≤pre.length):(PA pre rest x k)[k]? =some x:=by
 unfold PA;rw[List.getElem?_append_right (by rw[lJ];omega),lJ,show k-min k pre.length=0 by omega];rfl
def ars {pre rest:WO} {x:cG} {k:Nat} (h:k<pre.length):(PA pre rest x (k+1))[k]? =some pre[k]:=by
 unfold PA;rw[List.getElem?_append_left (by rw[lJ];omega),List.getElem?_take,if_pos (by omega),gJ h]
def afe {pre rest:WO} {x:cG} {k:Nat} (h:k<pre.length):((PA pre rest x (k+1)).set (k+1) pre[k]).set k x=PA pre rest x k:=by
 unfold PA;have e1:pre.take (k+1)=pre.take k++[pre[k]]:=JcJ h;have e2:pre.drop k=pre[k]::pre.drop (k+1):=List.drop_eq_getElem_cons h;have hl:(pre.take k).length=k:=by rw[lJ];omega
 rw[e1,e2,JfX,JhV _ _ (by omega),hl,show k+1-k=1 by omega];simp only[List.singleton_append,List.set_cons_succ,JjW];rw[JhV _ _ (by omega),hl,Nat.sub_self,JjW];rfl
def Yf {pre rest:WO} {x:cG} {k:Nat}:(PA pre rest x k).length=pre.length+1+rest.length:=by
 unfold PA;simp[lJ];omega
def DK (A pre rest:WO) (x:cG) (k:Nat):WO:=A++PA pre rest x k
def abB {A pre rest:WO} {x:cG} {k g:Nat} (h:k≤pre.length) (hg:g=A.length+k):(DK A pre rest x k)[g]? =some x:=by
 unfold DK;rw[List.getElem?_append_right (by omega),show g-A.length=k by omega];exact arq h
def abC {A pre rest:WO} {x:cG} {k g:Nat} (h:k<pre.length) (hg:g=A.length+k):(DK A pre rest x (k+1))[g]? =some pre[k]:=by
 unfold DK;rw[List.getElem?_append_right (by omega),show g-A.length=k by omega];exact ars h
def aff {A pre rest:WO} {x:cG} {k g:Nat} (h:k<pre.length) (hg:g=A.length+k):((DK A pre rest x (k+1)).set (g+1) pre[k]).set g x=DK A pre rest x k:=by
 unfold DK;rw[JhV _ _ (by omega),JhV _ _ (by omega),show g+1-A.length=k+1 by omega,show g-A.length=k by omega,afe h]
def M7 {A pre rest:WO} {x:cG} {k:Nat}:(DK A pre rest x k).length=A.length+(pre.length+1+rest.length):=by
 unfold DK;rw[JaV,Yf]
def Yg (A L B:WO) (i:Nat):WO:=A++(E8 (L.take (i+1))++(L.drop (i+1)++B))
theorem aBp (A L B:WO):Yg A L B 0=A++(L++B):=by
 cases L with
 |nil=>rfl
 |cons x l=>simp[Yg,E8,ins]
def art {A L B:WO} {i:Nat} (h:i+1<L.length):Yg A L B i=DK A (E8 (L.take (i+1))) (L.drop (i+2)++B) L[i+1] (i+1):=by
 unfold Yg DK PA;have hl:(E8 (L.take (i+1))).length=i+1:=by rw[M6,lJ];omega
 generalize E8 (L.take (i+1))=pre at*;have t1:pre.take (i+1)=pre:=tJ (by omega);have t2:pre.drop (i+1)=[]:=JiZ (by omega);rw[t1,t2,List.drop_eq_getElem_cons h];rfl
def aru {A L B:WO} {i:Nat} (h:i+1<L.length):Yg A L B (i+1)=DK A (E8 (L.take (i+1))) (L.drop (i+2)++B) L[i+1] (pos L[i+1] (E8 (L.take (i+1)))):=by
 unfold Yg DK PA;rw[JcJ h,Tq,Ll];simp
def arv {A L B:WO} {N c e:Nat} (hc:c=A.length) (he0:e=c+L.length) (hNe:N=A.length+(L.length+B.length)) (hN:N≤64) (hb:∀s∈L,Tr s):
  ab Pg 314 [.rs KB [] 0 N N 34 .tip,.int .i64 c,.int .i64 e,.fn (.func 259) [] []] [.arr 34 ((A++(L++B)).map aZ)]
   (λr fp=>r= .tup []∧fp=[.arr 34 ((A++(E8 L++B)).map aZ)]):=by
 refine ab.intro T.bZ (by simp[F.bZ]) ?_;have w0:IntKind.i64.wrap ((c:Int)+1)=(c:Int)+1:=wrap_i64 (by omega);rw[←aBp];simp[F.bZ,ah,az,w0];refine fa.fN (L.length-1) (λ_=>True) [0,1,2,3,8] (λi=>[(8,.int .i64 ((c:Int)+i+1))]) (λi=>[(KB,.arr 34 ((Yg A L B i).map aZ))]) [.keep [0,1,2,3,8]] ?_;simp;refine⟨λi hi K hK=> ?_,λK=> ?_⟩
 ·have h1:i+1<L.length:=by omega
  have Aj:IntKind.i64.wrap ((c:Int)+i+1+1)=(c:Int)+((i:Int)+1)+1:=by rw[wrap_i64 (by omega)];omega
  have dx:(c:Int)+i+1<e:=by omega
  rw[art h1];rw[aru h1]at hK;have rv:∀s∈E8 (L.take (i+1)),Tr s:=λs hs=>hb s (JaW ((yo _).mem_iff.1 hs));have hl:(E8 (L.take (i+1))).length=i+1:=by rw[M6,lJ];omega
  have hs:=M4 (L.take (i+1));have hx:=hb _ (JaJ h1);have n8:(L.drop (i+2)++B).length=L.length-(i+2)+B.length:=by simp
  generalize E8 (L.take (i+1))=pre at*;generalize L[i+1]=x at*;generalize L.drop (i+2)++B=rest at*;have hp:=Tn x pre;simp[↓an,dx];refine fa.fN (i+1-pos x pre) (λ_=>True) [0,1,2,3,8,9] (λt=>[(9,.int .i64 ((c:Int)+i+1-t))]) (λt=>[(KB,.arr 34 ((DK A pre rest x (i+1-t)).map aZ))]) [.keep [0,1,2,3,8,9]] ?_;simp;refine⟨λt ht K2 yu=> ?_,λK2=> ?_⟩
  ·obtain⟨k,hk⟩:∃k,i+1-t=k+1:=⟨i-t,by omega⟩
   obtain⟨g,hg⟩:∃g,g=A.length+k:=⟨_,rfl⟩
   have rl:(c:Int)+i+1-t=(g:Int)+1:=by omega
   have BO:i-t=k:=by omega
   have hk3:(c:Int)+i+1-((t:Int)+1)=g:=by omega
   rw[BO,hk3]at yu;rw[hk,rl];have hkp:k<pre.length:=by omega
   have hgt:=Tp (x:=x) hs (j:=k) (by omega) hkp;have U5:=rv _ (JaJ hkp);have hn:=M7 (A:=A) (pre:=pre) (rest:=rest) (x:=x) (k:=k+1);have g1:(DK A pre rest x (k+1))[g+1]? =some x:=abB (by omega) (by omega);have g2:(DK A pre rest x (k+1))[g]? =some pre[k]:=abC hkp hg;have hsw:=aff (A:=A) (pre:=pre) (rest:=rest) (x:=x) hkp hg;have hcm:=abA hx U5;have Qn:IntKind.i64.wrap (g:Int)=(g:Int):=wrap_i64 (by omega);have Hb:(DK A pre rest x (k+1)).length=N:=by omega
   have hk4:(g:Int)+1<N:=by omega
   have hk5:(g:Int)<N:=by omega
   have hk6:g<N:=by omega
   have hk7:g+1<N:=by omega
   have hk8:(0:Int)≤(g:Int)+1:=by omega
   have Hi:((g:Int)+1).toNat=g+1:=by omega
   have jh:(c:Int)<(g:Int)+1:=by omega
   have T3:x.index-pre[k].index<0:=by omega
   generalize pre[k]=y at*;simp[↓an,jh,Qn,Hi,g1,g2,Hb,hk4,hk6,hk8,-getElem?_pos];refine aK.rA hcm ?_;simp[T3,-getElem?_pos];refine oG.run [KB] rfl ?_;simp[Qn,Hi,g1,g2,Hb,hk4,hk6,hk8,-getElem?_pos]
   have afD:((List.map aZ (DK A pre rest x (k+1))).set (g+1) (aZ y)).set g (aZ x)=List.map aZ (DK A pre rest x k):=by
    rw[←JeJ,←JeJ,hsw]
   rw[afD];refine⟨[.keep [0,1,2,3,8,9]],?_⟩;simp;exact yu _ (by simp)
  ·have he:i+1-(i+1-pos x pre)=pos x pre:=by omega
   obtain⟨g,hg⟩:∃g,g=A.length+pos x pre:=⟨_,rfl⟩
   have YU:(c:Int)+i+1-((i+1-pos x pre:Nat):Int)=(g:Int):=by omega
   rw[he,YU];by_cases h0:pos x pre=0
   ·have hng:¬(c:Int)<g:=by omega
    simp[↓an,hng,Aj];refine⟨[.keep [0,1,2,3,8]],?_⟩;simp;exact hK _ (by simp)
   ·obtain⟨k,hk⟩:∃k,pos x pre=k+1:=⟨pos x pre-1,by omega⟩
    obtain⟨g,rfl⟩:∃g',g=g'+1:=⟨g-1,by omega⟩
    have hkp:k<pre.length:=by omega
    have hgk:g=A.length+k:=by omega
    have hle:=To (x:=x) (l:=pre) (j:=k) (by omega) hkp;have U5:=rv _ (JaJ hkp);rw[hk]at hK⊢;have hn:=M7 (A:=A) (pre:=pre) (rest:=rest) (x:=x) (k:=k+1);have g1:(DK A pre rest x (k+1))[g+1]? =some x:=abB (by omega) (by omega);have g2:(DK A pre rest x (k+1))[g]? =some pre[k]:=abC hkp hgk;have hcm:=abA hx U5;have Qn:IntKind.i64.wrap (g:Int)=(g:Int):=wrap_i64 (by omega);have Hb:(DK A pre rest x (k+1)).length=N:=by omega
    have hk4:(g:Int)+1<N:=by omega
    have hk6:g<N:=by omega
    have hk8:(0:Int)≤(g:Int)+1:=by omega
    have Hi:((g:Int)+1).toNat=g+1:=by omega
    have jh:(c:Int)<(g:Int)+1:=by omega
    have T3:¬x.index-pre[k].index<0:=by omega
    generalize pre[k]=y at*;simp[↓an,jh,Qn,Hi,g1,g2,Hb,hk4,hk6,hk8,-getElem?_pos];refine aK.rA hcm ?_;simp[↓an,T3,Aj];refine⟨[.keep [0,1,2,3,8]],?_⟩;simp;exact hK _ (by simp)
 ·have hd:Yg A L B (L.length-1)=A++(E8 L++B):=by
   unfold Yg;by_cases h0:L.length=0
   ·rw[JfZ.1 h0];rfl
   ·rw[tJ (by omega),JiZ (by omega),JjJ]
  have Em:¬(c:Int)+((L.length-1:Nat):Int)+1<e:=by omega
  rw[hd];simp[↓an,Em];refine bj.with [] [KB] ?_;simp[af,aG,dN]
def lh (l:WO):aB (l.map aZ):=aL fB l
def zZ (L:WO):WO:=E8 L
def O5 (L:WO):(zZ L).Perm L:=yo L
def arw {L:WO} {N:Nat} (hNl:N=L.length) (hN:N<20) (hu:∀s∈L,Tr s):
  ab Pg 294 [.rs KB [] 0 N N 34 .tip,.int .i64 (N:Nat),.fn (.func 259) [] []] [.arr 34 (L.map aZ)] (λr fp=>r= .tup []∧fp=[.arr 34 ((zZ L).map aZ)]):=by
 refine ab.intro (aA R.fh.2) (by simp[R.fh]) ?_
 have hi:ab Pg 314 [.rs KB [] 0 N N 34 .tip,.int .i64 0,.int .i64 (N:Nat),.fn (.func 259) [] []] [.arr 34 (L.map aZ)] (λr fp=>r= .tup []∧fp=[.arr 34 ((zZ L).map aZ)]):=by
  have h:=arv (A:=[]) (L:=L) (B:=[]) (N:=N) (c:=0) (e:=N) rfl (by omega) (by simp;omega) (by omega) hu;simp only[JjJ,JdW]at h;exact h
 generalize zZ L=E at*;have h20:¬(20:Int)≤N:=by omega
 have Up:¬(20:Int)<N:=by omega
 have aCG:¬20≤N:=by omega
 have asQ:¬20<N:=by omega
 simp[R.fh,ah,az];refine fa.fN 0 (λ_=>True) [0,1,2,6,7,8] (λi=>[]) (λi=>[]) [.keep [0,1,2,6,7,8]] ?_;simp;intro K;simp[↓an,h20,aCG];refine aj.gA [KB] [] [.arr 34 (L.map aZ)] hi (by simp[af,(lh L).refs]) (by simp[aG,(lh L).aI]) (by simp[af,ae,al,(lh E).refs]) ?_;simp[aQ,aG,aI,bw,cN,(lh E).aI];refine fa.fN 0 (λ_=>True) [0,1,2,6,7,8] (λi=>[]) (λi=>[]) [.keep [0,1,2,6,7,8]] ?_;simp;intro K;simp[↓an,Up,asQ];refine bj.with [] [KB] ?_;simp[af,aG,ae,aI,bw,al,dN]
def Lm {L:WO} {N:Nat} (hNl:N=L.length) (hN:N<20) (hu:∀s∈L,Tr s):
  ab Pg 258 [.rs KB [] 0 N N 34 .tip,.fn (.func 259) [] []] [.arr 34 (L.map aZ)] (λr fp=>r= .tup []∧fp=[.arr 34 ((zZ L).map aZ)]):=by
 refine ab.intro (aA R.dB.2) (by simp[R.dB]) ?_;have hs:ab Pg 294 [.rs KB [] 0 N N 34 .tip,.int .i64 (N:Nat),.fn (.func 259) [] []] [.arr 34 (L.map aZ)] (λr fp=>r= .tup []∧fp=[.arr 34 ((zZ L).map aZ)]):=arw hNl hN hu;generalize zZ L=E at*;subst hNl;simp[R.dB,ah,az];refine aj.gA [KB] [] [.arr 34 (L.map aZ)] hs (by simp[af,(lh L).refs]) (by simp[aG,(lh L).aI]) (by simp[af,ae,al,(lh E).refs]) ?_;simp[aQ,aG,aI,bw,cN,(lh E).aI];refine bj.with [] [KB] ?_;simp[af,aG,ae,aI,bw,al,dN]
def I3 (p:bE):WO:=if p.hand.has=true then [⟨p.hand.loc,p.cK,false⟩]else []
def uP (p:bE):WO:=I3 p++(uO p).map λx=>⟨x,p.cK,true⟩
def gl (l:Xo) (i:Nat):WO:=(l.take i).flatMap uP
def qc (l:Xo):gl l l.length=l.flatMap uP:=by unfold gl;rw[JmV]
def M8 {l:Xo} {i:Nat} (h:i<l.length):gl l (i+1)=gl l i++uP l[i]:=by
 unfold gl;rw[JcJ h,List.flatMap_append];simp
def afg (p:bE):(uP p).length≤4:=by
 have:=GN p;unfold uP I3;split<;>simp<;>omega
theorem Ts:∀(l:Xo) (i:Nat),i≤l.length->(gl l i).length≤4*i
 |l,0,_=>by simp[gl]
 |
  l,i+1,h=>by
  have h1:=Ts l i (by omega)
  have h2:=afg l[i]
  rw[M8 (by omega),JaV];omega
def ml (p:bE) (X:WQ) (j:Nat):WO:=(X.take j).map (λx=>⟨x,p.cK,true⟩)
def M9 (p:bE) {X:WQ} {j:Nat} (h:j<X.length):ml p X (j+1)=ml p X j++[⟨X[j],p.cK,true⟩]:=by
 unfold ml;rw[JcJ h,List.map_append];rfl
def GO (p:bE) {X:WQ} {j:Nat} (h:j≤X.length):(ml p X j).length=j:=by
 unfold ml;simp;omega
def Tt (p:bE) (X:WQ):ml p X X.length=X.map (λx=>(⟨x,p.cK,true⟩:cG)):=by
 unfold ml;rw[JmV]
theorem afh {d:aR} (hl:d.aa.length≤4) (hu:∀s∈gl d.aa d.aa.length,Tr s):aP Pg 189 [bN d] (bQ (zZ (gl d.aa d.aa.length))):=by
 refine ab.intro (aA R.uQ.2) (by simp[R.uQ]) ?_;simp[R.uQ,ah,az];refine fa.fN d.aa.length (λ_=>True) [1,2,3,9,10,11] (λi=>[(3,.rs 3 [] 0 (gl d.aa i).length (gl d.aa i).length 34 .tip),(11,.int .i64 i)]) (λi=>[(3,.arr 34 ((gl d.aa i).map aZ))]) [.keep [1,2,3,9,10,11],.vt 3 3 34] ?_;simp[show gl d.aa 0=[] from rfl];refine⟨λi hi K hK=> ?_,λK=> ?_⟩
 ·have hx:d.aa[i]? =some d.aa[i]:=gJ hi;have hA:=Ts d.aa i (by omega);rw[M8 hi]at hK;have hl3:=GN d.aa[i];generalize d.aa[i]=p at*;generalize gl d.aa i=A at*;have hXe:uB [p.ring.p,p.ring.c,p.ring.n]=uO p:=rfl;cases h6:p.hand.has
  ·have xd:uP p=(uO p).map (λx=>⟨x,p.cK,true⟩):=by simp[uP,I3,h6]
   rw[xd]at hK;generalize uO p=X at*;simp[↓an,hx,hi,h6,-getElem?_pos];refine aj.rA (lQ p.ring) ?_;simp;rw[hXe];refine fa.fN X.length (λ_=>True) [1,2,3,5,9,10,11,29,30,31] (λj=>[(3,.rs 3 [] 0 (A.length+j) (A.length+j) 34 .tip),(31,.int .i64 j)]) (λj=>[(3,.arr 34 ((A++ml p X j).map aZ))]) [.keep [1,2,3,5,9,10,11,29,30,31]] ?_;simp[show ml p X 0=[] from rfl];refine⟨λj hj K2 yu=> ?_,λK2=> ?_⟩
   ·have hy:X[j]? =some X[j]:=gJ hj;have hlen:=GO p (X:=X) (j:=j) (by omega);rw[M9 p hj]at yu;generalize X[j]=x at*;generalize ml p X j=M at*;simp[↓an,hy,hj,cT hj (by omega),lr,hlen,-getElem?_pos];have hs:PV.st 34 [.int .u32 x,bW p.cK,.bl true]=aZ ⟨x,p.cK,true⟩:=rfl;rw[hs];refine⟨by omega,[.keep [1,2,3,5,9,10,11,29,30,31]],?_⟩;simp;exact yu _ (by simp[lr];try omega)
   ·have hlen:=GO p (X:=X) (j:=X.length) (by omega);simp[↓an,cT hi (by omega)];refine⟨[.keep [1,2,3,9,10,11],.dr 5],?_⟩;simp[aW,bA,ae,af];exact hK _ (by simp[Tt])
  ·have xd:uP p=[⟨p.hand.loc,p.cK,false⟩]++(uO p).map (λx=>⟨x,p.cK,true⟩):=by simp[uP,I3,h6]
   rw[xd,←JfX]at hK;generalize uO p=X at*;have G4:PV.st 34 [.int .u32 p.hand.loc,bW p.cK,.bl false]=aZ ⟨p.hand.loc,p.cK,false⟩:=rfl;have hAl:(A++[(⟨p.hand.loc,p.cK,false⟩:cG)]).length=A.length+1:=by simp
   have hAm:A.map aZ++[aZ ⟨p.hand.loc,p.cK,false⟩]=(A++[(⟨p.hand.loc,p.cK,false⟩:cG)]).map aZ:=by simp
   simp[↓an,hx,hi,h6,-getElem?_pos];rw[G4,hAm,←hAl];generalize A++[(⟨p.hand.loc,p.cK,false⟩:cG)]=A at*;refine⟨by omega,?_⟩;refine aj.rA (lQ p.ring) ?_;simp;rw[hXe];refine fa.fN X.length (λ_=>True) [1,2,3,5,9,10,11,29,30,31] (λj=>[(3,.rs 3 [] 0 (A.length+j) (A.length+j) 34 .tip),(31,.int .i64 j)]) (λj=>[(3,.arr 34 ((A++ml p X j).map aZ))]) [.keep [1,2,3,5,9,10,11,29,30,31]] ?_;simp[show ml p X 0=[] from rfl];refine⟨λj hj K2 yu=> ?_,λK2=> ?_⟩
   ·have hy:X[j]? =some X[j]:=gJ hj;have hlen:=GO p (X:=X) (j:=j) (by omega);rw[M9 p hj]at yu;generalize X[j]=x at*;generalize ml p X j=M at*;simp[↓an,hy,hj,cT hj (by omega),lr,hlen,-getElem?_pos];have hs:PV.st 34 [.int .u32 x,bW p.cK,.bl true]=aZ ⟨x,p.cK,true⟩:=rfl;rw[hs];refine⟨by omega,[.keep [1,2,3,5,9,10,11,29,30,31]],?_⟩;simp;exact yu _ (by simp[lr];try omega)
   ·have hlen:=GO p (X:=X) (j:=X.length) (by omega);simp[↓an,cT hi (by omega)];refine⟨[.keep [1,2,3,9,10,11],.dr 5],?_⟩;simp[aW,bA,ae,af];exact hK _ (by simp[Tt])
 ·have hlen:=Ts d.aa d.aa.length (JaQ _);have T8:=Lm (L:=gl d.aa d.aa.length) rfl (by omega) hu;have mV:=(O5 (gl d.aa d.aa.length)).length_eq;generalize gl d.aa d.aa.length=L at*;generalize zZ L=E at*;simp[↓an];refine aj.gA [3] [] [.arr 34 (L.map aZ)] T8 (by simp[af,(lh L).refs]) (by simp[aG,(lh L).aI]) (by simp[af,ae,al,(lh E).refs]) ?_;simp[aQ,aG,aI,bw,cN,(lh E).aI];refine bj.plain [.keep [2],.fz 3,.wk 2] ?_;simp[←mV,bQ]
def r7 (d:aR):Bool:=slB d.aE&&decide (d.aE=zZ (gl d.aa d.aa.length))
theorem afi {d:aR} (hl:d.aa.length≤4) (xd:d.aE.length≤1048576) (hu:∀s∈gl d.aa d.aa.length,Tr s):aP Pg 101 [bN d] (.bl (r7 d)):=by
 refine ab.intro (aA R.uR.2) (by simp[R.uR]) ?_;have hv:=Yd xd;have hS:=afh hl hu;have hE:=afd (l:=d.aE) (m:=zZ (gl d.aa d.aa.length)) xd;have hr:r7 d=(slB d.aE&&decide (d.aE=zZ (gl d.aa d.aa.length))):=rfl;generalize zZ (gl d.aa d.aa.length)=E at*;simp[R.uR,ah,az];refine aK.rA hv ?_;cases g:slB d.aE
 ·simp;refine bH ?_;simp[hr,g]
 simp;refine aK.rA hS ?_;simp;refine aK.rA hE ?_;simp;refine bH ?_;simp[hr,g]
def GP:List FuncId:=[95,96,97,98,99,100,101,102,103]
def fnV (f:FuncId):PV:= .fn (.func f) [] []
@[simp] def arx (f:FuncId):Pure (fnV f):=by simp[fnV]
def I4 (l:List FuncId):PV:= .sl 1 (l.map fnV) false
@[simp] def afj (l:List FuncId):Pure (I4 l):=by simp[I4]
theorem sn:aP Pg 54 [] (I4 GP):=by
 refine ab.intro (aA R.sn.2) (by simp[R.sn]) ?_;have hfw:∀f:FuncId,(PV.fn (.func f) [] []).width=1:=λ_=>rfl;simp[R.sn,ah,az,hfw,show PV.nf.width=1 from rfl];refine bj.plain [.wk 0] ?_;simp[I4,GP,fnV]
end Go.Ab
