/- Beginning a handshake, sending what waits. No condition. -/
import Derived.Test.YtdfkcobijmbidaaGreatQ1
import Derived.Test.YtdfkcobijmbidaaGreatC5
set_option maxRecDepth 100000
set_option maxHeartbeats 2000000
set_option linter.all false
noncomputable section Q8s
namespace Go.Ab
open Go.Ab
theorem af.ON {P:Program} {f:FuncId} {args:List PV} {sz:Nat} {l:List PV} {v:PV} (h:af P f args [] (λr fp=>r=v∧fp=[.arr sz l])) (hl:aB l):bB P f args (gq KB sz l v):=by
 refine λΓ w vs h1 h2 h3 h4=>(h Γ w vs h1 h2 h3 h4).mono ?_
 rintro e w' ⟨v',r,kS,Γ',e1,⟨rfl,rfl⟩,e3,e4,e5,e6,e7,e8⟩
 have hg:get Γ'.bx KB=some (.arr sz l):=by rw[e5,gp];simp
 have hf:=DS e4 hg (hl.refs _)
 refine⟨v',_,[],{Γ' with bx:=iC (te KB sz l) (del Γ'.bx KB)},e1,⟨rfl,rfl⟩,e3,vy e4 _ (λj blk fB hb=>(e4.blk j blk hb).gq hf),?_,e6.gq hf,?_,e8⟩
 ·rw[e5];simp[aG]
 ·refine⟨e7.heap,λb hb hm=> ?_,e7.ej,e7.size,λk blk hk=> ?_⟩
  ·obtain⟨k,blk,g1,g2⟩:=hm
   rw[e5]at g1
   simp[aG]at g1
  ·rw[h3]at hk;simp[aG]at hk
def SZ:AV:= .st 141 [(uI .u32),(uA .u8 32),(uA .u8 48),(uA .u8 28),(uA .u8 16),(uA .u8 16)]
def xP (m:Int) (a b c d e:List Int):PV:= .st 141 [.int .u32 m,.ar 1 32 (jb a),.ar 1 48 (jb b),.ar 1 28 (jb c),.ar 1 16 (jb d),.ar 1 16 (jb e)]
theorem Wd {w:Nat} {l:List AV} {p:PV} (h:gm (.st w l) p):∃m,p= .st w m∧bT l m:=by
 cases p<;>simp only[gm]at h
 obtain⟨rfl,h⟩:=h
 exact⟨_,rfl,h⟩
theorem s8 {l:List AV} {p:PV} (h:gm (.tup l) p):∃m,p= .tup m∧bT l m:=by
 cases p<;>simp only[gm]at h
 exact⟨_,rfl,h⟩
theorem gr {a:AV} {l:List AV} {m:List PV} (h:bT (a::l) m):∃x r,m=x::r∧gm a x∧bT l r:=by
 match m,h with
 |x::r,h=>exact⟨x,r,rfl,h.1,h.2⟩
 |[],h=>simp[bT]at h
theorem pL {m:List PV} (h:bT [] m):m=[]:=by
 match m,h with
 |[],_=>rfl
 |_::_,h=>simp[bT]at h
def asW (a b:List Int) (ha:a.length=32) (hb:b.length=32):FV HZ:=⟨.st 64 [.ar 1 32 (jb a),.ar 1 32 (jb b)],by simp[Ab.fits,pj,pW,ha,hb,zI,jd]⟩
def aiN (a:List Int) (ha:a.length=16):FV vR:=⟨.ar 1 16 (jb a),by simp[Ab.fits,pj,ha,zI]⟩
theorem Ta {p:PV} (hp:fits vR p=true):gm (uA .u8 16) p:=by
 cases p<;>simp[Ab.fits]at hp
 rename_i sz m L
 obtain⟨⟨h1,h2,h3⟩,h4⟩:=hp
 have e:sz=1:=by simpa[pj]using h1
 subst e h2
 simp only[uA,gm]
 refine⟨⟨trivial,trivial⟩,?_⟩
 have:=Ir h4
 rwa [h3]at this
theorem Zk {p:PV} (h:gm SZ p):∃m l1 l2 l3 l4 l5,p=xP m l1 l2 l3 l4 l5:=by
 unfold SZ at h
 obtain⟨m,rfl,g⟩:=Wd h
 obtain⟨x1,m,rfl,h1,h⟩:=gr g
 obtain⟨x2,m,rfl,h2,h⟩:=gr h
 obtain⟨x3,m,rfl,h3,h⟩:=gr h
 obtain⟨x4,m,rfl,h4,h⟩:=gr h
 obtain⟨x5,m,rfl,h5,h⟩:=gr h
 obtain⟨x6,m,rfl,h6,h⟩:=gr h
 obtain rfl:=pL h
 obtain⟨n,rfl⟩:=Db h1
 obtain⟨l2,_,rfl⟩:=nD h2
 obtain⟨l3,_,rfl⟩:=nD h3
 obtain⟨l4,_,rfl⟩:=nD h4
 obtain⟨l5,_,rfl⟩:=nD h5
 obtain⟨l6,_,rfl⟩:=nD h6
 exact⟨n,l2,l3,l4,l5,l6,rfl⟩
theorem We {a b c:PV} (ha:gm (uA .u8 32) a) (hb:gm (uA .u8 32) b) (hc:gm (uA .u8 32) c) {s:List Int} (hs:s.length=12) (n:Int):∃(m:Int) (l1 l2 l3 l4 l5:List Int) (no:FV HZ) (e:Int),gm SZ (xP m l1 l2 l3 l4 l5)∧bB Pg I.kQ [a,b,c,.ar 1 12 (jb s),.int .u32 n] (.tup [xP m l1 l2 l3 l4 l5,no.p,.int .i64 e]):=by
 obtain⟨_,v,h,h2⟩:=aiy aiw (.head _) [a,b,c,.ar 1 12 (jb s),.int .u32 n] ⟨ha,hb,hc,tI hs,by simp[uI,gm],trivial⟩
 obtain⟨m,rfl,g⟩:=s8 h
 obtain⟨x1,m,rfl,h1,h⟩:=gr g
 obtain⟨x2,m,rfl,hn,h⟩:=gr h
 obtain⟨x3,m,rfl,h3,h⟩:=gr h
 obtain rfl:=pL h
 have Qu:=h1
 obtain⟨m,l1,l2,l3,l4,l5,rfl⟩:=Zk h1
 obtain⟨p,q,hp,hq,rfl⟩:=Wf hn
 obtain⟨e,rfl⟩:=Db h3
 exact⟨m,l1,l2,l3,l4,l5,asW p q hp hq,e,Qu,h2⟩
theorem JH {a:PV} (ha:gm (uA .u8 32) a) (b:Bool) (c:FV vR) {x:PV} (hx:gm SZ x):∃(l:List Int) (t:FV vR),bB Pg I.gL [a,.bl b,c.p,x] (.tup [.sl 1 (jb l) false,t.p]):=by
 obtain⟨_,v,m,h,hm,h2⟩:=aiF aiD (.head _) [a,.bl b,c.p,x] ⟨ha,by simp[gm],Ta c.ok,hx,trivial⟩
 obtain⟨ms,rfl,g⟩:=s8 h
 obtain⟨x1,ms,rfl,h1,h⟩:=gr g
 obtain⟨x2,ms,rfl,ht,h⟩:=gr h
 obtain rfl:=pL h
 obtain⟨t,hl,rfl⟩:=nD ht
 obtain⟨l,EO,rfl⟩:=pM hm
 simp only[gm]at h1
 subst h1
 refine⟨l,aiN t hl,?_⟩
 have this:bB Pg I.gL [a,.bl b,c.p,x] _:=af.ON h2 (ik l)
 simpa[gq,im,EO,aiN,(ik t).gq,(ik l).gq,tJ]using this
@[simp] theorem adk (m:Int) (a b c d e:List Int):Pure (xP m a b c d e):=by simp[xP]
@[simp] theorem apA (m:Int) (a b c d e:List Int):wk (xP m a b c d e)=xP m a b c d e:=by simp[xP]
@[simp] theorem Zl (m:Int) (a b c d e:List Int):(xP m a b c d e).width=141:=_root_.id rfl
@[simp] theorem aiO (m:Int) (a b c d e:List Int):(xP m a b c d e).isAgg=true:=_root_.id rfl
@[simp] theorem adl (m:Int) (a b c d e:List Int):(xP m a b c d e).bp=true:=_root_.id rfl
@[simp↓] theorem aiP (g:Bool) (m:Int) (a b c d e:List Int) (K:PV->Prop):il g (xP m a b c d e) K=K (xP m a b c d e):=_root_.id rfl
theorem aiQ (n:Int):∃l:List Int,l.length=12∧bB Pg I.ez [.int .i64 n] (.ar 1 12 (jb l)):=by
 refine OfE (λn=> ?_) (λn=> ?_) n
 ·obtain⟨_,m,h1,h2⟩:=ais aiq (.head _) [.int .u64 n,.int .i64 8] ⟨by simp[uI,gm],by simp[kI,gm],trivial⟩
  obtain⟨l,hl,rfl⟩:=pM h1
  exact⟨l,hl,h2⟩
 ·obtain⟨_,m,h1,h2⟩:=aiv ait (.head _) [.int .u64 n,.int .i64 4] ⟨by simp[uI,gm],by simp[kI,gm],trivial⟩
  obtain⟨l,hl,rfl⟩:=pM h1
  exact⟨l,hl,h2⟩
@[simp] theorem adm (d:bK) (r:FV ja):(tu d r).rules=d.rules:=rfl
@[simp] theorem aiR (d:bK) (r:FV ja):(tu d r).mZ=d.mZ:=rfl
@[simp] theorem aiS (d:bK) (r:FV ja):(tu d r).nP=d.nP:=rfl
@[simp] theorem aiT (d:bK) (r:FV ja):(tu d r).port=d.port:=rfl
@[simp] theorem apB (d:bK) (r:FV ja):(tu d r).now=d.now:=rfl
@[simp] theorem adn (d:bK) (r:FV ja):(tu d r).aj=d.aj:=rfl
@[simp] theorem Zm (d:bK) (r:FV ja):(tu d r).bn=d.bn:=rfl
@[simp] theorem ado (d:bK) (r:FV ja):(tu d r).aD=d.aD:=rfl
@[simp] theorem Zn (d:bK) (r:FV ja):(tu d r).timers=d.timers:=rfl
@[simp] theorem Zo (d:bK) (r:FV ja):(tu d r).ix=d.ix:=rfl
@[simp] theorem adp (d:bK) (r:FV ja):(tu d r).ka=d.ka:=rfl
@[simp] theorem Zp (d:bK) (r:FV ja):(tu d r).bD=d.bD:=rfl
@[simp] theorem Wg (d:bK) (r:FV ja):(tu d r).buckets=d.buckets:=rfl
@[simp] theorem apC (d:bK) (r:FV ja):(tu d r).bad=d.bad:=rfl
@[simp] theorem Zq (d:bK) (r:FV ja):(tu d r).random=r:=rfl
theorem GC (l:List iK) (s:iK):(rR l s).length=l.length+1:=by
 have:=zF s.index l
 simp only[rR,List.length_append,lJ,List.length_drop,List.length_singleton]
 omega
theorem zJ (k:Key):gm (uA .u8 32) (eF k):=rI (oD k)
theorem OO:PV.st 100 [.bl false,.int .u32 0,.ar 1 32 (zr 32 (.int .u8 0)),.st 64 [.ar 1 32 (zr 32 (.int .u8 0)),.ar 1 32 (zr 32 (.int .u8 0))],.int .i64 0,.int .i64 0]=jV qI:=rfl
theorem pN (l:List fX) (k:Key) (n:Int):(dI l k n).length≤l.length:=List.length_filter_le _ _
theorem GD (l:List fX) (t:fX):(kX l t).length≤l.length+1:=by
 have h1:=pN l t.peer t.kind
 have h2:=vT t (dI l t.peer t.kind)
 simp only[kX,List.length_append,lJ,List.length_drop,List.length_singleton]
 omega
theorem Ex {d:bK} (ht:d.timers.length≤1048575) {ps:List dC} {i:Nat} (hi:i<ps.length) {L:List PV} (hL:aB L):∃d',(tH 1 d ps d' ps∧d'.aD=d.aD)∧
  af Pg I.bG [.pt KB [] 0,.int .i64 i] (MB d ps L) (λr fp=>r= .tup []∧fp=MB d' ps L):=by
 refine⟨_,?_,Gz ht hi hL⟩
 split
 ·exact⟨.refl _ _ _,rfl⟩
 ·exact⟨⟨by have:=GD d.timers ⟨IntKind.i64.wrap (d.now+ps[i].nI),ps[i].gC,4⟩;simpa[yW]using this,by simp[yW],rfl,rfl,rfl,.refl _⟩,rfl⟩
theorem Ey {d:bK} (ht:d.timers.length≤1048575) {ps:List dC} {i:Nat} (hi:i<ps.length) (k n:Int) {L:List PV} (hL:aB L):∃d',(tH 1 d ps d' ps∧d'.aD=d.aD)∧
  af Pg I.ba [.pt KB [] 0,.int .i64 i,.int .i64 k,.int .i64 n] (MB d ps L) (λr fp=>r= .tup []∧fp=MB d' ps L):=
 by
  refine⟨_,?_,OK ht hi k n hL⟩
  exact⟨⟨by have:=GD d.timers ⟨IntKind.i64.wrap (d.now+n),ps[i].gC,k⟩;simpa[yW]using this,by simp[yW],rfl,rfl,rfl,.refl _⟩,rfl⟩
theorem Bv {d:bK} (ht:d.timers.length≤1048576) {ps:List dC} {i:Nat} (hi:i<ps.length) (k:Int) {L:List PV} (hL:aB L):∃d',(tH 0 d ps d' ps∧d'.aD=d.aD)∧
  af Pg I.bQ [.pt KB [] 0,.int .i64 i,.int .i64 k] (MB d ps L) (λr fp=>r= .tup []∧fp=MB d' ps L):=
 by
  refine⟨_,?_,xN ht hi k hL⟩
  exact⟨⟨by have:=pN d.timers ps[i].gC k;simpa[yW]using this,by simp[yW],rfl,rfl,rfl,.refl _⟩,rfl⟩
theorem once {A G:Prop} (h:G->A) (g:G):A:=h g
theorem Ck {d:bK} {ps:List dC} {i:Nat} (hi:i<ps.length) (hs:d.aD.length<32) (hb:∀s∈d.aD,s.index≤1000) (ht:d.timers.length≤1000000) {L:List PV} (hL:aB L) (hl:L.length≤900) (hh:ps[i].hand.has=false):
  af Pg I.aY [.pt KB [] 0,.int .i64 i] (MB d ps L) (λr fp=>r= .tup []∧∃d' tO L',tH 4 d ps d' tO∧aB L'∧L'.length≤L.length+1∧fp=MB d' tO L'):=by
 have hx:ps[i]? =some ps[i]:=gJ hi
 refine af.intro T.aY (by simp[F.aY]) ?_
 simp[F.aY,an,aG,MB,hi,hh]
 obtain⟨r1,n,⟨LU,PD⟩,hW⟩:=JG d ps hL
 obtain⟨y,hT⟩:=Wc hs hb LU PD ps[i].gC false
 refine DrE.run [KB,KB] rfl rfl rfl ?_
 simp[hi]
 apply once
 ·intro WJ
  refine⟨?_,?_⟩
  ·refine al.mo KB (KB+1) (KB+2) hW (by simp) (by simp) (by simp) (by simp) hL (by simp[ae,ab,bj,idx]) (by simp[aO,aI,aV,idx]) ?_
   rintro x fp ⟨rfl,rfl⟩
   refine⟨_,_,_,rfl,by simp,hL,?_⟩
   simp
   refine a0.ret hT (by simp) (by simp) (by simp) ?_
   simp
   exact WJ
  ·refine al.mo KB (KB+1) (KB+2) hW (by simp) (by simp) (by simp) (by simp) hL (by simp[ae,ab,bj,idx]) (by simp[aO,aI,aV,idx]) ?_
   rintro x fp ⟨rfl,rfl⟩
   refine⟨_,_,_,rfl,by simp,hL,?_⟩
   simp
   refine a0.ret hT (by simp) (by simp) (by simp) ?_
   simp
   exact WJ
 generalize IG:({d with random:=r1,aD:=rR d.aD ⟨y,ps[i].gC,false⟩}:bK)=d1
 have g1:tH 1 d ps d1 ps:=by subst IG;exact⟨by simp,by simp[GC],rfl,rfl,rfl,.refl _⟩
 have yG:d1.aD.length≤32:=by have:=g1.aD;omega
 have ht1:d1.timers.length≤1000001:=by have:=g1.timers;omega
 obtain⟨r2,k,hD⟩:=Ew d1 ps hL
 refine al.mo KB (KB+1) (KB+2) hD (by simp) (by simp) (by simp) (by simp) hL (by simp[ae,ab,bj,idx]) (by simp[aO,aI,aV,idx]) ?_
 rintro x fp ⟨rfl,rfl⟩
 refine⟨_,_,_,rfl,by simp,hL,?_⟩
 simp
 obtain⟨st,yd,hO⟩:=aiQ d1.now
 obtain⟨m,l1,l2,l3,l4,l5,no,e,hx1,hI⟩:=We (rI d1.mZ.ok) (zJ ps[i].gC) (rI k.ok) yd y
 refine ny.run [] rfl ?_
 simp[hi]
 refine a0.ret hO (by simp) (by simp) (by simp) ?_
 simp
 refine a0.ret hI (by simp) (by simp) (by simp) ?_
 simp
 refine⟨λhe=> ?_,λhe=> ?_⟩
 ·refine al.mo KB (KB+1) (KB+2) (Eu (d:=tu d1 r2) (l:=[y]) (by simp;omega) (by simp) ps hL) (by simp) (by simp) (by simp) (by simp) hL (by simp[ae,ab,bj,idx]) (by simp[aO,aI,aV,idx,oq]) ?_
  rintro x fp ⟨rfl,rfl⟩
  refine⟨_,_,_,rfl,by simp,hL,?_⟩
  simp[hi,OO]
  generalize hp:({ps[i]with hand:=qI}:dC)=p'
  have td:xO ps[i] p':=by subst hp;exact⟨rfl,rfl,rfl,.refl _,.refl _,.refl _,List.suffix_refl _⟩
  refine al.mo KB (KB+1) (KB+2) (xN (d:=qL (tu d1 r2) (fh d1.aD [y])) (ps:=ps.set i p') (i:=i) (by simp[qL];omega) (by simp[hi]) 1 hL) (by simp) (by simp[List.map_set]) (by simp) (by simp) hL (by simp[ae,ab,bj,idx]) (by simp[aO,aI,aV,idx]) ?_
  rintro x fp ⟨rfl,rfl⟩
  refine⟨_,_,_,rfl,by simp,hL,?_⟩
  simp
  refine aM.with [] [KB,KB+1,KB+2] ?_
  simp[fx,hL.refs,hL.aI,ah]
  have hG:tH 1 d1 ps (yW (qL (tu d1 r2) (fh d1.aD [y])) (dI d1.timers p'.gC 1)) (ps.set i p'):=
   ⟨by have:=pN d1.timers p'.gC 1;simp[yW,qL];omega,by have:=lR [y] d1.aD;simp[yW,qL];omega,rfl,rfl,rfl,n5.set hi td⟩
  exact⟨_,_,(g1.trans hG).mono (by omega),L,hL,by omega,by simp[yW,qL]⟩
 ·obtain⟨bc,hC⟩:=Da (tu d1 r2) hi hL
  obtain⟨lb,tg,hSI⟩:=JH (zJ ps[i].gC) bc ps[i].ot hx1
  refine ny.run [] rfl ?_
  simp[hi]
  refine al.mo KB (KB+1) (KB+2) hC (by simp) (by simp) (by simp) (by simp) hL (by simp[ae,ab,bj,idx]) (by simp[aO,aI,aV,idx]) ?_
  rintro x fp ⟨rfl,rfl⟩
  refine⟨_,_,_,rfl,by simp,hL,?_⟩
  simp
  refine a0.ret hSI (by simp) (by simp) (by simp) ?_
  have eh:PV.st 100 [.bl true,.int .u32 y,k.p,no.p,.int .i64 d.now,.int .i64 d1.now]=jV ⟨true,y,k,no,d.now,d1.now⟩:=rfl
  simp[hi,eh]
  generalize hp:({ps[i]with hand:=⟨true,y,k,no,d.now,d1.now⟩,CX:=tg}:dC)=p'
  have td:xO ps[i] p':=by subst hp;exact⟨rfl,rfl,rfl,.refl _,.refl _,.refl _,List.suffix_refl _⟩
  refine al.mo KB (KB+1) (KB+2) (JE (tu d1 r2) (ps:=ps.set i p') (i:=i) (by simp[hi]) hL (by omega) lb false) (by simp) (by simp[List.map_set]) (by simp) (by simp) hL (by simp[ae,ab,bj,idx]) (by simp[aO,aI,aV,idx]) ?_
  rintro x fp ⟨x,hxp,rfl,rfl⟩
  have uV:aB (L++[x]):=(oh _ _).2 ⟨hL,(rv _ _).2 ⟨hxp,mb⟩⟩
  generalize uO:L++[x]=L1 at uV
  have EO:L1.length=L.length+1:=by subst uO;simp
  refine⟨_,_,_,rfl,by simp,uV,?_⟩
  simp
  obtain⟨d2,⟨g2,_⟩,hS⟩:=Ey (d:=tu d1 r2) (ps:=ps.set i p') (i:=i) (by simp;omega) (by simp[hi]) 1 d1.rules.ret uV
  have g2:tH 1 d1 ps d2 (ps.set i p'):=by
   have h0:tH 0 d1 ps (tu d1 r2) (ps.set i p'):=⟨by simp,by simp,rfl,rfl,rfl,n5.set hi td⟩
   exact(h0.trans g2).mono (by omega)
  have Du:d2.timers.length≤1000002:=by have:=g2.timers;omega
  refine al.mo KB (KB+1) (KB+2) hS (by simp) (by simp[List.map_set]) (by simp) (by simp) uV (by simp[ae,ab,bj,idx]) (by simp[aO,aI,aV,idx]) ?_
  rintro x fp ⟨rfl,rfl⟩
  refine⟨_,_,_,rfl,by simp,uV,?_⟩
  simp
  obtain⟨d3,⟨g3,_⟩,hT3⟩:=Ex (d:=d2) (ps:=ps.set i p') (i:=i) (by omega) (by simp[hi]) uV
  refine al.mo KB (KB+1) (KB+2) hT3 (by simp) (by simp[List.map_set]) (by simp) (by simp) uV (by simp[ae,ab,bj,idx]) (by simp[aO,aI,aV,idx]) ?_
  rintro x fp ⟨rfl,rfl⟩
  refine⟨_,_,_,rfl,by simp,uV,?_⟩
  simp
  refine aM.with [] [KB,KB+1,KB+2] ?_
  simp[fx,uV.refs,uV.aI,ah]
  exact⟨_,_,((g1.trans g2).trans g3).mono (by omega),L1,uV,by omega,by simp⟩
theorem Cl {d:bK} {ps:List dC} {i:Nat} (hi:i<ps.length) (hs:d.aD.length<32) (hb:∀s∈d.aD,s.index≤1000) (ht:d.timers.length≤1000000) {L:List PV} (hL:aB L) (hl:L.length≤900) (hh:ps[i].hand.has=true):
  af Pg I.aY [.pt KB [] 0,.int .i64 i] (MB d ps L) (λr fp=>r= .tup []∧∃d' tO L',tH 4 d ps d' tO∧aB L'∧L'.length≤L.length+1∧fp=MB d' tO L'):=by
 have hx:ps[i]? =some ps[i]:=gJ hi
 refine af.intro T.aY (by simp[F.aY]) ?_
 simp[F.aY,an,aG,MB,hi,hh]
 refine al.mo KB (KB+1) (KB+2) (Eu (d:=d) (l:=[ps[i].hand.loc]) (by omega) (by simp) ps hL) (by simp) (by simp) (by simp) (by simp) hL (by simp[ae,ab,bj,idx]) (by simp[aO,aI,aV,idx,oq]) ?_
 rintro x fp ⟨rfl,rfl⟩
 refine⟨_,_,_,rfl,by simp,hL,?_⟩
 have g0:tH 0 d ps (qL d (fh d.aD [ps[i].hand.loc])) ps:=⟨by simp[qL],by have:=lR [ps[i].hand.loc] d.aD;simpa[qL]using this,rfl,rfl,rfl,.refl _⟩
 have y7:∀s∈(qL d (fh d.aD [ps[i].hand.loc])).aD,s.index≤1000:=by
  intro s hs
  have h2:s∈fh d.aD [ps[i].hand.loc]:=hs
  rw[uu]at h2
  exact hb s (List.mem_filter.1 h2).1
 generalize qL d (fh d.aD [ps[i].hand.loc])=d0 at g0 y7
 have EV:d0.aD.length<32:=by have:=g0.aD;omega
 have ht0:d0.timers.length≤1000000:=by have:=g0.timers;omega
 obtain⟨r1,n,⟨LU,PD⟩,hW⟩:=JG d0 ps hL
 obtain⟨y,hT⟩:=Wc EV y7 LU PD ps[i].gC false
 simp
 refine DrE.run [KB,KB] rfl rfl rfl ?_
 simp[hi]
 apply once
 ·intro WJ
  refine⟨?_,?_⟩
  ·refine al.mo KB (KB+1) (KB+2) hW (by simp) (by simp) (by simp) (by simp) hL (by simp[ae,ab,bj,idx]) (by simp[aO,aI,aV,idx]) ?_
   rintro x fp ⟨rfl,rfl⟩
   refine⟨_,_,_,rfl,by simp,hL,?_⟩
   simp
   refine a0.ret hT (by simp) (by simp) (by simp) ?_
   simp
   exact WJ
  ·refine al.mo KB (KB+1) (KB+2) hW (by simp) (by simp) (by simp) (by simp) hL (by simp[ae,ab,bj,idx]) (by simp[aO,aI,aV,idx]) ?_
   rintro x fp ⟨rfl,rfl⟩
   refine⟨_,_,_,rfl,by simp,hL,?_⟩
   simp
   refine a0.ret hT (by simp) (by simp) (by simp) ?_
   simp
   exact WJ
 generalize IG:({d0 with random:=r1,aD:=rR d0.aD ⟨y,ps[i].gC,false⟩}:bK)=d1
 have g1:tH 1 d0 ps d1 ps:=by subst IG;exact⟨by simp,by simp[GC],rfl,rfl,rfl,.refl _⟩
 have yG:d1.aD.length≤32:=by have:=g1.aD;omega
 have ht1:d1.timers.length≤1000001:=by have:=g1.timers;omega
 obtain⟨r2,k,hD⟩:=Ew d1 ps hL
 refine al.mo KB (KB+1) (KB+2) hD (by simp) (by simp) (by simp) (by simp) hL (by simp[ae,ab,bj,idx]) (by simp[aO,aI,aV,idx]) ?_
 rintro x fp ⟨rfl,rfl⟩
 refine⟨_,_,_,rfl,by simp,hL,?_⟩
 simp
 obtain⟨st,yd,hO⟩:=aiQ d1.now
 obtain⟨m,l1,l2,l3,l4,l5,no,e,hx1,hI⟩:=We (rI d1.mZ.ok) (zJ ps[i].gC) (rI k.ok) yd y
 refine ny.run [] rfl ?_
 simp[hi]
 refine a0.ret hO (by simp) (by simp) (by simp) ?_
 simp
 refine a0.ret hI (by simp) (by simp) (by simp) ?_
 simp
 refine⟨λhe=> ?_,λhe=> ?_⟩
 ·refine al.mo KB (KB+1) (KB+2) (Eu (d:=tu d1 r2) (l:=[y]) (by simp;omega) (by simp) ps hL) (by simp) (by simp) (by simp) (by simp) hL (by simp[ae,ab,bj,idx]) (by simp[aO,aI,aV,idx,oq]) ?_
  rintro x fp ⟨rfl,rfl⟩
  refine⟨_,_,_,rfl,by simp,hL,?_⟩
  simp[hi,OO]
  generalize hp:({ps[i]with hand:=qI}:dC)=p'
  have td:xO ps[i] p':=by subst hp;exact⟨rfl,rfl,rfl,.refl _,.refl _,.refl _,List.suffix_refl _⟩
  refine al.mo KB (KB+1) (KB+2) (xN (d:=qL (tu d1 r2) (fh d1.aD [y])) (ps:=ps.set i p') (i:=i) (by simp[qL];omega) (by simp[hi]) 1 hL) (by simp) (by simp[List.map_set]) (by simp) (by simp) hL (by simp[ae,ab,bj,idx]) (by simp[aO,aI,aV,idx]) ?_
  rintro x fp ⟨rfl,rfl⟩
  refine⟨_,_,_,rfl,by simp,hL,?_⟩
  simp
  refine aM.with [] [KB,KB+1,KB+2] ?_
  simp[fx,hL.refs,hL.aI,ah]
  have hG:tH 1 d1 ps (yW (qL (tu d1 r2) (fh d1.aD [y])) (dI d1.timers p'.gC 1)) (ps.set i p'):=
   ⟨by have:=pN d1.timers p'.gC 1;simp[yW,qL];omega,by have:=lR [y] d1.aD;simp[yW,qL];omega,rfl,rfl,rfl,n5.set hi td⟩
  exact⟨_,_,((g0.trans g1).trans hG).mono (by omega),L,hL,by omega,by simp[yW,qL]⟩
 ·obtain⟨bc,hC⟩:=Da (tu d1 r2) hi hL
  obtain⟨lb,tg,hSI⟩:=JH (zJ ps[i].gC) bc ps[i].ot hx1
  refine ny.run [] rfl ?_
  simp[hi]
  refine al.mo KB (KB+1) (KB+2) hC (by simp) (by simp) (by simp) (by simp) hL (by simp[ae,ab,bj,idx]) (by simp[aO,aI,aV,idx]) ?_
  rintro x fp ⟨rfl,rfl⟩
  refine⟨_,_,_,rfl,by simp,hL,?_⟩
  simp
  refine a0.ret hSI (by simp) (by simp) (by simp) ?_
  have eh:PV.st 100 [.bl true,.int .u32 y,k.p,no.p,.int .i64 ps[i].hand.started,.int .i64 d1.now]=jV ⟨true,y,k,no,ps[i].hand.started,d1.now⟩:=rfl
  simp[hi,eh]
  generalize hp:({ps[i]with hand:=⟨true,y,k,no,ps[i].hand.started,d1.now⟩,CX:=tg}:dC)=p'
  have td:xO ps[i] p':=by subst hp;exact⟨rfl,rfl,rfl,.refl _,.refl _,.refl _,List.suffix_refl _⟩
  refine al.mo KB (KB+1) (KB+2) (JE (tu d1 r2) (ps:=ps.set i p') (i:=i) (by simp[hi]) hL (by omega) lb false) (by simp) (by simp[List.map_set]) (by simp) (by simp) hL (by simp[ae,ab,bj,idx]) (by simp[aO,aI,aV,idx]) ?_
  rintro x fp ⟨x,hxp,rfl,rfl⟩
  have uV:aB (L++[x]):=(oh _ _).2 ⟨hL,(rv _ _).2 ⟨hxp,mb⟩⟩
  generalize uO:L++[x]=L1 at uV
  have EO:L1.length=L.length+1:=by subst uO;simp
  refine⟨_,_,_,rfl,by simp,uV,?_⟩
  simp
  obtain⟨d2,⟨g2,_⟩,hS⟩:=Ey (d:=tu d1 r2) (ps:=ps.set i p') (i:=i) (by simp;omega) (by simp[hi]) 1 d1.rules.ret uV
  have g2:tH 1 d1 ps d2 (ps.set i p'):=by
   have h0:tH 0 d1 ps (tu d1 r2) (ps.set i p'):=⟨by simp,by simp,rfl,rfl,rfl,n5.set hi td⟩
   exact(h0.trans g2).mono (by omega)
  have Du:d2.timers.length≤1000002:=by have:=g2.timers;omega
  refine al.mo KB (KB+1) (KB+2) hS (by simp) (by simp[List.map_set]) (by simp) (by simp) uV (by simp[ae,ab,bj,idx]) (by simp[aO,aI,aV,idx]) ?_
  rintro x fp ⟨rfl,rfl⟩
  refine⟨_,_,_,rfl,by simp,uV,?_⟩
  simp
  obtain⟨d3,⟨g3,_⟩,hT3⟩:=Ex (d:=d2) (ps:=ps.set i p') (i:=i) (by omega) (by simp[hi]) uV
  refine al.mo KB (KB+1) (KB+2) hT3 (by simp) (by simp[List.map_set]) (by simp) (by simp) uV (by simp[ae,ab,bj,idx]) (by simp[aO,aI,aV,idx]) ?_
  rintro x fp ⟨rfl,rfl⟩
  refine⟨_,_,_,rfl,by simp,uV,?_⟩
  simp
  refine aM.with [] [KB,KB+1,KB+2] ?_
  simp[fx,uV.refs,uV.aI,ah]
  exact⟨_,_,(((g0.trans g1).trans g2).trans g3).mono (by omega),L1,uV,by omega,by simp⟩
end Go.Ab
end Q8s
namespace Go.Ab
open Go.Ab
def aiU:List Spec:=⟨I.aU,[(.sl 1 [(uS .u8 4),(uS .u8 4),(uS .u8 8),(uS .u8 48)] false)],.own 1 (uL .u8 64)⟩::aiE
theorem asX:aA Pg aiU:=ax aiF [] [] (by kernel_rfl)
def aiV:List Spec:=⟨I.aU,[(.sl 1 [(uS .u8 4),(uS .u8 4),(uS .u8 8),(uS .u8 64)] false)],.own 1 (uL .u8 80)⟩::aiU
theorem asY:aA Pg aiV:=ax asX [] [] (by kernel_rfl)
def aiW:List Spec:=⟨I.aU,[(.sl 1 [(uS .u8 4),(uS .u8 4),(uS .u8 8),(uS .u8 80)] false)],.own 1 (uL .u8 96)⟩::aiV
theorem asZ:aA Pg aiW:=ax asY [] [] (by kernel_rfl)
def aiX:List Spec:=⟨I.aU,[(.sl 1 [(uS .u8 4),(uS .u8 4),(uS .u8 8),(uS .u8 96)] false)],.own 1 (uL .u8 112)⟩::aiW
theorem as0:aA Pg aiX:=ax asZ [] [] (by kernel_rfl)
def aiY:Spec:=⟨I.bZ,[(.st 3 [(uI .u32),(uI .u64),(uS .u8 48)])],.gen (.tup [(.rs KB [] 0 64 64 1 .tip),(uI .i64)]) 1 (uL .u8 64)⟩
def aiZ:List Spec:=aiY::aiX
theorem ai0:aA Pg aiZ:=ax as0 [15,18,22] [] (by kernel_rfl)
def ai1:Spec:=⟨I.bZ,[(.st 3 [(uI .u32),(uI .u64),(uS .u8 64)])],.gen (.tup [(.rs KB [] 0 80 80 1 .tip),(uI .i64)]) 1 (uL .u8 80)⟩
def ai2:List Spec:=ai1::aiZ
theorem ai3:aA Pg ai2:=ax ai0 [15,18,22] [] (by kernel_rfl)
def ai4:Spec:=⟨I.bZ,[(.st 3 [(uI .u32),(uI .u64),(uS .u8 80)])],.gen (.tup [(.rs KB [] 0 96 96 1 .tip),(uI .i64)]) 1 (uL .u8 96)⟩
def ai5:List Spec:=ai4::ai2
theorem ai6:aA Pg ai5:=ax ai3 [15,18,22] [] (by kernel_rfl)
def ai7:Spec:=⟨I.bZ,[(.st 3 [(uI .u32),(uI .u64),(uS .u8 96)])],.gen (.tup [(.rs KB [] 0 112 112 1 .tip),(uI .i64)]) 1 (uL .u8 112)⟩
def ai8:List Spec:=ai7::ai5
theorem ai9:aA Pg ai8:=ax ai6 [15,18,22] [] (by kernel_rfl)
end Go.Ab
noncomputable section Q9s
namespace Go.Ab
open Go.Ab
theorem as1 (n:Int):∃c:List Int,c.length=12∧bB Pg I.ly [.int .u64 n] (.ar 1 12 (jb c)):=by
 obtain⟨_,v,h1,h2⟩:=S65 z65 (.head _) [.int .u64 n] ⟨by simp[uI,gm],trivial⟩
 obtain⟨c,hc,rfl⟩:=nD h1
 exact⟨c,hc,h2⟩
theorem Ez:gm (.sl 0 [] false) (.sl 0 [] false):=by simp[gm,bT]
theorem aja {k:PV} (hk:gm (uA .u8 32) k) {c p:List Int} (hc:c.length=12) (hp:p.length=32∨p.length=48∨p.length=64∨p.length=80):∃b:List Int,b.length=p.length+16∧sk Pg I.gE [k,.ar 1 12 (jb c),bS p,.sl 0 [] false] 1 (jb b):=by
 rcases hp with hp|hp|hp|hp
 ·obtain⟨_,m,h1,h2⟩:=aid aib (.head _) [k,.ar 1 12 (jb c),bS p,.sl 0 [] false] ⟨hk,tI hc,oZ hp,Ez,trivial⟩
  obtain⟨b,hb,rfl⟩:=pM h1
  exact⟨b,by omega,h2⟩
 ·obtain⟨_,m,h1,h2⟩:=aih aie (.head _) [k,.ar 1 12 (jb c),bS p,.sl 0 [] false] ⟨hk,tI hc,oZ hp,Ez,trivial⟩
  obtain⟨b,hb,rfl⟩:=pM h1
  exact⟨b,by omega,h2⟩
 ·obtain⟨_,m,h1,h2⟩:=aik aii (.head _) [k,.ar 1 12 (jb c),bS p,.sl 0 [] false] ⟨hk,tI hc,oZ hp,Ez,trivial⟩
  obtain⟨b,hb,rfl⟩:=pM h1
  exact⟨b,by omega,h2⟩
 ·obtain⟨_,m,h1,h2⟩:=ain ail (.head _) [k,.ar 1 12 (jb c),bS p,.sl 0 [] false] ⟨hk,tI hc,oZ hp,Ez,trivial⟩
  obtain⟨b,hb,rfl⟩:=pM h1
  exact⟨b,by omega,h2⟩
theorem as2 (r c:Int) {b:List Int} (hb:b.length=48∨b.length=64∨b.length=80∨b.length=96):∃(x:List Int) (e:Int),bB Pg I.bZ [.st 3 [.int .u32 r,.int .u64 c,bS b]] (.tup [bS x,.int .i64 e]):=by
 rcases hb with hb|hb|hb|hb
 ·obtain⟨_,v,m,h,hm,h2⟩:=ai0 aiY (.head _) [.st 3 [.int .u32 r,.int .u64 c,bS b]] ⟨⟨rfl,by simp[uI,gm],by simp[uI,gm],oZ hb,trivial⟩,trivial⟩
  obtain⟨ms,rfl,g⟩:=s8 h
  obtain⟨x1,ms,rfl,h1,h⟩:=gr g
  obtain⟨x2,ms,rfl,he,h⟩:=gr h
  obtain rfl:=pL h
  obtain⟨e,rfl⟩:=Db he
  obtain⟨l,EO,rfl⟩:=pM hm
  simp only[gm]at h1
  subst h1
  refine⟨l,e,?_⟩
  have this:bB Pg I.bZ [.st 3 [.int .u32 r,.int .u64 c,bS b]] _:=af.ON h2 (ik l)
  simpa[gq,im,EO,bS,(ik l).gq,tJ]using this
 ·obtain⟨_,v,m,h,hm,h2⟩:=ai3 ai1 (.head _) [.st 3 [.int .u32 r,.int .u64 c,bS b]] ⟨⟨rfl,by simp[uI,gm],by simp[uI,gm],oZ hb,trivial⟩,trivial⟩
  obtain⟨ms,rfl,g⟩:=s8 h
  obtain⟨x1,ms,rfl,h1,h⟩:=gr g
  obtain⟨x2,ms,rfl,he,h⟩:=gr h
  obtain rfl:=pL h
  obtain⟨e,rfl⟩:=Db he
  obtain⟨l,EO,rfl⟩:=pM hm
  simp only[gm]at h1
  subst h1
  refine⟨l,e,?_⟩
  have this:bB Pg I.bZ [.st 3 [.int .u32 r,.int .u64 c,bS b]] _:=af.ON h2 (ik l)
  simpa[gq,im,EO,bS,(ik l).gq,tJ]using this
 ·obtain⟨_,v,m,h,hm,h2⟩:=ai6 ai4 (.head _) [.st 3 [.int .u32 r,.int .u64 c,bS b]] ⟨⟨rfl,by simp[uI,gm],by simp[uI,gm],oZ hb,trivial⟩,trivial⟩
  obtain⟨ms,rfl,g⟩:=s8 h
  obtain⟨x1,ms,rfl,h1,h⟩:=gr g
  obtain⟨x2,ms,rfl,he,h⟩:=gr h
  obtain rfl:=pL h
  obtain⟨e,rfl⟩:=Db he
  obtain⟨l,EO,rfl⟩:=pM hm
  simp only[gm]at h1
  subst h1
  refine⟨l,e,?_⟩
  have this:bB Pg I.bZ [.st 3 [.int .u32 r,.int .u64 c,bS b]] _:=af.ON h2 (ik l)
  simpa[gq,im,EO,bS,(ik l).gq,tJ]using this
 ·obtain⟨_,v,m,h,hm,h2⟩:=ai9 ai7 (.head _) [.st 3 [.int .u32 r,.int .u64 c,bS b]] ⟨⟨rfl,by simp[uI,gm],by simp[uI,gm],oZ hb,trivial⟩,trivial⟩
  obtain⟨ms,rfl,g⟩:=s8 h
  obtain⟨x1,ms,rfl,h1,h⟩:=gr g
  obtain⟨x2,ms,rfl,he,h⟩:=gr h
  obtain rfl:=pL h
  obtain⟨e,rfl⟩:=Db he
  obtain⟨l,EO,rfl⟩:=pM hm
  simp only[gm]at h1
  subst h1
  refine⟨l,e,?_⟩
  have this:bB Pg I.bZ [.st 3 [.int .u32 r,.int .u64 c,bS b]] _:=af.ON h2 (ik l)
  simpa[gq,im,EO,bS,(ik l).gq,tJ]using this
theorem Tb {n:Nat} (h1:17≤n) (h2:n≤80):n+wD n=32∨n+wD n=48∨n+wD n=64∨n+wD n=80:=by
 unfold wD;omega
theorem ajb {s:j9} {limit:Int} {l:List Int} (h1:17≤l.length) (h2:l.length≤80) (hn:s.next<min (min s.iI limit) 18446744073709543423):
  ∃b:List Int,bB Pg I.fU [fO s,.int .u64 limit,bS l] (.tup [fO {s with next:=IntKind.u64.wrap (s.next+1)},bS b,.int .i64 0]):=by
 obtain⟨c,hc,hC⟩:=as1 s.next
 have hP:=fo (l:=l) (by omega) (by omega)
 generalize hpd:l++List.replicate (wD l.length) 0=p at hP
 have rU:p.length=32∨p.length=48∨p.length=64∨p.length=80:=by
  subst hpd;simpa using Tb h1 h2
 obtain⟨b,hb,hS⟩:=aja (rI s.send.ok) hc rU
 obtain⟨x,e,hE⟩:=as2 s.rem s.next (b:=b) (by omega)
 refine⟨x,?_⟩
 refine af.intro T.fU (by simp[F.fU]) ?_
 have uO:¬(2000:Int)<l.length:=by omega
 have Dr:¬min s.iI (min limit 18446744073709543423)≤s.next:=by omega
 simp only[bS]at hP hS hE
 simp[F.fU,an,aG,bS,uO,Dr]
 refine a0.ret hC (by simp) (by simp) (by simp) ?_
 simp
 refine a0.ret (hP.gq (ik p)) (by simp) (by simp) (by simp) ?_
 simp
 refine a0.ret (hS.gq (ik b)) (by simp) (by simp) (by simp) ?_
 simp
 refine al.ret hE (by simp) (by simp) (by simp) ?_
 simp
 refine aM.plain [] ?_
 simp
theorem GF {d:bK} {ps:List dC} {i:Nat} (hi:i<ps.length) (ht:d.timers.length≤1000000) {L:List PV} (hL:aB L) (hl:L.length≤900) {l:List Int} (h1:17≤l.length) (h2:l.length≤80) (hu:Lu d ps[i]=true):
  ∃
   d' p' L',(tH 1 d ps d' (ps.set i p')∧d'.aD=d.aD)∧p'.aW=ps[i].aW∧aB L'∧L'.length=L.length+1∧
   af Pg I.bV [.pt KB [] 0,.int .i64 i,bS l] (MB d ps L) (λr fp=>r= .tup []∧fp=MB d' (ps.set i p') L'):=by
 have hx:ps[i]? =some ps[i]:=gJ hi
 have hn:ps[i].ring.c.iO.next<min (min ps[i].ring.c.iO.iI d.rules.uj) 18446744073709543423:=by
  simp only[Lu,wE,aJ,decide_eq_true_eq]at hu
  exact hu.2.2
 obtain⟨b,hS⟩:=ajb h1 h2 hn
 generalize hp:({ps[i]with ring:= {ps[i].ring with c:= {ps[i].ring.c with iO:= {ps[i].ring.c.iO with next:=IntKind.u64.wrap (ps[i].ring.c.iO.next+1)}}}}:dC)=p'
 have td:xO ps[i] p':=by subst hp;exact⟨rfl,rfl,rfl,.refl _,⟨rfl,rfl⟩,.refl _,List.suffix_refl _⟩
 have tv:p'.aW=ps[i].aW:=by subst hp;rfl
 have hox:Pure (PV.st 86 [.int .i64 1,ji ps[i].ep,eF ps[i].gC,ps[i].ring.c.iO.send.p,.int .u64 ps[i].ring.c.iO.next,.sl 1 (jb b) false,.str []]):=by simp
 have uV:aB (L++[PV.st 86 [.int .i64 1,ji ps[i].ep,eF ps[i].gC,ps[i].ring.c.iO.send.p,.int .u64 ps[i].ring.c.iO.next,.sl 1 (jb b) false,.str []]]):=(oh _ _).2 ⟨hL,(rv _ _).2 ⟨hox,mb⟩⟩
 obtain⟨d',hG,hT⟩:=Ex (d:=d) (ps:=ps.set i p') (i:=i) (by omega) (by simp[hi]) uV
 refine⟨d',p',L++[PV.st 86 [.int .i64 1,ji ps[i].ep,eF ps[i].gC,ps[i].ring.c.iO.send.p,.int .u64 ps[i].ring.c.iO.next,.sl 1 (jb b) false,.str []]],⟨?_,hG.2⟩,tv,uV,by simp,?_⟩
 ·have h0:tH 0 d ps d (ps.set i p'):=⟨by omega,by omega,rfl,rfl,rfl,n5.set hi td⟩
  exact(h0.trans hG.1).mono (by omega)
 refine af.intro T.bV (by simp[F.bV]) ?_
 simp only[bS]at hS
 simp[F.bV,an,aG,MB,hi,bS]
 refine ny.run [] rfl ?_
 simp
 refine a0.ret hS (by simp) (by simp) (by simp) ?_
 simp[hi,hp]
 have hep:p'.ep=ps[i].ep:=by subst hp;rfl
 have uU:p'.gC=ps[i].gC:=by subst hp;rfl
 refine ny.run [] rfl ?_
 simp[hi,hep,uU]
 refine⟨⟨by omega,by omega⟩,?_⟩
 refine al.mo KB (KB+1) (KB+2) hT (by simp) (by simp[List.map_set]) (by simp) (by simp) uV (by simp[ae,ab,bj,idx]) (by simp[aO,aI,aV,idx]) ?_
 rintro x fp ⟨rfl,rfl⟩
 refine⟨_,_,_,rfl,by simp,uV,?_⟩
 simp
 refine aM.with [] [KB,KB+1,KB+2] ?_
 simp[fx,uV.refs,uV.aI,ah]
end Go.Ab
end Q9s
noncomputable section Q10s
namespace Go.Ab
open Go.Ab
def Wh:Nat->dc->dc
 |0,.seq x y=> .seqm x y
 |n+1,.seq x y=> .seq x (Wh n y)
 |_,c=>c
theorem OP:∀(n:Nat) (c:dc),erase (Wh n c)=erase c
 |0,.seq x y=>rfl
 |n+1,.seq x y=>by simp only[Wh,erase,OP n y]
 |0,.skip|0,.region _|0,.regionD .. |0,.regionE .. |0,.cond .. |0,.block .. |0,.loop _|0,.exit _|0,.ret|0,.seqm .. |0,.rangeF .. =>rfl
 |_+1,.skip|_+1,.region _|_+1,.regionD .. |_+1,.regionE .. |_+1,.cond .. |_+1,.block .. |_+1,.loop _|_+1,.exit _|_+1,.ret|_+1,.seqm .. |_+1,.rangeF .. =>rfl
theorem OQ {own sp:List Nat} {f:FuncId} {A:cY} (n:Nat) (h:kJ Pg own sp f=some A.er):kJ Pg own sp f=some (cY.er ⟨A.nt,A.res,Wh n A.code⟩):=by
 rw[h];simp only[cY.er,OP]
theorem Up.of {P:Program} {s:St} {x y:dc} {Q:Exit->St->Prop} {t:Tg (x,y,Q)} (M:St->Prop) (h1:aw P x (zh Q λs'=>∃c:List Cut,iu c s' M) s) (h2:∀s',M s'->aw P y Q s'):Up P x y Q t s:=⟨M,h1,h2⟩
def Tc (n m:Nat) (d:bK) (ps:List dC) (L:List PV) (r:PV) (fp:List bh):Prop:=r= .tup []∧∃d' tO L',tH n d ps d' tO∧aB L'∧L'.length≤L.length+m∧fp=MB d' tO L'
theorem GG {d:bK} {ps:List dC} {i:Nat} (hi:i<ps.length) (hs:d.aD.length<32) (hb:∀s∈d.aD,s.index≤1000) (ht:d.timers.length≤1000000) {L:List PV} (hL:aB L) (hl:L.length≤900):
  af Pg I.aY [.pt KB [] 0,.int .i64 i] (MB d ps L) (Tc 4 1 d ps L):=by
 by_cases hh:ps[i].hand.has=true
 ·exact Cl hi hs hb ht hL hl hh
 ·exact Ck hi hs hb ht hL hl (by simpa using hh)
theorem jL {n m:Nat} {d e:bK} {ps qs:List dC} {L N:List PV} (h:tH n d ps e qs) (hN:aB N) (hl:N.length≤L.length+m):Tc n m d ps L (.tup []) (MB e qs N):=⟨rfl,e,qs,N,h,hN,hl,rfl⟩
theorem pd {d:bK} {ps:List dC} {i:Nat} (hi:i<ps.length) (hs:d.aD.length<32) (hb:∀s∈d.aD,s.index≤1000) (ht:d.timers.length≤1000000) {L:List PV} (hL:aB L) (hl:L.length≤900):
  af Pg I.gV [.pt KB [] 0,.int .i64 i] (MB d ps L) (Tc 4 1 d ps L):=by
 have hx:ps[i]? =some ps[i]:=gJ hi
 refine af.intro T.sD (by simp[F.sD]) ?_
 have hI:=GG hi hs hb ht hL hl
 by_cases h1:ps[i].lF=true
 ·by_cases h2:ps[i].hand.has=true
  ·by_cases h3:IntKind.i64.wrap (d.now-ps[i].hand.Oe)<d.rules.ret
   ·simp[F.sD,an,aG,MB,hi,h1,h2,h3]
    refine aM.with [] [KB,KB+1,KB+2] ?_
    simp[fx,hL.refs,hL.aI,ah]
    exact jL (.refl _ _ _) hL (by omega)
   ·simp[F.sD,an,aG,MB,hi,h1,h2,h3]
    refine al.mo KB (KB+1) (KB+2) hI (by simp) (by simp) (by simp) (by simp) hL (by simp[ae,ab,bj,idx]) (by simp[aO,aI,aV,idx]) ?_
    rintro r fp ⟨rfl,d',tO,L',hG,mK,rT,rfl⟩
    refine⟨_,_,_,rfl,by simp,mK,?_⟩
    simp
    refine aM.with [] [KB,KB+1,KB+2] ?_
    simp[fx,mK.refs,mK.aI,ah]
    exact jL hG mK rT
  ·simp[F.sD,an,aG,MB,hi,h1,h2]
   refine al.mo KB (KB+1) (KB+2) hI (by simp) (by simp) (by simp) (by simp) hL (by simp[ae,ab,bj,idx]) (by simp[aO,aI,aV,idx]) ?_
   rintro r fp ⟨rfl,d',tO,L',hG,mK,rT,rfl⟩
   refine⟨_,_,_,rfl,by simp,mK,?_⟩
   simp
   refine aM.with [] [KB,KB+1,KB+2] ?_
   simp[fx,mK.refs,mK.aI,ah]
   exact jL hG mK rT
 ·simp[F.sD,an,aG,MB,hi,h1]
  refine aM.with [] [KB,KB+1,KB+2] ?_
  simp[fx,hL.refs,hL.aI,ah]
  exact jL (.refl _ _ _) hL (by omega)
end Go.Ab
end Q10s
noncomputable section Q11s
namespace Go.Ab
open Go.Ab
theorem JI (b:List UInt8):eN b=bS (b.map λx=>(x.toNat:Int)):=by simp[eN,bS,jb,u8]
theorem EA {d:bK} {ps:List dC} {i:Nat} (hi:i<ps.length) (ht:d.timers.length≤1000000) {L:List PV} (hL:aB L) (hl:L.length≤900) {l:List UInt8} (h1:17≤l.length) (h2:l.length≤80) (hu:Lu d ps[i]=true):
  ∃
   d' p' L',(tH 1 d ps d' (ps.set i p')∧d'.aD=d.aD)∧p'.aW=ps[i].aW∧aB L'∧L'.length=L.length+1∧
   af Pg I.bV [.pt KB [] 0,.int .i64 i,eN l] (MB d ps L) (λr fp=>r= .tup []∧fp=MB d' (ps.set i p') L'):=by
 rw[JI];exact GF hi ht hL hl (by simpa using h1) (by simpa using h2) hu
theorem tH.Qo {n:Nat} {d e:bK} {qs:List dC} {i:Nat} (hi:i<qs.length) {p':dC} {b:List UInt8} {r:List (List UInt8)} (h:tH n d qs e (qs.set i p')) (hs:p'.aW=b::r):tH n d qs e (qs.set i {p' with aW:=r}):=by
 obtain⟨q,hq,hp⟩:=h.yV.2 i _ (gJ hi)
 have hqp:q=p':=by simpa[hi]using hq.symm
 subst hqp
 refine⟨h.timers,h.aD,h.bn,h.bD,h.buckets,n5.set hi (hp.trans ⟨rfl,rfl,rfl,.refl _,.refl _,.refl _,?_⟩)⟩
 rw[hs];exact⟨[b],rfl⟩
structure Fls (d:bK) (ps:List dC) (L:List PV) (i j:Nat) (e:bK) (qs:List dC) (N:List PV):Prop where
 g:tH j d ps e qs
 sl:e.aD=d.aD
 st:∀(h:i<qs.length) (h':i<ps.length),qs[i].aW=ps[i].aW.drop j
 nL:aB N
 nl:N.length≤L.length+j
def Td (i n:Nat) (e:bK) (qs:List dC) (N:List PV):St:=⟨[(0,.pt KB [] 0),(1,.int .i64 i),(4,.pt (KB+1) [.i i 464] n)],[(KB,.box (zG e (KB+1) qs.length (KB+2) N.length)),(KB+1,.arr 464 (qs.map aC)),(KB+2,.arr 86 N)]⟩
noncomputable def F.Bw:cY:=⟨F.sE.nt,F.sE.res,Wh 3 F.sE.code⟩
theorem T.Bw:kJ Pg [80] [124,125] I.gW=some F.Bw.er:=OQ 3 T.sE
theorem OR {d:bK} {ps:List dC} {i:Nat} (hi:i<ps.length) (hs:d.aD.length<32) (hb:∀s∈d.aD,s.index≤1000) (ht:d.timers.length≤900000) {L:List PV} (hL:aB L) (hl:L.length≤100)
  (yd:ps[i].aW.length≤100) (Dp:∀b∈ps[i].aW,17≤b.length∧b.length≤80):
  af Pg I.gW [.pt KB [] 0,.int .i64 i] (MB d ps L) (Tc 120 120 d ps L):=by
 have hx:ps[i]? =some ps[i]:=gJ hi
 refine af.intro T.Bw (by simp[F.Bw,F.sE]) ?_
 simp[F.Bw,F.sE,Wh,an,aG,MB,hi]
 refine⟨λ_=> ?_,λhep fB=> ?_⟩
 ·refine aM.with [] [KB,KB+1,KB+2] ?_
  simp[fx,hL.refs,hL.aI,ah]
  exact jL (.refl _ _ _) hL (by omega)
 refine al.mo KB (KB+1) (KB+2) (C9 d hi hL) (by simp) (by simp) (by simp) (by simp) hL (by simp[ae,ab,bj,idx]) (by simp[aO,aI,aV,idx]) ?_
 rintro r fp ⟨rfl,rfl⟩
 refine⟨_,_,_,rfl,by simp,hL,?_⟩
 simp
 refine⟨λhu=> ?_,λhu=> ?_⟩
 ·refine al.mo KB (KB+1) (KB+2) (pd hi hs hb (by omega) hL (by omega)) (by simp) (by simp) (by simp) (by simp) hL (by simp[ae,ab,bj,idx]) (by simp[aO,aI,aV,idx]) ?_
  rintro r fp ⟨rfl,d',tO,L',hG,mK,rT,rfl⟩
  refine⟨_,_,_,rfl,by simp,mK,?_⟩
  simp
  refine aM.with [] [KB,KB+1,KB+2] ?_
  simp[fx,mK.refs,mK.aI,ah]
  exact jL (hG.mono (by omega)) mK (by omega)
 refine Up.of (λs'=>∃j e qs N,Fls d ps L i j e qs N∧j≤ps[i].aW.length∧s'=Td i ps.length e qs N) ?_ ?_
 ·simp
  refine jh.ko ps[i].aW.length (d,ps,L) (λj y=>Fls d ps L i j y.1 y.2.1 y.2.2) [0,1,4] (λ_ _=>[]) (λj y=>[(KB,.box (zG y.1 (KB+1) y.2.1.length (KB+2) y.2.2.length)),(KB+1,.arr 464 (y.2.1.map aC)),(KB+2,.arr 86 y.2.2)]) [.keep [0,1,4]] ?_
  simp
  refine⟨⟨.refl _ _ _,rfl,by simp,hL,by omega⟩,?_,?_⟩
  ·intro j e qs N hj hF K hK
   have hlen:=hF.g.yV.1
   have lO:i<qs.length:=by omega
   have hxq:qs[i]? =some qs[i]:=gJ lO
   have hsj:=hF.st lO hi
   obtain⟨b,r,hbr,hr,hbm⟩:∃b r,qs[i].aW=b::r∧r=ps[i].aW.drop (j+1)∧b∈ps[i].aW:=⟨ps[i].aW[j],_,by rw[hsj];exact List.drop_eq_getElem_cons hj,rfl,List.getElem_mem hj⟩
   simp[↓av,hxq,hlen,hbr]
   refine al.mo KB (KB+1) (KB+2) (C9 e lO hF.nL) (by simp[hlen]) (by simp) (by simp) (by simp) hF.nL (by simp[ae,ab,bj,idx]) (by simp[aO,aI,aV,idx]) ?_
   rintro r0 fp ⟨rfl,rfl⟩
   refine⟨_,_,_,rfl,by simp,hF.nL,?_⟩
   simp[hlen]
   refine⟨λhu=> ?_,λhu=> ?_⟩
   ·obtain⟨e',p',N',hG,awN,hN',aDp,hT⟩:=EA lO (by have:=hF.g.timers;omega) hF.nL (by have:=hF.nl;omega) (Dp b hbm).1 (Dp b hbm).2 hu
    have ano:p'.aW=b::r:=by rw[awN,hbr]
    simp[lO,hbr]
    refine al.mo KB (KB+1) (KB+2) hT (by simp[hlen]) (by simp) (by simp) (by simp) hF.nL (by simp[ae,ab,bj,idx]) (by simp[aO,aI,aV,idx]) ?_
    rintro r0 fp ⟨rfl,rfl⟩
    refine⟨_,_,_,rfl,by simp,hN',?_⟩
    have es:PV.sl 1 (r.map eN) false=gI r:=rfl
    have eb:gI (b::r)= .sl 1 ((b::r).map eN) false:=rfl
    simp[hlen,hi,ano,eb,es]
    refine⟨by omega,[.keep [0,1,4]],?_⟩
    simp
    refine hK e' (qs.set i {p' with aW:=r}) N' _ (by simp[hlen,List.map_set]) ?_
    refine⟨(hF.g.trans (hG.1.Qo lO ano)),hG.2.trans hF.sl,λh h'=>by simp[hr],hN',by have:=hF.nl;omega⟩
   ·refine⟨[.keep [0,1,4]],?_⟩
    simp
    exact⟨j,e,qs,N,hF,by omega,by simp[Td,hlen]⟩
  ·intro e qs N hF K
   have hlen:=hF.g.yV.1
   have lO:i<qs.length:=by omega
   have hxq:qs[i]? =some qs[i]:=gJ lO
   have hsj:qs[i].aW=[]:=by rw[hF.st lO hi];simp
   simp[↓av,hxq,hlen,hsj]
   refine⟨[.keep [0,1,4]],?_⟩
   simp
   exact⟨_,e,qs,N,hF,by omega,by simp[Td,hlen]⟩
 ·rintro s' ⟨j,e,qs,N,hF,hj,rfl⟩
  have hlen:=hF.g.yV.1
  have lO:i<qs.length:=by omega
  have hxq:qs[i]? =some qs[i]:=gJ lO
  have hNl:=hF.nl
  have htt:=hF.g.timers
  have hN:=hF.nL
  simp[Td,↓av]
  refine al.mo KB (KB+1) (KB+2) (Zj (d:=e) (by omega) lO 2 hF.nL) (by simp[hlen]) (by simp[hlen]) (by simp) (by simp) hF.nL (by simp[ae,ab,bj,idx]) (by simp[aO,aI,aV,idx]) ?_
  rintro r0 fp ⟨rfl,rfl⟩
  refine⟨_,_,_,rfl,by simp,hF.nL,?_⟩
  simp
  refine⟨λhh=> ?_,λhh=> ?_⟩
  ·obtain⟨e1,⟨hG1,yG⟩,hS⟩:=Ey (d:=e) (ps:=qs) (i:=i) (by omega) lO 2 (IntKind.i64.wrap (e.rules.RL+e.rules.ret)) hN
   refine al.mo KB (KB+1) (KB+2) hS (by simp[hlen]) (by simp[hlen]) (by simp) (by simp) hN (by simp[ae,ab,bj,idx]) (by simp[aO,aI,aV,idx]) ?_
   rintro r0 fp ⟨rfl,rfl⟩
   refine⟨_,_,_,rfl,by simp,hN,?_⟩
   have hg1:=hG1.timers
   simp
   obtain⟨e2,⟨hG2,yZ⟩,hC⟩:=Bv (d:=e1) (ps:=qs) (i:=i) (by omega) lO 3 hN
   refine al.mo KB (KB+1) (KB+2) hC (by simp[hlen]) (by simp[hlen]) (by simp) (by simp) hN (by simp[ae,ab,bj,idx]) (by simp[aO,aI,aV,idx]) ?_
   rintro r0 fp ⟨rfl,rfl⟩
   refine⟨_,_,_,rfl,by simp,hN,?_⟩
   have QD:e2.aD.length<32:=by rw[yZ,yG,hF.sl];exact hs
   have hb3:∀s∈e2.aD,s.index≤1000:=by rw[yZ,yG,hF.sl];exact hb
   have GY:=((hF.g.trans hG1).trans hG2)
   have hg2:=GY.timers
   by_cases a:qs[i].aW=[]
   ·by_cases b:qs[i].ring.c.iO.next<e2.rules.yT
    ·have b':¬e2.rules.yT≤qs[i].ring.c.iO.next:=by omega
     by_cases c:qs[i].ring.c.iO.Oa=true
     ·simp[hlen,hi,a,b',c]
      refine a0.ret (dA qs[i].ring.c.iO e2.now) (by simp) (by simp) (by simp) ?_
      simp
      refine⟨λf=> ?_,λf=> ?_⟩
      ·refine al.mo KB (KB+1) (KB+2) (pd (d:=e2) (ps:=qs) lO QD hb3 (by omega) hN (by omega)) (by simp[hlen]) (by simp) (by simp) (by simp) hN (by simp[ae,ab,bj,idx]) (by simp[aO,aI,aV,idx]) ?_
       rintro r0 fp ⟨rfl,d',tO,L',hG,mK,rT,rfl⟩
       refine⟨_,_,_,rfl,by simp,mK,?_⟩
       simp
       refine aM.with [] [KB,KB+1,KB+2] ?_
       simp[fx,mK.refs,mK.aI,ah]
       exact jL ((GY.trans hG).mono (by omega)) mK (by omega)
      ·refine aM.with [] [KB,KB+1,KB+2] ?_
       simp[fx,hN.refs,hN.aI,ah]
       rw[←hlen];exact jL (GY.mono (by omega)) hN (by omega)
     ·simp[hlen,hi,a,b',c]
      refine aM.with [] [KB,KB+1,KB+2] ?_
      simp[fx,hN.refs,hN.aI,ah]
      rw[←hlen];exact jL (GY.mono (by omega)) hN (by omega)
    ·have b':e2.rules.yT≤qs[i].ring.c.iO.next:=by omega
     simp[hlen,hi,a,b']
     refine al.mo KB (KB+1) (KB+2) (pd (d:=e2) (ps:=qs) lO QD hb3 (by omega) hN (by omega)) (by simp[hlen]) (by simp) (by simp) (by simp) hN (by simp[ae,ab,bj,idx]) (by simp[aO,aI,aV,idx]) ?_
     rintro r0 fp ⟨rfl,d',tO,L',hG,mK,rT,rfl⟩
     refine⟨_,_,_,rfl,by simp,mK,?_⟩
     simp
     refine aM.with [] [KB,KB+1,KB+2] ?_
     simp[fx,mK.refs,mK.aI,ah]
     exact jL ((GY.trans hG).mono (by omega)) mK (by omega)
   ·have a':0<qs[i].aW.length:=by cases h:qs[i].aW with|nil=>exact absurd h a|cons=>simp
    simp[hlen,hi,a']
    refine al.mo KB (KB+1) (KB+2) (pd (d:=e2) (ps:=qs) lO QD hb3 (by omega) hN (by omega)) (by simp[hlen]) (by simp) (by simp) (by simp) hN (by simp[ae,ab,bj,idx]) (by simp[aO,aI,aV,idx]) ?_
    rintro r0 fp ⟨rfl,d',tO,L',hG,mK,rT,rfl⟩
    refine⟨_,_,_,rfl,by simp,mK,?_⟩
    simp
    refine aM.with [] [KB,KB+1,KB+2] ?_
    simp[fx,mK.refs,mK.aI,ah]
    exact jL ((GY.trans hG).mono (by omega)) mK (by omega)
  ·obtain⟨e2,⟨hG2,yZ⟩,hC⟩:=Bv (d:=e) (ps:=qs) (i:=i) (by omega) lO 3 hN
   refine al.mo KB (KB+1) (KB+2) hC (by simp[hlen]) (by simp[hlen]) (by simp) (by simp) hN (by simp[ae,ab,bj,idx]) (by simp[aO,aI,aV,idx]) ?_
   rintro r0 fp ⟨rfl,rfl⟩
   refine⟨_,_,_,rfl,by simp,hN,?_⟩
   have QD:e2.aD.length<32:=by rw[yZ,hF.sl];exact hs
   have hb3:∀s∈e2.aD,s.index≤1000:=by rw[yZ,hF.sl];exact hb
   have GY:=(hF.g.trans hG2)
   have hg2:=GY.timers
   by_cases a:qs[i].aW=[]
   ·by_cases b:qs[i].ring.c.iO.next<e2.rules.yT
    ·have b':¬e2.rules.yT≤qs[i].ring.c.iO.next:=by omega
     by_cases c:qs[i].ring.c.iO.Oa=true
     ·simp[hlen,hi,a,b',c]
      refine a0.ret (dA qs[i].ring.c.iO e2.now) (by simp) (by simp) (by simp) ?_
      simp
      refine⟨λf=> ?_,λf=> ?_⟩
      ·refine al.mo KB (KB+1) (KB+2) (pd (d:=e2) (ps:=qs) lO QD hb3 (by omega) hN (by omega)) (by simp[hlen]) (by simp) (by simp) (by simp) hN (by simp[ae,ab,bj,idx]) (by simp[aO,aI,aV,idx]) ?_
       rintro r0 fp ⟨rfl,d',tO,L',hG,mK,rT,rfl⟩
       refine⟨_,_,_,rfl,by simp,mK,?_⟩
       simp
       refine aM.with [] [KB,KB+1,KB+2] ?_
       simp[fx,mK.refs,mK.aI,ah]
       exact jL ((GY.trans hG).mono (by omega)) mK (by omega)
      ·refine aM.with [] [KB,KB+1,KB+2] ?_
       simp[fx,hN.refs,hN.aI,ah]
       rw[←hlen];exact jL (GY.mono (by omega)) hN (by omega)
     ·simp[hlen,hi,a,b',c]
      refine aM.with [] [KB,KB+1,KB+2] ?_
      simp[fx,hN.refs,hN.aI,ah]
      rw[←hlen];exact jL (GY.mono (by omega)) hN (by omega)
    ·have b':e2.rules.yT≤qs[i].ring.c.iO.next:=by omega
     simp[hlen,hi,a,b']
     refine al.mo KB (KB+1) (KB+2) (pd (d:=e2) (ps:=qs) lO QD hb3 (by omega) hN (by omega)) (by simp[hlen]) (by simp) (by simp) (by simp) hN (by simp[ae,ab,bj,idx]) (by simp[aO,aI,aV,idx]) ?_
     rintro r0 fp ⟨rfl,d',tO,L',hG,mK,rT,rfl⟩
     refine⟨_,_,_,rfl,by simp,mK,?_⟩
     simp
     refine aM.with [] [KB,KB+1,KB+2] ?_
     simp[fx,mK.refs,mK.aI,ah]
     exact jL ((GY.trans hG).mono (by omega)) mK (by omega)
   ·have a':0<qs[i].aW.length:=by cases h:qs[i].aW with|nil=>exact absurd h a|cons=>simp
    simp[hlen,hi,a']
    refine al.mo KB (KB+1) (KB+2) (pd (d:=e2) (ps:=qs) lO QD hb3 (by omega) hN (by omega)) (by simp[hlen]) (by simp) (by simp) (by simp) hN (by simp[ae,ab,bj,idx]) (by simp[aO,aI,aV,idx]) ?_
    rintro r0 fp ⟨rfl,d',tO,L',hG,mK,rT,rfl⟩
    refine⟨_,_,_,rfl,by simp,mK,?_⟩
    simp
    refine aM.with [] [KB,KB+1,KB+2] ?_
    simp[fx,mK.refs,mK.aI,ah]
    exact jL ((GY.trans hG).mono (by omega)) mK (by omega)
end Go.Ab
end Q11s
