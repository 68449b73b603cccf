/- Beginning a handshake, sending what waits. No condition. -/
import Derived.Test.YtdfkcobijmbidaaGreatQ1
import Derived.Test.YtdfkcobijmbidaaGreatC5
set_option maxRecDepth 100000
set_option maxHeartbeats 2000000
set_option linter.all false
noncomputable section Q8s
namespace Go.Ab
open Go.Ab
theorem ah.NW {P:Program} {f:FuncId} {args:List PV} {sz:Nat} {l:List PV} {v:PV} (h:ah P f args [] (λr fp=>r=v∧fp=[.arr sz l])) (hl:aB l):bI P f args (gh KB sz l v):=by
 refine λΓ w vs h1 h2 h3 h4=>(h Γ w vs h1 h2 h3 h4).mono ?_
 rintro e w' ⟨v',r,kP,Γ',e1,⟨rfl,rfl⟩,e3,e4,e5,e6,e7,e8⟩
 have hg:get Γ'.bx KB=some (.arr sz l):=by rw[e5,fT];simp
 have hf:=GD e4 hg (hl.refs _)
 refine⟨v',_,[],{Γ' with bx:=iq (tj KB sz l) (del Γ'.bx KB)},e1,⟨rfl,rfl⟩,e3,yh e4 _ (λj blk fc hb=>(e4.blk j blk hb).gh hf),?_,e6.gh hf,?_,e8⟩
 ·rw[e5];simp[aG]
 ·refine⟨e7.heap,λb hb hm=> ?_,e7.ef,e7.size,λk blk hk=> ?_⟩
  ·obtain⟨k,blk,g1,g2⟩:=hm
   rw[e5]at g1
   simp[aG]at g1
  ·rw[h3]at hk;simp[aG]at hk
def R3:AV:= .st 141 [(uI .u32),(uA .u8 32),(uA .u8 48),(uA .u8 28),(uA .u8 16),(uA .u8 16)]
def wS (m:Int) (a b c d e:List Int):PV:= .st 141 [.int .u32 m,.ar 1 32 (iF a),.ar 1 48 (iF b),.ar 1 28 (iF c),.ar 1 16 (iF d),.ar 1 16 (iF e)]
theorem Vd {w:Nat} {l:List AV} {p:PV} (h:gm (.st w l) p):∃m,p= .st w m∧bH l m:=by
 cases p<;>simp only[gm]at h
 obtain⟨rfl,h⟩:=h
 exact⟨_,rfl,h⟩
theorem su {l:List AV} {p:PV} (h:gm (.tup l) p):∃m,p= .tup m∧bH l m:=by
 cases p<;>simp only[gm]at h
 exact⟨_,rfl,h⟩
theorem fM {a:AV} {l:List AV} {m:List PV} (h:bH (a::l) m):∃x r,m=x::r∧gm a x∧bH l r:=by
 match m,h with
 |x::r,h=>exact⟨x,r,rfl,h.1,h.2⟩
 |[],h=>simp[bH]at h
theorem oN {m:List PV} (h:bH [] m):m=[]:=by
 match m,h with
 |[],_=>rfl
 |_::_,h=>simp[bH]at h
def are (a b:List Int) (ha:a.length=32) (hb:b.length=32):FV Ka:=⟨.st 64 [.ar 1 32 (iF a),.ar 1 32 (iF b)],by simp[Ab.fits,qf,tY,ha,hb,yF,kE]⟩
def ahg (a:List Int) (ha:a.length=16):FV xO:=⟨.ar 1 16 (iF a),by simp[Ab.fits,qf,ha,yF]⟩
theorem R4 {p:PV} (hp:fits xO p=true):gm (uA .u8 16) p:=by
 cases p<;>simp[Ab.fits]at hp
 rename_i sz m L
 obtain⟨⟨h1,h2,h3⟩,h4⟩:=hp
 have e:sz=1:=by simpa[qf]using h1
 subst e h2
 simp only[uA,gm]
 refine⟨⟨trivial,trivial⟩,?_⟩
 have:=Hz h4
 rwa [h3]at this
theorem Yh {p:PV} (h:gm R3 p):∃m l1 l2 l3 l4 l5,p=wS m l1 l2 l3 l4 l5:=by
 unfold R3 at h
 obtain⟨m,rfl,g⟩:=Vd h
 obtain⟨x1,m,rfl,h1,h⟩:=fM g
 obtain⟨x2,m,rfl,h2,h⟩:=fM h
 obtain⟨x3,m,rfl,h3,h⟩:=fM h
 obtain⟨x4,m,rfl,h4,h⟩:=fM h
 obtain⟨x5,m,rfl,h5,h⟩:=fM h
 obtain⟨x6,m,rfl,h6,h⟩:=fM h
 obtain rfl:=oN h
 obtain⟨n,rfl⟩:=Ct h1
 obtain⟨l2,_,rfl⟩:=mN h2
 obtain⟨l3,_,rfl⟩:=mN h3
 obtain⟨l4,_,rfl⟩:=mN h4
 obtain⟨l5,_,rfl⟩:=mN h5
 obtain⟨l6,_,rfl⟩:=mN h6
 exact⟨n,l2,l3,l4,l5,l6,rfl⟩
theorem Ve {a b c:PV} (ha:gm (uA .u8 32) a) (hb:gm (uA .u8 32) b) (hc:gm (uA .u8 32) c) {s:List Int} (hs:s.length=12) (n:Int):∃(m:Int) (l1 l2 l3 l4 l5:List Int) (no:FV Ka) (e:Int),gm R3 (wS m l1 l2 l3 l4 l5)∧bI Pg I.ki [a,b,c,.ar 1 12 (iF s),.int .u32 n] (.tup [wS m l1 l2 l3 l4 l5,no.p,.int .i64 e]):=by
 obtain⟨_,v,h,h2⟩:=agX agV (.head _) [a,b,c,.ar 1 12 (iF s),.int .u32 n] ⟨ha,hb,hc,sV hs,by simp[uI,gm],trivial⟩
 obtain⟨m,rfl,g⟩:=su h
 obtain⟨x1,m,rfl,h1,h⟩:=fM g
 obtain⟨x2,m,rfl,hn,h⟩:=fM h
 obtain⟨x3,m,rfl,h3,h⟩:=fM h
 obtain rfl:=oN h
 have SE:=h1
 obtain⟨m,l1,l2,l3,l4,l5,rfl⟩:=Yh h1
 obtain⟨p,q,hp,hq,rfl⟩:=Vf hn
 obtain⟨e,rfl⟩:=Ct h3
 exact⟨m,l1,l2,l3,l4,l5,are p q hp hq,e,SE,h2⟩
theorem I0 {a:PV} (ha:gm (uA .u8 32) a) (b:Bool) (c:FV xO) {x:PV} (hx:gm R3 x):∃(l:List Int) (t:FV xO),bI Pg I.gp [a,.bl b,c.p,x] (.tup [.sl 1 (iF l) false,t.p]):=by
 obtain⟨_,v,m,h,hm,h2⟩:=ag4 ag2 (.head _) [a,.bl b,c.p,x] ⟨ha,by simp[gm],R4 c.ok,hx,trivial⟩
 obtain⟨ms,rfl,g⟩:=su h
 obtain⟨x1,ms,rfl,h1,h⟩:=fM g
 obtain⟨x2,ms,rfl,ht,h⟩:=fM h
 obtain rfl:=oN h
 obtain⟨t,hl,rfl⟩:=mN ht
 obtain⟨l,F4,rfl⟩:=oO hm
 simp only[gm]at h1
 subst h1
 refine⟨l,ahg t hl,?_⟩
 have this:bI Pg I.gp [a,.bl b,c.p,x] _:=ah.NW h2 (gM l)
 simpa[gh,gW,F4,ahg,(gM t).gh,(gM l).gh,tJ]using this
@[simp] theorem abQ (m:Int) (a b c d e:List Int):Pure (wS m a b c d e):=by simp[wS]
@[simp] theorem anU (m:Int) (a b c d e:List Int):wk (wS m a b c d e)=wS m a b c d e:=by simp[wS]
@[simp] theorem Yi (m:Int) (a b c d e:List Int):(wS m a b c d e).width=141:=_root_.id rfl
@[simp] theorem ahh (m:Int) (a b c d e:List Int):(wS m a b c d e).isAgg=true:=_root_.id rfl
@[simp] theorem abR (m:Int) (a b c d e:List Int):(wS m a b c d e).bj=true:=_root_.id rfl
@[simp↓] theorem ahi (g:Bool) (m:Int) (a b c d e:List Int) (K:PV->Prop):gN g (wS m a b c d e) K=K (wS m a b c d e):=_root_.id rfl
theorem ahj (n:Int):∃l:List Int,l.length=12∧bI Pg I.ed [.int .i64 n] (.ar 1 12 (iF l)):=by
 refine OfE (λn=> ?_) (λn=> ?_) n
 ·obtain⟨_,m,h1,h2⟩:=agR agP (.head _) [.int .u64 n,.int .i64 8] ⟨by simp[uI,gm],by simp[kI,gm],trivial⟩
  obtain⟨l,hl,rfl⟩:=oO h1
  exact⟨l,hl,h2⟩
 ·obtain⟨_,m,h1,h2⟩:=agU agS (.head _) [.int .u64 n,.int .i64 4] ⟨by simp[uI,gm],by simp[kI,gm],trivial⟩
  obtain⟨l,hl,rfl⟩:=oO h1
  exact⟨l,hl,h2⟩
@[simp] theorem abS (d:bU) (r:FV jJ):(sF d r).rules=d.rules:=rfl
@[simp] theorem ahk (d:bU) (r:FV jJ):(sF d r).oq=d.oq:=rfl
@[simp] theorem ahl (d:bU) (r:FV jJ):(sF d r).pS=d.pS:=rfl
@[simp] theorem ahm (d:bU) (r:FV jJ):(sF d r).port=d.port:=rfl
@[simp] theorem anV (d:bU) (r:FV jJ):(sF d r).now=d.now:=rfl
@[simp] theorem abT (d:bU) (r:FV jJ):(sF d r).aj=d.aj:=rfl
@[simp] theorem Yj (d:bU) (r:FV jJ):(sF d r).bD=d.bD:=rfl
@[simp] theorem abU (d:bU) (r:FV jJ):(sF d r).aM=d.aM:=rfl
@[simp] theorem Yk (d:bU) (r:FV jJ):(sF d r).timers=d.timers:=rfl
@[simp] theorem Yl (d:bU) (r:FV jJ):(sF d r).jr=d.jr:=rfl
@[simp] theorem abV (d:bU) (r:FV jJ):(sF d r).kU=d.kU:=rfl
@[simp] theorem Ym (d:bU) (r:FV jJ):(sF d r).cN=d.cN:=rfl
@[simp] theorem Vg (d:bU) (r:FV jJ):(sF d r).buckets=d.buckets:=rfl
@[simp] theorem anW (d:bU) (r:FV jJ):(sF d r).bad=d.bad:=rfl
@[simp] theorem Yn (d:bU) (r:FV jJ):(sF d r).random=r:=rfl
theorem FL (l:List ja) (s:ja):(qX l s).length=l.length+1:=by
 have:=yD s.index l
 simp only[qX,List.length_append,lJ,List.length_drop,List.length_singleton]
 omega
theorem yG (k:Key):gm (uA .u8 32) (ey k):=qL (wC k)
theorem NX:PV.st 100 [.bl false,.int .u32 0,.ar 1 32 (zr 32 (.int .u8 0)),.st 64 [.ar 1 32 (zr 32 (.int .u8 0)),.ar 1 32 (zr 32 (.int .u8 0))],.int .i64 0,.int .i64 0]=jD rK:=rfl
theorem oP (l:List fS) (k:Key) (n:Int):(dv l k n).length≤l.length:=List.length_filter_le _ _
theorem FM (l:List fS) (t:fS):(lT l t).length≤l.length+1:=by
 have h1:=oP l t.peer t.kind
 have h2:=uZ t (dv l t.peer t.kind)
 simp only[lT,List.length_append,lJ,List.length_drop,List.length_singleton]
 omega
theorem DK {d:bU} (ht:d.timers.length≤1048575) {ps:List dC} {i:Nat} (hi:i<ps.length) {L:List PV} (hL:aB L):∃d',(sU 1 d ps d' ps∧d'.aM=d.aM)∧
  ah Pg I.bw [.pt KB [] 0,.int .i64 i] (MB d ps L) (λr fp=>r= .tup []∧fp=MB d' ps L):=by
 refine⟨_,?_,FJ ht hi hL⟩
 split
 ·exact⟨.refl _ _ _,rfl⟩
 ·exact⟨⟨by have:=FM d.timers ⟨IntKind.i64.wrap (d.now+ps[i].pq),ps[i].gF,4⟩;simpa[xS]using this,by simp[xS],rfl,rfl,rfl,.refl _⟩,rfl⟩
theorem DL {d:bU} (ht:d.timers.length≤1048575) {ps:List dC} {i:Nat} (hi:i<ps.length) (k n:Int) {L:List PV} (hL:aB L):∃d',(sU 1 d ps d' ps∧d'.aM=d.aM)∧
  ah Pg I.aX [.pt KB [] 0,.int .i64 i,.int .i64 k,.int .i64 n] (MB d ps L) (λr fp=>r= .tup []∧fp=MB d' ps L):=
 by
  refine⟨_,?_,NT ht hi k n hL⟩
  exact⟨⟨by have:=FM d.timers ⟨IntKind.i64.wrap (d.now+n),ps[i].gF,k⟩;simpa[xS]using this,by simp[xS],rfl,rfl,rfl,.refl _⟩,rfl⟩
theorem AD {d:bU} (ht:d.timers.length≤1048576) {ps:List dC} {i:Nat} (hi:i<ps.length) (k:Int) {L:List PV} (hL:aB L):∃d',(sU 0 d ps d' ps∧d'.aM=d.aM)∧
  ah Pg I.bG [.pt KB [] 0,.int .i64 i,.int .i64 k] (MB d ps L) (λr fp=>r= .tup []∧fp=MB d' ps L):=
 by
  refine⟨_,?_,wQ ht hi k hL⟩
  exact⟨⟨by have:=oP d.timers ps[i].gF k;simpa[xS]using this,by simp[xS],rfl,rfl,rfl,.refl _⟩,rfl⟩
theorem once {A G:Prop} (h:G->A) (g:G):A:=h g
theorem Bu {d:bU} {ps:List dC} {i:Nat} (hi:i<ps.length) (hs:d.aM.length<32) (hb:∀s∈d.aM,s.index≤1000) (ht:d.timers.length≤1000000) {L:List PV} (hL:aB L) (hl:L.length≤900) (hh:ps[i].hand.has=false):
  ah Pg I.aW [.pt KB [] 0,.int .i64 i] (MB d ps L) (λr fp=>r= .tup []∧∃d' s5 L',sU 4 d ps d' s5∧aB L'∧L'.length≤L.length+1∧fp=MB d' s5 L'):=by
 have hx:ps[i]? =some ps[i]:=gJ hi
 refine ah.intro T.aW (by simp[F.aW]) ?_
 simp[F.aW,au,aG,MB,hi,hh]
 obtain⟨r1,n,⟨KR,OQ⟩,hW⟩:=IZ d ps hL
 obtain⟨y,hT⟩:=Vc hs hb KR OQ ps[i].gF false
 refine DrE.run [KB,KB] rfl rfl rfl ?_
 simp[hi]
 apply once
 ·intro VH
  refine⟨?_,?_⟩
  ·refine al.mo KB (KB+1) (KB+2) hW (by simp) (by simp) (by simp) (by simp) hL (by simp[ae,ab,bg,idx]) (by simp[aK,aF,aT,idx]) ?_
   rintro x fp ⟨rfl,rfl⟩
   refine⟨_,_,_,rfl,by simp,hL,?_⟩
   simp
   refine a8.ret hT (by simp) (by simp) (by simp) ?_
   simp
   exact VH
  ·refine al.mo KB (KB+1) (KB+2) hW (by simp) (by simp) (by simp) (by simp) hL (by simp[ae,ab,bg,idx]) (by simp[aK,aF,aT,idx]) ?_
   rintro x fp ⟨rfl,rfl⟩
   refine⟨_,_,_,rfl,by simp,hL,?_⟩
   simp
   refine a8.ret hT (by simp) (by simp) (by simp) ?_
   simp
   exact VH
 generalize HO:({d with random:=r1,aM:=qX d.aM ⟨y,ps[i].gF,false⟩}:bU)=d1
 have g1:sU 1 d ps d1 ps:=by subst HO;exact⟨by simp,by simp[FL],rfl,rfl,rfl,.refl _⟩
 have xz:d1.aM.length≤32:=by have:=g1.aM;omega
 have ht1:d1.timers.length≤1000001:=by have:=g1.timers;omega
 obtain⟨r2,k,hD⟩:=DI d1 ps hL
 refine al.mo KB (KB+1) (KB+2) hD (by simp) (by simp) (by simp) (by simp) hL (by simp[ae,ab,bg,idx]) (by simp[aK,aF,aT,idx]) ?_
 rintro x fp ⟨rfl,rfl⟩
 refine⟨_,_,_,rfl,by simp,hL,?_⟩
 simp
 obtain⟨st,A3,hO⟩:=ahj d1.now
 obtain⟨m,l1,l2,l3,l4,l5,no,e,hx1,hI⟩:=Ve (qL d1.oq.ok) (yG ps[i].gF) (qL k.ok) A3 y
 refine nj.run [] rfl ?_
 simp[hi]
 refine a8.ret hO (by simp) (by simp) (by simp) ?_
 simp
 refine a8.ret hI (by simp) (by simp) (by simp) ?_
 simp
 refine⟨λhe=> ?_,λhe=> ?_⟩
 ·refine al.mo KB (KB+1) (KB+2) (DG (d:=sF d1 r2) (l:=[y]) (by simp;omega) (by simp) ps hL) (by simp) (by simp) (by simp) (by simp) hL (by simp[ae,ab,bg,idx]) (by simp[aK,aF,aT,idx,nI]) ?_
  rintro x fp ⟨rfl,rfl⟩
  refine⟨_,_,_,rfl,by simp,hL,?_⟩
  simp[hi,NX]
  generalize hp:({ps[i]with hand:=rK}:dC)=p'
  have yc:wR ps[i] p':=by subst hp;exact⟨rfl,rfl,rfl,.refl _,.refl _,.refl _,List.suffix_refl _⟩
  refine al.mo KB (KB+1) (KB+2) (wQ (d:=pY (sF d1 r2) (eT d1.aM [y])) (ps:=ps.set i p') (i:=i) (by simp[pY];omega) (by simp[hi]) 1 hL) (by simp) (by simp[List.map_set]) (by simp) (by simp) hL (by simp[ae,ab,bg,idx]) (by simp[aK,aF,aT,idx]) ?_
  rintro x fp ⟨rfl,rfl⟩
  refine⟨_,_,_,rfl,by simp,hL,?_⟩
  simp
  refine aL.with [] [KB,KB+1,KB+2] ?_
  simp[fa,hL.refs,hL.aF,af]
  have hG:sU 1 d1 ps (xS (pY (sF d1 r2) (eT d1.aM [y])) (dv d1.timers p'.gF 1)) (ps.set i p'):=
   ⟨by have:=oP d1.timers p'.gF 1;simp[xS,pY];omega,by have:=lg [y] d1.aM;simp[xS,pY];omega,rfl,rfl,rfl,nq.set hi yc⟩
  exact⟨_,_,(g1.trans hG).mono (by omega),L,hL,by omega,by simp[xS,pY]⟩
 ·obtain⟨bc,hC⟩:=Cs (sF d1 r2) hi hL
  obtain⟨lb,tg,hSI⟩:=I0 (yG ps[i].gF) bc ps[i].pd hx1
  refine nj.run [] rfl ?_
  simp[hi]
  refine al.mo KB (KB+1) (KB+2) hC (by simp) (by simp) (by simp) (by simp) hL (by simp[ae,ab,bg,idx]) (by simp[aK,aF,aT,idx]) ?_
  rintro x fp ⟨rfl,rfl⟩
  refine⟨_,_,_,rfl,by simp,hL,?_⟩
  simp
  refine a8.ret hSI (by simp) (by simp) (by simp) ?_
  have eh:PV.st 100 [.bl true,.int .u32 y,k.p,no.p,.int .i64 d.now,.int .i64 d1.now]=jD ⟨true,y,k,no,d.now,d1.now⟩:=rfl
  simp[hi,eh]
  generalize hp:({ps[i]with hand:=⟨true,y,k,no,d.now,d1.now⟩,Ge:=tg}:dC)=p'
  have yc:wR ps[i] p':=by subst hp;exact⟨rfl,rfl,rfl,.refl _,.refl _,.refl _,List.suffix_refl _⟩
  refine al.mo KB (KB+1) (KB+2) (IX (sF d1 r2) (ps:=ps.set i p') (i:=i) (by simp[hi]) hL (by omega) lb false) (by simp) (by simp[List.map_set]) (by simp) (by simp) hL (by simp[ae,ab,bg,idx]) (by simp[aK,aF,aT,idx]) ?_
  rintro x fp ⟨x,Zr,rfl,rfl⟩
  have tW:aB (L++[x]):=(nE _ _).2 ⟨hL,(qA _ _).2 ⟨Zr,lA⟩⟩
  generalize tS:L++[x]=L1 at tW
  have F4:L1.length=L.length+1:=by subst tS;simp
  refine⟨_,_,_,rfl,by simp,tW,?_⟩
  simp
  obtain⟨d2,⟨g2,_⟩,hS⟩:=DL (d:=sF d1 r2) (ps:=ps.set i p') (i:=i) (by simp;omega) (by simp[hi]) 1 d1.rules.ret tW
  have g2:sU 1 d1 ps d2 (ps.set i p'):=by
   have h0:sU 0 d1 ps (sF d1 r2) (ps.set i p'):=⟨by simp,by simp,rfl,rfl,rfl,nq.set hi yc⟩
   exact(h0.trans g2).mono (by omega)
  have CI:d2.timers.length≤1000002:=by have:=g2.timers;omega
  refine al.mo KB (KB+1) (KB+2) hS (by simp) (by simp[List.map_set]) (by simp) (by simp) tW (by simp[ae,ab,bg,idx]) (by simp[aK,aF,aT,idx]) ?_
  rintro x fp ⟨rfl,rfl⟩
  refine⟨_,_,_,rfl,by simp,tW,?_⟩
  simp
  obtain⟨d3,⟨g3,_⟩,hT3⟩:=DK (d:=d2) (ps:=ps.set i p') (i:=i) (by omega) (by simp[hi]) tW
  refine al.mo KB (KB+1) (KB+2) hT3 (by simp) (by simp[List.map_set]) (by simp) (by simp) tW (by simp[ae,ab,bg,idx]) (by simp[aK,aF,aT,idx]) ?_
  rintro x fp ⟨rfl,rfl⟩
  refine⟨_,_,_,rfl,by simp,tW,?_⟩
  simp
  refine aL.with [] [KB,KB+1,KB+2] ?_
  simp[fa,tW.refs,tW.aF,af]
  exact⟨_,_,((g1.trans g2).trans g3).mono (by omega),L1,tW,by omega,by simp⟩
theorem Bv {d:bU} {ps:List dC} {i:Nat} (hi:i<ps.length) (hs:d.aM.length<32) (hb:∀s∈d.aM,s.index≤1000) (ht:d.timers.length≤1000000) {L:List PV} (hL:aB L) (hl:L.length≤900) (hh:ps[i].hand.has=true):
  ah Pg I.aW [.pt KB [] 0,.int .i64 i] (MB d ps L) (λr fp=>r= .tup []∧∃d' s5 L',sU 4 d ps d' s5∧aB L'∧L'.length≤L.length+1∧fp=MB d' s5 L'):=by
 have hx:ps[i]? =some ps[i]:=gJ hi
 refine ah.intro T.aW (by simp[F.aW]) ?_
 simp[F.aW,au,aG,MB,hi,hh]
 refine al.mo KB (KB+1) (KB+2) (DG (d:=d) (l:=[ps[i].hand.loc]) (by omega) (by simp) ps hL) (by simp) (by simp) (by simp) (by simp) hL (by simp[ae,ab,bg,idx]) (by simp[aK,aF,aT,idx,nI]) ?_
 rintro x fp ⟨rfl,rfl⟩
 refine⟨_,_,_,rfl,by simp,hL,?_⟩
 have g0:sU 0 d ps (pY d (eT d.aM [ps[i].hand.loc])) ps:=⟨by simp[pY],by have:=lg [ps[i].hand.loc] d.aM;simpa[pY]using this,rfl,rfl,rfl,.refl _⟩
 have AZ:∀s∈(pY d (eT d.aM [ps[i].hand.loc])).aM,s.index≤1000:=by
  intro s hs
  have h2:s∈eT d.aM [ps[i].hand.loc]:=hs
  rw[tD]at h2
  exact hb s (List.mem_filter.1 h2).1
 generalize pY d (eT d.aM [ps[i].hand.loc])=d0 at g0 AZ
 have D1:d0.aM.length<32:=by have:=g0.aM;omega
 have ht0:d0.timers.length≤1000000:=by have:=g0.timers;omega
 obtain⟨r1,n,⟨KR,OQ⟩,hW⟩:=IZ d0 ps hL
 obtain⟨y,hT⟩:=Vc D1 AZ KR OQ ps[i].gF false
 simp
 refine DrE.run [KB,KB] rfl rfl rfl ?_
 simp[hi]
 apply once
 ·intro VH
  refine⟨?_,?_⟩
  ·refine al.mo KB (KB+1) (KB+2) hW (by simp) (by simp) (by simp) (by simp) hL (by simp[ae,ab,bg,idx]) (by simp[aK,aF,aT,idx]) ?_
   rintro x fp ⟨rfl,rfl⟩
   refine⟨_,_,_,rfl,by simp,hL,?_⟩
   simp
   refine a8.ret hT (by simp) (by simp) (by simp) ?_
   simp
   exact VH
  ·refine al.mo KB (KB+1) (KB+2) hW (by simp) (by simp) (by simp) (by simp) hL (by simp[ae,ab,bg,idx]) (by simp[aK,aF,aT,idx]) ?_
   rintro x fp ⟨rfl,rfl⟩
   refine⟨_,_,_,rfl,by simp,hL,?_⟩
   simp
   refine a8.ret hT (by simp) (by simp) (by simp) ?_
   simp
   exact VH
 generalize HO:({d0 with random:=r1,aM:=qX d0.aM ⟨y,ps[i].gF,false⟩}:bU)=d1
 have g1:sU 1 d0 ps d1 ps:=by subst HO;exact⟨by simp,by simp[FL],rfl,rfl,rfl,.refl _⟩
 have xz:d1.aM.length≤32:=by have:=g1.aM;omega
 have ht1:d1.timers.length≤1000001:=by have:=g1.timers;omega
 obtain⟨r2,k,hD⟩:=DI d1 ps hL
 refine al.mo KB (KB+1) (KB+2) hD (by simp) (by simp) (by simp) (by simp) hL (by simp[ae,ab,bg,idx]) (by simp[aK,aF,aT,idx]) ?_
 rintro x fp ⟨rfl,rfl⟩
 refine⟨_,_,_,rfl,by simp,hL,?_⟩
 simp
 obtain⟨st,A3,hO⟩:=ahj d1.now
 obtain⟨m,l1,l2,l3,l4,l5,no,e,hx1,hI⟩:=Ve (qL d1.oq.ok) (yG ps[i].gF) (qL k.ok) A3 y
 refine nj.run [] rfl ?_
 simp[hi]
 refine a8.ret hO (by simp) (by simp) (by simp) ?_
 simp
 refine a8.ret hI (by simp) (by simp) (by simp) ?_
 simp
 refine⟨λhe=> ?_,λhe=> ?_⟩
 ·refine al.mo KB (KB+1) (KB+2) (DG (d:=sF d1 r2) (l:=[y]) (by simp;omega) (by simp) ps hL) (by simp) (by simp) (by simp) (by simp) hL (by simp[ae,ab,bg,idx]) (by simp[aK,aF,aT,idx,nI]) ?_
  rintro x fp ⟨rfl,rfl⟩
  refine⟨_,_,_,rfl,by simp,hL,?_⟩
  simp[hi,NX]
  generalize hp:({ps[i]with hand:=rK}:dC)=p'
  have yc:wR ps[i] p':=by subst hp;exact⟨rfl,rfl,rfl,.refl _,.refl _,.refl _,List.suffix_refl _⟩
  refine al.mo KB (KB+1) (KB+2) (wQ (d:=pY (sF d1 r2) (eT d1.aM [y])) (ps:=ps.set i p') (i:=i) (by simp[pY];omega) (by simp[hi]) 1 hL) (by simp) (by simp[List.map_set]) (by simp) (by simp) hL (by simp[ae,ab,bg,idx]) (by simp[aK,aF,aT,idx]) ?_
  rintro x fp ⟨rfl,rfl⟩
  refine⟨_,_,_,rfl,by simp,hL,?_⟩
  simp
  refine aL.with [] [KB,KB+1,KB+2] ?_
  simp[fa,hL.refs,hL.aF,af]
  have hG:sU 1 d1 ps (xS (pY (sF d1 r2) (eT d1.aM [y])) (dv d1.timers p'.gF 1)) (ps.set i p'):=
   ⟨by have:=oP d1.timers p'.gF 1;simp[xS,pY];omega,by have:=lg [y] d1.aM;simp[xS,pY];omega,rfl,rfl,rfl,nq.set hi yc⟩
  exact⟨_,_,((g0.trans g1).trans hG).mono (by omega),L,hL,by omega,by simp[xS,pY]⟩
 ·obtain⟨bc,hC⟩:=Cs (sF d1 r2) hi hL
  obtain⟨lb,tg,hSI⟩:=I0 (yG ps[i].gF) bc ps[i].pd hx1
  refine nj.run [] rfl ?_
  simp[hi]
  refine al.mo KB (KB+1) (KB+2) hC (by simp) (by simp) (by simp) (by simp) hL (by simp[ae,ab,bg,idx]) (by simp[aK,aF,aT,idx]) ?_
  rintro x fp ⟨rfl,rfl⟩
  refine⟨_,_,_,rfl,by simp,hL,?_⟩
  simp
  refine a8.ret hSI (by simp) (by simp) (by simp) ?_
  have eh:PV.st 100 [.bl true,.int .u32 y,k.p,no.p,.int .i64 ps[i].hand.started,.int .i64 d1.now]=jD ⟨true,y,k,no,ps[i].hand.started,d1.now⟩:=rfl
  simp[hi,eh]
  generalize hp:({ps[i]with hand:=⟨true,y,k,no,ps[i].hand.started,d1.now⟩,Ge:=tg}:dC)=p'
  have yc:wR ps[i] p':=by subst hp;exact⟨rfl,rfl,rfl,.refl _,.refl _,.refl _,List.suffix_refl _⟩
  refine al.mo KB (KB+1) (KB+2) (IX (sF d1 r2) (ps:=ps.set i p') (i:=i) (by simp[hi]) hL (by omega) lb false) (by simp) (by simp[List.map_set]) (by simp) (by simp) hL (by simp[ae,ab,bg,idx]) (by simp[aK,aF,aT,idx]) ?_
  rintro x fp ⟨x,Zr,rfl,rfl⟩
  have tW:aB (L++[x]):=(nE _ _).2 ⟨hL,(qA _ _).2 ⟨Zr,lA⟩⟩
  generalize tS:L++[x]=L1 at tW
  have F4:L1.length=L.length+1:=by subst tS;simp
  refine⟨_,_,_,rfl,by simp,tW,?_⟩
  simp
  obtain⟨d2,⟨g2,_⟩,hS⟩:=DL (d:=sF d1 r2) (ps:=ps.set i p') (i:=i) (by simp;omega) (by simp[hi]) 1 d1.rules.ret tW
  have g2:sU 1 d1 ps d2 (ps.set i p'):=by
   have h0:sU 0 d1 ps (sF d1 r2) (ps.set i p'):=⟨by simp,by simp,rfl,rfl,rfl,nq.set hi yc⟩
   exact(h0.trans g2).mono (by omega)
  have CI:d2.timers.length≤1000002:=by have:=g2.timers;omega
  refine al.mo KB (KB+1) (KB+2) hS (by simp) (by simp[List.map_set]) (by simp) (by simp) tW (by simp[ae,ab,bg,idx]) (by simp[aK,aF,aT,idx]) ?_
  rintro x fp ⟨rfl,rfl⟩
  refine⟨_,_,_,rfl,by simp,tW,?_⟩
  simp
  obtain⟨d3,⟨g3,_⟩,hT3⟩:=DK (d:=d2) (ps:=ps.set i p') (i:=i) (by omega) (by simp[hi]) tW
  refine al.mo KB (KB+1) (KB+2) hT3 (by simp) (by simp[List.map_set]) (by simp) (by simp) tW (by simp[ae,ab,bg,idx]) (by simp[aK,aF,aT,idx]) ?_
  rintro x fp ⟨rfl,rfl⟩
  refine⟨_,_,_,rfl,by simp,tW,?_⟩
  simp
  refine aL.with [] [KB,KB+1,KB+2] ?_
  simp[fa,tW.refs,tW.aF,af]
  exact⟨_,_,(((g0.trans g1).trans g2).trans g3).mono (by omega),L1,tW,by omega,by simp⟩
end Go.Ab
end Q8s
namespace Go.Ab
open Go.Ab
def ahn:List Spec:=⟨I.aR,[(.sl 1 [(uS .u8 4),(uS .u8 4),(uS .u8 8),(uS .u8 48)] false)],.own 1 (uL .u8 64)⟩::ag3
theorem arf:az Pg ahn:=ax ag4 [] [] (by kernel_rfl)
def aho:List Spec:=⟨I.aR,[(.sl 1 [(uS .u8 4),(uS .u8 4),(uS .u8 8),(uS .u8 64)] false)],.own 1 (uL .u8 80)⟩::ahn
theorem arh:az Pg aho:=ax arf [] [] (by kernel_rfl)
def ahp:List Spec:=⟨I.aR,[(.sl 1 [(uS .u8 4),(uS .u8 4),(uS .u8 8),(uS .u8 80)] false)],.own 1 (uL .u8 96)⟩::aho
theorem ari:az Pg ahp:=ax arh [] [] (by kernel_rfl)
def ahq:List Spec:=⟨I.aR,[(.sl 1 [(uS .u8 4),(uS .u8 4),(uS .u8 8),(uS .u8 96)] false)],.own 1 (uL .u8 112)⟩::ahp
theorem arj:az Pg ahq:=ax ari [] [] (by kernel_rfl)
def ahr:Spec:=⟨I.bQ,[(.st 3 [(uI .u32),(uI .u64),(uS .u8 48)])],.gen (.tup [(.rs KB [] 0 64 64 1 .tip),(uI .i64)]) 1 (uL .u8 64)⟩
def ahs:List Spec:=ahr::ahq
theorem aht:az Pg ahs:=ax arj [15,18,22] [] (by kernel_rfl)
def ahu:Spec:=⟨I.bQ,[(.st 3 [(uI .u32),(uI .u64),(uS .u8 64)])],.gen (.tup [(.rs KB [] 0 80 80 1 .tip),(uI .i64)]) 1 (uL .u8 80)⟩
def ahv:List Spec:=ahu::ahs
theorem ahw:az Pg ahv:=ax aht [15,18,22] [] (by kernel_rfl)
def ahx:Spec:=⟨I.bQ,[(.st 3 [(uI .u32),(uI .u64),(uS .u8 80)])],.gen (.tup [(.rs KB [] 0 96 96 1 .tip),(uI .i64)]) 1 (uL .u8 96)⟩
def ahy:List Spec:=ahx::ahv
theorem ahz:az Pg ahy:=ax ahw [15,18,22] [] (by kernel_rfl)
def ahA:Spec:=⟨I.bQ,[(.st 3 [(uI .u32),(uI .u64),(uS .u8 96)])],.gen (.tup [(.rs KB [] 0 112 112 1 .tip),(uI .i64)]) 1 (uL .u8 112)⟩
def ahB:List Spec:=ahA::ahy
theorem ahC:az Pg ahB:=ax ahz [15,18,22] [] (by kernel_rfl)
end Go.Ab
noncomputable section Q9s
namespace Go.Ab
open Go.Ab
theorem ark (n:Int):∃c:List Int,c.length=12∧bI Pg I.kM [.int .u64 n] (.ar 1 12 (iF c)):=by
 obtain⟨_,v,h1,h2⟩:=S65 z65 (.head _) [.int .u64 n] ⟨by simp[uI,gm],trivial⟩
 obtain⟨c,hc,rfl⟩:=mN h1
 exact⟨c,hc,h2⟩
theorem DM:gm (.sl 0 [] false) (.sl 0 [] false):=by simp[gm,bH]
theorem ahD {k:PV} (hk:gm (uA .u8 32) k) {c p:List Int} (hc:c.length=12) (hp:p.length=32∨p.length=48∨p.length=64∨p.length=80):∃b:List Int,b.length=p.length+16∧qV Pg I.fX [k,.ar 1 12 (iF c),bS p,.sl 0 [] false] 1 (iF b):=by
 rcases hp with hp|hp|hp|hp
 ·obtain⟨_,m,h1,h2⟩:=agD agB (.head _) [k,.ar 1 12 (iF c),bS p,.sl 0 [] false] ⟨hk,sV hc,ox hp,DM,trivial⟩
  obtain⟨b,hb,rfl⟩:=oO h1
  exact⟨b,by omega,h2⟩
 ·obtain⟨_,m,h1,h2⟩:=agG agE (.head _) [k,.ar 1 12 (iF c),bS p,.sl 0 [] false] ⟨hk,sV hc,ox hp,DM,trivial⟩
  obtain⟨b,hb,rfl⟩:=oO h1
  exact⟨b,by omega,h2⟩
 ·obtain⟨_,m,h1,h2⟩:=agJ agH (.head _) [k,.ar 1 12 (iF c),bS p,.sl 0 [] false] ⟨hk,sV hc,ox hp,DM,trivial⟩
  obtain⟨b,hb,rfl⟩:=oO h1
  exact⟨b,by omega,h2⟩
 ·obtain⟨_,m,h1,h2⟩:=agM agK (.head _) [k,.ar 1 12 (iF c),bS p,.sl 0 [] false] ⟨hk,sV hc,ox hp,DM,trivial⟩
  obtain⟨b,hb,rfl⟩:=oO h1
  exact⟨b,by omega,h2⟩
theorem arl (r c:Int) {b:List Int} (hb:b.length=48∨b.length=64∨b.length=80∨b.length=96):∃(x:List Int) (e:Int),bI Pg I.bQ [.st 3 [.int .u32 r,.int .u64 c,bS b]] (.tup [bS x,.int .i64 e]):=by
 rcases hb with hb|hb|hb|hb
 ·obtain⟨_,v,m,h,hm,h2⟩:=aht ahr (.head _) [.st 3 [.int .u32 r,.int .u64 c,bS b]] ⟨⟨rfl,by simp[uI,gm],by simp[uI,gm],ox hb,trivial⟩,trivial⟩
  obtain⟨ms,rfl,g⟩:=su h
  obtain⟨x1,ms,rfl,h1,h⟩:=fM g
  obtain⟨x2,ms,rfl,he,h⟩:=fM h
  obtain rfl:=oN h
  obtain⟨e,rfl⟩:=Ct he
  obtain⟨l,F4,rfl⟩:=oO hm
  simp only[gm]at h1
  subst h1
  refine⟨l,e,?_⟩
  have this:bI Pg I.bQ [.st 3 [.int .u32 r,.int .u64 c,bS b]] _:=ah.NW h2 (gM l)
  simpa[gh,gW,F4,bS,(gM l).gh,tJ]using this
 ·obtain⟨_,v,m,h,hm,h2⟩:=ahw ahu (.head _) [.st 3 [.int .u32 r,.int .u64 c,bS b]] ⟨⟨rfl,by simp[uI,gm],by simp[uI,gm],ox hb,trivial⟩,trivial⟩
  obtain⟨ms,rfl,g⟩:=su h
  obtain⟨x1,ms,rfl,h1,h⟩:=fM g
  obtain⟨x2,ms,rfl,he,h⟩:=fM h
  obtain rfl:=oN h
  obtain⟨e,rfl⟩:=Ct he
  obtain⟨l,F4,rfl⟩:=oO hm
  simp only[gm]at h1
  subst h1
  refine⟨l,e,?_⟩
  have this:bI Pg I.bQ [.st 3 [.int .u32 r,.int .u64 c,bS b]] _:=ah.NW h2 (gM l)
  simpa[gh,gW,F4,bS,(gM l).gh,tJ]using this
 ·obtain⟨_,v,m,h,hm,h2⟩:=ahz ahx (.head _) [.st 3 [.int .u32 r,.int .u64 c,bS b]] ⟨⟨rfl,by simp[uI,gm],by simp[uI,gm],ox hb,trivial⟩,trivial⟩
  obtain⟨ms,rfl,g⟩:=su h
  obtain⟨x1,ms,rfl,h1,h⟩:=fM g
  obtain⟨x2,ms,rfl,he,h⟩:=fM h
  obtain rfl:=oN h
  obtain⟨e,rfl⟩:=Ct he
  obtain⟨l,F4,rfl⟩:=oO hm
  simp only[gm]at h1
  subst h1
  refine⟨l,e,?_⟩
  have this:bI Pg I.bQ [.st 3 [.int .u32 r,.int .u64 c,bS b]] _:=ah.NW h2 (gM l)
  simpa[gh,gW,F4,bS,(gM l).gh,tJ]using this
 ·obtain⟨_,v,m,h,hm,h2⟩:=ahC ahA (.head _) [.st 3 [.int .u32 r,.int .u64 c,bS b]] ⟨⟨rfl,by simp[uI,gm],by simp[uI,gm],ox hb,trivial⟩,trivial⟩
  obtain⟨ms,rfl,g⟩:=su h
  obtain⟨x1,ms,rfl,h1,h⟩:=fM g
  obtain⟨x2,ms,rfl,he,h⟩:=fM h
  obtain rfl:=oN h
  obtain⟨e,rfl⟩:=Ct he
  obtain⟨l,F4,rfl⟩:=oO hm
  simp only[gm]at h1
  subst h1
  refine⟨l,e,?_⟩
  have this:bI Pg I.bQ [.st 3 [.int .u32 r,.int .u64 c,bS b]] _:=ah.NW h2 (gM l)
  simpa[gh,gW,F4,bS,(gM l).gh,tJ]using this
theorem R5 {n:Nat} (h1:17≤n) (h2:n≤80):n+vn n=32∨n+vn n=48∨n+vn n=64∨n+vn n=80:=by
 unfold vn;omega
theorem ahE {s:jt} {limit:Int} {l:List Int} (h1:17≤l.length) (h2:l.length≤80) (hn:s.next<min (min s.ij limit) 18446744073709543423):
  ∃b:List Int,bI Pg I.fD [eX s,.int .u64 limit,bS l] (.tup [eX {s with next:=IntKind.u64.wrap (s.next+1)},bS b,.int .i64 0]):=by
 obtain⟨c,hc,hC⟩:=ark s.next
 have hP:=eY (l:=l) (by omega) (by omega)
 generalize hpd:l++List.replicate (vn l.length) 0=p at hP
 have qZ:p.length=32∨p.length=48∨p.length=64∨p.length=80:=by
  subst hpd;simpa using R5 h1 h2
 obtain⟨b,hb,hS⟩:=ahD (qL s.send.ok) hc qZ
 obtain⟨x,e,hE⟩:=arl s.rem s.next (b:=b) (by omega)
 refine⟨x,?_⟩
 refine ah.intro T.fD (by simp[F.fD]) ?_
 have tS:¬(2000:Int)<l.length:=by omega
 have CH:¬min s.ij (min limit 18446744073709543423)≤s.next:=by omega
 simp only[bS]at hP hS hE
 simp[F.fD,au,aG,bS,tS,CH]
 refine a8.ret hC (by simp) (by simp) (by simp) ?_
 simp
 refine a8.ret (hP.gh (gM p)) (by simp) (by simp) (by simp) ?_
 simp
 refine a8.ret (hS.gh (gM b)) (by simp) (by simp) (by simp) ?_
 simp
 refine al.ret hE (by simp) (by simp) (by simp) ?_
 simp
 refine aL.plain [] ?_
 simp
theorem FN {d:bU} {ps:List dC} {i:Nat} (hi:i<ps.length) (ht:d.timers.length≤1000000) {L:List PV} (hL:aB L) (hl:L.length≤900) {l:List Int} (h1:17≤l.length) (h2:l.length≤80) (hu:Kz d ps[i]=true):
  ∃
   d' p' L',(sU 1 d ps d' (ps.set i p')∧d'.aM=d.aM)∧p'.bk=ps[i].bk∧aB L'∧L'.length=L.length+1∧
   ah Pg I.bK [.pt KB [] 0,.int .i64 i,bS l] (MB d ps L) (λr fp=>r= .tup []∧fp=MB d' (ps.set i p') L'):=by
 have hx:ps[i]? =some ps[i]:=gJ hi
 have hn:ps[i].ring.c.ju.next<min (min ps[i].ring.c.ju.ij d.rules.tz) 18446744073709543423:=by
  simp only[Kz,vo,aJ,decide_eq_true_eq]at hu
  exact hu.2.2
 obtain⟨b,hS⟩:=ahE h1 h2 hn
 generalize hp:({ps[i]with ring:= {ps[i].ring with c:= {ps[i].ring.c with ju:= {ps[i].ring.c.ju with next:=IntKind.u64.wrap (ps[i].ring.c.ju.next+1)}}}}:dC)=p'
 have yc:wR ps[i] p':=by subst hp;exact⟨rfl,rfl,rfl,.refl _,⟨rfl,rfl⟩,.refl _,List.suffix_refl _⟩
 have tU:p'.bk=ps[i].bk:=by subst hp;rfl
 have hox:Pure (PV.st 86 [.int .i64 1,iU ps[i].ep,ey ps[i].gF,ps[i].ring.c.ju.send.p,.int .u64 ps[i].ring.c.ju.next,.sl 1 (iF b) false,.str []]):=by simp
 have tW:aB (L++[PV.st 86 [.int .i64 1,iU ps[i].ep,ey ps[i].gF,ps[i].ring.c.ju.send.p,.int .u64 ps[i].ring.c.ju.next,.sl 1 (iF b) false,.str []]]):=(nE _ _).2 ⟨hL,(qA _ _).2 ⟨hox,lA⟩⟩
 obtain⟨d',hG,hT⟩:=DK (d:=d) (ps:=ps.set i p') (i:=i) (by omega) (by simp[hi]) tW
 refine⟨d',p',L++[PV.st 86 [.int .i64 1,iU ps[i].ep,ey ps[i].gF,ps[i].ring.c.ju.send.p,.int .u64 ps[i].ring.c.ju.next,.sl 1 (iF b) false,.str []]],⟨?_,hG.2⟩,tU,tW,by simp,?_⟩
 ·have h0:sU 0 d ps d (ps.set i p'):=⟨by omega,by omega,rfl,rfl,rfl,nq.set hi yc⟩
  exact(h0.trans hG.1).mono (by omega)
 refine ah.intro T.bK (by simp[F.bK]) ?_
 simp only[bS]at hS
 simp[F.bK,au,aG,MB,hi,bS]
 refine nj.run [] rfl ?_
 simp
 refine a8.ret hS (by simp) (by simp) (by simp) ?_
 simp[hi,hp]
 have hep:p'.ep=ps[i].ep:=by subst hp;rfl
 have BE:p'.gF=ps[i].gF:=by subst hp;rfl
 refine nj.run [] rfl ?_
 simp[hi,hep,BE]
 refine⟨⟨by omega,by omega⟩,?_⟩
 refine al.mo KB (KB+1) (KB+2) hT (by simp) (by simp[List.map_set]) (by simp) (by simp) tW (by simp[ae,ab,bg,idx]) (by simp[aK,aF,aT,idx]) ?_
 rintro x fp ⟨rfl,rfl⟩
 refine⟨_,_,_,rfl,by simp,tW,?_⟩
 simp
 refine aL.with [] [KB,KB+1,KB+2] ?_
 simp[fa,tW.refs,tW.aF,af]
end Go.Ab
end Q9s
noncomputable section Q10s
namespace Go.Ab
open Go.Ab
def Vh:Nat->cU->cU
 |0,.seq x y=> .seqm x y
 |n+1,.seq x y=> .seq x (Vh n y)
 |_,c=>c
theorem NY:∀(n:Nat) (c:cU),erase (Vh n c)=erase c
 |0,.seq x y=>rfl
 |n+1,.seq x y=>by simp only[Vh,erase,NY n y]
 |0,.skip|0,.region _|0,.regionD .. |0,.regionE .. |0,.cond .. |0,.block .. |0,.loop _|0,.exit _|0,.ret|0,.seqm .. |0,.rangeF .. =>rfl
 |_+1,.skip|_+1,.region _|_+1,.regionD .. |_+1,.regionE .. |_+1,.cond .. |_+1,.block .. |_+1,.loop _|_+1,.exit _|_+1,.ret|_+1,.seqm .. |_+1,.rangeF .. =>rfl
theorem NZ {own sp:List Nat} {f:FuncId} {A:di} (n:Nat) (h:ka Pg own sp f=some A.er):ka Pg own sp f=some (di.er ⟨A.nt,A.res,Vh n A.code⟩):=by
 rw[h];simp only[di.er,NY]
theorem TD.of {P:Program} {s:St} {x y:cU} {Q:Exit->St->Prop} {t:Tg (x,y,Q)} (M:St->Prop) (h1:aw P x (yl Q λs'=>∃c:List Cut,gV c s' M) s) (h2:∀s',M s'->aw P y Q s'):TD P x y Q t s:=⟨M,h1,h2⟩
def R6 (n m:Nat) (d:bU) (ps:List dC) (L:List PV) (r:PV) (fp:List a9):Prop:=r= .tup []∧∃d' s5 L',sU n d ps d' s5∧aB L'∧L'.length≤L.length+m∧fp=MB d' s5 L'
theorem FO {d:bU} {ps:List dC} {i:Nat} (hi:i<ps.length) (hs:d.aM.length<32) (hb:∀s∈d.aM,s.index≤1000) (ht:d.timers.length≤1000000) {L:List PV} (hL:aB L) (hl:L.length≤900):
  ah Pg I.aW [.pt KB [] 0,.int .i64 i] (MB d ps L) (R6 4 1 d ps L):=by
 by_cases hh:ps[i].hand.has=true
 ·exact Bv hi hs hb ht hL hl hh
 ·exact Bu hi hs hb ht hL hl (by simpa using hh)
theorem jh {n m:Nat} {d e:bU} {ps qs:List dC} {L N:List PV} (h:sU n d ps e qs) (hN:aB N) (hl:N.length≤L.length+m):R6 n m d ps L (.tup []) (MB e qs N):=⟨rfl,e,qs,N,h,hN,hl,rfl⟩
theorem oy {d:bU} {ps:List dC} {i:Nat} (hi:i<ps.length) (hs:d.aM.length<32) (hb:∀s∈d.aM,s.index≤1000) (ht:d.timers.length≤1000000) {L:List PV} (hL:aB L) (hl:L.length≤900):
  ah Pg I.gz [.pt KB [] 0,.int .i64 i] (MB d ps L) (R6 4 1 d ps L):=by
 have hx:ps[i]? =some ps[i]:=gJ hi
 refine ah.intro T.rO (by simp[F.rO]) ?_
 have hI:=FO hi hs hb ht hL hl
 by_cases h1:ps[i].lS=true
 ·by_cases h2:ps[i].hand.has=true
  ·by_cases h3:IntKind.i64.wrap (d.now-ps[i].hand.Nc)<d.rules.ret
   ·simp[F.rO,au,aG,MB,hi,h1,h2,h3]
    refine aL.with [] [KB,KB+1,KB+2] ?_
    simp[fa,hL.refs,hL.aF,af]
    exact jh (.refl _ _ _) hL (by omega)
   ·simp[F.rO,au,aG,MB,hi,h1,h2,h3]
    refine al.mo KB (KB+1) (KB+2) hI (by simp) (by simp) (by simp) (by simp) hL (by simp[ae,ab,bg,idx]) (by simp[aK,aF,aT,idx]) ?_
    rintro r fp ⟨rfl,d',s5,L',hG,ma,rR,rfl⟩
    refine⟨_,_,_,rfl,by simp,ma,?_⟩
    simp
    refine aL.with [] [KB,KB+1,KB+2] ?_
    simp[fa,ma.refs,ma.aF,af]
    exact jh hG ma rR
  ·simp[F.rO,au,aG,MB,hi,h1,h2]
   refine al.mo KB (KB+1) (KB+2) hI (by simp) (by simp) (by simp) (by simp) hL (by simp[ae,ab,bg,idx]) (by simp[aK,aF,aT,idx]) ?_
   rintro r fp ⟨rfl,d',s5,L',hG,ma,rR,rfl⟩
   refine⟨_,_,_,rfl,by simp,ma,?_⟩
   simp
   refine aL.with [] [KB,KB+1,KB+2] ?_
   simp[fa,ma.refs,ma.aF,af]
   exact jh hG ma rR
 ·simp[F.rO,au,aG,MB,hi,h1]
  refine aL.with [] [KB,KB+1,KB+2] ?_
  simp[fa,hL.refs,hL.aF,af]
  exact jh (.refl _ _ _) hL (by omega)
end Go.Ab
end Q10s
noncomputable section Q11s
namespace Go.Ab
open Go.Ab
theorem I1 (b:List UInt8):eI b=bS (b.map λx=>(x.toNat:Int)):=by simp[eI,bS,iF,u8]
theorem DN {d:bU} {ps:List dC} {i:Nat} (hi:i<ps.length) (ht:d.timers.length≤1000000) {L:List PV} (hL:aB L) (hl:L.length≤900) {l:List UInt8} (h1:17≤l.length) (h2:l.length≤80) (hu:Kz d ps[i]=true):
  ∃
   d' p' L',(sU 1 d ps d' (ps.set i p')∧d'.aM=d.aM)∧p'.bk=ps[i].bk∧aB L'∧L'.length=L.length+1∧
   ah Pg I.bK [.pt KB [] 0,.int .i64 i,eI l] (MB d ps L) (λr fp=>r= .tup []∧fp=MB d' (ps.set i p') L'):=by
 rw[I1];exact FN hi ht hL hl (by simpa using h1) (by simpa using h2) hu
theorem sU.Pr {n:Nat} {d e:bU} {qs:List dC} {i:Nat} (hi:i<qs.length) {p':dC} {b:List UInt8} {r:List (List UInt8)} (h:sU n d qs e (qs.set i p')) (hs:p'.bk=b::r):sU n d qs e (qs.set i {p' with bk:=r}):=by
 obtain⟨q,hq,hp⟩:=h.xR.2 i _ (gJ hi)
 have hqp:q=p':=by simpa[hi]using hq.symm
 subst hqp
 refine⟨h.timers,h.aM,h.bD,h.cN,h.buckets,nq.set hi (hp.trans ⟨rfl,rfl,rfl,.refl _,.refl _,.refl _,?_⟩)⟩
 rw[hs];exact⟨[b],rfl⟩
structure Fls (d:bU) (ps:List dC) (L:List PV) (i j:Nat) (e:bU) (qs:List dC) (N:List PV):Prop where
 g:sU j d ps e qs
 sl:e.aM=d.aM
 st:∀(h:i<qs.length) (h':i<ps.length),qs[i].bk=ps[i].bk.drop j
 nL:aB N
 nl:N.length≤L.length+j
def R7 (i n:Nat) (e:bU) (qs:List dC) (N:List PV):St:=⟨[(0,.pt KB [] 0),(1,.int .i64 i),(4,.pt (KB+1) [.i i 464] n)],[(KB,.box (yE e (KB+1) qs.length (KB+2) N.length)),(KB+1,.arr 464 (qs.map aP)),(KB+2,.arr 86 N)]⟩
noncomputable def F.AE:di:=⟨F.rP.nt,F.rP.res,Vh 3 F.rP.code⟩
theorem T.AE:ka Pg [80] [124,125] I.gA=some F.AE.er:=NZ 3 T.rP
theorem N0 {d:bU} {ps:List dC} {i:Nat} (hi:i<ps.length) (hs:d.aM.length<32) (hb:∀s∈d.aM,s.index≤1000) (ht:d.timers.length≤900000) {L:List PV} (hL:aB L) (hl:L.length≤100)
  (A3:ps[i].bk.length≤100) (DX:∀b∈ps[i].bk,17≤b.length∧b.length≤80):
  ah Pg I.gA [.pt KB [] 0,.int .i64 i] (MB d ps L) (R6 120 120 d ps L):=by
 have hx:ps[i]? =some ps[i]:=gJ hi
 refine ah.intro T.AE (by simp[F.AE,F.rP]) ?_
 simp[F.AE,F.rP,Vh,au,aG,MB,hi]
 refine⟨λ_=> ?_,λhep fc=> ?_⟩
 ·refine aL.with [] [KB,KB+1,KB+2] ?_
  simp[fa,hL.refs,hL.aF,af]
  exact jh (.refl _ _ _) hL (by omega)
 refine al.mo KB (KB+1) (KB+2) (Cr d hi hL) (by simp) (by simp) (by simp) (by simp) hL (by simp[ae,ab,bg,idx]) (by simp[aK,aF,aT,idx]) ?_
 rintro r fp ⟨rfl,rfl⟩
 refine⟨_,_,_,rfl,by simp,hL,?_⟩
 simp
 refine⟨λhu=> ?_,λhu=> ?_⟩
 ·refine al.mo KB (KB+1) (KB+2) (oy hi hs hb (by omega) hL (by omega)) (by simp) (by simp) (by simp) (by simp) hL (by simp[ae,ab,bg,idx]) (by simp[aK,aF,aT,idx]) ?_
  rintro r fp ⟨rfl,d',s5,L',hG,ma,rR,rfl⟩
  refine⟨_,_,_,rfl,by simp,ma,?_⟩
  simp
  refine aL.with [] [KB,KB+1,KB+2] ?_
  simp[fa,ma.refs,ma.aF,af]
  exact jh (hG.mono (by omega)) ma (by omega)
 refine TD.of (λs'=>∃j e qs N,Fls d ps L i j e qs N∧j≤ps[i].bk.length∧s'=R7 i ps.length e qs N) ?_ ?_
 ·simp
  refine jx.mw ps[i].bk.length (d,ps,L) (λj y=>Fls d ps L i j y.1 y.2.1 y.2.2) [0,1,4] (λ_ _=>[]) (λj y=>[(KB,.box (yE y.1 (KB+1) y.2.1.length (KB+2) y.2.2.length)),(KB+1,.arr 464 (y.2.1.map aP)),(KB+2,.arr 86 y.2.2)]) [.keep [0,1,4]] ?_
  simp
  refine⟨⟨.refl _ _ _,rfl,by simp,hL,by omega⟩,?_,?_⟩
  ·intro j e qs N hj hF K hK
   have hlen:=hF.g.xR.1
   have lE:i<qs.length:=by omega
   have hxq:qs[i]? =some qs[i]:=gJ lE
   have hsj:=hF.st lE hi
   obtain⟨b,r,hbr,hr,hbm⟩:∃b r,qs[i].bk=b::r∧r=ps[i].bk.drop (j+1)∧b∈ps[i].bk:=⟨ps[i].bk[j],_,by rw[hsj];exact List.drop_eq_getElem_cons hj,rfl,List.getElem_mem hj⟩
   simp[↓aA,hxq,hlen,hbr]
   refine al.mo KB (KB+1) (KB+2) (Cr e lE hF.nL) (by simp[hlen]) (by simp) (by simp) (by simp) hF.nL (by simp[ae,ab,bg,idx]) (by simp[aK,aF,aT,idx]) ?_
   rintro r0 fp ⟨rfl,rfl⟩
   refine⟨_,_,_,rfl,by simp,hF.nL,?_⟩
   simp[hlen]
   refine⟨λhu=> ?_,λhu=> ?_⟩
   ·obtain⟨e',p',N',hG,avc,hN',aBP,hT⟩:=DN lE (by have:=hF.g.timers;omega) hF.nL (by have:=hF.nl;omega) (DX b hbm).1 (DX b hbm).2 hu
    have alM:p'.bk=b::r:=by rw[avc,hbr]
    simp[lE,hbr]
    refine al.mo KB (KB+1) (KB+2) hT (by simp[hlen]) (by simp) (by simp) (by simp) hF.nL (by simp[ae,ab,bg,idx]) (by simp[aK,aF,aT,idx]) ?_
    rintro r0 fp ⟨rfl,rfl⟩
    refine⟨_,_,_,rfl,by simp,hN',?_⟩
    have es:PV.sl 1 (r.map eI) false=gi r:=rfl
    have eb:gi (b::r)= .sl 1 ((b::r).map eI) false:=rfl
    simp[hlen,hi,alM,eb,es]
    refine⟨by omega,[.keep [0,1,4]],?_⟩
    simp
    refine hK e' (qs.set i {p' with bk:=r}) N' _ (by simp[hlen,List.map_set]) ?_
    refine⟨(hF.g.trans (hG.1.Pr lE alM)),hG.2.trans hF.sl,λh h'=>by simp[hr],hN',by have:=hF.nl;omega⟩
   ·refine⟨[.keep [0,1,4]],?_⟩
    simp
    exact⟨j,e,qs,N,hF,by omega,by simp[R7,hlen]⟩
  ·intro e qs N hF K
   have hlen:=hF.g.xR.1
   have lE:i<qs.length:=by omega
   have hxq:qs[i]? =some qs[i]:=gJ lE
   have hsj:qs[i].bk=[]:=by rw[hF.st lE hi];simp
   simp[↓aA,hxq,hlen,hsj]
   refine⟨[.keep [0,1,4]],?_⟩
   simp
   exact⟨_,e,qs,N,hF,by omega,by simp[R7,hlen]⟩
 ·rintro s' ⟨j,e,qs,N,hF,hj,rfl⟩
  have hlen:=hF.g.xR.1
  have lE:i<qs.length:=by omega
  have hxq:qs[i]? =some qs[i]:=gJ lE
  have hNl:=hF.nl
  have htt:=hF.g.timers
  have hN:=hF.nL
  simp[R7,↓aA]
  refine al.mo KB (KB+1) (KB+2) (Yg (d:=e) (by omega) lE 2 hF.nL) (by simp[hlen]) (by simp[hlen]) (by simp) (by simp) hF.nL (by simp[ae,ab,bg,idx]) (by simp[aK,aF,aT,idx]) ?_
  rintro r0 fp ⟨rfl,rfl⟩
  refine⟨_,_,_,rfl,by simp,hF.nL,?_⟩
  simp
  refine⟨λhh=> ?_,λhh=> ?_⟩
  ·obtain⟨e1,⟨hG1,xz⟩,hS⟩:=DL (d:=e) (ps:=qs) (i:=i) (by omega) lE 2 (IntKind.i64.wrap (e.rules.QX+e.rules.ret)) hN
   refine al.mo KB (KB+1) (KB+2) hS (by simp[hlen]) (by simp[hlen]) (by simp) (by simp) hN (by simp[ae,ab,bg,idx]) (by simp[aK,aF,aT,idx]) ?_
   rintro r0 fp ⟨rfl,rfl⟩
   refine⟨_,_,_,rfl,by simp,hN,?_⟩
   have hg1:=hG1.timers
   simp
   obtain⟨e2,⟨hG2,xW⟩,hC⟩:=AD (d:=e1) (ps:=qs) (i:=i) (by omega) lE 3 hN
   refine al.mo KB (KB+1) (KB+2) hC (by simp[hlen]) (by simp[hlen]) (by simp) (by simp) hN (by simp[ae,ab,bg,idx]) (by simp[aK,aF,aT,idx]) ?_
   rintro r0 fp ⟨rfl,rfl⟩
   refine⟨_,_,_,rfl,by simp,hN,?_⟩
   have PE:e2.aM.length<32:=by rw[xW,xz,hF.sl];exact hs
   have Zt:∀s∈e2.aM,s.index≤1000:=by rw[xW,xz,hF.sl];exact hb
   have F6:=((hF.g.trans hG1).trans hG2)
   have hg2:=F6.timers
   by_cases a:qs[i].bk=[]
   ·by_cases b:qs[i].ring.c.ju.next<e2.rules.xP
    ·have b':¬e2.rules.xP≤qs[i].ring.c.ju.next:=by omega
     by_cases c:qs[i].ring.c.ju.M8=true
     ·simp[hlen,hi,a,b',c]
      refine a8.ret (df qs[i].ring.c.ju e2.now) (by simp) (by simp) (by simp) ?_
      simp
      refine⟨λf=> ?_,λf=> ?_⟩
      ·refine al.mo KB (KB+1) (KB+2) (oy (d:=e2) (ps:=qs) lE PE Zt (by omega) hN (by omega)) (by simp[hlen]) (by simp) (by simp) (by simp) hN (by simp[ae,ab,bg,idx]) (by simp[aK,aF,aT,idx]) ?_
       rintro r0 fp ⟨rfl,d',s5,L',hG,ma,rR,rfl⟩
       refine⟨_,_,_,rfl,by simp,ma,?_⟩
       simp
       refine aL.with [] [KB,KB+1,KB+2] ?_
       simp[fa,ma.refs,ma.aF,af]
       exact jh ((F6.trans hG).mono (by omega)) ma (by omega)
      ·refine aL.with [] [KB,KB+1,KB+2] ?_
       simp[fa,hN.refs,hN.aF,af]
       rw[←hlen];exact jh (F6.mono (by omega)) hN (by omega)
     ·simp[hlen,hi,a,b',c]
      refine aL.with [] [KB,KB+1,KB+2] ?_
      simp[fa,hN.refs,hN.aF,af]
      rw[←hlen];exact jh (F6.mono (by omega)) hN (by omega)
    ·have b':e2.rules.xP≤qs[i].ring.c.ju.next:=by omega
     simp[hlen,hi,a,b']
     refine al.mo KB (KB+1) (KB+2) (oy (d:=e2) (ps:=qs) lE PE Zt (by omega) hN (by omega)) (by simp[hlen]) (by simp) (by simp) (by simp) hN (by simp[ae,ab,bg,idx]) (by simp[aK,aF,aT,idx]) ?_
     rintro r0 fp ⟨rfl,d',s5,L',hG,ma,rR,rfl⟩
     refine⟨_,_,_,rfl,by simp,ma,?_⟩
     simp
     refine aL.with [] [KB,KB+1,KB+2] ?_
     simp[fa,ma.refs,ma.aF,af]
     exact jh ((F6.trans hG).mono (by omega)) ma (by omega)
   ·have a':0<qs[i].bk.length:=by cases h:qs[i].bk with|nil=>exact absurd h a|cons=>simp
    simp[hlen,hi,a']
    refine al.mo KB (KB+1) (KB+2) (oy (d:=e2) (ps:=qs) lE PE Zt (by omega) hN (by omega)) (by simp[hlen]) (by simp) (by simp) (by simp) hN (by simp[ae,ab,bg,idx]) (by simp[aK,aF,aT,idx]) ?_
    rintro r0 fp ⟨rfl,d',s5,L',hG,ma,rR,rfl⟩
    refine⟨_,_,_,rfl,by simp,ma,?_⟩
    simp
    refine aL.with [] [KB,KB+1,KB+2] ?_
    simp[fa,ma.refs,ma.aF,af]
    exact jh ((F6.trans hG).mono (by omega)) ma (by omega)
  ·obtain⟨e2,⟨hG2,xW⟩,hC⟩:=AD (d:=e) (ps:=qs) (i:=i) (by omega) lE 3 hN
   refine al.mo KB (KB+1) (KB+2) hC (by simp[hlen]) (by simp[hlen]) (by simp) (by simp) hN (by simp[ae,ab,bg,idx]) (by simp[aK,aF,aT,idx]) ?_
   rintro r0 fp ⟨rfl,rfl⟩
   refine⟨_,_,_,rfl,by simp,hN,?_⟩
   have PE:e2.aM.length<32:=by rw[xW,hF.sl];exact hs
   have Zt:∀s∈e2.aM,s.index≤1000:=by rw[xW,hF.sl];exact hb
   have F6:=(hF.g.trans hG2)
   have hg2:=F6.timers
   by_cases a:qs[i].bk=[]
   ·by_cases b:qs[i].ring.c.ju.next<e2.rules.xP
    ·have b':¬e2.rules.xP≤qs[i].ring.c.ju.next:=by omega
     by_cases c:qs[i].ring.c.ju.M8=true
     ·simp[hlen,hi,a,b',c]
      refine a8.ret (df qs[i].ring.c.ju e2.now) (by simp) (by simp) (by simp) ?_
      simp
      refine⟨λf=> ?_,λf=> ?_⟩
      ·refine al.mo KB (KB+1) (KB+2) (oy (d:=e2) (ps:=qs) lE PE Zt (by omega) hN (by omega)) (by simp[hlen]) (by simp) (by simp) (by simp) hN (by simp[ae,ab,bg,idx]) (by simp[aK,aF,aT,idx]) ?_
       rintro r0 fp ⟨rfl,d',s5,L',hG,ma,rR,rfl⟩
       refine⟨_,_,_,rfl,by simp,ma,?_⟩
       simp
       refine aL.with [] [KB,KB+1,KB+2] ?_
       simp[fa,ma.refs,ma.aF,af]
       exact jh ((F6.trans hG).mono (by omega)) ma (by omega)
      ·refine aL.with [] [KB,KB+1,KB+2] ?_
       simp[fa,hN.refs,hN.aF,af]
       rw[←hlen];exact jh (F6.mono (by omega)) hN (by omega)
     ·simp[hlen,hi,a,b',c]
      refine aL.with [] [KB,KB+1,KB+2] ?_
      simp[fa,hN.refs,hN.aF,af]
      rw[←hlen];exact jh (F6.mono (by omega)) hN (by omega)
    ·have b':e2.rules.xP≤qs[i].ring.c.ju.next:=by omega
     simp[hlen,hi,a,b']
     refine al.mo KB (KB+1) (KB+2) (oy (d:=e2) (ps:=qs) lE PE Zt (by omega) hN (by omega)) (by simp[hlen]) (by simp) (by simp) (by simp) hN (by simp[ae,ab,bg,idx]) (by simp[aK,aF,aT,idx]) ?_
     rintro r0 fp ⟨rfl,d',s5,L',hG,ma,rR,rfl⟩
     refine⟨_,_,_,rfl,by simp,ma,?_⟩
     simp
     refine aL.with [] [KB,KB+1,KB+2] ?_
     simp[fa,ma.refs,ma.aF,af]
     exact jh ((F6.trans hG).mono (by omega)) ma (by omega)
   ·have a':0<qs[i].bk.length:=by cases h:qs[i].bk with|nil=>exact absurd h a|cons=>simp
    simp[hlen,hi,a']
    refine al.mo KB (KB+1) (KB+2) (oy (d:=e2) (ps:=qs) lE PE Zt (by omega) hN (by omega)) (by simp[hlen]) (by simp) (by simp) (by simp) hN (by simp[ae,ab,bg,idx]) (by simp[aK,aF,aT,idx]) ?_
    rintro r0 fp ⟨rfl,d',s5,L',hG,ma,rR,rfl⟩
    refine⟨_,_,_,rfl,by simp,ma,?_⟩
    simp
    refine aL.with [] [KB,KB+1,KB+2] ?_
    simp[fa,ma.refs,ma.aF,af]
    exact jh ((F6.trans hG).mono (by omega)) ma (by omega)
end Go.Ab
end Q11s
