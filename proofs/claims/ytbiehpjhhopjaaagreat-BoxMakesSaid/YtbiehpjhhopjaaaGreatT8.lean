/- Walks, laws. -/
import Derived.Test.YtbiehpjhhopjaaaGreatT6
import Derived.Test.YtbiehpjhhopjaaaGreatT5
set_option linter.all false
set_option maxRecDepth 100000
set_option maxHeartbeats 16000000
namespace Go.Proofs.YtbiehpjhhopjaaaGreat
open _root_ renaming Array->aL,Bool->aU,Bool.false->aW,Decidable.decide->ab,List->aq,Int->ar,Nat->av,Option->ax,Bool.true->bl,Option.none->bn,Option.some->bt,absurd->cv
open Go renaming World->aj,RowKit.Hid->bG,Addr->bR,TypeId->bT,Value->bw,RowKit.Below->cB,Value.slice->cJ,Ending.returned->cL,Obj.cells->cO,Value.agg->cZ,World.setCell->cd,World.alloc->cj,wpQuiet_nil->cl,Operand.tmp->dk
open Go.RowKit Go.Sort Tryz
variable {W w:aj}{S:av->aU}{G i j:av}{x:Pl}{cs:aL bw}{T:bT}
def old (n:av):av->aU:=fun b=>ab (b<n)
def SI (w:aj) (x:Pl) (e:Ending) (w':aj):Prop:= ∃a1 c1 a2 c2 a3 c3 a4 c4,e=cL (aT x (js a1 x.S c1) (js a2 x.P c2) (js a3 x.G c3) (js a4 x.R c4))/\bN (bK (old w) w') (js a1 x.S c1) (js a2 x.P c2) (js a3 x.G c3) (js a4 x.R c4) x/\jb w w'
def aJ {α:Type}(W:aj) (B:av) (T:bT) (sz:av) (v:bw) (R:av->aq bw->α->Prop) (l:aq α):Prop:= ∃xss:aq (aq bw),W.ownsRow B T sz v xss (xss.flatMap id)/\xss.length=l.length/\(∀y∈xss,y.length=sz)/\ ∀i (h:i<xss.length) (h':i<l.length),R i xss[i] l[i]
section
variable {α:Type}{W W':aj}{B T sz:av}{v:bw}{R R':av->aq bw->α->Prop}{l:aq α}
def aJ.below (h:aJ W B T sz v R l) (H:jb W W'):aJ W' B T sz v R l:=by
 obtain⟨xss,h1,h2⟩:=h;exact⟨xss,bU h1 H,h2⟩
def aJ.base (h:aJ W B T sz v R l){B':av}(H:B'<=B):aJ W B' T sz v R l:=by
 obtain⟨xss,h1,h2⟩:=h;exact⟨xss,bW h1 H,h2⟩
def aJ.setCell (h:aJ W B T sz v R l){a:bR}(H:a.block<B) (u:bw):aJ (W.setCell a u) B T sz v R l:=by
 obtain⟨xss,h1,h2⟩:=h;exact⟨xss,aV h1 H u,h2⟩
def aJ.imp (h:aJ W B T sz v R l) (H: ∀i V x,R i V x->R' i V x):aJ W B T sz v R' l:=by
 obtain⟨xss,h1,h2,h3,h4⟩:=h;exact⟨xss,h1,h2,h3,fun i k K=>H _ _ _ (h4 i k K)⟩
def aJ.lim (h:aJ W B T sz v R l) (H: ∀i V x,i<l.length->R i V x->R' i V x):aJ W B T sz v R' l:=by
 obtain⟨xss,h1,h2,h3,h4⟩:=h;exact⟨xss,h1,h2,h3,fun i k K=>H _ _ _ K (h4 i k K)⟩
def aJ.slice (h:aJ W B T sz v R l): ∃a c,v=cJ a l c:=by
 obtain⟨xss,h1,h2,-⟩:=h;obtain⟨a,c,e⟩:=iG h1;exact⟨a,c,by rw[e,h2]⟩
def aJ.only (h:aJ W B T sz v R l){g:av}(a:aZ g W W') (H:v.ownBlock≠bt g):aJ W' B T sz v R l:=by
 obtain⟨xss,h1,h2⟩:=h;exact⟨xss,a.own h1 H,h2⟩
def aJ.off (h:aJ W B T sz v R l)(H: ∀k,B<=k->S k=aW):aJ (bK S W) B T sz v R l:=by
 obtain⟨xss,h1,h2⟩:=h;exact⟨xss,BN h1 (fun k a=>H k (by obtain⟨c,q,hq⟩:=fD h1 a;omega)),h2⟩
def aJ.get {a:ax bR}{n c:av}(h:aJ W B T sz (js a n c) R l)(o:i<l.length): ∃g V,a=bt ⟨g,0,bn⟩/\B<=g/\(∃cur,jk W g cur T)/\V.length=sz/\R i V l[i]/\ ∀j (hj:j<V.length),jc W g (i * sz+j) V[j]:=by
 obtain⟨xss,h1,h2,h3,h4⟩:=h;have H:i<xss.length:=ed
 rcases h1.2 with⟨e,h0⟩ | ⟨g,cap,cur,e,b,d,p,q,hz,r⟩
 ·cases e;omega
 cases e;refine⟨g,xss[i],rfl,b,⟨cur,d⟩,h3 _ (Nn _),h4 i H o,fun j hj=> ?_⟩;have f:j<sz:=by rw[<-h3 _ (Nn H)];exact hj
 have k1:(xss.flatMap id)[i * sz+j]? =bt (xss[i]'H)[j]:=by rw[rB id sz xss i j H h3 f,id,Nf hj]
 have k2:=h1.cells (g:=g) rfl (i * sz+j) _ k1;rw[oB]at k2;exact k2
def aJ.put {g n c:av}(h:aJ W B T sz (jq g 0 n c) R l)(o:i<l.length) (V:aq bw) (H:V.length=sz) (f:R' i V l[i]) (a: ∀j,j≠i-> ∀V y,R j V y->R' j V y):aJ (W.setCells g (i * sz) V) B T sz (jq g 0 n c) R' l:=by
 obtain⟨xss,h1,h2,h3,h4⟩:=h;obtain⟨A,C,e⟩:=iG h1;cases e;have hx:i<xss.length:=ed
 have hfl:=pC id sz xss h3
 have p:i * sz+sz<=(xss.flatMap id).length:=by
  exact Mc
 have k:=SN V (i * sz) _ W h1 ed;rw[SJ sz xss i V hx h3 H]at k;refine⟨xss.set i V,by rw[Tj];exact k,by rw[Tj];exact h2,fun y b=> ?_,fun j hj d=> ?_⟩
 ·rcases Ir b with b | rfl
  ·exact h3 y b
  exact H
 by_cases e:j=i
 ·subst e;rw[aq.getElem_set_self];exact f
 rw[aq.getElem_set_ne (Sr e)];exact a _ e _ _ (h4 j (by simpa using hj) d)
def aJ.put1 {g n c:av}(h:aJ W B T sz (jq g 0 n c) R l)(d:i<l.length)(hj:j<sz) (u:bw) (f: ∀V,V.length=sz->R i V l[i]->R' i (V.set j u) l[i]) (H: ∀j,j≠i-> ∀V y,R j V y->R' j V y):aJ (W.setCell ⟨g,i * sz+j,bn⟩ u) B T sz (jq g 0 n c) R' l:=by
 obtain⟨xss,h1,h2,h3,h4⟩:=h;obtain⟨A,C,e⟩:=iG h1;cases e;have hx:i<xss.length:=ed
 have hfl:=pC id sz xss h3
 have o:i * sz+sz<=(xss.flatMap id).length:=by
  exact Mc
 have k:=SP h1 (i:=i * sz+j) ed u;rw[SO sz xss i j hx u h3 hj]at k;refine⟨xss.set i (xss[i].set j u),by rw[Tj];exact k,by rw[Tj];exact h2,fun y a=> ?_,fun m hi b=> ?_⟩
 ·rcases Ir a with a | rfl
  ·exact h3 y a
  rw[Tj];exact h3 _ (Nn hx)
 by_cases e:m=i
 ·subst e;rw[aq.getElem_set_self];exact f _ (h3 _ (Nn hx)) (h4 m hx d)
 rw[aq.getElem_set_ne (Sr e)];exact H _ e _ _ (h4 m Og b)
def aJ.sl {R2:aj->aq bw->α->Prop}(h:aJ W B T sz v (fun _=>R2 W) l):Sl W sz R2 v l:=by
 obtain⟨xss,h1,h2,h3,h4⟩:=h;exact z4o h1 h2 h3 h4
def kU {W:aj}{B T sz n:av}{v:bw}{xs:aq bw}(h:W.ownsRow B T sz v n xs)(H: ∀k,B<=k->S k=aW):(bK S W).ownsRow B T sz v n xs:=BN h fun k a=>H k (by obtain⟨c,q,hq⟩:=fD h a;omega)
def bM.off {W:aj}{B:av}{v1 v2 v3:bw}{r:Rt}(h:bM W B v1 v2 v3 r)(H: ∀k,B<=k->S k=aW):dY (bK S W) v1 v2 v3 r:=
 bM.m (B:=B) ⟨kU h.1 H,kU h.2.1 H,kU h.2.2 H⟩
def vX {s:av->aU}{W:aj}(h: ∀k,S k=aW->s k=aW):eD (bK S W) (bK s W):=fun a v e=>by
 obtain⟨h1,h2⟩:=pL e
 exact uC e (h _ h1) (fun h0=>by
  cases hs:S 0 with
  | true=>rfl
  | false=>rw[h 0 hs]at h0;cases h0) rfl
def kT {n m:av}{W:aj}(h:n<=m):eD (bK (old m) W) (bK (old n) W):=vX fun k H=>by unfold old at *;simp at *;omega
def bN.ext {a:aj}{s p g r:bw}(h:bN w s p g r x) (he:eD w a):bN a s p g r x:=⟨h.S.ext mL he,h.P.ext z4j he,h.G.ext z4k he,h.R.ext oX he⟩
end
def kD (G:av) (S R:bw) (k i:av):av->aU:=fun b=>(ab (i<k)&&ab (b<G)) || decide (b=G) || decide (b=G+1) || decide (S.ownBlock=bt b) || decide (R.ownBlock=bt b)
structure PT (w:aj) (x:Pl) (S P Q R:bw) (k m:av) (W:aj):Prop where
 bel:jb w W
 sz:w.heap.size+2<=W.heap.size
 row:jk W w #[x.ver,x.par,S,P,Q,R] 28
 zr:jk W (w+1) #[jV 0,jV 0,jN,jN,jN,jN] 28
 p:W.ownsRow (w+2) 143 2 P x.P (x.P.flatMap oO)
 q:W.ownsRow (w+2) 145 3 Q x.G (x.G.flatMap oM)
 s:aJ W (w+2) 80 3 S (fun i=>cU (bK (kD w S R k i) W)) x.S
 r:aJ W (w+2) 102 7 R (fun i=>fH (bK (kD w S R m i) W)) x.R
def PT.below {S P Q R:bw}{k m:av}{W':aj}(h:PT w x S P Q R k m W) (H:jb W W'):PT w x S P Q R k m W':=
 ⟨jt h.bel H,Nj h.sz H.size,(jm H h.row),(jm H h.zr),bU h.p H,bU h.q H,(h.s.below H).imp fun _ V y k=>mL _ _ _ _ (eV H) k,(h.r.below H).imp fun _ V y k=>oX _ _ _ _ (eV H) k⟩
def SG {α β:Type}{S R:bw}{T t sz s:av}{F:av->aq bw->α->Prop}{f:av->aq bw->β->Prop}{l:aq α}{m:aq β}(h:aJ W (G+2) T sz S F l) (k:aJ W (G+2) t s R f m) (i:av){b:av}(H:b<G):kD G S R 0 i b=aW:=by
 obtain⟨_,h1,-⟩:=h;obtain⟨_,k1,-⟩:=k;unfold kD;rw[Mw (p:=S.ownBlock=bt b) (fun e=>by obtain⟨c,q,hq⟩:=fD h1 e;omega),Mw (p:=R.ownBlock=bt b) (fun e=>by obtain⟨c,q,hq⟩:=fD k1 e;omega),Mw (p:=b=G) ed,Mw (p:=b=G+1) ed,Mw (p:=i<0) ed];rfl
section
variable {w W W':aj}{x:Pl}{S P Q R:bw}{k m:av}
def PT.new (h:PT w x S P Q R k m W){b:av}(H:W.heap.size<=b) (K i:av):kD w S R K i b=aW:=by
 obtain⟨_,h1,-⟩:=h.s;obtain⟨_,k1,-⟩:=h.r;have:=h.sz;unfold kD;rw[Mw (p:=S.ownBlock=bt b) (fun e=>by obtain⟨c,q,hq⟩:=fD h1 e;have:=aD q;omega),Mw (p:=R.ownBlock=bt b) (fun e=>by obtain⟨c,q,hq⟩:=fD k1 e;have:=aD q;omega),Mw (p:=b=w.heap.size) ed,Mw (p:=b=w.heap.size+1) ed,Mw (p:=b<w.heap.size) ed,aU.and_false];rfl
def SF {S R:bw}{k:av}(h:j≠k):kD G S R (k+1) j=kD G S R k j:=by
 funext b
 unfold kD;rw[show ab (j<k+1)=ab (j<k)by rw[Ss];omega]
def PT.setS {g n d:av}(h:PT w x (jq g 0 n d) P Q R k m W) (i:k<x.S.length){u:bw}(o:vH (bK (kD w (jq g 0 n d) R (k+1) k) W) u x.S[k].ends):PT w x (jq g 0 n d) P Q R (k+1) m (W.setCell ⟨g,k * 3+2,bn⟩ u):=by
 obtain⟨G,V,e,r,⟨cur,H⟩,-,-,-⟩:=h.s.get i;obtain rfl:g=G:=by cases e;rfl
 have c:aZ g W (W.setCell ⟨g,k * 3+2,bn⟩ u):=aZ.set W ⟨g,k * 3+2,bn⟩ u;have f: ∀a b,kD w (jq g 0 n d) R a b g=bl:=fun a b=>by unfold kD;simp[bw.ownBlock]
 refine⟨c.below h.bel ed,by rw[c.size];exact h.sz,(c.block _ ed).trans h.row,(c.block _ ed).trans h.zr,c.own h.p (vY h.p H eh),c.own h.q (vY h.q H eh),?_,?_⟩
 ·refine h.s.put1 i ed u (fun V _ p=> ?_) (fun j hj V y q=> ?_)
  ·obtain⟨e,rfl,-⟩:=p;exact⟨u,rfl,o.ext DW (c.off (f _ _))⟩
  show cU (bK (kD _ _ _ (k+1) j) _) _ _;rw[SF hj];exact mL _ _ _ _ (c.off (f _ _)) q
 obtain⟨Y,h1,-⟩:=h.r;exact(h.r.only c (vY h1 H eh)).imp fun _ V y k=>oX _ _ _ _ (c.off (f _ _)) k
def PT.setR {g n d:av}(h:PT w x S P Q (jq g 0 n d) k m W) (o:m<x.R.length){a b c:bw}(p:dY (bK (kD w S (jq g 0 n d) (m+1) m) W) a b c x.R[m]):PT w x S P Q (jq g 0 n d) k (m+1) (W.setCells g (m * 7) [jV x.R[m].id,jV x.R[m].E,jV x.R[m].X,a,b,c,jV x.R[m].T]):=by
 obtain⟨G,V,e,r,⟨cur,H⟩,-,-,-⟩:=h.r.get o;obtain rfl:g=G:=by cases e;rfl
 have f:=aZ.cells g [jV x.R[m].id,jV x.R[m].E,jV x.R[m].X,a,b,c,jV x.R[m].T] (m * 7) W;have i: ∀a b,kD w S (jq g 0 n d) a b g=bl:=fun a b=>by unfold kD;simp[bw.ownBlock]
 refine⟨f.below h.bel ed,by rw[f.size];exact h.sz,(f.block _ ed).trans h.row,(f.block _ ed).trans h.zr,f.own h.p (vY h.p H eh),f.own h.q (vY h.q H eh),?_,?_⟩
 ·obtain⟨Y,h1,-⟩:=h.s;exact(h.s.only f (vY h1 H eh)).imp fun _ V y k=>mL _ _ _ _ (f.off (i _ _)) k
 refine h.r.put o _ rfl ⟨a,b,c,rfl,p.ext (f.off (i _ _))⟩ (fun j hj V y q=> ?_);show fH (bK (kD _ _ _ (m+1) j) _) _ _;rw[SF hj];exact oX _ _ _ _ (f.off (i _ _)) q
def PT.done (h:PT w x S P Q R x.S.length x.R.length W) (H:aZ (w.heap.size+1) W W'):bN (bK (old w.heap.size) W') S P Q R x/\jb w W':=by
 have p: ∀a b,kD w.heap.size S R a b (w.heap.size+1)=bl:=fun a b=>by unfold kD;simp
 have j: ∀b,w.heap.size+2<=b->old w.heap.size b=aW:=fun b o=>ZG
 have he: ∀n i,i<n->eD (bK (kD w.heap.size S R n i) W) (bK (old w.heap.size) W'):=fun n i g=>(H.off (p _ _)).trans (vX fun b o=>by
  unfold kD at o;simp only[Sd,aU.and_eq_false_iff,Ns]at o;unfold old;simp only[Ns]
  omega)
 have N: ∀ {T sz n:av}{v:bw}{xs:aq bw},W.ownsRow (w.heap.size+2) T sz v n xs->v.ownBlock≠bt (w.heap.size+1):=fun d e=>by obtain⟨c,q,hq⟩:=fD d e;omega
 have of: ∀ {T sz n:av}{v:bw}{xs:aq bw},W.ownsRow (w.heap.size+2) T sz v n xs->(bK (old w.heap.size) W').ownsRow (w.heap.size+2) T sz v n xs:=fun d=>BN (H.own d (N d)) fun k r=>j k (by obtain⟨c,q,hq⟩:=fD d r;omega);refine⟨⟨?_,?_,?_,?_⟩,H.below h.bel ed⟩
 ·obtain⟨Y,h1,-⟩:=h.s;exact(((h.s.only H (N h1)).lim fun i V y g k=>mL _ _ _ _ (he _ i g) k).off j).sl
 ·exact kK (f:=oO) (of h.p) (fun _ _=>rfl) (fun _ _=>rfl)
 ·exact kK (f:=oM) (of h.q) (fun _ _=>rfl) (fun _ _=>rfl)
 obtain⟨Y,h1,-⟩:=h.r;exact(((h.r.only H (N h1)).lim fun i V y g k=>oX _ _ _ _ (he _ i g) k).off j).sl
end
theorem GU (x:Pl) (s q g r:bw) (w:aj) (hx:bN w s q g r x) (a2:x.Fit):
  jW 61 #[aT x s q g r] w (SI w x):=by
 have d3:=hI a2;obtain⟨a4,a5,rfl,m1⟩:=hx.S;obtain⟨b4,b5,rfl,m3⟩:=hx.P;obtain⟨b0,b3,rfl,m5⟩:=hx.G;obtain⟨a7,a8,rfl,m7⟩:=hx.R;have H7:=hI fun W H=>z2o b4 b5 x.P W (m3.below lT H) a2.P;have H8:=hI fun W H=>z2p b0 b3 x.G W (m5.below lA H) a2.G
 have c4: ∀ {α:Type}{sz:av}{R:aj->aq bw->α->Prop}{a:ax bR}{c:av}{l:aq α}(W:aj),jb w W->aB w sz R a c l->aB W sz (fun _=>R w) a c l:=fun W H h=>⟨h.le,h.nil,fun i e4=>by
  obtain⟨b,off,b8,e,hl,e1,e5⟩:=h.at_ i e4
  exact⟨b,off,b8,e,hl,fun j hj=>(H.cell (Mt (e1 j hj))).trans (e1 j hj),e5⟩⟩
 have H9:bG (∀W,jb w W->jW 125 #[js a4 x.S a5] W fun e b9=> ∃v,e=cL v/\aJ b9 W 80 3 v (fun _=>cU w) x.S/\jb W b9):=fun W H=>(z2r a4 a5 x.S w W (c4 W H m1) a2.S).mono (by rintro e b9 ⟨v,xss,rfl,h1,h2,h3,h4,h5⟩;exact⟨v,rfl,⟨xss,h1,h2,h3,h4⟩,h5⟩);have d5:bG (∀W,jb w W->jW 126 #[js a7 x.R a8] W fun e b9=> ∃v,e=cL v/\aJ b9 W 102 7 v (fun _=>fH w) x.R/\jb W b9):=fun W H=>(z2s a7 a8 x.R w W (c4 W H m7) a2.R).mono (by rintro e b9 ⟨v,xss,rfl,h1,h2,h3,h4,h5⟩;exact⟨v,rfl,⟨xss,h1,h2,h3,h4⟩,h5⟩);have e6:=hI fun W Z y2 l h hl=>z2q Z y2 l W h hl;have e7:=hI fun W r p1 o1 f1 p2 I o2 o3 f2 J h e8=>z4i r p1 o1 f1 p2 I o2 o3 f2 J W h e8;clear hx a2 m1 m3 m5 m7;unfold aT;go_in;go_upto_region 1 with fail;generalize c5:cj _ _=W0;have a3:=hI (wZ c5)
 clear c5;refine Vr ?_;refine iH [7,9] (fun W=>jc W w 3 (js b4 x.P b5)/\jc W w 4 (js b0 x.G b3)) ef ?_;intro V L p;have F0:=hI (a3.below p);have D:jc V w 3 (js b4 x.P b5)/\jc V w 4 (js b0 x.G b3):=⟨(Mu V _ 3 _ _ _ (F0.row 0 _ rfl)).trans rfl,(Mu V _ 4 _ _ _ (F0.row 0 _ rfl)).trans rfl⟩;have t0: ∀t:aX (fun W=>jc W w 3 (js b4 x.P b5)/\jc W w 4 (js b0 x.G b3)),jc t.w w 3 (js b4 x.P b5):=fun t=>t.h.1;have t1: ∀t:aX (fun W=>jc W w 3 (js b4 x.P b5)/\jc W w 4 (js b0 x.G b3)),jc t.w w 4 (js b0 x.G b3):=fun t=>t.h.2;clear L p a3 ;refine zB [0,1,3,4] D ?_;clear t0 t1;refine aS 2 ef ?_;refine Oe (H7 V F0.bel) fun K hK=>?_;rintro e C ⟨u,rfl,h1,H⟩;simp[go_sem];have D0:jc C w 3 (js b4 x.P b5)/\jc C w 4 (js b0 x.G b3):=⟨(H.cell (Mt D.1)).trans D.1,(H.cell (Mt D.2)).trans D.2⟩;refine Ob ?_;clear hK K;have F1:=hI (F0.below H);have O0:=hI (bW h1 (show w.heap.size+2<=V.heap.size from F0.sz));obtain⟨b1,d1,b6⟩:=iG O0;subst b6;clear h1 H D F0 ;refine zB [6] D0 ?_;refine aS 5 ef ?_;refine Oe (H8 C F1.bel) fun K hK=>?_;rintro e V2 ⟨u,rfl,h1,H⟩;simp[go_sem];have D2:jc V2 w 3 (js b4 x.P b5)/\jc V2 w 4 (js b0 x.G b3):=⟨(H.cell (Mt D0.1)).trans D0.1,(H.cell (Mt D0.2)).trans D0.2⟩;refine hK _ _ (fun _=>D2) ?_;clear hK K;have F:=hI (F1.below H);have O1:=hI (bW h1 (show w.heap.size+2<=C.heap.size from F1.sz));have P0:=hI (bU O0 H);obtain⟨b2,d2,b6⟩:=iG O1;subst b6;clear h1 H D0 F1 O0 ;refine aS 7 ef ?_;intro K hK;have a0:=(Mu V2 _ 3 _ _ _ (F.row 0 _ rfl)).trans rfl;have fz: ∀o,V2.frozen? ⟨w,o,bn⟩=aW:=fun o=>Ry
 have c9:jc V2 w 3 (js b4 x.P b5):=a0;refine Vi ?_;refine .inl (hK _ _ (fun h=>cv h eh) ?_);clear hK K a0 c9 fz;have F3:bG (Fr w [(#[x.ver,x.par,js a4 x.S a5,js b1 x.P d1,js b0 x.G b3,js a7 x.R a8],28),(#[jV 0,jV 0,jN,jN,jN,jN],28)] (cd V2 ⟨w,3,bn⟩ (js b1 x.P d1))):=F.set 0 rfl 3 (js b1 x.P d1);have O2:=hI (aV O1 (a:=⟨w,3,bn⟩) ee (js b1 x.P d1));have P1:=hI (aV P0 (a:=⟨w,3,bn⟩) ee (js b1 x.P d1));clear F O1 P0 D2 ;generalize cd V2 ⟨w,3,bn⟩ _=V3 at *;refine tO 8 ef Qd (fun h=>cv h eh) ?_;intro K hK o c0;simp at c0;subst c0;refine Qo ?_;refine aS 9 ef ?_;intro K hK;have a0:=(Mu V3 _ 4 _ _ _ (F3.row 0 _ rfl)).trans rfl;have fz: ∀o,V3.frozen? ⟨w,o,bn⟩=aW:=fun o=>by have:=F3.row 0 _ rfl;simp[aj.frozen?,show V3.heap[w.heap.size]? =_ from this]
 have c9:jc V3 w 4 (js b0 x.G b3):=a0;refine Vi ?_;refine .inl (hK _ _ (fun h=>cv h eh) ?_);clear hK K a0 c9 fz;have a3:bG (Fr w [(#[x.ver,x.par,js a4 x.S a5,js b1 x.P d1,js b2 x.G d2,js a7 x.R a8],28),(#[jV 0,jV 0,jN,jN,jN,jN],28)] (cd V3 ⟨w,4,bn⟩ (js b2 x.G d2))):=F3.set 0 rfl 4 (js b2 x.G d2);have O3:=hI (aV O2 (a:=⟨w,4,bn⟩) ee (js b2 x.G d2));have P2:=hI (aV P1 (a:=⟨w,4,bn⟩) ee (js b2 x.G d2));clear F3 O2 P1 ;generalize cd V3 ⟨w,4,bn⟩ _=V4 at *;refine eI ef ?_ _;have A0:=P2;have A1:=O3;clear P2 O3;go_upto_region 2 with fail;refine iH [7,9] (fun W=>jc W w 2 (js a4 x.S a5)/\jc W w 5 (js a7 x.R a8)) ef ?_;intro U0 c6 a1;have F0:=hI (a3.below a1);have A2:=hI (bU A0 a1);have A3:=hI (bU A1 a1);have D:jc U0 w 2 (js a4 x.S a5)/\jc U0 w 5 (js a7 x.R a8):=⟨(Mu U0 _ 2 _ _ _ (F0.row 0 _ rfl)).trans rfl,(Mu U0 _ 5 _ _ _ (F0.row 0 _ rfl)).trans rfl⟩;have t0: ∀t:aX (fun W=>jc W w 2 (js a4 x.S a5)/\jc W w 5 (js a7 x.R a8)),jc t.w w 2 (js a4 x.S a5):=fun t=>t.h.1;have t1: ∀t:aX (fun W=>jc W w 2 (js a4 x.S a5)/\jc W w 5 (js a7 x.R a8)),jc t.w w 5 (js a7 x.R a8):=fun t=>t.h.2;clear c6 a1 a3 A0 A1;refine zB [0,1,3,4] D ?_;clear t0 t1;refine aS 2 ef ?_;refine Oe (H9 U0 F0.bel) fun K hK=>?_;rintro e U1 ⟨u,rfl,h1,H⟩;simp[go_sem];have D0:jc U1 w 2 (js a4 x.S a5)/\jc U1 w 5 (js a7 x.R a8):=⟨(H.cell (Mt D.1)).trans D.1,(H.cell (Mt D.2)).trans D.2⟩;refine Ob ?_;clear hK K;have F1:=hI (F0.below H);have O0:=hI (aJ.base h1 (show w.heap.size+2<=U0.heap.size from F0.sz));have A4:=hI (bU A2 H);have A5:=hI (bU A3 H);obtain⟨N,A,b6⟩:=aJ.slice O0;subst b6;clear h1 H D F0 A2 A3;refine zB [6] D0 ?_;refine aS 5 ef ?_;refine Oe (d5 U1 F1.bel) fun K hK=>?_;rintro e U2 ⟨u,rfl,h1,H⟩;simp[go_sem]
 have D2:jc U2 w 2 (js a4 x.S a5)/\jc U2 w 5 (js a7 x.R a8):=⟨(H.cell (Mt D0.1)).trans D0.1,(H.cell (Mt D0.2)).trans D0.2⟩;refine hK _ _ (fun _=>D2) ?_;clear hK K;have F:=hI (F1.below H);have O1:=hI (aJ.base h1 (show w.heap.size+2<=U1.heap.size from F1.sz));have P0:=hI (aJ.below O0 H);have A6:=hI (bU A4 H);have A7:=hI (bU A5 H);obtain⟨O,z,b6⟩:=aJ.slice O1;subst b6;clear h1 H D0 F1 O0 A4 A5;refine aS 7 ef ?_;intro K hK;have a0:=(Mu U2 _ 2 _ _ _ (F.row 0 _ rfl)).trans rfl;have fz: ∀o,U2.frozen? ⟨w,o,bn⟩=aW:=fun o=>by have:=F.row 0 _ rfl;simp[aj.frozen?,show U2.heap[w.heap.size]? =_ from this]
 have c9:jc U2 w 2 (js a4 x.S a5):=a0;refine Vi ?_;refine .inl (hK _ _ (fun h=>cv h eh) ?_);clear hK K a0 c9 fz;have F3:bG (Fr w [(#[x.ver,x.par,js N x.S A,js b1 x.P d1,js b2 x.G d2,js a7 x.R a8],28),(#[jV 0,jV 0,jN,jN,jN,jN],28)] (cd U2 ⟨w,2,bn⟩ (js N x.S A))):=F.set 0 rfl 2 (js N x.S A);have O2:=hI (aJ.setCell O1 (a:=⟨w,2,bn⟩) ee (js N x.S A));have P1:=hI (aJ.setCell P0 (a:=⟨w,2,bn⟩) ee (js N x.S A));have A8:=hI (aV A6 (a:=⟨w,2,bn⟩) ee (js N x.S A));have A9:=hI (aV A7 (a:=⟨w,2,bn⟩) ee (js N x.S A));clear F O1 P0 D2 A6 A7;generalize cd U2 ⟨w,2,bn⟩ _=U3 at *;refine tO 8 ef Qd (fun h=>cv h eh) ?_;intro K hK o c0;simp at c0;subst c0;refine Qo ?_;refine aS 9 ef ?_;intro K hK;have a0:=(Mu U3 _ 5 _ _ _ (F3.row 0 _ rfl)).trans rfl;have fz: ∀o,U3.frozen? ⟨w,o,bn⟩=aW:=fun o=>by have:=F3.row 0 _ rfl;simp[aj.frozen?,show U3.heap[w.heap.size]? =_ from this]
 have c9:jc U3 w 5 (js a7 x.R a8):=a0;refine Vi ?_;refine .inl (hK _ _ (fun h=>cv h eh) ?_);clear hK K a0 c9 fz;have a3:bG (Fr w [(#[x.ver,x.par,js N x.S A,js b1 x.P d1,js b2 x.G d2,js O x.R z],28),(#[jV 0,jV 0,jN,jN,jN,jN],28)] (cd U3 ⟨w,5,bn⟩ (js O x.R z))):=F3.set 0 rfl 5 (js O x.R z);have O3:=hI (aJ.setCell O2 (a:=⟨w,5,bn⟩) ee (js O x.R z));have P2:=hI (aJ.setCell P1 (a:=⟨w,5,bn⟩) ee (js O x.R z));have A0:=hI (aV A8 (a:=⟨w,5,bn⟩) ee (js O x.R z));have A1:=hI (aV A9 (a:=⟨w,5,bn⟩) ee (js O x.R z));clear F3 O2 P1 A8 A9;generalize cd U3 ⟨w,5,bn⟩ _=U4 at *;refine eI ef ?_ _;have H4:bG (PT w x (js N x.S A) (js b1 x.P d1) (js b2 x.G d2) (js O x.R z) 0 0 U4):=⟨a3.bel,a3.sz,a3.row 0 _ rfl,a3.row 1 _ rfl,A0,A1,P2.imp fun i b8 y k=>mL _ _ _ _ (SR a3.bel (fun b H=>SG P2 O3 i H)) k,O3.imp fun i b8 y k=>oX _ _ _ _ (SR a3.bel (fun b H=>SG P2 O3 i H)) k⟩;clear a3 P2 O3 A0 A1;have x2:jc U4 w 2 (js N x.S A):=jr H4.row;go_wp2_with fail;go_loopg [26] x.S.length (fun g i wr=> ∃(k:av),k<=x.S.length/\g=x.S.length-k/\i= jV k/\PT w x (js N x.S A) (js b1 x.P d1) (js b2 x.G d2) (js O x.R z) k 0 wr)
 ·exact⟨0,ed,ed,rfl,H4⟩
 clear H4 x2;obtain⟨k,f5,rfl,rfl,M⟩:=hrel;have b7:x.S.length<=1000:=d3.S;by_cases U:k<x.S.length
 ·have hd:ab ((k:ar)<(x.S:ar))=bl:=em;have e9:(0:ar)<=(k:ar):=ed;have f0:(k:ar)<(x.S:ar):=ed;obtain⟨g3,b8,rfl,d6,⟨cur,hB9⟩,a6,⟨en,rfl,d7⟩,n⟩:=M.s.get U;obtain⟨Z,y2,rfl,c7⟩:=d7;have z0:jc wr g3 (k * 3) x.S[k].id:=n 0 ee;have z1:jc wr g3 (k * 3+1) x.S[k].pt:=n 1 ee;have z2:jc wr g3 (k * 3+2) (js Z x.S[k].ends.length y2):=n 2 ee;clear n;go_upto_region 6 with fail;generalize hV:cj _ _=W4;have X:jb wr W4:=Ub;have H0:=hI (M.below X);have H1:bG (jk W4 wr #[x.S[k].id,x.S[k].pt,js Z x.S[k].ends.length y2] 80):=(by show _=_;rw[<-hV];exact Nc _ _);have H2:bG (aB W4 2 fI Z y2 x.S[k].ends):=(c7.ext DW (mZ _ _)).below lB X;have c8:=hI U;have H5:=hI (d3.ends k U);clear hV c7 z0 z1 z2 hB9 d6 M X;refine iH [8] (fun W=>jc W w 2 (jq g3 0 x.S A)/\jc W wr 2 (js Z x.S[k].ends.length y2)) ef ?_;intro V L p;have E:=hI (H0.below p);have H3:bG (aB V 2 fI Z y2 x.S[k].ends):=H2.below lB p;have D:jc V w 2 (jq g3 0 x.S A)/\jc V wr 2 (js Z x.S[k].ends.length y2):=⟨(Mu V _ 2 _ _ _ E.row).trans rfl,(Mu V _ 2 _ _ _ ((jm p H1))).trans rfl⟩;clear L p H0 H1 H2;have t0: ∀t:aX (fun W=>jc W w 2 (jq g3 0 x.S A)/\jc W wr 2 (js Z x.S[k].ends.length y2)),jc t.w w 2 (jq g3 0 x.S A):=fun t=>t.h.1;have t1: ∀t:aX (fun W=>jc W w 2 (jq g3 0 x.S A)/\jc W wr 2 (js Z x.S[k].ends.length y2)),jc t.w wr 2 (js Z x.S[k].ends.length y2):=fun t=>t.h.2;refine zB [0,2,3,1,4] D ?_;clear t0 t1;refine aS 5 ef ?_;refine Oe (e6 V Z y2 x.S[k].ends H3 H5) fun K hK=>?_;rintro e C ⟨u,rfl,h1,H⟩;simp[go_sem];have D0:jc C w 2 (jq g3 0 x.S A)/\jc C wr 2 (js Z x.S[k].ends.length y2):=⟨(H.cell (Mt D.1)).trans D.1,(H.cell (Mt D.2)).trans D.2⟩;refine Ob ?_;clear hK K
  have c3:bG (vH (bK (kD w (jq g3 0 x.S A) (js O x.R z) (k+1) k) C) u x.S[k].ends):=kK (f:=nG) (BN h1 fun b H=>by obtain⟨c,q,hq⟩:=fD h1 H;exact E.new hq _ _) (fun _ _=>rfl) (fun _ _=>rfl);have Y:=hI (E.below H);obtain⟨u1,u2,b6,-⟩:=c3.o;subst b6;clear h1 H D E H3;refine zB [6,7] D0 ?_;refine aS 8 ef ?_;intro K hK;obtain⟨d8,b8,d0,d9,⟨cur,hB9⟩,a6,c1,n⟩:=Y.s.get c8;obtain rfl:g3=d8:=(by cases d0;rfl);have a0:=n 2 ed;have fz:C.frozen? ⟨g3,k * 3+2,bn⟩=aW:=Kl;simp[wpOp,go_sem,a0,fz];refine .inl (hK _ _ (fun h=>cv h eh) ?_);clear hK K;have H6:=hI (Y.setS c8 c3);clear Y c3 D0 hB9 a6 c1 n a0 fz d0 d9;generalize cd C _ _=V2 at *;refine eI ef ?_ _;go_wp2_with fail;go_roundg (x.S.length-(k+1))
  ·go_light;exact⟨k+1,ed,ed,ej,H6⟩
  go_light;omega
 obtain rfl:k=x.S.length:=ed;have hd:ab ((x.S:ar)<(x.S:ar))=aW:=ee;have x5:jc wr w 5 (js O x.R z):=jr M.row;have d4:=hI M;clear M;go_wp2_with fail;go_loopg [43] x.R.length (fun g i wr=> ∃(m:av),m<=x.R.length/\g=x.R.length-m/\i= jV m/\PT w x (js N x.S A) (js b1 x.P d1) (js b2 x.G d2) (js O x.R z) x.S m wr)
 ·exact⟨0,ed,ed,rfl,d4⟩
 clear d4 x5;obtain⟨m,f6,rfl,rfl,M⟩:=hrel;have b7:x.R.length<=1000:=d3.R;by_cases U:m<x.R.length
 ·have hd:ab ((m:ar)<(x.R:ar))=bl:=em;have e9:(0:ar)<=(m:ar):=ed;have f0:(m:ar)<(x.R:ar):=ed;obtain⟨G,b8,rfl,e0,⟨cur,hB9⟩,a6,⟨v1,v2,v3,rfl,a9⟩,n⟩:=M.r.get U;obtain⟨p1,f7,I,rfl,ip⟩:=a9.A;obtain⟨o1,f8,o3,rfl,e2⟩:=a9.O;obtain⟨f1,J,rfl,-⟩:=a9.fl;obtain rfl:=ip.len;obtain rfl:=e2.len;clear ip e2;have z0:jc wr G (m * 7) x.R[m].id:=n 0 ee;have z1:jc wr G (m * 7+1) x.R[m].E:=n 1 ee;have z2:jc wr G (m * 7+2) x.R[m].X:=n 2 ee;have z3:jc wr G (m * 7+3) (js p1 x.R[m].A.length I):=n 3 ee;have z4:jc wr G (m * 7+4) (js o1 x.R[m].O.length o3):=n 4 ee;have z5:jc wr G (m * 7+5) (js f1 x.R[m].fl.length J):=n 5 ee;have z6:jc wr G (m * 7+6) x.R[m].T:=n 6 ee;clear n;go_upto_region 11 with fail;generalize hV:cj _ _=W4;have X:jb wr W4:=Ub;have H0:=hI (M.below X);have H1:bG (jk W4 wr #[x.R[m].id,x.R[m].E,x.R[m].X,js p1 x.R[m].A.length I,js o1 x.R[m].O.length o3,js f1 x.R[m].fl.length J,x.R[m].T] 102):=(by show _=_;rw[<-hV];exact Nc _ _);have H2:bG (dY W4 (js p1 x.R[m].A.length I) (js o1 x.R[m].O.length o3) (js f1 x.R[m].fl.length J) x.R[m]):=(a9.ext (mZ _ _)).below X;have c8:=hI U;have H5:=hI (d3.rt m U);clear hV a9 z0 z1 z2 z3 z4 z5 z6 hB9 e0 M X;refine iH [6] (fun W=>jc W w 5 (jq G 0 x.R z)/\jc W wr 0 x.R[m].id/\jc W wr 1 x.R[m].E/\jc W wr 2 x.R[m].X/\jc W wr 3 (js p1 x.R[m].A.length I)/\jc W wr 4 (js o1 x.R[m].O.length o3)/\jc W wr 5 (js f1 x.R[m].fl.length J)/\jc W wr 6 x.R[m].T) ef ?_;intro V L p;have E:=hI (H0.below p);have H3:bG (dY V (js p1 x.R[m].A.length I) (js o1 x.R[m].O.length o3) (js f1 x.R[m].fl.length J) x.R[m]):=H2.below p;have hq:=jm p H1
  have D:jc V w 5 (jq G 0 x.R z)/\jc V wr 0 x.R[m].id/\jc V wr 1 x.R[m].E/\jc V wr 2 x.R[m].X/\jc V wr 3 (js p1 x.R[m].A.length I)/\jc V wr 4 (js o1 x.R[m].O.length o3)/\jc V wr 5 (js f1 x.R[m].fl.length J)/\jc V wr 6 x.R[m].T:=⟨(Mu V _ 5 _ _ _ E.row).trans rfl,(Mu V _ 0 _ _ _ hq).trans rfl,(Mu V _ 1 _ _ _ hq).trans rfl,(Mu V _ 2 _ _ _ hq).trans rfl,(Mu V _ 3 _ _ _ hq).trans rfl,(Mu V _ 4 _ _ _ hq).trans rfl,(Mu V _ 5 _ _ _ hq).trans rfl,(Mu V _ 6 _ _ _ hq).trans rfl⟩;clear L p H0 H1 H2 hq;have t0: ∀t:aX (fun W=>jc W w 5 (jq G 0 x.R z)/\jc W wr 0 x.R[m].id/\jc W wr 1 x.R[m].E/\jc W wr 2 x.R[m].X/\jc W wr 3 (js p1 x.R[m].A.length I)/\jc W wr 4 (js o1 x.R[m].O.length o3)/\jc W wr 5 (js f1 x.R[m].fl.length J)/\jc W wr 6 x.R[m].T),jc t.w w 5 (jq G 0 x.R z):=fun t=>t.h.1;have t1: ∀t:aX (fun W=>jc W w 5 (jq G 0 x.R z)/\jc W wr 0 x.R[m].id/\jc W wr 1 x.R[m].E/\jc W wr 2 x.R[m].X/\jc W wr 3 (js p1 x.R[m].A.length I)/\jc W wr 4 (js o1 x.R[m].O.length o3)/\jc W wr 5 (js f1 x.R[m].fl.length J)/\jc W wr 6 x.R[m].T),jc t.w wr 0 x.R[m].id:=fun t=>t.h.2.1;have t2: ∀t:aX (fun W=>jc W w 5 (jq G 0 x.R z)/\jc W wr 0 x.R[m].id/\jc W wr 1 x.R[m].E/\jc W wr 2 x.R[m].X/\jc W wr 3 (js p1 x.R[m].A.length I)/\jc W wr 4 (js o1 x.R[m].O.length o3)/\jc W wr 5 (js f1 x.R[m].fl.length J)/\jc W wr 6 x.R[m].T),jc t.w wr 1 x.R[m].E:=fun t=>t.h.2.2.1
  have t3: ∀t:aX (fun W=>jc W w 5 (jq G 0 x.R z)/\jc W wr 0 x.R[m].id/\jc W wr 1 x.R[m].E/\jc W wr 2 x.R[m].X/\jc W wr 3 (js p1 x.R[m].A.length I)/\jc W wr 4 (js o1 x.R[m].O.length o3)/\jc W wr 5 (js f1 x.R[m].fl.length J)/\jc W wr 6 x.R[m].T),jc t.w wr 2 x.R[m].X:=fun t=>t.h.2.2.2.1;have t4: ∀t:aX (fun W=>jc W w 5 (jq G 0 x.R z)/\jc W wr 0 x.R[m].id/\jc W wr 1 x.R[m].E/\jc W wr 2 x.R[m].X/\jc W wr 3 (js p1 x.R[m].A.length I)/\jc W wr 4 (js o1 x.R[m].O.length o3)/\jc W wr 5 (js f1 x.R[m].fl.length J)/\jc W wr 6 x.R[m].T),jc t.w wr 3 (js p1 x.R[m].A.length I):=fun t=>t.h.2.2.2.2.1;have t5: ∀t:aX (fun W=>jc W w 5 (jq G 0 x.R z)/\jc W wr 0 x.R[m].id/\jc W wr 1 x.R[m].E/\jc W wr 2 x.R[m].X/\jc W wr 3 (js p1 x.R[m].A.length I)/\jc W wr 4 (js o1 x.R[m].O.length o3)/\jc W wr 5 (js f1 x.R[m].fl.length J)/\jc W wr 6 x.R[m].T),jc t.w wr 4 (js o1 x.R[m].O.length o3):=fun t=>t.h.2.2.2.2.2.1;have t6: ∀t:aX (fun W=>jc W w 5 (jq G 0 x.R z)/\jc W wr 0 x.R[m].id/\jc W wr 1 x.R[m].E/\jc W wr 2 x.R[m].X/\jc W wr 3 (js p1 x.R[m].A.length I)/\jc W wr 4 (js o1 x.R[m].O.length o3)/\jc W wr 5 (js f1 x.R[m].fl.length J)/\jc W wr 6 x.R[m].T),jc t.w wr 5 (js f1 x.R[m].fl.length J):=fun t=>t.h.2.2.2.2.2.2.1
  have t7: ∀t:aX (fun W=>jc W w 5 (jq G 0 x.R z)/\jc W wr 0 x.R[m].id/\jc W wr 1 x.R[m].E/\jc W wr 2 x.R[m].X/\jc W wr 3 (js p1 x.R[m].A.length I)/\jc W wr 4 (js o1 x.R[m].O.length o3)/\jc W wr 5 (js f1 x.R[m].fl.length J)/\jc W wr 6 x.R[m].T),jc t.w wr 6 x.R[m].T:=fun t=>t.h.2.2.2.2.2.2.2;refine zB [0,2,3,1] D ?_;clear t0 t1 t2 t3 t4 t5 t6 t7;refine aS 4 ef ?_;refine Oe (e7 V x.R[m] _ _ _ _ _ _ _ _ _ H3 H5) fun K hK=>?_;rintro e C ⟨i1,j1,i2,j2,i3,j3,rfl,h1,H⟩;simp[go_sem];have D0:jc C w 5 (jq G 0 x.R z)/\jc C wr 0 x.R[m].id/\jc C wr 1 x.R[m].E/\jc C wr 2 x.R[m].X/\jc C wr 3 (js p1 x.R[m].A.length I)/\jc C wr 4 (js o1 x.R[m].O.length o3)/\jc C wr 5 (js f1 x.R[m].fl.length J)/\jc C wr 6 x.R[m].T:=⟨(H.cell (Mt D.1)).trans D.1,(H.cell (Mt D.2.1)).trans D.2.1,(H.cell (Mt D.2.2.1)).trans D.2.2.1,(H.cell (Mt D.2.2.2.1)).trans D.2.2.2.1,(H.cell (Mt D.2.2.2.2.1)).trans D.2.2.2.2.1,(H.cell (Mt D.2.2.2.2.2.1)).trans D.2.2.2.2.2.1,(H.cell (Mt D.2.2.2.2.2.2.1)).trans D.2.2.2.2.2.2.1,(H.cell (Mt D.2.2.2.2.2.2.2)).trans D.2.2.2.2.2.2.2⟩;refine Ob ?_;clear hK K;have c3:bG (dY (bK (kD w (js N x.S A) (jq G 0 x.R z) (m+1) m) C) (js i1 x.R[m].A.length j1) (js i2 x.R[m].O.length j2) (js i3 x.R[m].fl.length j3) x.R[m]):=h1.off fun b H=>E.new H _ _;have Y:=hI (E.below H);clear h1 H D E H3;refine zB [5] D0 ?_;refine aS 6 ef ?_;intro K hK;obtain⟨d8,b8,d0,d9,⟨cur,hB9⟩,a6,c1,n⟩:=Y.r.get c8;obtain rfl:G=d8:=(by cases d0;rfl);have e3:C.there G (m * 7) 7:=fun j hj=>⟨by rw[n j ed];rfl,Kl⟩;refine z4p rfl rfl 102 (dk 53) (dk 52) rfl G (m * 7) #[x.R[m].id,x.R[m].E,x.R[m].X,js i1 x.R[m].A.length j1,js i2 x.R[m].O.length j2,js i3 x.R[m].fl.length j3,x.R[m].T] rfl rfl e3 ef Qj ?_;refine hK _ _ (fun h=>cv h eh) ?_;clear hK K;have H6:=hI (Y.setR c8 c3)
  clear Y c3 D0 hB9 a6 c1 n d0 d9 e3;generalize aj.setCells C _ _ _=V2 at *;refine eI ef ?_ _;go_wp2_with fail;go_roundg (x.R.length-(m+1))
  ·go_light;exact⟨m+1,ed,ed,ej,H6⟩
  go_light;omega
 obtain rfl:m=x.R.length:=ed;have hd:ab ((x.R:ar)<(x.R:ar))=aW:=ee;have d4:=hI M;obtain⟨Z,y1,y2,y3,y4,y5⟩:=dB M.row;obtain⟨z0,z1,z2,z3,z4,z5⟩:=dB M.zr;have fz: ∀o,wr.frozen? ⟨w+1,o,bn⟩=aW:=fun o=>by simp[aj.frozen?,M.zr]
 have lr:=aD M.zr;have f9:=aD M.row;clear M;go_wp2_with fail;refine On fun c2 o9=>?_;have q0:jc c2 (w+1) 0 x.ver:=En;have q1:jc c2 (w+1) 1 x.par:=En;have q2:jc c2 (w+1) 2 (js N x.S A):=En;have q3:jc c2 (w+1) 3 (js b1 x.P d1):=En;have q4:jc c2 (w+1) 4 (js b2 x.G d2):=En;have q5:jc c2 (w+1) 5 (js O x.R z):=En;have c0:aZ (w+1) wr c2:=(by rw[<-o9];exact aZ.cells (w+1) [jV x.ver,jV x.par,cJ N x.S A,cJ b1 x.P d1,cJ b2 x.G d2,cJ O x.R z] 0 wr);clear o9;obtain⟨f3,f4⟩:=d4.done c0;refine Nh (v:=cZ #[x.ver,x.par,js N x.S A,js b1 x.P d1,js b2 x.G d2,js O x.R z]) (by simp[results,Tryz.f61,go_sem,q0,q1,q2,q3,q4,q5]) rfl ?_;exact⟨_,_,_,_,_,_,_,_,rfl,f3,f4⟩
