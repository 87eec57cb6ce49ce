/- Walks and plain laws for the statement. -/
import Derived.Test.YtbiehpjhhopjaaaGreatT6
import Derived.Test.YtbiehpjhhopjaaaGreatT5
set_option linter.all false
set_option maxRecDepth 100000
set_option maxHeartbeats 16000000
namespace Go.Proofs.YtbiehpjhhopjaaaGreat
open Go.RowKit Go.Sort Tryz
variable {W w:World}{S:Nat->Bool}{G i j:Nat}{x:Pl}{cs:Array Value}{T:TypeId}
def old (n:Nat):Nat->Bool:=fun b=>decide (b<n)
def SI (w:World) (x:Pl) (e:Ending) (w':World):Prop:= ∃a1 c1 a2 c2 a3 c3 a4 c4,e= .returned (aT x (js a1 x.S c1) (js a2 x.P c2) (js a3 x.G c3) (js a4 x.R c4))/\bN (bK (old w) w') (js a1 x.S c1) (js a2 x.P c2) (js a3 x.G c3) (js a4 x.R c4) x/\jb w w'
def aJ {α:Type}(W:World) (B:Nat) (T:TypeId) (sz:Nat) (v:Value) (R:Nat->List Value->α->Prop) (l:List α):Prop:= ∃xss:List (List Value),W.ownsRow B T sz v xss (xss.flatMap id)/\xss.length=l.length/\(∀y∈xss,y.length=sz)/\ ∀i (h:i<xss.length) (h':i<l.length),R i xss[i] l[i]
section
variable {α:Type}{W W':World}{B T sz:Nat}{v:Value}{R R':Nat->List Value->α->Prop}{l:List α}
def aJ.below (h:aJ W B T sz v R l) (H:jb W W'):aJ W' B T sz v R l:=by
 obtain⟨xss,h1,h2⟩:=h;exact⟨xss,bU h1 H,h2⟩
def aJ.base (h:aJ W B T sz v R l){B':Nat}(H:B'<=B):aJ W B' T sz v R l:=by
 obtain⟨xss,h1,h2⟩:=h;exact⟨xss,bW h1 H,h2⟩
def aJ.setCell (h:aJ W B T sz v R l){a:Addr}(H:a.block<B) (u:Value):aJ (W.setCell a u) B T sz v R l:=by
 obtain⟨xss,h1,h2⟩:=h;exact⟨xss,aV h1 H u,h2⟩
def aJ.imp (h:aJ W B T sz v R l) (H: ∀i V x,R i V x->R' i V x):aJ W B T sz v R' l:=by
 obtain⟨xss,h1,h2,h3,h4⟩:=h;exact⟨xss,h1,h2,h3,fun i k K=>H _ _ _ (h4 i k K)⟩
def aJ.lim (h:aJ W B T sz v R l) (H: ∀i V x,i<l.length->R i V x->R' i V x):aJ W B T sz v R' l:=by
 obtain⟨xss,h1,h2,h3,h4⟩:=h;exact⟨xss,h1,h2,h3,fun i k K=>H _ _ _ K (h4 i k K)⟩
def aJ.slice (h:aJ W B T sz v R l): ∃a c,v= .slice a l c:=by
 obtain⟨xss,h1,h2,-⟩:=h;obtain⟨a,c,e⟩:=iG h1;exact⟨a,c,by rw[e,h2]⟩
def aJ.only (h:aJ W B T sz v R l){g:Nat}(a:aZ g W W') (H:v.ownBlock≠some g):aJ W' B T sz v R l:=by
 obtain⟨xss,h1,h2⟩:=h;exact⟨xss,a.own h1 H,h2⟩
def aJ.off (h:aJ W B T sz v R l)(H: ∀k,B<=k->S k=false):aJ (bK S W) B T sz v R l:=by
 obtain⟨xss,h1,h2⟩:=h;exact⟨xss,BN h1 (fun k a=>H k (by obtain⟨c,q,hq⟩:=fD h1 a;omega)),h2⟩
def aJ.get {a:Option Addr}{n c:Nat}(h:aJ W B T sz (js a n c) R l)(o:i<l.length): ∃g V,a=some ⟨g,0,none⟩/\B<=g/\(∃cur,jk W g cur T)/\V.length=sz/\R i V l[i]/\ ∀j (hj:j<V.length),jc W g (i * sz+j) V[j]:=by
 obtain⟨xss,h1,h2,h3,h4⟩:=h;have H:i<xss.length:=ed
 rcases h1.2 with⟨e,h0⟩ | ⟨g,cap,cur,e,b,d,p,q,hz,r⟩
 ·cases e;omega
 cases e;refine⟨g,xss[i],rfl,b,⟨cur,d⟩,h3 _ (Nn _),h4 i H o,fun j hj=> ?_⟩;have f:j<sz:=by rw[<-h3 _ (Nn H)];exact hj
 have k1:(xss.flatMap id)[i * sz+j]? =some (xss[i]'H)[j]:=by rw[rB id sz xss i j H h3 f,id,Nf hj]
 have k2:=h1.cells (g:=g) rfl (i * sz+j) _ k1;rw[oB]at k2;exact k2
def aJ.put {g n c:Nat}(h:aJ W B T sz (jq g 0 n c) R l)(o:i<l.length) (V:List Value) (H:V.length=sz) (f:R' i V l[i]) (a: ∀j,j≠i-> ∀V y,R j V y->R' j V y):aJ (W.setCells g (i * sz) V) B T sz (jq g 0 n c) R' l:=by
 obtain⟨xss,h1,h2,h3,h4⟩:=h;obtain⟨A,C,e⟩:=iG h1;cases e;have hx:i<xss.length:=ed
 have hfl:=pC id sz xss h3
 have p:i * sz+sz<=(xss.flatMap id).length:=by
  exact Mc
 have k:=SN V (i * sz) _ W h1 ed;rw[SJ sz xss i V hx h3 H]at k;refine⟨xss.set i V,by rw[Tj];exact k,by rw[Tj];exact h2,fun y b=> ?_,fun j hj d=> ?_⟩
 ·rcases Ir b with b | rfl
  ·exact h3 y b
  exact H
 by_cases e:j=i
 ·subst e;rw[List.getElem_set_self];exact f
 rw[List.getElem_set_ne (Sr e)];exact a _ e _ _ (h4 j (by simpa using hj) d)
def aJ.put1 {g n c:Nat}(h:aJ W B T sz (jq g 0 n c) R l)(d:i<l.length)(hj:j<sz) (u:Value) (f: ∀V,V.length=sz->R i V l[i]->R' i (V.set j u) l[i]) (H: ∀j,j≠i-> ∀V y,R j V y->R' j V y):aJ (W.setCell ⟨g,i * sz+j,none⟩ u) B T sz (jq g 0 n c) R' l:=by
 obtain⟨xss,h1,h2,h3,h4⟩:=h;obtain⟨A,C,e⟩:=iG h1;cases e;have hx:i<xss.length:=ed
 have hfl:=pC id sz xss h3
 have o:i * sz+sz<=(xss.flatMap id).length:=by
  exact Mc
 have k:=SP h1 (i:=i * sz+j) ed u;rw[SO sz xss i j hx u h3 hj]at k;refine⟨xss.set i (xss[i].set j u),by rw[Tj];exact k,by rw[Tj];exact h2,fun y a=> ?_,fun m hi b=> ?_⟩
 ·rcases Ir a with a | rfl
  ·exact h3 y a
  rw[Tj];exact h3 _ (Nn hx)
 by_cases e:m=i
 ·subst e;rw[List.getElem_set_self];exact f _ (h3 _ (Nn hx)) (h4 m hx d)
 rw[List.getElem_set_ne (Sr e)];exact H _ e _ _ (h4 m Og b)
def aJ.sl {R2:World->List Value->α->Prop}(h:aJ W B T sz v (fun _=>R2 W) l):Sl W sz R2 v l:=by
 obtain⟨xss,h1,h2,h3,h4⟩:=h;exact z4o h1 h2 h3 h4
def kU {W:World}{B T sz n:Nat}{v:Value}{xs:List Value}(h:W.ownsRow B T sz v n xs)(H: ∀k,B<=k->S k=false):(bK S W).ownsRow B T sz v n xs:=BN h fun k a=>H k (by obtain⟨c,q,hq⟩:=fD h a;omega)
def bM.off {W:World}{B:Nat}{v1 v2 v3:Value}{r:Rt}(h:bM W B v1 v2 v3 r)(H: ∀k,B<=k->S k=false):dY (bK S W) v1 v2 v3 r:=
 bM.m (B:=B) ⟨kU h.1 H,kU h.2.1 H,kU h.2.2 H⟩
def vX {s:Nat->Bool}{W:World}(h: ∀k,S k=false->s k=false):eD (bK S W) (bK s W):=fun a v e=>by
 obtain⟨h1,h2⟩:=pL e
 exact uC e (h _ h1) (fun h0=>by
  cases hs:S 0 with
  | true=>rfl
  | false=>rw[h 0 hs]at h0;cases h0) rfl
def kT {n m:Nat}{W:World}(h:n<=m):eD (bK (old m) W) (bK (old n) W):=vX fun k H=>by unfold old at *;simp at *;omega
def bN.ext {a:World}{s p g r:Value}(h:bN w s p g r x) (he:eD w a):bN a s p g r x:=⟨h.S.ext mL he,h.P.ext z4j he,h.G.ext z4k he,h.R.ext oX he⟩
end
def kD (G:Nat) (S R:Value) (k i:Nat):Nat->Bool:=fun b=>(decide (i<k)&&decide (b<G)) || decide (b=G) || decide (b=G+1) || decide (S.ownBlock=some b) || decide (R.ownBlock=some b)
structure PT (w:World) (x:Pl) (S P Q R:Value) (k m:Nat) (W:World):Prop where
 bel:jb w W
 sz:w.heap.size+2<=W.heap.size
 row:jk W w #[x.ver,x.par,S,P,Q,R] 28
 zr:jk W (w+1) #[jV 0,jV 0,jN,jN,jN,jN] 28
 p:W.ownsRow (w+2) 143 2 P x.P (x.P.flatMap oO)
 q:W.ownsRow (w+2) 145 3 Q x.G (x.G.flatMap oM)
 s:aJ W (w+2) 80 3 S (fun i=>cU (bK (kD w S R k i) W)) x.S
 r:aJ W (w+2) 102 7 R (fun i=>fH (bK (kD w S R m i) W)) x.R
def PT.below {S P Q R:Value}{k m:Nat}{W':World}(h:PT w x S P Q R k m W) (H:jb W W'):PT w x S P Q R k m W':=
 ⟨jt h.bel H,Nj h.sz H.size,(jm H h.row),(jm H h.zr),bU h.p H,bU h.q H,(h.s.below H).imp fun _ V y k=>mL _ _ _ _ (eV H) k,(h.r.below H).imp fun _ V y k=>oX _ _ _ _ (eV H) k⟩
def SG {α β:Type}{S R:Value}{T t sz s:Nat}{F:Nat->List Value->α->Prop}{f:Nat->List Value->β->Prop}{l:List α}{m:List β}(h:aJ W (G+2) T sz S F l) (k:aJ W (G+2) t s R f m) (i:Nat){b:Nat}(H:b<G):kD G S R 0 i b=false:=by
 obtain⟨_,h1,-⟩:=h;obtain⟨_,k1,-⟩:=k;unfold kD;rw[Mw (p:=S.ownBlock=some b) (fun e=>by obtain⟨c,q,hq⟩:=fD h1 e;omega),Mw (p:=R.ownBlock=some b) (fun e=>by obtain⟨c,q,hq⟩:=fD k1 e;omega),Mw (p:=b=G) ed,Mw (p:=b=G+1) ed,Mw (p:=i<0) ed];rfl
section
variable {w W W':World}{x:Pl}{S P Q R:Value}{k m:Nat}
def PT.new (h:PT w x S P Q R k m W){b:Nat}(H:W.heap.size<=b) (K i:Nat):kD w S R K i b=false:=by
 obtain⟨_,h1,-⟩:=h.s;obtain⟨_,k1,-⟩:=h.r;have:=h.sz;unfold kD;rw[Mw (p:=S.ownBlock=some b) (fun e=>by obtain⟨c,q,hq⟩:=fD h1 e;have:=aD q;omega),Mw (p:=R.ownBlock=some b) (fun e=>by obtain⟨c,q,hq⟩:=fD k1 e;have:=aD q;omega),Mw (p:=b=w.heap.size) ed,Mw (p:=b=w.heap.size+1) ed,Mw (p:=b<w.heap.size) ed,Bool.and_false];rfl
def SF {S R:Value}{k:Nat}(h:j≠k):kD G S R (k+1) j=kD G S R k j:=by
 funext b
 unfold kD;rw[show decide (j<k+1)=decide (j<k)by rw[Ss];omega]
def PT.setS {g n d:Nat}(h:PT w x (jq g 0 n d) P Q R k m W) (i:k<x.S.length){u:Value}(o:vH (bK (kD w (jq g 0 n d) R (k+1) k) W) u x.S[k].ends):PT w x (jq g 0 n d) P Q R (k+1) m (W.setCell ⟨g,k * 3+2,none⟩ u):=by
 obtain⟨G,V,e,r,⟨cur,H⟩,-,-,-⟩:=h.s.get i;obtain rfl:g=G:=by cases e;rfl
 have c:aZ g W (W.setCell ⟨g,k * 3+2,none⟩ u):=aZ.set W ⟨g,k * 3+2,none⟩ u;have f: ∀a b,kD w (jq g 0 n d) R a b g=true:=fun a b=>by unfold kD;simp[Value.ownBlock]
 refine⟨c.below h.bel ed,by rw[c.size];exact h.sz,(c.block _ ed).trans h.row,(c.block _ ed).trans h.zr,c.own h.p (vY h.p H eh),c.own h.q (vY h.q H eh),?_,?_⟩
 ·refine h.s.put1 i ed u (fun V _ p=> ?_) (fun j hj V y q=> ?_)
  ·obtain⟨e,rfl,-⟩:=p;exact⟨u,rfl,o.ext DW (c.off (f _ _))⟩
  show cU (bK (kD _ _ _ (k+1) j) _) _ _;rw[SF hj];exact mL _ _ _ _ (c.off (f _ _)) q
 obtain⟨Y,h1,-⟩:=h.r;exact(h.r.only c (vY h1 H eh)).imp fun _ V y k=>oX _ _ _ _ (c.off (f _ _)) k
def PT.setR {g n d:Nat}(h:PT w x S P Q (jq g 0 n d) k m W) (o:m<x.R.length){a b c:Value}(p:dY (bK (kD w S (jq g 0 n d) (m+1) m) W) a b c x.R[m]):PT w x S P Q (jq g 0 n d) k (m+1) (W.setCells g (m * 7) [jV x.R[m].id,jV x.R[m].E,jV x.R[m].X,a,b,c,jV x.R[m].T]):=by
 obtain⟨G,V,e,r,⟨cur,H⟩,-,-,-⟩:=h.r.get o;obtain rfl:g=G:=by cases e;rfl
 have f:=aZ.cells g [jV x.R[m].id,jV x.R[m].E,jV x.R[m].X,a,b,c,jV x.R[m].T] (m * 7) W;have i: ∀a b,kD w S (jq g 0 n d) a b g=true:=fun a b=>by unfold kD;simp[Value.ownBlock]
 refine⟨f.below h.bel ed,by rw[f.size];exact h.sz,(f.block _ ed).trans h.row,(f.block _ ed).trans h.zr,f.own h.p (vY h.p H eh),f.own h.q (vY h.q H eh),?_,?_⟩
 ·obtain⟨Y,h1,-⟩:=h.s;exact(h.s.only f (vY h1 H eh)).imp fun _ V y k=>mL _ _ _ _ (f.off (i _ _)) k
 refine h.r.put o _ rfl ⟨a,b,c,rfl,p.ext (f.off (i _ _))⟩ (fun j hj V y q=> ?_);show fH (bK (kD _ _ _ (m+1) j) _) _ _;rw[SF hj];exact oX _ _ _ _ (f.off (i _ _)) q
def PT.done (h:PT w x S P Q R x.S.length x.R.length W) (H:aZ (w.heap.size+1) W W'):bN (bK (old w.heap.size) W') S P Q R x/\jb w W':=by
 have p: ∀a b,kD w.heap.size S R a b (w.heap.size+1)=true:=fun a b=>by unfold kD;simp
 have j: ∀b,w.heap.size+2<=b->old w.heap.size b=false:=fun b o=>ZG
 have he: ∀n i,i<n->eD (bK (kD w.heap.size S R n i) W) (bK (old w.heap.size) W'):=fun n i g=>(H.off (p _ _)).trans (vX fun b o=>by
  unfold kD at o;simp only[Sd,Bool.and_eq_false_iff,Ns]at o;unfold old;simp only[Ns]
  omega)
 have N: ∀ {T sz n:Nat}{v:Value}{xs:List Value},W.ownsRow (w.heap.size+2) T sz v n xs->v.ownBlock≠some (w.heap.size+1):=fun d e=>by obtain⟨c,q,hq⟩:=fD d e;omega
 have of: ∀ {T sz n:Nat}{v:Value}{xs:List Value},W.ownsRow (w.heap.size+2) T sz v n xs->(bK (old w.heap.size) W').ownsRow (w.heap.size+2) T sz v n xs:=fun d=>BN (H.own d (N d)) fun k r=>j k (by obtain⟨c,q,hq⟩:=fD d r;omega);refine⟨⟨?_,?_,?_,?_⟩,H.below h.bel ed⟩
 ·obtain⟨Y,h1,-⟩:=h.s;exact(((h.s.only H (N h1)).lim fun i V y g k=>mL _ _ _ _ (he _ i g) k).off j).sl
 ·exact kK (f:=oO) (of h.p) (fun _ _=>rfl) (fun _ _=>rfl)
 ·exact kK (f:=oM) (of h.q) (fun _ _=>rfl) (fun _ _=>rfl)
 obtain⟨Y,h1,-⟩:=h.r;exact(((h.r.only H (N h1)).lim fun i V y g k=>oX _ _ _ _ (he _ i g) k).off j).sl
end
theorem GU (x:Pl) (s q g r:Value) (w:World) (hx:bN w s q g r x) (a2:x.Fit):
  jW 61 #[aT x s q g r] w (SI w x):=by
 have d3:=hI a2;obtain⟨a4,a5,rfl,m1⟩:=hx.S;obtain⟨b4,b5,rfl,m3⟩:=hx.P;obtain⟨b0,b3,rfl,m5⟩:=hx.G;obtain⟨a7,a8,rfl,m7⟩:=hx.R;have H7:=hI fun W H=>z2o b4 b5 x.P W (m3.below lT H) a2.P;have H8:=hI fun W H=>z2p b0 b3 x.G W (m5.below lA H) a2.G
 have c4: ∀ {α:Type}{sz:Nat}{R:World->List Value->α->Prop}{a:Option Addr}{c:Nat}{l:List α}(W:World),jb w W->aB w sz R a c l->aB W sz (fun _=>R w) a c l:=fun W H h=>⟨h.le,h.nil,fun i e4=>by
  obtain⟨b,off,b8,e,hl,e1,e5⟩:=h.at_ i e4
  exact⟨b,off,b8,e,hl,fun j hj=>(H.cell (Mt (e1 j hj))).trans (e1 j hj),e5⟩⟩
 have H9:Hid (∀W,jb w W->jW 125 #[js a4 x.S a5] W fun e b9=> ∃v,e= .returned v/\aJ b9 W 80 3 v (fun _=>cU w) x.S/\jb W b9):=fun W H=>(z2r a4 a5 x.S w W (c4 W H m1) a2.S).mono (by rintro e b9 ⟨v,xss,rfl,h1,h2,h3,h4,h5⟩;exact⟨v,rfl,⟨xss,h1,h2,h3,h4⟩,h5⟩);have d5:Hid (∀W,jb w W->jW 126 #[js a7 x.R a8] W fun e b9=> ∃v,e= .returned v/\aJ b9 W 102 7 v (fun _=>fH w) x.R/\jb W b9):=fun W H=>(z2s a7 a8 x.R w W (c4 W H m7) a2.R).mono (by rintro e b9 ⟨v,xss,rfl,h1,h2,h3,h4,h5⟩;exact⟨v,rfl,⟨xss,h1,h2,h3,h4⟩,h5⟩);have e6:=hI fun W Z y2 l h hl=>z2q Z y2 l W h hl;have e7:=hI fun W r p1 o1 f1 p2 I o2 o3 f2 J h e8=>z4i r p1 o1 f1 p2 I o2 o3 f2 J W h e8;clear hx a2 m1 m3 m5 m7;unfold aT;go_in;go_upto_region 1 with fail;generalize c5:World.alloc _ _=W0;have a3:=hI (wZ c5)
 clear c5;refine Vr ?_;refine iH [7,9] (fun W=>jc W w 3 (js b4 x.P b5)/\jc W w 4 (js b0 x.G b3)) ef ?_;intro V L p;have F0:=hI (a3.below p);have D:jc V w 3 (js b4 x.P b5)/\jc V w 4 (js b0 x.G b3):=⟨(Mu V _ 3 _ _ _ (F0.row 0 _ rfl)).trans rfl,(Mu V _ 4 _ _ _ (F0.row 0 _ rfl)).trans rfl⟩;have t0: ∀t:aX (fun W=>jc W w 3 (js b4 x.P b5)/\jc W w 4 (js b0 x.G b3)),jc t.w w 3 (js b4 x.P b5):=fun t=>t.h.1;have t1: ∀t:aX (fun W=>jc W w 3 (js b4 x.P b5)/\jc W w 4 (js b0 x.G b3)),jc t.w w 4 (js b0 x.G b3):=fun t=>t.h.2;clear L p a3 ;refine zB [0,1,3,4] D ?_;clear t0 t1;refine aS 2 ef ?_;refine Oe (H7 V F0.bel) fun K hK=>?_;rintro e C ⟨u,rfl,h1,H⟩;simp[go_sem];have D0:jc C w 3 (js b4 x.P b5)/\jc C w 4 (js b0 x.G b3):=⟨(H.cell (Mt D.1)).trans D.1,(H.cell (Mt D.2)).trans D.2⟩;refine Ob ?_;clear hK K;have F1:=hI (F0.below H);have O0:=hI (bW h1 (show w.heap.size+2<=V.heap.size from F0.sz));obtain⟨b1,d1,b6⟩:=iG O0;subst b6;clear h1 H D F0 ;refine zB [6] D0 ?_;refine aS 5 ef ?_;refine Oe (H8 C F1.bel) fun K hK=>?_;rintro e V2 ⟨u,rfl,h1,H⟩;simp[go_sem];have D2:jc V2 w 3 (js b4 x.P b5)/\jc V2 w 4 (js b0 x.G b3):=⟨(H.cell (Mt D0.1)).trans D0.1,(H.cell (Mt D0.2)).trans D0.2⟩;refine hK _ _ (fun _=>D2) ?_;clear hK K;have F:=hI (F1.below H);have O1:=hI (bW h1 (show w.heap.size+2<=C.heap.size from F1.sz));have P0:=hI (bU O0 H);obtain⟨b2,d2,b6⟩:=iG O1;subst b6;clear h1 H D0 F1 O0 ;refine aS 7 ef ?_;intro K hK;have a0:=(Mu V2 _ 3 _ _ _ (F.row 0 _ rfl)).trans rfl;have fz: ∀o,V2.frozen? ⟨w,o,none⟩=false:=fun o=>Ry
 have c9:jc V2 w 3 (js b4 x.P b5):=a0;refine Vi ?_;refine .inl (hK _ _ (fun h=>absurd h eh) ?_);clear hK K a0 c9 fz;have F3:Hid (Fr w [(#[x.ver,x.par,js a4 x.S a5,js b1 x.P d1,js b0 x.G b3,js a7 x.R a8],28),(#[jV 0,jV 0,jN,jN,jN,jN],28)] (World.setCell V2 ⟨w,3,none⟩ (js b1 x.P d1))):=F.set 0 rfl 3 (js b1 x.P d1);have O2:=hI (aV O1 (a:=⟨w,3,none⟩) ee (js b1 x.P d1));have P1:=hI (aV P0 (a:=⟨w,3,none⟩) ee (js b1 x.P d1));clear F O1 P0 D2 ;generalize World.setCell V2 ⟨w,3,none⟩ _=V3 at *;refine tO 8 ef Qd (fun h=>absurd h eh) ?_;intro K hK o c0;simp at c0;subst c0;refine Qo ?_;refine aS 9 ef ?_;intro K hK;have a0:=(Mu V3 _ 4 _ _ _ (F3.row 0 _ rfl)).trans rfl;have fz: ∀o,V3.frozen? ⟨w,o,none⟩=false:=fun o=>by have:=F3.row 0 _ rfl;simp[World.frozen?,show V3.heap[w.heap.size]? =_ from this]
 have c9:jc V3 w 4 (js b0 x.G b3):=a0;refine Vi ?_;refine .inl (hK _ _ (fun h=>absurd h eh) ?_);clear hK K a0 c9 fz;have a3:Hid (Fr w [(#[x.ver,x.par,js a4 x.S a5,js b1 x.P d1,js b2 x.G d2,js a7 x.R a8],28),(#[jV 0,jV 0,jN,jN,jN,jN],28)] (World.setCell V3 ⟨w,4,none⟩ (js b2 x.G d2))):=F3.set 0 rfl 4 (js b2 x.G d2);have O3:=hI (aV O2 (a:=⟨w,4,none⟩) ee (js b2 x.G d2));have P2:=hI (aV P1 (a:=⟨w,4,none⟩) ee (js b2 x.G d2));clear F3 O2 P1 ;generalize World.setCell V3 ⟨w,4,none⟩ _=V4 at *;refine eI ef ?_ _;have A0:=P2;have A1:=O3;clear P2 O3;go_upto_region 2 with fail;refine iH [7,9] (fun W=>jc W w 2 (js a4 x.S a5)/\jc W w 5 (js a7 x.R a8)) ef ?_;intro U0 c6 a1;have F0:=hI (a3.below a1);have A2:=hI (bU A0 a1);have A3:=hI (bU A1 a1);have D:jc U0 w 2 (js a4 x.S a5)/\jc U0 w 5 (js a7 x.R a8):=⟨(Mu U0 _ 2 _ _ _ (F0.row 0 _ rfl)).trans rfl,(Mu U0 _ 5 _ _ _ (F0.row 0 _ rfl)).trans rfl⟩;have t0: ∀t:aX (fun W=>jc W w 2 (js a4 x.S a5)/\jc W w 5 (js a7 x.R a8)),jc t.w w 2 (js a4 x.S a5):=fun t=>t.h.1;have t1: ∀t:aX (fun W=>jc W w 2 (js a4 x.S a5)/\jc W w 5 (js a7 x.R a8)),jc t.w w 5 (js a7 x.R a8):=fun t=>t.h.2;clear c6 a1 a3 A0 A1;refine zB [0,1,3,4] D ?_;clear t0 t1;refine aS 2 ef ?_;refine Oe (H9 U0 F0.bel) fun K hK=>?_;rintro e U1 ⟨u,rfl,h1,H⟩;simp[go_sem];have D0:jc U1 w 2 (js a4 x.S a5)/\jc U1 w 5 (js a7 x.R a8):=⟨(H.cell (Mt D.1)).trans D.1,(H.cell (Mt D.2)).trans D.2⟩;refine Ob ?_;clear hK K;have F1:=hI (F0.below H);have O0:=hI (aJ.base h1 (show w.heap.size+2<=U0.heap.size from F0.sz));have A4:=hI (bU A2 H);have A5:=hI (bU A3 H);obtain⟨N,A,b6⟩:=aJ.slice O0;subst b6;clear h1 H D F0 A2 A3;refine zB [6] D0 ?_;refine aS 5 ef ?_;refine Oe (d5 U1 F1.bel) fun K hK=>?_;rintro e U2 ⟨u,rfl,h1,H⟩;simp[go_sem]
 have D2:jc U2 w 2 (js a4 x.S a5)/\jc U2 w 5 (js a7 x.R a8):=⟨(H.cell (Mt D0.1)).trans D0.1,(H.cell (Mt D0.2)).trans D0.2⟩;refine hK _ _ (fun _=>D2) ?_;clear hK K;have F:=hI (F1.below H);have O1:=hI (aJ.base h1 (show w.heap.size+2<=U1.heap.size from F1.sz));have P0:=hI (aJ.below O0 H);have A6:=hI (bU A4 H);have A7:=hI (bU A5 H);obtain⟨O,z,b6⟩:=aJ.slice O1;subst b6;clear h1 H D0 F1 O0 A4 A5;refine aS 7 ef ?_;intro K hK;have a0:=(Mu U2 _ 2 _ _ _ (F.row 0 _ rfl)).trans rfl;have fz: ∀o,U2.frozen? ⟨w,o,none⟩=false:=fun o=>by have:=F.row 0 _ rfl;simp[World.frozen?,show U2.heap[w.heap.size]? =_ from this]
 have c9:jc U2 w 2 (js a4 x.S a5):=a0;refine Vi ?_;refine .inl (hK _ _ (fun h=>absurd h eh) ?_);clear hK K a0 c9 fz;have F3:Hid (Fr w [(#[x.ver,x.par,js N x.S A,js b1 x.P d1,js b2 x.G d2,js a7 x.R a8],28),(#[jV 0,jV 0,jN,jN,jN,jN],28)] (World.setCell U2 ⟨w,2,none⟩ (js N x.S A))):=F.set 0 rfl 2 (js N x.S A);have O2:=hI (aJ.setCell O1 (a:=⟨w,2,none⟩) ee (js N x.S A));have P1:=hI (aJ.setCell P0 (a:=⟨w,2,none⟩) ee (js N x.S A));have A8:=hI (aV A6 (a:=⟨w,2,none⟩) ee (js N x.S A));have A9:=hI (aV A7 (a:=⟨w,2,none⟩) ee (js N x.S A));clear F O1 P0 D2 A6 A7;generalize World.setCell U2 ⟨w,2,none⟩ _=U3 at *;refine tO 8 ef Qd (fun h=>absurd h eh) ?_;intro K hK o c0;simp at c0;subst c0;refine Qo ?_;refine aS 9 ef ?_;intro K hK;have a0:=(Mu U3 _ 5 _ _ _ (F3.row 0 _ rfl)).trans rfl;have fz: ∀o,U3.frozen? ⟨w,o,none⟩=false:=fun o=>by have:=F3.row 0 _ rfl;simp[World.frozen?,show U3.heap[w.heap.size]? =_ from this]
 have c9:jc U3 w 5 (js a7 x.R a8):=a0;refine Vi ?_;refine .inl (hK _ _ (fun h=>absurd h eh) ?_);clear hK K a0 c9 fz;have a3:Hid (Fr w [(#[x.ver,x.par,js N x.S A,js b1 x.P d1,js b2 x.G d2,js O x.R z],28),(#[jV 0,jV 0,jN,jN,jN,jN],28)] (World.setCell U3 ⟨w,5,none⟩ (js O x.R z))):=F3.set 0 rfl 5 (js O x.R z);have O3:=hI (aJ.setCell O2 (a:=⟨w,5,none⟩) ee (js O x.R z));have P2:=hI (aJ.setCell P1 (a:=⟨w,5,none⟩) ee (js O x.R z));have A0:=hI (aV A8 (a:=⟨w,5,none⟩) ee (js O x.R z));have A1:=hI (aV A9 (a:=⟨w,5,none⟩) ee (js O x.R z));clear F3 O2 P1 A8 A9;generalize World.setCell U3 ⟨w,5,none⟩ _=U4 at *;refine eI ef ?_ _;have H4:Hid (PT w x (js N x.S A) (js b1 x.P d1) (js b2 x.G d2) (js O x.R z) 0 0 U4):=⟨a3.bel,a3.sz,a3.row 0 _ rfl,a3.row 1 _ rfl,A0,A1,P2.imp fun i b8 y k=>mL _ _ _ _ (SR a3.bel (fun b H=>SG P2 O3 i H)) k,O3.imp fun i b8 y k=>oX _ _ _ _ (SR a3.bel (fun b H=>SG P2 O3 i H)) k⟩;clear a3 P2 O3 A0 A1;have x2:jc U4 w 2 (js N x.S A):=jr H4.row;go_wp2_with fail;go_loopg [26] x.S.length (fun g i wr=> ∃(k:Nat),k<=x.S.length/\g=x.S.length-k/\i= jV k/\PT w x (js N x.S A) (js b1 x.P d1) (js b2 x.G d2) (js O x.R z) k 0 wr)
 ·exact⟨0,ed,ed,rfl,H4⟩
 clear H4 x2;obtain⟨k,f5,rfl,rfl,M⟩:=hrel;have b7:x.S.length<=1000:=d3.S;by_cases U:k<x.S.length
 ·have hd:decide ((k:Int)<(x.S:Int))=true:=em;have e9:(0:Int)<=(k:Int):=ed;have f0:(k:Int)<(x.S:Int):=ed;obtain⟨g3,b8,rfl,d6,⟨cur,hB9⟩,a6,⟨en,rfl,d7⟩,n⟩:=M.s.get U;obtain⟨Z,y2,rfl,c7⟩:=d7;have z0:jc wr g3 (k * 3) x.S[k].id:=n 0 ee;have z1:jc wr g3 (k * 3+1) x.S[k].pt:=n 1 ee;have z2:jc wr g3 (k * 3+2) (js Z x.S[k].ends.length y2):=n 2 ee;clear n;go_upto_region 6 with fail;generalize hV:World.alloc _ _=W4;have X:jb wr W4:=Ub;have H0:=hI (M.below X);have H1:Hid (jk W4 wr #[x.S[k].id,x.S[k].pt,js Z x.S[k].ends.length y2] 80):=(by show _=_;rw[<-hV];exact Nc _ _);have H2:Hid (aB W4 2 fI Z y2 x.S[k].ends):=(c7.ext DW (mZ _ _)).below lB X;have c8:=hI U;have H5:=hI (d3.ends k U);clear hV c7 z0 z1 z2 hB9 d6 M X;refine iH [8] (fun W=>jc W w 2 (jq g3 0 x.S A)/\jc W wr 2 (js Z x.S[k].ends.length y2)) ef ?_;intro V L p;have E:=hI (H0.below p);have H3:Hid (aB V 2 fI Z y2 x.S[k].ends):=H2.below lB p;have D:jc V w 2 (jq g3 0 x.S A)/\jc V wr 2 (js Z x.S[k].ends.length y2):=⟨(Mu V _ 2 _ _ _ E.row).trans rfl,(Mu V _ 2 _ _ _ ((jm p H1))).trans rfl⟩;clear L p H0 H1 H2;have t0: ∀t:aX (fun W=>jc W w 2 (jq g3 0 x.S A)/\jc W wr 2 (js Z x.S[k].ends.length y2)),jc t.w w 2 (jq g3 0 x.S A):=fun t=>t.h.1;have t1: ∀t:aX (fun W=>jc W w 2 (jq g3 0 x.S A)/\jc W wr 2 (js Z x.S[k].ends.length y2)),jc t.w wr 2 (js Z x.S[k].ends.length y2):=fun t=>t.h.2;refine zB [0,2,3,1,4] D ?_;clear t0 t1;refine aS 5 ef ?_;refine Oe (e6 V Z y2 x.S[k].ends H3 H5) fun K hK=>?_;rintro e C ⟨u,rfl,h1,H⟩;simp[go_sem];have D0:jc C w 2 (jq g3 0 x.S A)/\jc C wr 2 (js Z x.S[k].ends.length y2):=⟨(H.cell (Mt D.1)).trans D.1,(H.cell (Mt D.2)).trans D.2⟩;refine Ob ?_;clear hK K
  have c3:Hid (vH (bK (kD w (jq g3 0 x.S A) (js O x.R z) (k+1) k) C) u x.S[k].ends):=kK (f:=nG) (BN h1 fun b H=>by obtain⟨c,q,hq⟩:=fD h1 H;exact E.new hq _ _) (fun _ _=>rfl) (fun _ _=>rfl);have Y:=hI (E.below H);obtain⟨u1,u2,b6,-⟩:=c3.o;subst b6;clear h1 H D E H3;refine zB [6,7] D0 ?_;refine aS 8 ef ?_;intro K hK;obtain⟨d8,b8,d0,d9,⟨cur,hB9⟩,a6,c1,n⟩:=Y.s.get c8;obtain rfl:g3=d8:=(by cases d0;rfl);have a0:=n 2 ed;have fz:C.frozen? ⟨g3,k * 3+2,none⟩=false:=Kl;simp[wpOp,go_sem,a0,fz];refine .inl (hK _ _ (fun h=>absurd h eh) ?_);clear hK K;have H6:=hI (Y.setS c8 c3);clear Y c3 D0 hB9 a6 c1 n a0 fz d0 d9;generalize World.setCell C _ _=V2 at *;refine eI ef ?_ _;go_wp2_with fail;go_roundg (x.S.length-(k+1))
  ·go_light;exact⟨k+1,ed,ed,ej,H6⟩
  go_light;omega
 obtain rfl:k=x.S.length:=ed;have hd:decide ((x.S:Int)<(x.S:Int))=false:=ee;have x5:jc wr w 5 (js O x.R z):=jr M.row;have d4:=hI M;clear M;go_wp2_with fail;go_loopg [43] x.R.length (fun g i wr=> ∃(m:Nat),m<=x.R.length/\g=x.R.length-m/\i= jV m/\PT w x (js N x.S A) (js b1 x.P d1) (js b2 x.G d2) (js O x.R z) x.S m wr)
 ·exact⟨0,ed,ed,rfl,d4⟩
 clear d4 x5;obtain⟨m,f6,rfl,rfl,M⟩:=hrel;have b7:x.R.length<=1000:=d3.R;by_cases U:m<x.R.length
 ·have hd:decide ((m:Int)<(x.R:Int))=true:=em;have e9:(0:Int)<=(m:Int):=ed;have f0:(m:Int)<(x.R:Int):=ed;obtain⟨G,b8,rfl,e0,⟨cur,hB9⟩,a6,⟨v1,v2,v3,rfl,a9⟩,n⟩:=M.r.get U;obtain⟨p1,f7,I,rfl,ip⟩:=a9.A;obtain⟨o1,f8,o3,rfl,e2⟩:=a9.O;obtain⟨f1,J,rfl,-⟩:=a9.fl;obtain rfl:=ip.len;obtain rfl:=e2.len;clear ip e2;have z0:jc wr G (m * 7) x.R[m].id:=n 0 ee;have z1:jc wr G (m * 7+1) x.R[m].E:=n 1 ee;have z2:jc wr G (m * 7+2) x.R[m].X:=n 2 ee;have z3:jc wr G (m * 7+3) (js p1 x.R[m].A.length I):=n 3 ee;have z4:jc wr G (m * 7+4) (js o1 x.R[m].O.length o3):=n 4 ee;have z5:jc wr G (m * 7+5) (js f1 x.R[m].fl.length J):=n 5 ee;have z6:jc wr G (m * 7+6) x.R[m].T:=n 6 ee;clear n;go_upto_region 11 with fail;generalize hV:World.alloc _ _=W4;have X:jb wr W4:=Ub;have H0:=hI (M.below X);have H1:Hid (jk W4 wr #[x.R[m].id,x.R[m].E,x.R[m].X,js p1 x.R[m].A.length I,js o1 x.R[m].O.length o3,js f1 x.R[m].fl.length J,x.R[m].T] 102):=(by show _=_;rw[<-hV];exact Nc _ _);have H2:Hid (dY W4 (js p1 x.R[m].A.length I) (js o1 x.R[m].O.length o3) (js f1 x.R[m].fl.length J) x.R[m]):=(a9.ext (mZ _ _)).below X;have c8:=hI U;have H5:=hI (d3.rt m U);clear hV a9 z0 z1 z2 z3 z4 z5 z6 hB9 e0 M X;refine iH [6] (fun W=>jc W w 5 (jq G 0 x.R z)/\jc W wr 0 x.R[m].id/\jc W wr 1 x.R[m].E/\jc W wr 2 x.R[m].X/\jc W wr 3 (js p1 x.R[m].A.length I)/\jc W wr 4 (js o1 x.R[m].O.length o3)/\jc W wr 5 (js f1 x.R[m].fl.length J)/\jc W wr 6 x.R[m].T) ef ?_;intro V L p;have E:=hI (H0.below p);have H3:Hid (dY V (js p1 x.R[m].A.length I) (js o1 x.R[m].O.length o3) (js f1 x.R[m].fl.length J) x.R[m]):=H2.below p;have hq:=jm p H1
  have D:jc V w 5 (jq G 0 x.R z)/\jc V wr 0 x.R[m].id/\jc V wr 1 x.R[m].E/\jc V wr 2 x.R[m].X/\jc V wr 3 (js p1 x.R[m].A.length I)/\jc V wr 4 (js o1 x.R[m].O.length o3)/\jc V wr 5 (js f1 x.R[m].fl.length J)/\jc V wr 6 x.R[m].T:=⟨(Mu V _ 5 _ _ _ E.row).trans rfl,(Mu V _ 0 _ _ _ hq).trans rfl,(Mu V _ 1 _ _ _ hq).trans rfl,(Mu V _ 2 _ _ _ hq).trans rfl,(Mu V _ 3 _ _ _ hq).trans rfl,(Mu V _ 4 _ _ _ hq).trans rfl,(Mu V _ 5 _ _ _ hq).trans rfl,(Mu V _ 6 _ _ _ hq).trans rfl⟩;clear L p H0 H1 H2 hq;have t0: ∀t:aX (fun W=>jc W w 5 (jq G 0 x.R z)/\jc W wr 0 x.R[m].id/\jc W wr 1 x.R[m].E/\jc W wr 2 x.R[m].X/\jc W wr 3 (js p1 x.R[m].A.length I)/\jc W wr 4 (js o1 x.R[m].O.length o3)/\jc W wr 5 (js f1 x.R[m].fl.length J)/\jc W wr 6 x.R[m].T),jc t.w w 5 (jq G 0 x.R z):=fun t=>t.h.1;have t1: ∀t:aX (fun W=>jc W w 5 (jq G 0 x.R z)/\jc W wr 0 x.R[m].id/\jc W wr 1 x.R[m].E/\jc W wr 2 x.R[m].X/\jc W wr 3 (js p1 x.R[m].A.length I)/\jc W wr 4 (js o1 x.R[m].O.length o3)/\jc W wr 5 (js f1 x.R[m].fl.length J)/\jc W wr 6 x.R[m].T),jc t.w wr 0 x.R[m].id:=fun t=>t.h.2.1;have t2: ∀t:aX (fun W=>jc W w 5 (jq G 0 x.R z)/\jc W wr 0 x.R[m].id/\jc W wr 1 x.R[m].E/\jc W wr 2 x.R[m].X/\jc W wr 3 (js p1 x.R[m].A.length I)/\jc W wr 4 (js o1 x.R[m].O.length o3)/\jc W wr 5 (js f1 x.R[m].fl.length J)/\jc W wr 6 x.R[m].T),jc t.w wr 1 x.R[m].E:=fun t=>t.h.2.2.1
  have t3: ∀t:aX (fun W=>jc W w 5 (jq G 0 x.R z)/\jc W wr 0 x.R[m].id/\jc W wr 1 x.R[m].E/\jc W wr 2 x.R[m].X/\jc W wr 3 (js p1 x.R[m].A.length I)/\jc W wr 4 (js o1 x.R[m].O.length o3)/\jc W wr 5 (js f1 x.R[m].fl.length J)/\jc W wr 6 x.R[m].T),jc t.w wr 2 x.R[m].X:=fun t=>t.h.2.2.2.1;have t4: ∀t:aX (fun W=>jc W w 5 (jq G 0 x.R z)/\jc W wr 0 x.R[m].id/\jc W wr 1 x.R[m].E/\jc W wr 2 x.R[m].X/\jc W wr 3 (js p1 x.R[m].A.length I)/\jc W wr 4 (js o1 x.R[m].O.length o3)/\jc W wr 5 (js f1 x.R[m].fl.length J)/\jc W wr 6 x.R[m].T),jc t.w wr 3 (js p1 x.R[m].A.length I):=fun t=>t.h.2.2.2.2.1;have t5: ∀t:aX (fun W=>jc W w 5 (jq G 0 x.R z)/\jc W wr 0 x.R[m].id/\jc W wr 1 x.R[m].E/\jc W wr 2 x.R[m].X/\jc W wr 3 (js p1 x.R[m].A.length I)/\jc W wr 4 (js o1 x.R[m].O.length o3)/\jc W wr 5 (js f1 x.R[m].fl.length J)/\jc W wr 6 x.R[m].T),jc t.w wr 4 (js o1 x.R[m].O.length o3):=fun t=>t.h.2.2.2.2.2.1;have t6: ∀t:aX (fun W=>jc W w 5 (jq G 0 x.R z)/\jc W wr 0 x.R[m].id/\jc W wr 1 x.R[m].E/\jc W wr 2 x.R[m].X/\jc W wr 3 (js p1 x.R[m].A.length I)/\jc W wr 4 (js o1 x.R[m].O.length o3)/\jc W wr 5 (js f1 x.R[m].fl.length J)/\jc W wr 6 x.R[m].T),jc t.w wr 5 (js f1 x.R[m].fl.length J):=fun t=>t.h.2.2.2.2.2.2.1
  have t7: ∀t:aX (fun W=>jc W w 5 (jq G 0 x.R z)/\jc W wr 0 x.R[m].id/\jc W wr 1 x.R[m].E/\jc W wr 2 x.R[m].X/\jc W wr 3 (js p1 x.R[m].A.length I)/\jc W wr 4 (js o1 x.R[m].O.length o3)/\jc W wr 5 (js f1 x.R[m].fl.length J)/\jc W wr 6 x.R[m].T),jc t.w wr 6 x.R[m].T:=fun t=>t.h.2.2.2.2.2.2.2;refine zB [0,2,3,1] D ?_;clear t0 t1 t2 t3 t4 t5 t6 t7;refine aS 4 ef ?_;refine Oe (e7 V x.R[m] _ _ _ _ _ _ _ _ _ H3 H5) fun K hK=>?_;rintro e C ⟨i1,j1,i2,j2,i3,j3,rfl,h1,H⟩;simp[go_sem];have D0:jc C w 5 (jq G 0 x.R z)/\jc C wr 0 x.R[m].id/\jc C wr 1 x.R[m].E/\jc C wr 2 x.R[m].X/\jc C wr 3 (js p1 x.R[m].A.length I)/\jc C wr 4 (js o1 x.R[m].O.length o3)/\jc C wr 5 (js f1 x.R[m].fl.length J)/\jc C wr 6 x.R[m].T:=⟨(H.cell (Mt D.1)).trans D.1,(H.cell (Mt D.2.1)).trans D.2.1,(H.cell (Mt D.2.2.1)).trans D.2.2.1,(H.cell (Mt D.2.2.2.1)).trans D.2.2.2.1,(H.cell (Mt D.2.2.2.2.1)).trans D.2.2.2.2.1,(H.cell (Mt D.2.2.2.2.2.1)).trans D.2.2.2.2.2.1,(H.cell (Mt D.2.2.2.2.2.2.1)).trans D.2.2.2.2.2.2.1,(H.cell (Mt D.2.2.2.2.2.2.2)).trans D.2.2.2.2.2.2.2⟩;refine Ob ?_;clear hK K;have c3:Hid (dY (bK (kD w (js N x.S A) (jq G 0 x.R z) (m+1) m) C) (js i1 x.R[m].A.length j1) (js i2 x.R[m].O.length j2) (js i3 x.R[m].fl.length j3) x.R[m]):=h1.off fun b H=>E.new H _ _;have Y:=hI (E.below H);clear h1 H D E H3;refine zB [5] D0 ?_;refine aS 6 ef ?_;intro K hK;obtain⟨d8,b8,d0,d9,⟨cur,hB9⟩,a6,c1,n⟩:=Y.r.get c8;obtain rfl:G=d8:=(by cases d0;rfl);have e3:C.there G (m * 7) 7:=fun j hj=>⟨by rw[n j ed];rfl,Kl⟩;refine z4p rfl rfl 102 (.tmp 53) (.tmp 52) rfl G (m * 7) #[x.R[m].id,x.R[m].E,x.R[m].X,js i1 x.R[m].A.length j1,js i2 x.R[m].O.length j2,js i3 x.R[m].fl.length j3,x.R[m].T] rfl rfl e3 ef Qj ?_;refine hK _ _ (fun h=>absurd h eh) ?_;clear hK K;have H6:=hI (Y.setR c8 c3)
  clear Y c3 D0 hB9 a6 c1 n d0 d9 e3;generalize World.setCells C _ _ _=V2 at *;refine eI ef ?_ _;go_wp2_with fail;go_roundg (x.R.length-(m+1))
  ·go_light;exact⟨m+1,ed,ed,ej,H6⟩
  go_light;omega
 obtain rfl:m=x.R.length:=ed;have hd:decide ((x.R:Int)<(x.R:Int))=false:=ee;have d4:=hI M;obtain⟨Z,y1,y2,y3,y4,y5⟩:=dB M.row;obtain⟨z0,z1,z2,z3,z4,z5⟩:=dB M.zr;have fz: ∀o,wr.frozen? ⟨w+1,o,none⟩=false:=fun o=>by simp[World.frozen?,M.zr]
 have lr:=aD M.zr;have f9:=aD M.row;clear M;go_wp2_with fail;refine On fun c2 o9=>?_;have q0:jc c2 (w+1) 0 x.ver:=En;have q1:jc c2 (w+1) 1 x.par:=En;have q2:jc c2 (w+1) 2 (js N x.S A):=En;have q3:jc c2 (w+1) 3 (js b1 x.P d1):=En;have q4:jc c2 (w+1) 4 (js b2 x.G d2):=En;have q5:jc c2 (w+1) 5 (js O x.R z):=En;have c0:aZ (w+1) wr c2:=(by rw[<-o9];exact aZ.cells (w+1) [jV x.ver,jV x.par,.slice N x.S A,.slice b1 x.P d1,.slice b2 x.G d2,.slice O x.R z] 0 wr);clear o9;obtain⟨f3,f4⟩:=d4.done c0;refine Nh (v:= .agg #[x.ver,x.par,js N x.S A,js b1 x.P d1,js b2 x.G d2,js O x.R z]) (by simp[results,Tryz.f61,go_sem,q0,q1,q2,q3,q4,q5]) rfl ?_;exact⟨_,_,_,_,_,_,_,_,rfl,f3,f4⟩
def mt (x:Wd) (a b c:Nat):Wd:=cF (cF (cB x a) (cB x b)) (fC x c)
def qY (l:List Wd) (t:Nat):Wd:=cJ [l.getD (t-16) 0,mt (l.getD (t-15) 0) 7 18 3,l.getD (t-7) 0,mt (l.getD (t-2) 0) 17 19 10]
def DN {g:Nat}{l:List Wd}{c:Nat}(H:l.length<=c) (h:jk w g (l.map fun x=>Value.int .u32 x.toNat).toArray 85):aB w 1 mQ (some ⟨g,0,none⟩) c l:=
 ⟨H,Vy,fun i hz=>⟨g,0,[.int .u32 (l[i]).toNat],rfl,rfl,(fun j hj=>by
  obtain rfl:j=0:=by simp at hj;omega
  rw[show 0+i * 1+0=i by omega]
  exact(Mu w g i _ _ _ h).trans Qh),rfl⟩⟩
def GV {a:Option Addr}{c:Nat}{l:List Wd}(h:aB w 1 mQ a c l) (hl:l≠[]): ∃g off,a=some ⟨g,off,none⟩/\ ∀W,aB W 1 mQ a c l-> ∀i (H:i<l.length),jc W g (off+i) (.int .u32 (l.getD i 0).toNat):=by
 obtain⟨g,off,V,e,-,-,-⟩:=h.at_ 0 (List.length_pos_iff.2 hl);refine⟨g,off,e,fun W b i H=> ?_⟩;obtain⟨G,o,v,E,h1,h2,h3⟩:=b.at_ i H;rw[e]at E;cases E;cases h3;have:=h2 0 ee;simp only[Pk,Tb,Nu]at this;rw[this,Na,Nf H];rfl
theorem z4d (l:List Wd) (a:Option Addr) (c t:Nat) (w:World) (hl:aB w 1 mQ a c l) (A:16<=t) (k:t<=l.length) (B:l.length<=64):
  jW 422 #[js a l c,t] w fun e q=>e= .returned (.int .u32 (qY l t).toNat)/\jb w q:=by
 obtain⟨g,off,rfl,j⟩:=GV hl (by intro e;subst e;simp at k;omega);have r:Hid (qY l t=cJ [l.getD (t-16) 0,cF (cF (cB (l.getD (t-15) 0) 7) (cB (l.getD (t-15) 0) 18)) (fC (l.getD (t-15) 0) 3),l.getD (t-7) 0,cF (cF (cB (l.getD (t-2) 0) 17) (cB (l.getD (t-2) 0) 19)) (fC (l.getD (t-2) 0) 10)]):=rfl;have b:=hI fun W h=>j W h (t-16) ed;have n:=hI fun W h=>j W h (t-7) ed;have x0:=j w hl (t-15) ed;have c2:=j w hl (t-2) ed;have s:=hI hl;generalize l.getD (t-16) 0=f at *;generalize l.getD (t-15) 0=x at *;generalize l.getD (t-7) 0=x7 at *;generalize l.getD (t-2) 0=X at *;have E:(t:Int)-15=((t-15:Nat):Int):=ed
 have e2:(t:Int)-2=((t-2:Nat):Int):=ed
 have u:(t:Int)-16=((t-16:Nat):Int):=ed
 have e7:(t:Int)-7=((t-7:Nat):Int):=ed
 have f15:((t-15:Nat):Int)<(l:Int):=ed
 have f2:((t-2:Nat):Int)<(l:Int):=ed
 have F:((t-16:Nat):Int)<(l:Int):=ed
 have f7:((t-7:Nat):Int)<(l:Int):=ed
 have b1:=wL;refine Qw fun _=>?_;go_in;go_upto_region 3 with fail;refine iH [] (fun W=>aB W 1 mQ (some ⟨g,off,none⟩) c l/\jb w W) ef ?_;intro v o d;have D0:aB v 1 mQ (some ⟨g,off,none⟩) c l/\jb w v:=⟨s.below yV d,d⟩;have y: ∀T:aX (fun W=>aB W 1 mQ (some ⟨g,off,none⟩) c l/\jb w W),jc T.w g (off+(t-16)) (.int .u32 f.toNat):=fun T=>b _ T.h.1;have t7: ∀T:aX (fun W=>aB W 1 mQ (some ⟨g,off,none⟩) c l/\jb w W),jc T.w g (off+(t-7)) (.int .u32 x7.toNat):=fun T=>n _ T.h.1;have z: ∀T:aX (fun W=>aB W 1 mQ (some ⟨g,off,none⟩) c l/\jb w W),g<T.w.heap.size:=fun T=>Mt (b _ T.h.1);refine zB [0,1,5,7,10,13,14,18,20,23,2,15,3,16,4,17] D0 ?_;refine aS 6 ef ?_;refine Oo fun K hK=>?_;refine .inl ((qZ x 7 eh v).mono ?_);refine Qe fun V H=>?_;obtain rfl:=H.symm;simp[go_sem];refine Ob ?_;refine aS 8 ef ?_;refine Oo fun K hK=>?_;refine .inl ((qZ x 18 eh v).mono ?_);refine Qe fun V H=>?_;obtain rfl:=H.symm;simp[go_sem];refine Ob ?_;refine zB [9] D0 ?_;refine aS 11 ef ?_;refine Oo fun K hK=>?_;refine .inl ((IC x 3 eh v).mono ?_);refine Qe fun V H=>?_;obtain rfl:=H.symm;simp[go_sem];refine Ob ?_;refine zB [12] D0 ?_;refine aS 19 ef ?_;refine Oo fun K hK=>?_;refine .inl ((qZ X 17 eh v).mono ?_);refine Qe fun V H=>?_;obtain rfl:=H.symm;simp[go_sem];refine Ob ?_;refine aS 21 ef ?_;refine Oo fun K hK=>?_;refine .inl ((qZ X 19 eh v).mono ?_);refine Qe fun V H=>?_;obtain rfl:=H.symm;simp[go_sem];refine Ob ?_;refine zB [22] D0 ?_;refine aS 24 ef ?_;refine Oo fun K hK=>?_;refine .inl ((IC X 10 eh v).mono ?_);refine Qe fun V H=>?_;obtain rfl:=H.symm;simp[go_sem];refine Ob ?_;refine zB [25] D0 ?_;refine aS 26 ef ?_;intro K hK;refine Ot ?_;refine Qq fun i hW=>?_;have r1:aB i 1 mQ (some ⟨v,0,none⟩) 4 [f,cF (cF (cB x 7) (cB x 18)) (fC x 3),x7,cF (cF (cB X 17) (cB X 19)) (fC X 10)]:=DN ee Un
 have D:aB i 1 mQ (some ⟨g,off,none⟩) c l/\jb w i:=by
  have p:jb v i:=by rw[<-hW];exact aR
  exact⟨D0.1.below yV p,jt D0.2 p⟩
 refine hK _ _ (fun _=>D) ?_;refine aS 27 ef ?_;refine Oo fun _ hK=>?_;refine .inl ((IB _ _ _ i r1 ee).mono ?_);refine Qe fun _ H=>?_;obtain rfl:=H.symm;simp[go_sem];rw[<-r.o];refine hK _ _ (fun _=>D) ?_;refine zB [28] D ?_;refine eI ef ?_ _;go_wp2_with fail;go_ret;exact⟨rfl,D.2⟩
def gV (n:Int):Wd:=BitVec.ofInt 32 n
def TH (n:Int):n % 4294967296=((gV n).toNat:Int):=by
 rw[gV,BitVec.toNat_ofInt];omega
def jM (b:List Int) (i:Nat):Nat->Int
 | 0=>0
 | m+1=>256 * jM b i m+b.getD (i+m) 0
def TG {b:List Int}(a:aO b) (i:Nat): ∀m,0<=jM b i m/\jM b i m<256 ^ m
 | 0=>by simp[jM]
 | m+1=>by
  have h:=TG a i m
  have hx:0<=b.getD (i+m) 0/\b.getD (i+m) 0<256:=by
   rw[Na];rcases Pw (i+m) b with H | H
   ·rw[Nf H];have:=a _ (Nn H);simp;omega
   rw[Px H];decide
  rw[jM,Int.pow_succ];generalize(256:Int) ^ m=P at *;omega
def gU (b:List Int) (at_:Nat) (k:Nat):List Wd:=(List.range k).map fun i=>gV (jM b (at_+4 * i) 4)
def uG (b:List Int) (at_ k:Nat):(gU b at_ k).length=k:=by simp[gU]
def TF (b:List Int) (at_ k:Nat):gU b at_ (k+1)=gU b at_ k++[gV (jM b (at_+4 * k) 4)]:=by simp[gU,Hh]
def kJ:Nat->List Wd->List Wd
 | 0,l=>l
 | n+1,l=>kJ n l++[qY (kJ n l) (kJ n l).length]
def DM (l:List Wd): ∀n,(kJ n l).length=l.length+n
 | 0=>rfl
 | n+1=>by rw[kJ,Mx,DM l n];rfl
def kW (b:List Int) (at_:Nat):List Wd:=kJ 48 (gU b at_ 16)
def TC (b:List Int) (at_:Nat):(kW b at_).length=64:=by rw[kW,DM,uG]
def eJ (l:List Wd):List Value:=l.map fun x=>Value.int .u32 x.toNat
def dZ (w:World) (base:Nat) (v:Value) (l:List Wd):Prop:=w.ownsRow base 85 1 v l (eJ l)
def dZ.sl {base:Nat}{a:Option Addr}{c:Nat}{l:List Wd}(h:dZ w base (js a l c) l):aB w 1 mQ a c l:=by
 obtain⟨A,C,e,h'⟩:=kK (f:=fun x:Wd=>[Value.int .u32 x.toNat]) (R:=mQ) (show w.ownsRow base 85 1 (js a l c) l (l.flatMap fun x=>[Value.int .u32 x.toNat])by rw[<-Td];exact h) (fun _ _=>rfl) (fun _ _=>rfl);cases e;exact h'
def TA:(prog.info? 85).map (fun i=>(i.zero,i.size,i.bytes))=some (some (.int .u32 0),1,4):=by kernel_rfl
def SZ (x:Wd): ∀u∈[Value.int .u32 (x.toNat:Int)],u.oneCell'=true:=by simp[Value.oneCell']
theorem z4e (b:List Int) (a:Option Addr) (c at_:Nat) (w:World) (hl:aB w 1 dG a c b) (M:aO b) (a4:at_+64<=b.length) (b4:b.length<=10000):
  jW 391 #[js a b c,at_] w fun e a0=> ∃a1 a2,e= .returned (js a1 64 a2)/\dZ a0 w (js a1 64 a2) (kW b at_)/\jb w a0:=by
 have a5:=hI fun W (hb:jb w W)=>hl.below fS hb;have D:=hI M
 go_in;go_wp2_with fail;go_loopg [5,6,7,8] 16 (fun g r i n k0 wr=> ∃(k:Nat) (B:Option Addr) (d:Nat),k<=16/\g=16-k/\r= .slice B k d/\i= jV k/\jb w wr/\dZ wr w (js B k d) (gU b at_ k))
 ·exact⟨0,none,0,by omega,by omega,rfl,rfl,Nb _ _,Nw _ _ _ _⟩
 obtain⟨k,B,d,a6,rfl,rfl,rfl,hb,ho⟩:=hrel;have K:=hI hb;have G9:=hI ho;by_cases O:k<16
 ·have hd:decide ((k:Int)<16)=true:=(by simp;omega);have P:=hI (a5 wr K);go_wp2_with fail;go_loopg [7,8] 4 (fun g n i p=> ∃m:Nat,m<=4/\g=4-m/\n= jV (jM b (at_+4 * k) m)/\i= jV m/\p=wr)
  ·exact⟨0,by omega,by omega,rfl,rfl,rfl⟩
  obtain⟨m,a7,rfl,rfl,rfl,rfl⟩:=hrel;have a3:=TG D (at_+4 * k) m;by_cases a8:m<4
  ·have Q:decide ((m:Int)<4)=true:=(by simp;omega);have L:at_+4 * k+m<b.length:=(by omega);obtain⟨g,off,b5,rfl,a9,R,T⟩:=P.at_ (at_+4 * k+m) L;cases T;have x0:=R 0 (by simp);simp only[Pk,Tb,Nu]at x0;have b6:=Mt x0;have hx:=D _ (Nn L)
   have HV:Hid (jM b (at_+4 * k) (m+1)=256 * jM b (at_+4 * k) m+b[at_+4 * k+m]):=by
    show _=_;rw[jM,Na,Nf L];rfl
   have c1:=aN L;have e1:(at_:Int)+4 * (k:Int)+(m:Int)=((at_+4 * k+m:Nat):Int):=(by omega);have b7:at_+4 * k+m<=10000:=by omega
   have b0:(256:Int) ^ m<=16777216:=by
    have:m=0\/m=1\/m=2\/m=3:=(by omega);rcases this with rfl | rfl | rfl | rfl<;>decide
   have U:=a3.1;have V:jM b (at_+4 * k) m<16777216:=(by omega);generalize jM b (at_+4 * k) m=N at *;generalize b[at_+4 * k+m]=x at *;generalize at_+4 * k+m=q at *;go_wp2_with fail;go_roundg (4-(m+1))
   ·go_light;exact⟨m+1,by omega,by omega,by rw[HV.o],by go_num,rfl⟩
   go_light;omega
  obtain rfl:m=4:=(by omega);have Q:decide (((4:Nat):Int)<4)=false:=(by decide);have b0:(256:Int) ^ 4=4294967296:=(by decide);have U:=a3.1;have V:jM b (at_+4 * k) 4<4294967296:=(by omega);have b1:jM b (at_+4 * k) 4=((gV (jM b (at_+4 * k) 4)).toNat:Int):=(by rw[<-TH];omega);have b2:=hI (TF b at_ k);generalize gV (jM b (at_+4 * k) 4)=X at *;generalize jM b (at_+4 * k) 4=N at *;subst b1;have b3:=X.isLt;have l:=K.size;have Y:k<=1000:=(by omega);go_wp2_with (at_builtin;refine nT rfl _ _ 332 85 85 _ 1 4 rfl underlying332 TA rfl (by decide) (by decide) w (js B k d) k _ rfl (by have:=G9.o;rw[dZ,uG]at this;exact this) Y l [.int .u32 X.toNat] rfl rfl (SZ X) ?_;intro E G Z f o);have s:=(K.alloc l _).trans (dT ((show wr.ownsRow w 85 1 (js B k d) k (eJ (gU b at_ k))by have:=G9.o;rw[dZ,uG]at this;exact this).alloc _) (Mv _) (by simp;omega) o)
  have t:dZ Z w (jq E 0 (k+1) G) (gU b at_ (k+1)):=by
   rw[dZ,uG,b2.o,eJ,Pr];exact f
  go_roundg (16-(k+1))
  ·go_light;exact⟨k+1,some ⟨E,0,none⟩,G,by omega,by omega,rfl,by go_num,s,t⟩
  go_light;omega
 obtain rfl:k=16:=(by omega);have hd:decide (((16:Nat):Int)<16)=false:=(by decide);have H:Hid (∀j,16<=j->(kJ (j-16) (gU b at_ 16)).length=j):=fun j hj=>by rw[DM,uG];omega
 have HRL:Hid (kJ (16-16) (gU b at_ 16)=gU b at_ 16):=rfl;have u:Hid (∀j,16<=j->kJ (j+1-16) (gU b at_ 16)=kJ (j-16) (gU b at_ 16)++[qY (kJ (j-16) (gU b at_ 16)) j]):=fun j hj=>by rw[show j+1-16=(j-16)+1 by omega,kJ,H.o j hj]
 have v:Hid (kW b at_=kJ (64-16) (gU b at_ 16)):=rfl;generalize hF:(fun j=>kJ (j-16) (gU b at_ 16))=F at *;replace H:Hid (∀j,16<=j->(F j).length=j):=(by subst hF;exact H);replace HRL:Hid (F 16=gU b at_ 16):=(by subst hF;exact HRL);replace u:Hid (∀j,16<=j->F (j+1)=F j++[qY (F j) j]):=(by subst hF;exact u);replace v:Hid (kW b at_=F 64):=(by subst hF;exact v);go_wp2_with fail;go_loopg [5,9] 48 (fun g r i p=> ∃(j:Nat) (A:Option Addr) (d2:Nat),16<=j/\j<=64/\g=64-j/\r= .slice A j d2/\i= jV j/\jb w p/\dZ p w (js A j d2) (F j))
 ·exact⟨16,B,d,by omega,by omega,by omega,rfl,rfl,K,by rw[HRL.o];exact G9⟩
 obtain⟨j,A,d2,hj,a6,rfl,rfl,rfl,hb,ho⟩:=hrel;have I:=hI hb;have y:=hI ho;by_cases O:j<64
 ·have hd:decide ((j:Int)<64)=true:=(by simp;omega);have z:=H j hj;have C:=hI (z4d (F j) A d2 j wr (dZ.sl (by rw[z];exact y)) hj (by omega) (by omega));rw[z]at C;have HV:=hI (u j hj);generalize qY (F j) j=X at *;have b3:=X.isLt;have H0:=hI z;go_wp2_with fail;refine C.mono ?_;rintro e W1 ⟨rfl,J⟩;have K1:=jh I J;have O1:=hI (bU (by have:=y.o;rw[dZ,H0.o]at this;exact this) J);have l:=K1.size;have Y:j<=1000:=(by omega);go_wp2_with (at_builtin;refine nT rfl _ _ 332 85 85 _ 1 4 rfl underlying332 TA rfl (by decide) (by decide) w (js A j d2) j _ rfl O1 Y l [.int .u32 X.toNat] rfl rfl (SZ X) ?_;intro E G Z f o);have s:=(K1.alloc l _).trans (dT (O1.alloc _) (Mv _) (by simp;omega) o)
  have t:dZ Z w (jq E 0 (j+1) G) (F (j+1)):=by
   rw[dZ,H.o (j+1) (by omega),HV.o,eJ,Pr];exact f
  go_roundg (64-(j+1))
  ·go_light;exact⟨j+1,some ⟨E,0,none⟩,G,by omega,by omega,by omega,rfl,by go_num,s,t⟩
  go_light;omega
 obtain rfl:j=64:=(by omega);have hd:decide (((64:Nat):Int)<64)=false:=(by decide);go_wp2_with fail;go_ret;exact⟨A,d2,rfl,by rw[v.o];exact y,I⟩
def gF:List Wd:=[1116352408,1899447441,3049323471,3921009573,961987163,1508970993,2453635748,2870763221,3624381080,310598401,607225278,1426881987,1925078388,2162078206,2614888103,3248222580,3835390401,4022224774,264347078,604807628,770255983,1249150122,1555081692,1996064986,2554220882,2821834349,2952996808,3210313671,3336571891,3584528711,113926993,338241895,666307205,773529912,1294757372,1396182291,1695183700,1986661051,2177026350,2456956037,2730485921,2820302411,3259730800,3345764771,3516065817,3600352804,4094571909,275423344,430227734,506948616,659060556,883997877,958139571,1322822218,1537002063,1747873779,1955562222,2024104815,2227730452,2361852424,2428436474,2756734187,3204031479,3329325298]
structure V8 where
 a:Wd
 b:Wd
 c:Wd
 d:Wd
 e:Wd
 f:Wd
 g:Wd
 h:Wd
def cZ (x:V8):List Wd:=[x.a,x.b,x.c,x.d,x.e,x.f,x.g,x.h]
def bT (x:V8):Array Value:=(eJ (cZ x)).toArray
def uF (x:V8) (k w:Wd):Wd:=cJ [x.h,cF (cF (cB x.e 6) (cB x.e 11)) (cB x.e 25),cF x.g (fK x.e (cF x.f x.g)),k,w]
def yS (x:V8):Wd:=cJ [cF (cF (cB x.a 2) (cB x.a 13)) (cB x.a 22),fX (fK x.a x.b) (fK x.c (fX x.a x.b))]
def wX (x:V8) (k w:Wd):V8:=⟨cJ [uF x k w,yS x],x.a,x.b,x.c,cJ [x.d,uF x k w],x.e,x.f,x.g⟩
def iY (ws:List Wd) (x:V8):Nat->V8
 | 0=>x
 | n+1=>wX (iY ws x n) (gF.getD n 0) (ws.getD n 0)
def qX (x:V8) (ws:List Wd):V8:=let y:=iY ws x 64;⟨cJ [y.a,x.a],cJ [y.b,x.b],cJ [y.c,x.c],cJ [y.d,x.d],cJ [y.e,x.e],cJ [y.f,x.f],cJ [y.g,x.g],cJ [y.h,x.h]⟩
def nM (l h:List Wd) (n:Nat):List Wd:=(List.range 8).map fun i=>if i<n then cJ [l.getD i 0,h.getD i 0]else l.getD i 0
def SY (l h:List Wd) (n i:Nat) (H:i<8):(eJ (nM l h n)).toArray[i]? =some (.int .u32 (if i<n then cJ [l.getD i 0,h.getD i 0]else l.getD i 0).toNat):=by
 simp[eJ,nM,H]
def SW (l h:List Wd) (n:Nat) (H:n<8):(eJ (nM l h n)).toArray.setIfInBounds n (.int .u32 (cJ [l.getD n 0,h.getD n 0]).toNat)=(eJ (nM l h (n+1))).toArray:=by
 apply Ip;apply Fd;intro i;simp only[Fh,If,eJ,nM,Pn,Gy,Pp];by_cases e:n=i
 ·subst e;simp[H]
 by_cases h8:i<8
 ·simp[e,h8];by_cases h3:i<n
  ·rw[Np h3,Np ed]
  rw[Nm h3,Nm ed]
 simp[e,h8]
def iO (z:V8):(bT z).size=8:=rfl
def sT (z:V8):(bT z).all (·.oneCell')=true:=by simp[bT,eJ,cZ,Value.oneCell']
def nB:(prog.info? 381).map (·.size)=some 8:=by kernel_rfl
def uE {g:Nat}(h:jk W g cs T) (o:Nat):W.frozen? ⟨g,o,none⟩=false:=by simp[World.frozen?,h]
def uD {g o:Nat}{u:Value}(h:jk W g cs T):(W.setCell ⟨g,o,none⟩ u).heap[g]? =some (.cells (cs.setIfInBounds o u) T (0,0)):=by simp[World.setCell,Nk,h]
def SU (y x:V8):(eJ (nM (cZ y) (cZ x) 8)).toArray=bT ⟨cJ [y.a,x.a],cJ [y.b,x.b],cJ [y.c,x.c],cJ [y.d,x.d],cJ [y.e,x.e],cJ [y.f,x.f],cJ [y.g,x.g],cJ [y.h,x.h]⟩:=by
 simp[nM,eJ,bT,cZ,List.range,List.range.loop]
def z4f (w:World):jW 390 #[] w fun e W=> ∃a,e= .returned (js a 64 64)/\aB W 1 mQ a 64 gF/\jb w W:=by
 go_in;refine ei ?_;exact⟨_,rfl,DN eh (by rw[show(gF.map fun x=>Value.int .u32 x.toNat).toArray=_ from by kernel_rfl];exact Nc _ _),aR⟩
def DL (x y:Wd) (w:World):jW 392 #[jq w 0 2 2] (w.alloc (.cells #[.int .u32 x.toNat,.int .u32 y.toNat] 85)) fun e W=>e= .returned (.int .u32 (cJ [x,y]).toNat)/\W=w.alloc (.cells #[.int .u32 x.toNat,.int .u32 y.toNat] 85):=
 IB [x,y] _ 2 _ (DN ep Oa) ee
theorem z4g (x:V8) (b:List Int) (a:Option Addr) (c at_:Nat) (w:World) (hl:aB w 1 dG a c b) (a1:aO b) (b0:at_+64<=b.length) (d6:b.length<=10000):
  jW 338 #[.agg (bT x),js a b c,at_] w fun e d7=>e= .returned (.agg (bT (qX x (kW b at_))))/\jb w d7:=by
 have c1:=hI fun W (l:jb w W)=>hl.below fS l;have c2:=hI fun W l=>z4e b a c at_ W (c1 W l) a1 b0 d6;clear hl a1
 rw[show bT x=#[.int .u32 x.a.toNat,.int .u32 x.b.toNat,.int .u32 x.c.toNat,.int .u32 x.d.toNat,.int .u32 x.e.toNat,.int .u32 x.f.toNat,.int .u32 x.g.toNat,.int .u32 x.h.toNat]from rfl];go_in;go_upto_region 1 with fail;generalize s:World.alloc _ _=W0;have K2:=hI (eN s)
 have X0:Hid (jk W0 w (bT x) 381):=by show _=_;rw[<-s];exact(Nv _ _ (by simp)).trans (Nc _ _)
 have Y0:Hid (jk W0 (w+1) (bT ⟨0,0,0,0,0,0,0,0⟩) 381):=by show _=_;rw[<-s];exact Do _ _ _
 have S0:Hid (w+1<W0.heap.size):=by show _<_;rw[<-s];simp
 clear s;go_wp2_with (go_at_call 390;refine(z4f _).mono ?_;rintro e d8 ⟨f9,rfl,ho,hb⟩);have K1:=jh K2 hb;have B0:=hI hb;have H1:=hI ho;clear ho hb;go_wp2_with (go_at_call 391;refine(c2 d8 K1).mono ?_;rintro e j ⟨g0,wc,rfl,c3,I⟩);have d9:=jh K1 I;have O:=TC b at_;have P:=hI (dZ.sl (by rw[O];exact c3));have Q:=hI (H1.below yV I);have R:=jh B0 I;have HRL:=hI O;clear c3 I O c2 c1 H1 K1 B0;generalize a2:kW b at_=ws at *;have b1:=hI a2;clear a2;have F:=jm R X0;have x0:jc j w 0 (.int .u32 x.a.toNat):=jr F;have x1:jc j w 1 (.int .u32 x.b.toNat):=jr F;have x2:jc j w 2 (.int .u32 x.c.toNat):=jr F;have x3:jc j w 3 (.int .u32 x.d.toNat):=jr F;have x4:jc j w 4 (.int .u32 x.e.toNat):=jr F;have x5:jc j w 5 (.int .u32 x.f.toNat):=jr F;have x6:jc j w 6 (.int .u32 x.g.toNat):=jr F;have x7:jc j w 7 (.int .u32 x.h.toNat):=jr F;have e0:=aD F;clear F;go_upto_region 3 with fail;go_quiet (fail);go_wp2_with fail;clear x0 x1 x2 x3 x4 x5 x6 x7 e0;obtain⟨b2,c4,rfl,H2⟩:=GV Q (by simp[gF]);obtain⟨c5,e3,rfl,H3⟩:=GV P (by intro h;have:=HRL.o;rw[h]at this;cases this);have c6:Hid (∀W,jb j W-> ∀t,t<64->jc W b2 (c4+t) (.int .u32 (gF.getD t 0).toNat)):=fun W l t G9=>H2 W (Q.below yV l) t G9;have C0:=hI fun W l t G9=>H3 W (P.below yV l) t (by rw[HRL.o];exact G9);have f:Hid (iY ws x 0=x):=rfl;have H4:Hid (∀n,iY ws x (n+1)=wX (iY ws x n) (gF.getD n 0) (ws.getD n 0)):=fun n=>rfl;have b3:Hid (qX x ws=⟨cJ [(iY ws x 64).a,x.a],cJ [(iY ws x 64).b,x.b],cJ [(iY ws x 64).c,x.c],cJ [(iY ws x 64).d,x.d],cJ [(iY ws x 64).e,x.e],cJ [(iY ws x 64).f,x.f],cJ [(iY ws x 64).g,x.g],cJ [(iY ws x 64).h,x.h]⟩):=rfl;generalize a3:qX x ws=a8 at *;have H5:=hI a3;clear a3;clear H2 H3 Q P;generalize iY ws x=Y at *
 go_loopg [9,10,11,12,13,14,15,16,17] 64 (fun g va e4 e5 e6 e7 e8 e9 f0 f1 wr=> ∃t,t<=64/\g=64-t/\va= .int .u32 (Y t).a.toNat/\e4= .int .u32 (Y t).b.toNat/\e5= .int .u32 (Y t).c.toNat/\e6= .int .u32 (Y t).d.toNat/\e7= .int .u32 (Y t).e.toNat/\e8= .int .u32 (Y t).f.toNat/\e9= .int .u32 (Y t).g.toNat/\f0= .int .u32 (Y t).h.toNat/\f1= jV t/\jb j wr)
 ·exact⟨0,by omega,by omega,by rw[f.o],by rw[f.o],by rw[f.o],by rw[f.o],by rw[f.o],by rw[f.o],by rw[f.o],by rw[f.o],rfl,dM (Nb _ _) _⟩
 obtain⟨t,G9,rfl,rfl,rfl,rfl,rfl,rfl,rfl,rfl,rfl,rfl,l⟩:=hrel;have U:=hI l;clear l;by_cases q:t<64
 ·have hd:decide ((t:Int)<64)=true:=(by simp;omega);have HS:=hI (H4 t);have C1:=hI fun W h=>c6 W h t q;have C2:=hI fun W h=>C0 W h t q;generalize gF.getD t 0=L at *;generalize ws.getD t 0=M at *;have HY:Hid (wX (Y t) L M=⟨cJ [uF (Y t) L M,yS (Y t)],(Y t).a,(Y t).b,(Y t).c,cJ [(Y t).d,uF (Y t) L M],(Y t).e,(Y t).f,(Y t).g⟩):=rfl;have b4:Hid (uF (Y t) L M=cJ [(Y t).h,cF (cF (cB (Y t).e 6) (cB (Y t).e 11)) (cB (Y t).e 25),cF (Y t).g (fK (Y t).e (cF (Y t).f (Y t).g)),L,M]):=rfl;have b5:Hid (yS (Y t)=cJ [cF (cF (cB (Y t).a 2) (cB (Y t).a 13)) (cB (Y t).a 22),fX (fK (Y t).a (Y t).b) (fK (Y t).c (fX (Y t).a (Y t).b))]):=rfl;generalize uF (Y t) L M=a9 at *;generalize yS (Y t)=c7 at *;generalize Y t=y at *;obtain⟨J,b6,c8,d0,N,d1,b7,f2⟩:=y;have g1:=aQ t;have g2:=wL;have b8:(t:Int)<64:=(by omega);have HLT:=hI q;clear q;go_upto_region 7 with fail;refine iH [] (fun W=>jb j W) (by kernel_rfl) ?_;intro r z d;have D0:=jo U d;clear z d;have t0: ∀T:aX (fun W=>jb j W),jc T.w b2 (c4+t) (.int .u32 L.toNat):=fun T=>C1 _ T.h;have t7: ∀T:aX (fun W=>jb j W),jc T.w c5 (e3+t) (.int .u32 M.toNat):=fun T=>C2 _ T.h;have l0: ∀T:aX (fun W=>jb j W),b2<T.w.heap.size:=fun T=>Mt (C1 _ T.h);have l7: ∀T:aX (fun W=>jb j W),c5<T.w.heap.size:=fun T=>Mt (C2 _ T.h);refine zB [0,1,3,6,9,10,11,13,14,17,18,15,19,16,20] D0 ?_;clear t0 t7 l0 l7;refine aS 2 (by kernel_rfl) ?_;intro K hK;simp[wpOp,go_sem];refine .inl ((qZ N 6 (by decide) r).mono ?_);rintro e V ⟨rfl,H⟩;obtain rfl:=H.symm;simp[go_sem];refine hK _ _ (fun _=>D0) ?_;clear hK K;refine aS 4 (by kernel_rfl) ?_;intro K hK;simp[wpOp,go_sem];refine .inl ((qZ N 11 (by decide) r).mono ?_);rintro e V ⟨rfl,H⟩;obtain rfl:=H.symm;simp[go_sem];refine hK _ _ (fun _=>D0) ?_;clear hK K;refine zB [5] D0 ?_;refine aS 7 (by kernel_rfl) ?_;intro K hK;simp[wpOp,go_sem];refine .inl ((qZ N 25 (by decide) r).mono ?_);rintro e V ⟨rfl,H⟩;obtain rfl:=H.symm;simp[go_sem];refine hK _ _ (fun _=>D0) ?_;clear hK K;refine zB [8] D0 ?_;refine aS 12 (by kernel_rfl) ?_;intro K hK;simp[wpOp,go_sem];refine .inl ((z3i N d1 b7 r).mono ?_);rintro e V ⟨rfl,H⟩;obtain rfl:=H.symm;simp[go_sem];refine hK _ _ (fun _=>D0) ?_;clear hK K;refine aS 21 (by kernel_rfl) ?_;intro K hK;simp[wpOp,go_sem];refine .inl ?_;generalize hW:World.alloc _ _=A;have r1:aB A 1 mQ (some ⟨r,0,none⟩) 5 [f2,cF (cF (cB N 6) (cB N 11)) (cB N 25),cF b7 (fK N (cF d1 b7)),L,M]:=DN (by simp) (by rw[<-hW];exact Nc _ _)
  have D:jb j A:=by
   have l:jb r A:=(by rw[<-hW];exact aR);exact jt D0 l
  refine hK _ _ (fun _=>D) ?_;clear hK K hW;refine aS 22 (by kernel_rfl) ?_;intro K hK;simp[wpOp,go_sem];refine .inl ((IB _ _ _ A r1 (by simp)).mono ?_);rintro e V ⟨rfl,H⟩;obtain rfl:=H.symm;simp[go_sem];rw[<-b4.o];refine hK _ _ (fun _=>D) ?_;clear hK K;refine zB [23] D ?_;refine eI (by kernel_rfl) ?_ _;replace U:=hI D;clear D r1 D0 b8;go_wp2_with fail;refine(qZ J 2 (by decide) A).mono ?_;rintro e V ⟨rfl,H⟩;obtain rfl:=H.symm;go_wp2_with fail;refine(qZ J 13 (by decide) A).mono ?_;rintro e V ⟨rfl,H⟩;obtain rfl:=H.symm;go_wp2_with fail;refine(qZ J 22 (by decide) A).mono ?_;rintro e V ⟨rfl,H⟩;obtain rfl:=H.symm;go_wp2_with fail;refine(z3h J b6 c8 A).mono ?_;rintro e V ⟨rfl,H⟩;obtain rfl:=H.symm;go_wp2_with fail;refine(DL _ _ A).mono ?_;rintro e V2 ⟨rfl,H⟩;rw[<-b5.o];have X:=hI (U.alloc U.size (.cells #[.int .u32 (cF (cF (cB J 2) (cB J 13)) (cB J 22)).toNat,.int .u32 (fX (fK J b6) (fK c8 (fX J b6))).toNat] 85));rw[<-H]at X;clear H;go_wp2_with fail;refine(DL d0 a9 V2).mono ?_;rintro e V3 ⟨rfl,H⟩;have Z:=hI (X.alloc X.size (.cells #[.int .u32 d0.toNat,.int .u32 a9.toNat] 85));rw[<-H]at Z;clear H;go_wp2_with fail;refine(DL a9 c7 V3).mono ?_;rintro e V4 ⟨rfl,H⟩;have H6:=hI (Z.alloc Z.size (.cells #[.int .u32 a9.toNat,.int .u32 c7.toNat] 85));rw[<-H]at H6;clear H;go_wp2_with fail;go_roundg (64-(t+1))
  ·have:=HLT.o;go_light;exact⟨t+1,by omega,by omega,by rw[HS.o,HY.o],by rw[HS.o,HY.o],by rw[HS.o,HY.o],by rw[HS.o,HY.o],by rw[HS.o,HY.o],by rw[HS.o,HY.o],by rw[HS.o,HY.o],by rw[HS.o,HY.o],by go_num,H6⟩
  have:=HLT.o;go_light;omega
 obtain rfl:t=64:=(by omega);have hd:decide (((64:Nat):Int)<64)=false:=(by decide);generalize Y 64=y at *;clear H4 f c6 C0;have d2:=jm R X0;have d3:=jm R Y0;go_wp2_with fail;have b9:=hI (jm U d2);have H7:=hI (jm U d3);have d4:=jh d9 U;clear d2 d3;generalize a0:World.alloc _ _=f3;have f4:=hI (jG a0);have R5:Hid (jk f3 wr (eJ (nM (cZ y) (cZ x) 0)).toArray 381):=(by show _=_;rw[<-a0];exact Nc _ _);clear a0;have a4:=aD H7;have H8:=hI a4;clear a4;generalize wr=W1 at *;generalize a5:W1.heap.size=G at *;have HGE:=hI a5;clear a5;have H9:Hid ((eJ (nM (cZ y) (cZ x) 8)).toArray=bT a8):=(by show _=_;rw[b3.o];exact SU y x);go_loopg [21] 8 (fun g i w0=> ∃n,n<=8/\g=8-n/\i= jV n/\Below G W1 w0/\jk w0 G (eJ (nM (cZ y) (cZ x) n)).toArray 381)
 ·exact⟨0,by omega,by omega,rfl,f4,R5⟩
 obtain⟨n,f5,rfl,rfl,l,d5⟩:=hrel;have B:=hI l;have H0:=hI d5;clear l d5;by_cases q:n<8
 ·have hd:decide ((n:Int)<8)=true:=(by simp;omega);have f6:=aQ n;have f7:(n:Int)<8:=(by omega);have C:=hI q;clear q;go_upto_region 21 with fail;have E:=H0.o;have a6:=(B.block _ (Nat.lt_trans (Nx _) H8)).trans b9;have e1:(eJ (nM (cZ y) (cZ x) n)).toArray[n]? =some (.int .u32 ((cZ y).getD n 0).toNat):=(by rw[SY _ _ _ _ C.o,Nm (Nat.lt_irrefl _)]);have e2:(bT x)[n]? =some (.int .u32 ((cZ x).getD n 0).toNat):=(by have:=C.o;simp[bT,eJ,Na,show n<(cZ x).length from this]);have HV:=hI (SW (cZ y) (cZ x) n C);have hc:=(Mu wr G n _ _ _ E).trans e1;have c0:=(Mu wr w n _ _ _ a6).trans e2;generalize(cZ y).getD n 0=ln at *;generalize(cZ x).getD n 0=hn at *;clear E a6 e1 e2;refine iH [10] (fun W=>jc W G n (.int .u32 ln.toNat)/\jc W w n (.int .u32 hn.toNat)) (by kernel_rfl) ?_;intro r z d;have D0:jc r G n (.int .u32 ln.toNat)/\jc r w n (.int .u32 hn.toNat):=⟨(d.cell (Mt hc)).trans hc,(d.cell (Mt c0)).trans c0⟩;have K0:=hI (B.trans (d.mono (by rw[<-HGE.o];exact B.size)));have R6:=hI ((jm d H0));clear z d hc c0;have t1: ∀T:aX (fun W=>jc W G n (.int .u32 ln.toNat)/\jc W w n (.int .u32 hn.toNat)),jc T.w G n (.int .u32 ln.toNat):=fun T=>T.h.1;have t2: ∀T:aX (fun W=>jc W G n (.int .u32 ln.toNat)/\jc W w n (.int .u32 hn.toNat)),jc T.w w n (.int .u32 hn.toNat):=fun T=>T.h.2;refine zB [0,1,4,2,5,3,6] D0 ?_;clear t1 t2;refine aS 7 (by kernel_rfl) ?_;intro K hK;simp[wpOp,go_sem];refine .inl ?_;have D:jc (r.alloc (.cells #[.int .u32 ln.toNat,.int .u32 hn.toNat] 85)) G n (.int .u32 ln.toNat)/\jc (r.alloc (.cells #[.int .u32 ln.toNat,.int .u32 hn.toNat] 85)) w n (.int .u32 hn.toNat):=⟨(aR.cell (Mt D0.1)).trans D0.1,(aR.cell (Mt D0.2)).trans D0.2⟩;refine hK _ _ (fun _=>D) ?_;clear hK K;refine aS 8 (by kernel_rfl) ?_;intro K hK;simp[wpOp,go_sem];refine .inl ((DL ln hn r).mono ?_);rintro e A ⟨rfl,H⟩;simp[go_sem];rw[<-H]at D;refine hK _ _ (fun _=>D) ?_;have hb:jb r A:=(by rw[H];exact aR);have B1:=hI (K0.trans (hb.mono (by rw[<-HGE.o];exact K0.size)));have R0:=hI ((jm hb R6));clear hK K H hb;refine zB [9] D ?_;refine aS 10 (by kernel_rfl) ?_;intro K hK;have c9:=D.1;have fz:=uE R0 n;simp[wpOp,go_sem,c9,fz];refine .inl ?_
  have R7:=(uD (o:=n) (u:= .int .u32 (cJ [ln,hn]).toNat) R0).trans (by rw[HV.o]);have B2:=B1.setCell (p:=⟨G,n,none⟩) (Mv _) (.int .u32 (cJ [ln,hn]).toNat);refine hK _ _ (fun h=>absurd h (by decide)) ?_;clear hK K c9 fz D D0;generalize World.setCell _ _ _=V2 at *;refine eI (by kernel_rfl) ?_ _;go_wp2_with fail;go_roundg (8-(n+1))
  ·have:=C.o;go_light;exact⟨n+1,by omega,by omega,by go_num,B2,R7⟩
  have:=C.o;go_light;omega
 obtain rfl:n=8:=(by omega);have hd:decide (((8:Nat):Int)<8)=false:=(by decide);have E:=H0.o;rw[H9.o]at E;have a7:=(B.block _ H8).trans H7;go_wp2_with (first | (refine Dx rfl 381 (.tmp 20) rfl G rfl 381 (bT a8) (0,0) _ E underlying381 rfl (by rw[iO];exact nB) ?_;simp[Act.put]) | (refine bP rfl 381 (.tmp 6) (.tmp 120) rfl (w+1) (bT a8) _ 381 rfl rfl a7 (by rw[iO];exact nB) (by rw[iO,iO]) (sT _) ?_))
 refine Nh (v:= .agg (bT a8)) (Pb rfl _ _ (w+1) 381 _ (0,0) _ rfl (Dp _ _ _ _ _ _ a7) underlying381 rfl (by rw[iO];exact nB)) rfl ?_;rw[b1.o,H5.o];exact⟨rfl,(d4.trans (B.mono (by rw[<-HGE.o];exact d4.size))).trans ⟨rfl,rfl,rfl,by simp[World.setRow],fun k f8=>Nq _ _ _ _ (by have:=f8;omega)⟩⟩
end Go.Proofs.YtbiehpjhhopjaaaGreat
