/- Walks, laws. -/
import Derived.Test.YtbiehpjhhopjaaaGreatT14
set_option linter.all false
set_option maxRecDepth 100000
set_option maxHeartbeats 16000000
namespace Go.Proofs.YtbiehpjhhopjaaaGreat
open _root_ renaming Array->aL,Bool->aU,Bool.false->aW,Decidable.decide->ab,List->aq,Int->ar,Nat->av,Option->ax,Bool.true->bl,Option.none->bn,Option.some->bt,Decidable->cG,List.replicate->cr,absurd->cv,inferInstance->cx
open Go renaming World->aj,RowKit.Hid->bG,Addr->bR,TypeId->bT,Value->bw,RowKit.Below->cB,Value.slice->cJ,Ending.returned->cL,Obj.cells->cO,Value.int->cW,Value.agg->cZ,World.setCell->cd,World.alloc->cj,wpQuiet_nil->cl,Act.put->cq,IntKind.u32->dD,Value.bool->db,Operand.tmp->dk,IntKind.i64->dr,Value.tuple->dw
section
open Go.RowKit Go.Sort
section
variable {P N:Prop}(k:N)
def oS (s:Bx N->P:=by intro xK;simp only[eE,Db,aq.getElem?_cons_zero,Nt,ax.toList_some,Nz,Dd];exact xK.o):P:=s ⟨k⟩
def XG (s:Bx N->P:=by intro xK;have xa: ∀xb:aX (fun xc=>jc xc w 0 p.ver/\jc xc w 1 p.par/\jc xc w 2 (js a1 p.S a2)/\jc xc w 3 (js a3 p.P a4)/\jc xc w 4 (js a5 p.G a6)/\jc xc w 5 (js a7 p.R a8)/\jc xc g6 0 (js e1 (am p).tks.length f1)/\jc xc g6 1 (js e2 (am p).sws.length f2)/\jc xc g6 2 (js e3 (am p).lks.length f3)),jc xb.w w 4 (js a5 p.G a6):=fun xb=>xb.h.2.2.2.2.1;have xd: ∀xb:aX (fun xc=>jc xc w 0 p.ver/\jc xc w 1 p.par/\jc xc w 2 (js a1 p.S a2)/\jc xc w 3 (js a3 p.P a4)/\jc xc w 4 (js a5 p.G a6)/\jc xc w 5 (js a7 p.R a8)/\jc xc g6 0 (js e1 (am p).tks.length f1)/\jc xc g6 1 (js e2 (am p).sws.length f2)/\jc xc g6 2 (js e3 (am p).lks.length f3)),jc xb.w w 5 (js a7 p.R a8):=fun xb=>xb.h.2.2.2.2.2.1;have xe: ∀xb:aX (fun xc=>jc xc w 0 p.ver/\jc xc w 1 p.par/\jc xc w 2 (js a1 p.S a2)/\jc xc w 3 (js a3 p.P a4)/\jc xc w 4 (js a5 p.G a6)/\jc xc w 5 (js a7 p.R a8)/\jc xc g6 0 (js e1 (am p).tks.length f1)/\jc xc g6 1 (js e2 (am p).sws.length f2)/\jc xc g6 2 (js e3 (am p).lks.length f3)),jc xb.w g6 0 (js e1 (am p).tks.length f1):=fun xb=>xb.h.2.2.2.2.2.2.1;have xf: ∀xb:aX (fun xc=>jc xc w 0 p.ver/\jc xc w 1 p.par/\jc xc w 2 (js a1 p.S a2)/\jc xc w 3 (js a3 p.P a4)/\jc xc w 4 (js a5 p.G a6)/\jc xc w 5 (js a7 p.R a8)/\jc xc g6 0 (js e1 (am p).tks.length f1)/\jc xc g6 1 (js e2 (am p).sws.length f2)/\jc xc g6 2 (js e3 (am p).lks.length f3)),jc xb.w g6 1 (js e2 (am p).sws.length f2):=fun xb=>xb.h.2.2.2.2.2.2.2.1;revert xa xd xe xf;exact xK.o):P:=s ⟨k⟩
def XJ (s:Bx N->P:=by intro xK;have xa: ∀xb:aX (fun xc=>jc xc w 0 p.ver/\jc xc w 1 p.par/\jc xc w 2 (js a1 p.S a2)/\jc xc w 3 (js a3 p.P a4)/\jc xc w 4 (js a5 p.G a6)/\jc xc w 5 (js a7 p.R a8)/\jc xc g6 0 (js e1 (am p).tks.length f1)/\jc xc g6 1 (js e2 (am p).sws.length f2)/\jc xc g6 2 (js e3 (am p).lks.length f3)),jc xb.w w 0 p.ver:=fun xb=>xb.h.1;have xd: ∀xb:aX (fun xc=>jc xc w 0 p.ver/\jc xc w 1 p.par/\jc xc w 2 (js a1 p.S a2)/\jc xc w 3 (js a3 p.P a4)/\jc xc w 4 (js a5 p.G a6)/\jc xc w 5 (js a7 p.R a8)/\jc xc g6 0 (js e1 (am p).tks.length f1)/\jc xc g6 1 (js e2 (am p).sws.length f2)/\jc xc g6 2 (js e3 (am p).lks.length f3)),jc xb.w w 1 p.par:=fun xb=>xb.h.2.1;have xe: ∀xb:aX (fun xc=>jc xc w 0 p.ver/\jc xc w 1 p.par/\jc xc w 2 (js a1 p.S a2)/\jc xc w 3 (js a3 p.P a4)/\jc xc w 4 (js a5 p.G a6)/\jc xc w 5 (js a7 p.R a8)/\jc xc g6 0 (js e1 (am p).tks.length f1)/\jc xc g6 1 (js e2 (am p).sws.length f2)/\jc xc g6 2 (js e3 (am p).lks.length f3)),jc xb.w w 2 (js a1 p.S a2):=fun xb=>xb.h.2.2.1;have xf: ∀xb:aX (fun xc=>jc xc w 0 p.ver/\jc xc w 1 p.par/\jc xc w 2 (js a1 p.S a2)/\jc xc w 3 (js a3 p.P a4)/\jc xc w 4 (js a5 p.G a6)/\jc xc w 5 (js a7 p.R a8)/\jc xc g6 0 (js e1 (am p).tks.length f1)/\jc xc g6 1 (js e2 (am p).sws.length f2)/\jc xc g6 2 (js e3 (am p).lks.length f3)),jc xb.w w 3 (js a3 p.P a4):=fun xb=>xb.h.2.2.2.1;revert xa xd xe xf;exact xK.o):P:=s ⟨k⟩
def oG {C:Prop}(c:C)(k:N)(s:C->Bx N->P:=by intro xH xK;refine xH.mono ?_;rintro xa xb ⟨rfl,xc⟩;revert xb xc;exact xK.o):P:=s c ⟨k⟩
def vM (s:Bx N->P:=by intro xK;have xa:=fun xb:Gw W0=>xb.cel p0;have xc:=fun xb:Gw W0=>xb.cel p1;have xd:=fun xb:Gw W0=>xb.lt lp;revert xa xc xd;exact xK.o):P:=s ⟨k⟩
def Zk (s:Bx N->P:=by intro xK;have xa:=jm O6 H6;have xb:jc V0 w 0 p.ver/\jc V0 w 1 p.par/\jc V0 w 2 (js a1 p.S a2)/\jc V0 w 3 (js a3 p.P a4)/\jc V0 w 4 (js a5 p.G a6)/\jc V0 w 5 (js a7 p.R a8)/\jc V0 g6 0 (js e1 (am p).tks.length f1)/\jc V0 g6 1 (js e2 (am p).sws.length f2)/\jc V0 g6 2 (js e3 (am p).lks.length f3):=⟨(Mu V0 w 0 _ _ _ (F.row 0 _ rfl)).trans rfl,(Mu V0 w 1 _ _ _ (F.row 0 _ rfl)).trans rfl,(Mu V0 w 2 _ _ _ (F.row 0 _ rfl)).trans rfl,(Mu V0 w 3 _ _ _ (F.row 0 _ rfl)).trans rfl,(Mu V0 w 4 _ _ _ (F.row 0 _ rfl)).trans rfl,(Mu V0 w 5 _ _ _ (F.row 0 _ rfl)).trans rfl,(Mu V0 g6 0 _ _ _ xa).trans rfl,(Mu V0 g6 1 _ _ _ xa).trans rfl,(Mu V0 g6 2 _ _ _ xa).trans rfl⟩;revert xa xb;exact xK.o):P:=s ⟨k⟩
def kk (s:Bx N->P:=by intro xK;simp only[eE,PC,aq.getElem?_cons_zero,DV,ax.toList_some,PP,PQ];exact xK.o):P:=s ⟨k⟩
def oL (s:Bx N->P:=by intro xK;go_upto_region 6 with fail;exact xK.o):P:=s ⟨k⟩
def UF (s:Bx N->P:=by intro xK;have xa:bG (∀(xb:av) (v:bw),(aE a c x)[xb]? =bt v->(bf a c (df x))[0+xb]? =bt v):=ob a c (df x);have xc:bG (∀(xb:av) (v:bw),(#[js (a 17) 32 (c 17),js (a 18) 0 (c 18)]:aL bw)[xb]? =bt v->(bf a c (df x))[25+xb]? =bt v):=qq a c (df x);revert xa xc;exact xK.o):P:=s ⟨k⟩
def vq {C:Prop}(c:C)(k:N)(s:C->Bx N->P:=by intro xH xK;refine .inl (xH.mono ?_);rintro xa xb ⟨rfl,xc⟩;simp[go_sem];revert xb xc;exact xK.o):P:=s c ⟨k⟩
def OA (s:Bx N->P:=by intro xK;have xa:jc W1 w 25 (js (a 17) x.d.sc (c 17)):=(Mu _ _ _ _ _ _ X1).trans (T7 0 _ rfl);have xb:jc W1 w 26 (js (a 18) x.d.wt (c 18)):=(Mu _ _ _ _ _ _ X1).trans (T7 1 _ rfl);revert xa xb;exact xK.o):P:=s ⟨k⟩
def OC (s:Bx N->P:=by intro xK;refine JM 87 (dk 6) rfl (w+1) rfl XA (fun xa ⟨xb,e⟩=>⟨87,(0,0),by subst e;exact(xb.h.block _ rx1).trans rx2⟩) _ underlying87 rfl HIX ?_;refine hK _ ?_;exact xK.o):P:=s ⟨k⟩
def OI (s:Bx N->P:=by intro xK;intro xa xb;have xc:=fun xd:Gw wr=>xd.cel p0;have xe:=fun xd:Gw wr=>xd.cel p1;have xf:=fun xd:Gw wr=>xd.cel z0;have xg:=fun xd:Gw wr=>xd.lt lp;have xh:=fun xd:Gw wr=>xd.lt lz;revert xa xb xc xe xf xg xh;exact xK.o):P:=s ⟨k⟩
def Zp (s:Bx N->P:=by intro xK;have xa: ∀xb:aX (fun xc=>jc xc w 0 p.ver/\jc xc w 1 p.par/\jc xc w 2 (js a1 p.S a2)/\jc xc w 3 (js a3 p.P a4)/\jc xc w 4 (js a5 p.G a6)/\jc xc w 5 (js a7 p.R a8)/\jc xc g6 0 (js e1 (am p).tks.length f1)/\jc xc g6 1 (js e2 (am p).sws.length f2)/\jc xc g6 2 (js e3 (am p).lks.length f3)),jc xb.w g6 2 (js e3 (am p).lks.length f3):=fun xb=>xb.h.2.2.2.2.2.2.2.2;revert xa;exact xK.o):P:=s ⟨k⟩
def Zv (h:P:=by go_upto_region 3 with fail;go_wp2_with (refine bP rfl 87 (dk 4) (dk 16) rfl (w+1) au _ 87 rfl rfl (F2.row 1 _ rfl) fd rfl xR ?_);have xa:=hI (F2.setRow 1 rfl au);refine Nh (v:=dw #[cZ au,E]) (eL rfl _ _ (w+1) 87 _ (0,0) _ _ rfl rfl (xa.row 1 _ rfl) underlying87 rfl fd) rfl ?_;rw[HY.o];exact⟨nA,nC,rfl,Cz _,xa.bel⟩):P:=h
def ZI (s:Bx N->P:=by intro xK;have xa:=hI fun(xb:gD x.h=bl) (hh:x.h.halted=aW)=>Ah xb hh;have xc:=hI fun(xb:ae x.d)=>JW (S:=x.d.sc) ⟨xb.1,xb.2.2.1,hf.d.s⟩;have xd:bG (vi x=(gD x.h&&(ab (ae x.d)&&(ab (x.d.wt.length=0)&&(bif x.h.halted then x.g==0 else xL x))))):=rfl;have xe:bG (xL x=match ir x.d.sc with | []=>aW | r::_=>(r.gen==x.g)&&ab (r.text=bq x.h)):=rfl;revert xa xc xd xe;exact xK.o):P:=s ⟨k⟩
def ZM (h:P:=by rw[HE.o];exact⟨(fun xa=>[b0,b1,b2,b3,b4,bn,bn,bn,bn,e1,e2,e3,bn,bn,bn,bn,bn].getD xa bn),(fun xa=>[d0,d1,d2,d3,d4,0,0,0,0,f1,f2,f3,0,0,0,0,0].getD xa 0),rfl,dK.ext (w:=bK (old (w+2)) V3) ⟨Q7,PL,wJ _,ST,EU _ _ _,wJ _⟩ (mZ _ _),F.bel⟩):P:=h
def ZP (s:Bx N->P:=by intro xK;have xa:=fun xb (xc:jb wr xb)=>(HSlot.o xb).mono fun xd xe h=>(⟨h.1,h.2⟩:xd=cL (jV z)/\xe=xb);refine zK 3 hV xa ?_;clear xa;refine zB [5] hV ?_;have xf:=hI (F.o.below hV);have xg:=hI ((fun xh xi xj xk xl xm=>dS.of_below hV xh xi xj xk (HSm.o xh xi xj xk xl xm) xm:dS cn W2 V));revert xf xg;exact xK.o):P:=s ⟨k⟩
def ul (s:Bx N->P:=by intro xK;obtain⟨xa,xb⟩: ∃xa,xa=W1.heap.size:=⟨_,rfl⟩;rw[<-xb];revert xa xb;exact xK.o):P:=s ⟨k⟩
def ZR (s:Bx N->P:=by intro xK;have xa:=jm I3 XX.o;have xb:=hI xa;have xc:=(Mu _ _ _ _ _ _ xa).trans (by have:=Z5.o 24 _ hh;simpa using this);have xd:jc W2 w 25 (js (a 17) x.d.sc (c 17)):=(Mu _ _ _ _ _ _ xa).trans (T7.o 0 _ rfl);have xe:jc W2 w 26 (js (a 18) x.d.wt (c 18)):=(Mu _ _ _ _ _ _ xa).trans (T7.o 1 _ rfl);have xf:=(Mu _ _ _ _ _ _ xa).trans HPG.o;have xg:=aD xa;revert xa xb xc xd xe xf xg;exact xK.o):P:=s ⟨k⟩
def vy (s:Bx N->P:=by intro xK;refine HC.o.mono ?_;rintro xa xb ⟨xc,xd,rfl,xe,xf⟩;revert xb xc xd xe xf;exact xK.o):P:=s ⟨k⟩
def ZV (s:Bx N->P:=by intro xK;have xa:jc W0 w 0 p.ver:=jr (F.row 0 _ rfl);have xb:jc W0 w 1 p.par:=jr (F.row 0 _ rfl);have xc:jc W0 w 2 (js a1 p.S a2):=jr (F.row 0 _ rfl);have xd:jc W0 w 3 (js a3 p.P a4):=jr (F.row 0 _ rfl);have xe:jc W0 w 4 (js a5 p.G a6):=jr (F.row 0 _ rfl);have xf:jc W0 w 5 (js a7 p.R a8):=jr (F.row 0 _ rfl);revert xa xb xc xd xe xf;exact xK.o):P:=s ⟨k⟩
def ZW (s:Bx N->P:=by intro xK;have xa:=hI (F2.o.setRow 0 rfl (ak a3 c3 b3 d3 Y2));have xb:=hI (H3.o.same (xI (C:=ak a3 c3 b3 d3 Y2) hr0));have xc:=hI ((fun xd xe xf xg xh xi=>xI (C:=ak a3 c3 b3 d3 Y2) hr0 xd xe xf xg (S2.o xd xe xf xg xh xi) xi:dS cn W2 (V1.setRow w (ak a3 c3 b3 d3 Y2))));revert xa xb xc;exact xK.o):P:=s ⟨k⟩
def eJ (h:P:=by have xa:=HC1.o;have xb:=fd;rw[xa]at xb;exact(Pq xb).symm):P:=h
def ku (s:Bx N->P:=by intro xK;have xa:bG ((prog.info? 35).map (·.size)=bt (aE a c x.h).size):=cQ;revert xa;exact xK.o):P:=s ⟨k⟩
def Kc (s:Bx N->P:=by intro xK;have xa:=hI (F1.setRow 1 rfl au);refine Nh (v:=dw #[cZ au,jV 8]) (eL rfl _ _ (w+1) 87 _ (0,0) _ _ rfl rfl (xa.row 1 _ rfl) underlying87 rfl fd) rfl ?_;revert xa;exact xK.o):P:=s ⟨k⟩
def uz (h:P:=by show _=_;rw[<-hW2,hg7];exact Nc _ _):P:=h
def vO (s:Bx N->P:=by intro xK;generalize xa:cj (cj _ _) _=xb;revert xb xa;exact xK.o):P:=s ⟨k⟩
def vr {C:Prop}(c:C)(k:N)(s:C->Bx N->P:=by intro xH xK;refine xH.mono ?_;rintro xa xb ⟨xc,xd,rfl,xe,xf⟩;revert xb xc xd xe xf;exact xK.o):P:=s c ⟨k⟩
def vz (h:P:=by rw[HFL.o];decide):P:=h
def um {C:Prop}(c:C)(k:N)(s:C->Bx N->P:=by intro xH xK;refine .inl (xH.mono ?_);rintro xa xb ⟨xc,xd,rfl,xe,xf⟩;simp[go_sem];revert xb xc xd xe xf;exact xK.o):P:=s c ⟨k⟩
def kv (h:P:=by exact fun xa xb=>by simp at xb;subst xb;kernel_rfl):P:=h
def vC (s:Bx N->P:=by intro xK;rintro xa xb ⟨rfl,xc⟩;have xd:=jh K1 xc;revert xb xc xd;exact xK.o):P:=s ⟨k⟩
def vj (s:Bx N->P:=by intro xK;go_upto_region 3 with fail;exact xK.o):P:=s ⟨k⟩
def qc (s:Bx N->P:=by intro xK;rintro xa xb ⟨xc,rfl,xd,xe⟩;revert xb xc xd xe;exact xK.o):P:=s ⟨k⟩
def vu (h:P:=by exact iv Q4.o F9.o.bel):P:=h
def uc (s:Bx N->P:=by intro xK;have xa:=hI fun xb (h:jb w xb)=>hx.below h;revert xa;exact xK.o):P:=s ⟨k⟩
def kI (s:Bx N->P:=by intro xK;have xa:=ji 0 (F1.o.row 1 _ rfl);have xb:=ji 1 (F1.o.row 1 _ rfl);revert xa xb;exact xK.o):P:=s ⟨k⟩
def Yq (h:P:=by refine Nh (v:=dw #[cZ (aE nA nC aK),jV 100]) (eL rfl _ _ (w+1) 35 _ (0,0) _ _ rfl rfl (F.row 1 _ rfl) underlying35 rfl cQ) rfl ?_;rw[HE.o];exact⟨nA,nC,rfl,oF _,F.bel⟩):P:=h
def Ys (h:P:=by refine Nh (v:=dw #[cZ (aE nA nC aK),jV 3]) (eL rfl _ _ (w+1) 35 _ (0,0) _ _ rfl rfl (F.row 1 _ rfl) underlying35 rfl cQ) rfl ?_;rw[HE.o];exact⟨nA,nC,rfl,oF _,F.bel⟩):P:=h
def uE (h:P:=by simp[ak,bw.oneCell']):P:=h
def Yt (s:Bx N->P:=by intro xK;have xa:=hI M5;have xb:=jm M5 X0.o;have xc:=hI xb;have xd:jc W1 w 25 (js (a 17) x.d.sc (c 17)):=(Mu _ _ _ _ _ _ xb).trans (T7.o 0 _ rfl);have xe:jc W1 w 26 (js (a 18) x.d.wt (c 18)):=(Mu _ _ _ _ _ _ xb).trans (T7.o 1 _ rfl);have xf:=aD xb;revert xa xb xc xd xe xf;exact xK.o):P:=s ⟨k⟩
def ue (s:Bx N->P:=by intro xK;refine .inl (hK _ _ (fun _=>hV) ?_);exact xK.o):P:=s ⟨k⟩
def Qk (h:P:=by subst e;exact(t.h.block _ lx).trans XX):P:=h
def KV (s:Bx N->P:=by intro xK;have xa:ak (a 17) (c 17) (a 18) (c 18) ck=(#[js (a 17) 32 (c 17),js (a 18) 0 (c 18)]:aL bw):=rfl;revert xa;exact xK.o):P:=s ⟨k⟩
def vF (s:Bx N->P:=by intro xK;obtain⟨xa,xb⟩:=DY bx;have xc:=aD bx;revert xa xb xc;exact xK.o):P:=s ⟨k⟩
def YQ (s:Bx N->P:=by intro xK;refine .inl (CS.mono ?_);rintro xa xb ⟨xc,xd,rfl,xe,xf⟩;have xg:=hI (X9 xc xd (dm x));have xh:=hI (hon xc xd (dm x));have xi:bG (∀xj,dj xj xc xd (dm x)->dj xj xc xd (dm x)):=fun _ h=>h;obtain⟨xk,xl⟩: ∃xk,xk=bf xc xd (dm x):=⟨_,rfl⟩;revert xb xc xd xe xf xg xh xi xk xl;exact xK.o):P:=s ⟨k⟩
def YW (s:Bx N->P:=by intro xK;have xa:bG (∀xb,jb w xb->jW 70 #[aT x s q g r,cZ #[jV 0,jV 0,jN,jN,jN,jN]] xb (bY xb (ab (x=bV)))):=fun xb xc=>z35 x bV s q g r _ _ _ _ xb (hx.below xc) (wJ xb) b wK;revert xa;exact xK.o):P:=s ⟨k⟩
def uF (s:Bx N->P:=by intro xK;have xa:=jt hV M5;refine hK _ _ (fun _=>xa) ?_;revert xa;exact xK.o):P:=s ⟨k⟩
def Ra (s:Bx N->P:=by intro xK;have xa:jc W1 (w+1) 25 (js (a' 17) y.d.sc (c' 17)):=(Mu _ _ _ _ _ _ Y1).trans (HPD' 0 _ rfl);have xb:jc W1 (w+1) 26 (js (a' 18) y.d.wt (c' 18)):=(Mu _ _ _ _ _ _ Y1).trans (HPD' 1 _ rfl);have xc:=aD X1;have xd:=aD Y1;revert xa xb xc xd;exact xK.o):P:=s ⟨k⟩
def KX (s:Bx N->P:=by intro xK;have xa:=jG hWW;have xb:=jA hWW;have xc:=(Mu W1 _ 0 _ _ _ xb).trans rfl;have xd:=(Mu W1 _ 1 _ _ _ xb).trans rfl;have xe:=aD xb;revert xa xb xc xd xe;exact xK.o):P:=s ⟨k⟩
def Rh (s:Bx N->P:=by intro xK;have xa:jk V2 (w+1) au 87:=F2.row 1 _ rfl;have xb:=hI (F2.setRow 1 rfl C);refine Nh (v:=dw #[cZ C,jV 0]) (eL rfl _ _ (w+1) 87 _ (0,0) _ _ rfl rfl (xb.row 1 _ rfl) underlying87 rfl HC1) rfl ?_;revert xa xb;exact xK.o):P:=s ⟨k⟩
def OQ (h:P:=by rintro rfl;rw[hw]at hx;cases hx;cases ho):P:=h
def QC (h:P:=by first | exact rfl | exact Py):P:=h
def Rm (s:Bx N->P:=by intro xK;have xa:jk V2 (w+1) au 87:=F3.row 1 _ rfl;have xb:=hI (F3.setRow 1 rfl C);refine Nh (v:=dw #[cZ C,E9]) (eL rfl _ _ (w+1) 87 _ (0,0) _ _ rfl rfl (xb.row 1 _ rfl) underlying87 rfl HC1) rfl ?_;revert xa xb;exact xK.o):P:=s ⟨k⟩
def OS (h:P:=by intro xa xb;simp[z4]at xb;subst xb;decide):P:=h
def kW (h:P:=by rintro⟨_,_,h⟩;exact h):P:=h
def RM (s:Bx N->P:=by intro xK;refine JM 87 (dk 7) rfl (w+2) rfl YA (fun xa ⟨xb,e⟩=>⟨87,(0,0),by subst e;exact(xb.h.block _ ry1).trans ry2⟩) _ underlying87 rfl HIY ?_;refine hK _ ?_;exact xK.o):P:=s ⟨k⟩
def ua (s:Bx N->P:=by intro xK;rintro xa xb ⟨rfl,xc⟩;have xd:=hI xc;revert xb xc xd;exact xK.o):P:=s ⟨k⟩
def KZ {C:Prop}(c:C)(k:N)(s:C->Bx N->P:=by intro xH xK;refine .inl (xH.mono ?_);rintro xa xb ⟨xc,xd,xe,xf,xg,xh,xi,xj,rfl,xk,xl⟩;simp[go_sem];unfold aT;have xm:HsD w a c x xb:=(F.o.below xl).row 0 _ rfl;revert xb xc xd xe xf xg xh xi xj xk xl xm;exact xK.o):P:=s c ⟨k⟩
def uq (h:P:=by simpa using h):P:=h
def eg (h:P:=by exact HB.trans (M5.mono J1)):P:=h
def RN (h:P:=by have xa:=E _ (Nn h);obtain⟨xb,xc⟩:=Ds xa.1;refine⟨xb,xc,by have:=xa.2;omega,?_⟩;rw[Fz,Nf h,bI,Dg,xc];simp[bI]):P:=h
def Mi (h:P:=by have xa:=i r.A;have xb:=i r.O;have xc:=f r.fl;obtain⟨xd,xe,xf⟩:=h1;simp only[fT,cE,Du,Mx,Tl];omega):P:=h
def Vc (s:Bx N->P:=by intro xK;intro xa xb;have xc:=fun xd:Gw wr=>xd.cel p0;have xe:=fun xd:Gw wr=>xd.lt lp;revert xa xb xc xe;exact xK.o):P:=s ⟨k⟩
def vn (s:Bx N->P:=by intro xK;have xa:=hI (F0.o.below M5);revert xa;exact xK.o):P:=s ⟨k⟩
def EN (h:P:=by exact⟨a2,c2,b2,d2,rfl,HD.o.same (xI hr2),F3.o.bel⟩):P:=h
def Ms (s:Bx N->P:=by intro xK;go_wp2_with fail;refine Nh (v:=dw #[jq g 0 2 d',jV 0]) ((results_tmp2 (fn:=Tryz.f108) (t:=2) (u:=3) rfl _ _ _).trans rfl) rfl ?_;rw[HWL.o];exact xK.o):P:=s ⟨k⟩
def ME (s:Bx N->P:=by intro xK;have xa:=fun xb (xc:jb W0 xb)=>(Cl (n:ar) 32 xb).mono fun xd xe h=>(⟨h.1,h.2⟩:xd=cL (db (ab (0<=(n:ar)/\(n:ar)<32)))/\xe=xb);revert xa;exact xK.o):P:=s ⟨k⟩
def QF (s:Bx N->P:=by intro xK;have xa:=hI (h1.ext (kT (n:=w.heap.size+2) F.sz));revert xa;exact xK.o):P:=s ⟨k⟩
def MF (s:Bx N->P:=by intro xK;have xa:bG (∀xb,jb w xb->dK xb a c x/\dK xb A C y):=fun xb xc=>⟨hx.below xc,l.below xc⟩;have xd:bG (x.Fit/\y.Fit):=⟨i,j⟩;revert xa xd;exact xK.o):P:=s ⟨k⟩
def MH (s:Bx N->P:=by intro xK;have xa:=hI (F1.o.below P9);have xb:=hI ((fun xc xd xe xf xg xh=>dS.of_below P9 xc xd xe xf (S1.o xc xd xe xf xg xh) xh:dS cn W2 V1));have xi:=hI h3;revert xa xb xi;exact xK.o):P:=s ⟨k⟩
def MK (s:Bx N->P:=by intro xK;have xa:=hI (F5.setRow 1 rfl au);refine Nh (v:=dw #[cZ au,jV 3]) (eL rfl _ _ (w+1) 87 _ (0,0) _ _ rfl rfl (xa.row 1 _ rfl) underlying87 rfl fd) rfl ?_;revert xa;exact xK.o):P:=s ⟨k⟩
def MN (h:P:=by intro xa o';exact(I0.o.below ((Nb _ _).alloc (Mv _) xa)).below ((Nb _ (WX.alloc xa)).alloc (Mv _) o')):P:=h
def Oj (s:Bx N->P:=by intro xK;have xa:=hI (ob a c x);have xb:=hI (qq a c x);revert xa xb;exact xK.o):P:=s ⟨k⟩
def uJ (s:Bx N->P:=by intro xK;refine zB [0,1,2,3,4,5,6,7] hV ?_;exact xK.o):P:=s ⟨k⟩
def vv (s:Bx N->P:=by intro xK;show Fr _ _ _;rw[<-G7];exact xK.o):P:=s ⟨k⟩
def MT (h:P:=by exact⟨gp,ta,tc,rfl,ho.below HV2.o hgp,hgp,Dp _ _ _ _ _ _ G2,aB.ext iX HT2.o (xT G2 rfl).ext⟩):P:=h
def et (h:P:=by simp[bne,hsl]):P:=h
def vk (s:Bx N->P:=by intro xK;have xa:=hI (F0.below M5);revert xa;exact xK.o):P:=s ⟨k⟩
def ex (h:P:=by rw[nn];omega):P:=h
def jI (s:Bx N->P:=by intro xK;have xa:=hI fun xb (h:jb w xb)=>xA x a c b d xb (hx.below h) hf.few;revert xa;exact xK.o):P:=s ⟨k⟩
def Vx (h:P:=by rw[hq];unfold dv;omega):P:=h
def NK (s:Bx N->P:=by intro xK;have xa:=fun xb:Gw wr=>xb.cel q0;have xc:=fun xb:Gw wr=>xb.cel z0;have xd:=fun xb:Gw wr=>xb.lt lp;have xe:=fun xb:Gw wr=>xb.lt lq;have xf:=fun xb:Gw wr=>xb.lt lz;revert xa xc xd xe xf;exact xK.o):P:=s ⟨k⟩
def VE (h:P:=by exact(Mu _ _ _ _ _ _ hr).trans rfl):P:=h
def Xl (s:Bx N->P:=by intro xK;refine zB [9,10,11,12,13,14,15,16,17,18,19,20,21,22,23,24,25] hV ?_;exact xK.o):P:=s ⟨k⟩
def NM (s:Bx N->P:=by intro xK;have xa:bG (bv x z (S.take (k+1))=(bv x z (S.take k)).add (z+(k:ar)) S[k]):=(by show _=_;rw[HL.o.2,Et,HL.o.1]);revert xa;exact xK.o):P:=s ⟨k⟩
def Um (h:P:=by rw[gi];kernel_rfl):P:=h
def Xs (h:P:=by exact HTA.o.ext iX (dS.of_below O8).ext):P:=h
def eF (h:P:=by exact av.le_succ _):P:=h
def UE (h:P:=by rw[H];exact x2):P:=h
def Xw (h:P:=by simp[cd,Nk,HG8.o]):P:=h
end
def NZ:=@aq.take_succ_eq_append_getElem
def DL:=@aq.length_take
def DN:=@aq.length_append
def DP:=@aq.getElem_take
def DV:=@aq.getElem?_cons_succ
def Pg:=@aq.getD_eq_getElem?_getD
def PC:=@aq.getElem?_toArray
def PI:=@aq.mem_cons_self
def PK:=@aq.getElem_mem
def PM:=@aq.getElem?_eq_getElem
def PN:=@aq.mem_cons_of_mem
def PP:=@aq.cons_append
def PQ:=@aq.nil_append
def PR:=@aq.length_drop
def PU:=@aq.append_assoc
def PW:=@aq.take_length
def Sq:=@aq.take_of_length_le
def Sz:=@aq.getElem_drop
def SL:=@aq.flatMap_cons
def SS:=@av.pow_le_pow_right
def Th:=@BitVec.getLsbD_and
def Ti:=@aq.mem_or_eq_of_mem_set
def Tr:=@Go.DataW.trod_int
def Tu:=@av.mod_eq_of_lt
def TA:=@aq.length_cons
def TG:=@aq.length_map
def TH:=@aq.any_append
def Fd:=@aq.size_toArray
def Fo:=@aq.length_range
def FD:=@aq.eq_nil_of_length_eq_zero
def FG:=@av.shiftRight_eq_div_pow
def FI:=@aq.take_append_getElem
def FJ:=@aq.getElem?_take_of_lt
def FL:=@BitVec.toNat_ushiftRight
end
open Go.RowKit Go.Sort Tryz
variable {N c cap d g i:av}{T e:bT}{V l xs:aq bw}{w':aj}{Q:Exit->Act->aj->Prop}{C Z cs:aL bw}{r:aq av}
def am (p:Pl):St:=⟨p.S.map fun x=>⟨x.id,2⟩,p.P.map fun x=>⟨x.id,0,0⟩,p.R.map fun x=>⟨x.id,0,0,0⟩⟩
def dd (p:Pl) (i j k:av):St:=⟨(p.S.take i).map fun x=>⟨x.id,2⟩,(p.P.take j).map fun x=>⟨x.id,0,0⟩,(p.R.take k).map fun x=>⟨x.id,0,0,0⟩⟩
def waQ (p:Pl):dd p 0 0 0=⟨[],[],[]⟩:=rfl
def waR (p:Pl):dd p p.S p.P p.R=am p:=by unfold dd am;rw[Ph,Ph,Ph]
def waS (p:Pl)(j k:av) (h:i<p.S.length):dd p (i+1) j k=⟨(dd p i j k).tks++[⟨p.S[i].id,2⟩],(dd p i j k).sws,(dd p i j k).lks⟩:=by
 unfold dd;rw[Dc h,Pr];rfl
def waT (p:Pl){j:av}(i k:av) (h:j<p.P.length):dd p i (j+1) k=⟨(dd p i j k).tks,(dd p i j k).sws++[⟨p.P[j].id,0,0⟩],(dd p i j k).lks⟩:=by
 unfold dd;rw[Dc h,Pr];rfl
def waU (p:Pl){k:av}(i j:av) (h:k<p.R.length):dd p i j (k+1)=⟨(dd p i j k).tks,(dd p i j k).sws,(dd p i j k).lks++[⟨p.R[k].id,0,0,0⟩]⟩:=by
 unfold dd;rw[Dc h,Pr];rfl
def Lr (w:aj) (p:Pl) (e:Ending) (w':aj):Prop:=
 jb w w'/\((¬bS p/\e=cL (dw #[cZ #[jN,jN,jN],jV 100]))\/
  (bS p/\ ∃t s l,e=cL (dw #[cZ #[t,s,l],jV 0])/\bH w' w t s l (am p)))
theorem waV (p:Pl) (s q gg rr:bw) (w:aj) (hp:bN w s q gg rr p) (Y:p.Fit):jW 59 #[aT p s q gg rr] w (Lr w p):=by
 have H0:=hI fun w' M=>LM p s q gg rr w' (hp.below M) Y;obtain⟨a2,Q,rfl,k1⟩:=hp.S;obtain⟨a3,c2,rfl,k2⟩:=hp.P;obtain⟨a4,c3,rfl,-⟩:=hp.G;obtain⟨a5,c4,rfl,k4⟩:=hp.R;have H2:=hI fun w' (M:jb w w')=>k1.below gN M;have H3:=hI fun w' (M:jb w w')=>k2.below lT M;have H1:=hI fun w' (M:jb w w')=>k4.below lS M;have l1:=Y.S;have l2:=Y.P;have l4:=Y.R;clear hp Y k1 k2 k4;unfold aT at *;go_enter func59,ntmps59;go_upto_region 1 with fail;generalize hW:cj _ _=W0;have a6:W0.heap.size=w.heap.size+1+1:=Qc
 have hb0:jb w W0:=by rw[<-hW];exact aR.alloc ee _
 have R:yF w (w+1+1) w (w+1) #[p.ver,p.par,js a2 p.S Q,js a3 p.P c2,js a4 p.G c3,js a5 p.R c4] (jN) (jN) (jN) (dd p 0 0 0) W0:=
  ⟨hb0,by rw[<-hW];exact(Nv _ _ ee).trans (Nc _ _),Zq,by rw[waQ];exact bH.nil _ _⟩
 have F0:=hI R;obtain⟨p0,p1,p2,p3,p4,p5⟩:=dB R.pl;have A7:=hI (H0 W0 hb0);clear hW hb0 R H0 a6;go_wp2_with fail;refine A7.mono ?_;rintro e w1 ⟨rfl,M5⟩;have I:=hI (F0.below M5);clear M5 A7 F0 p0 p1 p2 p3 p4 p5;by_cases V:bS p
 ·rw[Np V];have a7:=hI V;clear V;have y2:=ji 2 I.pl;go_wp2_with fail;go_loopg [17] p.S.length (fun g j wr=> ∃(k:av) (t0:bw),k<=p.S.length/\g=p.S.length-k/\j= jV k/\yF w (w+1+1) w (w+1) #[p.ver,p.par,js a2 p.S Q,js a3 p.P c2,js a4 p.G c3,js a5 p.R c4] t0 (jN) (jN) (dd p k 0 0) wr)
  ·exact⟨0,_,ed,ed,rfl,I⟩
  obtain⟨k,t0,a8,rfl,rfl,P⟩:=hrel;obtain⟨F,rfl⟩: ∃F:aj,F=wr:=⟨_,rfl⟩;have r:=hI P;clear P y2 I;by_cases f:k<p.S.length
  ·obtain⟨b,off,a9,b0,rfl,T,U,r2,-⟩:=(H2 _ r.bel).sec f;have c0:(0:ar)<=(k:ar):=ed;have Q:(k:ar)<(p.S:ar):=ed;obtain⟨b9,d9,rfl⟩:=rR r.own.tks;have o7:bG ((dd p k 0 0).tks.length=k):=(by show _=_;simp[dd];omega);have a0:=hI (waS p 0 0 f);have d:=hI (r.below ((Nb F F).alloc (Mv _) (cO #[p.S[k].id,p.S[k].pt,js a9 p.S[k].ends.length b0] 80)));generalize dd p k 0 0=X at *;go_upto_region 6 with fail;generalize z:F.alloc _=E at *;have q0:jc E F 0 p.S[k].id:=(by rw[<-z];simp);have Z:=ji 0 d.blk;have a1:X.tks.length<=1000:=Ko;have L:=aD d.blk;have i:w.heap.size+1+1<=E.heap.size:=L;clear z T U r2;go_wp2_with (at_builtin;refine nT rfl _ _ 29 106 106 _ 2 16 rfl underlying29 WP rfl eh eh (w+1+1) (js b9 X.tks d9) X.tks _ rfl d.own.tks a1 i [jV p.S[k].id,cW .u8 2] rfl rfl (tq ⟨p.S[k].id,2⟩) ?_;intro b8 c8 w8 n a;have H:=d.below ((Nb E E).alloc (Mv _) (cO ([jV p.S[k].id,cW .u8 2]:aq bw).toArray 106));have A:=H.grow (o:=0) (u:=cJ (bt ⟨b8,0,bn⟩) (X.tks.length+1) c8) ed ed ed H.own.tks a rfl (H.own.tk ⟨p.S[k].id,2⟩ n a);have C:=(a.block _ (aD H.blk) (fun e=>by {obtain⟨c,_,M⟩:=fD H.own.tks e.symm;omega})).trans H.blk;have z8:=ji 0 C;have f8:=jz 0 C);rw[<-a0.o]at A;go_roundg (p.S.length-(k+1))
   ·go_light;exact⟨k+1,_,ed,ed,ej,A⟩
   go_light;omega
  obtain rfl:k=p.S.length:=ed;have J:=r;clear r f;have y3:=ji 3 J.pl;go_wp2_with fail;go_loopg [33] p.P.length (fun g j wr=> ∃(k:av) (t1:bw),k<=p.P.length/\g=p.P.length-k/\j= jV k/\yF w (w+1+1) w (w+1) #[p.ver,p.par,js a2 p.S Q,js a3 p.P c2,js a4 p.G c3,js a5 p.R c4] t0 t1 (jN) (dd p p.S k 0) wr)
  ·exact⟨0,_,ed,ed,rfl,J⟩
  obtain⟨k,t1,a8,rfl,rfl,P⟩:=hrel;obtain⟨G,rfl⟩: ∃G:aj,G=wr:=⟨_,rfl⟩;have r:=hI P;clear P y3 J;by_cases f:k<p.P.length
  ·obtain⟨b,off,rfl,T,U⟩:=(H3 _ r.bel).pt f;have c0:(0:ar)<=(k:ar):=ed;have Q:(k:ar)<(p.P:ar):=ed;obtain⟨b9,d9,rfl⟩:=rR r.own.sws;have o7:bG ((dd p p.S k 0).sws.length=k):=(by show _=_;simp[dd];omega);have a0:=hI (waT p p.S 0 f);have d:=hI (r.below ((Nb G G).alloc (Mv _) (cO #[p.P[k].id,p.P[k].sec] 143)));generalize dd p p.S k 0=X at *;go_upto_region 11 with fail;generalize z:G.alloc _=E at *;have q0:jc E G 0 p.P[k].id:=(by rw[<-z];simp);have Z:=ji 1 d.blk;have a1:X.sws.length<=1000:=Ko;have L:=aD d.blk;have i:w.heap.size+1+1<=E.heap.size:=L;clear z T U;go_wp2_with (at_builtin;refine nT rfl _ _ 30 108 108 _ 3 24 rfl underlying30 UQ rfl eh eh (w+1+1) (js b9 X.sws d9) X.sws _ rfl d.own.sws a1 i [jV p.P[k].id,jV 0,jV 0] rfl rfl (tp ⟨p.P[k].id,0,0⟩) ?_;intro b8 c8 w8 n a;have H:=d.below ((Nb E E).alloc (Mv _) (cO ([jV p.P[k].id,jV 0,jV 0]:aq bw).toArray 108));have A:=H.grow (o:=1) (u:=cJ (bt ⟨b8,0,bn⟩) (X.sws.length+1) c8) ed ed ed H.own.sws a rfl (H.own.sw ⟨p.P[k].id,0,0⟩ n a);have C:=(a.block _ (aD H.blk) (fun e=>by {obtain⟨c,_,M⟩:=fD H.own.sws e.symm;omega})).trans H.blk;have z8:=ji 1 C;have f8:=jz 1 C);rw[<-a0.o]at A;go_roundg (p.P.length-(k+1))
   ·go_light;exact⟨k+1,_,ed,ed,ej,A⟩
   go_light;omega
  obtain rfl:k=p.P.length:=ed;have K:=r;clear r f;have y5:=ji 5 K.pl;go_wp2_with fail;go_loopg [49] p.R.length (fun g j wr=> ∃(k:av) (t2:bw),k<=p.R.length/\g=p.R.length-k/\j= jV k/\yF w (w+1+1) w (w+1) #[p.ver,p.par,js a2 p.S Q,js a3 p.P c2,js a4 p.G c3,js a5 p.R c4] t0 t1 t2 (dd p p.S p.P k) wr)
  ·exact⟨0,_,ed,ed,rfl,K⟩
  obtain⟨k,t2,a8,rfl,rfl,P⟩:=hrel;obtain⟨y,rfl⟩: ∃y:aj,y=wr:=⟨_,rfl⟩;have r:=hI P;clear P y5 K;by_cases f:k<p.R.length
  ·obtain⟨b,off,b1,vo,b2,rfl,T,U,r2,r3,r4,r5,r6,-⟩:=(H1 _ r.bel).rt f;clear T U r2 r3 r4 r5 r6;obtain⟨b3,o0,b1,vo,b2,e8,T,U,r2,r3,r4,r5,r6,O⟩:=(H1 _ r.bel).rt f;cases e8;obtain⟨ap,b4,rfl,-⟩:=O.A.at_;obtain⟨b5,b6,rfl,-⟩:=O.O.at_;obtain⟨b7,c1,rfl,-⟩:=O.fl;clear O;have c0:(0:ar)<=(k:ar):=ed;have Q:(k:ar)<(p.R:ar):=ed;obtain⟨b9,d9,rfl⟩:=rR r.own.lks;have o7:bG ((dd p p.S p.P k).lks.length=k):=(by show _=_;simp[dd];omega);have a0:=hI (waU p p.S p.P f);have d:=hI (r.below ((Nb y y).alloc (Mv _) (cO #[p.R[k].id,p.R[k].E,p.R[k].X,js ap p.R[k].A.length b4,js b5 p.R[k].O.length b6,js b7 p.R[k].fl.length c1,p.R[k].T] 102)));generalize dd p p.S p.P k=X at *;go_upto_region 16 with fail;generalize z:y.alloc _=E at *;have q0:jc E y 0 p.R[k].id:=(by rw[<-z];simp);have Z:=ji 2 d.blk;have a1:X.lks.length<=1000:=Ko;have L:=aD d.blk;have i:w.heap.size+1+1<=E.heap.size:=L;clear z T U r2 r3 r4 r5 r6;go_wp2_with (at_builtin;refine nT rfl _ _ 31 99 99 _ 4 32 rfl underlying31 UP rfl eh eh (w+1+1) (js b9 X.lks d9) X.lks _ rfl d.own.lks a1 i [jV p.R[k].id,cW .u8 0,jV 0,jV 0] rfl rfl (th ⟨p.R[k].id,0,0,0⟩) ?_;intro b8 c8 w8 n a;have H:=d.below ((Nb E E).alloc (Mv _) (cO ([jV p.R[k].id,cW .u8 0,jV 0,jV 0]:aq bw).toArray 99));have A:=H.grow (o:=2) (u:=cJ (bt ⟨b8,0,bn⟩) (X.lks.length+1) c8) ed ed ed H.own.lks a rfl (H.own.lk ⟨p.R[k].id,0,0,0⟩ n a);have C:=(a.block _ (aD H.blk) (fun e=>by {obtain⟨c,_,M⟩:=fD H.own.lks e.symm;omega})).trans H.blk;have z8:=ji 2 C;have f8:=jz 2 C);rw[<-a0.o]at A;go_roundg (p.R.length-(k+1))
   ·go_light;exact⟨k+1,_,ed,ed,ej,A⟩
   go_light;omega
  obtain rfl:k=p.R.length:=ed;have D:=r.own;rw[waR]at D;obtain⟨g0,m0,rfl⟩:=rR D.tks;obtain⟨g1,m1,rfl⟩:=rR D.sws;obtain⟨g2,m2,rfl⟩:=rR D.lks;have Z:=(Mu y _ 0 _ _ _ r.blk).trans rfl;have z1:=(Mu y _ 1 _ _ _ r.blk).trans rfl;have z2:=(Mu y _ 2 _ _ _ r.blk).trans rfl;go_wp2_with fail;exact Nh (v:=dw #[cZ #[js g0 (am p).tks.length m0,js g1 (am p).sws.length m1,js g2 (am p).lks.length m2],jV 0]) (by simp[results,Tryz.f59,go_sem,Z,z1,z2]) rfl ⟨r.bel,.inr ⟨a7,_,_,_,rfl,D.base ed⟩⟩
 rw[Nm V];have a7:=hI V;clear V;obtain⟨Z,z1,z2⟩:=fO I.blk;go_wp2_with fail;exact Nh (v:=dw #[cZ #[jN,jN,jN],jV 100]) (by simp[results,Tryz.f59,go_sem,Z,z1,z2]) rfl ⟨I.bel,.inl ⟨a7,rfl⟩⟩
section
open Go.RowKit Go.Shelf Tryz
attribute [local go_sem] Oper.semAt_some
set_option maxHeartbeats 4000000
def Ai (a b:ax bR) (ca c:av) (l m:aq ar) (w:aj) (hl:aB w 1 dG a ca l) (H:aB w 1 dG b c m) (h1:aO l) (h2:aO m):
  jW 72 #[js a l ca,js b m c] w (bY w (ab (l=m))):=by
 have q1:=DU hl;have q2:=DU H;have HP:=hI (UB h1 h2);clear hl H h1 h2;generalize Go.strOfNums l=S at *;generalize Go.strOfNums m=T at *;go_enter func72,ntmps72;refine ei ?_;exact⟨XU,Nb _ _⟩
end
section
variable {P:Program}{ops:aL Oper}{Q:Exit->Act->aj->Prop}{md:Region.Mode}{S:aL aU->aj->Prop}
def zaw (i:av){f:av}{L:aL aU}{a:Act}{w:aj}{ws:aq av}{D:aj->Prop}(H:(MP md ops ws L i&&ws.all fun j=>uH md ops 9 j i)=bl)
  (g: ∀(d:ax Tmp) v c a w,Q (.panic c) (a.put d v) w->Q (.panic c) a w) (e:D w)
  (h:Nonempty (aX D)-> ∀K:Act->Prop,(∀A,eQ P md ops Q (eG ws D) f (L.setIfInBounds i bl) A w->K A)-> ∀o,ops[i]? =bt o->o.quiet P a (fun w'=> ∃t:aX D,w'=t.w) K):
  eQ P md ops Q (eG ws D) (f+1) L a w:=by
 simp only[Dt]at H;refine sv H.1 g (fun l w' hL k b=>⟨⟨w',b ?_⟩,rfl⟩) (fun _=>e) (h ⟨⟨w,e⟩⟩);unfold qP;rw[Gc];intro j hj hl;have:=DO hL 9 j (aq.all_eq_true.1 H.2 j hj) hl;rw[k]at this;cases this
end
def Zh {S:av->aU}{w:aj}{a:bR}{u:bw}(h:S a.block=bl):eD (bK S w) (bK S (w.setCell a u)):=yR fun k _ H=>Ny w a u k (fun e=>by rw[e,h]at H;cases H)
def Zw {W:aj}{base:av}{sz:av}{v:bw}{n:av}(h:W.ownsRow base e sz v n xs){a:bR}{c:aL bw}{F:av × av}(b:W.heap[a.block]? =bt (cO c T F)) (H:T≠e) (u:bw):(W.setCell a u).ownsRow base e sz v n xs:=
 ownsRow_setCell_other h (fun E=>by
  obtain⟨C,q,-⟩:=fD h E;rw[b]at q
  injection q with q
  injection q with _ q
  exact H q) u
def Ke {W:aj}{base n sz:av}(h:W.ownsRow base e sz (jq g 0 n cap) n xs){o k:av}(a:o+k<=xs.length):W.there g o k:=fun j hj=>by
 rcases h.2 with⟨h1,_⟩ | ⟨G,C,cur,he,H,hB9,r1,r2,r3,r4⟩
 ·cases h1
 cases he;refine⟨?_,Kl⟩;have h3:=h.cells (g:=g) rfl (o+j) (xs[o+j]' ed) (Nf _);rw[oB]at h3;rw[h3];rfl
def Iy (x:Hs) (a:av->ax bR) (c:av->av) (w:aj) (hx:dK w a c x) (H:x.Fit):
  jW 19 #[cV a c x] w (uZ w (if gD x=bl then 0 else 8)):=by
 obtain⟨R,g⟩: ∃R,(if gD x=bl then 0 else 8:ar)=R:=⟨_,rfl⟩;have i:bG (∀W,jb w W->jW 31 #[cV a c x] W (uZ W R)):=fun W b=>by rw[<-g];exact QH x a c W (hx.below b) H
 rw[g];clear g;unfold cV at i;have k:=hI fun W (b:jb w W)=>hx.below b;have n:=hI H;clear hx H;unfold cV;go_enter func19,ntmps19;go_upto_region 1 with fail;generalize d:cj _ _=W0;have K:=hI (jG d)
 have j:=hI (jA d)
 clear d;have p:=hI fun W b=>k W (jo K b);have k1:=fB.of (v:= jV R) fun W b=>i W (jo K b);have cT:=hI k1;clear k1 k p n i;refine rN ?_;go_big_quiet_want;refine sD j (dk 1) rfl rfl ?_;simp[cq];go_big_quiet_on
 repeat (go_big_quiet_step (with_reducible exact cT.o _ _))
 refine cl ?_;rintro _ ⟨⟨D,osq⟩,rfl⟩;refine ei ?_;exact⟨rfl,K.trans ((Nr W0 D osq).mono K.size)⟩
section
variable (a:av->ax bR) (c:av->av) (x:Hs) (b0 b1 b2 b3:ax bR) (d0 d1 d2 d3:av)
def Ab:(aE a c x).size=25:=rfl
end
abbrev HsD (g:av) (a:av->ax bR) (c:av->av) (x:Hs):aj->Prop:=fun W=>jk W g (aE a c x) 35
theorem Iz (g:av) (a:av->ax bR) (c:av->av) (x:Hs):
  (∀t:aX (HsD g a c x),jc t.w g 0 (js (a 0) x.key (c 0)))/\
  (∀t:aX (HsD g a c x),jc t.w g 1 x.pl.ver)/\
  (∀t:aX (HsD g a c x),jc t.w g 2 x.pl.par)/\
  (∀t:aX (HsD g a c x),jc t.w g 3 (js (a 1) x.pl.S (c 1)))/\
  (∀t:aX (HsD g a c x),jc t.w g 4 (js (a 2) x.pl.P (c 2)))/\
  (∀t:aX (HsD g a c x),jc t.w g 5 (js (a 3) x.pl.G (c 3)))/\
  (∀t:aX (HsD g a c x),jc t.w g 6 (js (a 4) x.pl.R (c 4)))/\
  (∀t:aX (HsD g a c x),jc t.w g 7 x.bk.ver)/\
  (∀t:aX (HsD g a c x),jc t.w g 8 x.bk.par)/\
  (∀t:aX (HsD g a c x),jc t.w g 9 (js (a 5) x.bk.S (c 5)))/\
  (∀t:aX (HsD g a c x),jc t.w g 10 (js (a 6) x.bk.P (c 6)))/\
  (∀t:aX (HsD g a c x),jc t.w g 11 (js (a 7) x.bk.G (c 7)))/\
  (∀t:aX (HsD g a c x),jc t.w g 12 (js (a 8) x.bk.R (c 8)))/\
  (∀t:aX (HsD g a c x),jc t.w g 13 x.high)/\
  (∀t:aX (HsD g a c x),jc t.w g 14 (js (a 9) x.st.tks (c 9)))/\
  (∀t:aX (HsD g a c x),jc t.w g 15 (js (a 10) x.st.sws (c 10)))/\
  (∀t:aX (HsD g a c x),jc t.w g 16 (js (a 11) x.st.lks (c 11)))/\
  (∀t:aX (HsD g a c x),jc t.w g 17 (js (a 12) x.buf (c 12)))/\
  (∀t:aX (HsD g a c x),jc t.w g 18 x.nx.ver)/\
  (∀t:aX (HsD g a c x),jc t.w g 19 x.nx.par)/\
  (∀t:aX (HsD g a c x),jc t.w g 20 (js (a 13) x.nx.S (c 13)))/\
  (∀t:aX (HsD g a c x),jc t.w g 21 (js (a 14) x.nx.P (c 14)))/\
  (∀t:aX (HsD g a c x),jc t.w g 22 (js (a 15) x.nx.G (c 15)))/\
  (∀t:aX (HsD g a c x),jc t.w g 23 (js (a 16) x.nx.R (c 16)))/\
  (∀t:aX (HsD g a c x),jc t.w g 24 (db x.halted)):=
 ⟨fun t=>(Mu t.w g 0 _ _ _ t.h).trans rfl,fun t=>(Mu t.w g 1 _ _ _ t.h).trans rfl,fun t=>(Mu t.w g 2 _ _ _ t.h).trans rfl,fun t=>(Mu t.w g 3 _ _ _ t.h).trans rfl,fun t=>(Mu t.w g 4 _ _ _ t.h).trans rfl,fun t=>(Mu t.w g 5 _ _ _ t.h).trans rfl,fun t=>(Mu t.w g 6 _ _ _ t.h).trans rfl,fun t=>(Mu t.w g 7 _ _ _ t.h).trans rfl,fun t=>(Mu t.w g 8 _ _ _ t.h).trans rfl,fun t=>(Mu t.w g 9 _ _ _ t.h).trans rfl,fun t=>(Mu t.w g 10 _ _ _ t.h).trans rfl,fun t=>(Mu t.w g 11 _ _ _ t.h).trans rfl,fun t=>(Mu t.w g 12 _ _ _ t.h).trans rfl,fun t=>(Mu t.w g 13 _ _ _ t.h).trans rfl,fun t=>(Mu t.w g 14 _ _ _ t.h).trans rfl,fun t=>(Mu t.w g 15 _ _ _ t.h).trans rfl,fun t=>(Mu t.w g 16 _ _ _ t.h).trans rfl,fun t=>(Mu t.w g 17 _ _ _ t.h).trans rfl,fun t=>(Mu t.w g 18 _ _ _ t.h).trans rfl,fun t=>(Mu t.w g 19 _ _ _ t.h).trans rfl,fun t=>(Mu t.w g 20 _ _ _ t.h).trans rfl,fun t=>(Mu t.w g 21 _ _ _ t.h).trans rfl,fun t=>(Mu t.w g 22 _ _ _ t.h).trans rfl,fun t=>(Mu t.w g 23 _ _ _ t.h).trans rfl,fun t=>(Mu t.w g 24 _ _ _ t.h).trans rfl⟩
open Go.Shelf
def Vh {a b:aq av}(H: ∀i (h:i<a.length),a[i]<256) (d: ∀i (h:i<b.length),b[i]<256): ∀i (h:i<(a++b).length),(a++b)[i]<256:=by
 intro i h;rw[aq.getElem_append];split
 ·exact H _ _
 exact d _ _
section
open Go.RowKit Go.Shelf Tryz
attribute [local go_sem] Oper.semAt_some
def ie (w:BitVec 32):BitVec 32:=if w.getLsbD 0 then(w>>>1) ^^^ 0xedb88320#32 else w>>>1
def dh:av->BitVec 32->BitVec 32
 | 0,w=>w
 | n+1,w=>dh n (ie w)
def ZO (a b:av) (w:BitVec 32):dh (a+b) w=dh b (dh a w):=by
 induction a generalizing w with
 | zero=>simp[dh]
 | succ a i=>rw[av.succ_add];simp only[dh];exact i _
def Cq (n:av) (w:BitVec 32):dh (n+1) w=ie (dh n w):=by
 rw[ZO n 1];rfl
def ZT (a b:BitVec 32):ie (a ^^^ b)=ie a ^^^ ie b:=by
 unfold ie;rw[BitVec.getLsbD_xor,BitVec.ushiftRight_xor_distrib];cases a.getLsbD 0<;>cases b.getLsbD 0
 ·simp
 ·simp[BitVec.xor_assoc]
 ·simp only[aU.xor_false,Hq,Dw,if_false];rw[BitVec.xor_assoc,BitVec.xor_comm (b>>>1),<-BitVec.xor_assoc]
 simp only[aU.xor_self,Dw,if_false,Hq];rw[BitVec.xor_assoc (a>>>1),BitVec.xor_comm (0xedb88320#32),BitVec.xor_assoc (b>>>1),BitVec.xor_self,BitVec.xor_zero]
def ZZ (n:av) (a b:BitVec 32):dh n (a ^^^ b)=dh n a ^^^ dh n b:=by
 induction n generalizing a b with
 | zero=>rfl
 | succ n i=>simp only[dh];rw[ZT,i]
def xV (w:BitVec 32) (c:av):BitVec 32:=dh 8 (w ^^^ BitVec.ofNat 32 c)
def dp (w:BitVec 32) (l:aq av):BitVec 32:=l.foldl xV w
def Ki (w:BitVec 32) (a b:aq av):dp w (a++b)=dp (dp w a) b:=by
 unfold dp;exact aq.foldl_append ..
def rk (s:BitVec 32) (l:aq av):BitVec 32:= ~~~ dp (~~~ s) l
def xN (i:av):BitVec 32:=dh 8 (BitVec.ofNat 32 i)
def waa: ∀(n:av) (w:BitVec 32),n<=32->(∀k,k<n->w.getLsbD k=aW)->dh n w=w>>>n:=by
 intro n
 induction n with
 | zero=>intro w _ _;rw[BitVec.ushiftRight_zero];rfl
 | succ n i=>
  intro w H h;rw[dh];have e:ie w=w>>>1:=by unfold ie;rw[h 0 ed];rfl
  rw[e,i _ ed (fun k a=>by rw[BitVec.getLsbD_ushiftRight];exact h _ ed),<-BitVec.shiftRight_add,av.add_comm]
def wab (w:BitVec 32) (c:av) (b:c<256):xV w c=(w>>>8) ^^^ xN ((w.toNat % 256) ^^^ c):=by
 unfold xV xN
 have hx:w ^^^ BitVec.ofNat 32 c=(w&&& 0xffffff00#32) ^^^ BitVec.ofNat 32 ((w.toNat % 256) ^^^ c):=by
  have e:BitVec.ofNat 32 ((w.toNat % 256) ^^^ c)=(w&&& 0xff#32) ^^^ BitVec.ofNat 32 c:=by
   apply BitVec.eq_of_toNat_eq;rw[BitVec.toNat_xor,BitVec.toNat_and,BitVec.toNat_ofNat,BitVec.toNat_ofNat,av.xor_mod_two_pow]
   congr 1
   show w.toNat % 256 % 2 ^ 32=w.toNat&&& (2 ^ 8-1);rw[av.and_two_pow_sub_one_eq_mod];omega
  rw[e,<-BitVec.xor_assoc]
  congr 1
  apply BitVec.eq_of_getLsbD_eq;intro i H;have h2: ∀i:Fin 32,(0xff#32).getLsbD i.val= !(0xffffff00#32).getLsbD i.val:=eh
  rw[BitVec.getLsbD_xor,Th,Th,h2 ⟨i,H⟩];cases w.getLsbD i<;>cases (0xffffff00#32).getLsbD i<;>rfl
 rw[hx,ZZ]
 congr 1
 rw[waa 8 _ eh]
 ·apply BitVec.eq_of_getLsbD_eq;intro i H;rw[BitVec.getLsbD_ushiftRight,BitVec.getLsbD_ushiftRight,Th];by_cases h:8+i<32
  ·have h2: ∀i:Fin 32,8<=i.val->(0xffffff00#32).getLsbD i.val=bl:=eh;rw[h2 ⟨8+i,h⟩ ee,aU.and_true]
  rw[BitVec.getLsbD_of_ge w (8+i) ed,aU.false_and]
 intro k a;have h2: ∀i:Fin 8,(0xffffff00#32).getLsbD i.val=aW:=by decide
 rw[Th,h2 ⟨k,a⟩,aU.and_false]
def wac (n:ar):IntKind.u32.wrap n=n % 4294967296:=by simp[IntKind.wrap,IntKind.bits,IntKind.signed]
def Cr (b:BitVec 32):BitVec.ofInt 32 (b.toNat:ar)=b:=by
 apply BitVec.eq_of_toNat_eq;simp
def Ks (b:BitVec 32):IntKind.u32.wrap (b.toNat:ar)=(b.toNat:ar):=by
 rw[wac];have:=b.isLt;omega
def Bl (a b:BitVec 32):bits .xor dD (a.toNat:ar) (b.toNat:ar)=((a ^^^ b).toNat:ar):=by
 show IntKind.u32.wrap ((BitVec.ofInt 32 (a.toNat:ar) ^^^ BitVec.ofInt 32 (b.toNat:ar)).toNat:ar)=_;rw[Cr,Cr,Ks]
def Ku (a:BitVec 32):bits .and dD (a.toNat:ar) 1=if a.getLsbD 0 then 1 else 0:=by
 show IntKind.u32.wrap ((BitVec.ofInt 32 (a.toNat:ar)&&& BitVec.ofInt 32 1).toNat:ar)=_;rw[Cr,Ks,BitVec.toNat_and,show(BitVec.ofInt 32 1).toNat=2 ^ 1-1 by decide,av.and_two_pow_sub_one_eq_mod,BitVec.getLsbD,av.testBit_zero];by_cases h:a.toNat % 2=1<;>simp[h];omega
def Bm (a:BitVec 32):(a.toNat:ar) / (2:ar)=((a>>>1).toNat:ar):=by
 rw[FL,FG];omega
def Kw (a:BitVec 32):bits .xor dD (a.toNat:ar) 3988292384=((a ^^^ 0xedb88320#32).toNat:ar):=Bl a 0xedb88320#32
def xW {k:IntKind}{a b:ar}(h:a=b):Ending.returned (cW k a)=cL (cW k b):=by rw[h]
def dt (k:av):aL bw:=aL.ofFn (n:=256) fun i=> cW dD (if i.val<k then((xN i.val).toNat:ar)else 0)
def gi (k:av):(dt k).size=256:=by unfold dt;exact aL.size_ofFn
def Aj (k i:av) (h:i<256):(dt k)[i]? =bt (cW dD (if i<k then((xN i).toNat:ar)else 0)):=by
 unfold dt;rw[aL.getElem?_ofFn,dif_pos h]
def wad (k:av) (h:k<256):(dt k).setIfInBounds k (cW dD ((xN k).toNat:ar))=dt (k+1):=by
 apply aL.ext
 ·simp[gi]
 intro i h1 h2;rw[gi]at h2;apply Pq;rw[<-Sa,<-Sa,Dz,Aj _ _ h2,Aj _ _ h2,gi];by_cases e:k=i
 ·subst e;simp[h]
 rw[Nm e];by_cases h3:i<k
 ·rw[Np h3,Np ed]
 rw[Nm h3,Nm ed]
attribute [irreducible] dt
def wae (B:av) (w:aj) (g:av) (cs:aL bw) (H:B<=g):cB B w (w.setRow g cs):=
 ⟨rfl,rfl,rfl,ee,fun k a=>Nq w g k cs ed⟩
def KC (w:aj):Sem.run prog (zeroValue 487) w= .ok (cZ (dt 0)) w:=by kernel_rfl
def waf (b:BitVec 32) (w:aj):
  jW 426 #[cW dD b.toNat] w fun e w'=>e=cL (cW dD (ie b).toNat)/\w=w':=by
 have a:=b.isLt;by_cases h0:b.getLsbD 0
 ·have H:(bits .and dD (b.toNat:ar) 1==1)=bl:=by rw[Ku,Np h0];rfl
  go_enter func426,ntmps426
  go_wp2
  go_ret;exact⟨xW (by rw[Bm,Kw,ie,Np h0]),rfl⟩
 have H:(bits .and dD (b.toNat:ar) 1==1)=aW:=by rw[Ku,Nm h0];rfl
 go_enter func426,ntmps426
 go_wp2
 go_ret;exact⟨xW (by rw[Bm,ie,Nm h0]),rfl⟩
def KF (k:av):(dt k).all (·.oneCell')=bl:=by
 rw[aL.all_eq_true];intro i H;have h2:i<256:=by rw[gi]at H;exact H
 have:=Aj k i h2;rw[Sa H]at this;rw[Pq this];rfl
def wag (k:av) (h:k<256):(BitVec.ofNat 32 k).toNat=k:=by simp;omega
def wah (w:aj):
  jW 424 #[] w fun e w'=>e=cL (cZ (dt 256))/\jb w w':=by
  have hz:=KC;go_enter func424,ntmps424;go_wp2_with fail
  go_loopw [5] (fun i wr=> ∃k:av,k<=256/\i= jV k/\wr=(w.alloc (cO (dt 0) 487)).alloc (cO (dt k) 487)) (fun i _=>256-(intOf i).toNat)
  case atStart=>exact⟨0,ed,rfl,rfl⟩
  case round=>
   obtain⟨k,g,rfl,rfl⟩:=hrel;by_cases H:k<256
   ·have hd:ab ((k:ar)<256)=bl:=em;go_wp2_with fail
    go_loop [10,4] (fun j x=> ∃m:av,m<=8/\j= jV m/\x=cW dD (dh m (BitVec.ofNat 32 k)).toNat) (fun j _=>8-(intOf j).toNat)
    case atStart=>exact⟨0,ed,rfl,by rw[dh,wag k H]⟩
    case round=>
     obtain⟨m,l,rfl,rfl⟩:=hrel;by_cases b:m<8
     ·have c:ab ((m:ar)<8)=bl:=em;have d:=(dh m (BitVec.ofNat 32 k)).isLt;go_wp2_with (go_at_call 426;refine(waf _ _).mono ?_;rintro e w' ⟨rfl,rfl⟩);go_round
      case rel=>exact⟨m+1,ed,ej,by rw[Cq]⟩
      case measure=>simp[intOf];omega
     obtain rfl:m=8:=ed;have d:=(dh 8 (BitVec.ofNat 32 k)).isLt;have n:(dt k).setIfInBounds k (cW dD (dh 8 (BitVec.ofNat 32 k)).toNat)=dt (k+1):=wad k H;have q:=Aj k k H;go_wp2_with fail
     go_roundw
     case rel=>exact⟨k+1,ed,ej,rfl⟩
     case measure=>simp[intOf];omega
   obtain rfl:k=256:=ed;have hd:ab (((256:av):ar)<256)=aW:=eh;have f:=gi 256;have a:=gi 0;go_wp2_with (first | (refine Dx rfl 487 _ rfl (w+1) rfl 487 (dt 256) (0,0) _ (Do _ _ _) underlying487 rfl Um ?_) | (refine bP rfl 487 _ _ rfl w (dt 256) (dt 0) 487 rfl rfl (heap_alloc2_old _ _ _) Um (by rw[gi,gi]) (KF 256) ?_))
   refine Nh (v:=cZ (dt 256)) (Pb (p:=0) (ty:=487) rfl _ _ w 487 (dt 256) (0,0) _ rfl (Dp _ _ _ _ _ _ (heap_alloc2_old _ _ _)) underlying487 rfl Um) rfl ⟨rfl,?_⟩;exact(aR.alloc ee _).trans (wae _ _ _ _ (Mv _))
def KK (s:BitVec 32):bits .xor dD IntKind.u32.max (s.toNat:ar)=((~~~ s).toNat:ar):=by
 rw[show IntKind.u32.max=((BitVec.allOnes 32).toNat:ar)by decide,Bl,BitVec.allOnes_xor]
def wai (n:ar):IntKind.u8.wrap n=n % 256:=by simp[IntKind.wrap,IntKind.bits,IntKind.signed]
def waj (a c:av) (H:a<256) (b:c<256):bits .xor .u8 (a:ar) (c:ar)=((a ^^^ c:av):ar)/\a ^^^ c<256:=by
 have hx:a ^^^ c<2 ^ 8:=av.xor_lt_two_pow ed ed;refine⟨?_,hx⟩;show IntKind.u8.wrap ((BitVec.ofInt 8 (a:ar) ^^^ BitVec.ofInt 8 (c:ar)).toNat:ar)=_
 have h1:(BitVec.ofInt 8 (a:ar)).toNat=a:=by
  rw[BitVec.ofInt_natCast,BitVec.toNat_ofNat];exact Tu ed
 have h2:(BitVec.ofInt 8 (c:ar)).toNat=c:=by
  rw[BitVec.ofInt_natCast,BitVec.toNat_ofNat];exact Tu ed
 rw[BitVec.toNat_xor,h1,h2,wai];omega
def wak (a:BitVec 32):(a.toNat:ar) / (256:ar)=((a>>>8).toNat:ar):=by
 rw[FL,FG];omega
def wal (s:BitVec 32) (a:ax bR) (len cap:av) (l:aq av) (w:aj) (f:BL w a len l) (A:len<=100000):
  jW 403 #[cW dD s.toNat,js a len cap] w fun e w'=>e=cL (cW dD (rk s l).toNat)/\jb w w':=by
 have hz:=KC;have B:=s.isLt;have q:=gi 256;have p:=gi 0;go_enter func403,ntmps403;go_wp2_with (first | (go_at_call 424;refine oG (wah _) fun _ g=>?_) | (refine om rfl 487 _ _ rfl (dt 256) (dt 0) rfl rfl Um (by rw[gi,gi]) (KF 256) ?_))
 go_loop [14,6] (fun i x=> ∃k:av,k<=len/\i= jV k/\x=cW dD (dp (~~~ s) (l.take k)).toNat) (fun i _=>len-(intOf i).toNat)
 case atStart=>exact⟨0,ed,rfl,by rw[KK];rfl⟩
 case round=>
  obtain⟨k,C,rfl,rfl⟩:=hrel;have hl:=f.len;by_cases u:k<len
  ·have v:=f.below g;obtain⟨b,off,rfl,n⟩:=v.cell k ed;have r:=Mt n;simp only[]at r;have hx:=(dp (~~~ s) (l.take k)).isLt;have h8:=f.lt k ed;have hd:ab ((k:ar)<(len:ar))=bl:=by simp;omega
   have H:dp (~~~ s) (l.take (k+1))=xV (dp (~~~ s) (l.take k)) l[k]:=by
    rw[Dc ed,Ki];rfl
   have t:=hI H;clear H;generalize l[k]=c at *;generalize dp (~~~ s) (l.take k)=x at *;clear hz q p hl;obtain⟨d,hj⟩:=waj (x.toNat % 256) c ed h8;have y:bits .xor .u8 ((x.toNat:ar) % (256:ar)) (c:ar)=((x.toNat % 256 ^^^ c:av):ar):=d;clear d;have D:(dt 256)[x.toNat % 256 ^^^ c]? =bt (cW dD (xN (x.toNat % 256 ^^^ c)).toNat):=(by rw[Aj _ _ hj,Np hj]);have z:=hI (wab x c h8);generalize x.toNat % 256 ^^^ c=j at *;go_wp2_with fail;go_round
   case rel=>exact⟨k+1,ed,ej,by rw[t.o,z.o,wak,Bl]⟩
   case measure=>simp[intOf];omega
  obtain rfl:k=len:=ed;have hd:ab ((k:ar)<(k:ar))=aW:=ee;have t:bG (dp (~~~ s) (l.take k)=dp (~~~ s) l):=(by rw[Sk ed];rfl);clear hl;go_wp2_with fail;go_ret;refine⟨xW (by rw[t.o,KK];rfl),?_⟩;exact g.trans ((Nb _ _).alloc g.size _)
def wam (a:ax bR) (len cap:av) (l:aq av) (w:aj) (H:BL w a len l) (d:len<=100000):
  jW 356 #[js a len cap] w fun e w'=>e=cL (cW dD (rk 0#32 l).toNat)/\jb w w':=by
 have c:jW 403 #[cW dD 0,js a len cap] w fun e w'=>e=cL (cW dD (rk 0#32 l).toNat)/\jb w w':=wal 0#32 a len cap l w H d;have f:=hI c;clear c;go_enter func356,ntmps356;go_wp2_with (go_at_call 403;refine f.o.mono ?_;rintro e w1 ⟨rfl,b⟩);go_ret;exact⟨rfl,b⟩
def wan (b:BitVec 32) (w:aj):
  jW 427 #[cW dD b.toNat] w fun e w'=>e=cL (cW dD (ie b).toNat)/\w=w':=by
 have c:=b.isLt;have E:b.getLsbD 0=ab (b.toNat % 2=1):=by rw[BitVec.getLsbD,av.testBit_zero]
 by_cases h0:b.toNat % 2=1
 ·have a:((b.toNat:ar) % 2==1)=bl:=by rw[Da];omega
  have H:=hI E;clear E;go_enter func427,ntmps427
  go_wp2
  go_ret;exact⟨xW (by rw[Bm,Kw,ie,H.o,Ni h0];rfl),rfl⟩
 have a:((b.toNat:ar) % 2==1)=aW:=by rw[Nd];omega
 have H:=hI E;clear E;go_enter func427,ntmps427
 go_wp2
 go_ret;exact⟨xW (by rw[Bm,ie,H.o,Mw h0];rfl),rfl⟩
def La (s:BitVec 32):(4294967295:ar)-(s.toNat:ar)=((~~~ s).toNat:ar):=by
 rw[BitVec.toNat_not];have:=s.isLt;omega
def wao (s:BitVec 32) (a:ax bR) (len cap:av) (l:aq av) (w:aj) (d:BL w a len l) (t:len<=100000):
  jW 425 #[cW dD s.toNat,js a len cap] w fun e w'=>e=cL (cW dD (rk s l).toNat)/\w=w':=by
 have u:=s.isLt;have hl:=d.len;go_enter func425,ntmps425;go_wp2_with fail
 go_loop [6,5] (fun i x=> ∃k:av,k<=len/\i= jV k/\x=cW dD (dp (~~~ s) (l.take k)).toNat) (fun i _=>len-(intOf i).toNat)
 case atStart=>exact⟨0,ed,rfl,by rw[La];rfl⟩
 case round=>
  obtain⟨k,v,rfl,rfl⟩:=hrel;by_cases n:k<len
  ·obtain⟨b,off,rfl,f⟩:=d.cell k ed;have hx:=(dp (~~~ s) (l.take k)).isLt;have h8:=d.lt k ed;have hd:ab ((k:ar)<(len:ar))=bl:=by simp;omega
   have H:dp (~~~ s) (l.take (k+1))=xV (dp (~~~ s) (l.take k)) l[k]:=by
    rw[Dc ed,Ki];rfl
   have g:=hI H;clear H;generalize l[k]=c at *;generalize dp (~~~ s) (l.take k)=x at *
   have HE:bG (bits .xor dD (x.toNat:ar) (c:ar)=((x ^^^ BitVec.ofNat 32 c).toNat:ar)):=by
    have:=Bl x (BitVec.ofNat 32 c)
    rwa [show((BitVec.ofNat 32 c).toNat:ar)=(c:ar)by rw[BitVec.toNat_ofNat];omega]at this
   clear hl;go_wp2_with fail
   go_loop [7,5] (fun j y=> ∃m:av,m<=8/\j= jV m/\y=cW dD (dh m (x ^^^ BitVec.ofNat 32 c)).toNat) (fun j _=>8-(intOf j).toNat)
   case atStart=>exact⟨0,ed,rfl,ew⟩
   case round=>
    obtain⟨m,p,rfl,rfl⟩:=hrel;by_cases q:m<8
    ·have r:ab ((m:ar)<8)=bl:=em;go_wp2_with (go_at_call 427;refine(wan _ _).mono ?_;rintro e w' ⟨rfl,rfl⟩);go_round
     case rel=>exact⟨m+1,ed,ej,by rw[Cq]⟩
     case measure=>simp[intOf];omega
    obtain rfl:m=8:=ed;go_wp2_with fail;go_round
    case rel=>exact⟨k+1,ed,ej,by rw[g.o];rfl⟩
    case measure=>simp[intOf];omega
  obtain rfl:k=len:=ed;have hd:ab ((k:ar)<(k:ar))=aW:=ee;have g:bG (dp (~~~ s) (l.take k)=dp (~~~ s) l):=(by rw[Sk ed];rfl);have hx:=(dp (~~~ s) (l.take k)).isLt;clear hl;go_wp2_with fail;go_ret;exact⟨xW (by rw[g.o,La];rfl),rfl⟩
def wap (a:ax bR) (len cap:av) (l:aq av) (w:aj) (H:BL w a len l) (c:len<=100000):
  jW 406 #[js a len cap] w fun e w'=>e=cL (cW dD (rk 0#32 l).toNat)/\w=w':=by
 have b:jW 425 #[cW dD 0,js a len cap] w fun e w'=>e=cL (cW dD (rk 0#32 l).toNat)/\w=w':=wao 0#32 a len cap l w H c;have d:=hI b;clear b;go_enter func406,ntmps406;go_wp2_with (go_at_call 425;refine d.o.mono ?_;rintro e w1 ⟨rfl,rfl⟩);go_ret;exact⟨rfl,rfl⟩
end
structure Wr where
 at_:ar
 data:aq ar
 deriving DecidableEq
structure wbm where
 sc:aq (aq ar)
 wt:aq Wr
 deriving DecidableEq
def br (w:aj) (vs:aq bw) (b:aq ar):Prop:= ∃a c,vs=[cJ a b c]/\aB w 1 dG a c b
def du (w:aj) (vs:aq bw) (x:Wr):Prop:= ∃a c,vs=[cW dr x.at_,cJ a x.data.length c]/\aB w 1 dG a c x.data
def xX:nQ br:=fun _ _ _ _ H ⟨a,c,h1,h2⟩=>⟨a,c,h1,h2.below fS H⟩
def xO:nQ du:=fun _ _ _ _ H ⟨a,c,h1,h2⟩=>⟨a,c,h1,h2.below fS H⟩
def an:aY br:=fun _ _ _ _ H ⟨a,c,h1,h2⟩=>⟨a,c,h1,aB.ext (fun _ _ _ _ _ h=>h) h2 H⟩
def dc:aY du:=fun _ _ _ _ H ⟨a,c,h1,h2⟩=>⟨a,c,h1,aB.ext (fun _ _ _ _ _ h=>h) h2 H⟩
structure ay (w:aj) (a:ax bR) (c:av) (b:ax bR) (d:av) (x:wbm):Prop where
 S:aB w 1 br a c x.sc
 W:aB w 2 du b d x.wt
def ay.below {w:aj}{a:ax bR}{b:ax bR}{x:wbm}(h:ay w a c b d x) (H:jb w w'):ay w' a c b d x:=⟨h.S.below xX H,h.W.below xO H⟩
def ay.ext {w:aj}{a:ax bR}{b:ax bR}{x:wbm}(h:ay w a c b d x) (H:eD w w'):ay w' a c b d x:=⟨h.S.ext an H,h.W.ext dc H⟩
def ak (a:ax bR) (c:av) (b:ax bR) (d:av) (x:wbm):aL bw:=#[js a x.sc c,js b x.wt d]
def aB.sc {w:aj}{a:ax bR}{l:aq (aq ar)}(h:aB w 1 br a cap l)(H:i<l.length): ∃b off A c,a=bt ⟨b,off,bn⟩/\jc w b (off+i) (js A l[i].length c)/\aB w 1 dG A c l[i]:=by
 obtain⟨b,off,v,e,d,f,A,c,rfl,h2⟩:=h.at_ i H;exact⟨b,off,A,c,e,by have:=f 0 ee;simpa using this,h2⟩
def aB.wr {w:aj}{a:ax bR}{l:aq Wr}(h:aB w 2 du a cap l)(d:i<l.length): ∃b off A c,a=bt ⟨b,off,bn⟩/\jc w b (off+i * 2) l[i].at_/\jc w b (off+i * 2+1) (js A l[i].data.length c)/\aB w 1 dG A c l[i].data:=by
 obtain⟨b,off,v,e,f,H,A,c,rfl,h2⟩:=h.at_ i d;exact⟨b,off,A,c,e,by have:=H 0 ee;simpa using this,by have:=H 1 ee;simpa using this,h2⟩
def xB (x:Wr):Prop:=0<=x.at_/\x.at_<32/\x.data.length=128
def ae (x:wbm):Prop:=x.sc.length=32/\x.wt.length<=256/\(∀b∈x.sc,b.length=128)/\ ∀y∈x.wt,xB y
instance (y:Wr):cG (xB y):=by unfold xB;exact cx
instance (x:wbm):cG (ae x):=by unfold ae;exact cx
structure wbm.Wide (x:wbm):Prop where
 s:x.sc.length<=17592186044416
 w:x.wt.length<=17592186044416
 ss: ∀i (h:i<x.sc.length),x.sc[i].length<=140737488355328
 ww: ∀i (h:i<x.wt.length),x.wt[i].data.length<=140737488355328
structure wbm.few (x:wbm):Prop where
 n:x.sc.length+x.wt.length<=600
 ss: ∀i (h:i<x.sc.length),x.sc[i].length<=200000
 ww: ∀i (h:i<x.wt.length),x.wt[i].data.length<=200000
def waq (n b:ar) (w:aj):jW 276 #[n,b] w fun e w'=>e=cL (db (ab (0<=n/\n<b)))/\w'=w:=by
 go_enter func276,ntmps276;go_wp2_with fail
 all_goals (go_ret;refine⟨?_,rfl⟩;simp_all<;>omega)
theorem war (x:wbm) (a:ax bR) (c:av) (b:ax bR) (d:av) (w:aj) (hx:ay w a c b d x) (l:x.Wide):
  jW 101 #[cZ (ak a c b d x)] w (wH w x.few):=by
 have z:=hI l;unfold ak;go_enter func101,ntmps101;go_upto_region 1 with fail;generalize q:cj _ _=W;have K:=hI (jG q)
 have E:=hI (hx.below K.o);have bx:=jA q
 clear q hx;refine vF fun _ _ _=>?_;clear bx;have Z:=l.s;have p:=l.w;clear l;go_wp2_with fail;go_loopg [3,4] x.sc.length (fun g n i wr=> ∃(k:av) (v:ar),k<=x.sc.length/\g=x.sc.length-k/\n= jV v/\i= jV k/\0<=v/\v<=200000000000000/\(∀j (h:j<x.sc.length),j<k->(x.sc[j].length:ar)<=v)/\wr=W)
 ·exact⟨0,_,ed,ed,rfl,rfl,ed,ed,(fun j h h2=>by omega),rfl⟩
 obtain⟨k,v,F,rfl,rfl,rfl,G,I,H,p⟩:=hrel;obtain rfl:=p.symm;clear p;have A:=hI H;clear H;by_cases f:k<x.sc.length
 ·have hd:ab ((k:ar)<(x.sc:ar))=bl:=em;by_cases y:v<=200000
  ·have r:=jT y;obtain⟨g,off,J,L,rfl,Y,-⟩:=E.o.S.sc f;have M:=Mt Y;have s:=z.o.ss k f;have c0:(0:ar)<=(k:ar):=ed;have c1:(k:ar)<(x.sc:ar):=ed;obtain⟨N,e⟩: ∃N,N=x.sc[k].length:=⟨_,rfl⟩;have t:=hI e;rw[<-e]at Y s;clear e;go_wp2_with fail;go_roundg (x.sc.length-(k+1))
   ·go_light;exact⟨k+1,v+N,ed,ed,ej,ej,ed,ed,(fun j h h2=>by
    by_cases u:j=k
    ·subst u;have:=t.o;omega
    have:=A.o j h ed;omega),rfl⟩
   go_light;omega
  have r:=jU y;go_wp2_with fail;go_loopg [3,5] x.wt.length (fun g n i wr=>n= jV v/\i= jV 0/\g=x.wt.length/\wr=W)
  ·exact⟨rfl,rfl,rfl,rfl⟩
  obtain⟨rfl,rfl,rfl,p⟩:=hrel;obtain rfl:=p.symm;clear p;have B:=jT y;go_wp2_with fail
  all_goals (go_ret;exact⟨bl,rfl,Vy,K.o⟩)
 obtain rfl:k=x.sc.length:=ed;have hd:ab ((x.sc:ar)<(x.sc:ar))=aW:=ee;go_wp2_with fail;go_loopg [3,5] x.wt.length (fun g n i wr=> ∃(k:av) (v':ar),k<=x.wt.length/\g=x.wt.length-k/\n= jV v'/\i= jV k/\v<=v'/\0<=v'/\v'<=400000000000000/\(∀j (h:j<x.wt.length),j<k->(x.wt[j].data.length:ar)<=v')/\wr=W)
 ·exact⟨0,v,ed,ed,rfl,rfl,ed,ed,ed,(fun j h h2=>by omega),rfl⟩
 obtain⟨k,v',F,rfl,rfl,rfl,O,R,T,H,p⟩:=hrel;obtain rfl:=p.symm;clear p;have C:=hI H;clear H;by_cases y:v'<=200000
 ·have r:=jT y;by_cases f:k<x.wt.length
  ·have hd:ab ((k:ar)<(x.wt:ar))=bl:=em;obtain⟨g,off,J,L,rfl,-,Y,-⟩:=E.o.W.wr f;have M:=Mt Y;have s:=z.o.ww k f;have c0:(0:ar)<=(k:ar):=ed;have c1:(k:ar)<(x.wt:ar):=ed;obtain⟨N,e⟩: ∃N,N=x.wt[k].data.length:=⟨_,rfl⟩;have t:=hI e;rw[<-e]at Y s;clear e;go_wp2_with fail;go_roundg (x.wt.length-(k+1))
   ·go_light;exact⟨k+1,v'+N,ed,ed,ej,ej,ed,ed,ed,(fun j h h2=>by
    by_cases u:j=k
    ·subst u;have:=t.o;omega
    have:=C.o j h ed;omega),rfl⟩
   go_light;omega
  obtain rfl:k=x.wt.length:=ed;have hd:ab ((x.wt:ar)<(x.wt:ar))=aW:=ee;have B:ab ((200000:ar)<v')=aW:=em;by_cases U:x.sc.length+x.wt.length<=600
  ·have D:ab ((600:ar)<(x.sc:ar)+(x.wt:ar))=aW:=em;have V:bG x.few:=⟨U,fun i h=>by have:=A.o i h h;omega,fun i h=>by have:=C.o i h h;omega⟩;refine ei ?_;exact⟨aW,rfl,fun _=>V.o,K.o⟩
  have D:ab ((600:ar)<(x.sc:ar)+(x.wt:ar))=bl:=em;refine ei ?_;exact⟨bl,rfl,Vy,K.o⟩
 have r:=jU y;have B:ab ((200000:ar)<v')=bl:=em;go_wp2_with fail
 all_goals (go_ret;exact⟨bl,rfl,Vy,K.o⟩)
def xP (b:aU) (p:Prop):Prop:=b=bl↔p
theorem Bn (x:wbm) (a:ax bR) (c:av) (b:ax bR) (d:av) (w:aj) (hx:ay w a c b d x) (J:x.few):
  jW 194 #[cZ (ak a c b d x)] w (bY w (ab (ae x))):=by
 have q:bG (ae x↔((x.sc.length=32/\x.wt.length<=256)/\ ∀j (h:j<x.sc.length),x.sc[j].length=128)/\ ∀j (h:j<x.wt.length),xB x.wt[j]):=
  ⟨fun⟨h1,h2,h3,h4⟩=>⟨⟨⟨h1,h2⟩,fun j h=>h3 _ (Nn h)⟩,fun j h=>h4 _ (Nn h)⟩,fun⟨⟨⟨h1,h2⟩,h3⟩,h4⟩=>⟨h1,h2,fun y L=>by obtain⟨i,M,rfl⟩:=No L;exact h3 i M,fun y L=>by obtain⟨i,M,rfl⟩:=No L;exact h4 i M⟩⟩
 obtain⟨B,N⟩: ∃B,B=ab (ae x):=⟨_,rfl⟩;have O:bG (B=bl↔ae x):=by show _↔_;rw[N];simp
 rw[<-N];clear N;have a5:x.sc.length<=600:=by have:=J.n;omega
 have a6:x.wt.length<=600:=by have:=J.n;omega
 clear J;unfold ak;go_enter func194,ntmps194;go_upto_region 1 with fail;generalize r:cj _ _=R;have K:=hI (jG r)
 have V:=hI (hx.below K.o);have bx:=jA r
 clear r hx;refine vF fun _ _ _=>?_;clear bx
 obtain⟨A,F⟩: ∃A:aU,xP A (x.sc.length=32/\x.wt.length<=256)/\((((x.sc:ar)==32)=bl/\ab ((x.wt:ar)<=256)=bl/\A=bl)\/(((x.sc:ar)==32)=bl/\ab ((x.wt:ar)<=256)=aW/\A=aW)\/(((x.sc:ar)==32)=aW/\A=aW)):=by
  refine⟨ab (x.sc.length=32/\x.wt.length<=256),Dj,?_⟩;by_cases h1:x.sc.length=32<;>by_cases h2:x.wt.length<=256<;>simp[h1,h2]<;>omega
 obtain⟨F,U⟩:=F;have X:=hI F;clear F;rcases U with⟨q1,q2,rfl⟩ | ⟨q1,q2,rfl⟩ | ⟨q1,rfl⟩
 all_goals
  go_wp2_with fail;go_loopg [3,4] x.sc.length (fun g n i wr=> ∃(k:av) (C:aU),k<=x.sc.length/\g=x.sc.length-k/\n=db C/\i= jV k/\xP C ((x.sc.length=32/\x.wt.length<=256)/\ ∀j (h:j<x.sc.length),j<k->x.sc[j].length=128)/\wr=R)
  ·exact⟨0,_,ed,ed,rfl,rfl,⟨fun h=>⟨X.o.1 h,fun j _ h2=>by omega⟩,fun h=>X.o.2 h.1⟩,rfl⟩
  obtain⟨k,C,a1,rfl,rfl,rfl,H,f⟩:=hrel;obtain rfl:=f.symm;clear f;have u:=hI H;clear H;by_cases p:k<x.sc.length
  ·have hd:ab ((k:ar)<(x.sc:ar))=bl:=em;cases C with
   | true=>
    obtain⟨g,off,a2,a3,rfl,Y,-⟩:=V.o.S.sc p;have a4:=Mt Y;have c0:(0:ar)<=(k:ar):=ed;have c1:(k:ar)<(x.sc:ar):=ed;go_wp2_with fail;go_roundg (x.sc.length-(k+1))
    ·go_light;exact⟨k+1,ab (x.sc[k].length=128),ed,ed,(by congr 1;rw[Dh];simp;omega),ej,⟨fun h=>⟨(u.o.1 rfl).1,fun j hj h2=>by
     by_cases s:j=k
     ·subst s;simpa using h
     exact(u.o.1 rfl).2 j hj ed⟩,fun h=>by simpa using h.2 k p ed⟩,rfl⟩
    go_light;omega
   | false=>
    go_wp2_with fail;go_loopg [3,5] x.wt.length (fun g n i wr=>n=db aW/\i= jV 0/\g=x.wt.length/\wr=R)
    ·exact⟨rfl,rfl,rfl,rfl⟩
    obtain⟨rfl,rfl,rfl,f⟩:=hrel;obtain rfl:=f.symm;clear f
    have v:bG (B=aW):=by
     show _=_;rw[aU.eq_false_iff,Ne,O.o,q.o];intro h;have:=u.o.2 ⟨h.1.1,fun j hj _=>h.1.2 j hj⟩;cases this
    go_wp2_with fail
    all_goals (go_ret;exact⟨by rw[v.o]<;>rfl,K.o⟩)
  obtain rfl:k=x.sc.length:=ed;have hd:ab ((x.sc:ar)<(x.sc:ar))=aW:=ee;go_wp2_with fail;go_loopg [3,5] x.wt.length (fun g n i wr=> ∃(k:av) (D:aU),k<=x.wt.length/\g=x.wt.length-k/\n=db D/\i= jV k/\xP D (C=bl/\ ∀j (h:j<x.wt.length),j<k->xB x.wt[j])/\wr=R)
  ·exact⟨0,C,ed,ed,rfl,rfl,⟨fun h=>⟨h,fun j _ h2=>by omega⟩,fun h=>h.1⟩,rfl⟩
  obtain⟨k,D,a1,rfl,rfl,rfl,H,f⟩:=hrel;obtain rfl:=f.symm;clear f;have G:=hI H;clear H;by_cases p:k<x.wt.length
  ·have hd:ab ((k:ar)<(x.wt:ar))=bl:=em;cases D with
   | true=>
    obtain⟨g,off,a2,a3,rfl,z0,Y,-⟩:=V.o.W.wr p;have a4:=Mt Y;have c0:(0:ar)<=(k:ar):=ed;have c1:(k:ar)<(x.wt:ar):=ed;have l:bG (∀W,jW 276 #[x.wt[k].at_,jV 32] W fun e w'=>e=cL (db (ab (0<=x.wt[k].at_/\x.wt[k].at_<32)))/\w'=W):=fun W=>waq _ _ _
    have z: ∀E,xP E (xB x.wt[k])->xP E (C=bl/\ ∀j (h:j<x.wt.length),j<k+1->xB x.wt[j]):=fun E Z=>by
     unfold xP at Z ⊢;rw[Z]
     exact⟨fun h=>⟨(G.o.1 rfl).1,fun j hj h2=>by
      by_cases s:j=k
      ·subst s;exact h
      exact(G.o.1 rfl).2 j hj ed⟩,fun h=>h.2 k p ed⟩
    have a0:=hI z;clear z;by_cases t:0<=x.wt[k].at_/\x.wt[k].at_<32
    ·have T:=jT t;rw[T]at l;have I:=hI t;clear t T;go_wp2_with (go_at_call 276;refine(l.o _).mono ?_;rintro e w1 ⟨rfl,rfl⟩);go_roundg (x.wt.length-(k+1))
     ·go_light;exact⟨k+1,ab (x.wt[k].data.length=128),ed,ed,(by congr 1;rw[Dh];simp;omega),ej,a0.o _ (by unfold xP;rw[Dj];exact⟨fun h=>⟨I.o.1,I.o.2,h⟩,fun h=>h.2.2⟩),rfl⟩
     go_light;omega
    have T:=jU t;rw[T]at l;have I:=hI t;clear t T;go_wp2_with (go_at_call 276;refine(l.o _).mono ?_;rintro e w1 ⟨rfl,rfl⟩);go_roundg (x.wt.length-(k+1))
    ·go_light;exact⟨k+1,aW,ed,ed,rfl,ej,a0.o _ ⟨Vy,fun h=>cv (And.intro h.1 h.2.1) I.o⟩,rfl⟩
    go_light;omega
   | false=>
    have v:bG (B=aW):=by
     show _=_;rw[aU.eq_false_iff,Ne,O.o,q.o];intro h;have:=G.o.2 ⟨u.o.2 ⟨h.1.1,fun j hj _=>h.1.2 j hj⟩,fun j hj _=>h.2 j hj⟩;cases this
    refine ei ?_;exact⟨by rw[v.o]<;>rfl,K.o⟩
  obtain rfl:k=x.wt.length:=ed;have hd:ab ((x.wt:ar)<(x.wt:ar))=aW:=by simp
  have v:bG (B=D):=by
   show _=_;rw[Dh,O.o,q.o,show D=bl↔_ from G.o,show C=bl↔_ from u.o];exact⟨fun h=>⟨⟨h.1.1,fun j hj _=>h.1.2 j hj⟩,fun j hj _=>h.2 j hj⟩,fun h=>⟨⟨h.1.1,fun j hj=>h.1.2 j hj hj⟩,fun j hj=>h.2 j hj hj⟩⟩
  refine ei ?_;exact⟨by rw[v.o]<;>rfl,K.o⟩
def aw:av->ar->aq ar
 | 0,_=>[]
 | k+1,n=>n % 256::aw k (n / 256)
def cw: ∀k n,(aw k n).length=k
 | 0,_=>rfl
 | k+1,n=>by rw[aw,Du,cw]
def Cj: ∀(k:av) (n:ar),aw (k+1) n=aw k n++[n / 256 ^ k % 256]
 | 0,n=>by simp[aw]
 | k+1,n=>by
  rw[aw,Cj k (n / 256),aw,Nz,ar.ediv_ediv_of_nonneg eh,show(256:ar) * 256 ^ k=256 ^ (k+1)by rw[ar.pow_succ,ar.mul_comm]]
def de (l:aq ar):ar:=l.foldr (fun b n=>256 * n+b) 0
def Jv: ∀(l:aq ar) (b:ar),de (l++[b])=de l+256 ^ l.length * b
 | [],b=>by simp[de]
 | a::l,b=>by
  have:=Jv l b;unfold de at this ⊢;rw[Nz,aq.foldr_cons,aq.foldr_cons,this,Du,ar.pow_succ,ar.mul_comm (256 ^ l.length) 256,ar.mul_add,ar.mul_assoc];omega
def Be (l:aq ar):Prop:= ∀b∈l,0<=b/\b<256
def xJ: ∀(l:aq ar),Be l->0<=de l/\de l<256 ^ l.length
 | [],_=>eh
 | b::l,h=>by
  have h1:=xJ l fun x hx=>h x (Dy _ hx);have h2:=h b Dq;have e:de (b::l)=256 * de l+b:=rfl;rw[e,Du,ar.pow_succ];omega
def bo (g:ar):ar:=16 * (g % 2)
def Ck (g:ar) (h0:0<=g) (h1:g<4294967296) (w:aj):jW 259 #[cW dD g] w fun e w'=>e=cL (jV (bo g))/\w'=w:=by
 go_enter func259,ntmps259;refine ei ?_;exact⟨by unfold bo;rw[ar.mul_comm 16];rfl,rfl⟩
def Bf (g:ar) (h0:0<=g) (h1:g<4294967296) (w:aj):jW 362 #[cW dD g] w fun e w'=>e=cL (jV (bo g))/\w'=w:=by
 go_enter func362,ntmps362;refine ei ?_;exact⟨by unfold bo;rfl,rfl⟩
def Wt (n:ar) (w:aj):jW 265 #[n] w fun e w'=>e=cL (jV 128)/\w'=w:=by
 go_enter func265,ntmps265;refine ei ?_;exact⟨rfl,rfl⟩
def Cl (n b:ar) (w:aj):jW 188 #[n,b] w fun e w'=>e=cL (db (ab (0<=n/\n<b)))/\w'=w:=by
 go_enter func188,ntmps188;go_wp2_with fail
 all_goals (go_ret;refine⟨?_,rfl⟩;simp_all<;>omega)
def Bh (l:aq ar) (a:ax bR) (c:av) (w:aj) (hl:aB w 1 dG a c l) (f:Be l) (r:l.length<=4):
  jW 364 #[js a l c] w fun e w'=>e=cL (jV (de l))/\w'=w:=by
 have q:=hI hl;clear hl;go_enter func364,ntmps364;go_wp2_with fail;go_loopg [3,4] l.length (fun g n i wr=> ∃k:av,k<=l.length/\g=k/\n= jV (de (l.drop k))/\i= jV ((k:ar)-1)/\wr=w)
 ·exact⟨l.length,Mv _,rfl,by rw[Te];rfl,rfl,rfl⟩
 obtain⟨k,j,rfl,rfl,rfl,p⟩:=hrel;obtain rfl:=p.symm;clear p;cases gk with
 | zero=>
  refine ei ?_;exact⟨by rw[aq.drop_zero];rfl,rfl⟩
 | succ k=>
  have hd:ab ((0:ar)<=((k+1:av):ar)-1)=bl:=ee;obtain⟨g,off,v,rfl,b,H,d⟩:=q.at_ k j;cases d;have x0:=H 0 ee;simp only[Pk,Tb,Nu]at x0;have L:=Mt x0;have h8:=f l[k] (Nn _);have s:=xJ (l.drop (k+1)) fun x hx=>f x (Gh hx)
  have hp:(256:ar) ^ (l.drop (k+1)).length<=256 ^ 3:=by
   have:(l.drop (k+1)).length<=3:=em
   exact_mod_cast SS eh this
  have HV:bG (de (l.drop k)=256 * de (l.drop (k+1))+l[k]):=by
   show _=_;rw[Pz j];rfl
  rw[show((k+1:av):ar)-1=(k:ar)by omega]at *;generalize de (l.drop (k+1))=X at *;generalize l[k]=y at *;have c0:(0:ar)<=(k:ar):=ed;have c1:(k:ar)<(l:ar):=ed;clear H b;go_wp2_with fail;go_roundg k
  ·go_light;exact⟨k,ed,rfl,Oi,ej,rfl⟩
  go_light;omega
def Bi (n:ar) (s:av) (w:aj) (h0:0<=n) (h1:n<9223372036854775807) (C:s<=8):
  jW 366 #[n,jV (s:ar)] w fun e w'=> ∃a c,e=cL (js a s c)/\cM w' w (js a s c) (aw s n)/\jb w w':=by
 go_enter func366,ntmps366;go_wp2_with fail;go_loopg [0,5,6] s (fun g x r i wr=> ∃(k:av) (b:ax bR) (d:av),k<=s/\g=s-k/\x= jV (n / 256 ^ k)/\r=cJ b k d/\i= jV k/\jb w wr/\wr.ownsRow w 5 1 (js b k d) k ((aw k n).flatMap dR))
 ·exact⟨0,bn,0,ed,ed,ee,rfl,rfl,Nb _ _,Nw _ _ _ _⟩
 obtain⟨k,b,d,D,rfl,rfl,rfl,rfl,hb,ho⟩:=hrel;refine Qa fun t l=>?_;have f:=hb.size;clear hb ho;have u:bG (0<=n / 256 ^ k/\n / 256 ^ k<=n):=⟨ar.ediv_nonneg h0 (ar.le_of_lt (ar.pow_pos eh)),ar.ediv_le_self _ h0⟩;have HV:bG (n / 256 ^ (k+1)=n / 256 ^ k / 256):=by show _=_;rw[ar.pow_succ,ar.ediv_ediv_of_nonneg (ar.le_of_lt (ar.pow_pos eh))]
 have v:=hI (Cj k n);generalize n / 256 ^ k=X at *;by_cases y:k<s
 ·have hd:ab ((k:ar)<(s:ar))=bl:=em;have z:=u.1;have A:X<9223372036854775807:=(by have:=u.2;omega);go_wp2_with (at_builtin;refine nK rfl _ _ 22 5 5 _ 1 1 rfl underlying22 nD rfl eh eh w (js b k d) k _ rfl l ed f [cW .u8 (X % 256)] rfl rfl (tY _) ?_;intro b8 c8 w8 H j);have p:=(t.alloc f _).trans (dT (l.alloc _) (Mv _) em j)
  have q:w8.ownsRow w 5 1 (jq b8 0 (k+1) c8) (k+1) ((aw (k+1) n).flatMap dR):=by
   rw[v.o,Dg];exact H
  go_roundg (s-(k+1))
  ·go_light;exact⟨k+1,bt ⟨b8,0,bn⟩,c8,ed,ed,Oi,rfl,ej,p,q⟩
  go_light;omega
 obtain rfl:k=s:=ed;have hd:ab ((k:ar)<(k:ar))=aW:=ee;refine ei ?_;exact⟨b,d,rfl,by rw[cM,cw];exact l,t⟩
def Wu (a b k:av) (f:a<2 ^ (8 * k)) (i:b<256) (j:k<=3):bits .or dD (a:ar) ((b * 256 ^ k:av):ar)=(a:ar)+256 ^ k * (b:ar):=by
 have e:(256:av) ^ k=2 ^ (8 * k):=by rw[av.pow_mul]
 have c:2 ^ (8 * k)<=2 ^ 24:=SS eh ed;have d:a<2 ^ 32:=ed
 have H:b * 256 ^ k<2 ^ 32:=by rw[e];have:b * 2 ^ (8 * k)<=255 * 2 ^ 24:=Io ed c;omega
 show IntKind.u32.wrap ((BitVec.ofInt 32 (a:ar) ||| BitVec.ofInt 32 ((b * 256 ^ k:av):ar)).toNat:ar)=_;rw[BitVec.ofInt_natCast,BitVec.ofInt_natCast,BitVec.toNat_or,BitVec.toNat_ofNat,BitVec.toNat_ofNat,Tu d,Tu H,e]
 have h3:a ||| b * 2 ^ (8 * k)=b * 2 ^ (8 * k)+a:=by
  rw[av.or_comm,<-av.shiftLeft_eq,<-av.shiftLeft_add_eq_or_of_lt f]
 rw[h3];have h4:b * 2 ^ (8 * k)+a<4294967296:=by rw[e]at H;have:b * 2 ^ (8 * k)<=255 * 2 ^ (8 * k):=Io ed (Mv _);omega
 have e2:((256:ar) ^ k)=((2 ^ (8 * k):av):ar):=by rw[<-e];simp
 have g: ∀n:av,n<4294967296->IntKind.u32.wrap (n:ar)=n:=fun n l=>by simp[IntKind.wrap,IntKind.bits,IntKind.signed];omega
 rw[g _ h4,e2]
 push_cast
 rw[ar.mul_comm];omega
def Bj (l:aq ar) (a:ax bR) (c:av) (w:aj) (hl:aB w 1 dG a c l) (t:Be l) (F:l.length<=4):
  jW 261 #[js a l c] w fun e w'=>e=cL (cW dD (de l))/\w'=w:=by
 have y:=hI hl;clear hl;go_enter func261,ntmps261;go_wp2_with fail;go_loopg [2,6] l.length (fun g n i wr=> ∃k:av,k<=l.length/\g=l.length-k/\n=cW dD (de (l.take k))/\i= jV k/\wr=w)
 ·exact⟨0,Pe _,ed,rfl,rfl,rfl⟩
 obtain⟨k,u,rfl,rfl,rfl,v⟩:=hrel;obtain rfl:=v.symm;clear v;by_cases H:k<l.length
 ·have hd:ab ((k:ar)<(l:ar))=bl:=em;obtain⟨g,off,V,rfl,p,b,q⟩:=y.at_ k H;cases q;have x0:=b 0 ee;simp only[Pk,Tb,Nu]at x0;have L:=Mt x0;have h8:=t l[k] (Nn _);have f:=xJ (l.take k) fun x hx=>t x (Tm hx);rw[Dn,Gm u]at f;obtain⟨A,j⟩:=Ds f.1;obtain⟨B,r⟩:=Ds h8.1
  have d:A<2 ^ (8 * k):=by
   have h2:=f.2;rw[j]at h2;have:(256:ar) ^ k=((2 ^ (8 * k):av):ar):=(by rw[av.pow_mul];simp);rw[this]at h2;exact ar.ofNat_lt.1 h2
  have z:bG (de (l.take (k+1))=bits .or dD (A:ar) ((B * 256 ^ k:av):ar)):=by
   show _=_;rw[Wu A B k d ed ed,Dc H,Jv,Dn,Gm u,j,r]
  have s:B<256:=ed
  have C:(A:ar)<4294967296:=by
   have:2 ^ (8 * k)<=2 ^ 24:=SS eh ed;omega
  have D:bG (l[k] % 4294967296 * 2 ^ (8 * k) % 4294967296=((B * 256 ^ k:av):ar)):=by
   show _=_;have h4:B * 2 ^ (8 * k)<=255 * 2 ^ 24:=Io ed (SS eh ed);have e:(256:av) ^ k=2 ^ (8 * k):=(by rw[av.pow_mul]);rw[r,show(B:ar) % 4294967296=B by omega,show((2:ar) ^ (8 * k))=((256 ^ k:av):ar)by rw[e];simp,<-ar.natCast_mul];rw[<-e]at h4;omega
  rw[j];have E:k<=3:=ed;clear b p j r f h8 d;go_wp2_with fail;go_roundg (l.length-(k+1))
  ·go_light;exact⟨k+1,ed,ed,by rw[z.o,D.o],ej,rfl⟩
  go_light;omega
 obtain rfl:k=l.length:=ed;have hd:ab ((l:ar)<(l:ar))=aW:=ee;refine ei ?_;exact⟨by rw[Ph];rfl,rfl⟩
def Cm (v:bw) (n:av):Prop:= ∃a c,v=cJ a n c
def cg:aq bw->aq av->Prop
 | [],[]=>True
 | v::vs,n::ns=>Cm v n/\cg vs ns
 | _,_=>False
def cg.len: ∀ {v:aq bw}{n:aq av},cg v n->v.length=n.length
 | [],[],_=>rfl
 | _::_,_::_,h=>Tc (· +1) h.2.len
 | [],_::_,h=>h.elim
 | _::_,[],h=>h.elim
def cg.app: ∀ {V v:aq bw}{N n:aq av},cg V N->cg v n->cg (V++v) (N++n)
 | [],_,[],_,_,h=>h
 | _::_,_,_::_,_,h,h'=>⟨h.1,h.2.app h'⟩
 | [],_,_::_,_,h,_=>h.elim
 | _::_,_,[],_,h,_=>h.elim
def cg.get: ∀ {v:aq bw}{n:aq av},cg v n-> ∀i (h:i<v.length) (h':i<n.length),Cm v[i] n[i]
 | _::_,_::_,h,0,_,_=>h.1
 | _::_,_::_,h,i+1,h1,h2=>h.2.get i (by simpa using h1) (by simpa using h2)
 | [],_,_,_,h1,_=>by simp at h1
 | _::_,[],h,_,_,_=>h.elim
def qx:(prog.info? 22).map (fun i=>(i.zero,i.size,i.bytes))=bt (bt (cJ bn 0 0),1,24):=by kernel_rfl
def Cn {v:bw}{n:av}(h:Cm v n): ∀u∈[v],u.oneCell'=bl:=by obtain⟨a,c,rfl⟩:=h;intro u H;simp at H;subst H;rfl
def Wv (x:Wr) (v:bw) (w:aj):jW 179 #[cZ #[x.at_,v]] w (fun e w'=>e=cL ↑x.at_/\jb w w'):=by
 go_enter func179,ntmps179;refine ei ?_;exact⟨rfl,aR⟩
def Ww (x:Wr) (v:bw) (w:aj):jW 180 #[cZ #[x.at_,v]] w (fun e w'=>e=cL v/\jb w w'):=by
 go_enter func180,ntmps180;refine ei ?_;exact⟨rfl,aR⟩
def Wx (n:av) (a:ax bR) (c:av) (w:aj):jW 184 #[js a n c] w (fun e w'=>e=cL (db (ab (n≠128)))/\w'=w):=by
 have e:ab (n≠128)=((n:ar) != 128):=by rw[Dh];simp;omega
 rw[e];clear e;go_enter func184,ntmps184;refine ei ?_;exact⟨rfl,rfl⟩
def Wz (n:ar) (w:aj):jW 187 #[n] w (fun e w'=>e=cL (db (ab (¬(0<=n/\n<32))))/\w'=w):=by
 have H:=hI fun W=>Cl n 32 W;go_enter func187,ntmps187;go_wp2_with (go_at_call 188;refine(H _).mono ?_;rintro e w1 ⟨rfl,rfl⟩);go_ret;exact⟨by rw[Hx,aU.decide_and,aU.not_and];rfl,rfl⟩
def WB (l:aq Wr) (a:ax bR) (c:av) (w:aj) (hl:aB w 2 du a c l) (N:l.length<=600):
  jW 182 #[js a l c,.func (.func 180) #[] #[]] w fun e w'=> ∃E F v,e=cL (js E l F)/\w'.ownsRow w 22 1 (js E l F) l v/\cg v (l.map fun x=>x.data.length)/\jb w w':=by
 have J:=hI fun W (hb:jb w W)=>hl.below xO hb;clear hl;go_enter func182,ntmps182;go_wp2_with fail;go_loopg [4,9] l.length (fun g r i wr=> ∃(k:av) (f:ax bR) (d:av) (v:aq bw),k<=l.length/\g=l.length-k/\r=cJ f k d/\i= jV k/\jb w wr/\wr.ownsRow w 22 1 (js f k d) k v/\cg v ((l.take k).map fun x=>x.data.length))
 ·exact⟨0,bn,0,[],ed,ed,rfl,rfl,Nb _ _,Nw _ _ _ _,Py⟩
 obtain⟨k,f,d,v,O,rfl,rfl,rfl,hb,ho,G⟩:=hrel;refine Qa fun HB I=>?_;have u:=hI G;have J1:=hb.size;clear hb ho G;by_cases G9:k<l.length
 ·have hd:ab ((k:ar)<(l:ar))=bl:=em;have c0:(0:ar)<=(k:ar):=ed;have c1:(k:ar)<(l:ar):=ed;obtain⟨g,off,y,Y,rfl,x0,x1,-⟩:=(J wr HB).wr G9;have L:=Mt x1;have K:bG (∀W,jW 180 #[cZ #[l[k].at_,js y l[k].data.length Y]] W (fun e w'=>e=cL (js y l[k].data.length Y)/\jb W w')):=fun W=>Ww _ _ _;have M:bG ((l.take (k+1)).map (fun x=>x.data.length)=(l.take k).map (fun x=>x.data.length)++[l[k].data.length]):=Md;go_upto_region 4 with fail;generalize hWW:cj _ _=W1;refine KX fun M5 t _ _ _=>?_;have z:=hI (bU I M5);have j:=hI eg;have A:=j.size;clear hWW t x0 x1 L M5;go_wp2_with (first | (go_at_call 180;refine oG (K _) fun _ H=>?_;have n:=hI (bU z H);have p:=hI (j.trans (H.mono A));have q:=p.size;clear H) | (at_builtin;refine nK rfl _ _ 81 22 22 _ 1 24 rfl underlying81 qx rfl eh eh w (js f k d) k _ rfl n ed q [cJ y l[k].data.length Y] rfl rfl (Cn ⟨y,Y,rfl⟩) ?_;intro b8 c8 w8 b s))
  have C:=(p.alloc q _).trans (dT (n.alloc _) (Mv _) em s);have D:cg (v++[cJ y l[k].data.length Y]) ((l.take (k+1)).map fun x=>x.data.length):=(by rw[M.o];exact u.app ⟨⟨y,Y,rfl⟩,Py⟩);go_roundg (l.length-(k+1))
  ·go_light;exact⟨k+1,bt ⟨b8,0,bn⟩,c8,_,ed,ed,rfl,ej,C,b,D⟩
  go_light;omega
 obtain rfl:k=l.length:=ed;have hd:ab ((l:ar)<(l:ar))=aW:=ee;refine ei ?_;rw[Ph]at u;exact⟨f,d,v,rfl,I,u,HB⟩
def WF (l:aq Wr) (a:ax bR) (c:av) (w:aj) (hl:aB w 2 du a c l) (I:l.length<=600):
  jW 186 #[js a l c,.func (.func 179) #[] #[]] w fun e w'=> ∃A C,e=cL (js A l C)/\w'.ownsRow w 3 1 (js A l C) l (l.map fun x=> jV x.at_)/\jb w w':=by
 have D:=hI fun W (hb:jb w W)=>hl.below xO hb;clear hl;go_enter func186,ntmps186;go_wp2_with fail;go_loopg [4,9] l.length (fun g r i wr=> ∃(k:av) (f:ax bR) (d:av),k<=l.length/\g=l.length-k/\r=cJ f k d/\i= jV k/\jb w wr/\wr.ownsRow w 3 1 (js f k d) k ((l.take k).map fun x=> jV x.at_))
 ·exact⟨0,bn,0,ed,ed,rfl,rfl,Nb _ _,Nw _ _ _ _⟩
 obtain⟨k,f,d,J,rfl,rfl,rfl,hb,ho⟩:=hrel;refine Qa fun HB u=>?_;have J1:=hb.size;clear hb ho;by_cases G9:k<l.length
 ·have hd:ab ((k:ar)<(l:ar))=bl:=em;have c0:(0:ar)<=(k:ar):=ed;have c1:(k:ar)<(l:ar):=ed;obtain⟨g,off,Y,E,rfl,x0,x1,-⟩:=(D wr HB).wr G9;have L:=Mt x1;have F:bG (∀W,jW 179 #[cZ #[l[k].at_,js Y l[k].data.length E]] W (fun e w'=>e=cL ↑l[k].at_/\jb W w')):=fun W=>Wv _ _ _;have G:bG ((l.take (k+1)).map (fun x=>bw.int dr x.at_)=(l.take k).map (fun x=> jV x.at_)++[cW dr l[k].at_]):=Md;go_upto_region 4 with fail;generalize hWW:cj _ _=W1;refine KX fun M5 t _ _ _=>?_;have v:=hI (bU u M5);have j:=hI eg;have y:=j.size;clear hWW t x0 x1 L M5;go_wp2_with (first | (go_at_call 179;refine oG (F _) fun _ H=>?_;have n:=hI (bU v H);have p:=hI (j.trans (H.mono y));have q:=p.size;clear H) | (at_builtin;refine nK rfl _ _ 54 3 3 _ 1 8 rfl underlying54 rS rfl eh eh w (js f k d) k _ rfl n ed q [cW dr l[k].at_] rfl rfl Qj ?_;intro b8 c8 w8 b s))
  have z:=(p.alloc q _).trans (dT (n.alloc _) (Mv _) em s);go_roundg (l.length-(k+1))
  ·go_light;exact⟨k+1,bt ⟨b8,0,bn⟩,c8,ed,ed,rfl,ej,z,by rw[G.o];exact b⟩
  go_light;omega
 obtain rfl:k=l.length:=ed;have hd:ab ((l:ar)<(l:ar))=aW:=ee;refine ei ?_;rw[Ph]at u;exact⟨f,d,rfl,u,HB⟩
def RV (_:aj) (vs:aq bw) (v:bw):Prop:=vs=[v]
def Ad:nQ RV:=fun _ _ _ _ _ h=>h
def aB.rv {w:aj}{a:ax bR}(h:aB w 1 RV a cap l)(H:i<l.length): ∃b off,a=bt ⟨b,off,bn⟩/\jc w b (off+i) l[i]:=by
 obtain⟨b,off,v,e,c,d,rfl⟩:=h.at_ i H;exact⟨b,off,e,by have:=d 0 ee;simpa using this⟩
def aB.vals {w:aj}{a:ax bR}{l:aq (aq ar)}(h:aB w 1 br a cap l): ∃v,aB w 1 RV a cap v/\v.length=l.length/\cg v (l.map aq.length):=by
 have key: ∀n,n<=l.length-> ∃v:aq bw,v.length=n/\cg v ((l.take n).map aq.length)/\ ∀i (H:i<v.length),∃b off,a=bt ⟨b,off,bn⟩/\jc w b (off+i) v[i]:=fun n=>by
  induction n with
  | zero=>exact fun _=>⟨[],rfl,Py,fun i H=>by simp at H⟩
  | succ n I=>
   intro d;obtain⟨v,h1,h2,h3⟩:=I ed;obtain⟨b,off,A,C,rfl,c,-⟩:=h.sc (show n<l.length by omega);refine⟨v++[cJ A l[n].length C],by simp[h1],?_,fun i H=> ?_⟩
   ·rw[Dc ed,Pr];exact h2.app ⟨⟨A,C,rfl⟩,Py⟩
   by_cases e:i<v.length
   ·rw[Sp e];exact h3 i e
   have:i=n:=(by simp at H;omega);subst this;refine⟨b,off,rfl,?_⟩;rw[Sm ed]
   simpa [h1]using c
 obtain⟨v,h1,h2,h3⟩:=key l (Mv _);rw[Ph]at h2
 exact⟨v,⟨by rw[h1];exact h.le,h.nil,fun i H=>by
  obtain⟨b,off,e,c⟩:=h3 i H
  exact⟨b,off,_,e,rfl,fun j hj=>(by obtain rfl:j=0:=(by simpa using hj);simpa using c),rfl⟩⟩,h1,h2⟩
def Co {w:aj}{base:av}{a:ax bR}{n:av}(h:w.ownsRow base e 1 (js a n c) l l):aB w 1 RV a c l:=by
 have:=kK (R:=RV) (f:=fun v=>[v]) (l:=l) (v:=cJ a n c) (sz:=1) uq (fun _ _=>rfl) (fun _ _=>rfl);obtain⟨A,C,E,h'⟩:=this;cases E;exact h'
def WM (n:av) (w:aj) (g:n<=1200):
  jW 271 #[jN,jV (n:ar)] w fun e w'=> ∃v,e=cL v/\w'.ownsRow w 22 1 v 0 []/\jb w w':=by
 have c0:(0:ar)<=(n:ar):=ed
 have t0:ab ((n:ar)<0)=aW:=ee
 by_cases h:n=0
 ·subst h;go_enter func271,ntmps271;refine ei ?_;exact Zm
 have t1:ab (0<(n:ar))=bl:=by simp;omega
 have t2:ab (0<n)=bl:=em
 obtain⟨i0,d,b,T4,hz2⟩:=Se qx
 obtain⟨C,row,H,f,c,a⟩: ∃(C:av) (row:aL bw),(∀ty,(Builtin.append_ #[81,3] ty #[jN,jV (n:ar)]).run prog w= .ok (jq w 0 n C) (w.drew.alloc (cO row 22)))/\n<=C/\C<=maxLen/\row.size=C:=by
  have h1:=grownCap_ge w n 0 22;refine⟨grownCap w n 0 22,_,fun ty=>Go.Lib.run_append_nil_zeros w 81 3 ty 22 i0 (jN) dr dr underlying81 underlying3 d b n ed Vm ed XY,h1,grownCap_le_maxLen w n 0 22 Oq,?_⟩;simp[Builtin.zeroCells,bw.cells];omega
 have H:=H 81;have d0:(C:ar)≥0:=ed
 go_enter func271,ntmps271;go_wp2_with (at_builtin;refine Go.Lib.wpList_append_run _ rfl _ _ _ _ rfl _ _ rfl rfl _ _ H ?_);go_ret;refine⟨_,rfl,⟨rfl,.inr ⟨w,C,row,rfl,Mv _,Nc _ _,Pe _,c,by rw[a,Tb],rfl⟩⟩,(Nb _ w).drew.alloc (Mv _) _⟩
def WT {t:bT}{z:bw}{w:aj}{ops:aL Oper}{rest:aq Oper}{o:Oper}{a:Act}(f:o.guard=bn) (s x:Operand)
  (L:o.op= .call {callee:= .builtin .append,args:=#[s,x],argTypes:=#[t,t]}) (D:prog.underlying t=bt (.slice e)) (k:(prog.info? e).map (fun i=>(i.zero,i.size,i.bytes))=bt (bt z,1,d)) (hz:z.cells.size=1) (E:d<=1000)
  (base:av) (v:bw) (xs:aq bw) (M:a.eval s=v) (hi:w.ownsRow base e 1 v xs xs)
  (p:ax bR) (cap:av) (l:aq bw) (hx:a.eval x=cJ p l cap) (hl:aB w 1 RV p cap l) (h1: ∀u∈l,u.oneCell'=bl) (N:xs.length+l.length<=1000000) (H:base<=w.heap.size)
  (h: ∀A C w',w'.ownsRow base e 1 (js A (xs++l).length C) (xs++l).length (xs++l)->w.grownBy w' v.ownBlock->wpList prog ops Q rest (a.put o.dst (js A (xs++l).length C)) w'):wpList prog ops Q (o::rest) a w:=by
 obtain⟨i0,F,G,I,J⟩:=Se k
 have q: ∀ {W:aj}{v:bw}{n:av}{ys:aq bw},W.ownsRow base e 1 v n ys-> ∃a c,v=cJ a n c:=fun h=>by
  rcases h.2 with⟨rfl,hz⟩ | ⟨g,P,cur,rfl,_⟩
  ·exact⟨bn,0,by rw[hz]⟩
  exact⟨_,_,rfl⟩
 by_cases h0:l=[]
 ·subst h0
  have r:(Builtin.append_ #[t,t] o.type #[v,js p 0 cap]).run prog w= .ok v w:=by
   rcases hi.2 with⟨rfl,hz⟩ | ⟨g,P,cur,rfl,_,_,K,_⟩
   ·cases p<;>simp[Builtin.append_,Fk D,sizeOf,typeInfo,F,Builtin.lenOf,Builtin.firstCells,loadCells,loadCellsFrom]
   cases p<;>simp[Builtin.append_,Fk D,sizeOf,typeInfo,F,Builtin.lenOf,Builtin.firstCells,K,storeCells,loadCells,loadCellsFrom]
  obtain⟨A,C,rfl⟩:=q hi;have R:=h A C w Og ⟨rfl,rfl,rfl,Mv _,fun _ _ _=>rfl⟩;refine Go.Lib.wpList_append_run w f s x t t L _ _ M hx _ _ r ?_
  simpa using R
 obtain⟨b,off,rfl,-⟩:=hl.rv (aq.length_pos_iff.2 h0);refine wpList_append_own_at w f s x t L base e i0 z 1 d D F G I J hz eh v xs _ M hi ⟨b,off,bn⟩ l cap l hx ee ?_ h1 Oq (by have:=Io (show xs.length+l.length<=1000000 from N) E;omega) H ?_
 ·intro j u hj;rw[Fn];have y:=(aq.getElem?_eq_some_iff.1 hj).1;obtain⟨V,O,T,U⟩:=hl.rv y;cases T;rw[U,<-hj,Nf y]
 intro v' w' h1 h2 _ _
 have h1:w'.ownsRow base e 1 v' (xs++l).length (xs++l):=by
  rw[Mx];exact h1
 obtain⟨A,C,rfl⟩:=q h1;exact h A C w' h1 h2
def fg (l:aq bw):Prop:= ∀u∈l,u.oneCell'=bl
def fg.app {m:aq bw}(h:fg l) (k:fg m):fg (l++m):=fun u H=>(Tx.1 H).elim (h u) (k u)
def gw (w:aj) (base:av) (v:bw) (l:aq bw):Prop:=w.ownsRow base 22 1 v l l
def gw.slice {w:aj}{base:av}{v:bw}(h:gw w base v l): ∃a c,v=cJ a l c:=by
 rcases h.2 with⟨rfl,hz⟩ | ⟨g,C,cur,rfl,_⟩
 ·exact⟨bn,0,by rw[hz]⟩
 exact⟨_,_,rfl⟩
theorem WZ (b:av) (D F:ax bR) (G I:av) (l1 l2:aq bw) (w:aj) (h0:jc w b 0 (js D l1 G)) (h1:jc w b 1 (js F l2 I)) (k1:aB w 1 RV D G l1) (k2:aB w 1 RV F I l2) (hi:fg l1) (y:fg l2) (T:l1.length<=600) (U:l2.length<=600):
  jW 181 #[jq b 0 2 2] w fun e w'=> ∃a c,e=cL (js a (l1++l2).length c)/\gw w' w (js a (l1++l2).length c) (l1++l2)/\jb w w':=by
 have Q:bG (∃(sz:av->av) (cat:av->aq bw),sz 0=0/\sz 2=(l1++l2).length/\cat 0=[]/\cat 2=l1++l2/\(∀k,k<=2->sz k<=1200/\(cat k).length=sz k/\fg (cat k))/\ ∀k,k<2-> ∃(a:ax bR) (c:av) (l:aq bw),(∀w',jb w w'->jc w' b k (js a l c)/\aB w' 1 RV a c l)/\fg l/\sz (k+1)=sz k+l.length/\cat (k+1)=cat k++l):=by
  refine⟨fun k=>if k=0 then 0 else if k=1 then l1.length else(l1++l2).length,fun k=>if k=0 then []else if k=1 then l1 else l1++l2,rfl,rfl,rfl,rfl,fun k ho=> ?_,fun k ho=> ?_⟩
  ·rcases(show k=0\/k=1\/k=2 by omega)with rfl | rfl | rfl
   ·exact⟨ee,ee,fun x hx=>by simp at hx⟩
   ·exact⟨em,ee,Og⟩
   exact⟨em,ee,by simpa using hi.app y⟩
  rcases(show k=0\/k=1 by omega)with rfl | rfl
  ·exact⟨D,G,l1,fun w' d=>⟨aP d h0,k1.below Ad d⟩,hi,ee,ee⟩
  exact⟨F,I,l2,fun w' d=>⟨aP d h1,k2.below Ad d⟩,y,ee,ee⟩
 have lb:=My _ _ h0;clear h0 h1 k1 k2;obtain⟨sz,cat,z0,z2,y0,y,hb,ho⟩:=Q.o;refine Qa fun f r=>?_;have V:=hI y;rw[<-y];have s:=(hb 2 ed).2.1;have X:=hI z2;have Y:=hI s;clear Q hb ho y z2 s;go_enter func181,ntmps181;go_wp2_with fail;go_loopg [3,11] 2 (fun g i j wr=> ∃k:av,k<=2/\g=2-k/\i= jV (sz k)/\j= jV k/\w=wr)
 ·exact⟨0,ed,ed,by rw[z0];rfl,rfl,rfl⟩
 obtain⟨k,ho,rfl,rfl,rfl,rfl⟩:=hrel;by_cases p:k<2
 ·have q:ab ((k:ar)<2)=bl:=em;obtain⟨a,c,l,hr,n,J,E⟩:=r k p;have x0:=(hr _ (Nb _ _)).1;have e0:(0:ar)<=(k:ar):=ed;have e3:(k:ar)<2:=ed;have A:=f (k+1) ed;have t0:ab (((sz k:av):ar)+(l:ar)<0)=aW:=em;have b1:sz k+l.length<=1200:=ed;clear hr E n;go_wp2_with fail;go_roundg (2-(k+1))
  ·go_light;exact⟨k+1,ed,ed,by rw[J];go_num,ej,rfl⟩
  go_light;omega
 obtain rfl:k=2:=ed;have q:ab ((2:ar)<2)=aW:=rfl;have A:=(f 2 ed).1;go_wp2_with fail;refine(WM (sz 2) _ ed).mono ?_;rintro e w1 ⟨v,rfl,H,t⟩;have K:=hI t;have u:bG (gw w1 w v (cat 0)):=(by show gw _ _ _ _;rw[y0];exact H);obtain⟨va,Z,rfl⟩:=gw.slice u;clear H t A;go_wp2_with fail;go_loopg [6,27] 2 (fun g i j wr=> ∃(k:av) (a:ax bR) (c:av),k<=2/\g=2-k/\i=cJ a (cat k).length c/\j= jV k/\jb w wr/\gw wr w (js a (cat k).length c) (cat k))
 ·exact⟨0,va,Z,ed,ed,by rw[y0];rfl,rfl,K,u⟩
 obtain⟨k,a,c,ho,rfl,rfl,rfl,d,R⟩:=hrel;have C:=hI d;have L:=hI R;have z:=d.size;clear d R;by_cases p:k<2
 ·have q:ab ((k:ar)<2)=bl:=em;obtain⟨a0,a1,l,hr,n,J,E⟩:=r k p;have x0:=(hr _ C).1;have a2:=hI (hr _ C).2;have e0:(0:ar)<=(k:ar):=ed;have e3:(k:ar)<2:=ed;have A:=(f (k+1) ed).1;have M:=(f k ed).2.1;have HE2:=hI E;have N:=hI n;clear n;have O:(cat k).length+l.length<=1000000:=ed;clear hr E J A M;go_wp2_with (at_builtin;refine WT rfl _ _ rfl underlying81 qx rfl eh w _ (cat k) rfl L a0 a1 l rfl a2 N O z ?_;intro a3 c3 w3 H P);rw[<-HE2.o]at H;go_roundg (2-(k+1))
  ·go_light;exact⟨k+1,a3,c3,ed,ed,YC,ej,C.trans (dT L (Mv _) z P),H⟩
  go_light;omega
 obtain rfl:k=2:=ed;have q:ab ((2:ar)<2)=aW:=rfl;refine ei ?_;exact⟨a,c,rfl,L,C⟩
def aB.ints {w:aj}{a:ax bR}{l:aq ar}(h:aB w 1 rh a cap l)(H:i<l.length): ∃b off,a=bt ⟨b,off,bn⟩/\jc w b (off+i) l[i]:=by
 obtain⟨b,off,v,e,c,d,rfl⟩:=h.at_ i H;exact⟨b,off,e,by have:=d 0 ee;simpa using this⟩
def Cp (m:FuncId) (caps:aL bw) (pr:bw->aU) (l:aq bw) (w:aj):Prop:=
 ∀W i (h:i<l.length),jb w W->jW m (#[l[i]]++caps) W fun e w'=>e=cL (db (pr l[i]))/\jb W w'
def Xb (m:FuncId) (c:aL bw) (pr:bw->aU) (a:ax bR) (cap:av) (l:aq bw) (w:aj) (hl:aB w 1 RV a cap l) (u:l.length<=1200) (hf:mD m) (n:Cp m c pr l w):
  jW 272 #[js a l cap,.func (.func m) #[] c] w fun e w'=>e=cL (jV (dA pr l))/\jb w w':=by
 have s:=hI fun w' (hb:jb w w')=>hl.below Ad hb;refine Zg fun _=>?_;have q:=hI n;clear hl n hf;go_enter func272,ntmps272;go_wp2_with fail;go_loopg [8] l.length (fun g i wr=> ∃k:av,k<=l.length/\g=l.length-k/\i= jV k/\jb w wr/\ ∀j (h:j<l.length),j<k->pr l[j]=aW)
 ·exact⟨0,ed,ed,rfl,Nb _ _,fun j h h0=>by omega⟩
 obtain⟨k,v,rfl,rfl,hb,ho⟩:=hrel;refine Qa fun p d=>?_;clear hb ho;by_cases f:k<l.length
 ·have hd:ab ((k:ar)<(l:ar))=bl:=em;obtain⟨b,off,rfl,x0⟩:=(s _ p).rv f;have c0:(0:ar)<=(k:ar):=ed;have c1:(k:ar)<(l:ar):=ed;have A7:=hI (q wr k f p);cases hp:pr l[k]with
  | true=>
   have HE:=hI (tK f hp d);rw[hp]at A7;clear hp;go_wp2_with fail;refine A7.mono ?_;rintro e0 w1 ⟨rfl,H⟩;have K1:=jh p H;clear H A7;refine ei ?_;exact Uk
  | false=>
   have HE:bG (∀j (h:j<l.length),j<k+1->pr l[j]=aW):=fun j h hj=>by
    by_cases r:j=k
    ·subst r;exact hp
    exact d j h ed
   rw[hp]at A7;clear hp;go_wp2_with fail;refine A7.mono ?_;rintro e0 w1 ⟨rfl,H⟩;have K1:=jh p H;clear H A7;go_wp2_with fail;go_roundg (l.length-(k+1))
   ·go_light;exact⟨k+1,ed,ed,ej,K1,HE⟩
   go_light;omega
 obtain rfl:k=l.length:=ed;have hd:ab ((l:ar)<(l:ar))=aW:=ee;have HE:=hI (tJ fun j hj=>d j hj hj);refine ei ?_;exact⟨dU HE.symm,p⟩
def Xh (m:FuncId) (c:aL bw) (pr:bw->aU) (a:ax bR) (cap:av) (l:aq bw) (w:aj) (hl:aB w 1 RV a cap l) (d:l.length<=1200) (f:mD m) (H:Cp m c pr l w):
  jW 183 #[js a l cap,.func (.func m) #[] c] w fun e w'=>e=cL (db (l.any pr))/\jb w w':=by
 have A7:=hI (Xb m c pr a cap l w hl d f H);have g:=hI (np pr l);clear hl H;go_enter func183,ntmps183;go_wp2_with fail;refine A7.mono ?_;rintro e w1 ⟨rfl,b⟩;have i:=hI b;clear b;generalize dA pr l=x at *;refine ei ?_;exact⟨aH g,i⟩
def Jw (m:FuncId) (caps:aL bw) (pr:ar->aU) (l:aq ar) (w:aj):Prop:=
 ∀W i (h:i<l.length),jb w W->Calls prog m (#[cW dr l[i]]++caps) W fun e w'=>e=cL (db (pr l[i]))/\jb W w'
def Xi (m:FuncId) (c:aL bw) (pr:ar->aU) (a:ax bR) (cap:av) (l:aq ar) (w:aj) (hl:aB w 1 rh a cap l) (u:l.length<=1200) (hf:mD m) (n:Jw m c pr l w):
  jW 273 #[js a l cap,.func (.func m) #[] c] w fun e w'=>e=cL (jV (dA pr l))/\jb w w':=by
 have s:=hI fun w' (hb:jb w w')=>hl.below (fun _ _ _ _ _ h=>h) hb;refine Zg fun _=>?_;have q:=hI n;clear hl n hf;go_enter func273,ntmps273;go_wp2_with fail;go_loopg [8] l.length (fun g i wr=> ∃k:av,k<=l.length/\g=l.length-k/\i= jV k/\jb w wr/\ ∀j (h:j<l.length),j<k->pr l[j]=aW)
 ·exact⟨0,ed,ed,rfl,Nb _ _,fun j h h0=>by omega⟩
 obtain⟨k,v,rfl,rfl,hb,ho⟩:=hrel;refine Qa fun p d=>?_;clear hb ho;by_cases f:k<l.length
 ·have hd:ab ((k:ar)<(l:ar))=bl:=em;obtain⟨b,off,rfl,x0⟩:=(s _ p).ints f;have c0:(0:ar)<=(k:ar):=ed;have c1:(k:ar)<(l:ar):=ed;have A7:=hI (q wr k f p);cases hp:pr l[k]with
  | true=>
   have HE:=hI (tK f hp d);rw[hp]at A7;clear hp;go_wp2_with fail;refine A7.mono ?_;rintro e0 w1 ⟨rfl,H⟩;have K1:=jh p H;clear H A7;refine ei ?_;exact Uk
  | false=>
   have HE:bG (∀j (h:j<l.length),j<k+1->pr l[j]=aW):=fun j h hj=>by
    by_cases r:j=k
    ·subst r;exact hp
    exact d j h ed
   rw[hp]at A7;clear hp;go_wp2_with fail;refine A7.mono ?_;rintro e0 w1 ⟨rfl,H⟩;have K1:=jh p H;clear H A7;go_wp2_with fail;go_roundg (l.length-(k+1))
   ·go_light;exact⟨k+1,ed,ed,ej,K1,HE⟩
   go_light;omega
 obtain rfl:k=l.length:=ed;have hd:ab ((l:ar)<(l:ar))=aW:=ee;have HE:=hI (tJ fun j hj=>d j hj hj);refine ei ?_;exact⟨dU HE.symm,p⟩
def Xo (m:FuncId) (c:aL bw) (pr:ar->aU) (a:ax bR) (cap:av) (l:aq ar) (w:aj) (hl:aB w 1 rh a cap l) (d:l.length<=1200) (f:mD m) (H:Jw m c pr l w):
  jW 185 #[js a l cap,.func (.func m) #[] c] w fun e w'=>e=cL (db (l.any pr))/\jb w w':=by
 have A7:=hI (Xi m c pr a cap l w hl d f H);have g:=hI (np pr l);clear hl H;go_enter func185,ntmps185;go_wp2_with fail;refine A7.mono ?_;rintro e w1 ⟨rfl,b⟩;have i:=hI b;clear b;generalize dA pr l=x at *;refine ei ?_;exact⟨aH g,i⟩
def Bk:bw->aU
 | .slice _ n _=>ab (n≠128)
 | _=>bl
def XZ:mD 184:=fun _ _=>rfl
def Yc:mD 187:=fun _ _=>rfl
def cg.odd: ∀ {V:aq bw}{N:aq av},cg V N->V.any Bk=N.any fun n=>ab (n≠128)
 | [],[],_=>rfl
 | v::V,n::N,h=>by
  obtain⟨a,c,rfl⟩:=h.1;rw[aq.any_cons,aq.any_cons,h.2.odd];rfl
 | [],_::_,h=>h.elim
 | _::_,[],h=>h.elim
def cg.one {v:aq bw}{n:aq av}(h:cg v n):fg v:=fun u a=>by
 obtain⟨i,H,rfl⟩:=No a;exact Cn (h.get i H (by rw[<-h.len];exact H)) _ ee
def Yk (x:wbm):ab (ae x)= !((x.sc.map aq.length++x.wt.map fun y=>y.data.length).any (fun n=>ab (n≠128)) || ((x.wt.map Wr.at_).any fun n=>ab (¬(0<=n/\n<32))) || decide (x.sc.length≠32) || decide (256<x.wt.length)):=by
 rw[Dh,Dj];simp only[TH,aq.any_map,Function.comp_def,aU.not_eq_true',Sd,Gc,Dr,Ns,cG.not_not,ne_eq,av.not_lt];unfold ae xB;exact⟨fun⟨h1,h2,h3,h4⟩=>⟨⟨⟨⟨h3,fun y H=>(h4 y H).2.2⟩,fun y H=>⟨(h4 y H).1,(h4 y H).2.1⟩⟩,h1⟩,h2⟩,fun⟨⟨⟨⟨h3,h4⟩,h5⟩,h1⟩,h2⟩=>⟨h1,h2,h3,fun y H=>⟨(h5 y H).1,(h5 y H).2,h4 y H⟩⟩⟩
def Yy {w:aj}{base:av}{a:ax bR}{l:aq ar}(h:w.ownsRow base 3 1 (js a l c) l (l.map (cW dr))):aB w 1 rh a c l:=by
 have:=kK (R:=rh) (f:=fun v=>[jV v]) (l:=l) (sz:=1) (by rw[show l.flatMap (fun v=>[bw.int dr v])=l.map (cW dr)from by simp[Td]];exact h) (fun _ _=>rfl) (fun _ _=>rfl);obtain⟨A,C,e,h'⟩:=this;cases e;exact h'
theorem xA (x:wbm) (a:ax bR) (c:av) (b:ax bR) (d:av) (w:aj) (hx:ay w a c b d x) (a8:x.few):
  jW 107 #[cZ (ak a c b d x)] w (uZ w (if ae x then 0 else 8)):=by
 obtain⟨B,a4⟩: ∃B,B=ab (ae x):=⟨_,rfl⟩;obtain⟨EC,C⟩: ∃EC:ar,EC=if ae x then 0 else 8:=⟨_,rfl⟩;have Q:bG (EC=if B then 0 else 8):=by show _=_;rw[C,a4];simp
 rw[<-C];have R:=hI (a4.trans (Yk x));clear a4 C;obtain⟨a9,U,D,X⟩:=hx.S.vals;have b6:=a8.n;unfold ak;go_enter func107,ntmps107;go_upto_region 3 with fail;generalize E:cj _ _=W0;have K0:=hI (jG E)
 have F0:=hI (hx.below K0);have H7:=hI fun W (h:jb w W)=>hx.W.below xO h;have Y:=hI fun W (h:jb w W)=>U.below Ad h;have k:=hI X;have bx:=jA E
 have Z:=hI bx;clear E hx U X;rw[<-D]at bx;refine vF fun p0 p1 lp=>?_;clear bx;refine zD [] ?_;intro V M5;refine vM fun t0 t1 t2=>?_;have H0:=jh K0 M5;have q:=hI ((jm M5 Z));refine vk fun H1=>?_;refine zB [0,1,2,3,4] M5 ?_;clear p0 p1 lp t0 t1 t2;refine aS 5 ef ?_;refine Oo fun K hK=>?_;refine .inl ((WB x.wt b d V H1.W ed).mono ?_);rintro e V1 ⟨b0,c1,ws,rfl,hb,ho,F⟩;simp[go_sem];refine Qa fun x2 g=>?_;have l:=hI F;have D0:=jt M5 F;refine Ob ?_;clear hK K hb ho F M5;refine aS 6 ef ?_;refine Oo fun K hK=>?_;refine .inl ?_;have H:ws.length=x.wt.length:=by rw[g.o.len];simp
 refine Qq fun V2 G=>?_;have j:=jG G
 have r2:=jA G
 have K3:=jh H0 l;have K2:=jh K3 j;have f:=jt D0 j;refine hK _ _ (fun _=>f) ?_;clear G hK K D0;refine aS 7 ef ?_;refine Oo fun K hK=>?_;refine .inl ((WZ V1 a b0 c c1 a9 ws V2 (by rw[D];exact(Mu V2 _ 0 _ _ _ r2).trans rfl) (by rw[H];exact(Mu V2 _ 1 _ _ _ r2).trans rfl) (Y _ K2) ((Co UE).below Ad j) k.one g.one ed ed).mono ?_);rintro e V3 ⟨b1,c3,rfl,I,p⟩;obtain⟨L,hL⟩: ∃L,L=a9++ws:=⟨_,rfl⟩;rw[<-hL]at I ⊢;simp[go_sem];refine hK _ _ (fun _=>jt f p) ?_;clear hK K;refine zB [8] (jt f p) ?_;refine eI ef ?_ _;have K1:=jh K2 p;have H2:=hI (Co I);have s:=hI ((p.block _ (by have:=j.size;have:=aD q;have:=l.size;omega)).trans ((j.block _ (by have:=aD q;have:=l.size;omega)).trans ((jm l q))));have H3:bG (L.any Bk=(x.sc.map aq.length++x.wt.map fun y=>y.data.length).any fun n=>ab (n≠128)):=by rw[hL];exact(k.app g).odd
 have a5:L.length<=1200:=by rw[hL,DN];omega
 have H4:bG (Cp 184 #[] Bk L V3):=fun W i h b2=>by
  subst hL;obtain⟨b7,b8,e⟩:=(k.app g).get i h (by rw[<-(k.o.app g.o).len];exact h);rw[e];exact(Wx _ _ _ W).mono fun e w' ⟨h1,h2⟩=>⟨h1,by rw[h2];exact Nb _ _⟩
 clear I p r2 j x2 g l K3 K2 q H0 H1 Z Y k f;have a6:x.wt.length<=600:=ed
 clear H F0 a8 D hL;go_wp2_with fail;have C4:=hI (Xh 184 #[] Bk b1 c3 L V3 H2 a5 XZ H4);rw[H3.o]at C4;obtain⟨T1,a0⟩: ∃T,T=(x.sc.map aq.length++x.wt.map fun y=>y.data.length).any (fun n=>ab (n≠128)):=⟨_,rfl⟩;rw[<-a0]at C4 R;obtain⟨T2,J⟩: ∃T,T=(x.wt.map Wr.at_).any (fun n=>ab (¬(0<=n/\n<32))):=⟨_,rfl⟩;have H5:=hI J;rw[<-J]at R;clear a0 J H3 H4 H2;refine C4.mono ?_;refine vC fun V4 M K4=>?_;have r:=jm M s;have u:=hI r;obtain⟨q0,q1⟩:=DY r;have a7:=aD r;clear M r s C4 K1;go_wp2_with fail;refine vr (WF x.wt b d V4 (H7 _ K4) a6) fun V5 b3 c5 a1 N=>?_;have K5:=jh K4 N;have H6:=hI (Yy (by rw[TG,aq.map_map];exact a1));have v:=hI ((N.block _ a7).trans u);clear q0 q1 a7 a1 N u K4;have a2:(x.wt.map Wr.at_).length=x.wt.length:=ee
 have a3:(x.wt.map Wr.at_).length<=1200:=ed
 have A7:=hI (Xo 187 #[] (fun n=>ab (¬(0<=n/\n<32))) b3 c5 (x.wt.map Wr.at_) V5 H6 a3 Yc (fun W i h b2=>(Wz _ W).mono fun e w' ⟨h1,h2⟩=>⟨h1,by rw[h2];exact Nb _ _⟩));rw[<-H5.o,a2]at A7;clear H5 H6 a2 a3;go_wp2_with fail;refine A7.mono ?_;rintro e V6 ⟨rfl,O⟩;have K6:=jh K5 O;have P:=jm O v;obtain⟨q0,q1⟩:=DY P;have a7:=aD P;clear O P v A7 K5;obtain⟨T3,b4,z⟩: ∃T,((x.sc:ar) != 32)=T/\ab (x.sc.length≠32)=T:=⟨_,rfl,by rw[Dh];simp;omega⟩;obtain⟨T4,b5,A⟩: ∃T,ab ((256:ar)<(x.wt:ar))=T/\ab (256<x.wt.length)=T:=⟨_,rfl,by rw[Dh];simp;omega⟩;rw[z,A]at R;have HE:bG (EC=if !(T1 || T2 || T3 || T4)then 0 else 8):=by show _=_;rw[Q.o,R.o]
 clear z A R Q;cases T1<;>cases T2<;>cases T3<;>cases T4
 all_goals
  refine ei ?_;exact⟨ew,K6⟩
def fu {W:aj}(h:jk W g cs T) (o:av):W.frozen? ⟨g,o,bn⟩=aW:=by simp[aj.frozen?,h]
def cy:aq ar:=cr 128 0
def ck:wbm:=⟨cr 32 cy,[]⟩
def wbl (W:aj) (N:av) (vs:aq bw):Prop:= ∀v∈vs,∃g,v=cJ (bt ⟨g,0,bn⟩) 128 128/\N<=g/\jk W g (bC cy) 5
def wbl.below {W W':aj}(h:wbl W N V) (H:jb W W'):wbl W' N V:=fun v a=>by
 obtain⟨g,h1,h2,h3⟩:=h v a;exact⟨g,h1,h2,(H.block g (aD h3)).trans h3⟩
def EK {W:aj}{base n sz:av}{v:bw}(H:W.ownsRow base e sz v n xs) (a:g<base):v.ownBlock≠bt g:=fun e=>by
 rcases H.2 with⟨rfl,_⟩ | ⟨k,cap,cur,rfl,b,_⟩
 ·cases e
 have:k=g:=by simpa [bw.ownBlock]using e
 omega
def vd {W W':aj}{base n sz:av}{v:bw}{f:av × av}(a:W.ownsRow base e sz v n xs) (b:W.grownBy W' v.ownBlock) (c:T≠e) (h3:W.heap[g]? =bt (cO cs T f)):W'.heap[g]? =bt (cO cs T f):=by
 refine(b.block g (aD h3) fun e=> ?_).trans h3;rcases a.2 with⟨rfl,_⟩ | ⟨k,cap,cur,rfl,_,H,_⟩
 ·cases e
 have:k=g:=by simpa [bw.ownBlock]using e.symm
 subst this;rw[h3]at H;cases H;exact c rfl
def wbl.grown {W W':aj}{base n:av}{v:bw}(h:wbl W N V) (H:W.ownsRow base 22 1 v n xs) (a:W.grownBy W' v.ownBlock):wbl W' N V:=fun u b=>by
 obtain⟨g,h1,h2,h3⟩:=h u b;exact⟨g,h1,h2,vd H a eh h3⟩
def wbl.setCell {W:aj}(h:wbl W N V){a:bR}(b:a.block<N) (u:bw):wbl (W.setCell a u) N V:=fun v H=>by
 obtain⟨g,h1,h2,h3⟩:=h v H;exact⟨g,h1,h2,(Ny W a u g ed).trans h3⟩
def wbl.sl {W:aj}{base:av}{a:ax bR}{v:aq bw}(h:wbl W N v) (d:W.ownsRow base e 1 (js a v c) v v):aB W 1 br a c (cr v cy):=by
 have h1:=Co d;refine⟨by rw[aq.length_replicate];exact h1.le,h1.nil,fun i H=> ?_⟩;rw[aq.length_replicate]at H;obtain⟨b,off,e,f⟩:=h1.rv H;obtain⟨g,e2,-,h3⟩:=h v[i] (Nn H);refine⟨b,off,[v[i]],e,rfl,fun j hj=> ?_,bt ⟨g,0,bn⟩,128,?_,?_⟩
 ·obtain rfl:j=0:=by simpa using hj
  simpa using f
 ·rw[e2,aq.getElem_replicate];rfl
 rw[aq.getElem_replicate];exact OF eh h3
def cn (t:bT):aU:=t==84
def wbl.slM {W:aj}{base:av}{a:ax bR}(h:wbl W N V) (H:W.ownsRow base 22 1 (js a V c) V V):aB (jQ cn W) 1 br a c (cr V cy):=
 wbl.sl (N:=N) (fun v b=>by
  obtain⟨g,h1,h2,h3⟩:=h v b
  exact⟨g,h1,h2,zI h3 rfl⟩) (zH H rfl)
def EW (V:aj):Sem.run prog (Instr.makeSlice 22 (jV 128) (jV 128)) V= .ok (jq V 0 128 128) (V.alloc (cO (bC cy) 5)):=by kernel_rfl
def SE (w:aj):jW 103 #[] w fun e w'=> ∃a c,e=cL (cZ #[js a 32 c,jN])/\aB (jQ cn w') 1 br a c (cr 32 cy)/\jb w w':=by
 go_enter func103,ntmps103;go_wp2_with fail;go_loopg [1] 32 (fun g i wr=> ∃(k:av) (b:ax bR) (d:av) (n:aq bw),k<=32/\g=32-k/\i= jV k/\jk wr w #[js b k d,jN] 84/\n.length=k/\wr.ownsRow (w+1) 22 1 (js b k d) k n/\wbl wr (w+1) n/\jb w wr/\w.heap.size+1<=wr.heap.size)
 ·exact⟨0,bn,0,[],ed,ed,rfl,Nc _ _,rfl,Nw _ _ _ _,(fun v x=>by cases x),aR,ee⟩
 obtain⟨k,b,d,n,I,rfl,rfl,hb,q,ho,hz,B,F⟩:=hrel;refine Qa fun C G9=>?_;have D:=hI hz;have E:=hI B;have HRL:=hI q;clear ho hz B q;by_cases G:k<32
 ·have hd:ab ((k:ar)<32)=bl:=em;have p0:=ji 0 hb;have lp:=aD hb;clear hb;go_upto_region 3 with fail;refine zD [4] ?_;refine Vc fun V g9 t0 t2=>?_;refine zB [0,1] g9 ?_;refine aS 2 ef ?_;intro K hK;simp[wpOp,go_sem,EW];refine .inl ?_;refine Qq fun r j=>?_;have b1:=jG j;have r1:=jA j;have D0:=jt g9 b1;refine Ob ?_;clear hK K j t0 t2 p0 lp;refine aS 3 ef ?_;refine Oo fun K hK=>?_;refine .inl (hK _ _ (fun _=>D0.trans ((Nb r r).alloc (Mv _) _ |>.mono D0.size)) ?_);clear hK K;refine pG [4,5,6] ef ee ?_;refine oS ?_;have y:=hI ((jm D0 C));have f:=hI (bU G9 D0)
  have z:bG (wbl r (w+1) (n++[cJ (bt ⟨V,0,bn⟩) 128 128])):=fun v x=>by
   rcases Tx.1 x with h | h
   ·exact D.below D0 v h
   exact⟨V,uq,Uo,r1⟩
  have s:=jh E D0;have cV:=Nj F D0.size;clear g9 b1 r1 D0;go_wp2_with (at_builtin;refine nK rfl _ _ 81 22 22 _ 1 24 rfl underlying81 qx rfl eh eh (w+1) (js b k d) k _ rfl f ed cV [cJ (bt ⟨V,0,bn⟩) 128 128] rfl rfl Qj ?_;intro b8 c8 w8 l H;have HG8:=hI (vd (f.alloc _) H eh ((Nv _ _ ed).trans y));have q8:=(Mu w8 _ 0 _ _ _ HG8).trans rfl;have l8:=aD HG8;have f8:=fu HG8 0);have u:=(s.alloc s.size _).trans (dT (f.alloc _) ed em H);have A:=hI ((z.below ((Nb r r).alloc (Mv _) _)).grown (f.alloc _) H);go_roundg (32-(k+1))
  ·go_light;exact⟨k+1,bt ⟨b8,0,bn⟩,c8,_,ed,ed,ej,Xw,by rw[Mx,HRL.o];rfl,ownsRow_setCell_below l (Nx _) _,A.setCell (Nx _) _,u.setCell (Mv _) _,by simp;have:=u.size;omega⟩
  go_light;omega
 obtain rfl:k=32:=ed;have hd:ab (((32:av):ar)<32)=aW:=eh;go_wp2_with fail;refine Nh (v:=cZ #[js b 32 d,jN]) (Pb (p:=0) rfl _ _ w 84 _ (0,0) _ rfl C underlying84 rfl ef) rfl ?_;have h:=D.slM Ox;rw[HRL.o]at h;exact⟨b,d,rfl,h,E⟩
theorem SH (w:aj):jW 105 #[] w fun e w'=> ∃a c,e=cL (cZ #[js a 32 c,jN])/\aB (jQ cn w') 1 br a c (cr 32 cy)/\jb w w':=by
 go_enter func105,ntmps105;go_wp2_with fail;go_loopg [] 32 (fun g wr=> ∃(k:av) (b:ax bR) (d:av) (n:aq bw),k<=32/\g=32-k/\jk wr (w+1) #[js b k d,jN] 84/\n.length=k/\wr.ownsRow (w+2) 22 1 (js b k d) k n/\wbl wr (w+2) n/\jb w wr/\w.heap.size+2<=wr.heap.size/\jk wr w #[jN,jN] 84)
 ·exact⟨0,bn,0,[],ed,ed,Do _ _ _,rfl,Nw _ _ _ _,(fun v q=>by cases q),aR.alloc ee _,ee,(Nv _ _ ee).trans (Nc _ _)⟩
 obtain⟨k,b,d,n,y,rfl,hb,r,ho,hz,x,M,hr⟩:=hrel;have z:=hI hr;clear hr;refine Qa fun I A=>?_;have J:=hI hz;have L:=hI x;have i:=hI r;clear ho hz x r;by_cases N:k<32
 ·have hd:ab ((k:ar)<32)=bl:=em;have p0:=ji 0 hb;have lp:=aD hb;clear hb;refine vj ?_;refine zD [4] ?_;refine Vc fun V g9 t0 t2=>?_;refine zB [0,1] g9 ?_;refine aS 2 ef ?_;intro K hK;simp[wpOp,go_sem,EW];refine .inl ?_;refine Qq fun s j=>?_;have b1:=jG j;have r1:=jA j;have D0:=jt g9 b1;refine Ob ?_;clear hK K j t0 t2 p0 lp;refine aS 3 ef ?_;refine Oo fun K hK=>?_;refine .inl (hK _ _ (fun _=>D0.trans ((Nb s s).alloc (Mv _) _ |>.mono D0.size)) ?_);clear hK K;refine pG [4,5,6] ef ee ?_;refine oS ?_;have B:=hI ((jm D0 I));have C:=hI ((jm D0 z));have f:=hI (bU A D0)
  have D:bG (wbl s (w+2) (n++[cJ (bt ⟨V,0,bn⟩) 128 128])):=fun v q=>by
   rcases Tx.1 q with h | h
   ·exact J.below D0 v h
   exact⟨V,uq,Uo,r1⟩
  have u:=jh L D0;have cV:=Nj M D0.size;clear g9 b1 r1 D0;go_wp2_with (at_builtin;refine nK rfl _ _ 81 22 22 _ 1 24 rfl underlying81 qx rfl eh eh (w+2) (js b k d) k _ rfl f ed cV [cJ (bt ⟨V,0,bn⟩) 128 128] rfl rfl Qj ?_;intro b8 c8 w8 l H;have HG8:=hI (vd (f.alloc _) H eh ((Nv _ _ ed).trans B));have q8:=(Mu w8 _ 0 _ _ _ HG8).trans rfl;have l8:=aD HG8;have f8:=fu HG8 0);have E:=hI (vd (f.alloc _) H eh ((Nv _ _ ed).trans C));have F:=(u.alloc u.size _).trans (dT (f.alloc _) ed em H);have G:=hI ((D.below ((Nb s s).alloc (Mv _) _)).grown (f.alloc _) H);go_roundg (32-(k+1))
  ·go_light;exact⟨k+1,bt ⟨b8,0,bn⟩,c8,_,ed,ed,Xw,by rw[Mx,i.o];rfl,ownsRow_setCell_below l (Nx _) _,G.setCell (Nx _) _,F.setCell eF _,em,(Ny _ _ _ _ ee).trans E⟩
  go_light;omega
 obtain rfl:k=32:=ed;have hd:ab (((32:av):ar)<32)=aW:=eh;have p0:=ji 0 hb;have lp:=aD hb;clear hb;go_upto_region 4 with fail;go_wp2_with (first | (refine Dx rfl 84 (dk 1) rfl (w+1) rfl 84 _ (0,0) _ I underlying84 rfl ef ?_;simp[cq]) | (refine bP rfl 84 (dk 0) (dk 12) rfl w #[js b 32 d,jN] _ 84 rfl rfl z ef rfl Qj ?_))
 have hr:=Dp wr w _ #[js b 32 d,jN] _ _ z;have ho:aZ w wr (wr.setRow w #[js b 32 d,jN]):=⟨rfl,rfl,rfl,Qx,fun k y=>Nq _ _ _ _ y⟩;have x:jb w (wr.setRow w #[js b 32 d,jN]):=L.trans ⟨rfl,rfl,rfl,Qx,fun k y=>Nq _ _ _ _ ed⟩;refine Nh (v:=cZ #[js b 32 d,jN]) (Pb (p:=0) rfl _ _ w 84 _ (0,0) _ rfl hr underlying84 rfl ef) rfl ?_
 have hz:wbl (wr.setRow w #[js b 32 d,jN]) (w+2) n:=fun v q=>by
  obtain⟨g,h1,h2,h3⟩:=J v q;exact⟨g,h1,h2,(Nq _ _ _ _ ed).trans h3⟩
 have h:=hz.slM (by rw[i.o];exact ho.own A (EK A ed));rw[i.o]at h;exact⟨b,d,rfl,h,x⟩
def MD (t:bT):aU:=t==22 || t==237 || t==84 || t==161 || t==87
def zv (a:ax bR) (n c:av): ∀u∈[bw.slice a n c],u.oneCell'=bl:=Cn ⟨a,c,rfl⟩
def Av {W:aj}{base:av}{v:bw}{b:aq ar}(h:W.ownsRow base 5 1 v b (b.flatMap dR)):br (jQ MD W) [v] b:=by
 obtain⟨a,c,rfl,h1⟩:=kK (R:=dG) (zH (M:=MD) h rfl) (fun _ _=>rfl) fun _ _=>rfl;exact⟨a,c,rfl,h1⟩
def SX {W:aj}{v:bw}{b:aq ar}(h:br W [v] b): ∃a c,v=cJ a b c:=by
 obtain⟨a,c,e,-⟩:=h;exact⟨a,c,by simpa using e⟩
def xT {M:bT->aU}{W:aj}(b:jk W g Z T) (c:M T=bl):dS M W (W.setRow g C):=fun k cs t f H a=>by
 by_cases e:k=g
 ·subst e;rw[b]at H;cases H;rw[c]at a;cases a
 exact(Nq _ _ _ _ e).trans H
def cR.setRow {α:Type}{M:bT->aU}{W:aj}{base sz:av}{t:bT}{R:aj->aq bw->α->Prop}{v:bw}{l:aq α}{xss:aq (aq bw)}(h:cR M W base T sz R v l xss) (b:aY R) (a:jk W g Z t) (c:M t=bl) (H:t≠T):cR M (W.setRow g C) base T sz R v l xss:=
 ⟨mK h.own a H,h.len,h.sz,fun i h1 h2=>b _ _ _ _ (xT a c).ext (h.rd i h1 h2)⟩
def cR.base {α:Type}{M:bT->aU}{W:aj}{b B sz:av}{R:aj->aq bw->α->Prop}{v:bw}{l:aq α}{xss:aq (aq bw)}(h:cR M W b T sz R v l xss) (H:B<=b):cR M W B T sz R v l xss:=⟨bW h.own H,h.len,h.sz,h.rd⟩
def Bz (l:aq (aq ar)) (a:ax bR) (c:av) (w:aj) (hl:aB w 1 br a c l) (I:l.length<=600) (v: ∀i (h:i<l.length),l[i].length<=10000):
  jW 359 #[js a l c,.func (.func 60) #[] #[]] w fun e w'=> ∃x y xss,e=cL (js x l y)/\cR MD w' w 22 1 br (js x l y) l xss/\jb w w':=by
 have D:=hI fun W (hb:jb w W)=>hl.below xX hb;have E:=hI v;clear hl v;go_enter func359,ntmps359;go_wp2_with fail;go_loopg [4,9] l.length (fun g r i wr=> ∃(k:av) (B:ax bR) (d:av) (xss:aq (aq bw)),k<=l.length/\g=l.length-k/\r=cJ B k d/\i= jV k/\jb w wr/\cR MD wr w 22 1 br (js B k d) (l.take k) xss)
 ·exact⟨0,bn,0,[],ed,ed,rfl,rfl,Nb _ _,cR.nil⟩
 obtain⟨k,B,d,xss,J,rfl,rfl,rfl,hb,ho⟩:=hrel;refine Qa fun HB s=>?_;have J1:=hb.size;have HRL:bG (xss.length=k):=by show _=_;rw[ho.len,DL];omega
 clear hb ho;by_cases b:k<l.length
 ·have hd:ab ((k:ar)<(l:ar))=bl:=em;have c0:(0:ar)<=(k:ar):=ed;have C:(k:ar)<(l:ar):=ed;obtain⟨g,off,Y,F,rfl,x0,x1⟩:=(D wr HB).sc b;have L:=Mt x0;have G:=hI (UN Y F l[k] wr x1 (E k b));clear x1;go_wp2_with (first | (refine G.mono ?_;refine qc fun W1 v1 j M5=>?_;have z:=hI (Av j);obtain⟨A,C,t⟩: ∃A C,v1=cJ A l[k].length C:=SX z;subst t;have f:=hI (s.below an M5);have n:=hI eg;have p:=n.size;clear j M5) | (at_builtin;refine nK rfl _ _ 81 22 22 _ 1 24 rfl underlying81 qx rfl eh eh w (js B k d) k _ rfl (HRL.o ▸ f.o.own) ed p [cJ A l[k].length C] rfl rfl (zv _ _ _) ?_;intro b8 c8 w8 G9 H))
  have u:=(n.alloc p _).trans (dT (f.own.alloc _) (Mv _) em H);have q:=(f.below an aR).app an rfl rfl (an _ _ _ _ (dS.of_below ((Nb W1 W1).alloc (Mv _) _)).ext z) Ox H;rw[<-NZ b]at q;go_roundg (l.length-(k+1))
  ·go_light;exact⟨k+1,bt ⟨b8,0,bn⟩,c8,_,ed,ed,rfl,ej,u,q⟩
  go_light;omega
 obtain rfl:k=l.length:=ed;have hd:ab ((l:ar)<(l:ar))=aW:=ee;refine ei ?_;rw[PW]at s;exact⟨B,d,xss,rfl,s,HB⟩
def FA (x:Wr) (a:ax bR) (c:av) (w:aj) (hl:aB w 1 dG a c x.data) (d:x.data.length<=10000):
  jW 358 #[cZ #[x.at_,js a x.data c]] w fun e w'=> ∃v,e=cL (cZ #[x.at_,v])/\w'.ownsRow w 5 1 v x.data (x.data.flatMap dR)/\jb w w':=by
 have f:=hI fun W (M5:jb w W)=>UN a c x.data W (hl.below fS M5) d;clear hl d;go_enter func358,ntmps358;go_upto_region 1 with fail;have F0:bG (Fr w [(#[x.at_,js a x.data c],237),(#[jV 0,jN],237)] ((w.alloc (cO #[x.at_,js a x.data c] 237)).alloc (cO #[jV 0,jN] 237))):=((Fr.start w).alloc rfl _ _).alloc ee _ _;generalize cj _ _=W0 at *;have x0:jc W0 w 1 (js a x.data c):=jr (F0.row 0 _ rfl);have l0:=aD (F0.row 0 _ rfl);go_wp2_with fail;refine(f _ F0.bel).mono ?_;rintro e W1 ⟨v,rfl,H,M5⟩;refine vk fun F1=>?_;obtain⟨A,C,rfl⟩:=rR H;have g:=hI (bW H F0.sz);have r:W1.heap[w.heap.size]? =_:=F1.row 0 _ rfl;have x1:=ji 1 r;have l1:=aD r;have f1:=fu r 1;clear x0 l0 F0 H M5 f r;go_upto_region 2 with fail;have F:=hI (F1.set 0 rfl 1 (js A x.data C));have b:=hI (ownsRow_setCell_below (a:=⟨w+0,1,bn⟩) g ee (js A x.data C));generalize cd _ _ _=W2 at *;go_step;refine Dx rfl 237 (dk 1) rfl (w+0) rfl 237 _ (0,0) _ (F.row 0 _ rfl) underlying237 rfl ef ?_;simp[cq];refine bP rfl 237 (dk 2) (dk 7) rfl (w+1) _ _ 237 rfl rfl (F.row 1 _ rfl) ef rfl Qj ?_;go_wp2_with fail;have F3:=hI (F.setRow 1 rfl #[x.at_,js A x.data C]);refine Nh (v:=cZ #[x.at_,js A x.data C]) (Pb (p:=2) rfl _ _ (w+1) 237 _ (0,0) _ rfl (F3.row 1 _ rfl) underlying237 rfl ef) rfl ?_;exact⟨_,rfl,bW (mK b (F.row 1 _ rfl) eh) (av.le_add_right _ _),F3.bel⟩
def Aw {W:aj}{base:av}{v:bw}{x:Wr}(h:W.ownsRow base 5 1 v x.data (x.data.flatMap dR)):du (jQ MD W) [jV x.at_,v] x:=by
 obtain⟨a,c,e,h1⟩:=Av h;exact⟨a,c,by rw[show v=_ by simpa using e],h1⟩
def Ax:(prog.info? 237).map (fun i=>(i.zero,i.size,i.bytes))=bt (bt (cZ #[jV 0,jN]),2,32):=by kernel_rfl
def Ay (n:ar) (a:ax bR) (m c:av): ∀u∈[bw.int dr n,bw.slice a m c],u.oneCell'=bl:=by intro u H;simp at H;rcases H with rfl | rfl<;>rfl
def TD (l:aq Wr) (a:ax bR) (c:av) (w:aj) (hl:aB w 2 du a c l) (K:l.length<=600) (A: ∀i (h:i<l.length),l[i].data.length<=10000):
  jW 404 #[js a l c,.func (.func 358) #[] #[]] w fun e w'=> ∃C D xss,e=cL (js C l D)/\cR MD w' w 237 2 du (js C l D) l xss/\jb w w':=by
 have E:=hI fun W (hb:jb w W)=>hl.below xO hb;have F:=hI A;clear hl A;go_enter func404,ntmps404;go_wp2_with fail;go_loopg [4,9] l.length (fun g r i wr=> ∃(k:av) (B:ax bR) (d:av) (xss:aq (aq bw)),k<=l.length/\g=l.length-k/\r=cJ B k d/\i= jV k/\jb w wr/\cR MD wr w 237 2 du (js B k d) (l.take k) xss)
 ·exact⟨0,bn,0,[],ed,ed,rfl,rfl,Nb _ _,cR.nil⟩
 obtain⟨k,B,d,xss,M,rfl,rfl,rfl,hb,ho⟩:=hrel;refine Qa fun HB v=>?_;have J1:=hb.size;have HRL:bG (xss.length=k):=by show _=_;rw[ho.len,DL];omega
 clear hb ho;by_cases b:k<l.length
 ·have hd:ab ((k:ar)<(l:ar))=bl:=em;have c0:(0:ar)<=(k:ar):=ed;have c1:(k:ar)<(l:ar):=ed;obtain⟨g,off,Y,G,rfl,x0,x1,x2⟩:=(E wr HB).wr b;have L:=Mt x1;go_upto_region 4 with fail;generalize hWW:cj _ _=W1;refine KX fun M5 u _ _ _=>?_;have I:=hI (FA l[k] Y G W1 (x2.below fS M5) (F k b));have x:=hI (v.below dc M5);have p:=hI eg;have y:=p.size;clear hWW u x0 x1 x2 L M5;go_wp2_with (first | (go_at_call 358;refine I.mono ?_;refine qc fun W2 _ f j=>?_;obtain⟨a2,c2,rfl⟩:=rR f;have J:=hI (Aw f);have n:=hI (x.below dc j);have q:=hI (p.trans (j.mono y));have s:=q.size;clear j f) | (at_builtin;refine nK rfl _ _ 82 237 237 _ 2 32 rfl underlying82 Ax rfl eh eh w (js B k d) k _ rfl (HRL.o ▸ n.o.own) ed s [jV l[k].at_,cJ a2 l[k].data.length c2] rfl rfl (Ay _ _ _ _) ?_;intro b8 c8 w8 G9 H))
  have z:=(q.alloc s _).trans (dT (n.own.alloc _) (Mv _) em H);have t:=(n.below dc aR).app dc rfl rfl (dc _ _ _ _ (dS.of_below ((Nb W2 W2).alloc (Mv _) _)).ext J) Ox H;rw[<-NZ b]at t;go_roundg (l.length-(k+1))
  ·go_light;exact⟨k+1,bt ⟨b8,0,bn⟩,c8,_,ed,ed,rfl,ej,z,t⟩
  go_light;omega
 obtain rfl:k=l.length:=ed;have hd:ab ((l:ar)<(l:ar))=aW:=ee;refine ei ?_;rw[PW]at v;exact⟨B,d,xss,rfl,v,HB⟩
def TX (x:wbm) (a:ax bR) (c:av) (b:ax bR) (d:av) (w:aj) (hx:ay w a c b d x) (hs:ae x):
  jW 357 #[cZ (ak a c b d x)] w fun e w'=> ∃D E G I xss y,e=cL (cZ (ak D E G I x))/\cR MD w' w 22 1 br (js D x.sc E) x.sc xss/\cR MD w' w 237 2 du (js G x.wt I) x.wt y/\jb w w':=by
 refine uc fun J=>?_;have N:x.sc.length<=600:=by have:=hs.1;omega
 have O:x.wt.length<=600:=ZK
 have L:=hI hs;clear hx hs;unfold ak;go_enter func357,ntmps357;go_upto_region 1 with fail;have r:bG (Fr w [(#[js a x.sc c,js b x.wt d],84),(#[jN,jN],84)] ((w.alloc (cO #[js a x.sc c,js b x.wt d] 84)).alloc (cO #[jN,jN] 84))):=((Fr.start w).alloc rfl _ _).alloc ee _ _;generalize cj _ _=W0 at *;have bx:W0.heap[w.heap.size]? =_:=r.row 0 _ rfl;refine vF fun p0 p1 lp=>?_;clear bx;refine zD [7] ?_;intro V hV;refine vM fun t0 t1 t2=>?_;refine zB [0,1,3,4] hV ?_;clear p0 p1 lp t0 t1 t2;have F:=hI (r.below hV);have f:=Bz x.sc a c V (J V F.bel).S ed (fun i h=>by rw[L.o.2.2.1 _ (Nn h)];decide);refine aS 2 ef ?_;refine Oo fun K hK=>?_;refine .inl (f.mono ?_);clear f;rintro e V1 ⟨A,C,xss,rfl,g,M5⟩;simp[go_sem];have j:=hI g;have n:=hI (F.below M5);refine uF fun h1=>?_;have f:=TD x.wt b d V1 (J V1 n.bel).W ed (fun i h=>by rw[(L.o.2.2.2 _ (Nn h)).2.2];decide);clear hK K;refine aS 5 ef ?_;refine Oo fun K hK=>?_;refine .inl (f.mono ?_);clear f;rintro e V2 ⟨s,u,y,rfl,k,H⟩;simp[go_sem];have q:=hI (n.below H);have z:=hI k;have B:=hI (j.below an H);refine hK _ _ (fun _=>jt h1 H) ?_;refine zB [6] (jt h1 H) ?_;clear hK K hV g M5 k h1;have l:=F.sz;have M:=n.sz;clear r F n j;refine pG [7] ef ee ?_;refine oS ?_;go_wp2_with (refine bP rfl 84 (dk 2) (dk 9) rfl (w+1) _ _ 84 rfl rfl (q.row 1 _ rfl) ef rfl Qj ?_);have F3:=hI (q.setRow 1 rfl #[js A x.sc C,js s x.wt u]);refine Nh (v:=cZ #[js A x.sc C,js s x.wt u]) (Pb (p:=2) rfl _ _ (w+1) 84 _ (0,0) _ rfl (F3.row 1 _ rfl) underlying84 rfl ef) rfl ?_;exact⟨A,C,s,u,xss,y,rfl,(B.setRow an (q.row 1 _ rfl) eh eh).base (by have:=l;omega),(z.setRow dc (q.row 1 _ rfl) eh eh).base (by have:=l;omega),F3.bel⟩
def FM (x:wbm) (is:aU) (a:ax bR) (c:av) (b:ax bR) (d:av) (w:aj) (hx:ay w a c b d x) (g:x.few):
  jW 354 #[cZ (ak a c b d x),db is] w (uZ w (if ae x then if is then 0 else 2 else 8)):=by
 have f:=hI fun W h=>xA x a c b d W (hx.below h) g;clear hx g;obtain⟨m,r,i,hr,k⟩: ∃m r:ar,(if ae x then 0 else 8)=m/\(if ae x then if is then 0 else 2 else 8)=r/\(m=8/\r=8\/m=0/\is=aW/\r=2\/m=0/\is=bl/\r=0):=⟨_,_,rfl,rfl,by by_cases h:ae x<;>cases is<;>simp[h]⟩;rw[i]at f;rw[hr];clear i hr;unfold ak at *;go_enter func354,ntmps354;go_upto_region 1 with fail;generalize H:cj _ _=W0;have K:=hI (jG H)
 have B:=jA H
 clear H;go_step;refine Dx rfl 84 (dk 2) rfl w rfl 84 _ (0,0) _ B underlying84 rfl ef ?_;simp[cq];clear B;go_wp2_with fail;refine oG (f _ K) fun _ j=>?_;have K1:=jh K j;clear j K f;rcases k with⟨rfl,rfl⟩ | ⟨rfl,rfl,rfl⟩ | ⟨rfl,rfl,rfl⟩
 all_goals
  refine ei ?_;exact⟨rfl,K1⟩
section
open Go.RowKit Go.Shelf Tryz
attribute [local go_sem] Oper.semAt_some
theorem FW {a:Act}{w:aj}{V:Operand}{g:aL Tmp}{assign body:Code}(F N:av) (hF:mD F) (c:aL bw) (args:av->aL bw)
  (Y:a.eval V= .func (.func F) #[] c) (n: ∀k,(args k).size=g.size) (I:av->aj->Prop)
  (q: ∀(l:av) (J:av->aj->Prop),(∀k W,J k W->I k W)->(∀k W W',J k W->jb W W'->J k W')->(∀k W,k<N->J k W->YieldAt Fence.wide 1 prog l (args k) W (fun e W'=>e=cL (db bl)/\J (k+1) W'))-> ∀W,J 0 W->CallsIn Fence.wide 2 prog F (#[.func (.yield l) #[] #[]]++c) W fun e W'=>(∃v,e=cL v)/\J N W')
  (r: ∀k W W',I k W->jb W W'->I k W')
  (b: ∀k W l o o',w.heap.size<=l->W.heap[l]? =bt o->o.isCells=aW->I k W->I k (W.putObj l o'))
  (h0: ∀o o',I 0 ((w.alloc o).alloc o')) (X:av->Act)
  (hassign: ∀(l k:av) (W:aj) (K:Act->aj->Prop),K (X k) W->
   assign.wpIn (Fence.wide.inRound l) 1 prog (Exit.then K (fun _ _ _=>False)) {tmps:=(g.zip (args k)).foldl (fun t (p,v)=>t.setIfInBounds p v) a.tmps,defers:=[]} W)
  (d: ∀(l k:av) (W:aj),k<N->I k W->body.wpIn (Fence.wide.inRound l) 1 prog (IK w (I (k+1)) W) (X k) W)
  (f: ∀(D:av) (W:aj),w.heap.size<=D->I N W->W.heap[D]? =bt (.deferred (bt []))->Q .normal {a with defers:={target:= .collected D,args:=#[]}::a.defers} W):
  (Code.rangeFunc V g assign body).wpIn Fence.wide 3 prog Q a w:=by
 refine wpIn_rangeFunc ?_;intro fn hfn;have s:Fence.wide.round=bn:=rfl;rw[s];generalize u:w.heap.size=B at *;obtain⟨R,hR⟩: ∃R:LoopState->Loop,R=fun st=>{state:=st,pending:=bn,fn,tmps:=a.tmps,params:=g,assign,body,defers:=B}:=⟨_,rfl⟩;have H:=run_enterLoop_outer (P:=prog) (w:=w) fn a.tmps g assign body;rw[u]at H
 have x:((w.alloc (.deferred (bt []))).alloc (.loop (R .ready))).heap[B+1]? =bt (.loop (R .ready)):=by
  have:=aj.alloc_heap_new (w.alloc (.deferred (bt []))) (.loop (R .ready))
  rwa [Pv,u]at this
 have y:((w.alloc (.deferred (bt []))).alloc (.loop (R .ready))).heap[B]? =bt (.deferred (bt [])):=by
  refine(cB.heap_alloc _ _ _ em).trans ?_;have:=aj.alloc_heap_new w (.deferred (bt []))
  rwa [u]at this
 have hz:=h0 (.deferred (bt [])) (.loop (R .ready));generalize z:(w.alloc (.deferred (bt []))).alloc (.loop (R .ready))=j at *
 refine⟨B+1,[{target:= .collected B,args:=#[]}],j,{target:= .fn (.func F) c,args:=#[.func (.yield (B+1)) #[] #[]]},j,F,
  #[.func (.yield (B+1)) #[] #[]]++c,j,?_,?_,fun _ _=>Py,?_,fun h=>(nomatch h),?_⟩
 ·rw[H,<-z,hR]
 ·simp only[resolve,Y];simp[go_sem]
 ·simp[invoke,go_sem];exact hF _ _
 refine(q (B+1) (fun k W=>I k W/\W.heap[B+1]? =bt (.loop (R .ready))/\W.heap[B]? =bt (.deferred (bt []))) (fun k W h=>h.1) (fun k W W' h A=>⟨r k W W' h.1 A,(A.block _ (aL.getElem?_eq_some_iff.1 h.2.1).1).trans h.2.1,(A.block _ (aL.getElem?_eq_some_iff.1 h.2.2).1).trans h.2.2⟩) ?_ j ⟨hz,x,y⟩).mono ?_
 ·rintro k W C ⟨Z,hl,hd⟩;have G9:=(aL.getElem?_eq_some_iff.1 hl).1;have hy:=run_yield (P:=prog) (args:=args k) hl (by rw[hR];exact n k);rw[hR]at hy;refine YK fun E=>?_;have G:(W.putObj (B+1) (.loop {R .ready with state:= .busy})).heap[B]? =bt (.deferred (bt [])):=(aj.putObj_heap_other ed).trans hd;refine wpIn_mono (d _ k _ C (b k W _ _ _ ed hl rfl Z)) ?_;rintro e a3 W3 hp;cases e with
  | normal=>
   obtain⟨i,L⟩:=hp;have hl3:=i.same _ _ ed E rfl;have M:=i.same _ _ (Mv _) G rfl;have he:=run_endRound (P:=prog) bn hl3;have O:=b (k+1) W3 _ _ (.loop (R .ready)) ed hl3 rfl L;refine Ma fun T=>?_;have U:(W3.putObj (B+1) (.loop (R .ready))).heap[B]? =bt (.deferred (bt [])):=(aj.putObj_heap_other ed).trans M;exact⟨db bl,W3.putObj (B+1) (.loop (R .ready)),by rw[he,hR];rfl,rfl,O,T,U⟩
  | ret=>exact hp.elim
  | exit id=>exact hp.elim
  | goto t=>exact hp.elim
  | panic a1=>exact hp.elim
  | outgrown=>exact hp.elim
 rintro e W2 ⟨⟨v,rfl⟩,a0,hl,hd⟩;refine⟨bn,_,by have:=run_endLoop (P:=prog) hl Eg;rw[hR]at this;exact this,?_⟩;exact f B _ (Mv _) (b N _ _ _ _ ed hl rfl a0) ((aj.putObj_heap_other ed).trans hd)
end
def bF (s:aq (aq ar)) (l:aq Wr):aq (aq ar):=l.foldl (fun s y=>s.set y.at_.toNat y.data) s
def Az (x:wbm):wbm:=⟨bF x.sc x.wt,[]⟩
def wS: ∀(l:aq Wr) (s:aq (aq ar)),(bF s l).length=s.length
 | [],_=>rfl
 | y::l,s=>(wS l _).trans aq.length_set
def FZ: ∀(l:aq Wr) (s:aq (aq ar)),(∀b∈s,b.length=128)->(∀y∈l,y.data.length=128)-> ∀b∈bF s l,b.length=128
 | [],_,h,_=>h
 | y::l,s,h,hl=>FZ l (s.set y.at_.toNat y.data) (fun b H=>by
   rcases Ti H with h1 | rfl
   ·exact h b h1
   exact hl y PI) fun z hz=>hl z (PN _ hz)
def Ue (s:aq (aq ar)) (l:aq Wr) (y:Wr):bF s (l++[y])=(bF s l).set y.at_.toNat y.data:=by
 unfold bF;rw[aq.foldl_append];rfl
def Ba {x:wbm}(h:ae x):ae (Az x):=⟨(wS _ _).trans h.1,by simp[Az],FZ _ _ h.2.2.1 fun y H=>(h.2.2.2 y H).2.2,fun y H=>by cases H⟩
def iu {α:Type}{l:aq α}{d:α}(h:i<l.length):l.getD i d=l[i]:=by simp[aq.getD,h]
def fe (s:aq (aq ar)) (l:aq Wr) (n i:av):ar:=l.foldl (fun o y=>if y.at_=(n:ar)then y.data.getD i 0 else o) ((s.getD n []).getD i 0)
def Ug (s:aq (aq ar)) (l:aq Wr) (y:Wr) (n i:av):fe s (l++[y]) n i=if y.at_=(n:ar)then y.data.getD i 0 else fe s l n i:=by
 unfold fe;rw[aq.foldl_append];rfl
def GD: ∀(l:aq Wr) (s:aq (aq ar)) (n i:av),n<s.length->(∀y∈l,0<=y.at_)->fe s l n i=((bF s l).getD n []).getD i 0
 | [],s,n,i,_,_=>rfl
 | y::l,s,n,i,hn,hy=>by
  have h1:=GD l (s.set y.at_.toNat y.data) n i (by simpa using hn) (fun z hz=>hy z (PN _ hz));have h0:=hy y PI
  have e:fe s (y::l) n i=fe (s.set y.at_.toNat y.data) l n i:=by
   unfold fe;rw[aq.foldl_cons]
   congr 1
   by_cases h:y.at_=(n:ar)
   ·rw[Np h,show y.at_.toNat=n by omega];simp[aq.getD,hn]
   rw[Nm h];simp[aq.getD,aq.getElem?_set,show y.at_.toNat≠n by omega]
  rw[e,h1];rfl
def Us {s:aq (aq ar)}{l:aq Wr}{n:av}(H:n<s.length) (hl: ∀y∈l,0<=y.at_) (h:((bF s l).getD n []).length=128):(aq.range 128).map (fe s l n)=(bF s l).getD n []:=by
 refine Sf (by rw[Pn,Gy];exact h.symm) fun i h1 h2=> ?_;rw[Gg,aq.getElem_range,GD l s n i H hl];exact iu h2
def BH (crc:aq ar->ar) (g:ar) (t:aq ar):aq ar:=aw 4 (crc (aw 4 g++(aw 2 t++t)))++(aw 2 t++t)
def ii (b:aq ar):av:=(b.length+117) / 118
def kg (b:aq ar) (i:av):aq ar:=(b.drop (118 * i)).take 118
def nm (g:ar) (b:aq ar) (n i:av):aq ar:=aw 4 g++[(i:ar),(n:ar)]++kg b i++cr (118-(kg b i).length) 0++aw 4 g
def bm (g:ar) (b:aq ar):aq (aq ar):=(aq.range (ii b)).map (nm g b (ii b))
def da (n:ar):aq av:=46::(aw 8 (n % 18446744073709551616)).map ar.toNat
def ve (n:ar):(da n).length=9:=by simp[da,cw]
def BV: ∀(k:av) (n:ar),0<=n->n<256 ^ k->de (aw k n)=n
 | 0,n,h0,h1=>by simp at h1;simp[de,aw];omega
 | k+1,n,h0,h1=>by
  have e:de (aw (k+1) n)=256 * de (aw k (n / 256))+n % 256:=rfl;rw[ar.pow_succ]at h1;rw[e,BV k (n / 256) ed ed];omega
def Aa: ∀(k:av) (n:ar),∀b∈aw k n,0<=b/\b<256
 | 0,_=>by simp[aw]
 | k+1,n=>by
  intro b H;rcases Dv.1 H with rfl | h
  ·omega
  exact Aa k _ b h
def BZ: ∀(l m:aq ar),(∀b∈l,0<=b)->(∀b∈m,0<=b)->l.map ar.toNat=m.map ar.toNat->l=m
 | [],[],_,_,_=>rfl
 | [],_::_,_,_,h=>by simp at h
 | _::_,[],_,_,h=>by simp at h
 | a::l,b::m,h1,h2,h=>by
  simp only[Hu,Il]at h;have h3:=h1 a Dq;have h4:=h2 b Dq;rw[show a=b by omega,BZ l m (fun x hx=>h1 x (Dy _ hx)) (fun x hx=>h2 x (Dy _ hx)) h.2]
def GW {m n:ar}(h:da m=da n):m % 18446744073709551616=n % 18446744073709551616:=by
 have h1:=BZ _ _ (fun b H=>(Aa _ _ b H).1) (fun b H=>(Aa _ _ b H).1) (aq.cons.inj h).2;have h2:=Tc de h1
 rwa [BV 8 _ ed ed,BV 8 _ ed ed]at h2
def dx (b:aq ar):aq av:=da b++b.map ar.toNat
def ik (y:Wr):aq av:=da y.at_++dx y.data
def rj (x:wbm):aq av:=x.sc.flatMap dx++(124::x.wt.flatMap ik)
def Hn {a b s:aq av}(H:a.length=9) (c:b.length=9) (h:a++r=b++s):a=b/\r=s:=aq.append_inj h (H.trans c.symm)
def xU (b:aq ar):Prop:=b.length<9223372036854775807/\ ∀c∈b,0<=c
def Hw {b c:aq ar}{s:aq av}(H:xU b) (a:xU c) (h:dx b++r=dx c++s):b=c/\r=s:=by
 unfold dx at h;rw[Dk,Dk]at h;obtain⟨h1,h2⟩:=Hn (ve _) (ve _) h;have h3:=GW h1;have hl:b.length=c.length:=by have:=H.1;have:=a.1;omega
 obtain⟨h4,h5⟩:=aq.append_inj h2 (by simpa using hl);exact⟨BZ _ _ H.2 a.2 h4,h5⟩
def Iu: ∀(l m:aq (aq ar)) (r s:aq av),(∀b∈l,xU b)->(∀b∈m,xU b)->l.length=m.length->l.flatMap dx++r=m.flatMap dx++s->l=m/\r=s
 | [],[],r,s,_,_,_,h=>⟨rfl,h⟩
 | a::l,b::m,r,s,h1,h2,hl,h=>by
  rw[SL,SL,PU,PU]at h;obtain⟨e1,h3⟩:=Hw (h1 a PI) (h2 b PI) h;obtain⟨e2,e3⟩:=Iu l m r s (fun x hx=>h1 x (PN _ hx)) (fun x hx=>h2 x (PN _ hx)) (by simpa using hl) h3;exact⟨by rw[e1,e2],e3⟩
 | [],_::_,_,_,_,_,hl,_=>by simp at hl
 | _::_,[],_,_,_,_,hl,_=>by simp at hl
def Ca (y:Wr):Prop:=(-9223372036854775808<=y.at_/\y.at_<=9223372036854775807)/\xU y.data
def Iv: ∀(l m:aq Wr),(∀b∈l,Ca b)->(∀b∈m,Ca b)->l.length=m.length->l.flatMap ik=m.flatMap ik->l=m
 | [],[],_,_,_,_=>rfl
 | ⟨a,ad⟩::l,⟨b,bd⟩::m,h1,h2,hl,h=>by
  rw[Sb,Sb]at h;unfold ik at h;rw[Dk,Dk]at h;obtain⟨e0,h3⟩:=Hn (ve _) (ve _) h;have k1:=h1 _ Dq;have k2:=h2 _ Dq;obtain⟨e1,h4⟩:=Hw k1.2 k2.2 h3;have e5:a=b:=by have:=GW e0;have:=k1.1;have:=k2.1;simp only at *;omega
  simp only at e1;rw[e5,e1,Iv l m (fun x hx=>h1 x (Dy _ hx)) (fun x hx=>h2 x (Dy _ hx)) (by simpa using hl) h4]
 | [],_::_,_,_,hl,_=>by simp at hl
 | _::_,[],_,_,hl,_=>by simp at hl
structure wbm.Byt (x:wbm):Prop where
 s: ∀b∈x.sc,xU b
 w: ∀y∈x.wt,Ca y
def Ut {x y:wbm}(hx:x.Byt) (H:y.Byt) (h1:x.sc.length=y.sc.length) (h2:x.wt.length=y.wt.length):rj x=rj y↔x=y:=by
 constructor
 ·intro h;obtain⟨e1,e2⟩:=Iu _ _ _ _ hx.s H.s h1 h;have e3:=Iv _ _ hx.w H.w h2 (aq.cons.inj e2).2;cases x;cases y;simp only at e1 e3;rw[e1,e3]
 rintro rfl;rfl
def aB.by {w:aj}{a:ax bR}{l:aq ar}(h:aB w 1 dG a c l)(d:i<l.length): ∃g off,a=bt ⟨g,off,bn⟩/\jc w g (off+i) (cW .u8 l[i]):=by
 obtain⟨g,off,v,e,f,H,b⟩:=h.at_ i d;cases b;exact⟨g,off,e,by have:=H 0 ee;simpa using this⟩
def Uw (x:wbm) (a:ax bR) (c:av) (b:ax bR) (d n i:av) (w:aj) (hx:ay w a c b d x) (hs:ae x) (z:n<32) (t:i<128):
  jW 408 #[cZ (ak a c b d x),jN,jV (n:ar),jV (i:ar)] w fun e w'=>e=cL (cW .u8 (fe x.sc x.wt n i))/\jb w w':=by
 have F:x.sc.length<=600:=by have:=hs.1;omega
 have G:x.wt.length<=600:=ZK
 have B:=hI hs;have l:n<x.sc.length:=by rw[hs.1];exact z
 have r:x.sc[n].length=128:=hs.2.2.1 _ (Nn _);clear hs;unfold ak;go_enter func408,ntmps408;go_upto_region 1 with fail;generalize H:cj _ _=W0;have K0:=hI (jG H)
 have u:=hI (hx.below K0);have bx:=jA H
 clear H hx;refine vF fun _ _ _=>?_;clear bx;obtain⟨g,off,Y,C,rfl,pp0,y1⟩:=u.S.sc l;obtain⟨g2,O,rfl,y0⟩:=y1.by (i:=i) ed;refine Om fun v L=>?_;have c0:(0:ar)<=(n:ar):=ed
 have c1:(n:ar)<(x.sc:ar):=ed
 have c2:(0:ar)<=(i:ar):=ed
 have c3:(i:ar)<(x.sc[n].length:ar):=ed
 have HV:bG (x.sc[n][i]=fe x.sc (x.wt.take 0) n i):=by show _=_;simp[fe,aq.getD,l,r,t]
 generalize x.sc[n][i]=V0 at *;clear y1;go_upto_region 2 with fail;clear pp0 y0 v L c1 c3;go_upto_region 3 with fail;go_loopg [9,10] x.wt.length (fun g o j wr=> ∃k:av,k<=x.wt.length/\g=x.wt.length-k/\o=cW .u8 (fe x.sc (x.wt.take k) n i)/\j= jV k/\wr=W0)
 ·exact⟨0,ed,ed,Oi,rfl,rfl⟩
 obtain⟨k,J,rfl,rfl,rfl,p⟩:=hrel;obtain rfl:=p.symm;clear p;by_cases f:k<x.wt.length
 ·have hd:ab ((k:ar)<(x.wt:ar))=bl:=em;obtain⟨g,off,Y,C,rfl,z0,z1,z2⟩:=u.W.wr f;have y:=B.2.2.2 _ (Nn f);have s:=y.2.2;obtain⟨g2,O,rfl,z3⟩:=z2.by (i:=i) ed;have v:=Mt z0;have D:=Mt z1;have L:=Mt z3;have d0:(0:ar)<=(k:ar):=ed;have d1:(k:ar)<(x.wt:ar):=ed;have d3:(i:ar)<(x.wt[k].data.length:ar):=by omega
  have q:bG (fe x.sc (x.wt.take (k+1)) n i=if x.wt[k].at_=(n:ar)then x.wt[k].data[i]else fe x.sc (x.wt.take k) n i):=by
   show _=_;rw[Dc f,Ug];simp[aq.getD,s,t]
  clear z2 y;by_cases he:x.wt[k].at_=(n:ar)
  ·have E:(x.wt[k].at_==(n:ar))=bl:=(by simp[he]);rw[Np he]at q;generalize x.wt[k].at_=A at *;go_wp2_with fail;go_roundg (x.wt.length-(k+1))
   ·go_light;exact⟨k+1,ed,ed,by rw[q.o],ej,rfl⟩
   go_light;omega
  have E:(x.wt[k].at_==(n:ar))=aW:=(by simp[he]);rw[Nm he]at q;generalize x.wt[k].at_=A at *;go_wp2_with fail;go_roundg (x.wt.length-(k+1))
  ·go_light;exact⟨k+1,ed,ed,by rw[q.o],ej,rfl⟩
  go_light;omega
 obtain rfl:k=x.wt.length:=ed;have hd:ab ((x.wt:ar)<(x.wt:ar))=aW:=ee;refine ei ?_;exact⟨by rw[Ph];rfl,K0⟩
def UU {x:wbm}(H:ae x){n:av}(a:n<32):((bF x.sc x.wt).getD n []).length=128/\(aq.range 128).map (fe x.sc x.wt n)=(bF x.sc x.wt).getD n []:=by
 have h1:n<(bF x.sc x.wt).length:=by rw[wS,H.1];exact a
 have h2:((bF x.sc x.wt).getD n []).length=128:=by
  rw[iu h1];exact(Ba H).2.2.1 _ (Nn _)
 exact⟨h2,Us (by rw[H.1];exact a) (fun y b=>(H.2.2.2 y b).1) h2⟩
def Iw (x:wbm) (a:ax bR) (c:av) (b:ax bR) (d n:av) (w:aj) (hx:ay w a c b d x) (hb:ae x) (F:n<32):
  jW 368 #[cZ (ak a c b d x),jN,jV (n:ar)] w fun e w'=> ∃G I,e=cL (js G 128 I)/\w'.ownsRow w 5 1 (js G 128 I) 128 (((bF x.sc x.wt).getD n []).flatMap dR)/\jb w w':=by
 obtain⟨ho,j⟩:=UU hb F;generalize(bF x.sc x.wt).getD n []=R at *
 have P:bG (∀k (h:k<R.length),R[k]=fe x.sc x.wt n k):=fun k h=>by
  have:R[k]=((aq.range 128).map (fe x.sc x.wt n))[k]'(by rw[j];exact h):=by simp only[j]
  rw[this];simp
 clear j;refine uc fun Q=>?_;refine Qa fun T HRL=>?_;clear hx hb ho;unfold ak;go_enter func368,ntmps368;go_upto_region 2 with fail;generalize hW:cj _ _=W0;have K0:=hI (jG hW)
 have J:=jA hW
 have hz:w.heap.size+1<=W0.heap.size:=Qc
 have t:=hI J;clear hW J;refine vj ?_;go_loopg [7,8] 128 (fun g r i wr=> ∃(k:av) (B:ax bR) (D:av),k<=128/\g=128-k/\r=cJ B k D/\i= jV k/\jb w wr/\wr.ownsRow (w+1) 5 1 (js B k D) k ((R.take k).flatMap dR)/\jk wr w #[js a x.sc c,js b x.wt d] 84/\w.heap.size+1<=wr.heap.size)
 ·exact⟨0,bn,0,ed,ed,rfl,rfl,K0,Nw _ _ _ _,t,hz⟩
 obtain⟨k,B,D,a0,rfl,rfl,rfl,K,L,bx,u⟩:=hrel;have v:=hI K;have M:=hI L;have U:=hI bx;clear K L;by_cases G9:k<128
 ·have hd:ab ((k:ar)<128)=bl:=em;refine vF fun _ _ X=>?_;clear bx;have N:=hI (Uw x a c b d n k wr (Q _ v) T F G9);unfold ak at N;have Y:=hI (P k Ox);have Z:bG (R.take (k+1)=R.take k++[fe x.sc x.wt n k]):=(by show _=_;rw[Dc Ox,Y.o]);generalize fe x.sc x.wt n k=V at *;go_wp2_with (first | (go_at_call 408;refine N.mono ?_;rintro e W1 ⟨rfl,H⟩;have l:=hI (bU M H);have y:=hI (v.trans (H.mono ed));have z:=hI ((H.block _ X).trans U);have q:=Nj u H.size;clear H) | (at_builtin;refine nK rfl _ _ 22 5 5 _ 1 1 rfl underlying22 nD rfl eh eh (w+1) (js B k D) k _ rfl l ed q [cW .u8 V] rfl rfl (tY _) ?_;intro b8 c8 w8 p f))
  have A:=(y.alloc ed _).trans (dT (l.alloc _) ed em f)
  have C:w8.ownsRow (w+1) 5 1 (jq b8 0 (k+1) c8) (k+1) ((R.take (k+1)).flatMap dR):=by
   rw[Z.o,Dg];exact p
  have s:=vd (l.alloc _) f eh ((Nv _ _ q).trans z);have E:w.heap.size+1<=w8.heap.size:=aD s;go_roundg (128-(k+1))
  ·go_light;exact⟨k+1,bt ⟨b8,0,bn⟩,c8,ed,ed,rfl,ej,A,C,s,E⟩
  go_light;omega
 obtain rfl:k=128:=ed;have hd:ab (((128:av):ar)<128)=aW:=eh;clear bx;refine ei ?_;have O:=M.o;rw[Sk (by rw[HRL.o];exact Mv _)]at O;exact⟨B,D,rfl,bW O eF,v⟩
def Ix (x:wbm) (a:ax bR) (c:av) (b:ax bR) (d n:av) (w:aj) (hx:ay w a c b d x) (g:ae x) (j:n<32):
  jW 363 #[cZ (ak a c b d x),jV (n:ar)] w fun e w'=> ∃A C,e=cL (js A 128 C)/\w'.ownsRow w 5 1 (js A 128 C) 128 (((bF x.sc x.wt).getD n []).flatMap dR)/\jb w w':=by
 refine uc fun k=>?_;have l:=hI g;clear hx g;unfold ak;go_enter func363,ntmps363;go_upto_region 1 with fail;generalize hW:cj _ _=W0;have K0:=hI (jG hW)
 have bx:=jA hW
 have hz:w.heap.size+1<=W0.heap.size:=Qc
 refine vF fun _ _ _=>?_;clear hW bx;have i:=hI (Iw x a c b d n W0 (k _ K0) l j);unfold ak at i;go_wp2_with (go_at_call 368;refine i.mono ?_;rintro e W1 ⟨a1,c1,rfl,H,f⟩);go_ret;exact⟨a1,c1,rfl,bW H ed,K0.trans (f.mono ed)⟩
def Bu {α:Type}{W:aj}{T sz:av}{R:aj->aq bw->α->Prop}{f:α->aq bw}{v:bw}{l:aq α}(H: ∀w a x,R w a x->a=f x) (h:pY W N T sz R v l):W.ownsRow N T sz v l (l.flatMap f):=by
 obtain⟨xss,h1,h2,h3,h4⟩:=h
 have e:xss=l.map f:=Sf (by simp[h2]) fun i b hi=>by
  rw[Gg];exact H _ _ _ (h4 i b Og)
 rw[e]at h1
 simpa [aq.flatMap_map,Function.comp_def]using h1
def OW {W:aj}{base:av}{v:bw}{b:aq ar}{S:av->aU}(h:W.ownsRow base 5 1 v b (b.flatMap dR)) (H: ∀k,base<=k->S k=aW):br (bK S W) [v] b:=by
 obtain⟨a,c,rfl,h1⟩:=kK (R:=dG) (kU h H) (fun _ _=>rfl) fun _ _=>rfl;exact⟨a,c,rfl,h1⟩
theorem OZ (x:wbm) (a:ax bR) (c:av) (b:ax bR) (d:av) (w:aj) (hx:ay w a c b d x) (I:ae x):
  jW 269 #[cZ (ak a c b d x),jN] w fun e w'=> ∃J L,e=cL (cZ #[js J 32 L,jN])/\aB (bK (old w) w') 1 br J L (bF x.sc x.wt)/\jb w w':=by
 have a0:=hI fun(W:aj) (h:jb w W) (n:av) (a5:n<32)=>Iw x a c b d n W (hx.below h) I a5;obtain⟨S,f⟩: ∃S,S=bF x.sc x.wt:=⟨_,rfl⟩;have y:S.length=32:=by rw[f,wS,I.1]
 have z:=fun k h=>by
  have:=(Ba I).2.2.1 _ (show S[k]∈(Az x).sc by rw[show(Az x).sc=S from f.symm];exact Nn _);exact this
 rw[<-f]
 have A:bG (∀(W:aj),jb w W-> ∀(k:av) (h:k<S.length),jW 368 #[cZ (ak a c b d x),jN,jV (k:ar)] W fun e w'=> ∃v,e=cL v/\w'.ownsRow W 5 1 v S[k].length (S[k].flatMap dR)/\jb W w'):=fun W H k h=>by
  refine(a0.o W H k ed).mono ?_;rintro e w' ⟨J,L,rfl,h1,h2⟩;rw[<-f,iu h]at h1;exact⟨_,rfl,by rw[z k h];exact h1,h2⟩
 have HRL:=hI y;clear a0 f z hx I y;unfold ak at *;go_enter func269,ntmps269;go_upto_region 2 with fail;have F0:bG (Fr w [(#[js a x.sc c,js b x.wt d],84),(#[jN,jN],84),(#[jN,jN],84)] (((w.alloc (cO #[js a x.sc c,js b x.wt d] 84)).alloc (cO #[jN,jN] 84)).alloc (cO #[jN,jN] 84))):=(((Fr.start w).alloc rfl _ _).alloc ee _ _).alloc ee _ _;generalize cj _ _=W0 at *;go_upto_region 3 with fail;go_loopg [6] 32 (fun g i wr=> ∃(k:av) (s:ax bR) (j:av),k<=32/\g=32-k/\i= jV k/\Fr w [(#[js a x.sc c,js b x.wt d],84),(#[jN,jN],84),(#[js s k j,jN],84)] wr/\pY wr (w+3) 22 1 br (js s k j) (S.take k))
 ·exact⟨0,bn,0,ed,ed,rfl,F0.o,RX _ _ _ _ _⟩
 clear F0;obtain⟨k,s,j,a2,rfl,rfl,hF,f⟩:=hrel;have F:=hI hF;have Y:=hI f;by_cases G9:k<32
 ·have hd:ab ((k:ar)<32)=bl:=em;obtain⟨p0,p1⟩:=DY (g:=w.heap.size) (hF.row 0 _ rfl);have z0:=ji 0 (hF.row 2 _ rfl);have lp:w.heap.size<wr.heap.size:=hF.lt (i:=0) ee;have lz:=hF.lt (i:=2) ee;have B:k<S.length:=Ox;have a6:=hI B;have M:bG (S.take k++[S[k]]=S.take (k+1)/\(S.take k).length=k):=⟨It B,Kk⟩;clear hF f;go_upto_region 5 with fail;refine zD [7,9] ?_;refine OI fun V hV t0 t1 t2 t3 t4=>?_;refine zB [0,1,2,3,4] hV ?_;clear t0 t1 t2 t3 t4 p0 p1 z0;have O:=hI (F.o.below hV);have Z:=hI (sQ an Y.o hV);have a3:=A.o V O.o.bel k a6.o;refine aS 5 ef ?_;refine Oo fun K hK=>?_;refine .inl (a3.mono ?_);clear a3;refine qc fun C v1 q M5=>?_;simp[go_sem];refine uF fun h1=>?_;have F2:=hI (O.o.below M5);have S2:=hI (sQ an Z.o M5);have hx:br (bK (eY (w+3) (js s k j)) C) [v1] S[k]:=OW q fun b D=>RU Z.o D (Nj O.o.sz D);obtain⟨a1,c1,rfl⟩:=rR q;have E:=hI hx;clear hK K hx q M5 hV O Z;refine aS 6 ef ?_;refine Oo fun K hK=>?_;have H:jb C (C.alloc (cO #[js a1 S[k].length c1] 22)):=aR;have a4:bG ((C.alloc (cO #[js a1 S[k].length c1] 22)).heap[C.heap.size]? =bt (cO [cJ a1 S[k].length c1].toArray 22 (0,0))):=Nc _ _;have h2:=jt h1 H;refine .inl (hK _ _ (fun _=>h2) ?_);have G:=hI (an _ _ _ _ (eV H) E.o);have r:=hI (F2.o.below H);have P:=hI (sQ an S2.o H);generalize cj _ _=V2 at *;clear hK K H h1 h2 F2 S2 E;refine aS 7 ef ?_;intro K hK;obtain⟨n1,n2,Q,hr,U,H⟩:=RQ (t:=81) 81 an P.o underlying81 qx rfl eh eh (by rw[M.o.2];omega) r.o.sz a4.o rfl Qj G.o;rw[M.o.2,M.o.1]at U;rw[M.o.2]at hr;refine zQ (o:=⟨bt 18,.call {callee:= .builtin .append,args:=#[dk 12,dk 17],argTypes:=#[81,81]},81,_,_,bn⟩) rfl rfl (dk 12) (dk 17) 81 rfl _ _ _ Q rfl rfl hr ?_;refine hK _ _ (fun h=>cv h eh) ?_;have X:=hI (r.o.low H);replace U:=hI U;clear hK K hr H r P G a4
  conv=>arg 8;simp[cq]
  refine pG [8,9] ef ee ?_;refine oS ?_;have a7:=ji 0 (X.o.row 2 _ rfl);have a8:Q.frozen? ⟨w+2,0,bn⟩=aW:=(by have:=X.o.row 2 _ rfl;simp[aj.frozen?,show Q.heap[w.heap.size+2]? =_ from this]);have l3:=X.o.lt (i:=2) ee;go_wp2_with fail;have F5:=hI (X.o.set 2 rfl 0 (js n1 (k+1) n2));have S5:=hI (BB an U.o (aZ.set Q ⟨w+2,0,bn⟩ (js n1 (k+1) n2)) ee);go_roundg (32-(k+1))
  ·go_light;exact⟨k+1,n1,n2,ed,ed,ej,F5.o,S5.o⟩
  go_light;omega
 obtain rfl:k=32:=ed;have hd:ab (((32:av):ar)<32)=aW:=eh;rw[Sk (by rw[HRL.o];exact Mv _)]at Y;clear hF f;go_upto_region 6 with fail;go_wp2_with (first | (refine Dx rfl 84 (dk 5) rfl (w+2) rfl 84 _ (0,0) _ (F.o.row 2 _ rfl) underlying84 rfl ef ?_;simp[cq]) | (refine bP rfl 84 (dk 4) (dk 20) rfl (w+1) _ _ 84 rfl rfl (F.o.row 1 _ rfl) ef rfl Qj ?_))
 have r:=hI (F.o.setRow 1 rfl #[js s 32 j,jN]);have P:=hI (BB an Y.o (g:=w.heap.size+1) (W':=wr.setRow (w+1) #[js s 32 j,jN]) ⟨rfl,rfl,rfl,Qx,fun k a2=>Nq _ _ _ _ a2⟩ ed);refine Nh (v:=cZ #[js s 32 j,jN]) (Pb (p:=4) rfl _ _ (w+1) 84 _ (0,0) _ rfl (r.o.row 1 _ rfl) underlying84 rfl ef) rfl ?_;obtain⟨J,L,e,h⟩:=RP (n:=w.heap.size) an P.o ed (fun p u e=>e) (fun m xs h=>h);rw[HRL.o]at e;cases e;exact⟨s,j,rfl,h,r.o.bel⟩
def PA (x:wbm) (a:ax bR) (c:av) (b:ax bR) (d:av) (w:aj) (hx:ay w a c b d x) (H:ae x):
  jW 177 #[cZ (ak a c b d x)] w fun e w'=> ∃f i,e=cL (cZ #[js f 32 i,jN])/\aB (bK (old w) w') 1 br f i (bF x.sc x.wt)/\jb w w':=by
 have n:=hI fun W (h:jb w W)=>OZ x a c b d W (hx.below h) H;clear hx H;unfold ak at *;go_enter func177,ntmps177;go_upto_region 1 with fail;have F0:bG (Fr w [(#[js a x.sc c,js b x.wt d],84),(#[jN,jN],84)] ((w.alloc (cO #[js a x.sc c,js b x.wt d] 84)).alloc (cO #[jN,jN] 84))):=((Fr.start w).alloc rfl _ _).alloc ee _ _;generalize cj _ _=W0 at *;have HC:=hI (n.o W0 F0.o.bel);go_wp2_with (first | (refine Dx rfl 84 (dk 1) rfl w rfl 84 _ (0,0) _ (F0.o.row 0 _ rfl) underlying84 rfl ef ?_;simp[cq]) | (go_at_call 269;refine vy fun W1 A C h1 M5=>?_;have F1:=hI (F0.o.below M5);have H1:=hI h1;clear h1 M5) | (refine bP rfl 84 (dk 2) (dk 4) rfl (w+1) _ _ 84 rfl rfl (F1.o.row 1 _ rfl) ef rfl Qj ?_))
 have F2:=hI (F1.o.setRow 1 rfl #[js A 32 C,jN]);refine Nh (v:=cZ #[js A 32 C,jN]) (Pb (p:=2) rfl _ _ (w+1) 84 _ (0,0) _ rfl (F2.o.row 1 _ rfl) underlying84 rfl ef) rfl ?_;refine⟨A,C,rfl,?_,F2.o.bel⟩;have q:aZ (w+1) W1 (W1.setRow (w+1) #[js A 32 C,jN]):=⟨rfl,rfl,rfl,Qx,fun k j=>Nq _ _ _ _ j⟩;have hz:=F0.o.sz;exact(H1.o.ext an (q.off (by unfold old;simp at *;omega))).ext an (vX fun k j=>by unfold old at *;simp at *;omega)
