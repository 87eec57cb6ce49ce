/- Walks, laws. -/
import Derived.Test.YtbiehpjhhopjaaaGreatT2
import Derived.Maps.OwnOps
import Derived.Maps.Views
set_option linter.all false
set_option maxRecDepth 100000
set_option maxHeartbeats 16000000
namespace Go.Proofs.YtbiehpjhhopjaaaGreat
open _root_ renaming Array->aL,Bool->aU,Bool.false->aW,Decidable.decide->ab,List->aq,Int->ar,Nat->av,Option->ax,Bool.true->bl,Option.none->bn,Option.some->bt,Decidable->cG,absurd->cv,inferInstance->cx
open Go renaming World->aj,undef->bE,RowKit.Hid->bG,Addr->bR,TypeId->bT,Value->bw,RowKit.Below->cB,redrawn->cF,Value.slice->cJ,Ending.returned->cL,Obj.cells->cO,Value.int->cW,Value.pointer->cY,Value.agg->cZ,World.setCell->cd,wpQuiet_nil->cl,Value.bool->db,IntKind.i64->dr,Value.tuple->dw
open Go.RowKit Go.Sort Tryz
variable {W W' w0:aj}{B C N b ca g gG gR i q sz:av}{a aa ap:ax bR}{xs:aq bw}{OV PV d f o r s s17 s24 t u:bw}{x:ar}{F f0 f1 f10 f11 f14 f15 f2 f3 f4 f5 f6 f7 f8 f9:aU}{p:Pl}
def wW (x:Sg):bw:=cZ #[x.id,x.sec,x.en]
def oN (x:Sg):aL bw:=#[x.id,x.sec,x.en]
def VS (w:aj) (p:Pl) (r:Rt) (e:Ending) (w':aj):Prop:=
 jb w w'/\
 (((kE p r).lost=bl/\e=cL (dw #[cZ #[cJ bn 0 0,cJ bn 0 0,cJ bn 0 0,cW dr 0],cJ bn 0 0,cW dr 90]))\/
  ((kE p r).lost=aW/\ ∃vp vo va vx,e=cL (dw #[cZ #[vp,vo,va,cW dr (cP p r).near],vx,cW dr 0])/\
    aA w' w vp r.A/\aA w' w vo r.O/\aG w' w va (cP p r).asks/\fA w' w vx (gK p r)))
structure R1 (N:av) (w0:aj) (PV:bw) (B:av) (e x:ar) (E X:Sg) (f0 f1 f2 f3 f4 f5 f6 f7 f8 f9 f10 f11:aU) (s7 s8 s17 s18 s19 s20 s21 s22 s23 s24:bw) (W:aj):Prop where
 old:mA N w0 W
 h0:f0=bl->s17=PV
 h1:f1=bl->s18=cY (bt ⟨B,1,bn⟩)
 h2:f2=bl->s19=cW dr e
 h3:f3=bl->s20=wW E
 h4:f4=bl->s21=PV
 h5:f5=bl->s22=cY (bt ⟨B,2,bn⟩)
 h6:f6=bl->s23=cW dr x
 h7:f7=bl->s24=wW X
 h8:f8=bl-> ∃g,s7=cY (bt ⟨g,0,bn⟩)/\N<=g/\jk W g (if f10 then oN E else oN mI) 145
 h9:f9=bl-> ∃g,s8=cY (bt ⟨g,0,bn⟩)/\N<=g/\jk W g (if f11 then oN X else oN mI) 145
 h10:f8=bl->f9=bl->s7≠s8
 h11:f10=bl->f8=bl
 h12:f11=bl->f9=bl
def R1.below {e:ar}{E X:Sg}{s7 s8 a b c:bw}(h:R1 N w0 PV B e x E X f0 f1 f2 f3 f4 f5 f6 f7 f8 f9 f10 f11 s7 s8 s17 s a b c d f s24 W) (H:jb W W'):R1 N w0 PV B e x E X f0 f1 f2 f3 f4 f5 f6 f7 f8 f9 f10 f11 s7 s8 s17 s a b c d f s24 W':=
 ⟨h.old.below H,h.h0,h.h1,h.h2,h.h3,h.h4,h.h5,h.h6,h.h7,fun k=>by
  obtain⟨g,j,l,i⟩:=h.h8 k;exact⟨g,j,l,(H.block g (aD i)).trans i⟩,fun k=>by
  obtain⟨g,j,l,i⟩:=h.h9 k
  exact⟨g,j,l,(H.block g (aD i)).trans i⟩,h.h10,h.h11,h.h12⟩
def cK.own {base:av}{e:bT}{v:bw}{n:av}(h:W.ownsRow base e sz v n xs) (b:cK g W W') (d:g<base) (he:MW e=aW):W'.ownsRow base e sz v n xs:=by
 refine⟨h.1,?_⟩;rcases h.2 with c | ⟨k,cap,cur,rfl,H,a,rest⟩
 ·exact .inl c
 exact .inr ⟨k,cap,cur,rfl,H,b.rest _ _ _ _ a ed he,rest⟩
def cK.cell {k o:av}{c:aL bw}{t:bT}{fr:av × av}{v:bw}(a:cK g W W') (h:W.heap[k]? =bt (cO c t fr)) (H:k≠g) (he:MW t=aW) (b:c[o]? =bt v):jc W' k o v:=
 (Mu W' k o _ _ _ (a.rest _ _ _ _ h H he)).trans b
def aA.il {w:aj}{base:av}{c:av}{l:aq ar}(h:aA w base (js a l c) l):IL w a l l:=by
 obtain⟨A,n,C,e,hl⟩:=h.ilv;cases e;exact hl
def z00 {l:aq aF}(h:eR l l):dE aF.id l l:=fun i H _=>⟨⟨(h i H H).1.1,(h i H H).1.2.1⟩,fun h'=>((h i H H).2 (i-1) ed).1⟩
def zU {l:aq aF}(h:eR l l){k:av}(H:k<l.length) (q:av) (hq:l[k].id=(q:ar)):dQ l l q=l[k].ends.length:=by
 unfold dQ;rw[Ph]
 have:l.find? (fun s=>ab (s.id=(q:ar)))=bt l[k]:=aq.find?_eq_some_iff_getElem.2 ⟨by simpa using hq,k,H,rfl,fun j hj=>by
  have:=((h k H H).2 j hj).1
  simp;omega⟩
 rw[this]
structure R2 (N:av) (w0:aj) (B g g7:av) (PV OV va vo:bw) (near:ar) (lp lo:aq ar) (f0 f1 f2 f3 f4 f5 f6 f7 f8 f9 f10 f11 f12 f13 f14 f15 f16 f17 f18 f19:aU) (s5 s6 s126 s127 s128 s129 s130 s131 s132 s133 s134 s135 s136 s137 s138 s139 s140 s141 s142:bw) (W:aj):Prop where
 os:W.os=w0.os
 tape:W.tape=w0.tape
 output:W.output=w0.output
 size:N<=W.heap.size
 block: ∀b,b<N->b≠B+1->W.heap[b]? =w0.heap[b]?
 zb:f17=aW->jk W (B+1) #[cJ bn 0 0,cJ bn 0 0,cJ bn 0 0,cW dr 0] 184
 h0:f0=bl->s126=cY (bt ⟨B,3,bn⟩)
 h1:f1=bl->s127=PV
 h2:f2=bl-> ∃a c,s128=cJ a lp c/\aA W N (js a lp c) lp
 h3:f3=bl->s129=cY (bt ⟨B,4,bn⟩)
 h4:f4=bl->s130=OV
 h5:f5=bl-> ∃a c,s131=cJ a lo c/\aA W N (js a lo c) lo
 h6:f6=bl->s132=cY (bt ⟨g,0,bn⟩)
 h7:f7=bl->s133=cY (bt ⟨g,0,bn⟩)
 h8:f8=bl->s134=cY (bt ⟨g,8,bn⟩)
 h9:f9=bl->s135=va
 h10:f10=bl->s136=cY (bt ⟨g7,1,bn⟩)
 h11:f11=bl->s137=cW dr near
 h12:f12=bl->s138=cZ #[s128,s131,va,near]/\f2=bl/\f5=bl
 h13:f13=bl->s139=cY (bt ⟨g,0,bn⟩)
 h14:f14=bl->s140=cY (bt ⟨g,0,bn⟩)
 h15:f15=bl->s141=cY (bt ⟨g,9,bn⟩)
 h16:f16=bl->s142=vo
 h17:f17=bl->jk W (B+1) #[s128,s131,va,near] 184
 hq:f17=bl->f12=bl
 h18:f18=bl->s5=vo
 h19:f19=bl->s6=cW dr 0
def R2.below {g7:av}{va vo:bw}{near:ar}{L lo:aq ar}{x y z A f19:aU}{s5 s6 e i j l n p q v w s142:bw}(h:R2 N w0 B g g7 PV OV va vo near L lo f0 f1 f2 f3 f4 f5 f6 f7 f8 f9 f10 f11 F x f14 f15 y z A f19 s5 s6 s d e f i j l n o p q r t u v w s142 W) (H:jb W W') (E:B+1<N):R2 N w0 B g g7 PV OV va vo near L lo f0 f1 f2 f3 f4 f5 f6 f7 f8 f9 f10 f11 F x f14 f15 y z A f19 s5 s6 s d e f i j l n o p q r t u v w s142 W':=
 {h with
  os:=H.os.trans h.os
  tape:=H.tape.trans h.tape
  output:=H.output.trans h.output
  size:=Nj h.size H.size
  block:=fun b hi k2=>(H.block b ZD).trans (h.block b hi k2)
  zb:=fun k=>(H.block _ (Nl E h.size)).trans (h.zb k)
  h2:=fun k=>(h.h2 k).imp fun a D=>D.imp fun c C=>⟨C.1,bU C.2 H⟩
  h5:=fun k=>(h.h5 k).imp fun a D=>D.imp fun c C=>⟨C.1,bU C.2 H⟩
  h17:=fun k=>(H.block _ (Nl E h.size)).trans (h.h17 k)}
def LO {base:av}{e:bT}{v:bw}{n:av}(h:W.ownsRow base e sz v n xs) (b: ∀k,base<=k->k<W.heap.size->W'.heap[k]? =W.heap[k]?):W'.ownsRow base e sz v n xs:=by
 refine⟨h.1,?_⟩;rcases h.2 with c | ⟨k,cap,cur,rfl,H,a,rest⟩
 ·exact .inl c
 exact .inr ⟨k,cap,cur,rfl,H,(b k H (aD a)).trans a,rest⟩
def rR {w:aj}{base:av}{e:bT}{v:bw}{n:av}(h:w.ownsRow base e sz v n xs): ∃a c,v=cJ a n c:=by
 rcases h.2 with⟨rfl,h0⟩ | ⟨g,cap,cur,rfl,_⟩
 ·exact⟨bn,0,by rw[h0]⟩
 exact⟨_,_,rfl⟩
theorem z01 (p:Pl) (r:Rt) (s q gg l8 p7 vo p8:bw) (w:aj) (i0:bN w s q gg l8 p) (d6:p.Fit) (l9:dY w p7 vo p8 r) (hb:bX p) (ho:iU (dQ p.S p.S) p.G p.P r):
  Calls prog 209 #[aT p s q gg l8,cZ #[r.id,r.E,r.X,p7,vo,p8,r.T]] w (VS w p r):=by
 have i1:=hI fun id l eB=>z0x p s q gg l8 id l (i0.below eB) d6 hb.2.1.2.1.1.1;refine Qa fun k7 H7=>?_;obtain⟨F,C,rfl,k1⟩:=i0.S;obtain⟨G,J,rfl,-⟩:=i0.P;obtain⟨a3,c3,rfl,-⟩:=i0.G;obtain⟨a4,c4,rfl,-⟩:=i0.R;obtain⟨ap,b4,rfl,kp⟩:=l9.A.at_;obtain⟨ao,b5,rfl,ko⟩:=l9.O.at_;obtain⟨af,cf,rfl,kf⟩:=l9.fl;have p9:bG (∀l,jb w l->aB l 3 cU F C p.S):=fun l eB=>k1.below gN eB;refine YM fun q4 q5 m0=>?_;have k8:=d6.S;unfold aT at *;go_in;go_upto_region 1 with fail;generalize hx:iZ p r.E=E at *;generalize c2:iZ p r.X=X at *;have m1:bG (∀l,jb w l->Calls prog 301 #[cZ #[p.ver,p.par,js F p.S C,js G p.P J,js a3 p.G c3,js a4 p.R c4],r.E] l fun e w3=>e=cL (wW E)/\jb l w3):=fun l eB=>by have:=i1 r.E l eB;exact jv
 have m2:bG (∀l,jb w l->Calls prog 301 #[cZ #[p.ver,p.par,js F p.S C,js G p.P J,js a3 p.G c3,js a4 p.R c4],r.X] l fun e w3=>e=cL (wW X)/\jb l w3):=fun l eB=>by have:=i1 r.X l eB;rw[c2]at this;exact this
 have e7:=hI hx;have m3:=hI c2
 have d7:bG (0<=E.en/\ ∀k (h:k<p.S.length),p.S[k].id=E.sec->E.en.toNat<p.S[k].ends.length):=by
  have h1:=qK (z:=mI) H7.1.1;obtain⟨j,hj,he⟩:=No h1.1;have h2:=(k7.2.1.2.1.2 j hj hj).1;have h3:dW Sg.id mI p.G r.E=E:=e7.o;rw[he,h3]at h2;refine⟨h2.2.1,fun k h i2=> ?_⟩;have h4:=h2.2.2;have h5:=h2.2.1;rw[zU k7.o.1.2.2.2.2.2.1 h E.sec.toNat (by have:=h2.1.1;omega)]at h4;omega
 go_cut [7,8] (fun s7 g5 e8=> ∃g7 g8:av,s7=cY (bt ⟨g7,0,bn⟩)/\g5=cY (bt ⟨g8,0,bn⟩)/\jk e8 g7 (oN E) 145/\jk e8 g8 (oN X) 145/\jk e8 w #[p.ver,p.par,js F p.S C,js G p.P J,js a3 p.G c3,js a4 p.R c4] 28/\jk e8 (w+1) #[r.id,r.E,r.X,js ap r.A b4,js ao r.O b5,js af r.fl cf,r.T] 102/\jk e8 (w+2) #[cJ bn 0 0,cJ bn 0 0,cJ bn 0 0,cW dr 0] 184/\jb w e8/\w.heap.size+3<=e8.heap.size)
 case first=>
  generalize b6:((w.alloc _).alloc _).alloc _=w0
  have r0:=jD b6
  have r1:=jE b6
  have r4:jk w0 (w+2) #[cJ bn 0 0,cJ bn 0 0,cJ bn 0 0,cW dr 0] 184:=by
   subst b6;have:=Nc ((w.alloc (cO #[p.ver,p.par,js F p.S C,js G p.P J,js a3 p.G c3,js a4 p.R c4] 28)).alloc (cO #[r.id,r.E,r.X,js ap r.A b4,js ao r.O b5,js af r.fl cf,r.T] 102)) (cO #[cJ bn 0 0,cJ bn 0 0,cJ bn 0 0,cW dr 0] 184);rwa [Pv,Pv]at this
  have hz:w0.heap.size=w.heap.size+3:=by subst b6;simp
  have m4:=yA b6
  have i3:=hI m4;refine tN ef ef (fun f a W=> ∃s7 g5 s17 c5 c6 c7 c8 c9 d0 s24:bw,a={tmps:=#[cZ #[p.ver,p.par,js F p.S C,js G p.P J,js a3 p.G c3,js a4 p.R c4],cZ #[r.id,r.E,r.X,js ap r.A b4,js ao r.O b5,js af r.fl cf,r.T],cY (bt ⟨w,0,bn⟩),cY (bt ⟨w+1,0,bn⟩),cY (bt ⟨w+1+1,0,bn⟩),cJ bn 0 0,cW dr 0,s7,g5,bE,bE,bE,bE,bE,bE,bE,bE,s17,c5,c6,c7,c8,c9,d0,s24,bE,bE,bE,bE,bE,bE,bE,bE,bE,bE,bE,bE,bE,bE,bE,bE,bE,bE,bE,bE,bE,bE,bE,bE,bE,bE,bE,bE,bE,bE,bE,bE,bE,bE,bE,bE,bE,bE,bE,bE,bE,bE,bE,bE,bE,bE,bE,bE,bE,bE,bE,bE,bE,bE,bE,bE,bE,bE,bE,bE,bE,bE,bE,bE,bE,bE,bE,bE,bE,bE,bE,bE,bE,bE,bE,bE,bE,bE,bE,bE,bE,bE,bE,bE,bE,bE,bE,bE,bE,bE,bE,bE,bE,bE,bE,bE,bE,bE,bE,bE,bE,bE,bE,bE,bE,bE,bE,bE,bE,bE,bE,bE,bE,bE,bE,bE,bE,bE],defers:=[]}/\R1 w0 w0 (cZ #[p.ver,p.par,js F p.S C,js G p.P J,js a3 p.G c3,js a4 p.R c4]) (w+1) r.E r.X E X (f 0) (f 1) (f 2) (f 3) (f 4) (f 5) (f 6) (f 7) (f 8) (f 9) (f 10) (f 11) s7 g5 s17 c5 c6 c7 c8 c9 d0 s24 W) ?_ ?_ ?_
  ·exact⟨_,_,_,_,_,_,_,_,_,_,rfl,⟨⟨rfl,rfl,rfl,Mv _,fun _ _=>rfl⟩,ee,ee,ee,ee,ee,ee,ee,ee,ee,ee,ee,ee,ee⟩⟩
  ·intro i o H f a W N hd y;obtain⟨s7,g5,s17,c5,c6,c7,c8,c9,d0,s24,rfl,hS⟩:=N;have g6:=hS.old.size;have H8:=Below.of_old hS.old i3 ed ed;have q0:=hS.old.block (w.heap.size) ed;rw[r0]at q0;have q1:=hS.old.block (w+1) ed;rw[r1]at q1;rcases i with _ | _ | _ | _ | _ | _ | _ | _ | _ | _ | _ | _ | i
   ·simp at H;subst H;obtain⟨O,P,Q,c0,e9,f0⟩:=dB q0;simp[wpOp,go_sem,O,P,Q,c0,e9,f0];refine Vk ?_;exact Xz
   ·simp at H;subst H;simp[wpOp,go_sem];refine Vk ?_;exact {hS with h1:=fun _=>rfl}
   ·simp at H;subst H;obtain rfl:=hS.h1 (hd ⟨1,.data⟩ ee ev);have cc:=ji 1 q1;refine Vo ?_;refine Vk ?_;exact {hS with h2:=fun _=>rfl}
   ·simp at H;subst H;obtain rfl:=hS.h0 (hd ⟨0,.data⟩ ee ev);obtain rfl:=hS.h2 (hd ⟨2,.data⟩ ee ev);simp[wpOp,go_sem];refine .inl ((m1 _ H8).mono ?_);refine Qe fun l eB=>?_;simp[go_sem];exact⟨_,_,_,_,_,_,_,_,_,_,⟨rfl,rfl,rfl,rfl,rfl,rfl,rfl,rfl,rfl,rfl⟩,{R1.below hS eB with h3:=fun _=>rfl}⟩
   ·simp at H;subst H;obtain⟨O,P,Q,c0,e9,f0⟩:=dB q0;simp[wpOp,go_sem,O,P,Q,c0,e9,f0];refine Vk ?_;exact {hS with h4:=fun _=>rfl}
   ·simp at H;subst H;simp[wpOp,go_sem];refine Vk ?_;exact {hS with h5:=fun _=>rfl}
   ·simp at H;subst H;obtain rfl:=hS.h5 (hd ⟨5,.data⟩ ee ev);have cc:=ji 2 q1;refine Vo ?_;refine Vk ?_;exact XR
   ·simp at H;subst H;obtain rfl:=hS.h4 (hd ⟨4,.data⟩ ee ev);obtain rfl:=hS.h6 (hd ⟨6,.data⟩ ee ev);simp[wpOp,go_sem];refine .inl ((m2 _ H8).mono ?_);refine Qe fun l eB=>?_;simp[go_sem];exact⟨_,_,_,_,_,_,_,_,_,_,⟨rfl,rfl,rfl,rfl,rfl,rfl,rfl,rfl,rfl,rfl⟩,{R1.below hS eB with h7:=fun _=>rfl}⟩
   ·simp at H;subst H;have eB:jb W (W.alloc (cO (oN mI) 145)):=aR;have f1:=R1.below hS eB;have hr:=Nc W (cO (oN mI) 145)
    have hl:f 10=aW:=by
     cases h:f 10 with
     | false=>rfl
     | true=>have:=hS.h11 h;rw[y]at this;cases this
    simp[wpOp,go_sem];refine Vk ?_;refine {f1 with h8:=fun _=>⟨_,rfl,g6,Up⟩,h10:= ?_,h11:=fun _=>rfl};intro _ hq;obtain⟨g,b1,-,K⟩:=hS.h9 hq;rw[b1];intro e
    injection e with e
    injection e with e
    injection e with e
    subst e;rw[Pc ep]at K;cases K
   ·simp at H;subst H;have eB:jb W (W.alloc (cO (oN mI) 145)):=aR;have f1:=R1.below hS eB;have hr:=Nc W (cO (oN mI) 145)
    have hl:f 11=aW:=by
     cases h:f 11 with
     | false=>rfl
     | true=>have:=hS.h12 h;rw[y]at this;cases this
    simp[wpOp,go_sem];refine Vk ?_;refine {f1 with h9:=fun _=>⟨_,rfl,g6,Up⟩,h10:= ?_,h12:=fun _=>rfl};intro hq _;obtain⟨g,b1,-,K⟩:=hS.h8 hq;rw[b1];intro e
    injection e with e
    injection e with e
    injection e with e
    subst e;rw[Pc ep]at K;cases K
   ·simp at H;subst H;have d1:=hd ⟨3,.data⟩ ee ev;have f2:=hd ⟨8,.data⟩ ee ev;have g9:=hd ⟨9,.phase⟩ ee ev;obtain rfl:=hS.h3 d1;obtain⟨g,b1,e5,K⟩:=hS.h8 f2;obtain⟨b2,e0,e6,e1⟩:=hS.h9 g9
    have A6:b2≠g:=by
     intro e;exact hS.h10 f2 g9 (by rw[b1,e0,e])
    subst b1 e0;rw[y]at K;simp only[Dw,if_false]at K;obtain⟨O,P,Q⟩:=fO K;have d6:=(by simp[aj.frozen?,K]: ∀o,W.frozen? ⟨g,o,bn⟩=aW);simp[wpOp,go_sem,wW,O,P,Q,d6];refine Vk ?_;refine {hS with old:=((hS.old.setCell e5 _).setCell e5 _).setCell e5 _,h8:=fun _=>⟨g,rfl,e5,?_⟩,h9:=fun _=>⟨b2,rfl,e6,?_⟩,h11:=fun _=>f2}
    all_goals first
     | (simp[cd,Nk,K,oN];done)
     | (simp only[cd,Nk,Nm Uv];exact e1)
   ·simp at H;subst H;have d1:=hd ⟨7,.data⟩ ee ev;have f2:=hd ⟨9,.data⟩ ee ev;have g9:=hd ⟨8,.phase⟩ ee ev;obtain rfl:=hS.h7 d1;obtain⟨g,b1,e5,K⟩:=hS.h9 f2;obtain⟨b2,e0,e6,e1⟩:=hS.h8 g9
    have A6:b2≠g:=by
     intro e;exact hS.h10 g9 f2 (by rw[b1,e0,e])
    subst b1 e0;rw[y]at K;simp only[Dw,if_false]at K;obtain⟨O,P,Q⟩:=fO K;have d6:=(by simp[aj.frozen?,K]: ∀o,W.frozen? ⟨g,o,bn⟩=aW);simp[wpOp,go_sem,wW,O,P,Q,d6];refine Vk ?_;refine {hS with old:=((hS.old.setCell e5 _).setCell e5 _).setCell e5 _,h9:=fun _=>⟨g,rfl,e5,?_⟩,h8:=fun _=>⟨b2,rfl,e6,?_⟩,h12:=fun _=>f2}
    all_goals first
     | (simp[cd,Nk,K,oN];done)
     | (simp only[cd,Nk,Nm Uv];exact e1)
   simp at H
  intro f a W N d;obtain⟨s7,g5,s17,c5,c6,c7,c8,c9,d0,s24,rfl,hS⟩:=N;obtain⟨g,b1,e5,K⟩:=hS.h8 (d 8 eh);obtain⟨b2,e0,e6,e1⟩:=hS.h9 (d 9 eh);rw[d 10 eh]at K;rw[d 11 eh]at e1;simp only[Hq]at K e1;subst b1 e0;have H8:=Below.of_old hS.old i3 ed ed;have q0:=(hS.old.block (w.heap.size) ed).trans r0;have q1:=(hS.old.block (w+1) ed).trans r1;have q2:=(hS.old.block (w+2) ed).trans r4;have g6:=hS.old.size;have A6:g≠b2:=fun e=>hS.h10 (d 8 eh) (d 9 eh) Qn;have r5:bG (∃g7 g8:av,(bw.pointer (bt ⟨g,0,bn⟩)=cY (bt ⟨g7,0,bn⟩))/\(bw.pointer (bt ⟨b2,0,bn⟩)=cY (bt ⟨g8,0,bn⟩))/\jk W g7 (oN E) 145/\jk W g8 (oN X) 145/\jk W w #[p.ver,p.par,js F p.S C,js G p.P J,js a3 p.G c3,js a4 p.R c4] 28/\jk W (w+1) #[r.id,r.E,r.X,js ap r.A b4,js ao r.O b5,js af r.fl cf,r.T] 102/\jk W (w+2) #[cJ bn 0 0,cJ bn 0 0,cJ bn 0 0,cW dr 0] 184/\jb w W/\w.heap.size+3<=W.heap.size):=⟨g,b2,rfl,rfl,K,e1,q0,q1,q2,H8,ed⟩;go_wp2;go_meet
  case rel=>exact r5
 case rest=>
  obtain⟨g7,g8,rfl,rfl,eq,e4,e2,e3,eA,eB,i4⟩:=hcut;have v5:=aD eq;have v6:=aD e4;obtain⟨P0,P1,P2,P3,P4,P5⟩:=dB e2;refine Zo fun _ B1 B2 B7 B8 r6=>?_;have ln:w.heap.size<wc.heap.size:=ed
  go_wp2;generalize i5:wc.alloc _=f3;have i6:=jG i5
  have i7:bG (eK f3 wc p (js F p.S C) (js G p.P J) (js a3 p.G c3) (js a4 p.R c4) ⟨⟨0,0⟩,[],[],aW⟩ (cJ bn 0 0) (cJ bn 0 0)):=⟨by rw[<-i5];exact Nc _ _,aG.nil _ _,fA.nil _ _⟩;have H0:bG (∀W',cK wc f3 W'->jb w W'):=fun W' h=>(r6.trans (i6.mono ed)).trans (h.below.mono ed);have H5:bG (∀W' k o,cK wc f3 W'->wc.heap[k]? =bt o->W'.heap[k]? =bt o):=fun W' k o h e=>(h.below.block k (aD e)).trans ((i6.block k (aD e)).trans e);go_loopg [31] p.S.length (fun g i wr=> ∃k:av,k<=p.S.length/\g=p.S.length-k/\i=cW dr k/\cK wc f3 wr/\eK wr wc p (js F p.S C) (js G p.P J) (js a3 p.G c3) (js a4 p.R c4) ⟨(dW aF.id lE (p.S.take k) E.sec).ends.getD E.en.toNat ⟨0,0⟩,[],[],aW⟩ (cJ bn 0 0) (cJ bn 0 0))
  ·exact⟨0,ed,ed,rfl,cK.refl _ _,by rw[VW];exact i7⟩
  obtain⟨k,i2,rfl,rfl,H,b9⟩:=hrel;obtain⟨R,rfl⟩: ∃R:aj,R=wr:=⟨_,rfl⟩;have H2:=hI H;have H3:=hI b9;have lg:=b9.lt;have m5:=H5 _ _ _ H B7;have f7:=ji 1 m5;have i8:=ji 2 m5;have m6:=aD m5;generalize N:(dW aF.id lE (p.S.take k) E.sec).ends.getD E.en.toNat ⟨0,0⟩=I at *;have i9:=hI N;by_cases G9:k<p.S.length
  ·obtain⟨b,off,r7,r8,rfl,x1,j0,x2,a1⟩:=(p9 _ (H0 _ H2)).sec G9;refine Qb fun _ C=>?_;by_cases he:p.S[k].id=E.sec
   ·have t0:(p.S[k].id==E.sec)=bl:=Xv;obtain⟨n,m7⟩:=Ds d7.1;have d2:n<p.S[k].ends.length:=(by have:=d7.2 k G9 he;omega);obtain⟨v8,q6,rfl,x0,x4⟩:=a1.jn d2;refine Qv fun _=>?_
    have f4:bG ((dW aF.id lE (p.S.take (k+1)) E.sec).ends.getD E.en.toNat ⟨0,0⟩=p.S[k].ends[n]):=by
     show _=_;rw[VU G9 (z00 k7.o.1.2.2.2.2.2.1) he,m7,Sc,Na,Nf d2];rfl
    rw[m7]at i8;have k9:=aQ n;have v9:=aN d2;have y6:=H3.tt;have y7:=H3.en;have z6:=H3.frozen;generalize p.S[k].ends[n]=t1 at *;clear a1 he m7 d2;go_wp2_with fail;go_roundg (p.S.length-(k+1))
    ·go_light;refine⟨k+1,ed,ed,ej,?_,?_⟩
     ·exact(H2.trans ((cK.setCell _ _ _ _).trans (cK.setCell _ _ _ _))).trans (cK.of_below aR YF)
     rw[f4.o];exact(H3.setIn t1).below aR
    go_light;omega
   have t0:(p.S[k].id==E.sec)=aW:=Ui;have f4:=hI (VV (z:=lE) G9 he);clear a1 he;go_wp2_with fail;go_roundg (p.S.length-(k+1))
   ·go_light;have j1:jb R (R.alloc (cO #[p.S[k].id,p.S[k].pt,js r7 p.S[k].ends.length r8] 80)):=aR;refine⟨k+1,ed,ed,ej,H2.trans (cK.of_below j1 Ed),?_⟩;rw[f4.o,i9.o];exact H3.below j1
   go_light;omega
  obtain rfl:k=p.S.length:=by omega
  have m8:I=zN p r:=by
   rw[<-i9.o,Ph,<-e7.o];rfl
  subst m8;clear i7 f7 i8 m6;have H4:bG (∀W',cK wc f3 W'->jk W' (w+1) #[r.id,r.E,r.X,js ap r.A b4,js ao r.O b5,js af r.fl cf,r.T] 102):=fun W' h=>H5 _ _ _ h B1;have R3:=ji 3 (H4 _ H2);have R4:=ji 4 (H4 _ H2);have t2:=My _ _ R3;have g9:=H7.1.2.2.2.2.1;have w4:=H7.1.2.2.2.2.2.1;go_wp2_with fail;generalize hW:R.alloc _=l2;have f5:=jG hW;have x1:jc l2 R 0 (js ap r.A b4):=Qc;have j0:jc l2 R 1 (js ao r.O b5):=Qc;have f6:=hI (H2.trans (cK.of_below f5 Ed));have j2:=hI (H3.below f5);have l0:=j2.lt;refine(VT R ap ao b4 b5 r.A r.O l2 x1 j0 (q4 _ (H0 _ f6)) (q5 _ (H0 _ f6)) ed ed).mono ?_;refine Ou fun l3 aa l4 x f8=>?_;have m9:(r.A++r.O).length=r.A.length+r.O.length:=Mx;have j3:aI r=r.A++r.O:=rfl;generalize r.A++r.O=AL at *;have n0:=hI (f6.trans (cK.of_below f8 (De l0)));have j4:=hI (j2.below f8);have n1:=hI x;have A:=hI j3;have n2:=j4.lt;have t3:AL.length<=8:=ed;clear hW f5 x1 j0 x f8 j3 R3 R4 t2 m9;go_wp2_with fail;generalize f9:l3.alloc _=W9;have d3:=jG f9;have n3:=hI (jA f9);have j5:=hI (n0.trans (cK.of_below d3 (De n2)));have n4:bG (eK W9 wc p (js F p.S C) (js G p.P J) (js a3 p.G c3) (js a4 p.R c4) (eM p r 0) (cJ bn 0 0) (cJ bn 0 0)):=j4.below d3;have j6:bG (aA W9 l2 (js aa AL l4) AL):=bU n1 d3;have d8:l3.heap.size≠wc.heap.size:=ed;clear f9 d3;go_loopg [58] AL.length (fun b2 i wr=> ∃(k:av) (va vo:bw),k<=AL.length/\b2=AL.length-k/\i=cW dr k/\cK wc W9 wr/\eK wr wc p (js F p.S C) (js G p.P J) (js a3 p.G c3) (js a4 p.R c4) (eM p r k) va vo)
  ·exact⟨0,_,_,ed,ed,rfl,cK.refl _ _,n4⟩
  obtain⟨k,va,vo,i2,rfl,rfl,H,b9⟩:=hrel;obtain⟨w1,rfl⟩: ∃w1:aj,w1=wr:=⟨_,rfl⟩;have L:=hI H;have B:=hI b9;have l1:=b9.lt;clear H b9;by_cases G9:k<AL.length
  ·have H9:bG ((aI r).getD k 0=AL[k]):=by
    show _=_;rw[A.o,Na,Nf G9];rfl
   obtain⟨b,off,rfl,x1⟩:=(aA.il (L.own j6 l0 rfl)).cell k G9;have lb:=My _ _ x1;refine Qb fun t4 b1=>?_;go_upto_region 14 with fail;generalize t:(w1.alloc _).alloc _=T;have D:=eN t;have q8:=hI (jB t);have j7:=hI (jC t);have HO13:=hI (L.trans (cK.of_below D (De l1)));have M:=hI (B.below D);have d4:=hI (j5.trans HO13);have H1:bG (∀W',cB wc T W'->aB W' 3 cU F C p.S):=fun W' eB=>p9 W' ((H0 _ d4).trans (eB.mono ed));have H6:=hI (HO13.rest _ _ _ _ n3 d8 rfl);have g0:=hI (HO13.own j6 l0 rfl);have q9:=hI (H5 _ _ _ d4 B8);have k9:=ji 0 q8;have n5:=ji 0 j7;have g1:=ji 0 H6;have R2:=ji 2 (H4 _ d4);have R3:=ji 3 (H4 _ d4);have n6:w1.heap.size≠wc.heap.size:=ed;have j8:w1.heap.size+1≠wc.heap.size:=ed;have b3:(eM p r k).asks.length<=900:=(by have:=(uV p r k).1;omega);have g2:(eM p r k).outs.length<=900:=(by have:=(uV p r k).2;omega);have g3:=hI k7.1.2.2.2.2.2.1;clear t D x1 lb l1;by_cases c1:k+1=r.A.length
   ·have t5:((k:ar)==(r.A:ar)-1)=bl:=Ve;by_cases c2:r.X=0
    ·have t6:(r.X==0)=bl:=by rw[Da];exact c2
     have U:bG (eM p r (k+1)=lD p.S (eM p r k) AL[k] k rV):=by
      show eW p r k _=_;unfold eW;rw[Np ⟨c1,c2⟩,H9.o]
     clear c1 c2;go_wp2_with fail;refine(LU wc p F C _ _ _ va vo (eM p r k) AL[k] k 304 #[] rV T M H1 k8 g3 b3 g2 z0q (fun W' e j d9 _=>z0t e j W')).mono ?_;rintro e w2 ⟨rfl,hO2,V,v0,hw2⟩;rw[<-U.o]at hw2;refine Uc fun Y Z=>?_;clear hO2 hw2 k9 n5 g1 R2 R3;go_wp2_with fail;go_roundg (AL.length-(k+1))
     ·go_light;exact⟨k+1,V,v0,ed,ed,ej,Y,Z⟩
     go_light;omega
    have t6:(r.X==0)=aW:=by rw[Nd];exact c2
    have U:bG (eM p r (k+1)=lD p.S (eM p r k) AL[k] k (tE AL[k] X)):=by
     show eW p r k _=_;unfold eW;rw[Nm (fun h=>c2 h.2),Np c1,H9.o,m3.o]
    clear c1 c2;go_wp2_with fail;refine(LU wc p F C _ _ _ va vo (eM p r k) AL[k] k 305 #[jp (w1+1) 0,jp g8 0] (tE AL[k] X) T M H1 k8 g3 b3 g2 z0r (fun W' e j d9 _=>z0u AL[k] X _ _ e j W' (d9.cell j7 j8 rfl rfl) (d9.cell q9 ed rfl rfl) (d9.cell q9 ed rfl rfl))).mono ?_;rintro e w2 ⟨rfl,hO2,V,v0,hw2⟩;rw[<-U.o]at hw2;refine Uc fun Y Z=>?_;clear hO2 hw2 k9 n5 g1 R2 R3;go_wp2_with fail;go_roundg (AL.length-(k+1))
    ·go_light;exact⟨k+1,V,v0,ed,ed,ej,Y,Z⟩
    go_light;omega
   have t5:((k:ar)==(r.A:ar)-1)=aW:=Ov;by_cases l5:k+1=AL.length
   ·have t7:((k:ar)==(AL:ar)-1)=bl:=by rw[Da];omega
    have U:bG (eM p r (k+1)=pO p.S (eM p r k) AL[k] k):=by
     show eW p r k _=_;unfold eW;rw[Nm (fun h=>c1 h.1),Nm c1,Np (by rw[A.o];exact l5),H9.o]
    clear c1 l5;go_wp2_with fail;refine(z0y wc p F C _ _ _ va vo (eM p r k) AL[k] k T M H1 k8 b3).mono ?_;rintro e w2 ⟨rfl,hO2,V,v0,hw2⟩;rw[<-U.o]at hw2;refine Uc fun Y Z=>?_;clear hO2 hw2 k9 n5 g1 R2 R3;go_wp2_with fail;go_roundg (AL.length-(k+1))
    ·go_light;exact⟨k+1,V,v0,ed,ed,ej,Y,Z⟩
    go_light;omega
   have t7:((k:ar)==(AL:ar)-1)=aW:=Ov;have n7:k+1<AL.length:=by omega
   have U:bG (eM p r (k+1)=lD p.S (eM p r k) AL[k] k (uX (AL.getD (k+1) 0))):=by
    show eW p r k _=_;unfold eW;rw[Nm (fun h=>c1 h.1),Nm c1,Nm (by rw[A.o];exact l5),H9.o,A.o]
   clear c1 l5;go_wp2_with fail;refine(LU wc p F C _ _ _ va vo (eM p r k) AL[k] k 307 #[jp l3 0,jp w1 0] (uX (AL.getD (k+1) 0)) T M H1 k8 g3 b3 g2 z0s (fun W' e j d9 _=>z0v AL k _ _ (bt ⟨b,off,bn⟩) l4 e j W' (d9.cell H6 d8 rfl rfl) (aA.il (d9.own g0 l0 rfl)) (d9.cell q8 n6 rfl rfl) n7 ed)).mono ?_;rintro e w2 ⟨rfl,hO2,V,v0,hw2⟩;rw[<-U.o]at hw2;refine Uc fun Y Z=>?_;go_wp2;go_roundg (AL.length-(k+1))
   ·go_light;exact⟨k+1,V,v0,ed,ed,ej,Y,Z⟩
   go_light;omega
  obtain rfl:k=AL.length:=ed;have t8:=bZ G9;have j9:bG (eM p r AL=kE p r):=(by show _=_;unfold kE;rw[A.o]);rw[j9.o]at B;have y3:=B.lost;have d5:=hI (j5.trans L);generalize b7:kE p r=a0 at *;have n8:bG (a0.asks.length<=8):=(by show _<=_;rw[<-b7];have:=(uV p r (aI r).length).1;rw[A.o]at this;unfold kE;rw[A.o];omega);have r2:bG (∀W',cK wc f3 W'->jk W' (w+2) #[cJ bn 0 0,cJ bn 0 0,cJ bn 0 0,cW dr 0] 184):=fun W' h=>H5 _ _ _ h B2;cases hL:a0.lost with
  | true=>
   rw[hL]at y3;have hB9:=r2 _ d5;obtain⟨hz1,y0,y1,y2⟩:=sX hB9;have w5: ∀o,w1.frozen? ⟨w+1+1,o,bn⟩=aW:=fun o=>Kl
   have g4:=hI hL;go_wp2;refine On fun k0 o9=>?_;have q0:jc k0 (w+1+1) 0 (cJ bn 0 0):=(by rw[<-o9];simp[go_sem,hz1,y2]);have q1:jc k0 (w+1+1) 1 (cJ bn 0 0):=(by rw[<-o9];simp[go_sem,y0,y1,y2]);have q2:jc k0 (w+1+1) 2 (cJ bn 0 0):=Kj;have q3:jc k0 (w+1+1) 3 (cW dr 0):=Kj;have n9:bG (jb w k0):=(by show cB _ _ _;rw[<-o9];exact((((H0 _ d5).setCell em _).setCell em _).setCell em _).setCell em _);clear o9;exact Nh (v:=dw #[cZ #[cJ bn 0 0,cJ bn 0 0,cJ bn 0 0,cW dr 0],cJ bn 0 0,cW dr 90]) (by simp[results,Tryz.f209,go_sem,q0,q1,q2,q3]) rfl ⟨n9,.inl ⟨by rw[b7];exact g4,rfl⟩⟩
  | false=>
   rw[hL]at y3;have g4:=hI hL;have R5:=ji 5 (H4 _ d5);have w6:=H7.1.2.2.2.2.2.2.1;clear hL;go_wp2_with fail;go_loopg [115] r.fl.length (fun b2 i wr=> ∃(k:av) (va vo:bw),k<=r.fl.length/\b2=r.fl.length-k/\i=cW dr k/\cK wc f3 wr/\eK wr wc p (js F p.S C) (js G p.P J) (js a3 p.G c3) (js a4 p.R c4) (gO a0 r.fl k) va vo)
   ·exact⟨0,va,vo,ed,ed,rfl,d5,B⟩
   obtain⟨k,va,vo,i2,rfl,rfl,H,b9⟩:=hrel;obtain⟨u,rfl⟩: ∃u:aj,u=wr:=⟨_,rfl⟩;have L:=hI H;have B:=hI b9;have l1:=b9.lt;clear H b9;by_cases G9:k<r.fl.length
   ·obtain⟨b,off,rfl,x1,j0⟩:=(m0 _ (H0 _ L)).fl G9;have lb:=My _ _ x1;refine Qb fun _ _=>?_
    have U:bG (gO a0 r.fl (k+1)=kB (gO a0 r.fl k) r.fl[k].pt r.fl[k].lie (-1)):=by
     show kB _ _ _ _=_;rw[Na,Nf G9];rfl
    have b3:(gO a0 r.fl k).asks.length<=1000:=(by have:=EC a0 r.fl k;have:=n8.o;omega);go_upto_region 26 with fail;generalize t:u.alloc _=T;have D:=jG t;have u0:jc T u 0 r.fl[k].pt:=(by rw[<-t];simp);have u1:jc T u 1 r.fl[k].lie:=(by rw[<-t];simp);have HO13:=hI (L.trans (cK.of_below D (De l1)));have M:=hI (B.below D);clear t D x1 j0 lb;go_wp2_with fail;refine(LV wc p _ _ _ _ va vo (gO a0 r.fl k) r.fl[k].pt r.fl[k].lie (-1) T M b3).mono ?_;rintro e w2 ⟨rfl,hO2,-,V,hw2⟩;rw[<-U.o]at hw2;refine Uc fun Y Z=>?_;clear hO2 hw2 u0 u1;go_wp2_with fail;go_roundg (r.fl.length-(k+1))
    ·go_light;exact⟨k+1,V,vo,ed,ed,ej,Y,Z⟩
    go_light;omega
   obtain rfl:k=r.fl.length:=ed;have o0:bG (gO a0 r.fl r.fl=LD p r):=(by show _=_;rw[<-b7];rfl);go_upto_region 28 with fail;have o1:=H4 _ L;have o3:=r2 _ L;have o4:=H5 _ _ _ L B7;have o6:=B.blk
   have o7:g7≠w.heap.size+1+1:=fun e=>by
    have h1:=B7.o;have h2:wc.heap[w.heap.size+1+1]? =_:=B2.o;rw[e,h2]at h1
    injection h1 with h1
    injection h1 with _ h1
    exact cv h1 eh
   obtain⟨o8,p0,rfl⟩:=rR B.asks;obtain⟨p1,p2,rfl⟩:=rR B.outs
   have k3:bG (∀W,(W.os=u.os/\W.tape=u.tape/\W.output=u.output/\u.heap.size<=W.heap.size/\ ∀b,b<u.heap.size->b≠w.heap.size+1+1->W.heap[b]? =u.heap[b]?)->jb w W):=fun W h=>by
    have eB:=H0 _ L;have i4:=eB.size;exact⟨h.1.trans eB.os,h.2.1.trans eB.tape,h.2.2.1.trans eB.output,Nj i4 h.2.2.2.1,fun k i2=>(h.2.2.2.2 k ed ed).trans (eB.block k i2)⟩
   refine tN ef ef (fun f a W=> ∃l6 l7 s0 s1 s2 s3 s4 s5 s6 s8 s9 a2 a5 a6 a7 a8 a9 b0 s142:bw,a={tmps:=#[cZ #[p.ver,p.par,js F p.S C,js G p.P J,js a3 p.G c3,js a4 p.R c4],cZ #[r.id,r.E,r.X,js ap r.A b4,js ao r.O b5,js af r.fl cf,r.T],cY (bt ⟨w,0,bn⟩),cY (bt ⟨w+1,0,bn⟩),cY (bt ⟨w+1+1,0,bn⟩),l6,l7,cY (bt ⟨g7,0,bn⟩),cY (bt ⟨g8,0,bn⟩),cY (bt ⟨wc,0,bn⟩),bE,u11,cY (bt ⟨l3,0,bn⟩),u13,u14,bE,u16,u17,u18,u19,u20,u21,u22,u23,u24,cZ #[p.ver,p.par,js F p.S C,js G p.P J,js a3 p.G c3,js a4 p.R c4],cZ #[p.ver,p.par,js F p.S C,js G p.P J,js a3 p.G c3,js a4 p.R c4,cW dr 0,cW dr 0,cJ bn 0 0,cJ bn 0 0,db aW],cY (bt ⟨wc,0,bn⟩),cY (bt ⟨w,2,bn⟩),cJ F p.S C,cW dr (p.S:ar),cW dr (p.S:ar),db aW,u33,u34,u35,u36,u37,u38,u39,u40,u41,u42,u43,u44,u45,u46,u47,u48,u49,cY (bt ⟨w+1,3,bn⟩),cJ ap r.A b4,cY (bt ⟨w+1,4,bn⟩),cJ ao r.O b5,cJ (bt ⟨R,0,bn⟩) 2 2,cJ aa AL l4,cJ aa AL l4,cW dr (AL:ar),cW dr (AL:ar),db aW,u60,u61,u62,u63,u64,u65,u66,u67,u68,u69,u70,u71,u72,u73,u74,u75,u76,u77,u78,u79,u80,u81,u82,u83,u84,u85,u86,u87,u88,u89,u90,u91,u92,u93,u94,u95,u96,u97,u98,u99,u100,u101,u102,u103,u104,u105,u106,cY (bt ⟨wc,0,bn⟩),cY (bt ⟨wc,0,bn⟩),cY (bt ⟨wc,10,bn⟩),db aW,u111,cY (bt ⟨w+1,5,bn⟩),cJ af r.fl cf,cW dr (r.fl:ar),cW dr (r.fl:ar),db aW,u117,u118,u119,u120,u121,u122,u123,u124,u125,s0,s1,s2,s3,s4,s5,s6,s8,s9,a2,a5,a6,a7,a8,a9,b0,s142],defers:=[]}/\R2 u u (w+1) wc g7 (js ap r.A b4) (js ao r.O b5) (js o8 (gO a0 r.fl r.fl).asks.length p0) (js p1 (gO a0 r.fl r.fl).outs.length p2) E.sec r.A r.O (f 0) (f 1) (f 2) (f 3) (f 4) (f 5) (f 6) (f 7) (f 8) (f 9) (f 10) (f 11) (f 12) (f 13) (f 14) (f 15) (f 16) (f 17) (f 18) (f 19) l6 l7 s0 s1 s2 s3 s4 s5 s6 s8 s9 a2 a5 a6 a7 a8 a9 b0 s142 W) ?_ ?_ ?_
   ·exact⟨_,_,_,_,_,_,_,_,_,_,_,_,_,_,_,_,_,_,_,rfl,⟨rfl,rfl,rfl,Mv _,fun _ _ _=>rfl,fun _=>o3,ee,ee,ee,ee,ee,ee,ee,ee,ee,ee,ee,ee,ee,ee,ee,ee,ee,ee,ee,ee,ee⟩⟩
   ·intro i o H f a W N hd y;obtain⟨l6,l7,s0,s1,s2,s3,s4,s5,s6,s8,s9,a2,a5,a6,a7,a8,a9,b0,s142,rfl,hS⟩:=N;have g6:=hS.size;have q1:=(hS.block (w+1) ed ed).trans o1;have q7:=(hS.block g7 ed o7).trans o4;have r3:=(hS.block wc ed ed).trans o6;have k4:=k3 W ⟨hS.os,hS.tape,hS.output,hS.size,hS.block⟩;rcases i with _ | _ | _ | _ | _ | _ | _ | _ | _ | _ | _ | _ | _ | _ | _ | _ | _ | _ | _ | _ | i
    ·simp at H;subst H;simp[wpOp,go_sem];refine Vj ?_;exact Xz
    ·simp at H;subst H;obtain rfl:=hS.h0 (hd ⟨0,.data⟩ ee ev);have cc:=ji 3 q1;refine Vo ?_;refine Vj ?_;exact {hS with h1:=fun _=>rfl}
    ·simp at H;subst H;obtain rfl:=hS.h1 (hd ⟨1,.data⟩ ee ev);simp[wpOp,go_sem];refine .inl ((DA ap b4 r.A W (q4 _ k4) ed).mono ?_);rintro e l ⟨v,rfl,x,eB⟩;obtain⟨a,c,rfl⟩:=x.slice;simp[go_sem];exact⟨_,_,_,_,_,_,_,_,_,_,_,_,_,_,_,_,_,_,_,⟨rfl,rfl,rfl,rfl,rfl,rfl,rfl,rfl,rfl,rfl,rfl,rfl,rfl,rfl,rfl,rfl,rfl,rfl,rfl⟩,{R2.below hS eB ed with h2:=fun _=>⟨a,c,rfl,bW x g6⟩,h12:=fun b8=>by {have e:=(hS.h12 b8).2.1;rw[y]at e;cases e},h17:=fun b8=>by {have e:=(hS.h12 (hS.hq b8)).2.1;rw[y]at e;cases e}}⟩
    ·simp at H;subst H;simp[wpOp,go_sem];refine Vj ?_;exact {hS with h3:=fun _=>rfl}
    ·simp at H;subst H;obtain rfl:=hS.h3 (hd ⟨3,.data⟩ ee ev);have cc:=ji 4 q1;refine Vo ?_;refine Vj ?_;exact {hS with h4:=fun _=>rfl}
    ·simp at H;subst H;obtain rfl:=hS.h4 (hd ⟨4,.data⟩ ee ev);simp[wpOp,go_sem];refine .inl ((DA ao b5 r.O W (q5 _ k4) ed).mono ?_);rintro e l ⟨v,rfl,x,eB⟩;obtain⟨a,c,rfl⟩:=x.slice;simp[go_sem];exact⟨_,_,_,_,_,_,_,_,_,_,_,_,_,_,_,_,_,_,_,⟨rfl,rfl,rfl,rfl,rfl,rfl,rfl,rfl,rfl,rfl,rfl,rfl,rfl,rfl,rfl,rfl,rfl,rfl,rfl⟩,{R2.below hS eB ed with h5:=fun _=>⟨a,c,rfl,bW x g6⟩,h12:=fun b8=>by {have e:=(hS.h12 b8).2.2;rw[y]at e;cases e},h17:=fun b8=>by {have e:=(hS.h12 (hS.hq b8)).2.2;rw[y]at e;cases e}}⟩
    ·simp at H;subst H;simp[wpOp,go_sem];refine Vj ?_;exact XR
    ·simp at H;subst H;obtain rfl:=hS.h6 (hd ⟨6,.data⟩ ee ev);simp[wpOp,go_sem];refine Vj ?_;exact {hS with h7:=fun _=>rfl}
    ·simp at H;subst H;obtain rfl:=hS.h7 (hd ⟨7,.data⟩ ee ev);simp[wpOp,go_sem];refine Vj ?_;exact {hS with h8:=fun _=>rfl}
    ·simp at H;subst H;obtain rfl:=hS.h8 (hd ⟨8,.data⟩ ee ev);have cc:=ji 8 r3;refine Vo ?_;refine Vj ?_;exact {hS with h9:=fun _=>rfl}
    ·simp at H;subst H;simp[wpOp,go_sem];refine Vj ?_;exact {hS with h10:=fun _=>rfl}
    ·simp at H;subst H;obtain rfl:=hS.h10 (hd ⟨10,.data⟩ ee ev);have cc:=ji 1 q7;refine Vo ?_;refine Vj ?_;exact {hS with h11:=fun _=>rfl}
    ·simp at H;subst H;obtain⟨G,J,rfl,o2⟩:=hS.h2 (hd ⟨2,.data⟩ ee ev);obtain⟨k5,k6,rfl,o5⟩:=hS.h5 (hd ⟨5,.data⟩ ee ev);obtain rfl:=hS.h9 (hd ⟨9,.data⟩ ee ev);obtain rfl:=hS.h11 (hd ⟨11,.data⟩ ee ev);simp[wpOp,go_sem];refine Vj ?_;exact {hS with h12:=fun _=>⟨rfl,(hd ⟨2,.data⟩ ee ev),(hd ⟨5,.data⟩ ee ev)⟩,hq:=fun _=>rfl,h17:=fun b8=>by {have e:=hS.hq b8;rw[y]at e;cases e}}
    ·simp at H;subst H;simp[wpOp,go_sem];refine Vj ?_;exact {hS with h13:=fun _=>rfl}
    ·simp at H;subst H;obtain rfl:=hS.h13 (hd ⟨13,.data⟩ ee ev);simp[wpOp,go_sem];refine Vj ?_;exact {hS with h14:=fun _=>rfl}
    ·simp at H;subst H;obtain rfl:=hS.h14 (hd ⟨14,.data⟩ ee ev);simp[wpOp,go_sem];refine Vj ?_;exact {hS with h15:=fun _=>rfl}
    ·simp at H;subst H;obtain rfl:=hS.h15 (hd ⟨15,.data⟩ ee ev);have cc:=ji 9 r3;refine Vo ?_;refine Vj ?_;exact {hS with h16:=fun _=>rfl}
    ·simp at H;subst H;obtain⟨rfl,k2,t9⟩:=hS.h12 (hd ⟨12,.data⟩ ee ev);obtain⟨G,J,rfl,o2⟩:=hS.h2 k2;obtain⟨k5,k6,rfl,o5⟩:=hS.h5 t9;have hz:=hS.zb y;obtain⟨O,P,Q,c0⟩:=sX hz;have d6:=(by simp[aj.frozen?,hz]: ∀o,W.frozen? ⟨w+1+1,o,bn⟩=aW);simp[wpOp,go_sem,O,P,Q,c0,d6];refine Vj ?_;refine {hS with size:=by simpa [cd]using hS.size,block:=fun b k1 k2=>by {refine Eq.trans ?_ (hS.block b k1 k2);simp only[cd,Nk,Nm (fun e=>k2 (Eq.symm e))]},zb:=fun b8=>by {simp at b8},h2:=fun _=>⟨G,J,rfl,(aV (aV (aV (aV o2 em _) em _) em _) em _)⟩,h5:=fun _=>⟨k5,k6,rfl,(aV (aV (aV (aV o5 em _) em _) em _) em _)⟩,h17:=fun _=>by {simp[cd,Nk,hz]},hq:=fun _=>hd ⟨12,.data⟩ ee ev}
    ·simp at H;subst H;obtain rfl:=hS.h16 (hd ⟨16,.data⟩ ee ev);simp[wpOp,go_sem];refine Vj ?_;exact {hS with h18:=fun _=>rfl}
    ·simp at H;subst H;simp[wpOp,go_sem];refine Vj ?_;exact {hS with h19:=fun _=>rfl}
    simp at H
   intro f a W N d;obtain⟨l6,l7,s0,s1,s2,s3,s4,s5,s6,s8,s9,a2,a5,a6,a7,a8,a9,b0,s142,rfl,hS⟩:=N;have v1:=hS.h18 (d 18 eh);have v2:=hS.h19 (d 19 eh);obtain⟨G,J,e5,o2⟩:=hS.h2 (d 2 eh);obtain⟨k5,k6,p3,o5⟩:=hS.h5 (d 5 eh);have hz:=hS.h17 (d 17 eh);rw[e5,p3]at hz;have n9:=hI (k3 W ⟨hS.os,hS.tape,hS.output,hS.size,hS.block⟩);have v3:bG (aG W w (js o8 (gO a0 r.fl r.fl).asks.length p0) (gO a0 r.fl r.fl).asks):=bW (LO B.asks (fun k k1 k2=>hS.block k k2 ed)) ed;have v4:bG (fA W w (js p1 (gO a0 r.fl r.fl).outs.length p2) (gO a0 r.fl r.fl).outs):=bW (LO B.outs (fun k k1 k2=>hS.block k k2 ed)) ed;have K2:bG (aA W w (js G r.A J) r.A):=bW o2 ed;have K5:bG (aA W w (js k5 r.O k6) r.O):=bW o5 ed;obtain⟨q0,q1,q2,q3⟩:=sX hz;have p4:bG ((gO a0 r.fl r.fl).outs=gK p r):=(by show _=_;rw[kh,<-b7];rfl);have p5:bG (E.sec=(cP p r).near):=(by show _=(iZ p r.E).sec;rw[e7.o]);have p6:bG ((gO a0 r.fl r.fl).asks=(cP p r).asks):=(by show _=(LD p r).asks;rw[o0.o]);subst v1 v2;go_wp2_with fail;refine Nh (v:=dw #[cZ #[js G r.A J,js k5 r.O k6,js o8 (gO a0 r.fl r.fl).asks.length p0,E.sec],js p1 (gO a0 r.fl r.fl).outs.length p2,cW dr 0]) (by simp[results,Tryz.f209,go_sem,q0,q1,q2,q3]) rfl ⟨n9,.inr ⟨by rw[b7];exact g4,_,_,_,_,by rw[<-p5.o],K2,K5,?_,?_⟩⟩
   ·rw[<-p6.o];exact v3
   rw[<-p4.o];exact v4
def MA:bT->aU:=fun t=>t==184 || t==78 || t==171 || t==4
def MG:bT->aU:=fun t=>t==171 || t==4
def z02: ∀t,MG t=bl->MA t=bl:=fun t h=>by simp[MG,MA]at h ⊢;rcases h with h | h<;>simp[h]
def z03 {M b:bT->aU}(w:aj) (d: ∀t,b t=bl->M t=bl):eD (jQ M w) (jQ b w):=fun a v h=>by
 obtain⟨c,t,fr,h1,h2⟩:=KL h
 have h3:b t=aW:=by
  cases e:b t
  ·rfl
  rw[d t e]at h2;cases h2
 have h4:=DI M w a v h;have h5:=(zI h1 h3).trans h1.symm;exact(Pj (w:=w) h5).trans h4
def cR.slM {α:Type}{M a:bT->aU}{w:aj}{base:av}{T:bT}{R:aj->aq bw->α->Prop}{v:bw}{l:aq α}{xss:aq (aq bw)}(h:cR M w base T sz R v l xss) (c:aY R) (d: ∀t,a t=bl->M t=bl) (e:a T=aW):Sl (jQ a w) sz R v l:=by
 have hl:=h.len;have f:=zH h.own e;rcases h.own.2 with⟨rfl,h0⟩ | ⟨g,cap,cur,rfl,k,n,o,q,p,r⟩
 ·have hn:l=[]:=Dm ed;exact XW
 refine⟨bt ⟨g,0,bn⟩,cap,by rw[hl],by rw[<-hl];exact o,(fun h=>nomatch h),fun i b=> ?_⟩;have hi':i<xss.length:=by rw[hl];exact b
 refine⟨g,0,xss[i],rfl,h.sz _ (Nn hi'),fun j hj=> ?_,c _ _ _ _ (z03 w d) (h.rd i hi' b)⟩
 have h1:(xss.flatMap id)[i * sz+j]? =bt xss[i][j]:=by
  exact ZX
 have h2:=f.cells (g:=g) rfl (i * sz+j) _ h1;rw[oB]at h2;exact jj
def LN (v:bw):Prop:= ∀a n c,v=cJ a n c->n<=c
def z04 {w:aj}{base:av}{e:bT}{v:bw}{n:av}(h:w.ownsRow base e sz v n xs):LN v:=by
 intro a m c b;rcases h.2 with⟨h1,_⟩ | ⟨g,cap,cur,h1,_,_,d,_⟩
 ·rw[h1]at b;cases b;exact Mv _
 rw[h1]at b;cases b;exact d
def tT (w:aj) (vs:aq bw) (x:Wy):Prop:= ∃vp vo va,vs=[vp,vo,va,cW dr x.near]/\eP w vp x.A/\eP w vo x.O/\zL w va x.asks/\LN vp
def yC (w:aj) (vs:aq bw) (x:aq Jn):Prop:= ∃v,vs=[v]/\vH w v x
def Wys (w:aj) (v:bw) (l:aq Wy):Prop:=Sl w 4 tT v l
def Jls (w:aj) (v:bw) (l:aq (aq Jn)):Prop:=Sl w 1 yC v l
def bQ:aY tT:=fun _ _ _ _ he ⟨V,vo,va,h1,h2,h3,h4,h5⟩=>⟨V,vo,va,h1,h2.ext he,h3.ext he,h4.ext XK he,h5⟩
def bJ:aY yC:=fun _ _ _ _ he ⟨v,h1,h2⟩=>⟨v,h1,h2.ext DW he⟩
def z05:(prog.info? 184).map (fun i=>(i.zero,i.size,i.bytes))=bt (bt (cZ #[jN,jN,jN,jV 0]),4,80):=by kernel_rfl
def z06:(prog.info? 78).map (fun i=>(i.zero,i.size,i.bytes))=bt (bt (cJ bn 0 0),1,24):=by kernel_rfl
def tx (w:aj) (p:Pl) (e:Ending) (w':aj):Prop:=
 jb w w'/\
 ((¬bX p/\e=cL (dw #[jN,jN,jV 8]))\/
  (bX p/\ ¬uU p/\e=cL (dw #[jN,jN,jV 90]))\/
  (bX p/\uU p/\ ∃v1 v2,e=cL (dw #[v1,v2,jV 0])/\Wys (jQ MG w') v1 (p.R.map (cP p))/\Jls w' v2 (p.R.map (gK p))))
def z07 (a b c:ax bR) (l m n i j k:av) (x:ar): ∀u∈[bw.slice a l i,cJ b m j,cJ c n k,jV x],u.oneCell'=bl:=by
 intro u d;simp only[Dv,Pf,Ta]at d;rcases d with rfl | rfl | rfl | rfl<;>rfl
def z08 (a:ax bR) (l i:av): ∀u∈[bw.slice a l i],u.oneCell'=bl:=by
 intro u b;simp only[Dv,Pf,Ta]at b;rcases b with rfl;rfl
theorem VR (p:Pl) (s q gg a0:bw) (w:aj) (X:bN w s q gg a0 p) (b6:p.Fit):jW 120 #[aT p s q gg a0] w (tx w p):=by
 have b7:=hI fun o hb=>WG p s q gg a0 o (X.below hb) b6
 have b8:bG (bX p-> ∀k (h:k<p.R.length) Y vo a1 o,jb w o->dY o Y vo a1 p.R[k]->jW 209 #[aT p s q gg a0,cZ #[p.R[k].id,p.R[k].E,p.R[k].X,Y,vo,a1,p.R[k].T]] o (VS o p p.R[k])):=
  fun J k h Y vo a1 o hb d7=>z01 p p.R[k] s q gg a0 Y vo a1 o (X.below hb) b6 d7 J (J.2.2 k h h)
 obtain⟨e1,e2,rfl,-⟩:=X.S;obtain⟨e3,e4,rfl,-⟩:=X.P;obtain⟨e5,e6,rfl,-⟩:=X.G;obtain⟨a4,k4,rfl,g4⟩:=X.R;refine Em fun e7=>?_;have d7:=b6.R;unfold aT at *;go_in;go_wp2_with fail;generalize hW:w.alloc _=W;have b9:=jG hW
 have K0:=hI b9
 have d8:bG (∀W',jb W W'->jc W' w 0 p.ver/\jc W' w 1 p.par/\jc W' w 2 (js e1 p.S e2)/\jc W' w 3 (js e3 p.P e4)/\jc W' w 4 (js e5 p.G e6)/\jc W' w 5 (js a4 p.R k4)/\w.heap.size<W'.heap.size):=fun W' hb=>
  ⟨aP hb (by rw[<-hW];simp),aP hb (by rw[<-hW];simp),aP hb (by rw[<-hW];simp),aP hb (by rw[<-hW];simp),aP hb (by rw[<-hW];simp),aP hb (by rw[<-hW];simp),Nl Qc hb.size⟩
 refine(b7 W K0).mono ?_;refine Qe fun _ a2=>?_;have H0:=hI a2;have K1:=jh K0 a2;by_cases J:bX p
 ·rw[Np J];have b4:=hI J;have c0:=hI (b8 J);obtain⟨y0,y1,y2,y3,y4,y5,e8⟩:=d8 _ H0;go_wp2_with fail;go_loopg [2,3,4,17] p.R.length (fun g i1 i2 i4 j wr=> ∃(k:av) (Z b2:ax bR) (d1 d2:av) (x1 x2:aq (aq bw)),k<=p.R.length/\g=p.R.length-k/\i1=cJ Z k d1/\i2=cJ b2 k d2/\i4= jV 0/\j= jV k/\jb W wr/\cR MA wr W 184 4 tT (js Z k d1) ((p.R.take k).map (cP p)) x1/\cR MA wr W 78 1 yC (js b2 k d2) ((p.R.take k).map (gK p)) x2/\wF p k)
  ·exact⟨0,bn,bn,0,0,[],[],ed,ed,rfl,rfl,rfl,rfl,H0,cR.nil,cR.nil,fun i f3 h=>cv h ed⟩
  obtain⟨k,Z,b2,d1,d2,x1,x2,f4,rfl,rfl,rfl,rfl,rfl,hb,ho,c1,e9⟩:=hrel;obtain⟨wo,rfl⟩: ∃wo:aj,wo=wr:=⟨_,rfl⟩;refine Qa fun HB H1=>?_;have H2:=hI c1;have d9:=hI e9;have HB0:=jh K0 hb;by_cases G9:k<p.R.length
  ·obtain⟨b,off,Y,vo,a1,rfl,x0,r1,r2,r3,r4,r5,r6,E⟩:=(e7 _ HB0).rt G9;obtain⟨ap,cp,rfl,-⟩:=E.A.at_;obtain⟨ao,co,rfl,-⟩:=E.O.at_;obtain⟨af,cf,rfl,-⟩:=E.fl;have c2:=hI E;refine Qb fun _ _=>?_;refine Qv fun _=>?_;go_upto_region 6 with fail;generalize hW6:wo.alloc _=W6;have hb6:=jG hW6;have H3:=jh HB hb6;refine YH fun K _ _ _ _ _ _ _=>?_;have H4:=hI (H1.below bQ hb6);have H5:=hI (H2.below bJ hb6);have H6:=hI (c2.below hb6);obtain⟨y0,y1,y2,y3,y4,y5,e8⟩:=d8 _ H3;have HCL:=hI (c0 k G9 _ _ _ W6 K H6);go_wp2_with fail;refine HCL.mono ?_;rintro e w7 ⟨F,a3⟩;have c3:=jh H3 F;have L:=jh K F;have H7:=hI (H4.below bQ F);have H8:=hI (H5.below bJ F);rcases a3 with⟨c4,rfl⟩ | ⟨c4,Y,vo,va,f7,rfl,o1,o2,o3,o4⟩
   ·have c5:bG (¬uU p):=fun h=>by have:=h k G9 G9;rw[c4]at this;cases this
    go_wp2_with fail;exact Nh (v:=dw #[jN,jN,jV 90]) Yw rfl ⟨L.alloc L.size _,.inr (.inl ⟨b4,c5,rfl⟩)⟩
   obtain⟨r,C,rfl⟩:=o1.slice;obtain⟨t,u,rfl⟩:=o2.slice;obtain⟨x,y,rfl⟩:=rR o3;obtain⟨G,I,rfl⟩:=rR o4;have c6:=hI (po G9 d9 c4);have f0:=hI o1;have c7:=hI (z04 o1);have f1:=hI o2;have f2:=hI o3;have O4:=hI o4;refine Vg ?_;generalize z:w7.alloc _=f;have c:=jG z;have H9:=jh c3 c;have u0:jc f w7 0 (js r p.R[k].A.length C):=(by rw[<-z];simp);have u1:jc f w7 1 (js t p.R[k].O.length u):=(by rw[<-z];simp);have u2:jc f w7 2 (js x (cP p p.R[k]).asks.length y):=(by rw[<-z];simp);have u3:jc f w7 3 (jV (cP p p.R[k]).near):=(by rw[<-z];simp);have R:=H7.below bQ c;have a5:=H8.below bJ c;have M:x1.length=k:=(by have:=R.len;simp at this;omega);have a6:x2.length=k:=(by have:=a5.len;simp at this;omega);have a7:=hI R;have N:=hI a5;have O:bG (f.ownsRow W 184 4 (js Z k d1) k (x1.flatMap id)):=(by have:=R.own;rw[M]at this;exact this);have c8:=hI M;have a8:=hI a6;have O0:bG (eP (jQ MA f) (js r p.R[k].A.length C) p.R[k].A):=DH (zH (bU f0 c) rfl);have O1:bG (eP (jQ MA f) (js t p.R[k].O.length u) p.R[k].O):=DH (zH (bU f1 c) rfl);have O2:bG (zL (jQ MA f) (js x (cP p p.R[k]).asks.length y) (cP p p.R[k]).asks):=aG.sl (zH (bU f2 c) rfl);have O3:bG (vH (jQ MA f) (js G (gK p p.R[k]).length I) (gK p p.R[k])):=fA.sl (zH (bU O4 c) rfl);have c9:bG (tT (jQ MA f) [cJ r p.R[k].A.length C,cJ t p.R[k].O.length u,cJ x (cP p p.R[k]).asks.length y,jV (cP p p.R[k]).near] (cP p p.R[k])):=⟨_,_,_,rfl,O0,O1,O2,c7⟩;have d0:bG (yC (jQ MA f) [cJ G (gK p p.R[k]).length I] (gK p p.R[k])):=⟨_,rfl,O3⟩;have d3:bG ((p.R.take (k+1)).map (cP p)=(p.R.take k).map (cP p)++[cP p p.R[k]]):=Md;have d4:bG ((p.R.take (k+1)).map (gK p)=(p.R.take k).map (gK p)++[gK p p.R[k]]):=Md;have l:k<=1000:=ed;have d:=H9.size;generalize cP p p.R[k]=b5 at *;generalize gK p p.R[k]=e0 at *
   go_wp2_with (first
    | (at_builtin;refine nT rfl _ _ 169 184 184 _ 4 80 rfl underlying169 z05 rfl eh eh W (js Z k d1) k _ rfl O l d [cJ r p.R[k].A.length C,cJ t p.R[k].O.length u,cJ x b5.asks y,jV b5.near] rfl rfl (z07 _ _ _ _ _ _ _ _ _ _) ?_;intro f8 f9 w8 T a;have a9:=Nj d (Nj ee a.size);have U:w8.ownsRow W 78 1 (js b2 k d2) k (x2.flatMap id):=by {have:=((N.below bJ ((Nb _ f).alloc ep _)).other bJ (O.alloc _) rfl eh a).own;rw[a8.o]at this;exact this})
    | (at_builtin;refine nT rfl _ _ 178 78 78 _ 1 24 rfl underlying178 z06 rfl eh eh W (js b2 k d2) k _ rfl U l a9 [cJ G e0 I] rfl rfl (z08 _ _ _) ?_;intro g0 g1 w9 V B))
   have n:jb f (f.alloc (cO [bw.slice r p.R[k].A.length C,cJ t p.R[k].O.length u,cJ x b5.asks y,jV b5.near].toArray 184)):=aR;have b0:=(a7.below bQ n).app bQ rfl rfl (bQ _ _ _ _ (dS.of_below n).ext c9) (by rw[c8.o];exact T) a;have b1:=(N.below bJ n).other bJ (O.alloc _) rfl eh a;have D:jb w8 (w8.alloc (cO [bw.slice G e0 I].toArray 78)):=aR;have b3:=bJ _ _ _ _ ((dS.of_below n).trans (uT (O.alloc _) rfl a)).ext d0;have P:=(b1.below bJ D).app bJ rfl rfl (bJ _ _ _ _ (dS.of_below D).ext b3) (by rw[a8.o];exact V) B;have Q:=(b0.below bQ D).other bQ (U.alloc _) rfl eh B;have d5:=(H9.alloc d _).trans (dT (O.alloc _) ep em a);have d6:=(d5.alloc a9 _).trans (dT (U.alloc _) ep em B);rw[<-d3.o]at Q;rw[<-d4.o]at P;go_roundg (p.R.length-(k+1))
   ·go_light;exact⟨k+1,_,_,_,_,_,_,ed,ed,rfl,rfl,rfl,ej,d6,Q,P,c6⟩
   go_light;omega
  obtain rfl:k=p.R.length:=ed;go_wp2_with fail;have h1:=H1.slM bQ z02 rfl;have h2:=H2.sl bJ;rw[Ph]at h1 h2;exact Nh (v:=dw #[js Z p.R d1,js b2 p.R d2,jV 0]) Yw rfl ⟨HB0,.inr (.inr ⟨b4,d9,_,_,rfl,h1,h2⟩)⟩
 rw[Nm J];have b4:=hI J;go_wp2_with fail;exact Nh (v:=dw #[jN,jN,jV 8]) Yw rfl ⟨K1,.inl ⟨b4,rfl⟩⟩
def bS (p:Pl):Prop:=bX p/\uU p/\uQ p p.R
instance (p:Pl):cG (bS p):=by unfold bS;exact cx
def aB.wy {w:aj}{cap:av}{l:aq Wy}(h:aB w 4 tT a cap l)(d:i<l.length): ∃b off V vo va,a=bt ⟨b,off,bn⟩/\jc w b (off+i * 4) V/\jc w b (off+i * 4+1) vo/\jc w b (off+i * 4+2) va/\jc w b (off+i * 4+3) l[i].near/\eP w V l[i].A/\eP w vo l[i].O/\zL w va l[i].asks:=by
 obtain⟨b,off,f,e,hl,c,V,vo,va,rfl,h1,h2,h3,-⟩:=h.at_ i d;exact⟨b,off,V,vo,va,e,c 0 ee,c 1 ee,c 2 ee,c 3 ee,h1,h2,h3⟩
def aB.wyc {w:aj}{cap:av}{l:aq Wy}(h:aB w 4 tT a cap l)(d:i<l.length): ∃b off V vo va,a=bt ⟨b,off,bn⟩/\jc w b (off+i * 4) V/\jc w b (off+i * 4+1) vo/\jc w b (off+i * 4+2) va/\jc w b (off+i * 4+3) l[i].near/\eP w V l[i].A/\eP w vo l[i].O/\zL w va l[i].asks/\LN V:=by
 obtain⟨b,off,f,e,hl,c,V,vo,va,rfl,h1,h2,h3,h4⟩:=h.at_ i d;exact⟨b,off,V,vo,va,e,c 0 ee,c 1 ee,c 2 ee,c 3 ee,h1,h2,h3,h4⟩
def aB.jl {w:aj}{cap:av}{l:aq (aq Jn)}(h:aB w 1 yC a cap l)(c:i<l.length): ∃b off v,a=bt ⟨b,off,bn⟩/\jc w b (off+i) v/\vH w v l[i]:=by
 obtain⟨b,off,V,e,hl,d,v,rfl,h1⟩:=h.at_ i c;exact⟨b,off,v,e,by simpa using d 0 ee,h1⟩
theorem LM (p:Pl) (s q gg R:bw) (w:aj) (J:bN w s q gg R p) (a2:p.Fit):jW 58 #[aT p s q gg R] w (uZ w (if bS p then 0 else 100)):=by
 have H0:=hI fun r c=>VR p s q gg R r (J.below c) a2
 have K:bG (∀k (h:k<p.R.length) V vo L a cap (outs:aq Jn) r,jb w r->dY r V vo L p.R[k]->aB r 2 fI a cap outs->outs.length<=1000->p.R[k].A.length<=6->p.R[k].A.length<=outs.length->jW 122 #[aT p s q gg R,cZ #[p.R[k].id,p.R[k].E,p.R[k].X,V,vo,L,p.R[k].T],js a outs cap] r (bY r (ab (oC p p.R[k] outs)))):=
  fun k h V vo L a cap outs r c h1 h2 h3 h4 h5=>z0b p p.R[k] s q gg R V vo L a cap outs r (J.below c) a2 h1 h2 h3 h4 h5
 have Z:bG (∀n:ar,(bS p->n=0)->(¬bS p->n=100)->(if bS p then(0:ar)else 100)=n):=fun n h1 h2=>by
  by_cases h:bS p
  ·rw[Np h,h1 h]
  rw[Nm h,h2 h]
 have c9:bG (bS p↔bX p/\uU p/\uQ p p.R):=To;generalize(if bS p then(0:ar)else 100)=E at *;obtain⟨b4,c1,rfl,-⟩:=J.S;obtain⟨b5,c2,rfl,-⟩:=J.P;obtain⟨b6,c3,rfl,-⟩:=J.G;obtain⟨a4,k4,rfl,g4⟩:=J.R;refine Em fun d0=>?_;have e0:=a2.R;unfold aT at *;go_in;go_wp2_with fail;generalize hW:w.alloc _=W;have a3:=jG hW
 have K0:=hI a3
 have b7:bG (∀W',jb W W'->jc W' w 0 p.ver/\jc W' w 1 p.par/\jc W' w 2 (js b4 p.S c1)/\jc W' w 3 (js b5 p.P c2)/\jc W' w 4 (js b6 p.G c3)/\jc W' w 5 (js a4 p.R k4)/\w.heap.size<W'.heap.size):=fun W' c=>
  ⟨aP c (by rw[<-hW];simp),aP c (by rw[<-hW];simp),aP c (by rw[<-hW];simp),aP c (by rw[<-hW];simp),aP c (by rw[<-hW];simp),aP c (by rw[<-hW];simp),Nl Qc c.size⟩
 refine(H0 W K0).mono ?_;rintro e w1 ⟨M,N⟩;have O:=hI M;have K1:=jh K0 M;rcases N with⟨hb,rfl⟩ | ⟨hb,ho,rfl⟩ | ⟨hb,ho,v1,v2,rfl,a5,a6⟩
 ·have HE:=hI (Z 100 (fun h=>cv h.1 hb) (fun _=>rfl));refine ei ?_;exact Uk
 ·have HE:=hI (Z 100 (fun h=>cv h.2.1 ho) (fun _=>rfl));refine ei ?_;exact Uk
 refine Qa fun a0 P=>?_;obtain⟨d3,d1,rfl,h1⟩:=Sl.ext bQ a5 (DI MG w1);obtain⟨d4,d2,rfl,h2⟩:=a6;have H1:bG (∀W',jb w1 W'->aB W' 4 tT d3 d1 (p.R.map (cP p))):=fun W' c=>h1.below bQ.keeps c;have H2:bG (∀W',jb w1 W'->aB W' 1 yC d4 d2 (p.R.map (gK p))):=fun W' c=>h2.below bJ.keeps c;have a7:(p.R.map (cP p)).length=p.R.length:=Pn _;have a8:(p.R.map (gK p)).length=p.R.length:=Pn _;rw[a7,a8];obtain⟨y0,y1,y2,y3,y4,y5,d5⟩:=b7 _ O;go_wp2_with fail;go_loopg [19] p.R.length (fun g j wr=> ∃k:av,k<=p.R.length/\g=p.R.length-k/\j= jV k/\jb w1 wr/\uQ p k)
 ·exact⟨0,ed,ed,rfl,Nb _ _,fun i e1 h=>cv h ed⟩
 obtain⟨k,e2,rfl,rfl,c,d6⟩:=hrel;obtain⟨wo,rfl⟩: ∃wo:aj,wo=wr:=⟨_,rfl⟩;have HB:=hI c;have b8:=hI d6;have H3:=jh O c;have C:=jh K1 c;by_cases G9:k<p.R.length
 ·obtain⟨b,off,V,vo,L,rfl,x0,r1,r2,r3,r4,r5,r6,u⟩:=(d0 _ C).rt G9;obtain⟨ap,b9,rfl,-⟩:=u.A.at_;obtain⟨c0,c4,rfl,-⟩:=u.O.at_;obtain⟨c5,c6,rfl,-⟩:=u.fl;have H4:=hI u;refine Qb fun _ _=>?_;refine Qv fun _=>?_;go_upto_region 7 with fail;generalize o:wo.alloc _=l;have x:=jG o;have y:=jh HB x;have f:=jh C x;have Q:=jh H3 x;have q0:=Ng (show jc l wo 0 p.R[k].id by rw[<-o];simp);have q1:=Ng (show jc l wo 1 p.R[k].E by rw[<-o];simp);have q2:=Ng (show jc l wo 2 p.R[k].X by rw[<-o];simp);have q3:=Ng (show jc l wo 3 (js ap p.R[k].A.length b9) by rw[<-o];simp);have q4:=Ng (show jc l wo 4 (js c0 p.R[k].O.length c4) by rw[<-o];simp);have q5:=Ng (show jc l wo 5 (js c5 p.R[k].fl.length c6) by rw[<-o];simp);have q6:=Ng (show jc l wo 6 p.R[k].T by rw[<-o];simp);obtain⟨y0,y1,y2,y3,y4,y5,d5⟩:=b7 _ Q;have z0:=Ng y0;have z1:=Ng y1;have z2:=Ng y2;have z3:=Ng y3;have z4:=Ng y4;have z5:=Ng y5;obtain⟨d7,o0,e5,w0,e6,rfl,x1,e7,x2,x3,i1,i2,i3⟩:=(H1 _ y).wy (i:=k) (by rw[Pn];exact G9);obtain⟨d8,o1,e8,rfl,d9,a1⟩:=(H2 _ y).jl (i:=k) (by rw[Pn];exact G9);rw[Gg]at i3 a1;obtain⟨aa,ca,rfl,i3⟩:=i3;obtain⟨c7,c8,rfl,a1⟩:=a1;have u2:=Ng x2;have e9:=Ng d9;have T:=hI (H4.below x);have hMk:=a0.2.2 k G9 G9;have a9:=jw a0.1.2.2.2.2.2.1 a0.2.1.1.1.1 hMk.2.2
  have b0:(cP p p.R[k]).asks.length<=1000:=by
   refine YJ fun h1 h2 h3 h4 h5 _=>?_;unfold kE at h1 ⊢;omega
  have b1:(gK p p.R[k]).length<=1000:=by
   have h2:=(uV p p.R[k] (aI p.R[k]).length).2;have h3:(aI p.R[k]).length=p.R[k].A.length+p.R[k].O.length:=Mx;have h4:=hMk.1.2.2.2.2.1;have h5:=hMk.1.2.2.2.2.2.1;unfold gK kE;omega
  have b2:=qd p p.R[k] (P k G9 G9);have b3:=hMk.1.2.2.2.2.1;have cN:bG (∀d os,jW 121 #[js aa (cP p p.R[k]).asks.length ca] (grow (cF l d) os) fun e D=>e=cL (db (ab (nS (cP p p.R[k]).asks)))/\ ∃U:Regrown,D=grow (cF l U.d) U.os):=fun d os=>Ps (z0a aa ca _ _ (i3.below DX (Nr l d os)) b0 a9);have cS:bG (∀d os,jW 122 #[cZ #[p.ver,p.par,js b4 p.S c1,js b5 p.P c2,js b6 p.G c3,jq b off p.R k4],cZ #[p.R[k].id,p.R[k].E,p.R[k].X,js ap p.R[k].A.length b9,js c0 p.R[k].O.length c4,js c5 p.R[k].fl.length c6,p.R[k].T],js c7 (gK p p.R[k]).length c8] (grow (cF l d) os) fun e D=>e=cL (db (ab (oC p p.R[k] (gK p p.R[k]))))/\ ∃U:Regrown,D=grow (cF l U.d) U.os):=fun d os=>Ps (K k G9 _ _ _ c7 c8 _ _ (f.trans ((Nr l d os).mono f.size)) (T.below (Nr l d os)) (a1.below lB (Nr l d os)) b1 b3 b2);have F:bG (AD p p.R[k]↔nS (cP p p.R[k]).asks/\oC p p.R[k] (gK p p.R[k])):=To;have H5:=hI (pm G9 b8);have X:=hI fun h=>Z 100 (fun h'=>cv (h'.2.2 k G9 G9) h) (fun _=>rfl);by_cases z:nS (cP p p.R[k]).asks
  ·have G:=Ni z;rw[G]at cN;by_cases B:oC p p.R[k] (gK p p.R[k])
   ·have I:=Ni B;rw[I]at cS;have t:=hI (H5 (F.2 ⟨z,B⟩));refine Mz ef ef ?_
    repeat (go_big_quiet_step (first | (with_reducible exact cN.o _ _) | (with_reducible exact cS.o _ _)))
    refine cl ?_;rintro _ ⟨⟨Y,osq⟩,rfl⟩;go_wp2_with fail;go_roundg (p.R.length-(k+1))
    ·go_light;exact⟨k+1,ed,ed,ej,y.trans ((Nr l Y osq).mono y.size),t⟩
    go_light;omega
   have I:=Mw B;rw[I]at cS;have t:=hI (X (fun h=>B (F.1 h).2));refine Mz ef ef ?_
   repeat (go_big_quiet_step (first | (with_reducible exact cN.o _ _) | (with_reducible exact cS.o _ _)))
   refine cl ?_;rintro _ ⟨⟨Y,osq⟩,rfl⟩;refine ei ?_;exact⟨dU t.symm,f.trans ((Nr l Y osq).mono f.size)⟩
  have G:=Mw z;rw[G]at cN;have t:=hI (X (fun h=>z (F.1 h).1));refine Mz ef ef ?_
  repeat (go_big_quiet_step (first | (with_reducible exact cN.o _ _) | (with_reducible exact cS.o _ _)))
  refine cl ?_;rintro _ ⟨⟨Y,osq⟩,rfl⟩;refine ei ?_;exact⟨dU t.symm,f.trans ((Nr l Y osq).mono f.size)⟩
 obtain rfl:k=p.R.length:=ed;have H6:=hI (Z 0 (fun _=>rfl) (fun h'=>cv (c9.2 ⟨a0,P,b8⟩) h'));refine ei ?_;exact⟨dU H6.symm,C⟩
open Go.Maps
structure dL (W:aj) (g:av) (H A:av->ar) (v:bw):Prop where
 row: ∃cur:aL bw,jk W g cur 171/\cur.size=201/\(∀q,q<100->cur[q]? =bt (cW dr (H q)))/\(∀q,q<100->cur[100+q]? =bt (cW dr (A q)))/\cur[200]? =bt v
section
variable {W W':aj}{g:av}{H A:av->ar}{v:bw}
def dL.lt (h:dL W g H A v):g<W.heap.size:=by
 obtain⟨cur,a,-⟩:=h.row;exact aD a
def dL.same (h:dL W g H A v) (a:W'.heap[g]? =W.heap[g]?):dL W' g H A v:=by
 obtain⟨cur,b,h1⟩:=h.row;exact⟨cur,a.trans b,h1⟩
def dL.holder (h:dL W g H A v)(hq:q<100):jc W g q (cW dr (H q)):=by
 obtain⟨cur,a,-,h1,-⟩:=h.row;rw[Mu W g q cur _ _ a];exact h1 q hq
def dL.asked (h:dL W g H A v)(hq:q<100):jc W g (100+q) (cW dr (A q)):=by
 obtain⟨cur,a,-,-,h1,-⟩:=h.row;rw[Mu W g _ cur _ _ a];exact h1 q hq
def dL.ways (h:dL W g H A v):jc W g 200 v:=by
 obtain⟨cur,a,-,-,-,h1⟩:=h.row;rw[Mu W g _ cur _ _ a];exact h1
def dL.frozen (h:dL W g H A v) (q:av):W.frozen? ⟨g,q,bn⟩=aW:=by
 obtain⟨cur,a,-⟩:=h.row;simp[aj.frozen?,a]
def dL.setH (h:dL W g H A v)(hq:q<100) (x:ar):dL (W.setCell ⟨g,q,bn⟩ (cW dr x)) g (fun i=>if i=q then x else H i) A v:=by
 obtain⟨cur,hc,hz,h1,h2,h3⟩:=h.row;refine⟨cur.setIfInBounds q (cW dr x),Uq,Qh,fun i a=> ?_,fun i a=> ?_,?_⟩
 ·rw[Dz];by_cases e:q=i
  ·subst e;simp[hz];omega
  rw[Nm e,Nm (Sr e)];exact h1 i a
 ·rw[Dz,Nm ed];exact h2 i a
 rw[Dz,Nm ed];exact h3
def dL.setA (h:dL W g H A v)(hq:q<100) (x:ar):dL (W.setCell ⟨g,100+q,bn⟩ (cW dr x)) g H (fun i=>if i=q then x else A i) v:=by
 obtain⟨cur,hc,hz,h1,h2,h3⟩:=h.row;refine⟨cur.setIfInBounds (100+q) (cW dr x),Uq,Qh,fun i a=> ?_,fun i a=> ?_,?_⟩
 ·rw[Dz,Nm ed];exact h1 i a
 ·rw[Dz];by_cases e:q=i
  ·subst e;simp[hz];omega
  rw[Nm ed,Nm (Sr e)];exact h2 i a
 rw[Dz,Nm ed];exact h3
def dL.setV (h:dL W g H A v) (u:bw):dL (W.setCell ⟨g,200,bn⟩ u) g H A u:=by
 obtain⟨cur,hc,hz,h1,h2,h3⟩:=h.row;refine⟨cur.setIfInBounds 200 u,Uq,Qh,fun i a=> ?_,fun i a=> ?_,?_⟩
 ·rw[Dz,Nm ed];exact h1 i a
 ·rw[Dz,Nm ed];exact h2 i a
 rw[Dz];simp[hz]
end
structure kN (W:aj) (gR gG:av) (g:Gr) (v:bw):Prop where
 ok:jk W gR #[db g.ok] 4
 row:dL W gG g.H g.A v
structure Tw (gR gG:av) (W W':aj):Prop where
 os:W'.os=W.os
 tape:W'.tape=W.tape
 output:W'.output=W.output
 size:W.heap.size<=W'.heap.size
 block: ∀k,k<W.heap.size->k≠gR->k≠gG->W'.heap[k]? =W.heap[k]?
def Tw.refl (gR gG:av) (W:aj):Tw gR gG W W:=⟨rfl,rfl,rfl,Mv _,fun _ _ _ _=>rfl⟩
def Tw.trans {a b c:aj}(h:Tw gR gG a b) (k:Tw gR gG b c):Tw gR gG a c:=⟨k.os.trans h.os,k.tape.trans h.tape,k.output.trans h.output,Nj h.size k.size,fun i h1 h2 h3=>(k.block i (Nl h1 h.size) h2 h3).trans (h.block i h1 h2 h3)⟩
def Tw.of_below (a:jb W W'):Tw gR gG W W':=⟨a.os,a.tape,a.output,a.size,fun k b _ _=>a.block k b⟩
def Tw.setR (W:aj) (o:av) (v:bw):Tw gR gG W (W.setCell ⟨gR,o,bn⟩ v):=⟨rfl,rfl,rfl,ZL,fun k _ h _=>Ny W _ v k h⟩
def Tw.setG (W:aj) (o:av) (v:bw):Tw gR gG W (W.setCell ⟨gG,o,bn⟩ v):=⟨rfl,rfl,rfl,ZL,fun k _ _ h=>Ny W _ v k h⟩
def Tw.below (h:Tw gR gG W W') (h1:B<=gR) (h2:B<=gG) (h3:B<=W.heap.size):cB B W W':=⟨h.os,h.tape,h.output,h.size,fun k a=>h.block k ed ed ed⟩
def kN.below {g:Gr}{v:bw}(h:kN W gR gG g v) (a:jb W W'):kN W' gR gG g v:=
 ⟨(jm a h.ok),h.row.same (a.block _ h.row.lt)⟩
def kN.hold {g:Gr}{v:bw}(h:kN W gR gG g v) (n1:gR≠gG){n:av}(a:n<100) (id:ar) (b:aU):kN ((W.setCell ⟨gR,0,bn⟩ (db b)).setCell ⟨gG,n,bn⟩ (cW dr id)) gR gG ⟨fun q=>if q=n then id else g.H q,g.A,b⟩ v:=
 ⟨(Ny _ _ _ gR n1).trans (by simp[cd,Nk,h.ok]),(h.row.same (Ny W ⟨gR,0,bn⟩ _ gG (Sr n1))).setH a id⟩
def kN.ask {g:Gr}{v:bw}(h:kN W gR gG g v) (n1:gR≠gG){n:av}(a:n<100) (x:ar) (b:aU):kN ((W.setCell ⟨gR,0,bn⟩ (db b)).setCell ⟨gG,100+n,bn⟩ (cW dr x)) gR gG ⟨g.H,fun q=>if q=n then x else g.A q,b⟩ v:=
 ⟨(Ny _ _ _ gR n1).trans (by simp[cd,Nk,h.ok]),(h.row.same (Ny W ⟨gR,0,bn⟩ _ gG (Sr n1))).setA a x⟩
def dO (W:aj) (b:av) (n:av) (f:ar->ar):Prop:= ∃D:DataW Unit,W.ownsMap prog 3 (plainElem prog 3) b n D/\IsMap D/\ ∀c:ar,(Lit.int dr c).wf=bl->D.atKey (.int dr c) (.lit (.int dr 0))= .lit (.int dr (f c))
def dO.same {n:av}{f:ar->ar}(h:dO W b n f) (a:W'.heap[b]? =W.heap[b]?):dO W' b n f:=by
 obtain⟨D,⟨e,c,d,F,i,j⟩,h2,h3⟩:=h;exact⟨D,⟨e,c,a.trans d,F,i,j⟩,h2,h3⟩
def dO.lt {n:av}{f:ar->ar}(h:dO W b n f):b<W.heap.size:=by
 obtain⟨D,h1,-⟩:=h;exact h1.lt
def VQ:Keyed prog 3:=int_keyed underlying3
def z09 (w:aj):(zeroValue 3).run prog w= .ok (jV 0) w:=by kernel_rfl
def LK {c:ar}(h1: -1000<=c) (h2:c<=1000):(Lit.int dr c).wf=bl:=WalkArith.wf_i64 ed
def z1a (args:aL bw) (w:aj):Sem.run prog (callFunc 292 args) w= .ok (.enter 292 args) w:=by simp[go_sem]
def z1b (args:aL bw) (w:aj):Sem.run prog (callFunc 294 args) w= .ok (.enter 294 args) w:=by simp[go_sem]
def uM (W:aj) (gR gG:av) (v:bw) (g':Gr) (e:Ending) (W':aj):Prop:=e=cL (db g'.ok)/\kN W' gR gG g' v/\Tw gR gG W W'
def z1c (gR gG a:av) (g:Gr) (v:bw) (id s:ar) (W:aj) (h:kN W gR gG g v) (hl:jc W a 0 id) (h0:0<=s) (h1:s<=99) (n1:gR≠gG) (n2:a≠gR) (n3:a≠gG):
  Calls prog 292 (#[cW dr s]++#[cY (bt ⟨gR,0,bn⟩),cY (bt ⟨gG,0,bn⟩),cY (bt ⟨a,0,bn⟩)]) W (uM W gR gG v (mF id g s)):=by
 obtain⟨n,rfl⟩:=Ds h0;have d:=hI h;have b:n<100:=ed
 have y0:=ji 0 h.ok;have y1:W.frozen? ⟨gR,0,bn⟩=aW:=by simp[aj.frozen?,h.ok]
 have z0:=h.row.holder b;have z1:=h.row.frozen n;have l0:=aD h.ok;have l1:=h.row.lt;have l2:=My _ _ hl;have i0:=aQ n
 have i1:(n:ar)<100:=ed
 have HE:bG (mF id g (n:ar)=⟨fun q=>if q=n then id else g.H q,g.A,g.ok&&ab (g.H n=0)⟩):=rfl;generalize mF id g (n:ar)=G at *;cases hok:g.ok with
 | true=>
  rw[hok]at y0;have HOK:bG (G.ok=(g.H n==0)):=by show _=_;rw[HE.o];simp[hok];rw[Dh];simp
  go_in;refine ei ?_;refine⟨aH HOK.symm,?_,(Tw.setR _ _ _).trans (Tw.setG _ _ _)⟩;have c:G=⟨fun q=>if q=n then id else g.H q,g.A,g.H n==0⟩:=Zr
  rw[c];exact d.hold n1 b id _
 | false=>
  rw[hok]at y0;have HOK:bG (G.ok=aW):=by show _=_;rw[HE.o];simp[hok]
  go_in;refine ei ?_;refine⟨aH HOK.symm,?_,(Tw.setR _ _ _).trans (Tw.setG _ _ _)⟩;have c:G=⟨fun q=>if q=n then id else g.H q,g.A,aW⟩:=Zr
  rw[c];exact d.hold n1 b id _
def dO.look {n:av}{f:ar->ar}(h:dO W b n f){c:ar}(e:(Lit.int dr c).wf=bl):(Instr.lookup 357 (.map (bt b)) (jV c) aW).run prog W= .ok (jV (f c)) W:=by
 obtain⟨D,h1,-,h3⟩:=h;obtain⟨x,d,a,-⟩:=h1.lookup_int VQ underlying357 underlying3 (z09 W) (keyOf_int_mk underlying3 e);rw[h3 c e]at a
 injection a with a
 injection a with _ a
 rw[a];exact d
def z1d (gR gM gG b:av) (m:av) (f:ar->ar) (g:Gr) (v:bw) (x:dV) (W:aj) (h:kN W gR gG g v) (hl:jc W gM 0 (.map (bt b))) (e:dO W b m f) (h0:1<=x.pt) (h1:x.pt<=99) (n1:gR≠gG) (n2:gM≠gR) (n3:gM≠gG):
  Calls prog 294 (#[cZ #[x.pt,x.lie,x.pl]]++#[cY (bt ⟨gR,0,bn⟩),cY (bt ⟨gM,0,bn⟩),cY (bt ⟨gG,0,bn⟩)]) W (uM W gR gG v (mE f g x)):=by
 obtain⟨pt,lie,pl⟩:=x;simp only[]at h0 h1 ⊢;obtain⟨n,rfl⟩:=Ds (show 0<=pt by omega);have i:=hI h;have a:n<100:=ed
 have y0:=ji 0 h.ok;have y1:W.frozen? ⟨gR,0,bn⟩=aW:=by simp[aj.frozen?,h.ok]
 have z0:=h.row.asked a;have z1:=h.row.frozen (100+n);have l0:=aD h.ok;have l1:=h.row.lt;have l2:=My _ _ hl;have i0:=aQ n
 have i1:(n:ar)<100:=ed
 have c:bG (∀W',jb W W'->(Instr.lookup 357 (.map (bt b)) (cW dr (n:ar)) aW).run prog W'= .ok (cW dr (f n)) W'):=fun W' j=>(e.same (j.block _ e.lt)).look (LK ed ed);have HE:bG (mE f g ⟨(n:ar),lie,pl⟩=⟨g.H,fun q=>if q=n then lie else g.A q,g.ok&&ab (f (n:ar)=lie)⟩):=rfl;generalize mE f g ⟨(n:ar),lie,pl⟩=G at *;have k:=c (W.alloc (cO #[cW dr (n:ar),lie,pl] 281)) aR;cases hok:g.ok with
 | true=>
  rw[hok]at y0;have HOK:bG (G.ok=(f (n:ar)==lie)):=by show _=_;rw[HE.o];simp[hok];rw[Dh];simp
  go_in;refine ei ?_;refine⟨aH HOK.symm,?_,?_⟩
  ·have d:G=⟨g.H,fun q=>if q=n then lie else g.A q,f (n:ar)==lie⟩:=Zr;rw[d];exact(i.ask n1 a lie _).below aR
  exact((Tw.setR _ _ _).trans (Tw.setG _ _ _)).trans (Tw.of_below aR)
 | false=>
  rw[hok]at y0;have HOK:bG (G.ok=aW):=by show _=_;rw[HE.o];simp[hok]
  go_in;refine ei ?_;refine⟨aH HOK.symm,?_,?_⟩
  ·have d:G=⟨g.H,fun q=>if q=n then lie else g.A q,aW⟩:=Zr;rw[d];exact(i.ask n1 a lie _).below aR
  exact((Tw.setR _ _ _).trans (Tw.setG _ _ _)).trans (Tw.of_below aR)
def CZ (W:aj) (gR gG:av) (v:bw) (g':Gr) (e:Ending) (W':aj):Prop:=e=cL (dw #[])/\kN W' gR gG g' v/\Tw gR gG W W'
theorem z1e (gR gM gG b:av) (m:av) (f:ar->ar) (g:Gr) (v:bw) (c:Wy) (l:Lk) (a1 vo:bw) (aa:ax bR) (ca:av) (W:aj) (h:kN W gR gG g v) (hl:jc W gM 0 (.map (bt b))) (E:dO W b m f) (t:oD c.asks) (n1:gR≠gG) (n2:gM≠gR) (n3:gM≠gG)
  (a2: ∀W',Tw gR gG W W'->aB W' 3 qH aa ca c.asks) (a4:c.asks.length<=1000):
  Calls prog 293 #[cZ #[a1,vo,js aa c.asks.length ca,c.near],cZ #[l.id,cW .u8 l.ph,l.gone,l.left],.func (.func 294) #[] #[jp gR 0,jp gM 0,jp gG 0]] W (CZ W gR gG v (lK f (mG c l) g)):=by
 have a5:=z1b;have b4:=aD h.ok;have b5:=h.row.lt;have a6:gM<W.heap.size:=My _ _ hl;have a7:=hI a2;have a3:=hI h;have T:=hI t;have U:bG (∀W',Tw gR gG W W'->jc W' gM 0 (.map (bt b))):=fun W' ho=>(Pj (w:=W) (ho.block gM a6 n2 n3)).trans hl
 have V:bG (∀W',Tw gR gG W W'->dO W' b m f):=fun W' ho=>E.same (ho.block b E.lt (fun e=>by
  subst e;obtain⟨D,⟨a8,C,u,_⟩,_⟩:=E;rw[h.ok]at u
  cases u) (fun e=>by
  subst e;obtain⟨D,⟨a8,C,u,_⟩,_⟩:=E;obtain⟨cur,a9,_⟩:=h.row.row;rw[a9]at u
  cases u))
 have HE:bG (mG c l=if l.ph=0 then []else c.asks.filter fun a=>ab (a.pl<0\/l.gone<=a.pl)):=rfl;generalize mG c l=L at *;clear h hl E t a2;by_cases h0:l.ph=0
 ·have b0:(l.ph==0)=bl:=by rw[Da];exact h0
  rw[Np h0]at HE;have b1:=HE.o;subst b1;clear h0;go_in;go_wp2_with fail;have u:jb W ((W.alloc (cO #[a1,vo,js aa c.asks.length ca,c.near] 184)).alloc (cO #[l.id,cW .u8 l.ph,l.gone,l.left] 99)):=aR.alloc ee _;exact Nh (v:=dw #[]) Zx rfl ⟨rfl,a3.below u,Tw.of_below u⟩
 have b0:(l.ph==0)=aW:=by exact Ua
 rw[Nm h0]at HE;go_in;go_wp2_with fail;generalize hW:(W.alloc _).alloc _=P;have F:=eN hW
 have X:bG (Tw gR gG W P):=Tw.of_below F
 have G:bG (∀W',Tw gR gG P W'->jc W' (W.heap.size+1) 2 l.gone/\W.heap.size+1<W'.heap.size):=fun W' ho=>
  ⟨(Pj (w:=P) (ho.block (W.heap.size+1) Qc ed ed)).trans ZF,Nl Qc ho.size⟩
 have Y:=hI (a3.below F);go_loopg [14] c.asks.length (fun b2 i wr=> ∃(k:av) (gk:Gr),k<=c.asks.length/\b2=c.asks.length-k/\i=cW dr k/\kN wr gR gG gk v/\Tw gR gG P wr/\lK f L g=lK f ((c.asks.drop k).filter fun a=>ab (a.pl<0\/l.gone<=a.pl)) gk)
 ·exact⟨0,g,ed,ed,rfl,Y,Tw.refl _ _ _,ew⟩
 obtain⟨k,gk,b6,rfl,rfl,hb,ho,Z⟩:=hrel;obtain⟨B,rfl⟩: ∃B:aj,B=wr:=⟨_,rfl⟩;have I:=hI hb;have J:=hI ho;have x:=hI Z;have y:=hI (X.trans ho);by_cases G9:k<c.asks.length
 ·have a0:=bL G9;obtain⟨bb,off,rfl,x0,x1,x2⟩:=(a7 _ y).ask G9;have c0:=aQ k;have c1:=aN G9;have lb:=My _ _ x0;obtain⟨y2,b7⟩:=G _ J;have K:=hI (aq.drop_eq_getElem_cons G9);have M:=T c.asks[k] (Nn G9);go_upto_region 5 with fail;generalize r:B.alloc _=Q;have z:=jG r;have s:=hI (J.trans (Tw.of_below z));have p:=hI (y.trans (Tw.of_below z));have N:=hI (I.below z);have j0:jc Q B.heap.size 0 c.asks[k].pt:=(by rw[<-r];simp);have j1:jc Q B.heap.size 1 c.asks[k].lie:=(by rw[<-r];simp);have j2:jc Q B.heap.size 2 c.asks[k].pl:=(by rw[<-r];simp);have y2:=(G _ s).1;have HCL:=hI (z1d gR gM gG b m f gk v c.asks[k] Q N (U _ p) (V _ p) M.1 M.2 n1 n2 n3);by_cases hi:c.asks[k].pl<0\/l.gone<=c.asks[k].pl
  ·have q:bG (lK f L g=if(mE f gk c.asks[k]).ok then lK f ((c.asks.drop (k+1)).filter fun a=>ab (a.pl<0\/l.gone<=a.pl)) (mE f gk c.asks[k])else mE f gk c.asks[k]):=by
    show _=_;rw[x.o,K.o,aq.filter_cons_of_pos Og];rfl
   generalize b3:mE f gk c.asks[k]=R at *;have t0:=Py;by_cases O:c.asks[k].pl<0
   ·have t1:=jT O;cases hok:R.ok with
    | true=>
     unfold uM at HCL;rw[hok]at HCL;rw[hok]at q;go_wp2_with fail;refine HCL.mono ?_;rintro e w2 ⟨rfl,d,j⟩;have n:=hI d;have o:=hI (s.trans j);go_wp2_with fail;go_roundg (c.asks.length-(k+1))
     ·go_light;exact⟨k+1,R,ed,ed,ej,n,o,by simpa using q.o⟩
     go_light;omega
    | false=>
     unfold uM at HCL;rw[hok]at HCL;rw[hok]at q;go_wp2_with fail;refine HCL.mono ?_;rintro e w2 ⟨rfl,d,j⟩;have n:=hI d;have o:=hI (p.trans j);go_wp2_with fail;refine Nh (v:=dw #[]) Zx rfl ⟨rfl,?_,o⟩;have hF:=q.o;simp at hF;rw[hF];exact n
   have t1:=jU O;have t2:ab (l.gone<=c.asks[k].pl)=bl:=em;cases hok:R.ok with
   | true=>
    unfold uM at HCL;rw[hok]at HCL;rw[hok]at q;go_wp2_with fail;refine HCL.mono ?_;rintro e w2 ⟨rfl,d,j⟩;have n:=hI d;have o:=hI (s.trans j);go_wp2_with fail;go_roundg (c.asks.length-(k+1))
    ·go_light;exact⟨k+1,R,ed,ed,ej,n,o,by simpa using q.o⟩
    go_light;omega
   | false=>
    unfold uM at HCL;rw[hok]at HCL;rw[hok]at q;go_wp2_with fail;refine HCL.mono ?_;refine Vt fun _ _ j n=>?_;have o:=hI (p.trans j);go_wp2_with fail;refine Nh (v:=dw #[]) Zx rfl ⟨rfl,?_,o⟩;have hF:=q.o;simp at hF;rw[hF];exact n
  have t1:ab (c.asks[k].pl<0)=aW:=em;have t2:ab (l.gone<=c.asks[k].pl)=aW:=by simp;omega
  have q:bG (lK f L g=lK f ((c.asks.drop (k+1)).filter fun a=>ab (a.pl<0\/l.gone<=a.pl)) gk):=by
   show _=_;rw[x.o,K.o,aq.filter_cons_of_neg Og]
  go_wp2_with fail;go_roundg (c.asks.length-(k+1))
  ·go_light;exact⟨k+1,gk,ed,ed,ej,N,s,q⟩
  go_light;omega
 obtain rfl:k=c.asks.length:=ed;have a0:=bZ G9
 have q:bG (lK f L g=gk):=by
  show _=_;rw[x.o,Te];rfl
 go_wp2_with fail;refine Nh (v:=dw #[]) Zx rfl ⟨rfl,?_,y⟩;rw[q.o];exact I
def IL.drop {w:aj}{off n:av}{l:aq ar}(h:IL w (bt ⟨b,off,bn⟩) l l) (m:av) (c:m<=l.length):IL w (bt ⟨b,off+m,bn⟩) (l.drop m).length (l.drop m):=
 ⟨rfl,fun i H=>by
  rw[Po]at H;obtain⟨B,o,e,a⟩:=h.cell (m+i) ed;cases e;refine⟨b,off+m,rfl,?_⟩;rw[Ga];rw[Tz]
  exact a⟩
structure R3 (N:av) (w0:aj) (B:av) (PV SV OV:bw) (ng pl:ar) (LL:aq ar) (f0 f1 f2 f3 f4 f5 f6 f7 f8 f9 f10 f11 f12 f13 f14 f15:aU) (s11 s12 s13 s14 s15 s16 s17 s18 s19 s20 s21 s22 s23 s24 s25 s26:bw) (W:aj):Prop where
 old:mA N w0 W
 h0:f0=bl->s11=cY (bt ⟨B,0,bn⟩)
 h1:f1=bl->s12=PV
 h2:f2=bl->s13=cY (bt ⟨B+1,2,bn⟩)
 h3:f3=bl->s14= jV ng
 h4:f4=bl->s15= jV ng
 h5:f5=bl->s16=cY (bt ⟨B,0,bn⟩)
 h6:f6=bl->s17=PV
 h7:f7=bl->s18= jV pl
 h8:f8=bl->s19= jV ng
 h9:f9=bl->s20=SV
 h10:f10=bl->s21=cY (bt ⟨B,1,bn⟩)
 h11:f11=bl->s22=OV
 h12:f12=bl-> ∃b,s23=cJ (bt ⟨b,0,bn⟩) 2 2/\jc W b 0 SV/\jc W b 1 OV
 h13:f13=bl-> ∃a c,s24=cJ a LL c/\aA W N (js a LL c) LL
 h14:f14=bl->s25= jV (LL:ar)
 h15:f15=bl->s26= jV 0
def R3.below {SV:bw}{pl:ar}{LL:aq ar}{d:aU}{s11 e s14 i j l p q s26:bw}(h:R3 N w0 B PV SV OV x pl LL f0 f1 f2 f3 f4 f5 f6 f7 f8 f9 f10 f11 F d f14 f15 s11 s e s14 i j s17 l o p q r t s24 u s26 W) (w:jb W W'):R3 N w0 B PV SV OV x pl LL f0 f1 f2 f3 f4 f5 f6 f7 f8 f9 f10 f11 F d f14 f15 s11 s e s14 i j s17 l o p q r t s24 u s26 W':=
 {h with
  old:=h.old.below w
  h12:=fun k=>(h.h12 k).imp fun b H=>⟨H.1,aP w H.2.1,aP w H.2.2⟩
  h13:=fun k=>(h.h13 k).imp fun a H=>H.imp fun c y=>⟨y.1,bU y.2 w⟩}
theorem z1f (gR gG G:av) (g:Gr) (v:bw) (d:Wy) (l:Lk) (ap M:ax bR) (P Y:av) (va:bw) (W:aj) (h:kN W gR gG g v) (hl:jc W G 0 l.id) (n1:gR≠gG) (n2:G≠gR) (n3:G≠gG)
  (a8:IL W ap d.A d.A) (H:IL W M d.O d.O) (c4:d.A.length<=6) (c5:1<=d.A.length) (a9:d.A.length<=P) (c6:d.O.length<=2) (Z: ∀s∈d.A++d.O,0<=s/\s<=99) (a0:0<=l.gone/\l.gone<d.A.length):
  jW 291 #[cZ #[js ap d.A P,js M d.O Y,va,d.near],cZ #[l.id,cW .u8 l.ph,l.gone,l.left],.func (.func 292) #[] #[jp gR 0,jp gG 0,jp G 0]] W (CZ W gR gG v (lN l.id (lC d l) g)):=by
 have c7:=z1a;have d5:=aD h.ok;have d6:=h.row.lt;have c8:G<W.heap.size:=My _ _ hl;have b9:=hI h;have H7:bG (∀W',Tw gR gG W W'->jc W' G 0 l.id):=fun W' ho=>(Pj (w:=W) (ho.block G c8 n2 n3)).trans hl;have H0:=hI Z;obtain⟨j,a1⟩:=Ds a0.1;have lg:j<d.A.length:=ed
 have HE:bG (lC d l=if l.ph=0 then []else d.A.drop j++d.O):=by
  show _=_;unfold lC;rw[a1];have:min (max (j:ar) 0).toNat d.A=j:=ed
  rw[this]
 obtain⟨bp,V,rfl,-⟩:=a8.cell 0 ed;have c0:bG (∀W',jb W W'->IL W' (bt ⟨bp,V+j,bn⟩) (d.A.drop j).length (d.A.drop j)):=fun W' p=>(a8.below p).drop (n:=0) j Ed;have c1:bG (∀W',jb W W'->IL W' M d.O d.O):=fun W' p=>H.below p
 have H8:bG (∀b W0,jb W W0->jc W0 b 0 (jq bp (V+j) (d.A.drop j).length (P-j))->jc W0 b 1 (js M d.O Y)->jW 302 #[jq b 0 2 2] W0 fun e b0=> ∃a c,e=cL (js a (d.A.drop j++d.O).length c)/\aA b0 W0 (js a (d.A.drop j++d.O).length c) (d.A.drop j++d.O)/\jb W0 b0):=
  fun b W0 p x0 x1=>VT b _ _ _ _ _ _ W0 x0 x1 (c0 _ p) (c1 _ p) YD ed
 have H9:bG ((d.A.drop j).length=d.A.length-j):=Po
 have b1:bG (∀s∈d.A.drop j++d.O,0<=s/\s<=99):=fun s a2=>H0 s (by
  rcases Tx.1 a2 with h | h
  ·exact Gi _ (Gh h)
  exact Hk _ h)
 have H1:bG ((d.A.drop j++d.O).length<=8):=by show _<=_;rw[Mx,Po];omega
 generalize d.A.drop j++d.O=LL at *;generalize d.A.drop j=c2 at *;clear c0 c1 H0;generalize lC d l=L at *;rw[a1];clear h hl Z a8 H a0;by_cases r:l.ph=0
 ·have t0:(l.ph==0)=bl:=by rw[Da];exact r
  rw[Np r]at HE;have c9:=HE.o;subst c9;clear r;go_in;go_wp2_with fail;refine Za fun _ a3 p=>?_
  clear a3;exact Nh (v:=dw #[]) Yx rfl ⟨rfl,b9.below p,Tw.of_below p⟩
 have t0:(l.ph==0)=aW:=by rw[Nd];exact r
 rw[Nm r]at HE;clear r;go_in;go_upto_region 2 with fail;generalize u:(W.alloc _).alloc _=w0
 have r0:=jB u
 have r1:=jC u
 have hz:w0.heap.size=W.heap.size+2:=by subst u;simp
 have a4:=eN u
 have H2:=hI a4;clear u a4;go_cut [24,25,26] (fun s24 t s26 c3=> ∃(a:ax bR) (c:av),s24=cJ a LL c/\t= jV (LL:ar)/\s26= jV 0/\aA c3 w0 (js a LL c) LL/\jb W c3)
 case first=>
  refine tN ef ef (fun f a W0=> ∃s11 z A s14 B C s17 D E F I J K s24 t s26:bw,a={tmps:=#[cZ #[jq bp V d.A P,js M d.O Y,va,d.near],cZ #[l.id,cW .u8 l.ph,jV (j:ar),l.left],.func (.func 292) #[] #[jp gR 0,jp gG 0,jp G 0],cY (bt ⟨W,0,bn⟩),cY (bt ⟨W+1,0,bn⟩),bE,bE,bE,cY (bt ⟨W+1,1,bn⟩),cW .u8 l.ph,db aW,s11,z,A,s14,B,C,s17,D,E,F,I,J,K,s24,t,s26,bE,bE,bE,bE,bE,bE,bE,bE],defers:=[]}/\R3 w0 w0 W (jq bp V d.A P) (jq bp (V+j) c2 (P-j)) (js M d.O Y) j d.A LL (f 0) (f 1) (f 2) (f 3) (f 4) (f 5) (f 6) (f 7) (f 8) (f 9) (f 10) (f 11) (f 12) (f 13) (f 14) (f 15) s11 z A s14 B C s17 D E F I J K s24 t s26 W0) ?_ ?_ ?_
  ·exact⟨_,_,_,_,_,_,_,_,_,_,_,_,_,_,_,_,rfl,⟨⟨rfl,rfl,rfl,Mv _,fun _ _=>rfl⟩,ee,ee,ee,ee,ee,ee,ee,ee,ee,ee,ee,ee,ee,ee,ee,ee⟩⟩
  ·intro i o H f a W0 Q hd d0;obtain⟨s11,z,A,s14,B,C,s17,D,E,F,I,J,K,s24,t,s26,rfl,hS⟩:=Q;have d1:=hS.old.size;have q0:=(hS.old.block W ed).trans r0;have q1:=(hS.old.block (W+1) ed).trans r1;have b2:=Below.of_old hS.old H2 ed ed;rcases i with _ | _ | _ | _ | _ | _ | _ | _ | _ | _ | _ | _ | _ | _ | _ | _ | i
   ·simp at H;subst H;simp[wpOp,go_sem];refine Vs ?_;exact Xz
   ·simp at H;subst H;obtain rfl:=hS.h0 (hd ⟨0,.data⟩ ee ev);have cc:=ji 0 q0;refine Vo ?_;refine Vs ?_;exact {hS with h1:=fun _=>rfl}
   ·simp at H;subst H;simp[wpOp,go_sem];refine Vs ?_;exact {hS with h2:=fun _=>rfl}
   ·simp at H;subst H;obtain rfl:=hS.h2 (hd ⟨2,.data⟩ ee ev);have cc:=ji 2 q1;refine Vo ?_;refine Vs ?_;exact {hS with h3:=fun _=>rfl}
   ·simp at H;subst H;obtain rfl:=hS.h3 (hd ⟨3,.data⟩ ee ev);have a7:max (j:ar) 0=(j:ar):=ed;simp[wpOp,go_sem,a7];refine Vs ?_;exact {hS with h4:=fun _=>by first | rfl | (simp[a7])}
   ·simp at H;subst H;simp[wpOp,go_sem];refine Vs ?_;exact {hS with h5:=fun _=>rfl}
   ·simp at H;subst H;obtain rfl:=hS.h5 (hd ⟨5,.data⟩ ee ev);have cc:=ji 0 q0;refine Vo ?_;refine Vs ?_;exact XR
   ·simp at H;subst H;obtain rfl:=hS.h6 (hd ⟨6,.data⟩ ee ev);simp[wpOp,go_sem];refine Vs ?_;exact {hS with h7:=fun _=>rfl}
   ·simp at H;subst H;obtain rfl:=hS.h4 (hd ⟨4,.data⟩ ee ev);obtain rfl:=hS.h7 (hd ⟨7,.data⟩ ee ev);have a7:min (j:ar) (d.A:ar)=(j:ar):=ed;simp[wpOp,go_sem,a7];refine Vs ?_;exact {hS with h8:=fun _=>by simp;omega}
   ·simp at H;subst H;obtain rfl:=hS.h1 (hd ⟨1,.data⟩ ee ev);obtain rfl:=hS.h8 (hd ⟨8,.data⟩ ee ev);have j0:=aQ j;have j1:(j:ar)<=(d.A:ar):=ed;have j2:=jle a9;simp[wpOp,go_sem,j0,j1,j2];refine Vs ?_;exact {hS with h9:=fun _=>by simp[H9.o];omega}
   ·simp at H;subst H;simp[wpOp,go_sem];refine Vs ?_;exact {hS with h10:=fun _=>rfl}
   ·simp at H;subst H;obtain rfl:=hS.h10 (hd ⟨10,.data⟩ ee ev);have cc:=ji 1 q0;refine Vo ?_;refine Vs ?_;exact {hS with h11:=fun _=>rfl}
   ·simp at H;subst H;obtain rfl:=hS.h9 (hd ⟨9,.data⟩ ee ev);obtain rfl:=hS.h11 (hd ⟨11,.data⟩ ee ev);have p:jb W0 (W0.alloc (cO #[jq bp (V+j) c2 (P-j),js M d.O Y] 54)):=aR;simp[wpOp,go_sem];refine Vs ?_;exact {R3.below hS p with h12:=fun _=>⟨_,rfl,ee,ee⟩}
   ·simp at H;subst H;obtain⟨b,rfl,x0,x1⟩:=hS.h12 (hd ⟨12,.data⟩ ee ev);simp[wpOp,go_sem];refine .inl ((H8 b W0 b2 x0 x1).mono ?_);refine Ou fun _ a c a5 p=>?_;simp[go_sem];exact⟨_,_,_,_,_,_,_,_,_,_,_,_,_,_,_,_,⟨rfl,rfl,rfl,rfl,rfl,rfl,rfl,rfl,rfl,rfl,rfl,rfl,rfl,rfl,rfl,rfl⟩,{R3.below hS p with h13:=fun _=>⟨a,c,rfl,bW a5 d1⟩}⟩
   ·simp at H;subst H;obtain⟨a,c,rfl,O⟩:=hS.h13 (hd ⟨13,.data⟩ ee ev);simp[wpOp,go_sem];refine Vs ?_;exact {hS with h14:=fun _=>rfl}
   ·simp at H;subst H;simp[wpOp,go_sem];refine .inl ⟨_,_,_,_,_,_,_,_,_,_,_,_,_,_,_,_,⟨rfl,rfl,rfl,rfl,rfl,rfl,rfl,rfl,rfl,rfl,rfl,rfl,rfl,rfl,rfl,rfl⟩,?_⟩;exact {hS with h15:=fun _=>rfl}
   simp at H
  intro f a W0 Q q;obtain⟨s11,z,A,s14,B,C,s17,D,E,F,I,J,K,s24,t,s26,rfl,hS⟩:=Q;obtain⟨a,c,rfl,O⟩:=hS.h13 (q 13 eh);obtain rfl:=hS.h14 (q 14 eh);obtain rfl:=hS.h15 (q 15 eh);have KO:=hI O;have d2:=hI (Below.of_old hS.old H2 ed ed);clear hS q O r0 r1 hz;go_wp2_with fail;go_meet
  case rel=>exact⟨a,c,rfl,rfl,rfl,KO,d2⟩
 case rest=>
  obtain⟨a,c,rfl,rfl,rfl,O,p⟩:=hcut;have b3:=hI O;have b4:bG (Tw gR gG W wc):=Tw.of_below p;have b5:=hI (b9.below p);have b6:w0.heap.size<=wc.heap.size\/True:= .inr Py;have d3:=H1.o;have H3:bG (∀W',Tw gR gG wc W'->IL W' a LL LL):=fun W' ho=>aA.il (LO b3 (fun k k1 k2=>ho.block k k2 ed ed));clear O p r0 r1 b6;go_wp2_with fail;go_loopg [26] LL.length (fun d4 i wr=> ∃(k:av) (gk:Gr),k<=LL.length/\d4=LL.length-k/\i= jV k/\kN wr gR gG gk v/\Tw gR gG wc wr/\lN l.id L g=lN l.id (LL.drop k) gk)
  ·exact⟨0,g,ed,ed,rfl,b5,Tw.refl _ _ _,ew⟩
  obtain⟨k,gk,d7,rfl,rfl,hb,ho,a6⟩:=hrel;obtain⟨b7,rfl⟩: ∃b7:aj,b7=wr:=⟨_,rfl⟩;refine Qa fun H4 H5=>?_;have H6:=hI a6;have R:=hI (b4.trans ho);clear hb ho a6;by_cases G9:k<LL.length
  ·obtain⟨b,off,rfl,x0⟩:=(H3 _ H5).cell k G9;refine Qb fun _ _=>?_;have a2:=b1 LL[k] (Nn G9);have HCL:=hI (z1c gR gG G gk v l.id LL[k] b7 H4 (H7 _ R) a2.1 a2.2 n1 n2 n3)
   have X:bG (lN l.id L g=if(mF l.id gk LL[k]).ok then lN l.id (LL.drop (k+1)) (mF l.id gk LL[k])else mF l.id gk LL[k]):=by
    show _=_;rw[H6.o,Pz G9];rfl
   generalize b8:mF l.id gk LL[k]=G2 at *;clear b8 a2;unfold uM at HCL;cases hok:G2.ok with
   | true=>
    rw[hok]at HCL;rw[hok]at X;clear hok;go_wp2_with fail;refine HCL.mono ?_;rintro e w2 ⟨rfl,x,y⟩;have T:=hI x;have U:=hI (H5.trans y);clear x y HCL;go_wp2_with fail;go_roundg (LL.length-(k+1))
    ·go_light;exact⟨k+1,G2,ed,ed,ej,T,U,by simpa using X.o⟩
    go_light;omega
   | false=>
    rw[hok]at HCL;rw[hok]at X;clear hok;go_wp2_with fail;refine HCL.mono ?_;rintro e w2 ⟨rfl,x,y⟩;have T:=hI x;have U:=hI (R.trans y);clear x y HCL;go_wp2_with fail;refine Nh (v:=dw #[]) Yx rfl ⟨rfl,?_,U⟩;have hF:=X.o;simp at hF;rw[hF];exact T
  obtain rfl:k=LL.length:=by omega
  have X:bG (lN l.id L g=gk):=by
   show _=_;rw[H6.o,Te];rfl
  go_wp2_with fail;refine Nh (v:=dw #[]) Yx rfl ⟨rfl,?_,R⟩;rw[X.o];exact H4
structure z1g (y:Wy):Prop where
 p6:y.A.length<=6
 p1:1<=y.A.length
 o2:y.O.length<=2
 S: ∀s∈y.A++y.O,0<=s/\s<=99
 asks:oD y.asks
 len:y.asks.length<=1000
def LJ (h:bS p){k:av}(H:k<p.R.length):z1g (cP p p.R[k]):=by
 have a:=h.1;have hMk:=a.2.2 k H H;refine⟨hMk.1.2.2.2.2.1,hMk.1.2.2.2.1,hMk.1.2.2.2.2.2.1,fun s d=> ?_,jw a.1.2.2.2.2.2.1 a.2.1.1.1.1 hMk.2.2,?_⟩
 ·obtain⟨i,c,rfl⟩:=No d;have:=(hMk.2.1 i c c).1;exact⟨this.1,this.2.1⟩
 refine YJ fun h1 _ _ _ _ _=>?_;unfold kE at h1 ⊢;omega
def z1h {l:Lk}{r:Rt}(h:kX l r) (h1:1<=r.A.length):0<=l.gone/\l.gone<r.A.length:=by
 rcases h with⟨_,h2,_⟩ | ⟨_,h2,h3,_⟩ | ⟨_,h2,_,_⟩ | ⟨_,h2,_,_⟩<;>omega
def VP {α:Type}{f:α->ar}{l:aq α}(h:dE f l l): ∀(d i:av) (H:i+d+1<l.length),f (l[i]'(by omega))<f l[i+d+1]
 | 0,i,H=>by
  have h1:=(h (i+1) H H).2 ed;exact h1
 | d+1,i,H=>by
  have h0:=VP h d i ed;have h1:=(h (i+d+1+1) H H).2 ed;exact ar.lt_trans h0 h1
def wP {α:Type}{f:α->ar}{l:aq α}(h:dE f l l){j:av}(hj:j<l.length) (H:i<j):f (l[i]'(by omega))<f l[j]:=by
 obtain⟨d,rfl⟩: ∃d,j=i+d+1:=⟨j-i-1,ed⟩;exact VP h d i hj
def z1i (h:bS p):dE Pt.id p.P p.P:=h.1.2.1.1.1.1
structure VO (l:aq Sw):Prop where
 at_: ∀i (h:i<l.length),1<=l[i].id/\l[i].id<=99/\0<=l[i].call/\l[i].call<=2
 own: ∀i (h:i<l.length) j (hj:j<i),l[j].id<l[i].id
def z1j (h:bS p){l:aq Sw}(a:iN oI l p.P):VO l:=by
 have c:=z1i h;have hl:=a.1;refine⟨fun i H=> ?_,fun i H j hj=> ?_⟩
 ·have h1:=a.2 i H ed H;have h2:=(c i ed ed).1;rw[h1.1];exact⟨h2.1,h2.2,h1.2.2.1,h1.2.2.2⟩
 have h1:=a.2 i H ed H;have h2:=a.2 j ed ed ed;rw[h1.1,h2.1];exact wP c ed hj
def rQ (l:aq Sw) (k:av) (c:ar):ar:=iJ (l.take k) c
def z1k (l:aq Sw):rQ l 0=fun _=>0:=by funext c;simp[rQ,iJ,dW]
def z1l (l:aq Sw):rQ l l=iJ l:=by funext c;simp[rQ]
def z1m {l:aq Sw}(h:VO l){k:av}(a:k<l.length):rQ l (k+1)=fun c=>if c=l[k].id then l[k].call else rQ l k c:=by
 funext c
 unfold rQ iJ dW;rw[Dc a,Gz];by_cases H:c=l[k].id
 ·rw[Np H]
  have:(l.take k).find? (fun x=>ab (x.id=c))=bn:=by
   rw[Fq];intro x hx;obtain⟨j,hj,rfl⟩:=No hx;rw[Dn]at hj;rw[Tn];have:=h.own k a j ed;simp;omega
  rw[this];simp[H]
 rw[Nm H]
 have:[l[k]].find? (fun x=>ab (x.id=c))=bn:=by
  rw[Fq];intro x hx;rw[Tv]at hx;subst hx;simp;exact fun e=>H e.symm
 rw[this];simp
def z1n (p:Pl) (s:St) (k:av) (h1:k<p.R.length) (h2:k<s.lks.length):
  jO p s (k+1)=lK (iJ s.sws) (mG (cP p p.R[k]) s.lks[k]) (lN s.lks[k].id (lC (cP p p.R[k]) s.lks[k]) (jO p s k)):=by
 show sZ (iJ s.sws) (cP p (p.R.getD k nE)) (s.lks.getD k nF) (jO p s k)=_;rw[Na,Na,Nf h1,Nf h2];rfl
def z1o {n:av}{f:ar->ar}{D:DataW Unit}{c:ar}(a:IsMap D) (H: ∀c:ar,(Lit.int dr c).wf=bl->D.atKey (.int dr c) (.lit (.int dr 0))= .lit (.int dr (f c)))
  (h:W.ownsMap prog 3 (plainElem prog 3) b (n+1) (D.put (.int dr c) (.lit (.int dr x)))):dO W b (n+1) (fun q=>if q=c then x else f q):=by
 refine⟨_,h,a.put _ _,fun q hq=> ?_⟩;show _=DataW.lit (Lit.int IntKind.i64 (if q=c then x else f q));by_cases e:q=c
 ·subst e;rw[Np rfl];exact atKey_put_same (k:=Lit.int dr q) a Py _ _
 rw[Nm e,atKey_put_other (fun h=>e (by injection h)) _ _];exact H q hq
def z1p (w:aj):dO (w.alloc (.map #[] 0)) w 0 (fun _=>0):=⟨_,aj.ownsMap_made _ _ _ _,isMap_empty,fun _ _=>rfl⟩
def dO.block {n:av}{f:ar->ar}(h:dO W b n f): ∃e c,W.heap[b]? =bt (.map e c):=by
 obtain⟨D,⟨e,c,H,_⟩,_⟩:=h;exact⟨e,c,H⟩
structure GI (N:av) (W0 w4:aj) (gR gG b gM:av) (v:bw) (g:Gr) (n:av) (f:ar->ar) (W:aj):Prop where
 tw:Tw gR gG W0 W
 gr:kN W gR gG g v
 mp:dO W b n f
 mc:jc W gM 0 (.map (bt b))
 sm:dS MG w4 W
 lb:N<=b
 lm:N<=gM
section
variable {N:av}{W0 w4 W W':aj}{gR gG b gM n:av}{v:bw}{g:Gr}{f:ar->ar}
def GI.below (h:GI N W0 w4 gR gG b gM v g n f W) (a:N=W0.heap.size) (H:jb W W'):GI N W0 w4 gR gG b gM v g n f W':=
 ⟨h.tw.trans (Tw.of_below H),h.gr.below H,h.mp.same (H.block _ h.mp.lt),(H.cell (My _ _ h.mc)).trans h.mc,h.sm.trans (dS.of_below H),h.lb,h.lm⟩
def GI.grown (h:GI N W0 w4 gR gG b gM v g n f W) (r:N=W0.heap.size) (s:gR<N) (u:gG<N){F:ar->ar}(o:dO W' b i F) (H:W.grownBy W' (bt b)):GI N W0 w4 gR gG b gM v g i F W':=by
 have l:=h.lb;have L:=h.tw.size;have B:=H.block gR ed (by intro e;injection e;omega);have p:=H.block gG ed (by intro e;injection e;omega);obtain⟨E,C,j⟩:=h.mp.block
 have q:gM≠b:=by
  intro e;subst e;have:=h.mc;simp[aj.cell?,j]at this
 refine⟨⟨H.os.trans h.tw.os,H.tape.trans h.tw.tape,H.output.trans h.tw.output,Nj L H.size,fun k a h1 h2=>(H.block k ed (by intro e;injection e;omega)).trans (h.tw.block k a h1 h2)⟩,⟨B.trans h.gr.ok,h.gr.row.same p⟩,o,(Pj (w:=W) (H.block gM (My _ _ h.mc) (by intro e;injection e;exact cv ‹_› q))).trans h.mc,?_,h.lb,h.lm⟩
 intro k c t fr a d;have h1:=h.sm k c t fr a d;refine(H.block k (aD h1) ?_).trans h1;intro e
 injection e with e
 subst e;rw[j]at h1;cases h1
def GI.tws (h:GI N W0 w4 gR gG b gM v g n f W) (a:Tw gR gG W W'):dS MG w4 W':=by
 intro k c t fr d H;have h1:=h.sm k c t fr d H;refine(a.block k (aD h1) ?_ ?_).trans h1
 ·intro e;subst e;rw[h.gr.ok]at h1
  injection h1 with h1
  injection h1 with _ h1
  subst h1;cases H
 intro e;subst e;obtain⟨cur,i,_⟩:=h.gr.row.row;rw[i]at h1
 injection h1 with h1
 injection h1 with _ h1
 subst h1;cases H
def GI.post {G:Gr}(h:GI N W0 w4 gR gG b gM v g n f W) (c:N=W0.heap.size) (d:gR<N) (e:gG<N) (a:kN W' gR gG G v) (H:Tw gR gG W W'):GI N W0 w4 gR gG b gM v G n f W':=by
 have l:=h.lb;have l2:=h.lm;exact⟨h.tw.trans H,a,h.mp.same (H.block b h.mp.lt ed ed),(Pj (w:=W) (H.block gM (My _ _ h.mc) (by show gM≠gR;omega) (by show gM≠gG;omega))).trans h.mc,h.tws H,h.lb,h.lm⟩
def GI.setR (h:GI N W0 w4 gR gG b gM v g n f W) (H:N=W0.heap.size) (a:gR<N) (c:gG<N) (A6:gR≠gG) (x:aU):GI N W0 w4 gR gG b gM v ⟨g.H,g.A,x⟩ n f (W.setCell ⟨gR,0,bn⟩ (db x)):=
 h.post H a c ⟨by simp[cd,Nk,h.gr.ok],h.gr.row.same (Ny W ⟨gR,0,bn⟩ _ gG Uv)⟩ (Tw.setR _ _ _)
structure nW (w:aj) (a:ax bR) (k:av) (ap ao aa:ax bR) (cp co ca:av) (y:Wy):Prop where
 cells: ∃b off,a=bt ⟨b,off,bn⟩/\jc w b (off+k * 4) (js ap y.A cp)/\jc w b (off+k * 4+1) (js ao y.O co)/\jc w b (off+k * 4+2) (js aa y.asks ca)/\jc w b (off+k * 4+3) y.near
 A:IL w ap y.A y.A
 O:IL w ao y.O y.O
 asks:aB w 3 qH aa ca y.asks
 cap:y.A.length<=cp
def aB.wyAt {w:aj}{cap:av}{l:aq Wy}(h:aB w 4 tT a cap l)(H:i<l.length): ∃ap A aa c C ca,nW w a i ap A aa c C ca l[i]:=by
 obtain⟨b,off,V,vo,va,e,x0,x1,x2,x3,i1,i2,i3,i4⟩:=h.wyc H;obtain⟨ap,c,rfl,j1⟩:=i1.at_;obtain⟨A,C,rfl,j2⟩:=i2.at_;obtain⟨aa,ca,rfl,j3⟩:=i3;exact⟨ap,A,aa,c,C,ca,⟨b,off,e,x0,x1,x2,x3⟩,j1,j2,j3,i4 _ _ _ rfl⟩
def nW.ext {w c:aj}{k:av}{A:ax bR}{d:av}{y:Wy}(h:nW w a k ap A aa C d ca y) (he:eD w c):nW c a k ap A aa C d ca y:=by
 obtain⟨b,off,e,x0,x1,x2,x3⟩:=h.cells;exact⟨⟨b,off,e,he _ _ x0,he _ _ x1,he _ _ x2,he _ _ x3⟩,h.A.ext he,h.O.ext he,h.asks.ext XK he,h.cap⟩
def nW.same {w4 W':aj}{k:av}{A:ax bR}{c:av}{y:Wy}(h:nW (jQ MG w4) a k ap A aa c C ca y) (H:dS MG w4 W'):nW W' a k ap A aa c C ca y:=
 (h.ext H.ext).ext (DI MG W')
end
def z1q {W0 w4:aj}{v:bw}{g:Gr}(a:Tw gR gG W0 w4) (d:kN w4 gR gG g u) (i:gR≠gG):
  GI W0 W0 w4 gR gG w4 (w4+1) v g 0 (fun _=>0) (((w4.setCell ⟨gG,200,bn⟩ v).alloc (.map #[] 0)).alloc (cO #[.map (bt w4)] 357)):=by
 have e0:(w4.setCell ⟨gG,200,bn⟩ v).heap.size=w4.heap.size:=ZL
 have j:=z1p (w4.setCell ⟨gG,200,bn⟩ v);rw[e0]at j;have l:cB (w4.setCell ⟨gG,200,bn⟩ v).heap.size (w4.setCell ⟨gG,200,bn⟩ v) (((w4.setCell ⟨gG,200,bn⟩ v).alloc (.map #[] 0)).alloc (cO #[.map (bt w4)] 357)):=aR.alloc ee _;have o:cB ((w4.setCell ⟨gG,200,bn⟩ v).alloc (.map #[] 0)).heap.size ((w4.setCell ⟨gG,200,bn⟩ v).alloc (.map #[] 0)) (((w4.setCell ⟨gG,200,bn⟩ v).alloc (.map #[] 0)).alloc (cO #[.map (bt w4)] 357)):=aR;have p:kN (w4.setCell ⟨gG,200,bn⟩ v) gR gG g v:=⟨(Ny _ _ _ gR i).trans d.ok,d.row.setV v⟩;refine⟨(a.trans (Tw.setG _ _ _)).trans (Tw.of_below l),p.below l,j.same (o.block _ j.lt),?_,?_,a.size,Fw a.size⟩
 ·have:=Nc ((w4.setCell ⟨gG,200,bn⟩ v).alloc (.map #[] 0)) (cO #[.map (bt w4)] 357);have e1:((w4.setCell ⟨gG,200,bn⟩ v).alloc (.map #[] 0)).heap.size=w4.heap.size+1:=by simp[cd]
  rw[e1]at this;exact(Mu _ _ 0 _ _ _ this).trans rfl
 refine dS.trans ?_ (dS.of_below l);intro k c t fr H q;refine(Ny _ _ _ k ?_).trans H;intro e;subst e;obtain⟨cur,r,_⟩:=d.row.row;rw[r]at H
 injection H with H
 injection H with _ H
 subst H;cases q
