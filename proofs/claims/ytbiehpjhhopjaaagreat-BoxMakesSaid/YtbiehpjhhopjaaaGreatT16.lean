/- Walks, laws. -/
import Derived.Test.YtbiehpjhhopjaaaGreatT15
set_option linter.all false
set_option maxRecDepth 100000
set_option maxHeartbeats 16000000
namespace Go.Proofs.YtbiehpjhhopjaaaGreat
open _root_ renaming Array->aL,Bool->aU,Bool.false->aW,Decidable.decide->ab,List->aq,Int->ar,Nat->av,Option->ax,Bool.true->bl,Option.none->bn,Option.some->bt,List.replicate->cr,absurd->cv
open Go renaming World->aj,undef->bE,RowKit.Hid->bG,Addr->bR,TypeId->bT,Value->bw,RowKit.Below->cB,Value.slice->cJ,Ending.returned->cL,Obj.cells->cO,Value.int->cW,Value.pointer->cY,Value.agg->cZ,World.setCell->cd,World.alloc->cj,wpQuiet_nil->cl,Act.put->cq,IntKind.u32->dD,Value.bool->db,Operand.tmp->dk,IntKind.i64->dr,Value.tuple->dw
open Go.RowKit Go.Sort Tryz
variable {W W':aj}{B2 B3 B6 L N OB c d k n oc sz:av}{Q:Exit->Act->aj->Prop}{b:ax bR}{G l:aq ar}{T:bT}{Z cur:aL bw}{ops:aL Oper}
def cR.setCell {α:Type}{M:bT->aU}{base g o:av}{b:bT}{R:aj->aq bw->α->Prop}{v:bw}{l:aq α}{xss:aq (aq bw)}(h:cR M W base T sz R v l xss) (j:aY R) (d:jk W g Z b) (n:M b=bl) (H:b≠T) (u:bw):cR M (W.setCell ⟨g,o,bn⟩ u) base T sz R v l xss:=
 ⟨Zw h.own (a:=⟨g,o,bn⟩) d H u,h.len,h.sz,fun i h1 h2=>j _ _ _ _ (dS.ext (fun k cs t F c f=>by
  by_cases e:k=g
  ·subst e;rw[d]at c;cases c;rw[n]at f;cases f
  exact(Ny _ _ _ _ e).trans c)) (h.rd i h1 h2)⟩
def cR.setCell' {α:Type}{M:bT->aU}{base g o:av}{b:bT}{R:aj->aq bw->α->Prop}{v:bw}{l:aq α}{xss:aq (aq bw)}(h:cR M W base T sz R v l xss) (d:aY R) (f:jk W g Z b) (j:M b=bl) (H:v.ownBlock≠bt g) (u:bw):cR M (W.setCell ⟨g,o,bn⟩ u) base T sz R v l xss:=
 ⟨ownsRow_setCell_other h.own H u,h.len,h.sz,fun i h1 h2=>d _ _ _ _ (dS.ext (fun k cs t F a c=>by
  by_cases e:k=g
  ·subst e;rw[f]at a;cases a;rw[j]at c;cases c
  exact(Ny _ _ _ _ e).trans a)) (h.rd i h1 h2)⟩
theorem waw (x:wbm) (a:ax bR) (c:av) (b:ax bR) (d:av) (w:aj) (hx:ay w a c b d x) (hs:ae x):
  jW 407 #[cZ (ak a c b d x)] w fun e w'=> ∃a9 b1 b2 b3 xss y,e=cL (cZ (ak a9 b1 b2 b3 x))/\cR MD w' w 22 1 br (js a9 x.sc b1) x.sc xss/\cR MD w' w 237 2 du (js b2 x.wt b3) x.wt y/\jb w w':=by
 have b4:=hI hx;have c3:x.sc.length<=600:=by have:=hs.1;omega
 have c4:x.wt.length<=600:=ZK
 have b5:=hI hs;clear hx hs;unfold ak;go_enter func407,ntmps407;go_upto_region 2 with fail;have F0:bG (Fr w [(#[js a x.sc c,js b x.wt d],84),(#[cJ bn 0 0,cJ bn 0 0],84),(#[cJ bn 0 0,cJ bn 0 0],84)] (((w.alloc (cO #[js a x.sc c,js b x.wt d] 84)).alloc (cO #[cJ bn 0 0,cJ bn 0 0] 84)).alloc (cO #[cJ bn 0 0,cJ bn 0 0] 84))):=(((Fr.start w).alloc rfl _ _).alloc ee _ _).alloc ee _ _;generalize cj _ _=W0 at *;go_upto_region 3 with fail;go_loopg [4] x.sc.length (fun g i wr=> ∃(k:av) (s:ax bR) (u:av) (xss:aq (aq bw)),k<=x.sc.length/\g=x.sc.length-k/\i= jV k/\Fr w [(#[js a x.sc c,js b x.wt d],84),(#[cJ bn 0 0,cJ bn 0 0],84),(#[js s k u,cJ bn 0 0],84)] wr/\cR MD wr (w+3) 22 1 br (js s k u) (x.sc.take k) xss)
 ·exact⟨0,bn,0,[],ed,ed,rfl,F0,cR.nil⟩
 clear F0;obtain⟨k,s,u,xss,a3,rfl,rfl,hF,hb⟩:=hrel;have F:=hI hF;have O:=hI hb;have HRL:bG (xss.length=k):=by show _=_;rw[hb.len,DL];omega
 have p0:jc wr w 0 (js a x.sc c):=jr (hF.row 0 _ rfl);have lp:w.heap.size<wr.heap.size:=hF.lt (i:=0) ee;have E:w.heap.size+3<=wr.heap.size:=hF.sz;by_cases f:k<x.sc.length
 ·have hd:ab ((k:ar)<(x.sc:ar))=bl:=em;have q0:=ji 0 (hF.row 2 _ rfl);have lq:=hF.lt (i:=2) ee;have c0:(0:ar)<=(k:ar):=ed;have C:(k:ar)<(x.sc:ar):=ed;obtain⟨g,off,b6,b7,rfl,Y,G⟩:=b4.S.sc f;have z0:=(hF.bel.cell (Mt Y)).trans Y;have lz:=Mt z0;have P:=hI fun W ty (a4:jb w W)=>FU ty (G.below fS a4) (by rw[b5.o.2.2.1 _ (PK f)];decide);have b8:=hI f;clear hF hb Y G;go_upto_region 5 with fail;refine zD [9,11] ?_;intro V hV;have t0:=fun t:Gw wr=>t.cel p0;refine NK fun T r t3 t4 t5=>?_;refine zB [0,1,2,3,4,5,6] hV ?_;clear t0 T r t3 t4 t5 p0 q0 z0 lp lq lz;have I:=hI (F.below hV);have S1:=hI (O.below an hV);refine aS 7 ef ?_;intro K hK;refine FT rfl rfl (.const (jN)) (dk 20) rfl rfl rfl (P V _ I.bel) ?_;intro A C l n M5;refine uF fun h1=>?_;have J:=hI (I.below M5);have L:=hI (S1.below an M5);have a5:=hI (Av n);have Q:w.heap.size+3<=l.heap.size:=J.sz;clear hK K n M5 hV I S1 F O P
  conv=>arg 8;simp[cq]
  refine aS 8 ef ?_;refine Oo fun K hK=>?_;refine .inl (hK _ _ (fun _=>h1.alloc h1.size _) ?_);clear hK K h1;refine pG [9,10,11] ef ee ?_;refine kk ?_;go_wp2_with (at_builtin;refine nK rfl _ _ 81 22 22 _ 1 24 rfl underlying81 qx rfl eh eh (w+3) (js s k u) k _ rfl (HRL.o ▸ L.o.own) ed Q [cJ A x.sc[k].length C] rfl rfl (zv _ _ _) ?_;intro B z V3 G9 j;have F4:=hI (J.low ((((Nb l l).alloc (Mv _) _).mono Q).trans (dT (L.own.alloc _) (Mv _) em j)));have c1:=ji 0 (F4.row 2 _ rfl);have c2:V3.frozen? ⟨w+2,0,bn⟩=aW:=Ru;have l3:=F4.lt (i:=2) ee);have x2:=(L.below an aR).app an rfl rfl (an _ _ _ _ (dS.of_below ((Nb l l).alloc (Mv _) _)).ext a5) Ox j;rw[<-NZ b8.o]at x2;have F9:=hI (F4.set 2 rfl 0 (jq B 0 (k+1) z));have S9:=hI (x2.setCell (o:=0) an (show jk V3 (w+2) _ 84 from F4.row 2 _ rfl) rfl eh (jq B 0 (k+1) z));go_roundg (x.sc.length-(k+1))
  ·go_light;exact⟨k+1,bt ⟨B,0,bn⟩,z,_,ed,ed,ej,F9,S9⟩
  go_light;omega
 obtain rfl:k=x.sc.length:=ed;have hd:ab ((x.sc:ar)<(x.sc:ar))=aW:=ee;rw[PW]at O;clear hF hb HRL f a3;go_upto_region 7 with fail;go_loopg [5] x.wt.length (fun g i M=> ∃(k:av) (T:ax bR) (r:av) (y:aq (aq bw)),k<=x.wt.length/\g=x.wt.length-k/\i= jV k/\Fr w [(#[js a x.sc c,js b x.wt d],84),(#[cJ bn 0 0,cJ bn 0 0],84),(#[js s x.sc u,js T k r],84)] M/\cR MD M (w+3) 22 1 br (js s x.sc u) x.sc xss/\cR MD M (w+3) 237 2 du (js T k r) (x.wt.take k) y)
 ·exact⟨0,bn,0,[],ed,ed,rfl,F,O,cR.nil⟩
 clear F O p0 lp E;obtain⟨k,T,r,y,a3,rfl,rfl,hF,hb,ho⟩:=hrel;have F:=hI hF;refine Qa fun a6 a2=>?_;have N:bG (y.length=k):=(by show _=_;rw[ho.len,DL];omega);have p1:jc wr w 1 (js b x.wt d):=jr (hF.row 0 _ rfl);have lp:w.heap.size<wr.heap.size:=hF.lt (i:=0) ee;have E:w.heap.size+3<=wr.heap.size:=hF.sz;by_cases f:k<x.wt.length
 ·have hd:ab ((k:ar)<(x.wt:ar))=bl:=em;have c0:(0:ar)<=(k:ar):=ed;have C:(k:ar)<(x.wt:ar):=ed;obtain⟨g,off,b6,b7,rfl,Y,G,y2⟩:=b4.W.wr f;have z0:=(hF.bel.cell (Mt Y)).trans Y;have z1:=(hF.bel.cell (Mt G)).trans G;have lz:=Mt z0;have P:=hI fun W ty (a4:jb w W)=>FU ty (y2.below fS a4) (by rw[(b5.o.2.2.2 _ (PK f)).2.2];decide);have b8:=hI f;have R:(bw.slice T k r).ownBlock≠bt wr:=fun e=>by obtain⟨_,q,-⟩:=fD ho.own e;have:=aD q;omega
  have H0:=hI R;clear hF hb ho Y G y2 R;go_upto_region 10 with(refine bP rfl 237 (dk 6) (dk 36) rfl wr _ _ 237 rfl rfl (Nc _ _) ef rfl Qj ?_;rw[QY]);refine Qq fun W1 hW=>?_;have M5:=jG hW;have b0:jk W1 wr #[x.wt[k].at_,js b6 x.wt[k].data.length b7] 237:=Un;have I:=hI (F.below M5);have U:=hI (a6.below an M5);have X:=hI (a2.below dc M5);have b9:=hI b0;have x1:=ji 1 b0;have a7:=aD b0;clear hW M5 b0 p1 lp z0 z1 lz F a6 a2;go_upto_region 11 with(at_builtin;refine vV rfl _ _ rfl rfl rfl (P W1 _ I.bel) ?_;intro A C l n M5;have htA:=(M5.block _ a7).trans b9;have x0:=ji 1 htA;have f0:=fu htA 1;have l0:=aD htA);have J:=hI ((I.below M5).low (show cB (w+3) l (l.setCell ⟨wr,1,bn⟩ (js A x.wt[k].data.length C))from(Nb (w+3) l).setCell E _));have H1:=hI ((U.below an M5).setCell (o:=1) an htA rfl eh (js A x.wt[k].data.length C));have D:=hI ((X.below dc M5).setCell' (o:=1) dc htA rfl H0 (js A x.wt[k].data.length C));have bx:(l.setCell ⟨wr,1,bn⟩ (js A x.wt[k].data.length C)).heap[wr.heap.size]? =bt (cO #[x.wt[k].at_,js A x.wt[k].data.length C] 237 (0,0)):=Xp;have a5:=hI (Aw (aV (a:=⟨wr,1,bn⟩) n (by show wr.heap.size<W1.heap.size;exact a7) (js A x.wt[k].data.length C)));have Z:w.heap.size+3<=(l.setCell ⟨wr,1,bn⟩ (js A x.wt[k].data.length C)).heap.size:=J.sz;clear n M5 htA x0 f0 l0 I U X b9 x1 a7 P;generalize cd _ _ _=V2 at *;refine vF fun _ _ _=>?_;have q1:=ji 1 (J.row 2 _ rfl);have lq:=J.lt (i:=2) ee;clear bx
  go_wp2_with (at_builtin;refine nK rfl _ _ 82 237 237 _ 2 32 rfl underlying82 Ax rfl eh eh (w+3) (js T k r) k _ rfl (N.o ▸ D.o.own) ed Z [cW dr x.wt[k].at_,cJ A x.wt[k].data.length C] rfl rfl (Ay _ _ _ _) ?_;intro B z V3 G9 j;have F4:=hI (J.low ((((Nb V2 V2).alloc (Mv _) _).mono Z).trans (dT (D.own.alloc _) (Mv _) em j)));have c1:=ji 1 (F4.row 2 _ rfl);have c2:V3.frozen? ⟨w+2,1,bn⟩=aW:=Ru;have l3:=F4.lt (i:=2) ee);have x2:=(D.below dc aR).app dc rfl rfl (dc _ _ _ _ (dS.of_below ((Nb V2 V2).alloc (Mv _) _)).ext a5) (by rw[N.o];exact G9) j;have H:x.wt.take (k+1)=x.wt.take k++[x.wt[k]]:=(FI f).symm;replace x2:cR MD V3 (w+3) 237 2 du (jq B 0 (k+1) z) (x.wt.take (k+1)) (y++[[cW dr x.wt[k].at_,cJ A x.wt[k].data.length C]]):=UE;clear H;have a8:=(H1.below an aR).other an (D.own.alloc _) rfl eh j;have a0:jk V3 (w+2) _ 84:=F4.row 2 _ rfl;have F9:=hI (F4.set 2 rfl 1 (jq B 0 (k+1) z));have S9:=hI (a8.setCell (o:=1) an a0 rfl eh (jq B 0 (k+1) z));have Y9:=hI (x2.setCell (o:=1) dc a0 rfl eh (jq B 0 (k+1) z));go_roundg (x.wt.length-(k+1))
  ·go_light;exact⟨k+1,bt ⟨B,0,bn⟩,z,_,ed,ed,ej,F9,S9,Y9⟩
  go_light;omega
 obtain rfl:k=x.wt.length:=ed;have hd:ab ((x.wt:ar)<(x.wt:ar))=aW:=ee;rw[PW]at a2;clear hF hb ho N f a3;go_upto_region 12 with fail;go_wp2_with (first | (refine Dx rfl 84 (dk 3) rfl (w+2) rfl 84 _ (0,0) _ (F.row 2 _ rfl) underlying84 rfl ef ?_;simp[cq]) | (refine bP rfl 84 (dk 2) (dk 47) rfl (w+1) _ _ 84 rfl rfl (F.row 1 _ rfl) ef rfl Qj ?_))
 have a1:jk wr (w+1) _ 84:=F.row 1 _ rfl;have F3:=hI (F.setRow 1 rfl #[js s x.sc u,js T x.wt r]);refine Nh (v:=cZ #[js s x.sc u,js T x.wt r]) (Pb (p:=2) rfl _ _ (w+1) 84 _ (0,0) _ rfl (F3.row 1 _ rfl) underlying84 rfl ef) rfl ?_;exact⟨s,u,T,r,_,_,rfl,(a6.setRow an a1 rfl eh).base ed,(a2.setRow dc a1 rfl eh).base ed,F3.bel⟩
def Ak (t:bT) (h:cn t=bl):MD t=bl:=by unfold cn at h;unfold MD;simp at h;simp[h]
def wbm.add (x:wbm) (n:ar) (l:aq ar):wbm:=⟨x.sc,x.wt++[⟨n,l⟩]⟩
theorem wax (x:wbm) (a:ax bR) (c:av) (b:ax bR) (d:av) (n:ar) (l:aq ar) (p:ax bR) (q:av) (w:aj) (hx:ay w a c b d x) (hs:ae x) (hl:aB w 1 dG p q l) (b0:l.length<=10000):
  jW 367 #[cZ (ak a c b d x),n,js p l q] w fun e w'=> ∃a0 a1 a2 a3,e=cL (cZ (ak a0 a1 a2 a3 (x.add n l)))/\ay (jQ cn w') a0 a1 a2 a3 (x.add n l)/\jb w w':=by
 have a4:=hI fun W (h:jb w W)=>waw x a c b d W (hx.below h) hs;have a5:=hI fun W ty (b1:jb w W)=>FU ty (hl.below fS b1) b0;have b7:x.wt.length<=600:=ZK
 clear hx hs hl;unfold ak at *;go_enter func367,ntmps367;go_upto_region 1 with fail;have F0:bG (Fr w [(#[js a x.sc c,js b x.wt d],84),(#[jN,jN],84)] ((w.alloc (cO #[js a x.sc c,js b x.wt d] 84)).alloc (cO #[jN,jN] 84))):=((Fr.start w).alloc rfl _ _).alloc ee _ _;generalize cj _ _=O at *;have a6:=hI (a4 O F0.bel);go_upto_region 2 with(first | (refine Dx rfl 84 (dk 3) rfl w rfl 84 _ (0,0) _ (F0.row 0 _ rfl) underlying84 rfl ef ?_;simp[cq]) | (go_at_call 407;refine a6.mono ?_;rintro e i ⟨s,j,t1,t2,xss,y0,rfl,hb,ho,M5⟩;refine vk fun T=>?_;refine Qa fun a7 U=>?_;have a8:=M5.size;clear hb ho M5) | (refine bP rfl 84 (dk 7) (dk 9) rfl i _ _ 84 rfl rfl (Nc _ _) ef rfl Qj ?_;rw[QY];simp only[cq]))
 generalize hV:cj _ _=V0;have hb0:=jG hV
 have P:=jA hV
 have F2:=hI (T.below hb0);have k:=hI (a7.below an hb0);have r:=hI (U.below dc hb0);have b2:w.heap.size+2<=O.heap.size:=F0.sz;have X:w.heap.size+2<=i.heap.size:=T.sz;have u:=U.len;have HRL:=hI u;have q1:=ji 1 P;have Q:=aD P;have a9:=hI P;clear hV hb0 P T a7 U F0 a4 a6 u;refine zD [7,9] ?_;intro V hV;have u0:=fun t:Gw V0=>t.cel q1;have u1:=fun t:Gw V0=>t.lt Q;refine zB [0,1,2,3] hV ?_;clear u0 u1 q1;have F:=hI (F2.below hV);have y:=hI (k.below an hV);have z:=hI (r.below dc hV);have A:=hI ((hV.block _ Q).trans a9);have L:=Nl Q hV.size;refine aS 4 ef ?_;intro K hK;refine FT rfl rfl (.const (jN)) (dk 13) rfl rfl rfl (a5 V _ F.bel) ?_;intro b3 c1 D E M5;refine uF fun h1=>?_;have F4:=hI (F.below M5);have Y:=hI (y.below an M5);have f:=hI (z.below dc M5);have Z:=hI ((M5.block _ L).trans A);have b4:=hI (Aw (x:=⟨n,l⟩) E);have l0:=Nl L M5.size;have G:O.heap.size<=D.heap.size:=ed
 clear hK K E M5 hV F2 F k y r z a5 a9 A Q L
 conv=>arg 8;simp[cq]
 refine zB [5] h1 ?_;refine aS 6 ef ?_;refine Oo fun K hK=>?_;refine .inl (hK _ _ (fun _=>h1.alloc h1.size _) ?_);clear hK K h1;refine pG [7,8,9] ef ee ?_;refine oS ?_;go_upto_region 3 with(at_builtin;refine nK rfl _ _ 82 237 237 _ 2 32 rfl underlying82 Ax rfl eh eh O (js t1 x.wt t2) x.wt _ rfl (HRL.o ▸ f.o.own) ed G [jV n,cJ b3 l c1] rfl rfl (Ay _ _ _ _) ?_;intro B g R G9 H;have I:=(((Nb D D).alloc (Mv _) _).mono G).trans (dT (f.own.alloc _) (Mv _) em H);have htA:=vd (f.own.alloc _) H eh ((Nv _ _ l0).trans Z);have b5:=ji 1 htA;have b6:=fu htA 1;have l8:=aD htA);have F8:=hI (F4.low (I.mono b2));have J:=(f.below dc aR).app dc rfl rfl (dc _ _ _ _ (dS.of_below ((Nb D D).alloc (Mv _) _)).ext b4) Ox H;have M:=(Y.below an aR).other an (f.own.alloc _) rfl eh H;have F9:=hI (F8.low (show cB (w+2) R (R.setCell ⟨i,1,bn⟩ (jq B 0 (x.wt.length+1) g))from(Nb (w+2) R).setCell X _));have S9:=hI (M.setCell (o:=1) an htA rfl eh (jq B 0 (x.wt.length+1) g));have Y9:=hI (J.setCell (o:=1) dc htA rfl eh (jq B 0 (x.wt.length+1) g));have R9:(R.setCell ⟨i,1,bn⟩ (jq B 0 (x.wt.length+1) g)).heap[i.heap.size]? =bt (cO #[js s x.sc j,jq B 0 (x.wt.length+1) g] 84 (0,0)):=Xp
 clear b5 b6 l8 htA M J I G9 H F8 F4;generalize cd _ _ _=W9 at *;go_wp2_with (first | (refine Dx rfl 84 (dk 7) rfl i rfl 84 _ (0,0) _ R9 underlying84 rfl ef ?_;simp[cq]) | (refine bP rfl 84 (dk 6) (dk 19) rfl (w+1) _ _ 84 rfl rfl (F9.row 1 _ rfl) ef rfl Qj ?_))
 have N:jk W9 (w+1) _ 84:=F9.row 1 _ rfl;have F:=hI (F9.setRow 1 rfl #[js s x.sc j,jq B 0 (x.wt.length+1) g]);refine Nh (v:=cZ #[js s x.sc j,jq B 0 (x.wt.length+1) g]) (Pb (p:=6) rfl _ _ (w+1) 84 _ (0,0) _ rfl (F.row 1 _ rfl) underlying84 rfl ef) rfl ?_;obtain⟨_,_,e1,m1⟩:=(S9.setRow (C:=#[js s x.sc j,jq B 0 (x.wt.length+1) g]) an N rfl eh).slM an Ak rfl;obtain⟨_,_,e2,m2⟩:=(Y9.setRow (C:=#[js s x.sc j,jq B 0 (x.wt.length+1) g]) dc N rfl eh).slM dc Ak rfl;cases e1
 injection e2 with f1 f2 f3
 subst f1 f3;exact⟨_,_,_,_,by simp[wbm.add],⟨m1,m2⟩,F.bel⟩
def rm {w:aj}{rest:aq Oper}{o:Oper}{a:Act}(n m k:av) (c:o.guard=bn) (s x:Operand)
  (i:o.op= .call {callee:= .builtin .append,args:=#[s,x],argTypes:=#[22,22]}) (base:av) (v:bw) (xs:aq ar) (j:a.eval s=v) (d:aO xs) (b:w.ownsRow base 5 1 v n (xs.flatMap dR)) (p:xs.length=n)
  (A:ax bR) (cap:av) (l:aq ar) (hx:a.eval x=cJ A m cap) (q:l.length=m) (hl:aB w 1 dG A cap l) (e:aO l) (r:n+m=k) (f:k<=1000000) (H:base<=w.heap.size)
  (h: ∀g C w',w'.ownsRow base 5 1 (js g k C) k ((xs++l).flatMap dR)->w.grownBy w' v.ownBlock->wpList prog ops Q rest (a.put o.dst (js g k C)) w'):wpList prog ops Q (o::rest) a w:=by
 subst p q r;exact OD c s x i base v xs j d b A cap l hx hl e f H h
def fj {base:av}{a:ax bR}(h:W.ownsRow base 5 1 (js a n c) n (l.flatMap dR)) (H:l.length=n):aB W 1 dG a c l:=by
 subst H;obtain⟨_,_,e,h⟩:=kK (R:=dG) h (fun _ _=>rfl) fun _ _=>rfl;cases e;exact h
def tm (l:aq ar):ar:=((rk 0#32 (l.map ar.toNat)).toNat:ar)
def bu (g:ar) (t:aq ar):aq ar:=BH tm g t
def dz (k:av) (n:ar):aO (aw k n):=fun b H=>by have:=Aa k n b H;omega
def Ld (l:aq ar):0<=tm l/\tm l<4294967296:=by unfold tm;have:=(rk 0#32 (l.map ar.toNat)).isLt;omega
theorem way (g:ar) (t:aq ar) (O:ax bR) (P:av) (w:aj) (a2:aB w 1 dG O P t) (n:aO t) (c8:t.length<=10000) (b1:0<=g) (a:g<4294967296):
  jW 365 #[cZ #[cW dD g,js O t P]] w fun e w'=> ∃a3 a4,e=cL (js a3 (bu g t).length a4)/\w'.ownsRow w 5 1 (js a3 (bu g t).length a4) (bu g t).length ((bu g t).flatMap dR)/\jb w w':=by
 have a5:=hI fun W (h:jb w W)=>a2.below fS h;have Q:=hI n;clear a2 n;go_enter func365,ntmps365;go_upto_region 1 with fail;generalize hW:cj _ _=R;have K0:=hI (jG hW)
 have J:=jA hW
 have hz:w.heap.size+1<=R.heap.size:=Qc
 have p1:=ji 1 J;have L:=aD J;have a6:=hI J;clear hW J;refine zD [6] ?_;intro V hV;have u0:=fun t:Gw R=>t.cel p1;have u1:=fun t:Gw R=>t.lt L;refine zB [0,1,4,5] hV ?_;clear u0 u1 p1;refine aS 2 ef ?_;refine Oo fun K hK=>?_;refine ue ?_;clear hK K;have K1:=hI (jo K0 hV);have p:=hI ((hV.block _ L).trans a6);refine aS 3 ef ?_;refine Oo fun K hK=>?_;refine .inl ((Bi (t:ar) 2 V ed ed eh).mono ?_);rintro e V1 ⟨b2,c1,rfl,q,g9⟩;simp[go_sem];refine hK _ _ (fun _=>jt hV g9) ?_;have X:=hI (jo K1 g9);have r:=hI ((g9.block _ (Nl L hV.size)).trans p);have f:w.heap.size+1<=V1.heap.size:=by have:=hV.size;exact Uo
 have c:=hI (bW q (show w.heap.size+1<=_ by have:=hV.size;omega));clear hK K q g9 hV K0 K1 a6 p L hz;refine pG [6,7] ef ee ?_;refine oS ?_;obtain⟨T,s⟩: ∃T,T=aw 2 t++t:=⟨_,rfl⟩;have hb:2+t.length=T.length:=by rw[s,Mx,cw]
 have ho:aO T:=by rw[s];exact fun b n=>(Tx.1 n).elim (dz _ _ b) (Q b)
 refine Qa fun Y i=>?_;have b3:T.length<=10002:=ed
 have M:bG (bu g t=aw 4 (tm (aw 4 g++T))++T):=by show _=_;rw[s];rfl
 have Z:=hI s;clear s hb ho;go_upto_region 2 with(at_builtin;refine rm 2 t T rfl (dk 8) (dk 10) rfl (w+1) (js b2 2 c1) (aw 2 t) rfl (dz _ _) c (cw _ _) O P t rfl rfl (a5 _ X) Q Y ed f ?_;rw[<-Z.o];intro a7 c2 N u a);have K3:=hI (X.trans ((dT c (Mv _) f a).mono eF));have B:=hI (vd c a eh r);have b4:w.heap.size+1<=N.heap.size:=aD B;have v:=hI fun W (b5:jb N W)=>(fj u rfl).below fS b5;clear u a c r X f a5 Q;have p0:=ji 0 B;have L:=aD B;have b6:=hI fun W=>Bi g 4 W b1 ed eh;go_upto_region 3 with(first | (go_at_call 366;refine vr (b6 N) fun _ b7 c3 x y=>?_;have j:=hI x;have H:=hI y;clear x y) | (at_builtin;refine rm 4 T (4+T.length) rfl (dk 15) (dk 16) rfl N (js b7 4 c3) (aw 4 g) rfl (dz _ _) j (cw _ _) a7 c2 T rfl rfl (v _ H) i rfl ed H.size ?_;intro b8 c4 W4 z A))
 have k:=hI (H.trans (dT j (Mv _) H.size A));have D:=hI (fj z (by rw[Mx,cw]));have HL:bG (4+T.length=(aw 4 g++T).length):=by show _=_;rw[Mx,cw]
 have l:bG (aO (aw 4 g++T)):=fun b n=>(Tx.1 n).elim (dz _ _ b) (i b);obtain⟨U,a8⟩: ∃U,U=aw 4 g++T:=⟨_,rfl⟩;rw[<-a8]at D HL l M;have a9:=hI (wap b8 U c4 (U.map ar.toNat) W4 (AT D l) Qm);have E:=Ld U;have b0:=hI (Bi (tm U) 4 W4 E.1 ed eh);unfold tm at b0 E M;rw[<-HL.o]at a9;clear z A j H a8 HL l;generalize(rk 0#32 (U.map ar.toNat))=C at *;go_wp2_with (first | (go_at_call 406;refine a9.mono ?_;rintro e W5 ⟨rfl,rfl⟩) | (go_at_call 366;refine b0.mono ?_;rintro e W6 ⟨b9,c6,rfl,F,G⟩;have I:=hI F;have d:=hI G;clear F G) | (at_builtin;refine rm 4 T (4+T.length) rfl (dk 21) (dk 22) rfl W4 (js b9 4 c6) (aw 4 (C.toNat:ar)) rfl (dz _ _) I (cw _ _) a7 c2 T rfl rfl (v _ (jo k d)) i rfl ed d.size ?_;intro c0 c7 W7 a0 a1))
 go_ret;have hl:(bu g t).length=4+T.length:=by rw[M.o,Mx,cw]
 have c5:=k.size;have h7:=d.trans (dT I (Mv _) d.size a1);refine⟨c0,c7,by rw[hl];rfl,?_,K3.trans ((k.mono ed).trans (h7.mono ed))⟩;rw[hl,M.o];exact bW a0 ed
def iw {w:aj}{g off:av}(h:aB w 1 dG (bt ⟨g,off,bn⟩) c l) (p m:av) (H:p+m<=l.length):aB w 1 dG (bt ⟨g,off+p,bn⟩) (c-p) ((l.drop p).take m):=by
 have hl:((l.drop p).take m).length=m:=by rw[Dn,Po];omega
 refine⟨by rw[hl];have:=h.le;omega,fun e=>by simp at e,fun i a=> ?_⟩;obtain⟨b,o,v,e,h1,h2,h3⟩:=h.at_ (p+i) ed;cases e;refine⟨g,off+p,v,rfl,h1,fun j hj=> ?_,by rw[Tn,Ga];exact h3⟩;have:=h2 j hj;rw[show off+p+i * 1+j=off+(p+i) * 1+j by omega];exact this
theorem waz (w:aj) (ty:bT) (base:av) (v:bw) (n m:av) (xs:aq bw) (b:w.ownsRow base 5 1 v n xs) (V:0<n) (X:n+m<=1000000) (l:base<=w.heap.size):
  ∃v' w',(Builtin.append_ #[22,3] ty #[v,jV (m:ar)]).run prog w= .ok v' w'/\w'.ownsRow base 5 1 v' (n+m) (xs++cr m (bw.int .u8 0))/\w.grownBy w' v.ownBlock:=by
 obtain⟨i0,D,p,q,r⟩:=Se nD;have O:IntKind.i64.wrap (m:ar)=m:=by rw[IntKind.wrap_i64];omega
 have f: ¬((m:ar)<0):=ed
 have j: ¬(281474976710656<(m:ar)):=ed
 have s:prog.underlying 3=bt (.int .i64):=ef
 have H:(xs++cr m (bw.int .u8 0)).length=(n+m) * 1:=by rw[DN,b.1,aq.length_replicate];omega
 have E:xs.length=n:=by rw[b.1,Tb]
 obtain⟨Z,y⟩: ∃Z:aq bw,Z=cr m (bw.int .u8 0):=⟨_,rfl⟩;have hz2:Z.length=m:=by rw[y,aq.length_replicate]
 have t:(Builtin.zeroCells #[bw.int .u8 0] m)=Z.toArray:=by
  rw[y];apply aL.ext
  ·simp[Builtin.zeroCells]
  intro i h1 h2;simp[Builtin.zeroCells,av.mod_one]
 have T: ∀W:aj,Sem.run prog (if m * 1=0 then pure #[]else pure (Builtin.zeroCells #[bw.int .u8 0] m):Sem (aL bw)) W= .ok Z.toArray W:=fun W=>by
  by_cases h0:m=0
  ·subst h0;simp[y]
  rw[Nm ed,t];simp
 rw[<-y]at H ⊢;rcases b.2 with⟨rfl,rfl⟩ | ⟨g,cap,cur,rfl,F,Q,G,I,U,x⟩
 ·omega
 by_cases a:n+m<=cap
 ·have d:=run_storeCells_at prog g n 5 Z 0 cur w Q XY (fun u R=>by rw[y]at R;rw[aq.eq_of_mem_replicate R];rfl);simp only[Pk]at d;refine⟨cJ (bt ⟨g,0,bn⟩) (n+m) cap,w.setRow g (cur.toList.take n++Z++cur.toList.drop (n+Z.length)).toArray,?_,⟨H,.inr ⟨g,cap,_,rfl,F,Dp w g cur _ 5 _ Q,a,I,?_,?_⟩⟩,⟨rfl,rfl,rfl,ee,fun k _ J=>Nq w g k _ (fun e=>J (by simp[bw.ownBlock,e]))⟩⟩
  ·have c:Builtin.zeroCells (bw.int .u8 0).cells m=Z.toArray:=t;by_cases h0:m=0
   ·have K:Z=[]:=FD ed;subst h0;subst K;have z:=G;have L:IntKind.i64.wrap 0=0:=eh;simp[Builtin.append_,Fk underlying22,Fk s,sizeOf,typeInfo,zeroValue,D,p,q,r,asInt,asIntOf,L,z,Fn];simp at d;simp[d]
   simp[Builtin.append_,Fk underlying22,Fk s,sizeOf,typeInfo,zeroValue,D,p,q,r,asInt,asIntOf,O,f,a,j,h0,c,Fn,d]
  ·simp only[Fd,DN,DL,PR,aL.length_toList];omega
  rw[show n=n * 1 by omega,x,show(n * 1+m) * 1=(xs++Z).length by rw[H];omega];exact aq.take_left
 have hi:=b.cells (g:=g) rfl;have c:Builtin.zeroCells (bw.int .u8 0).cells m=Z.toArray:=t;have h0: ¬m=0:=(by omega);have A: ¬(9223372036854775807<((n:ar)+(m:ar))):=by omega
 have B: ¬(281474976710656<Builtin.nextslicecap (n+m) cap):=by
  have:=growslice_fits (need:=n+m) (old:=cap) (bytes:=1) ed ed;omega
 have M:=run_firstCells_some (P:=prog) w.drew 1 n ⟨g,0,bn⟩ n cap xs ed Og;have N:=grownCap_ge w (n+m) cap 5;have C:=grownCap_le_maxLen w (n+m) cap 5 Oq;refine⟨cJ (bt ⟨w,0,bn⟩) (n+m) (grownCap w (n+m) cap 5),w.drew.alloc (cO (xs.toArray++Z.toArray++Builtin.zeroCells (bw.int .u8 0).cells (grownCap w (n+m) cap 5-(n+m))) 5),?_,⟨H,.inr ⟨w,_,_,rfl,l,Nc w.drew _,N,C,?_,?_⟩⟩,⟨rfl,rfl,rfl,ee,fun k J _=>cB.heap_alloc _ _ _ (by simpa using J)⟩⟩
 ·simp[Builtin.append_,Fk underlying22,Fk s,sizeOf,typeInfo,zeroValue,D,p,q,r,asInt,asIntOf,O,f,a,j,h0,c,A,B,Question.forced,M,newRow,grownCap]
  try (congr 2;apply aL.ext';simp[PU])
 ·simp only[aL.size_append,Fd,size_zeroCells,E,hz2,show(bw.int .u8 0).cells.size=1 from rfl];omega
 simp only[aL.toList_append,PU];rw[<-PU,<-H];exact aq.take_left
def Le: ∀m:av,cr m (bw.int .u8 0)=(cr m (0:ar)).flatMap dR
 | 0=>rfl
 | m+1=>by rw[aq.replicate_succ,aq.replicate_succ,Sb,<-Le m];rfl
def waA {w:aj}{rest:aq Oper}{o:Oper}{a:Act}(n m k:av) (d:o.guard=bn) (s x:Operand)
  (f:o.op= .call {callee:= .builtin .append,args:=#[s,x],argTypes:=#[22,3]}) (base:av) (v:bw) (xs:aq ar) (g:a.eval s=v) (b:w.ownsRow base 5 1 v n (xs.flatMap dR)) (hx:a.eval x= jV (m:ar)) (i:0<n) (j:n+m=k) (l:k<=1000000) (H:base<=w.heap.size)
  (h: ∀A c w',w'.ownsRow base 5 1 (js A k c) k ((xs++cr m 0).flatMap dR)->w.grownBy w' v.ownBlock->wpList prog ops Q rest (a.put o.dst (js A k c)) w'):wpList prog ops Q (o::rest) a w:=by
 obtain⟨v',w',hr,h1,h2⟩:=waz w o.type base v n m _ b i ed H
 have e:xs.flatMap dR++cr m (bw.int .u8 0)=(xs++cr m 0).flatMap dR:=by
  rw[Dg,Le]
 rw[e]at h1;obtain⟨A,c,rfl⟩:=rR h1;subst j;exact Go.Lib.wpList_append_run w d s x 22 3 f _ _ g hx _ _ hr (h A c w' h1 h2)
def wg (g:ar) (t:aq ar):(bu g t).length=6+t.length:=by
 unfold bu BH;rw[Mx,Mx,cw,cw];omega
def waB (W:aj) (x y:ar):aB (W.alloc (cO #[cW .u8 x,cW .u8 y] 5)) 1 dG (bt ⟨W,0,bn⟩) 2 [x,y]:=by
 have H:(W.alloc (cO #[cW .u8 x,cW .u8 y] 5)).heap[W.heap.size]? =bt (cO #[cW .u8 x,cW .u8 y] 5 (0,0)):=Nc _ _;refine⟨ee,fun e=>by simp at e,fun i a=> ?_⟩;rcases i with _ | _ | i
 ·exact⟨_,_,[cW .u8 x],rfl,rfl,fun j hj=>by rcases j with _ | j;exact(Mu _ _ 0 _ _ _ H).trans rfl;simp at hj,rfl⟩
 ·exact⟨_,_,[cW .u8 y],rfl,rfl,fun j hj=>by rcases j with _ | j;exact(Mu _ _ 1 _ _ _ H).trans rfl;simp at hj,rfl⟩
 exact cv a (by show¬(i+1+1<2);omega)
theorem Cv (g:ar) (t:aq ar) (c0:ax bR) (c1:av) (w:aj) (e7:aB w 1 dG c0 c1 t) (H:aO t) (c2:t.length<=1882) (e8:0<=g) (c3:g<4294967296):
  jW 267 #[cZ #[cW dD g,js c0 t c1]] w fun e w'=> ∃c4 c5,e=cL (js c4 (bm g (bu g t)).length c5)/\aB (jQ cn w') 1 br c4 c5 (bm g (bu g t))/\jb w w':=by
 have e9:=hI fun W (h:jb w W)=>way g t c0 c1 W (e7.below fS h) H ed e8 c3;have c6:=wg g t
 have ho:aO (bu g t):=fun b T=>by
  unfold bu BH at T;rcases aq.mem_append.1 T with h | h
  ·exact dz _ _ b h
  rcases aq.mem_append.1 h with h | h
  ·exact dz _ _ b h
  exact H b h
 generalize bu g t=R at *;have f7:R.length<=1888:=ed
 have c7:6<=R.length:=ed
 obtain⟨M,hb⟩: ∃M,M=ii R:=⟨_,rfl⟩;have f0:M<=16:=by rw[hb];unfold ii;omega
 refine Qa fun l H5=>?_;clear e7 H c6 hb ho;go_enter func267,ntmps267;go_upto_region 1 with fail;generalize C:cj _ _=W0;have K0:=hI (jG C)
 have bx:=jA C
 refine vF fun p0 p1 b7=>?_;have f1:=hI bx;clear C bx;have c8:=hI (e9 W0 K0);obtain⟨N,b8⟩: ∃N,N=R.length:=⟨_,rfl⟩;rw[<-b8]at c8 f7 c7;have HL:=hI b8
 have hq:((N:ar)+118-1) / 118=(M:ar):=by
  have h1:M=(N+117) / 118:=by rw[l.o,b8];rfl
  omega
 have f8:=hI hq;clear b8 hq;go_upto_region 2 with(go_at_call 365;refine c8.mono ?_;rintro e W1 ⟨i5,c9,rfl,V,D⟩;have d0:=hI (fj V HL.symm);have K1:=hI (jo K0 D);have B:=hI ((D.block _ b7).trans f1);clear V D);clear p0 p1 K0 f1 c8 e9;go_upto_region 5 with fail;simp only[f8.o];obtain⟨f9,oa,rfl,-⟩:=d0.by (i:=0) Qm;have f2:N<=c9:=by rw[HL.o];exact d0.le
 have HE:bG ((bm g R).length=M):=by show _=_;rw[bm,TG,Fo,<-l.o]
 go_loopg [5,6] M (fun g0 s i wr=> ∃(k:av) (Y:ax bR) (Z:av) (xss:aq (aq bw)),k<=M/\g0=M-k/\s=cJ Y k Z/\i= jV k/\jb W1 wr/\cR MD wr W1 22 1 br (js Y k Z) ((bm g R).take k) xss)
 ·exact⟨0,bn,0,[],ed,ed,rfl,rfl,Nb _ _,cR.nil⟩
 obtain⟨k,Y,Z,xss,i6,rfl,rfl,rfl,H,b9⟩:=hrel;have H6:=hI H;have d1:=hI b9;have HRL:bG (xss.length=k):=by show _=_;rw[b9.len,DL,HE.o];omega
 have E:=H.size;by_cases d2:k<M
 ·have hd:ab ((k:ar)<(M:ar))=bl:=em;have L:=aD B;have a:=(H.block _ L).trans B;have p0:=ji 0 a;have b7:=aD a;have d3:(k:ar) % 256=(k:ar):=ed;have d4:(M:ar) % 256=(M:ar):=ed;have H0:=hI (d0.below fS H);have H1:=hI fun W=>Bi g 4 W e8 ed eh;have F:bG (aO [(k:ar),(M:ar)]):=fun x hx=>by simp at hx;rcases hx with rfl | rfl<;>omega
  clear H b9 a;go_upto_region 8 with(first | (go_at_call 366;refine vr (H1 wr) fun W2 g1 g2 a0 a1=>?_;have G:=hI a0;have f:=hI a1;clear a0 a1) | (at_builtin;refine rm 4 2 6 rfl (dk 24) (dk 29) rfl wr (js g1 4 g2) (aw 4 g) rfl (dz _ _) (G.alloc _) (cw _ _) (bt ⟨W2,0,bn⟩) 2 [(k:ar),(M:ar)] rfl rfl (waB W2 k M) F rfl eh (Nj f.size ee) ?_;intro g3 g4 W4 a2 a3))
  have j:=hI (f.trans ((((Nb W2 W2).alloc (Mv _) _).mono f.size).trans (dT (G.alloc _) (Mv _) (Nj f.size ee) a3)));have n:=hI a2;have c:bG ((aw 4 g++[(k:ar),(M:ar)]).length=6/\aO (aw 4 g++[(k:ar),(M:ar)])):=⟨by rw[DN,cw];rfl,fun b H=>(aq.mem_append.1 H).elim (dz _ _ b) (F b)⟩;clear a2 a3 G f p0 b7 d3 d4;obtain⟨p,hp⟩: ∃p,p=118 * k:=⟨_,rfl⟩;obtain⟨q,hq⟩: ∃q,q=min N (p+118):=⟨_,rfl⟩
  have d5:p<N:=by
   have h1:M=(N+117) / 118:=(by rw[l.o,HL.o];rfl);omega
  have d6:(118:ar) * (k:ar)=(p:ar):=ed;have a4:min (N:ar) ((p:ar)+118)=(q:ar):=ed;have d7:p<=q:=ed;have d8:q<=N:=ed;have d9:q<=c9:=ed;have g5:=hI hp;have H2:=hI hq;clear hp hq;go_upto_region 9 with fail;obtain⟨m,c2⟩: ∃m,m=q-p:=⟨_,rfl⟩;rw[<-c2];have a5:p+m<=R.length:=Qm;have e0:m<=118:=(by have:=H2.o;omega);obtain⟨z,hz⟩: ∃z,z=118-m:=⟨_,rfl⟩;have e1:(118:ar)-(m:ar)=(z:ar):=ed;have e2:=hI hz
  have d:bG (kg R k=(R.drop p).take m/\((R.drop p).take m).length=m):=by
   have h1:p+m=N\/m=118:=(by have:=H2.o;omega);have h2:=HL.o;have h3:((R.drop p).take m).length=m:=(by rw[DL,PR];omega);refine⟨?_,h3⟩;unfold kg;rw[<-g5.o];rcases h1 with h1 | h1
   ·rw[Sq (by rw[PR];omega),Sq (by rw[PR];omega)]
   rw[h1]
  have I:=hI fun W (h:jb wr W)=>iw (H0.below fS h) p m a5;have r:bG (aO ((R.drop p).take m)):=fun b H=>H5 b (aq.mem_of_mem_drop (aq.mem_of_mem_take H));obtain⟨U,e3⟩: ∃U,U=aw 4 g++[(k:ar),(M:ar)]:=⟨_,rfl⟩;obtain⟨Pt,a6⟩: ∃Pt,Pt=(R.drop p).take m:=⟨_,rfl⟩;rw[<-e3]at n c;rw[<-a6]at d I r;have f3:=hI e3;clear c2 hz d6 a4 d7 d8 d9 d5 e3 a6 a5 F;go_upto_region 11 with(at_builtin;first | (refine rm 6 m (6+m) rfl (dk 41) (dk 42) rfl wr (js g3 6 g4) U rfl c.2 n c.1 (bt ⟨f9,oa+p,bn⟩) (c9-p) Pt rfl d.2 (I _ j) r rfl ed j.size ?_;intro g6 g7 W5 a7 a8;have J:=hI a7;have u:=hI (j.trans (dT n (Mv _) j.size a8));clear a7 a8) | (refine waA (6+m) z 124 rfl (dk 44) (dk 47) rfl wr (js g6 (6+m) g7) (U++Pt) rfl J rfl ed (by have:=e2.o;omega) eh u.size ?_;intro g8 g9 W6 a9 b0;have H3:=hI a9;have HB:=hI (u.trans (dT J (Mv _) u.size b0));clear a9 b0))
  have b1:(U++Pt++cr z 0).length=124:=by rw[DN,DN,c.o.1,d.o.2,aq.length_replicate];have:=e2.o;omega
  have y:aO (U++Pt++cr z 0):=fun b H=>by
   rcases aq.mem_append.1 H with h | h
   ·exact(aq.mem_append.1 h).elim (c.2 b) (r b)
   rw[aq.eq_of_mem_replicate h];decide
  have v:=hI (And.intro b1 y)
  have K:bG (U++Pt++cr z 0++aw 4 g=nm g R M k):=by
   show _=_;unfold nm;rw[d.o.1,d.o.2,<-f3.o,<-e2.o]
  obtain⟨X,f4⟩: ∃X,X=U++Pt++cr z 0:=⟨_,rfl⟩;rw[<-f4]at v K H3;have L:=aD B;have h6:=H6.trans (HB.mono E);have a:=(h6.block _ L).trans B;have p0:=ji 0 a;have b7:=aD a;have J1:=HB.size;have i7:=hI h6;clear f4 b1 y a h6 L e0 e1 H0 I n J j u c r d f3;go_wp2_with (first | (go_at_call 366;refine vr (H1 W6) fun _ i0 i1 b2 M5=>?_;have H4:=hI (bU H3 M5);have H7:=hI (fj b2 (cw _ _));have O:=hI eg;clear b2 M5) | (at_builtin;first | (refine rm 124 4 128 rfl (dk 50) (dk 54) rfl wr (js g8 124 g9) X rfl v.2 H4 v.1 i0 i1 (aw 4 g) rfl (cw _ _) H7 (dz _ _) rfl eh O.size ?_;intro f5 f6 W8 b3 b4;have P:=hI (O.trans (dT H4 (Mv _) O.size b4));have H8:=hI b3;have Q:=hI (d1.below an P);have b5:=Nj E P.size;clear b3 b4) | (refine nK rfl _ _ 81 22 22 _ 1 24 rfl underlying81 qx rfl eh eh W1 (js Y k Z) k _ rfl (HRL.o ▸ Q.o.own) ed b5 [cJ f5 128 f6] rfl rfl (zv _ _ _) ?_;intro i2 i3 w9 G9 A)))
  have e4:=(H6.trans (P.mono E)).trans ((((Nb W8 W8).alloc (Mv _) _).mono b5).trans (dT (Q.own.alloc _) (Mv _) em A));have e5:(nm g R M k).length=128:=by rw[<-K.o,DN,v.o.1,cw]
  have e6:br (jQ MD W8) [cJ f5 128 f6] (nm g R M k):=by
   refine Av (base:=wr.heap.size) ?_;rw[e5,<-K.o];exact H8
  have b6:=(Q.below an aR).app an rfl rfl (an _ _ _ _ (dS.of_below ((Nb W8 W8).alloc (Mv _) _)).ext e6) Ox A
  have i4:(bm g R).take (k+1)=(bm g R).take k++[nm g R M k]:=by
   rw[NZ (by rw[HE.o];exact d2)]
   congr 2
   simp[bm,<-l.o]
  rw[<-i4]at b6;go_roundg (M-(k+1))
  ·go_light;exact⟨k+1,bt ⟨i2,0,bn⟩,i3,_,ed,ed,rfl,ej,e4,b6⟩
  go_light;omega
 obtain rfl:k=M:=ed;have hd:ab ((k:ar)<(k:ar))=aW:=ee;rw[Sq (by rw[HE.o];exact Mv _)]at d1;clear H b9;refine ei ?_;obtain⟨c4,c5,e,h⟩:=d1.slM an Ak rfl;rw[HE.o]at e;cases e;exact⟨Y,Z,ew,h,jo K1 H6⟩
def bv (x:wbm) (z:ar) (S:aq (aq ar)):wbm:=⟨x.sc,x.wt++S.mapIdx fun i b=>⟨z+(i:ar),b⟩⟩
def Aq (x:wbm) (z:ar):bv x z []=x:=by unfold bv;simp
def Et (x:wbm) (z:ar) (S:aq (aq ar)) (b:aq ar):bv x z (S++[b])=(bv x z S).add (z+(S:ar)) b:=by
 unfold bv wbm.add;simp[aq.mapIdx_append]
def Bv {x:wbm}(H:ae x){z:ar}(S:aq (aq ar)) (hz:0<=z) (a:z+S.length<=32) (e:x.wt.length+S.length<=256) (c: ∀b∈S,b.length=128):ae (bv x z S):=by
 refine⟨H.1,by simp[bv];omega,H.2.2.1,fun y d=> ?_⟩;rcases Tx.1 d with h | h
 ·exact H.2.2.2 y h
 obtain⟨i,f,rfl⟩:=aq.mem_mapIdx.1 h;exact⟨by simp only;omega,by simp only;omega,c _ (Nn _)⟩
def Bw (g:ar) (b:aq ar) (n i:av):(nm g b n i).length=128:=by
 unfold nm;have:(kg b i).length<=118:=by unfold kg;rw[Dn];omega
 simp[cw];omega
def As (g:ar) (b:aq ar): ∀y∈bm g b,y.length=128:=fun y H=>by
 unfold bm at H;obtain⟨i,_,rfl⟩:=aq.mem_map.1 H;exact Bw _ _ _ _
def xI {g:av}{C:aL bw}(a:jk W g Z 84):dS cn W (W.setRow g C):=fun k cs t f H b=>by
 by_cases e:k=g
 ·subst e;rw[a]at H;cases H;cases b
 exact(Nq _ _ _ _ e).trans H
def ay.same {w w':aj}{a:ax bR}{x:wbm}(h:ay (jQ cn w) a c b d x) (H:dS cn w w'):ay (jQ cn w') a c b d x:=h.ext H.ext
def dg {M:bT->aU}:eD (jQ M W) W:=fun a v h=>by
 obtain⟨c,t,f,h1,h2⟩:=KL h;rw[Pj (w:=jQ M W) (w':=W) (h1.trans (zI h1 h2).symm)];exact h
theorem PD (x:wbm) (a:ax bR) (c:av) (b:ax bR) (d:av) (g:ar) (t:aq ar) (T:ax bR) (q:av) (w:aj) (hx:ay (jQ cn w) a c b d x) (ho:ae x) (P:aB w 1 dG T q t) (Q:aO t) (R:t.length<=1882) (U:0<=g) (u:g<4294967296) (b9:x.wt.length<=240):
  jW 268 #[cZ (ak a c b d x),cZ #[cW dD g,js T t q]] w fun e w'=> ∃X Z a0 a1,e=cL (cZ (ak X Z a0 a1 (bv x (bo g) (bm g (bu g t)))))/\ay (jQ cn w') X Z a0 a1 (bv x (bo g) (bm g (bu g t)))/\jb w w':=by
 have H0:=hI fun W (h:jb w W)=>Cv g t T q W (P.below fS h) Q R U u;have J:=wg g t;have hb:=As g (bu g t);have b0:(bm g (bu g t)).length<=16:=by rw[bm,Pn,Gy];unfold ii;omega
 generalize bm g (bu g t)=S at *;refine Qa fun L _=>?_;have hz:0<=bo g/\bo g<=16:=by unfold bo;omega
 have HSlot:=hI fun W=>Bf g U u W;generalize bo g=z at *;have j:bG (∀k,k<=S.length->ae (bv x z (S.take k))):=fun k I=>Bv ho _ hz.1 Kk Kk fun y b1=>hb y (Tm b1);have a4:=hI hx;clear P Q J hb ho hx;obtain⟨A,r,B,d0,s⟩: ∃A r B d0,ak a c b d x=(#[js A x.sc r,js B x.wt d0]:aL bw)/\A=a/\r=c/\B=b/\d0=d:=⟨a,c,b,d,rfl,rfl,rfl,rfl,rfl⟩;obtain⟨s,rfl,rfl,rfl,rfl⟩:=s;clear s;unfold ak;go_enter func268,ntmps268;go_upto_region 1 with fail;have F0:bG (Fr w [(#[js A x.sc r,js B x.wt d0],84),(#[cW dD g,js T t q],161),(#[jN,jN],84)] (((w.alloc (cO #[js A x.sc r,js B x.wt d0] 84)).alloc (cO #[cW dD g,js T t q] 161)).alloc (cO #[jN,jN] 84))):=(((Fr.start w).alloc rfl _ _).alloc ee _ _).alloc ee _ _;generalize cj _ _=W0 at *;have HC:=hI (H0.o W0 F0.o.bel);go_upto_region 2 with(first | (refine Dx rfl 161 (dk 3) rfl (w+1) rfl 161 _ (0,0) _ (F0.o.row 1 _ rfl) underlying161 rfl ef ?_;simp[cq]) | (go_at_call 267;refine vy fun W2 _ _ h1 M5=>?_;have F1:=hI (F0.o.below M5);have b4:=hI h1;clear h1 M5))
 have D:=hI (a4.o.same (dS.of_below F1.o.bel));clear F0 H0 HC a4;refine vj ?_;go_loopg [6] S.length (fun gg i wr=> ∃(k:av) (a2:ax bR) (c2:av) (b2:ax bR) (d2:av),k<=S.length/\gg=S.length-k/\i= jV k/\Fr w [(ak a2 c2 b2 d2 (bv x z (S.take k)),84),(#[cW dD g,js T t q],161),(#[jN,jN],84)] wr/\ay (jQ cn wr) a2 c2 b2 d2 (bv x z (S.take k))/\dS cn W2 wr)
 ·exact⟨0,A,r,B,d0,ed,ed,rfl,by rw[aq.take_zero,Aq];exact F1.o,by rw[aq.take_zero,Aq];exact D.o,fun k cs t f I R=>I⟩
 obtain⟨k,a2,c2,b2,d2,I,rfl,rfl,hF,a5,a6⟩:=hrel;have F:=hI hF;have HD:=hI a5;have HSm:=hI a6;clear hF a5 a6 F1 D;by_cases n:k<S.length
 ·have hd:ab ((k:ar)<(S:ar))=bl:=em;have HL:bG ((S.take k).length=k/\S.take (k+1)=S.take k++[S[k]]):=⟨Kk,(It n).symm⟩;have E:=hI (j.o k I);have M:=hI (j.o (k+1) n);refine NM fun N=>?_;generalize bv x z (S.take k)=Y at *;obtain⟨c7,os,b5,b6,rfl,y0,y1⟩:=(aB.ext an b4.o HSm.o.ext).sc n;have O:=hI (aB.ext (fun _ _ _ _ _ h=>h) y1 dg);have z0:=dg _ _ y0;obtain⟨p0,p1⟩:=DY (g:=w.heap.size) (F.o.row 0 _ rfl);have q0:=ji 0 (F.o.row 1 _ rfl);have lp:w.heap.size<wr.heap.size:=F.o.lt (i:=0) ee;have lq:=F.o.lt (i:=1) ee;have lz:=Mt z0;have c0:(0:ar)<=(k:ar):=ed;have c1:(k:ar)<(S:ar):=ed;have b7:=hz.1;have b8:=hz.2;have a7:(k:ar)<=16:=ed;clear y0 y1;go_upto_region 5 with fail;refine zD [11] ?_;intro V hV;have t0:=fun t:Gw wr=>t.cel p0;have t1:=fun t:Gw wr=>t.cel p1;refine NK fun t2 t3 t4 t5 t6=>?_;refine zB [0,1,2,4,6,7,8,9] hV ?_;clear t0 t1 t2 t3 t4 t5 t6 p0 p1 q0 z0 lp lq lz;refine ZP fun F1 S1=>?_;have s:=wax Y a2 c2 b2 d2 (z+(k:ar)) S[k] b5 b6 V ((HD.o.same (dS.of_below hV)).ext dg) E.o (O.o.below fS hV) (by rw[L.o _ (Nn _)];decide);refine aS 10 ef ?_;refine Oo fun K a9=>?_;refine .inl (s.mono ?_);clear s;rintro e V1 ⟨a3,c3,b3,d3,rfl,h3,P9⟩;simp[go_sem];refine a9 _ _ (fun _=>jt hV P9) ?_;refine MH fun F2 S2 H3=>?_;rw[<-N.o]at H3;rw[<-N.o];clear a9 K hV h3 P9 F1 S1 F HSm HD N E M;obtain⟨Y2,H⟩: ∃Y2,Y2=bv x z (S.take (k+1)):=⟨_,rfl⟩;rw[<-H]at H3;rw[<-H];have G:=hI H;clear H;refine pG [11] ef ee ?_;refine oS ?_;go_wp2_with (refine bP rfl 84 (dk 2) (dk 25) rfl w (ak a3 c3 b3 d3 Y2) _ 84 rfl rfl (F2.o.row 0 _ rfl) ef rfl uE ?_);have hr0:jk V1 w _ 84:=F2.o.row 0 _ rfl
  refine ZW fun F3 H4 S4=>?_;go_roundg (S.length-(k+1))
  ·go_light;exact⟨k+1,a3,c3,b3,d3,ed,ed,ej,by rw[<-G.o];exact F3.o,by rw[<-G.o];exact H4.o,S4.o⟩
  go_light;omega
 obtain rfl:k=S.length:=ed;have hd:ab ((S:ar)<(S:ar))=aW:=ee;rw[Ph]at F HD;go_upto_region 6 with fail;go_wp2_with (first | (refine Dx rfl 84 (dk 2) rfl w rfl 84 _ (0,0) _ (F.o.row 0 _ rfl) underlying84 rfl ef ?_;simp[cq]) | (refine bP rfl 84 (dk 4) (dk 26) rfl (w+2) (ak a2 c2 b2 d2 (bv x z S)) _ 84 rfl rfl (F.o.row 2 _ rfl) ef rfl uE ?_))
 have hr2:jk wr (w+2) _ 84:=F.o.row 2 _ rfl;have F3:=hI (F.o.setRow 2 rfl (ak a2 c2 b2 d2 (bv x z S)));refine Nh (v:=cZ (ak a2 c2 b2 d2 (bv x z S))) (Pb (p:=4) rfl _ _ (w+2) 84 _ (0,0) _ rfl (F3.o.row 2 _ rfl) underlying84 rfl ef) rfl ?_;exact EN
section
open Go.RowKit Go.Shelf Go.Sort Tryz
def PE (g off c g2 O c2:av) (w:aj) (h1:128<=c) (h2:128<=c2):
  jW 361 #[jq g off 128 c,jq g2 O 128 c2] w fun e w'=>e=cL (jq g2 O 128 128)/\jb w w':=by
 go_enter func361,ntmps361;go_upto_region 2 with fail;refine zD [] ?_;intro V hV;refine zB [0,1,2,3,4,5,6] hV ?_;generalize(ite (c=128) _ _:ax bR)=X;refine aS 7 ef ?_;intro K hK;cases X
 all_goals
  simp[wpOp,go_sem,Builtin.append_,Builtin.lenOf,Builtin.firstCells,storeCells,loadCells,loadCellsFrom];refine ue ?_;clear hK K;refine zB [8] hV ?_;refine eI ef ?_ _;refine ei ?_;exact⟨rfl,hV⟩
def yh (W:aj) (b:ax bR) (l:aq Wr) (yb yo yc:av->av):Prop:= ∀j (h:j<l.length),∃g off,b=bt ⟨g,off,bn⟩/\jc W g (off+j * 2) l[j].at_/\jc W g (off+j * 2+1) (jq (yb j) (yo j) 128 (yc j))
attribute [local go_sem] Oper.semAt_some
theorem PZ (m l P P1:av) (x:wbm) (a:ax bR) (c:av) (b:ax bR) (d:av) (Y t y:av->av) (L:x.wt.length<=600) (C: ∀j,j<x.wt.length->128<=y j) (J:av->aj->Prop)
  (u: ∀k W,J k W->jk W P (ak a c b d x) 84/\jk W P1 #[.func (.func 265) #[] #[]] 336/\yh W b x.wt Y t y)
  (F: ∀k W W',J k W->jb W W'->J k W')
  (n: ∀k W (h:k<x.wt.length),J k W->YieldAt Fence.wide (m-1) prog l #[x.wt[k].at_,jq (Y k) (t k) 128 (y k)] W (fun e W'=>e=cL (db bl)/\J (k+1) W'))
  (W:aj) (h0:J 0 W):
  CallsIn Fence.wide m prog 405 #[.func (.yield l) #[] #[],jp P 0,jp P1 0] W fun e W'=>(∃v,e=cL v)/\J x.wt W':=by
 refine callsIn_of_wp func405 rfl Py ?_ rfl;simp only[ntmps405,Gv,Du,Tl,av.reduceAdd,av.reduceSub,Gk,Gj,Gx,Gq,Dd,Nz];obtain⟨N,w⟩: ∃N,N=x.wt.length:=⟨_,rfl⟩;obtain⟨R,r1,r2⟩:=u 0 W h0;have p1:jc W P 1 (js b N d):=by rw[w];exact(Mu W _ 1 _ _ _ R).trans rfl
 have M:=aD R;clear R r1 r2;rw[<-w]at L
 have O:bG (∀k W,k<N->J k W-> ∃(at_:ar),(∃g off,b=bt ⟨g,off,bn⟩/\jc W g (off+k * 2) at_/\jc W g (off+k * 2+1) (jq (Y k) (t k) 128 (y k)))/\128<=y k/\ ∀W',J k W'->YieldAt Fence.wide (m-1) prog l #[at_,jq (Y k) (t k) 128 (y k)] W' (fun e W'=>e=cL (db bl)/\J (k+1) W')):=fun k W h hj=>
  ⟨x.wt[k].at_,(u k W hj).2.2 k ed,C k ed,fun W' D=>n k W' ed D⟩
 have p:=hI fun k W h=>(u k W h).2.1;rw[<-w];clear w n u C
 gi_wp2
 gi_loopg [9] N (fun gg i wr=> ∃k:av,k<=N/\gg=N-k/\i= jV (k:ar)/\J k wr)
 case atStart=>exact⟨0,Pe _,rfl,rfl,h0⟩
 case round=>
  obtain⟨k,Z,rfl,rfl,hj⟩:=hrel;have G:=hI hj;clear p1 M;by_cases ho:k<N
  ·have hd:ab ((k:ar)<(N:ar))=bl:=em;obtain⟨A,⟨g,off,rfl,x0,x1⟩,C,n⟩:=O.o k wr ho hj;have y0:=My _ _ x0;have c0:(0:ar)<=(k:ar):=ed;have c1:(k:ar)<(N:ar):=ed;have q:=hI n;clear hj n
   gi_upto_region 3 with fail
   refine Qq fun z H=>?_;have b1:=jG H;have B:=jA H;have f:=hI (F _ _ _ G.o b1);have z0:=(Mu z _ 0 _ _ _ B).trans rfl;have z1:=(Mu z _ 1 _ _ _ B).trans rfl;have z2:=(Mu z _ 0 _ _ _ (p.o _ _ f.o)).trans rfl;have Q:=aD B;have T:=aD (p.o _ _ f.o);have U:(128:ar)<=(y k:ar):=ed;have I:prog.follows .mixedOrders=bl:=ef;clear H B x0 x1 y0;obtain⟨fn,tmps,assign,K,V,hb⟩:=q.o z.drew (F _ _ _ f.o ⟨rfl,rfl,rfl,Mv _,fun _ _=>rfl⟩);refine Qa fun X r=>?_;clear hb q
   gi_region_with_o (first | (refine⟨Py,fun h=>(nomatch h),(callsIn_wide.2 (Wt _ _)).mono ?_⟩;rintro e w' ⟨rfl,rfl⟩) | (refine⟨fun h=>(nomatch h),X.o.mono ?_⟩;rintro e W3 ⟨rfl,s⟩))
   all_goals
    have E:=hI s;clear s z0 z1 z2 Q T V
    gi_wp2
    gi_roundg (N-(k+1))
    ·have:=r.o;go_light;exact⟨k+1,ed,rfl,ej,E.o⟩
    have:=r.o;go_light;omega
  obtain rfl:k=N:=ed;have hd:ab ((k:ar)<(k:ar))=aW:=ee;clear hj
  gi_wp2
  go_end0
  exact⟨⟨_,rfl⟩,G.o⟩
attribute [local go_sem] Oper.semAt_some
open Go.RowKit Go.Sort
def At (ws:aq av){P:Program}{id:av}{a:Act}{w:aj}{l:aq Oper}(r n:av) (hno: ¬LetsOut Q) (hnd:PY l.toArray=bl)
  (h: ∀V,jb w V->eQ P .any l.toArray Q (eG ws (cB w w)) l (aL.replicate l aW) a V) (hm:P.follows .mixedOrders=bl:=by kernel_rfl):(Code.region id l.toArray bl).wpIn (Fence.wide.inRound r) n P Q a w:=by
 refine wpIn_region_any hm (QA r n hno (ur hnd) _ _ _ _ (GY (S:=eG ws (cB w w)) _ _ _ _ ?_));have:=h {w with drawn:=w.drawn+1} ⟨rfl,rfl,rfl,Mv _,fun _ _=>rfl⟩
 simpa using this
def it (g:av) (k:av):aU:=k==g
def fq (W:aj) (OB:av) (S:aq (aq ar)):Prop:= ∃cur:aL bw,jk W OB cur 22/\ ∀i,i<32-> ∃g o c,128<=c/\cur[i]? =bt (cJ (bt ⟨g,o,bn⟩) 128 c)/\aB (bK (it OB) W) 1 dG (bt ⟨g,o,bn⟩) c (S.getD i [])
def fq.of_ext {S:aq (aq ar)}(h:fq W OB S) (H: ∀cs t,jk W OB cs t->jk W' OB cs t) (he:eD (bK (it OB) W) (bK (it OB) W')):fq W' OB S:=by
 obtain⟨cur,h1,h2⟩:=h;refine⟨cur,H _ _ h1,fun i a=> ?_⟩;obtain⟨g,o,c,k1,k2,k3⟩:=h2 i a;exact⟨g,o,c,k1,k2,aB.ext iX k3 he⟩
def fq.below {S:aq (aq ar)}(h:fq W OB S) (H:jb W W'):fq W' OB S:=
 h.of_ext (fun cs t hx=>(jm H hx)) (eV H)
def fq.put {l:av}{S:aq (aq ar)}{o:Obj}(h:fq W OB S) (o':Obj) (hw:W.heap[l]? =bt o) (ho:o.isCells=aW):fq (W.putObj l o') OB S:=
 h.of_ext (fun cs t hx=>(aj.putObj_heap_other OQ).trans hx) fun a v e=>by
  obtain⟨h1,h2,o2,h3,h4⟩:=BP e;refine uC e h1 id (aj.putObj_heap_other ?_);rintro rfl;unfold aj.cell? at h2;rw[hw]at h2;cases o<;>first | (cases ho;done) | (simp at h2;done)
def fq.set {i:av}{S:aq (aq ar)}(h:fq W OB S) (H:S.length=32) (a:i<32){g o:av}{b:aq ar}(d:128<=c) (f:aB (bK (it OB) W) 1 dG (bt ⟨g,o,bn⟩) c b):fq (W.setCell ⟨OB,i,bn⟩ (jq g o 128 c)) OB (S.set i b):=by
 obtain⟨cur,h1,h2⟩:=h;have he:eD (bK (it OB) W) (bK (it OB) (W.setCell ⟨OB,i,bn⟩ (jq g o 128 c))):=Zh (by simp[it]);obtain⟨g0,o0,c0,-,k0,-⟩:=h2 i a;have hz:=(aL.getElem?_eq_some_iff.1 k0).1;refine⟨cur.setIfInBounds i (jq g o 128 c),by simp[cd,Nk,h1],fun j hj=> ?_⟩;by_cases e:j=i
 ·subst e;exact⟨g,o,c,d,Qh,by rw[show(S.set j b).getD j []=b by simp[aq.getD,H,hj]];exact aB.ext iX f he⟩
 obtain⟨g1,o1,c1,k1,k2,k3⟩:=h2 j hj;exact⟨g1,o1,c1,k1,by rw[aL.getElem?_setIfInBounds_ne (Sr e)];exact k2,by rw[show(S.set i b).getD j []=S.getD j []by simp[aq.getD,aq.getElem?_set,Sr e]];exact aB.ext iX k3 he⟩
def fq.sl {S:aq (aq ar)}(h:fq W OB S) (a:S.length=32) (hl: ∀i (h:i<S.length),S[i].length=128) (b:32<=c):aB W 1 br (bt ⟨OB,0,bn⟩) c S:=by
 obtain⟨cur,h1,h2⟩:=h;refine⟨ed,fun e=>by simp at e,fun i H=> ?_⟩;obtain⟨g,o,k,k1,k2,k3⟩:=h2 i ed;rw[iu H]at k3;refine⟨OB,0,[cJ (bt ⟨g,o,bn⟩) 128 k],rfl,rfl,fun j hj=> ?_,⟨_,k,by rw[hl i H],aB.ext iX k3 (mZ _ _)⟩⟩;obtain rfl:j=0:=by simpa using hj
 have:=(Mu W OB i _ _ _ h1).trans k2
 simpa using this
def Qg {S:av->aU}{w:aj}{a:bR}{v:bw}(h:w.cell? a=bt v) (H:S a.block=aW) (h0:S 0=aW):(bK S w).cell? a=bt v:=by
 unfold aj.cell? at h ⊢;simp only[bK,Gf,H,h0,aU.false_and,aU.or_false];cases ho:w.heap[a.block]? with
 | none=>rw[ho]at h;simp at h
 | some o=>rw[ho]at h;simpa using h
def Qi {a:ax bR}{S:aq (aq ar)}{xss:aq (aq bw)}(h:cR MD W N 22 1 br (js a 32 c) S xss) (h0:0<N) (j:S.length=32) (hl: ∀i (h:i<S.length),S[i].length=128): ∃OB,a=bt ⟨OB,0,bn⟩/\N<=OB/\32<=c/\OB<W.heap.size/\fq W OB S:=by
 have h':cR MD W N 22 1 (fun _ V b=>br (jQ MD W) V b) (js a 32 c) S xss:=⟨h.own,h.len,h.sz,h.rd⟩;obtain⟨a1,c1,e1,d⟩:=h'.sl (fun _ _ _ _ _ h=>h);have f:=d.le;simp only[bw.slice.injEq]at e1;obtain⟨rfl,-,rfl⟩:=e1;rcases h.own.2 with⟨e,h2⟩ | ⟨g,cap,cur,e,h1,h2,h3,h4,h5,h6⟩
 ·have:=h.len;omega
 simp only[bw.slice.injEq]at e;obtain⟨rfl,-,rfl⟩:=e;refine⟨g,rfl,h1,ed,aD h2,cur,h2,fun i l=> ?_⟩;obtain⟨b,off,V,e2,k1,k2,A,C,k3,k⟩:=d.at_ i ed;cases e2;have H:=hl i ed;obtain⟨g1,o1,rfl,-⟩:=k.by (i:=0) ed;refine⟨g1,o1,C,by have:=k.le;omega,?_,?_⟩
 ·have:=k2 0 ed;subst k3;rw[Mu W _ _ _ _ _ h2]at this;rw[H]at this
  simpa using this
 rw[iu ed];refine aB.ext iX k fun n v e=> ?_;refine Qg (dg _ _ e) ?_ (by simp[it];omega);simp only[it,Nd];rintro rfl;unfold aj.cell? at e;simp[jQ,h2,DJ,MD]at e
def Ql {w:aj}{l:aq Wr}(h:aB w 2 du b d l) (hl: ∀y∈l,y.data.length=128): ∃a c Y:av->av,(∀j,j<l.length->128<=Y j)/\yh w b l a c Y/\ ∀j (h:j<l.length),aB w 1 dG (bt ⟨a j,c j,bn⟩) (Y j) l[j].data:=by
 have h1: ∀j:av,∃q:av × av × av,∀h:j<l.length,128<=q.2.2/\(∃g off,b=bt ⟨g,off,bn⟩/\jc w g (off+j * 2) l[j].at_/\jc w g (off+j * 2+1) (jq q.1 q.2.1 128 q.2.2))/\aB w 1 dG (bt ⟨q.1,q.2.1,bn⟩) q.2.2 l[j].data:=fun j=>by
  by_cases hj:j<l.length
  ·obtain⟨g,off,A,C,rfl,x0,x1,x⟩:=h.wr hj;have h8:=hl _ (Nn hj);obtain⟨g1,o1,rfl,-⟩:=x.by (i:=0) ed;rw[h8]at x1;exact⟨(g1,o1,C),fun _=>⟨show 128<=C by have:=x.le;omega,⟨g,off,rfl,x0,x1⟩,x⟩⟩
  exact⟨(0,0,0),fun h=>cv h hj⟩
 obtain⟨q,hq⟩:=Classical.axiomOfChoice h1;exact⟨fun j=>(q j).1,fun j=>(q j).2.1,fun j=>(q j).2.2,fun j hj=>(hq j hj).1,fun j hj=>(hq j hj).2.1,fun j hj=>(hq j hj).2.2⟩
def yh.below {w w':aj}{l:aq Wr}{y Y a:av->av}(h:yh w b l y Y a) (H:jb w w'):yh w' b l y Y a:=fun j hj=>by
 obtain⟨g,off,e,h1,h2⟩:=h j hj;exact⟨g,off,e,aP H h1,aP H h2⟩
structure iz (w:aj) (x:wbm) (P B2 OB oc:av) (a:ax bR) (c:av) (b:ax bR) (d k:av) (W:aj):Prop where
 bel:jb w W
 r:jk W (w+1) #[jN,jN] 84
 o:jk W B2 #[jq OB 0 32 oc] 81
 p0:jk W P (ak a c b d x) 84
 p1:jk W (P+1) #[.func (.func 265) #[] #[]] 336
 cm:fq W OB (bF x.sc (x.wt.take k))
def iz.keep {w:aj}{x:wbm}{P:av}{a:ax bR}{K:av}(h:iz w x P B2 OB oc a c b d k W) (H:jb w W') (hr: ∀(y:av) (cs:aL bw) (t:bT),t≠22->jk W y cs t->jk W' y cs t) (e:fq W' OB (bF x.sc (x.wt.take K))):iz w x P B2 OB oc a c b d K W':=
 ⟨H,hr _ _ _ eh h.r,hr _ _ _ eh h.o,hr _ _ _ eh h.p0,hr _ _ _ eh h.p1,e⟩
def iz.below {w:aj}{x:wbm}{P:av}{a:ax bR}(h:iz w x P B2 OB oc a c b d k W) (H:jb W W'):iz w x P B2 OB oc a c b d k W':=
 h.keep (jt h.bel H) (fun y cs t _ hx=>(jm H hx)) (h.cm.below H)
def iz.put {w:aj}{x:wbm}{P:av}{a:ax bR}(h:iz w x P B2 OB oc a c b d k W){l:av}{o:Obj}(o':Obj) (hl:w.heap.size<=l) (hw:W.heap[l]? =bt o) (ho:o.isCells=aW):iz w x P B2 OB oc a c b d k (W.putObj l o'):=
 h.keep (h.bel.grown (grownBy_putObj' _ _ _) h.bel.size (fun j e=>by cases e;exact hl)) (fun y cs t _ hx=>(aj.putObj_heap_other OQ).trans hx) (h.cm.put o' hw ho)
def cR.putO {α:Type}{M:bT->aU}{base l':av}{R:aj->aq bw->α->Prop}{v:bw}{l:aq α}{xss:aq (aq bw)}{o:Obj}(h:cR M W base T sz R v l xss) (a:aY R) (o':Obj) (hw:W.heap[l']? =bt o) (ho:o.isCells=aW):cR M (W.putObj l' o') base T sz R v l xss:=by
 have H: ∀(k:av) (cs:aL bw) (t:bT) (f:av × av),W.heap[k]? =bt (cO cs t f)->(W.putObj l' o').heap[k]? =bt (cO cs t f):=fun k cs t f hx=>(aj.putObj_heap_other OQ).trans hx;refine⟨⟨h.own.1,h.own.2.imp id ?_⟩,h.len,h.sz,fun i h1 h2=>a _ _ _ _ (dS.ext fun k cs t f hx _=>H _ _ _ _ hx) (h.rd i h1 h2)⟩;rintro⟨g,cap,cur,e,h1,h2,h3⟩;exact⟨g,cap,cur,e,h1,H _ _ _ _ h2,h3⟩
def QW (va:aL bw) (w:aj):jW 360 #[cZ va,.func (.func 265) #[] #[]] w fun e w'=>e=cL (.func (.func 405) #[] #[jp w 0,jp (w+1) 0])/\w'=(w.alloc (cO va 84)).alloc (cO #[.func (.func 265) #[] #[]] 336):=by
 go_enter func360,ntmps360;refine ei ?_;exact⟨rfl,rfl⟩
def QZ:mD 405:=fun _ _=>rfl
attribute [local go_sem] Oper.semAt_some
theorem Ev (x:wbm) (a:ax bR) (c:av) (b:ax bR) (d:av) (w:aj) (hx:ay w a c b d x) (hb:ae x):
  jW 264 #[cZ (ak a c b d x),.func (.func 265) #[] #[]] w fun e w'=> ∃d8 d9 xss,e=cL (cZ #[js d8 32 d9,jN])/\cR MD w' w 22 1 br (js d8 32 d9) (bF x.sc x.wt) xss/\jb w w':=by
 have Y:=hb.1;have e0:=hb.2.1;have z: ∀i (h:i<x.sc.length),x.sc[i].length=128:=fun i h=>hb.2.2.1 _ (Nn h);obtain⟨Z,a0,a1,ho,a2,a3⟩:=Ql hx.W fun y a4=>(hb.2.2.2 y a4).2.2;refine Qa fun b3 B=>?_;have H0:=hI fun W (h:jb w W)=>a2.below h;have H1:=hI fun W (h:jb w W) g (f9:w.heap.size<=g) j (hj:j<x.wt.length)=>aB.ext iX (a3 j hj) (SR (S:=it g) h fun k g0=>by simp[it];omega);have b5:=hI fun W (h:jb w W)=>Bz x.sc a c W (hx.S.below xX h) ed fun i b4=>by have:=z i b4;omega
 have H6:=hI z;clear hx hb ho a2 a3 z;refine callsIn_wide.1 (callsIn_of_wp_marks (n:=3) func264 rfl Py ?_ rfl);simp only[ntmps264,Gv,Du,Tl,av.reduceAdd,av.reduceSub,Gk,Gj,Gx,Gq,Dd,Nz];refine wpIn_wide.2 ?_;unfold ak at *;rw[Y]at b5 ⊢;go_upto_region 1 with fail;have T:bG (Fr w [(#[js a 32 c,js b x.wt d],84),(#[jN,jN],84)] ((w.alloc (cO #[js a 32 c,js b x.wt d] 84)).alloc (cO #[jN,jN] 84))):=((Fr.start w).alloc rfl _ _).alloc ee _ _;generalize cj _ _=W0 at *;have p0:jc W0 w 0 (js a 32 c):=jr (T.o.row 0 _ rfl);have b6:w.heap.size<W0.heap.size:=T.o.lt (i:=0) ee;have e7:w.heap.size+2<=W0.heap.size:=T.o.sz;go_upto_region 2 with(go_at_call 359;refine(b5.o W0 T.o.bel).mono ?_;rintro e W1 ⟨g1,c1,xss,rfl,a5,f⟩);clear p0 b6;obtain⟨OB,rfl,b7,b8,b9,F0⟩:=Qi a5 (by omega) Y H6.o;refine Qq fun W2 E=>?_;have H7:=hI f.size;have M5:=jG E
 have r2:=jA E
 have F2:=hI ((T.o.below f).below M5);have R2:=hI r2;refine vk fun C0=>?_;clear E r2 f F0 T a5;go_step;refine Dx rfl 84 (dk 2) rfl w rfl 84 _ (0,0) _ (F2.o.row 0 _ rfl) underlying84 rfl ef ?_;simp[cq];go_wp2_with (go_at_call 360;refine(QW _ _).mono ?_;rintro e WX ⟨rfl,rfl⟩);refine vO fun WX hW=>?_
 have I0:bG (iz w x W2 W1 OB c1 a c b d 0 WX):=by
  have c0:jb W2 WX:=by rw[<-hW];exact aR.alloc ee _
  have G3:=F2.o.below c0;refine⟨G3.bel,G3.row 1 _ rfl,(jm c0 R2.o),?_,?_,C0.o.below c0⟩
  ·rw[<-hW];unfold ak;rw[Y];exact(Nv _ _ ee).trans (Nc _ _)
  exact Zq
 have H2:bG (w.heap.size<OB):=by show _<_;omega
 have e8:=hI F2.o.bel.size;clear hW F2 R2 C0 M5 H7 b9 b7 e7;generalize W2.heap.size=P at *;generalize W1.heap.size=B2 at *;obtain⟨N,c2⟩: ∃N,N=x.wt.length:=⟨_,rfl⟩;obtain⟨A,s⟩: ∃A:av->ar,∀k (h:k<x.wt.length),A k=x.wt[k].at_:=⟨fun k=>(x.wt.map Wr.at_).getD k 0,fun k h=>by simp[aq.getD,h]⟩;have H3:=hI s;refine wpIn_wide.1 (FW 405 N QZ #[jp P 0,jp (P+1) 0] (fun k=>#[jV (A k),jq (Z k) (a0 k) 128 (a1 k)]) rfl (fun _=>rfl) (iz w x P B2 OB c1 a c b d) ?_ (fun k W W' h e9=>h.below e9) (fun k W l o o' hl e0 f0 h=>h.put o' (Nj I0.o.bel.size hl) e0 f0) ?_ (fun k=>{tmps:=#[cZ #[js a 32 c,js b x.wt d],.func (.func 265) #[] #[],jp w 0,bE,jp (w+1) 0,jp B2 0,jV (A k),jq (Z k) (a0 k) 128 (a1 k),jp w 0,js a 32 c,jq OB 0 32 c1,cZ #[js a 32 c,js b x.wt d],.func (.func 265) #[] #[],.func (.func 405) #[] #[jp P 0,jp (P+1) 0],jV (A k),jq (Z k) (a0 k) 128 (a1 k),bE,bE,bE,bE,bE,bE,bE,bE,bE,bE,bE,bE],defers:=[]}) ?_ ?_ ?_)
 ·intro l J F c3 f1 W h0;rw[c2];refine PZ 2 l P (P+1) x a c b d Z a0 a1 ed B.o J (fun k W h=>⟨(F k W h).p0,(F k W h).p1,H0.o W (F k W h).bel⟩) c3 (fun k W h hj=> ?_) W h0;have:=f1 k W ed hj;rw[s k h]at this;exact this
 ·exact MN
 ·intro l k W K hK
  gi_wp2
  exact hK
 ·intro l k W f2 H;have q:k<x.wt.length:=by omega
  have hs:=b3.o.2.2.2 _ (Nn q);obtain⟨n,c4⟩: ∃n:av,x.wt[k].at_=(n:ar):=⟨x.wt[k].at_.toNat,by have:=hs.1;omega⟩;have v:n<32:=ZK
  have e1:A k=(n:ar):=by rw[H3.o k q,c4]
  rw[e1];have f3:=hI H;have a6:(bF x.sc (x.wt.take k)).length=32:=by rw[wS,Y]
  have H4:=hI (H1.o W H.bel OB (De H2.o) k q);have c5:=B.o k q
  have H8:bG (bF x.sc (x.wt.take (k+1))=(bF x.sc (x.wt.take k)).set n x.wt[k].data):=by
   show _=_;rw[Dc q,Ue,c4];rfl
  obtain⟨cur,Q,q2⟩:=H.cm;obtain⟨g,o,f4,k1,k2,-⟩:=q2 n v;have x0:=(Mu W OB n _ _ _ Q).trans k2;have x1:=ji 0 H.o;have l0:=aD Q;have l1:=aD H.o;have Q1:=hI Q;have H9:=hI k2;have g2:(0:ar)<=(n:ar):=ed
  have f5:(n:ar)<32:=ed
  generalize Z k=e2 at *;generalize a0 k=e3 at *;generalize a1 k=f6 at *;clear H q2 hs c4 e1 k2 Q s
  gi_upto_region 5 with fail
  refine At [9] l 1 kW ef ?_;intro V c6;have t0:=fun t:Gw W=>t.cel x0;have t1:=fun t:Gw W=>t.cel x1;have t2:=fun t:Gw W=>t.lt l0;have t3:=fun t:Gw W=>t.lt l1;refine zB [0,1,2,3,4,5,6] c6 ?_;clear t0 t1 t2 t3 x0 x1 l1;refine aS 7 ef ?_;refine Oo fun K hK=>?_;refine vq (PE g o f4 e2 e3 f6 V k1 c5) fun V1 f=>?_;have D0:=jt c6 f;refine Ob ?_;clear hK K f c6;refine zB [8] D0 ?_;have Q:=(D0.block _ l0).trans Q1.o;have c9:=(Mu V1 OB n _ _ _ Q).trans H9.o;have fz:=fu Q n;have z2:=aD Q;refine aS 9 ef ?_;intro K hK;refine Vi ?_;refine .inl (hK _ _ (fun h=>cv h eh) ?_);clear hK K;refine eI ef ?_ _;have G:=f3.o.below D0
  have c7:aB (bK (it OB) V1) 1 dG (bt ⟨e2,e3,bn⟩) 128 x.wt[k].data:=by
   have:=aB.ext iX H4.o (eV (S:=it OB) D0);have h8:=(b3.o.2.2.2 _ (Nn q)).2.2;exact⟨ed,fun e=>by simp at e,this.at_⟩
  refine⟨⟨by simpa using D0.size,fun y o' f7 u c8=> ?_⟩,G.keep (G.bel.setCell (De H2.o) _) (fun y cs t f8 a4=>(Ny _ _ _ _ ?_).trans a4) ?_⟩
  ·refine(Ny _ _ _ _ ?_).trans ((D0.block _ (aL.getElem?_eq_some_iff.1 u).1).trans u);rintro rfl;rw[Q1.o]at u;cases u;cases c8
  ·rintro rfl;rw[Q]at a4;cases a4;exact f8 rfl
  rw[H8.o];exact G.cm.set a6 v (Mv _) c7
 intro D W e4 H a7;have r:x.wt.take N=x.wt:=by rw[c2];exact Ph
 have I:(bF x.sc x.wt).length=32:=by rw[wS,Y]
 have L: ∀i (h:i<(bF x.sc x.wt).length),(bF x.sc x.wt)[i].length=128:=fun i h=>(Ba b3.o).2.2.1 _ (Nn h);have F0:=H.cm;rw[r]at F0;have d0:=hI (Bz (bF x.sc x.wt) (bt ⟨OB,0,bn⟩) c1 W (F0.sl I L b8) ed fun i b4=>by have:=L i b4;omega);rw[I]at d0;have p0:=ji 0 H.o;have b6:=aD H.o;have e5:=hI H.r;have e6:=hI H.bel;have M:=hI a7;have d1:=hI (Nj I0.o.bel.size e4);clear H F0 r I L a7 I0 B H1 H0 b3 b5 H3 s c2 e4;obtain⟨S,d2⟩: ∃S,S=bF x.sc x.wt:=⟨_,rfl⟩;have d3:=hI d2;rw[<-d2]at d0;clear d2;go_upto_region 6 with fail;go_wp2_with (first | (go_at_call 359;refine d0.o.mono ?_;rintro e W4 ⟨U,X,y0,rfl,a8,O⟩;have d4:=hI a8;have H5:=hI O;have R:=hI ((jm O e5.o));clear a8 O p0 b6) | (refine bP rfl 84 (dk 4) (dk 27) rfl (w+1) #[js U 32 X,jN] _ 84 rfl rfl R.o ef rfl Qj ?_))
 have a9:w.heap.size+1≠D:=by
  intro h;have:=e5.o;rw[h,M.o]at this;cases this
 have d5:=(aL.getElem?_eq_some_iff.1 M.o).1;have d6:=(H5.o.block _ d5).trans M.o;have b0:(W4.setRow (w+1) #[js U 32 X,jN]).heap[D]? =bt (.deferred (bt [])):=(Nq _ _ _ _ (fun h=>a9 h.symm)).trans d6;have d7:=Dp W4 (w+1) _ #[js U 32 X,jN] _ _ R.o;have b1:jb w (W4.setRow (w+1) #[js U 32 X,jN]):=(jo e6 H5.o).trans ⟨rfl,rfl,rfl,Qx,fun i b4=>Nq _ _ _ _ ed⟩;have b2:=((d4.o.setRow an R.o (C:=#[js U 32 X,jN]) eh eh).putO an (.deferred bn) b0 rfl).base e6.o.size;simp only[cq];refine⟨ee,.inl ⟨_,_,rfl,run_takeDeferred b0,?_⟩⟩;refine⟨_,Pb (p:=4) (ty:=84) rfl _ _ (w+1) 84 _ (0,0) _ rfl ((aj.putObj_heap_other a9).trans d7) underlying84 rfl ef,⟨U,X,y0,rfl,?_,b1.grown (grownBy_putObj' _ _ _) b1.size (fun k e=>by cases e;exact d1.o)⟩⟩;rw[<-d3.o];exact b2
def ae.few {x:wbm}(h:ae x):x.few:=⟨by have:=h.1;have:=h.2.1;omega,fun i H=>by have:=h.2.2.1 _ (Nn H);omega,fun i H=>by have:=(h.2.2.2 _ (Nn H)).2.2;omega⟩
def Ew {v:bw}{S:aq (aq ar)}{xss:aq (aq bw)}(h:cR MD W N 22 1 br v S xss)(H:n<S.length): ∃g off c a C,v=cJ (bt ⟨g,off,bn⟩) S c/\jc W g (off+n) (js a S[n].length C)/\br (jQ MD W) [cJ a S[n].length C] S[n]:=by
 have h':cR MD W N 22 1 (fun _ V b=>br (jQ MD W) V b) v S xss:=⟨h.own,h.len,h.sz,h.rd⟩;obtain⟨a1,c1,rfl,d⟩:=h'.sl (fun _ _ _ _ _ h=>h);obtain⟨b,off,V,rfl,k1,k2,a,C,rfl,k4⟩:=d.at_ n H;have:=k2 0 ee;exact⟨b,off,c1,a,C,rfl,by simpa using this,a,C,rfl,k4⟩
def Rb (v u:bw) (W:aj):Sem.run prog (Instr.field 84 (cZ #[v,u]) 0) W= .ok v W:=by kernel_rfl
def EA (x:wbm) (a:ax bR) (c:av) (b:ax bR) (d n:av) (w:aj) (hx:ay w a c b d x) (H:ae x) (y:x.wt=[]) (G9:n<32):
  jW 260 #[cZ (ak a c b d x),jV (n:ar)] w fun e w'=> ∃A C,e=cL (dw #[js A 128 C,jV 0])/\br (jQ MD w') [cJ A 128 C] (x.sc.getD n [])/\jb w w':=by
 have p:=hI fun W (h:jb w W)=>FM x bl a c b d W (hx.below h) H.few;rw[Np H,Np rfl]at p;have q:=hI fun W (h:jb w W)=>Ev x a c b d W (hx.below h) H;have z:=H.1;have J:bG ((x.sc.getD n []).length=128):=by show _=_;rw[iu ed];exact H.2.2.1 _ (Nn _)
 rw[show bF x.sc x.wt=x.sc by rw[y];rfl]at q;have D:bG (∀h:n<x.sc.length,x.sc[n]=x.sc.getD n []):=fun h=>(iu h).symm;have HRL:=hI z;have r:bG (∀h:n<x.sc.length,x.sc[n].length=128):=fun h=>H.2.2.1 _ (Nn h);clear hx H y;unfold ak at *;rw[z]at p q ⊢;go_enter func260,ntmps260;go_upto_region 1 with fail;generalize f:cj _ _=W0;have s:=hI (jG f)
 have bx:=jA f
 clear f;refine zD [] ?_;intro V i;refine vF fun p0 p1 lp=>?_;have B:=hI bx;refine vM fun t0 t1 t2=>?_;refine zB [0,1] i ?_;clear t0 t1 t2 p0 p1 bx;refine ME fun u=>?_;rw[Ni (show 0<=(n:ar)/\(n:ar)<32 by omega)]at u;refine zK 2 i u ?_;refine aS 3 ef ?_;refine Oo fun K hK=>?_;refine vq (p.o V (jo s i)) fun V1 j=>?_;have D0:=jt i j;refine Ob ?_;clear hK K u;refine zB [4] D0 ?_;refine eI ef ?_ _;have K1:=hI (jo s D0);have B1:=hI ((D0.block _ lp).trans B.o);have C1:=hI (q.o V1 K1.o);have F:(n:ar)<32:=ed
 have G:(0:ar)<=(n:ar):=ed
 clear j i D0 q p B lp s;go_upto_region 4 with fail;go_step;refine Dx rfl 84 (dk 2) rfl w rfl 84 _ (0,0) _ B1.o underlying84 rfl ef ?_;simp[cq];go_wp2_with (go_at_call 264;refine C1.o.mono ?_;rintro e V2 ⟨a2,c2,xss,rfl,k,l⟩;obtain⟨g,off,c3,A,C,E,q1,Q⟩:=Ew k Ox;rw[HRL.o]at E;simp only[bw.slice.injEq]at E;obtain⟨rfl,-,rfl⟩:=E;rw[r.o]at q1 Q;have M:=Mt q1;have I:=Rb (jq g off 32 c2) (jN);have Q2:=hI Q;have v:=hI l;clear Q l k)
 go_ret2
 rw[D.o]at Q2;exact⟨A,C,rfl,Q2.o,jo K1 v.o⟩
def Rc (x:wbm) (a:ax bR) (c:av) (b:ax bR) (d:av) (w:aj) (hx:ay w a c b d x) (hf:ae x):
  jW 173 #[cZ (ak a c b d x)] w fun e w'=> ∃j k xss,e=cL (dw #[cZ #[js j 32 k,jN],jV 0])/\cR MD w' w 22 1 br (js j 32 k) (bF x.sc x.wt) xss/\jb w w':=by
 refine jI fun l=>?_;rw[Np hf]at l;have n:=hI fun W (h:jb w W)=>Ev x a c b d W (hx.below h) hf;clear hx hf;unfold ak at *;go_enter func173,ntmps173;go_upto_region 1 with fail;have F0:bG (Fr w [(#[js a x.sc c,js b x.wt d],84),(#[jN,jN],84)] ((w.alloc (cO #[js a x.sc c,js b x.wt d] 84)).alloc (cO #[jN,jN] 84))):=((Fr.start w).alloc rfl _ _).alloc ee _ _;generalize cj _ _=W0 at *;go_step;refine Dx rfl 84 (dk 1) rfl w rfl 84 _ (0,0) _ (F0.o.row 0 _ rfl) underlying84 rfl ef ?_;simp[cq];go_upto_region 3 with(go_at_call 107;refine oG (l.o W0 F0.o.bel) fun W1 M5=>?_;refine vn fun F=>?_;have C1:=hI (n.o W1 F.o.bel);clear M5);go_step;refine Dx rfl 84 (dk 1) rfl w rfl 84 _ (0,0) _ (F.o.row 0 _ rfl) underlying84 rfl ef ?_;simp[cq];go_wp2_with (first | (go_at_call 264;refine C1.o.mono ?_;rintro e W2 ⟨A,C,xss,rfl,H,f⟩;have g:=hI H;have i:=hI (F.o.below f);clear H f) | (refine bP rfl 84 (dk 2) (dk 9) rfl (w+1) #[js A 32 C,jN] _ 84 rfl rfl (i.o.row 1 _ rfl) ef rfl Qj ?_))
 have F3:=hI (i.o.setRow 1 rfl #[js A 32 C,jN]);refine Nh (v:=dw #[cZ #[js A 32 C,jN],jV 0]) (eL rfl _ _ (w+1) 84 _ (0,0) _ _ rfl rfl (F3.o.row 1 _ rfl) underlying84 rfl ef) rfl ?_;exact⟨A,C,xss,rfl,(g.o.setRow an (i.o.row 1 _ rfl) eh eh).base F.o.bel.size,F3.o.bel⟩
theorem Rn (x:wbm) (a:ax bR) (c:av) (b:ax bR) (d n:av) (l:aq ar) (p:ax bR) (q:av) (w:aj) (hx:ay w a c b d x) (Q:ae x) (hl:aB w 1 dG p q l) (U:l.length=128) (b9:n<32) (b4:x.wt.length<256):
  jW 263 #[cZ (ak a c b d x),jV (n:ar),js p 128 q] w fun e w'=> ∃a6 a7 a8 a9,e=cL (dw #[cZ (ak a6 a7 a8 a9 (x.add n l)),jV 0])/\ay (jQ cn w') a6 a7 a8 a9 (x.add n l)/\jb w w':=by
 have X:=hI fun W (h:jb w W)=>FM x bl a c b d W (hx.below h) Q.few;rw[Np Q,Np rfl]at X;have b0:=hI fun W (h:jb w W)=>TX x a c b d W (hx.below h) Q;have Y:=hI fun W (h:jb w W)=>FA ⟨n,l⟩ p q W (hl.below fS h) (by show l.length<=10000;omega);have b5:=hI U;rw[U]at Y;have c0:x.wt.length<=600:=ed
 clear hx Q hl U;unfold ak at *;go_enter func263,ntmps263;go_upto_region 1 with fail;have G:bG (Fr w [(#[js a x.sc c,js b x.wt d],84),(#[jN,jN],84)] ((w.alloc (cO #[js a x.sc c,js b x.wt d] 84)).alloc (cO #[jN,jN] 84))):=((Fr.start w).alloc rfl _ _).alloc ee _ _;generalize cj _ _=W0 at *;obtain⟨p0,p1⟩:=DY (g:=w.heap.size) (G.o.row 0 _ rfl);have lp:w.heap.size<W0.heap.size:=G.o.lt (i:=0) ee;refine zD [] ?_;intro V hV;refine vM fun t0 T k=>?_;refine zB [0,1] hV ?_;clear t0 T k p0 p1;refine ME fun Z=>?_;rw[Ni (show 0<=(n:ar)/\(n:ar)<32 by omega)]at Z;refine zK 2 hV Z ?_;refine aS 3 ef ?_;refine Oo fun K hK=>?_;refine vq (X.o V (jt G.o.bel hV)) fun A f=>?_;have D0:=jt hV f;refine Ob ?_;clear hK K Z;refine zB [4] D0 ?_;refine eI ef ?_ _;have F:=hI (G.o.below D0);clear f hV D0 X lp G;have a0:((x.wt:ar)==256)=aW:=em
 have p0:jc A w 1 (js b x.wt d):=jr (F.o.row 0 _ rfl);have lp:w.heap.size<A.heap.size:=F.o.lt (i:=0) ee;go_upto_region 7 with fail;clear p0 lp a0;have b1:=hI (b0.o A F.o.bel);go_upto_region 8 with(first | (refine Dx rfl 84 (dk 3) rfl w rfl 84 _ (0,0) _ (F.o.row 0 _ rfl) underlying84 rfl ef ?_;simp[cq]) | (go_at_call 357;refine b1.o.mono ?_;rintro e W1 ⟨s,r,T,k,xss,y0,rfl,hb,ho,f⟩;have R:=hI (F.o.below f);have b2:=hI hb;have a1:=hI ho;have u:=f.size;clear hb ho f) | (refine bP rfl 84 (dk 6) (dk 24) rfl (w+1) _ _ 84 rfl rfl (R.o.row 1 _ rfl) ef rfl Qj ?_))
 have y:jk W1 (w+1) _ 84:=R.o.row 1 _ rfl;have F3:=hI (R.o.setRow 1 rfl #[js s x.sc r,js T x.wt k]);have I:=hI (b2.o.setRow (C:=#[js s x.sc r,js T x.wt k]) an y rfl eh);have J:=hI (a1.o.setRow (C:=#[js s x.sc r,js T x.wt k]) dc y rfl eh);have b6:w.heap.size+2<=A.heap.size:=F.o.sz;have L:A.heap.size<=(W1.setRow (w+1) #[js s x.sc r,js T x.wt k]).heap.size:=by simp[aj.setRow];exact u
 have HRL:=hI a1.o.len;clear y R b2 a1 b0 b1 F u;generalize aj.setRow _ _ _=V0 at *;have a2:bG (jk V0 (w+1) #[js s x.sc r,js T x.wt k] 84):=F3.o.row 1 _ rfl;have q1:=ji 1 a2;have b3:=aD a2.o;simp only[cq];refine zD [7,9] ?_;intro V2 hV;have u0:=fun t:Gw V0=>t.cel q1;have u1:=fun t:Gw V0=>t.lt b3;refine zB [0,1,2,3,4] hV ?_;clear u0 u1 q1;have F4:=hI (F3.o.below hV);have M:=hI (I.o.below an hV);have N:=hI (J.o.below dc hV);refine aS 5 ef ?_;refine Oo fun K hK=>?_;refine .inl ((Y.o V2 F4.o.bel).mono ?_);refine qc fun B v3 z M5=>?_;simp[go_sem];refine uF fun h3=>?_;have F5:=hI (F4.o.below M5);have H0:=hI (M.o.below an M5);have j:=hI (N.o.below dc M5);have b7:=hI (Aw (x:=⟨(n:ar),l⟩) (show B.ownsRow V2 5 1 v3 l (l.flatMap dR)by rw[b5.o];exact z));obtain⟨b8,c1,rfl⟩:=rR z;have O:=Nj L h3.size;clear hK K z M5 hV F3 F4 I M J N Y a2 b3;refine aS 6 ef ?_;refine Oo fun K hK=>?_;refine .inl (hK _ _ (fun _=>h3.alloc h3.size _) ?_);clear hK K h3 L;have P:jk B (w+1) #[js s x.sc r,js T x.wt k] 84:=F5.o.row 1 _ rfl;have l0:=aD P;refine pG [7,8,9] ef ee ?_;refine oS ?_;go_wp2_with (at_builtin;refine nK rfl _ _ 82 237 237 _ 2 32 rfl underlying82 Ax rfl eh eh A (js T x.wt k) x.wt _ rfl (HRL.o ▸ j.o.own) ed O [jV n,cJ b8 128 c1] rfl rfl (Ay _ _ _ _) ?_;intro D E w8 G9 H;have a3:=(((Nb B B).alloc (Mv _) _).mono O).trans (dT (j.o.own.alloc _) (Mv _) em H);have htA:=vd (j.o.own.alloc _) H eh ((Nv _ _ l0).trans P);have c3:=ji 1 htA;have c4:=fu htA 1;have l8:=aD htA);have F8:=hI (F5.o.low (a3.mono b6));have a4:=(j.o.below dc aR).app dc rfl rfl (dc _ _ _ _ (dS.of_below ((Nb B B).alloc (Mv _) _)).ext b7.o) Ox H;have a5:=(H0.o.below an aR).other an (j.o.own.alloc _) rfl eh H
 have S9:=hI (a5.setCell (o:=1) an htA rfl eh (jq D 0 (x.wt.length+1) E));have Y9:=hI (a4.setCell (o:=1) dc htA rfl eh (jq D 0 (x.wt.length+1) E));have R9:(w8.setCell ⟨w+1,1,bn⟩ (jq D 0 (x.wt.length+1) E)).heap[w.heap.size+1]? =bt (cO #[js s x.sc r,jq D 0 (x.wt.length+1) E] 84 (0,0)):=Xp
 have B9:bG (jb w (w8.setCell ⟨w+1,1,bn⟩ (jq D 0 (x.wt.length+1) E))):=F8.o.bel.setCell eF _;refine Nh (v:=dw #[cZ #[js s x.sc r,jq D 0 (x.wt.length+1) E],jV 0]) (eL rfl _ _ (w+1) 84 _ (0,0) _ _ rfl rfl R9 underlying84 rfl ef) rfl ?_;obtain⟨_,_,e1,m1⟩:=S9.o.slM an Ak rfl;obtain⟨_,_,e2,m2⟩:=Y9.o.slM dc Ak rfl;cases e1
 injection e2 with f1 f2 f3
 subst f1 f3;exact⟨_,_,_,_,by simp[wbm.add],⟨m1,m2⟩,B9.o⟩
end
def waW (P:av) (x:ar) (h0:0<=x) (h1:x<4294967296) (W:aj) (H:jk W P #[cW dD x] 85):
  jW 402 #[jp P 0] W fun e w'=>e=cL (cW .u8 (x % 256))/\w'=W.setCell ⟨P,0,bn⟩ (cW dD (x / 256)):=by
 have p0:=ji 0 H;have pf:=fu H 0;have l:=aD H;clear H;go_enter func402,ntmps402;refine ei ?_;exact⟨rfl,rfl⟩
def waX (V:aj):Sem.run prog (Instr.makeSlice 22 (jV 2) (jV 2)) V= .ok (jq V 0 2 2) (V.alloc (cO (bC (cr 2 0)) 5)):=by kernel_rfl
def Ls (V:aj):Sem.run prog (Instr.makeSlice 22 (jV 4) (jV 4)) V= .ok (jq V 0 4 4) (V.alloc (cO (bC (cr 4 0)) 5)):=by kernel_rfl
def xF: ∀l:aq ar,l.flatMap dR=l.map (bw.int .u8)
 | []=>rfl
 | a::l=>by rw[Sb,xF l];rfl
def Lt {G base:av}(h:jk W G (bC l) 5) (H:base<=G) (a:l.length<=1000):cM W base (jq G 0 l l) l:=by
 refine⟨by rw[xF];simp,.inr ⟨G,l.length,bC l,rfl,H,h,Mv _,Oq,by simp[bC],?_⟩⟩;rw[xF];exact Sk (by simp[bC])
def waY (b:ar):(bC l).setIfInBounds k (cW .u8 b)=bC (l.set k b):=by
 simp[bC,aq.map_set]
theorem CU (n:ar) (s:av) (w:aj) (h0:0<=n) (h1:n<4294967296) (J:s<=4) (b: ∀V,Sem.run prog (Instr.makeSlice 22 (jV s) (jV s)) V= .ok (jq V 0 s s) (V.alloc (cO (bC (cr s 0)) 5))):
  jW 355 #[cW dD n,jV (s:ar)] w fun e w'=> ∃G,e=cL (jq G 0 s s)/\w.heap.size<=G/\jk w' G (bC (aw s n)) 5/\jb w w':=by
 go_enter func355,ntmps355;go_upto_region 2 with fail;generalize hW:cj _ _=W;have K:=hI (jG hW)
 have B:=jA hW
 have y:w.heap.size+1<=W.heap.size:=Qc
 clear hW;have g:=b W;go_upto_region 3 with fail;generalize o9:cj _ _=W1;have K1:bG (jb w W1):=by refine Uy ?_;exact K.o.alloc K.o.size _
 have r1:=hI (jA o9)
 have c1:bG (jk W1 w #[cW dD n] 85):=by show _=_;rw[<-o9];exact(Nv _ _ (aD B)).trans B
 clear o9 B g K b;generalize W.heap.size=G at *;generalize z:w.heap.size=P at *;go_wp2_with fail;go_loopg [13] s (fun gg i wr=> ∃k:av,k<=s/\gg=s-k/\i= jV (k:ar)/\cB P w wr/\jk wr P #[cW dD (n / 256 ^ k)] 85/\jk wr G (bC (aw k n++cr (s-k) 0)) 5)
 ·exact⟨0,Pe _,ed,rfl,K1.o,by simpa using c1.o,by simpa [aw]using r1.o⟩
 obtain⟨k,L,rfl,rfl,v,hp,f⟩:=hrel;have x:=hI v;clear v;by_cases j:k<s
 ·have hd:ab ((k:ar)<(s:ar))=bl:=em;have l:0<=n / 256 ^ k:=ar.ediv_nonneg h0 (ar.le_of_lt (ar.pow_pos eh));have A:n / 256 ^ k<=n:=ar.ediv_le_self _ h0;have C:bG (n / 256 ^ (k+1)=n / 256 ^ k / 256):=by show _=_;rw[ar.pow_succ,ar.ediv_ediv_of_nonneg (ar.le_of_lt (ar.pow_pos eh))]
  have D:bG ((aw k n++cr (s-k) 0).set k (n / 256 ^ k % 256)=aw (k+1) n++cr (s-(k+1)) 0):=by
   show _=_;rw[Cj,Hj _ _ (by rw[cw];omega),cw,Fi,show s-k=(s-(k+1))+1 by omega,aq.replicate_succ,aq.set_cons_zero,Dk];rfl
  have p:bG ((aw k n++cr (s-k) 0).length=s):=(by show _=_;rw[Mx,cw,aq.length_replicate];omega);generalize n / 256 ^ k=X at *;have E:=hI (waW P X l ed wr hp);have H:G≠P:=ed;have F:=hI hp;have c:=hI f;clear hp f;have c0:(0:ar)<=(k:ar):=ed;have I:(k:ar)<(s:ar):=ed;go_upto_region 6 with fail;go_wp2_with (go_at_call 402;refine E.o.mono ?_;rintro e W3 ⟨rfl,rfl⟩;have a:=(Ny wr ⟨P,0,bn⟩ (cW dD (X / 256)) G H).trans c.o;obtain⟨u,q0⟩: ∃u,jc (wr.setCell ⟨P,0,bn⟩ (cW dD (X / 256))) G k u:=⟨_,(Mu _ _ _ _ _ _ a).trans (Sa (by rw[fP,p.o];exact j))⟩;have qf:=fu a k;have Q:=aD a)
  have d:((wr.setCell ⟨P,0,bn⟩ (cW dD (X / 256))).setCell ⟨G,k,bn⟩ (cW .u8 (X % 256))).heap[G]? =bt (cO (bC (aw (k+1) n++cr (s-(k+1)) 0)) 5 (0,0)):=by
   rw[<-D.o,<-waY];simp[cd,Nk,H.symm,c.o,H]
  have ho:((wr.setCell ⟨P,0,bn⟩ (cW dD (X / 256))).setCell ⟨G,k,bn⟩ (cW .u8 (X % 256))).heap[P]? =bt (cO #[cW dD (X / 256)] 85 (0,0)):=by
   simp[cd,Nk,H,F.o]
  have hb:cB P w ((wr.setCell ⟨P,0,bn⟩ (cW dD (X / 256))).setCell ⟨G,k,bn⟩ (cW .u8 (X % 256))):=(x.o.setCell (Mv _) _).setCell (by show P<=G;omega) _;have q:=hI hb;have r:=hI ho;have t:=hI d;clear d ho hb q0 qf Q a;generalize cd _ _ _=W4 at *;go_roundg (s-(k+1))
  ·go_light;exact⟨k+1,ed,rfl,ej,q.o,by rw[C.o];exact r.o,t.o⟩
  go_light;omega
 obtain rfl:k=s:=ed;have hd:ab ((k:ar)<(k:ar))=aW:=ee;have c:=hI f;clear f hp;refine ei ?_;rw[Fi,aq.replicate_zero,Sh]at c;exact⟨G,rfl,ed,c.o,by rw[z];exact x.o⟩
section
open Go.RowKit Go.Shelf Tryz
attribute [local go_sem] Oper.semAt_some
def dv (L k:av):av:=min 118 (L-118 * k)
def waZ (m l T s g off c L N:av) (hL:L<=10000) (t:N=(L+117) / 118) (M:L<=c) (A:c<=9223372036854775807) (J:av->aj->Prop)
  (d: ∀k W,J k W->jc W T 0 (jq g off L c)/\jc W s 0 (jV 118))
  (C: ∀k W n,J k W->J k (W.drewN n))
  (D: ∀k W,k<N->J k W->YieldAt Fence.wide (m-1) prog l #[jq g (off+118 * k) (dv L k) (dv L k)] W (fun e W'=>e=cL (db bl)/\J (k+1) W'))
  (W:aj) (h0:J 0 W):
  CallsIn Fence.wide m prog 385 #[.func (.yield l) #[] #[],jp T 0,jp s 0] W fun e W'=>(∃v,e=cL v)/\J N W':=by
 refine callsIn_of_wp func385 rfl Py ?_ rfl;simp only[ntmps385,Gv,Du,Tl,av.reduceAdd,av.reduceSub,Gk,Gj,Gx,Gq,Dd,Nz];have HL:=hI t;clear t
 gi_wp2
 gi_loopg [4,5] N (fun gg v e wr=> ∃k:av,k<=N/\gg=N-k/\v= jV ((118 * k:av):ar)/\J k wr)
 case atStart=>exact⟨0,Pe _,rfl,rfl,h0⟩
 case round=>
  obtain⟨k,O,rfl,rfl,hj⟩:=hrel;have u:=hI hj;obtain⟨x,X⟩:=d k wr hj;have y:=My _ _ x;have Y:=My _ _ X;by_cases ho:k<N
  ·obtain⟨p,hp⟩: ∃p,p=118 * k:=⟨_,rfl⟩;rw[<-hp];obtain⟨q,hq⟩: ∃q,q=dv L k:=⟨_,rfl⟩;have f:p<L:=Qm;have E:p+q<=L:=Vx;have F: ¬q=0:=Vx;have hd:ab ((p:ar)<(L:ar))=bl:=em;have w:=hI hp;have G:=hI hq;have c0:(p:ar)<=(L:ar):=ed;have I:min (118:ar) (((L-p:av)):ar)=(q:ar):=Vx;have i:min (118:ar) ((L:ar)-(p:ar))=(q:ar):=Vx;clear hp hj hq
   gi_upto_region 3 with fail
   gi_quiet (fail)
   generalize z:aj.drewN _ _=V;have a:bG (J k V):=(by show J k V;rw[<-z];exact C _ _ _ u.o);clear z x X y Y I i;obtain⟨x,X⟩:=d k V a.o;have y:=My _ _ x;have Y:=My _ _ X;obtain⟨fn,tmps,assign,B,K,hb⟩:=D k V ho a.o;rw[<-w.o,<-G.o]at K;refine Qa fun j b=>?_;clear hb ho
   gi_wp2
   refine⟨fun h=>(nomatch h),j.o.mono ?_⟩;refine ua fun _ H r=>?_;obtain⟨z1,z2⟩:=d _ _ H;have y3:=My _ _ z1;have y4:=My _ _ z2;clear H x X y Y
   gi_wp2
   gi_roundg (N-(k+1))
   case measure=>have:=b.o;go_light;omega
   case rel=>have:=b.o;have:=w.o;go_light;exact⟨k+1,ed,rfl,ej,r.o⟩
  obtain rfl:k=N:=ed;obtain⟨p,hp⟩: ∃p,p=118 * k:=⟨_,rfl⟩;rw[<-hp];have f:L<=p:=Qm;have hd:ab ((p:ar)<(L:ar))=aW:=em;clear hp hj
  gi_wp2
  go_end0
  exact⟨⟨_,rfl⟩,u.o⟩
end
section
open Go.RowKit Go.Sort Tryz
def Lu {P:Program}(l n:av) (b: ¬LetsOut Q): ∀(L:aq Oper) (H: ∀o∈L,∀c,o.op≠ .defer c) (a:Act) (w:aj),wpList P ops Q L a w->wpListIn (Fence.wide.inRound l) n P ops Q L a w
 | [],_,_,_,h=>h
 | o::rest,H,a,w,h=>by
  have i:=Lu (P:=P) l n b rest fun o f=>H o (Dy _ f);unfold wpList at h;unfold wpListIn;split
  ·rename_i d
   rw[Np d]at h;rcases h with h | ⟨-,h⟩
   ·have h:=Oper.wp_mono (fun A w' h=>i A w' h) h;refine⟨fun _ _=>Py,?_⟩;rw[Fence.inRound_round,Gs l _ _ (H o Dq)];unfold Oper.wp at h;generalize(execOp a.eval o).run P w=r at h ⊢;cases r with
    | ok x w'=>
     cases x<;>simp only[Oper.upon,Oper.uponIn]at h ⊢
     all_goals first
      | exact h
      | (refine⟨fun e=>(nomatch e),CallsIn.inRound l (callsIn_wide.2 h)⟩)
      | (refine⟨fun e=>(nomatch e),fun c cs _=> ?_⟩;obtain⟨v,w2,r,s⟩:=h c cs;exact⟨v,w2,r,stepsIn_wide.2 s⟩)
    | halt x w'=>cases x<;>simp only[Oper.upon,Oper.uponIn]at h ⊢ <;>exact h
   exact cv h b
  rename_i d
  rw[Nm d]at h;exact⟨fun _ _=>Py,i _ _ h⟩
def wba {P:Program}{id:av}{a:Act}{w:aj}{L:aq Oper}(l n:av) (H: ¬LetsOut Q) (b:PY L.toArray=bl) (h:wpList P L.toArray Q L a w):(Code.region id L.toArray aW).wpIn (Fence.wide.inRound l) n P Q a w:=
 wpIn_region_lit (Lu l n H L (fun o d c e=>by
  obtain⟨i,hz,rfl⟩:=No d
  exact ur b i _ Qh c e) a w h)
def wbb (a:ax bR) (n c:av) (w:aj) (H:n<=c):
  jW 318 #[js a n c,jV 118] w fun e w'=>e=cL (.func (.func 385) #[] #[jp w 0,jp (w+1) 0])/\w'=(w.alloc (cO #[js a n c] 22)).alloc (cO #[jV 118] 3):=by
 go_enter func318,ntmps318
 go_wp2
 go_ret;exact⟨rfl,rfl⟩
def Bt (G:aq ar) (a b:ar) (P:aq ar):aq ar:=G++[a,b]++P++cr (118-P.length) 0++G
def Lv (A P:aq ar) (z:av):splice ((A++cr z 0).map (bw.int .u8)) A (P.map (cW .u8))=(A++P++cr (z-P.length) 0).map (bw.int .u8):=by
 unfold splice;simp only[Pr,Pn,aq.map_replicate];rw[aq.take_left' ee,aq.drop_append,aq.drop_of_length_le ee,Pn,av.add_sub_cancel_left,aq.drop_replicate,Dd,Dk]
def wbc (A B P:aq ar) (h:B.length=P.length):splice ((A++B).map (bw.int .u8)) A (P.map (cW .u8))=(A++P).map (bw.int .u8):=by
 unfold splice;simp only[Pr,Pn];rw[aq.take_left' ee,aq.drop_of_length_le (by simp[h]),Sh]
def wbd (h:G.length=4):splice ((cr 128 (0:ar)).map (bw.int .u8)) 0 (G.map (cW .u8))=(G++cr 124 0).map (bw.int .u8):=by
 have:=Lv [] G 128
 rwa [h]at this
def wbe {P:aq ar}{a b:ar}(h:G.length=4):splice ((G++[a,b]++cr 122 0).map (bw.int .u8)) 6 (P.map (cW .u8))=(G++[a,b]++P++cr (122-P.length) 0).map (bw.int .u8):=by
 have:=Lv (G++[a,b]) P 122
 rwa [show(G++[a,b]).length=6 by rw[Mx,h];rfl]at this
def wbf {P:aq ar}{a b:ar}(h:G.length=4) (hp:P.length<=118):splice ((G++[a,b]++P++cr (122-P.length) 0).map (bw.int .u8)) 124 (G.map (cW .u8))=(Bt G a b P).map (bw.int .u8):=by
 have e:cr (122-P.length) (0:ar)=cr (118-P.length) 0++cr 4 0:=by rw[aq.replicate_append_replicate];congr 1;omega
 have H:(G++[a,b]++P++cr (118-P.length) 0).length=124:=by simp[h];omega
 have:=wbc (G++[a,b]++P++cr (118-P.length) 0) (cr 4 0) G (by rw[h];rfl);rw[H]at this;rw[e,<-Dk];exact this
def CW {a b:ar}(h:G.length=4):(((G++cr 124 0).map (bw.int .u8)).set 4 (cW .u8 a)).set 5 (cW .u8 b)=(G++[a,b]++cr 122 0).map (bw.int .u8):=by
 match G,h with
 | [p,q,r,s],_=>rfl
def ML (t:bT):aU:=t==22 || t==237 || t==84 || t==81
structure xG (w:aj) (g:ar) (R:aq ar) (N B3 B6 G ga L c TB base k:av) (cur:aL bw) (W:aj):Prop where
 bel:jb w W
 bz:base<=W.heap.size
 rows: ∃(oa:ax bR) (oc:av) (xss:aq (aq bw)),jk W (w+1) #[js oa k oc] 81/\cR ML W base 22 1 br (js oa k oc) ((bm g R).take k) xss
 g3:jk W B3 #[jq G 0 4 4] 22
 m6:jk W B6 #[jV (N:ar)] 3
 gr:jk W G (bC (aw 4 g)) 5
 rr:jk W ga cur 5
 tb:jk W TB #[jq ga 0 L c] 22
 nb:jk W (TB+1) #[jV 118] 3
def xG.below {w:aj}{g:ar}{R:aq ar}{G a T base:av}(h:xG w g R N B3 B6 G a L c T base k cur W) (H:jb W W'):xG w g R N B3 B6 G a L c T base k cur W':=by
 obtain⟨oa,oc,xss,h1,h2⟩:=h.rows;have hr: ∀(x:av) (cs:aL bw) (t:bT),jk W x cs t->jk W' x cs t:=fun x cs t hx=>(jm H hx);exact⟨jt h.bel H,Nj h.bz H.size,⟨oa,oc,xss,hr _ _ _ h1,h2.below an H⟩,hr _ _ _ h.g3,hr _ _ _ h.m6,hr _ _ _ h.gr,hr _ _ _ h.rr,hr _ _ _ h.tb,hr _ _ _ h.nb⟩
def xG.put {w:aj}{g:ar}{R:aq ar}{G a T base:av}(h:xG w g R N B3 B6 G a L c T base k cur W){l:av}{o:Obj}(o':Obj) (hl:w.heap.size<=l) (hw:W.heap[l]? =bt o) (ho:o.isCells=aW):xG w g R N B3 B6 G a L c T base k cur (W.putObj l o'):=by
 obtain⟨oa,oc,xss,h1,h2⟩:=h.rows;have hr: ∀(x:av) (cs:aL bw) (t:bT),jk W x cs t->(W.putObj l o').heap[x]? =bt (cO cs t (0,0)):=fun x cs t hx=>(aj.putObj_heap_other OQ).trans hx;exact⟨h.bel.grown (grownBy_putObj' _ _ _) h.bel.size (fun j e=>by cases e;exact hl),by simpa using h.bz,⟨oa,oc,xss,hr _ _ _ h1,h2.putO an o' hw ho⟩,hr _ _ _ h.g3,hr _ _ _ h.m6,hr _ _ _ h.gr,hr _ _ _ h.rr,hr _ _ _ h.tb,hr _ _ _ h.nb⟩
def wbg {P:Program}{c:Code}{a:Act}{w:aj}(h:c.wp P (fun e A w'=>e= .normal/\Q .normal A w') a w):c.wp P Q a w:=wp_mono h fun e A w' ⟨he,hq⟩=>by subst he;exact hq
def wbh {P:Program}{id:av}{a:Act}{w:aj}{l:aq Oper}(W:aj) (hW:jb W w) (r n:av) (hno: ¬LetsOut Q) (hnd:PY l.toArray=bl)
  (h: ∀V,V.heap=w.heap->jb W V->eQ P .any l.toArray Q (eG [] (cB W W)) l (aL.replicate l aW) a V) (hm:P.follows .mixedOrders=bl:=by kernel_rfl):(Code.region id l.toArray bl).wpIn (Fence.wide.inRound r) n P Q a w:=by
 refine wpIn_region_any hm (QA r n hno (ur hnd) _ _ _ _ (GY (S:=eG [] (cB W W)) _ _ _ _ ?_));have:=h {w with drawn:=w.drawn+1} rfl (hW.trans ⟨rfl,rfl,rfl,Mv _,fun _ _=>rfl⟩)
 simpa using this
def wbi:mD 385:=fun _ _=>rfl
attribute [local go_sem] Oper.semAt_some
theorem Lw (g:ar) (t:aq ar) (a7:ax bR) (a8:av) (w:aj) (f2:aB w 1 dG a7 a8 t) (a6:aO t) (y3:t.length<=1882) (v8:0<=g) (o4:g<4294967296):
  jW 262 #[cZ #[cW dD g,js a7 t a8]] w fun e w'=> ∃o5 o6,e=cL (js o5 (bm g (bu g t)).length o6)/\aB (jQ cn w') 1 br o5 o6 (bm g (bu g t))/\jb w w':=by
 have t2:=hI fun W (h:jb w W)=>f2.below fS h;have f4:=hI a6;clear f2 a6;refine callsIn_wide.1 (callsIn_of_wp_marks (n:=3) func262 rfl Py ?_ rfl);simp only[ntmps262,Gv,Du,Tl,av.reduceAdd,av.reduceSub,Gk,Gj,Gx,Gq,Dd,Nz];refine wpIn_wide.2 ?_;go_upto_region 1 with fail;have f5:bG (Fr w [(#[cW dD g,js a7 t a8],161),(#[cJ bn 0 0],81)] ((w.alloc (cO #[cW dD g,js a7 t a8] 161)).alloc (cO #[cJ bn 0 0] 81))):=((Fr.start w).alloc rfl _ _).alloc ee _ _;generalize cj _ _=W0 at *;have p0:jc W0 w 0 (cW dD g):=jr (f5.o.row 0 _ rfl);have n6:w.heap.size<W0.heap.size:=f5.o.lt (i:=0) ee;have f6:=hI fun W=>CU g 4 W v8 o4 eh Ls;have v9:w.heap.size+2<=W0.heap.size:=f5.o.sz;go_upto_region 2 with(go_at_call 355;refine(f6.o W0).mono ?_;rintro e W1 ⟨G,rfl,w0,f7,c4⟩);clear p0 n6;generalize c5:cj _ _=W2;have o7:=jG c5
 have g3:=hI (jA c5)
 have gr:=hI ((jm o7 f7));have F2:=hI ((f5.o.below c4).below o7);have o8:=c4.size;clear c5 o7 f7 c4 f5;generalize W1.heap.size=B3 at *;have p1:jc W2 w 1 (js a7 t a8):=jr (F2.o.row 0 _ rfl);have n6:w.heap.size<W2.heap.size:=F2.o.lt (i:=0) ee;have f8:(t:ar) % 4294967296=(t:ar):=ed
 refine wbg (zD [7] ?_);intro V hV;have t0:=fun t:Gw W2=>t.cel p1;have t1:=fun t:Gw W2=>t.lt n6;refine zB [0,1,5,6] hV ?_;refine aS 2 ef ?_;refine Oo fun K hK=>?_;refine ue ?_;clear hK K;refine zB [3] hV ?_;have f9:=hI fun W=>CU (t:ar) 2 W ed ed eh waX;refine aS 4 ef ?_;refine Oo fun K hK=>?_;refine .inl ((f9.o V).mono ?_);rintro e V1 ⟨G2,rfl,c6,b7,M5⟩;simp[go_sem];refine uF fun h1=>?_;clear hK K;clear t0 t1 p1;have F3:=hI (F2.o.below h1);have g5:=hI ((jm h1 g3.o));have g6:=hI ((jm h1 gr.o));have c7:=Lt b7 (Nj hV.size c6) (by rw[cw];decide);rw[cw]at c7;have g7:=hI c7;have a9:=h1.size;have g8:=hI (t2.o V1 F3.o.bel);obtain⟨T,n7⟩: ∃T,T=aw 2 t++t:=⟨_,rfl⟩;have H7:=hI n7;have hb:2+t.length=T.length:=by rw[n7,Mx,cw]
 have ho:aO T:=by rw[n7];exact fun b a6=>(Tx.1 a6).elim (dz _ _ b) (f4.o b)
 refine Qa fun H8 I=>?_;have o9:T.length<=1884:=ed
 have g9:=gr;have i0:=g3;have F0:bG (w+2<=W2.heap.size):=F2.o.sz;have p2:=Nj hV.size c6;have M:bG (V1.ownsRow W2 5 1 (jq G2 0 2 2) 2 ((aw 2 t).flatMap dR)):=by have:=g7.o;unfold cM at this;rw[cw]at this;exact this
 clear c7 M5 h1 hV b7 n7 hb ho F2 g3 gr f9 n6 c6;refine pG [7,8] ef ee ?_;refine oS ?_;go_upto_region 3 with(at_builtin;refine rm 2 t T rfl (dk 16) (dk 18) rfl W2 (jq G2 0 2 2) (aw 2 t) rfl (dz _ _) M.o (cw _ _) a7 a8 t rfl rfl g8.o f4.o H8.o ed a9 ?_;rw[<-H7.o];intro c8 d0 W4 i1 i2;have i3:=hI i1;have d:=hI i2;clear i1 i2);have A: ∀(y:av) (cs:aL bw) (d1:bT),y<G2->jk V1 y cs d1->jk W4 y cs d1:=fun y cs d1 i4 h=>(d.o.block y (aD h) (by simp[bw.ownBlock];omega)).trans h;have i5:G<G2:=by have:=aD g9.o;omega
 have i6:B3<G2:=by have:=aD i0.o;omega
 have i7:=A _ _ _ i6 g5.o;have g1:=A _ _ _ i5 g6.o;have F4:=hI (F3.o.low (dT M.o (Mv _) a9 d.o |>.mono F0.o));have d2:=fj i3.o rfl;have p3:=Nj a9 d.o.size;have i8:=hI fun W (h:jb W4 W)=>d2.below fS h;have d3:=OF (Fj (cw _ _)) g1;obtain⟨L4,O⟩: ∃L4,L4=aw 4 g:=⟨_,rfl⟩;have i9:L4.length=4:=by rw[O];exact cw _ _
 have j0:aO L4:=by rw[O];exact dz _ _
 rw[<-O]at d3;generalize b0:W4.alloc (cO #[jq G 0 4 4,js c8 T d0] 22)=W5;have r5:=jA b0
 have p4:=jG b0
 have t3:jc W5 W4 0 (jq G 0 L4 4):=by rw[i9];exact(Mu W5 _ 0 _ _ _ r5).trans rfl
 have j1:=ji 1 r5;have HC:=hI (ux W4 (bt ⟨G,0,bn⟩) c8 4 d0 L4 T W5 t3 j1 (d3.below fS p4) (d2.below fS p4) j0 I.o ed ed);rw[O,<-b0]at HC;clear t3 j1 r5 p4 d3 i9 j0 b0;obtain⟨U,j2⟩: ∃U,U=aw 4 g++T:=⟨_,rfl⟩;have j3:bG (aO U):=by show aO U;rw[j2];exact fun b a6=>(Tx.1 a6).elim (dz _ _ b) (I.o b)
 have HL:bG (U.length<=2000):=by show _<=_;rw[j2,Mx,cw];omega
 rw[<-j2]at HC;have p5:bG (bu g t=aw 4 (tm U)++T):=by show _=_;rw[j2,H7.o];rfl
 have b1:=Ld U;have p6:=hI fun W=>CU (tm U) 4 W b1.1 b1.2 eh Ls;have t4:=hI fun(W:aj) (a:ax bR) (c:av) (h:aB W 1 dG a c U)=>wam a U c (U.map ar.toNat) W (AT h j3.o) Qm;unfold tm at p6 b1 p5;have G4:=hI i7;have R4:=hI g1;clear d2 i7 g1 A j2 g7 M t2 g8 f4 g5 g6 g9 i0 F3 f6 f8 p2 i5 i6 d;generalize(rk 0#32 (U.map ar.toNat))=CC at *;have z3:=ji 0 G4;have p7:=aD G4.o;clear O;have j4:4+T.length<=2000:=ed
 go_upto_region 4 with(first | (go_at_call 227;refine vy fun W6 t5 t6 j5 j6=>?_;have j7:=hI (fj j5 rfl);have j8:=hI (((Nb W4 W4).alloc (Mv _) _).trans (j6.mono ee));clear j5 j6 z3 p7) | (go_at_call 356;refine oG (t4.o W6 t5 t6 j7.o) fun W7 j9=>?_;have H1:=hI (jo j8 j9);clear j9) | (go_at_call 355;refine(p6.o W7).mono ?_;rintro e W8 ⟨G8,rfl,k0,k1,d4⟩;have b2:=Lt k1 k0 (by rw[cw];decide);unfold cM at b2;rw[cw]at b2;have H9:=hI b2;have d5:=hI (jo H1 d4);have d6:=d4.size;clear b2 k1 k0 d4) | (at_builtin;refine rm 4 T (4+T.length) rfl (dk 25) (dk 26) rfl W7 (jq G8 0 4 4) (aw 4 (CC.toNat:ar)) rfl (dz _ _) H9.o (cw _ _) c8 d0 T rfl rfl (i8.o _ d5.o) I.o rfl ed d6 ?_;intro aR C p8 k2 k3;have H2:=hI k2;have P:=hI (d5.o.trans ((dT H9.o (Mv _) d6 k3).mono H1.o.size));clear k2 k3))
 have F5:=hI (F4.o.below P.o);have G5:=hI ((jm P.o G4.o));have R5:=hI ((jm P.o R4.o));obtain⟨R,p9⟩: ∃R,R=bu g t:=⟨_,rfl⟩;have b3:R=aw 4 (CC.toNat:ar)++T:=by rw[p9];exact p5.o
 have d7:4+T.length=R.length:=by rw[b3,Mx,cw]
 have k4:aO R:=by rw[b3];exact fun b a6=>(Tx.1 a6).elim (dz _ _ b) (I.o b)
 rw[<-b3,d7]at H2;rw[d7]at j4 ⊢;have k5:=hI p9;obtain⟨N,q0⟩: ∃N,N=ii R:=⟨_,rfl⟩;obtain⟨L,hL⟩: ∃L,L=R.length:=⟨_,rfl⟩;have k6:N=(L+117) / 118:=by rw[q0,hL];rfl
 have hq:((L:ar)+118-1) / 118=(N:ar):=ed
 have w1:6<=L:=by have:=H8.o;omega
 rw[<-hL]at H2 j4 ⊢
 obtain⟨r,cur,rfl,q1,b8,b9,k7,d8,k8⟩: ∃r cur,aR=bt ⟨r,0,bn⟩/\W7.heap.size<=r/\jk p8 r cur 5/\L<=C/\C<=maxLen/\cur.size=C/\cur.toList.take L=R.flatMap dR:=by
  rcases H2.o.2 with⟨h,h2⟩ | ⟨g,cap,cur,h,h1,h2,h3,h4,h5,h6⟩
  ·omega
  cases h;exact⟨g,cur,rfl,h1,h2,h3,h4,ed,by simpa using h6⟩
 have H5:=hI b8;have q2:=hI k8;have q3:=hI hL;have H3:=hI q0;have H4:=hI k6;have w2:=hI k4;have q4:=P.o.size;have w3:=H1.o.size;clear b8 k8 d8 b3 d7 k4 p9 q0 hL k6 p5 H2 H9 d5 H1 j8 j7 t4 p6 HC j3 HL i8 I H8 H7 i3 b1 F4 G4 R4 P;go_upto_region 5 with fail;generalize d9:cj _ _=W9;have c0:=jG d9
 have t7:=jA d9
 have F9:=hI (F5.o.below c0);have G0:=hI ((jm c0 G5.o));have htA:=hI ((jm c0 R5.o));have C9:=hI ((jm c0 H5.o));have M9:=hI t7;have k9:bG (w+2<=p8.heap.size):=F5.o.sz;clear d9 c0 t7 F5 G5 R5 H5;generalize p8.heap.size=B6 at *;go_wp2_with (go_at_call 318;refine(wbb _ _ _ _ b9).mono ?_;rintro e WX ⟨rfl,rfl⟩);refine vO fun WX hW=>?_;have q5:bG (w+2<=G):=by show _<=_;omega
 have q6:bG (w+2<=B3):=by show _<=_;omega
 have I0:bG (xG w g R N B3 B6 G r L C W9 WX 0 cur WX):=by
  have l0:jb W9 WX:=by rw[<-hW];exact aR.alloc ee _
  have FX:=F9.o.below l0;refine⟨FX.bel,Mv _,⟨bn,0,[],FX.row 1 _ rfl,cR.nil⟩,(jm l0 G0.o),(jm l0 M9.o),(jm l0 htA.o),(jm l0 C9.o),?_,?_⟩
  ·rw[<-hW];exact(Nv _ _ ee).trans (Nc _ _)
  exact Zq
 have X:bG (w+2<=W9.heap.size):=F9.o.sz;have q7:bG (w+2<=B6):=by show _<=_;have:=k9.o;omega
 have q8:bG (w+2<=r):=by show _<=_;have:=F0.o;omega
 clear hW F9 G0 htA C9 M9 q1 q4 d6 p3 a9 o8 w0 v9 F0 o9;generalize W9.heap.size=e0 at *;refine wpIn_wide.1 (FW 385 N wbi #[jp e0 0,jp (e0+1) 0] (fun k=>#[jq r (118 * k) (dv L k) (dv L k)]) rfl (fun _=>rfl) (fun k W=>xG w g R N B3 B6 G r L C e0 WX k cur W) ?_ (fun k W W' h a6=>h.below a6) (fun k W l o o' hl w4 w5 h=>h.put o' (Nj I0.o.bel.size hl) w4 w5) ?_ (fun k=>{tmps:=#[cZ #[cW dD g,js a7 t a8],cY (bt ⟨w,0,bn⟩),cY (bt ⟨w+1,0,bn⟩),cY (bt ⟨B3,0,bn⟩),cJ c8 T d0,cJ (bt ⟨r,0,bn⟩) L C,cY (bt ⟨B6,0,bn⟩),cJ (bt ⟨r,118 * k,bn⟩) (dv L k) (dv L k),bE,cY (bt ⟨w,0,bn⟩),cW dD g,cJ (bt ⟨G,0,bn⟩) 4 4,cY (bt ⟨w,1,bn⟩),cJ a7 t a8,cW dr t,cW dD t,cJ (bt ⟨G2,0,bn⟩) 2 2,cY (bt ⟨w,1,bn⟩),cJ a7 t a8,cJ c8 T d0,cJ (bt ⟨G,0,bn⟩) 4 4,cJ c8 T d0,cJ (bt ⟨W4,0,bn⟩) 2 2,cJ t5 U t6,cW dD CC.toNat,cJ (bt ⟨G8,0,bn⟩) 4 4,cJ c8 T d0,cJ (bt ⟨r,0,bn⟩) L C,cJ (bt ⟨r,0,bn⟩) L C,cW dr L,cW dr (L+118),cW dr (L+118-1),cW dr N,cJ (bt ⟨r,0,bn⟩) L C,.func (.func 385) #[] #[jp e0 0,jp (e0+1) 0],cJ (bt ⟨r,118 * k,bn⟩) (dv L k) (dv L k),bE,bE,bE,bE,bE,bE,bE,bE,bE,bE,bE,bE,bE,bE,bE,bE,bE,bE,bE,bE,bE],defers:=[]}) ?_ ?_ ?_)
 ·intro l J l1 q9 w6 W h0;refine waZ 2 l e0 (e0+1) r 0 C L N ed H4.o b9 (by unfold maxLen at k7;omega) J (fun k W h=>⟨(Mu W _ 0 _ _ _ (l1 k W h).tb).trans rfl,(Mu W _ 0 _ _ _ (l1 k W h).nb).trans rfl⟩) (fun k W n h=>q9 k W _ h ⟨rfl,rfl,rfl,Mv _,fun _ _=>rfl⟩) (fun k W w7 hj=>by rw[Pa];exact w6 k W w7 hj) W h0
 ·exact MN
 ·intro l k W K hK
  gi_wp2
  exact hK
 ·intro l k W x2 s;have c1:=hI s;have g3:=s.g3;have gr:=s.gr;have hz:(aw 4 g).length=4:=cw _ _;obtain⟨GL,e1⟩: ∃GL,GL=aw 4 g:=⟨_,rfl⟩;have l3:=hI e1;rw[<-e1]at gr hz;have d:=hI hz;clear s e1
  gi_upto_region 8 with fail
  refine Qq fun r0 e2=>?_;have n8:=jG e2
  have t8:jk r0 W ((cr 128 (0:ar)).map (bw.int .u8)).toArray 420:=by rw[<-e2];exact Nc _ _
  have g0:=jm n8 g3;have l4:=jm n8 gr;clear e2 g3 gr;have z3:=ji 0 g0;have l5:=aD g0;refine At [2] l 1 kW ef ?_;intro Vb E;have t0:=fun t:Gw r0=>t.cel z3;have t1:=fun t:Gw r0=>t.lt l5;refine zB [0,1] E ?_;clear t0 t1 z3 l5;have t9:=jm E t8;have r1:=jm E g0;have l6:=jm E l4;refine pG [2] ef ee ?_;refine oS ?_
  have s1: ∀(w':aj),jk w' G (bC GL) 5-> ∀j v,(GL.map (bw.int .u8))[j]? =bt v->w'.cell? ((⟨G,0,bn⟩:bR).add j)=bt v:=fun w' r2 j v c2=>by
   rw[yab,Mu _ _ _ _ _ _ r2,Pa]
   simpa [bC]using c2
  have o0: ∀(m:aq ar),∀v∈m.map (bw.int .u8),v.oneCell'=bl:=fun m v c2=>by
   obtain⟨_,_,rfl⟩:=aq.mem_map.1 c2;rfl
  have H6:=hI s1;have e3:=hI o0;clear s1 o0;refine wpList_copy_splice rfl (dk 36) (dk 37) 22 22 rfl 5 underlying22 ef (bt ⟨W,0,bn⟩) (bt ⟨G,0,bn⟩) 128 128 4 4 rfl rfl W 0 _ 420 t9 (GL.map (bw.int .u8)) (by rw[Pn,hz];rfl) (fun _=>⟨rfl,_,rfl,H6.o Vb l6⟩) Qh (e3.o _) W W (jt n8 E) (Mv _) ?_;intro y4 sc l7;rw[wbd d.o]at sc;clear t9 r1 l6 n8 t8 g0 l4 E;unfold wpList;simp only[cq,Pn,d.o,goInt,aq.setIfInBounds_toArray,aq.set_cons_zero,Df]
  gi_upto_region 9 with fail
  obtain⟨oa,oc,xss,Q,f⟩:=c1.o.rows;have Y:=hI f;have HG8:=hI Q;have m6:=c1.o.m6;have x1:=ji 0 Q;have x6:=ji 0 m6;have l2:=aD Q;have v0:=aD m6;have w8:(k:ar) % 256=(k:ar):=by have:=H4.o;omega
  have x3:(N:ar) % 256=(N:ar):=by have:=H4.o;omega
  clear f Q m6;refine wbh W l7 l 1 kW ef ?_;intro f3 l8 Z;have t0:=fun t:Gw W=>t.cel x1;have t1:=fun t:Gw W=>t.cel x6;have x4:=fun t:Gw W=>t.lt l2;have x5:=fun t:Gw W=>t.lt v0;refine zB [0,3,4] Z ?_;clear t0 t1 x4 x5 x1 x6 l2 v0;refine aS 1 ef ?_;refine Oo fun K hK=>?_;refine .inl (hK _ _ (fun _=>Z) ?_);clear hK K;refine zB [2,5] Z ?_;have sd:jk f3 W ((GL++cr 124 0).map (bw.int .u8)).toArray 420:=by rw[l8];exact sc.o
  have a0:((GL++cr 124 0).map (bw.int .u8)).length=128:=by rw[Pn,Mx,d.o,aq.length_replicate]
  obtain⟨u4,l9⟩: ∃u,jc f3 W 4 u:=⟨_,(Mu _ _ 4 _ _ _ sd).trans (Sa (by simp only[Gv];rw[a0];decide))⟩;have m0:=fu sd 4;have ld:=aD sd;refine aS 6 ef ?_;intro K hK;simp[wpOp,go_sem,l9,m0];have b4:jb W (f3.setCell ⟨W,4,bn⟩ (cW .u8 (k:ar))):=Z.setCell (Mv _) _;refine .inl (hK _ _ (fun _=>b4) ?_);clear hK K;refine zB [7] b4 ?_
  have sf:(f3.setCell ⟨W,4,bn⟩ (cW .u8 (k:ar))).heap[W.heap.size]? =bt (cO (((GL++cr 124 0).map (bw.int .u8)).set 4 (cW .u8 (k:ar))).toArray 420 (0,0)):=by
   simp[cd,Nk,sd]
  obtain⟨u5,m1⟩: ∃u,jc (f3.setCell ⟨W,4,bn⟩ (cW .u8 (k:ar))) W 5 u:=⟨_,(Mu _ _ 5 _ _ _ sf).trans (Sa (by simp only[Gv,Tj];rw[a0];decide))⟩;have m2:=fu sf 5;have x7:=aD sf;generalize f3.setCell ⟨W,4,bn⟩ (cW .u8 (k:ar))=Vf at *;refine aS 8 ef ?_;intro K hK;simp[wpOp,go_sem,m1,m2];have e4:jb W (Vf.setCell ⟨W,5,bn⟩ (cW .u8 (N:ar))):=b4.setCell (Mv _) _;refine .inl (hK _ _ (fun _=>e4) ?_);clear hK K
  have sg:(Vf.setCell ⟨W,5,bn⟩ (cW .u8 (N:ar))).heap[W.heap.size]? =bt (cO ((GL++[(k:ar),(N:ar)]++cr 122 0).map (bw.int .u8)).toArray 420 (0,0)):=by
   rw[<-CW d.o];simp[cd,Nk,sf]
  generalize Vf.setCell ⟨W,5,bn⟩ (cW .u8 (N:ar))=Vg at *;clear l9 m0 ld sd m1 m2 x7 sf a0 b4 Z l8;refine eI ef ?_ _;have sc:=hI sg;have l7:=e4;clear sg e4
  gi_upto_region 10 with fail
  have m3:=((jm l7 c1.o.rr))
  have a1:(kg R k).length=dv L k:=by
   unfold kg dv;rw[Dn,Po,q3.o]
  have a2:dv L k<=118:=by unfold dv;omega
  have s0: ∀j v,((kg R k).map (bw.int .u8))[j]? =bt v->Vg.cell? ((⟨r,118 * k,bn⟩:bR).add j)=bt v:=fun j v c2=>by
   rw[yab,Mu _ _ _ _ _ _ m3];have hj:j<dv L k:=(by have:=(aq.getElem?_eq_some_iff.1 c2).1;rw[Pn,a1]at this;exact this);have r3:118 * k+j<L:=by unfold dv at hj;omega
   have j1:(cur.toList.take L)[118 * k+j]? =bt v:=by
    rw[q2.o,xF];unfold kg at c2;rw[Pp,FJ ed,aq.getElem?_drop]at c2;rw[Pp];exact c2
   rw[FJ r3]at j1
   simpa using j1
  obtain⟨e5,e6⟩: ∃e5,e5=kg R k:=⟨_,rfl⟩;rw[<-e6]at a1 s0;have r4:=hI e6;have H0:bG (e5.length<=118):=by show _<=_;rw[a1];exact a2
  clear e6;refine wba l 1 kW ef ?_
  iterate 6 go_step
  (refine wpList_copy_splice rfl (dk 46) (dk 47) 22 22 rfl 5 underlying22 ef (bt ⟨W,6,bn⟩) (bt ⟨r,118 * k,bn⟩) 122 122 (dv L k) (dv L k) rfl rfl W 6 _ 420 sc.o (e5.map (bw.int .u8)) (by rw[Pn,a1];exact(Gm ed).symm) (fun _=>⟨rfl,_,rfl,s0⟩) (by simp[d.o];omega) (e3.o _) W W l7 (Mv _) ?_;intro v1 r6 r7)
  rw[wbe d.o]at r6;clear s0 a1 m3 sc l7 a2;unfold wpList;simp only[cq,Pn,goInt,aq.setIfInBounds_toArray,aq.set_cons_zero,Df];have g2:=jm r7 c1.o.g3;have z3:=ji 0 g2;have l5:=aD g2
  gi_upto_region 11 with fail
  refine At [2] l 1 kW ef ?_;intro Vi b5;have t0:=fun t:Gw v1=>t.cel z3;have t1:=fun t:Gw v1=>t.lt l5;refine zB [0,1] b5 ?_;clear t0 t1 z3 l5;have si:=jm b5 r6.o;have r8:=jt r7 b5;have g4:=jm r8 c1.o.gr;rw[<-l3.o]at g4;refine pG [2] ef ee ?_;refine oS ?_;refine wpList_copy_splice rfl (dk 49) (dk 50) 22 22 rfl 5 underlying22 ef (bt ⟨W,124,bn⟩) (bt ⟨G,0,bn⟩) 4 4 4 4 rfl rfl W 124 _ 420 si (GL.map (bw.int .u8)) (by rw[Pn,d.o];rfl) (fun _=>⟨rfl,_,rfl,H6.o Vi g4⟩) (by have:=H0.o;simp[d.o];omega) (e3.o _) W W r8 (Mv _) ?_;intro v2 r9 n9;rw[wbf d.o H0.o]at r9;clear si g4 b5 r8 r6 r7 g2;unfold wpList;simp only[cq,Pn,d.o,goInt,aq.setIfInBounds_toArray,aq.set_cons_zero,Df]
  have m4:bG (Bt GL (k:ar) (N:ar) e5=nm g R N k):=by
   show _=_;rw[l3.o,r4.o];rfl
  have s2:(Bt GL (k:ar) (N:ar) e5).length=128:=by rw[m4.o];exact Bw _ _ _ _
  obtain⟨o1,o2,x0,Q,p⟩:=(c1.o.below n9).rows;have x1:=ji 0 Q;have l2:=aD Q
  gi_upto_region 12 with fail
  refine At [3] l 1 kW ef ?_;intro Vk q;have t0:=fun t:Gw v2=>t.cel x1;have t1:=fun t:Gw v2=>t.lt l2;refine zB [0,1] q ?_;clear t0 t1 x1 l2;refine aS 2 ef ?_;refine Oo fun K hK=>?_;refine .inl (hK _ _ (fun _=>q.alloc q.size _) ?_);clear hK K;refine pG [3,4] ef ee ?_;refine oS ?_;have H:(bm g R).length=N:=by rw[bm,Pn,Gy,H3.o]
  have hx:x0.length=k:=by have:=p.len;rw[this,Dn,H];omega
  have m5:=Nj c1.o.bz n9.size;have e7:=p.below an q;have s3:=hI e7;have v3:=jm q r9.o;have v4:=jm q Q;have bk:=jt n9 q;have a3:=Nj m5 q.size;have x8:w.heap.size+1<WX.heap.size:=by have:=X.o;have:=aD I0.o.tb;omega
  have HRL:=hI hx
  have z:bG (Vk.ownsRow WX 22 1 (js o1 k o2) k (x0.flatMap id)):=by
   have:=e7.own;exact jv
  have e8:k<=100000:=by have:=H4.o;omega
  have m7:WX.heap.size<=(Vk.alloc (cO #[jq W 0 128 128] 22)).heap.size:=em
  have Q3:=hI v4;have SK:=hI v3;have o3:=hI bk;clear e7 v3 bk v4 Q p q n9 r9 hx m5;go_wp2_with (at_builtin;refine nK rfl _ _ 81 22 22 _ 1 24 rfl underlying81 qx rfl eh eh WX (js o1 k o2) k _ rfl z.o e8 a3 [cJ (bt ⟨W,0,bn⟩) 128 128] rfl rfl (zv _ _ _) ?_;intro c0 c9 w9 G9 B;have htA:=vd (z.o.alloc _) B eh ((Nv _ _ ed).trans Q3.o);have y5:=ji 0 htA;have y6:=fu htA 0;have y7:=aD htA);have s4:=I0.o.bel.size
  have m8: ∀(y:av) (o':Obj),W.heap[y]? =bt o'->(bt y≠(bw.slice o1 k o2).ownBlock)->w9.heap[y]? =bt o':=fun y o' i4 x9=>by
   have s5:=(aL.getElem?_eq_some_iff.1 i4).1;have h1:=(o3.o.block y s5).trans i4;have h2:=(Nv Vk (cO #[jq W 0 128 128] 22) (aL.getElem?_eq_some_iff.1 h1).1).trans h1;exact(B.block y (aL.getElem?_eq_some_iff.1 h2).1 x9).trans h2
  have F: ∀(y:av) (cs:aL bw) (d1:bT),y<WX.heap.size->y≠w.heap.size+1->jk W y cs d1->(w9.setCell ⟨w+1,0,bn⟩ (jq c0 0 (k+1) c9)).heap[y]? =bt (cO cs d1 (0,0)):=fun y cs d1 i4 b6 h=>
   (Ny _ _ _ _ b6).trans (m8 y _ h (EK (z.o.alloc (cO #[] 0)) i4).symm)
  have e9:=(((Nb Vk Vk).alloc (Mv _) _).mono a3).trans (dT (z.o.alloc _) (Mv _) m7 B)
  have m9:=(s3.o.below an aR).app an rfl rfl (x:=nm g R N k) (V:=[cJ (bt ⟨W,0,bn⟩) 128 128]) ⟨_,128,by rw[Bw],by
   rw[<-m4.o]
   exact OF (l:=Bt GL (k:ar) (N:ar) e5) (by rw[s2];exact Mv _) (zI ((Nv _ _ (aD SK.o)).trans SK.o) rfl)⟩ Ox B
  have y0:(bm g R).take (k+1)=(bm g R).take k++[nm g R N k]:=by
   rw[Dc UE]
   congr 2
   simp[bm,<-H3.o]
  rw[<-y0]at m9;have f0:=c1.o;refine⟨⟨?_,fun y o' y1 a4 n0=> ?_⟩,⟨?_,?_,⟨bt ⟨c0,0,bn⟩,c9,_,?_,m9.setCell an htA rfl eh _⟩,F _ _ _ (by have:=aD I0.o.g3;exact this) (by have:=q6.o;omega) f0.g3,F _ _ _ (aD I0.o.m6) (by have:=q7.o;omega) f0.m6,F _ _ _ (aD I0.o.gr) (by have:=q5.o;omega) f0.gr,F _ _ _ (aD I0.o.rr) (by have:=q8.o;omega) f0.rr,F _ _ _ (aD I0.o.tb) (by have:=X.o;omega) f0.tb,F _ _ _ (aD I0.o.nb) (by have:=X.o;omega) f0.nb⟩⟩
  ·have:=o3.o.size;have:=e9.size;simp;omega
  ·have s6:y≠w.heap.size+1:=by
    rintro rfl;rw[HG8.o]at a4;cases a4;cases n0
   refine(Ny _ _ _ _ s6).trans (m8 y _ a4 fun e=> ?_);obtain⟨cs,d8,-⟩:=fD z.o e.symm;have:=(o3.o.block y (aL.getElem?_eq_some_iff.1 a4).1).trans a4;rw[d8]at this;cases this;cases n0
  ·exact((jt f0.bel o3.o).trans (e9.mono s4)).setCell eF _
  ·have:=e9.size;have:=a3;simp;omega
  exact Xp
 intro D W v5 s n1;have a5:(bm g R).take N=bm g R:=Sk (by rw[bm,Pn,Gy,H3.o];exact Mv _);obtain⟨oa,oc,xss,Q,f⟩:=s.rows;rw[a5]at f;have Y:=hI f;have HG8:=hI Q;have f4:=hI s.bel;have n2:=hI n1;have s7:=hI (Nj I0.o.bel.size v5);have H:bG ((bm g R).length=N):=by show _=_;rw[bm,Pn,Gy,H3.o]
 have y2:=hI I0.o.bel.size;have x1:=ji 0 Q;have y8:=fu Q 0;have l2:=aD Q;clear a5 Q f s n1 v5 I0;go_upto_region 13 with fail;go_wp2_with fail
 have b6:w.heap.size+1≠D:=by
  intro h;have:=HG8.o;rw[h,n2.o]at this;cases this
 have s8:(W.setCell ⟨w+1,0,bn⟩ (js oa N oc)).heap[w.heap.size+1]? =bt (cO #[js oa N oc] 81 (0,0)):=Xw
 have n3:(W.setCell ⟨w+1,0,bn⟩ (js oa N oc)).heap[D]? =bt (.deferred (bt [])):=(Ny _ _ _ _ (fun h=>b6 h.symm)).trans n2.o;have n4:jb w (W.setCell ⟨w+1,0,bn⟩ (js oa N oc)):=f4.o.setCell eF _;have c3:=(Y.o.setCell (o:=0) an HG8.o rfl eh (js oa N oc)).putO an (.deferred bn) n3 rfl;refine⟨ee,.inl ⟨_,_,rfl,run_takeDeferred n3,?_⟩⟩;generalize f1:aj.putObj _ _ _=v6;have n5:jk v6 (w+1) #[js oa N oc] 81:=by rw[<-f1];exact(aj.putObj_heap_other b6).trans s8
 have s9:jb w v6:=by rw[<-f1];exact n4.grown (grownBy_putObj' _ _ _) n4.size (fun k e=>by cases e;exact s7.o)
 rw[f1]at c3;have qE:=ji 0 n5;have lE:=aD n5;refine⟨cJ oa N oc,by simp[results,Tryz.f262,go_sem,qE,lE],?_⟩;obtain⟨o5,o6,v7,h'⟩:=c3.slM (a:=cn) an (fun t f2=>by unfold cn at f2;unfold ML;simp at f2;simp[f2]) rfl;rw[H.o]at v7;cases v7;refine⟨oa,oc,?_,?_,s9⟩
 ·rw[<-k5.o,H.o]
 rw[<-k5.o];exact h'
def Lx (x:Pl) (s q g r:bw) (w:aj) (hx:bN w s q g r x) (b:x.Fit):
  jW 192 #[aT x s q g r] w (bY w (ab (x=bV))):=by
 refine YW fun d=>?_;obtain⟨a1,a2,rfl,-⟩:=hx.S;obtain⟨a3,a4,rfl,-⟩:=hx.P;obtain⟨a5,a6,rfl,-⟩:=hx.G;obtain⟨a7,a8,rfl,-⟩:=hx.R;clear hx b;generalize ab (x=bV)=B at *;unfold aT at *;go_enter func192,ntmps192;go_upto_region 1 with fail;generalize H:cj _ _=W0;have K0:=hI (jG H)
 have a:=jA H
 clear H;obtain⟨p,P,f,i,j,k⟩:=dB a;have l:=aD a;clear a;go_wp2_with fail;refine oG (d.o W0 K0.o) fun _ c=>?_;have K:=jh K0 c;clear c;refine ei ?_;exact⟨rfl,K.o⟩
def wbj (x:Pl) (s q g r:bw) (w:aj) (hx:bN w s q g r x) (b:x.Fit):
  jW 279 #[aT x s q g r] w (bY w (ab (x=bV))):=by
 have d:bG (∀W,jb w W->jW 68 #[aT x s q g r,cZ #[jV 0,jV 0,jN,jN,jN,jN]] W (bY W (ab (x=bV)))):=fun W c=>IA x bV s q g r _ _ _ _ W (hx.below c) (wJ W) b wK;obtain⟨a1,a2,rfl,-⟩:=hx.S;obtain⟨a3,a4,rfl,-⟩:=hx.P;obtain⟨a5,a6,rfl,-⟩:=hx.G;obtain⟨a7,a8,rfl,-⟩:=hx.R;clear hx b;generalize ab (x=bV)=B at *;unfold aT at *;go_enter func279,ntmps279;go_upto_region 1 with fail;generalize H:cj _ _=W0;have K0:=hI (jG H)
 have a:=jA H
 clear H;obtain⟨p,P,f,i,j,k⟩:=dB a;have l:=aD a;clear a;go_wp2_with fail;refine oG (d.o W0 K0.o) fun _ c=>?_;have K:=jh K0 c;clear c;refine ei ?_;exact⟨rfl,K.o⟩
end
open Go.Shelf
def wbk (a b:aq av):fR a++fR b=fR (a++b):=by
 apply ByteArray.ext;apply aL.ext';rw[ByteArray.data_append,aL.toList_append];unfold fR;rw[strOfNums_data,strOfNums_data,strOfNums_data];simp
def Ly (a:aq av):(fR a).size=a.length:=by unfold fR;rw[strOfNums_size];simp
def xS (w:aj) (a b:aq av) (h:a.length+b.length<=9223372036854775807):(Op.stringOp .add (fR a) (fR b)).run prog w= .ok (.string (fR (a++b))) w:=by
 rw[<-wbk];exact Go.run_string_add_sum w _ _ (by rw[Ly,Ly];exact h)
def Ea (n:ar) (w:aj) (h0: -9223372036854775808<=n) (h1:n<=9223372036854775807):
  jW 270 #[n] w fun e w'=>e=cL (.string (fR (da n)))/\jb w w':=by
 go_enter func270,ntmps270;go_upto_region 3 with fail;go_wp2_with fail;go_loopg [3,4,5] 8 (fun g s x i wr=> ∃(k:av) (p:aq av) (y:ar),k<=8/\g=8-k/\s= .string (fR p)/\x=cW .u64 y/\i= jV k/\0<=y/\y<18446744073709551616/\p.length=k+1/\p++(aw (8-k) y).map ar.toNat=da n/\jb w wr)
 ·exact⟨0,[46],n % 18446744073709551616,ed,ed,rfl,by first | rfl | go_num,rfl,ed,ed,rfl,rfl,Nb _ _⟩
 obtain⟨k,p,y,j,rfl,rfl,rfl,rfl,y0,y1,hp,he,a⟩:=hrel;by_cases c:k<8
 ·have hd:ab ((k:ar)<8)=bl:=em;have b: ∀W:aj,(Op.stringOp .add (fR p) (fR [(y % 256).toNat])).run prog W= .ok (.string (fR (p++[(y % 256).toNat]))) W:=fun W=>xS W _ _ em
  have H:BL (wr.alloc (Obj.cells #[cW .u8 (y % 256)] 5)) (bt ⟨wr,0,bn⟩) 1 [(y % 256).toNat]:=
   ⟨rfl,fun i h=>by
    have:i=0:=by simp at h;omega
    subst this;simp;omega,fun i h=>⟨wr,0,rfl,by
    have:i=0:=(by simp at h;omega);subst this;rw[(Mu _ _ 0 _ _ _ (Nc wr _))];have:((y % 256).toNat:ar)=y % 256:=ed
    simp[this]⟩⟩
  have d:=H.str 1;clear H;go_wp2_with fail;go_roundg (8-(k+1))
  ·go_light;have e8:8-k=(8-(k+1))+1:=ed;rw[e8]at he;exact⟨k+1,p++[(y % 256).toNat],y / 256,ed,ed,rfl,ej,ej,ed,ed,by simp[hp],by rw[<-he];simp[aw],a.alloc a.size _⟩
  go_light;omega
 have hd:ab ((k:ar)<8)=aW:=em;obtain rfl:k=8:=ed;have f:p=da n:=(by rw[<-he];simp[aw]);subst f;refine ei ?_;exact⟨rfl,a⟩
