/- Walks, laws. -/
import Derived.Test.YtbiehpjhhopjaaaGreatT5
import Derived.Test.YtbiehpjhhopjaaaGreatT6
import Derived.Laws.EntriesVeiled
set_option linter.all false
set_option maxRecDepth 100000
set_option maxHeartbeats 16000000
namespace Go.Proofs.YtbiehpjhhopjaaaGreat
open _root_ renaming Array->aL,Bool->aU,Bool.false->aW,Decidable.decide->ab,List->aq,Int->ar,Nat->av,Option->ax,Bool.true->bl,Option.none->bn,Option.some->bt,absurd->cv
open Go renaming World->aj,undef->bE,RowKit.Hid->bG,Addr->bR,TypeId->bT,Value->bw,RowKit.Below->cB,redrawn->cF,Value.slice->cJ,Ending.returned->cL,Obj.cells->cO,Value.int->cW,Value.pointer->cY,Value.agg->cZ,World.setCell->cd,World.alloc->cj,wpQuiet_nil->cl,Act.put->cq,Value.bool->db,Operand.tmp->dk,IntKind.i64->dr,Value.tuple->dw
open Go.RowKit Go.Maps Go.Sort Tryz
variable {c g i m:av}{W w:aj}{p:Pl}{r:Rt}{T:bT}{fr:av × av}{ops:aL Oper}{Q:Exit->Act->aj->Prop}{cur:aL bw}{u:bw}{n:ar}
structure pF (cs:aL bw) (H A:av->ar) (v:bw):Prop where
 size:cs.size=201
 H: ∀q,q<100->cs[q]? =bt (cW dr (H q))
 A: ∀q,q<100->cs[100+q]? =bt (cW dr (A q))
 v:cs[200]? =bt v
def dL.arr {H A:av->ar}{v:bw}(h:dL W g H A v): ∃cur,jk W g cur 171/\pF cur H A v:=by
 obtain⟨cur,h1,h2,h3,h4,h5⟩:=h.row;exact⟨cur,h1,h2,h3,h4,h5⟩
def pF.one {cs:aL bw}{H A:av->ar}{a:ax bR}{l:av}(h:pF cs H A (js a l c)):cs.all (·.oneCell')=bl:=by
 rw[aL.all_eq_true];intro i b;have d:=h.size
 have h2: ∃u,cs[i]? =bt u/\u.oneCell'=bl:=by
  by_cases h1:i<100
  ·exact⟨_,h.H i h1,rfl⟩
  by_cases h2:i<200
  ·have:=h.A (i-100) ed;rw[show 100+(i-100)=i by omega]at this;exact⟨_,this,rfl⟩
  have e:i=200:=ed;subst e;exact⟨_,h.v,rfl⟩
 obtain⟨u,h3,h4⟩:=h2;rw[Sa b]at h3;rw[Pq h3];exact h4
def vW (h:W.heap[g]? =bt (cO cur T fr)):W.setRow g cur=W:=by
 have:W.heap.modify g (fun | .cells _ E frozen=> cO cur E frozen | o=>o)=W.heap:=by
  apply aL.ext
  ·simp
  intro i h1 h2;rw[aL.getElem_modify];split
  ·rename_i e
   subst e;rw[Sa h2]at h;rw[Pq h]
  rfl
 show({W with heap:=_}:aj)=W;cases W;simp only[aj.mk.injEq,and_true];exact this
def oW:(prog.info? 171).map (·.size)=bt 201:=by kernel_rfl
def z48:zeroCells171=(aL.replicate 200 (cW dr 0)).push (cJ bn 0 0):=by kernel_rfl
def bB:pF zeroCells171 (fun _=>0) (fun _=>0) (cJ bn 0 0):=by
 rw[z48];refine⟨ee,fun q hq=> ?_,fun q hq=> ?_,?_⟩
 ·rw[Hg em];simp
 ·rw[Hg em];simp
 rw[aL.getElem?_push];simp
def BM {f:Func}{p q:Tmp}{ty:bT}(h:f.results=#[.cell p ty,.cell q 4]) (tmps:aL bw) (w:aj) (g g2:av) (cs:aL bw) (b:aU)
  (hi:tmps.getD p bE=cY (bt ⟨g,0,bn⟩)) (hq:tmps.getD q bE=cY (bt ⟨g2,0,bn⟩)) (hl:(loadVar ty ⟨g,0,bn⟩).run prog w= .ok (cZ cs) w) (c:jc w g2 0 (db b)):
  (results f tmps).run prog w= .ok (dw #[cZ cs,db b]) w:=by
 have H:tmps[p]?.getD bE=cY (bt ⟨g,0,bn⟩):=Og
 have a:tmps[q]?.getD bE=cY (bt ⟨g2,0,bn⟩):=by simpa using hq
 have h4:Sem.run prog (loadVar 4 ⟨g2,0,bn⟩) w= .ok (db b) w:=by simp[go_sem,c]
 simp[results,h,H,a,asAddr,hl,h4]
def z49 (h:W.heap[g]? =bt (cO #[u] T fr)):W.setCell ⟨g,0,bn⟩ u=W:=by
 have:(W.setCell ⟨g,0,bn⟩ u).heap=W.heap:=by
  apply aL.ext
  ·simp[cd]
  intro i h1 h2
  have:(W.setCell ⟨g,0,bn⟩ u).heap[i]? =W.heap[i]? :=by
   by_cases e:i=g
   ·subst e;simp[cd,Nk,h]
   exact Ny W ⟨g,0,bn⟩ u i e
  rw[Sa h1,Sa h2]at this;exact Pq this
 show({W with heap:=_}:aj)=W;cases W;simp only[aj.mk.injEq,and_true];exact this
def JH {v:bw}(h:W.heap[g]? =bt (cO #[u] T fr)):jc (W.setCell ⟨g,0,bn⟩ v) g 0 v:=(Mu _ _ 0 #[v] T fr (by simp[cd,Nk,h])).trans rfl
structure R18 (w0:aj) (cur:aL bw) (ok:aU) (f0 f1:aU) (s82 s83:bw) (W:aj):Prop where
 heap:W.heap=w0.heap
 os:W.os=w0.os
 tape:W.tape=w0.tape
 output:W.output=w0.output
 h0:f0=bl->s82=cZ cur
 h1:f1=bl->s83=db ok
def uB (h:jk W g cur 171) (H:cur.size=201):(loadVar 171 ⟨g,0,bn⟩).run prog W= .ok (cZ cur) W:=
 Iq W g 171 171 cur (0,0) _ h underlying171 rfl (by rw[oW,H])
def pV (t s l:bw):bw:=cZ #[t,s,l]
def sx (w:aj) (p:Pl) (st:St) (e:Ending) (w':aj):Prop:=
 jb w w'/\ ∃cs H A a l c b,e=cL (dw #[cZ cs,db b])/\pF cs H A (js a l c)/\((b=aW/\ ¬nR p st)\/(b=bl/\nR p st/\H=(sY p st).H/\A=(sY p st).A))
theorem z5b (p:Pl) (st:St) (s q gg i9 t sw lk:bw) (w:aj) (e4:bN w s q gg i9 p) (e5:p.Fit) (i4:fU w t sw lk st) (O:st.fit) (u:bS p):
  Calls prog 205 #[aT p s q gg i9,pV t sw lk] w (sx w p st):=by
 have e6:=hI fun I G=>VR p s q gg i9 I (e4.below G) e5;have H2:=hI u;obtain⟨Z,N,rfl,m2⟩:=e4.S;obtain⟨a2,Q,rfl,m3⟩:=e4.P;obtain⟨a6,c3,rfl,-⟩:=e4.G;obtain⟨a4,c4,rfl,m4⟩:=e4.R;obtain⟨b1,d1,rfl,m5⟩:=i4.tks;obtain⟨b2,d2,rfl,g6⟩:=i4.sws;obtain⟨b3,d3,rfl,g7⟩:=i4.lks
 have H8:=hI fun I G=>
  z4v 285 #[] pB b1 Z d1 N st.tks p.S I (m5.below rU G) (m2.below gN G) O.1 e5.S z41 (fun W i h h' s1 j0 _=>z44 _ _ s1 j0 W)
 have H9:=hI fun I g G m7=>
  z4x 287 #[jp g 0] oI b2 a2 d2 Q st.sws p.P I (g6.below qG G) (m3.below lT G) O.2.1 e5.P z42 (fun W i h h' j1=>z45 _ _ g W (aP j1 m7))
 have b0:=hI fun I G=>
  z4z 289 #[] oV b3 a4 d3 c4 st.lks p.R I (g7.below qF G) (m4.below lS G) O.2.2 e5.R z43 (fun W i h h' s1 j0 s2 m8 s3 m9 _=>z47 _ _ s1 s2 s3 j0 m8 m9 W (e5.rt i h').1)
 have j2:bG (∀I,jb w I->aB I 3 mR b2 d2 st.sws):=fun I G=>g6.below qG G;have j3:bG (∀I,jb w I->aB I 4 mS b3 d3 st.lks):=fun I G=>g7.below qF G;have n0:=O.2.1;have n1:=O.2.2;have H0:bG (nR p st↔(iN pB st.tks p.S/\iN oI st.sws p.P/\iN oV st.lks p.R)/\(sY p st).ok=bl):=To;clear e4 e5 i4 O u m2 m3 m4 m5 g6 g7;unfold aT pV at *;go_in;go_upto_region 2 with fail;generalize hW:cj _ _=W0;have K0:bG (jb w W0):=by show cB _ _ _;rw[<-hW];exact(((aR.alloc (by simp) _).alloc (by simp<;>omega) _).alloc (by simp<;>omega) _).alloc (by simp<;>omega) _
 have e7:W0.heap.size=w.heap.size+5:=by rw[<-hW];simp
 have e8:jk W0 w.heap.size #[p.ver,p.par,js Z p.S.length N,js a2 p.P.length Q,js a6 p.G.length c3,js a4 p.R.length c4] 28:=by
  rw[<-hW];exact(Nv _ _ (by simp<;>omega)).trans ((Nv _ _ (by simp<;>omega)).trans ((Nv _ _ (by simp<;>omega)).trans ((Nv _ _ (by simp)).trans (Nc _ _))))
 have e9:jk W0 (w.heap.size+1) #[js b1 st.tks.length d1,js b2 st.sws.length d2,js b3 st.lks.length d3] 33:=by
  rw[<-hW];exact(Nv _ _ (by simp<;>omega)).trans ((Nv _ _ (by simp<;>omega)).trans ((Nv _ _ (by simp)).trans (Do _ _ _)))
 have f0:jk W0 (w.heap.size+1+1) zeroCells171 171:=by
  rw[<-hW];refine(Nv _ _ (by simp<;>omega)).trans ((Nv _ _ (by simp)).trans ?_);have:=Do (w.alloc (cO #[p.ver,p.par,js Z p.S.length N,js a2 p.P.length Q,js a6 p.G.length c3,js a4 p.R.length c4] 28)) (cO #[js b1 st.tks.length d1,js b2 st.sws.length d2,js b3 st.lks.length d3] 33) (cO zeroCells171 171)
  simpa using this
 have f1:jk W0 (w.heap.size+1+1+1) #[db aW] 4:=by
  rw[<-hW];refine(Nv _ _ (by simp)).trans ?_;have:=Do ((w.alloc (cO #[p.ver,p.par,js Z p.S.length N,js a2 p.P.length Q,js a6 p.G.length c3,js a4 p.R.length c4] 28)).alloc (cO #[js b1 st.tks.length d1,js b2 st.sws.length d2,js b3 st.lks.length d3] 33)) (cO zeroCells171 171) (cO #[db aW] 4)
  simpa using this
 have f2:jk W0 (w.heap.size+1+1+1+1) #[.func (.func 283) #[] #[]] 139:=by
  rw[<-hW];have:=Do (((w.alloc (cO #[p.ver,p.par,js Z p.S.length N,js a2 p.P.length Q,js a6 p.G.length c3,js a4 p.R.length c4] 28)).alloc (cO #[js b1 st.tks.length d1,js b2 st.sws.length d2,js b3 st.lks.length d3] 33)).alloc (cO zeroCells171 171)) (cO #[db aW] 4) (cO #[.func (.func 283) #[] #[]] 139)
  simpa using this
 have HG0:bG (kN W0 (w.heap.size+1+1+1) (w.heap.size+1+1) ⟨fun _=>0,fun _=>0,aW⟩ (cJ bn 0 0)):=⟨f1,⟨zeroCells171,f0,bB.size,bB.H,bB.A,bB.v⟩⟩;have x:bG (∀W' o v,Tw (w.heap.size+1+1+1) (w.heap.size+1+1) W0 W'->#[bw.int dr p.ver,p.par,js Z p.S.length N,js a2 p.P.length Q,js a6 p.G.length c3,js a4 p.R.length c4][o]? =bt v->jc W' w.heap.size o v):=fun W' o v b6 h=>(Mu W' _ o _ _ _ ((b6.block _ (by omega) (by omega) (by omega)).trans e8)).trans h;have R:bG (∀W' o v,Tw (w.heap.size+1+1+1) (w.heap.size+1+1) W0 W'->#[bw.slice b1 st.tks.length d1,js b2 st.sws.length d2,js b3 st.lks.length d3][o]? =bt v->jc W' (w.heap.size+1) o v):=fun W' o v b6 h=>(Mu W' _ o _ _ _ ((b6.block _ (by omega) (by omega) (by omega)).trans e9)).trans h;have j4:bG (∀W',jb W0 W'->jc W' (w.heap.size+1+1+1+1) 0 (.func (.func 283) #[] #[])):=fun W' G=>(Mu W' _ 0 _ _ _ ((G.block _ (by omega)).trans f2)).trans rfl;have n2:=hI e7;clear hW e8 e9 f0 f1 f2;have B:=R W0 0 _ (Tw.refl _ _ _) rfl;have C:=R W0 1 _ (Tw.refl _ _ _) rfl;have E:=R W0 2 _ (Tw.refl _ _ _) rfl;have P:=x W0 2 _ (Tw.refl _ _ _) rfl;have y:=x W0 3 _ (Tw.refl _ _ _) rfl;have z:=x W0 5 _ (Tw.refl _ _ _) rfl;have n3:w.heap.size+1+1+1+1<W0.heap.size:=by omega
 clear e7;go_wp2_with fail;refine(H8 W0 K0).mono ?_;rintro e w1 ⟨rfl,l⟩;have b7:=hI l;have B:=aP l B;have C:=aP l C;have E:=aP l E;have P:=aP l P;have y:=aP l y;have z:=aP l z;have K1:=jh K0 l;clear l H8;by_cases T:iN pB st.tks p.S
 ·rw[Ni T];have j5:=hI T;clear T;go_wp2_with fail;refine(H9 w1 _ K1 (j4 _ b7)).mono ?_;rintro e w2 ⟨rfl,A⟩;have f3:=jh b7 A;have B:=aP A B;have C:=aP A C;have E:=aP A E;have P:=aP A P;have y:=aP A y;have z:=aP A z;have K2:=jh K1 A;clear A H9;by_cases q2:iN oI st.sws p.P
  ·rw[Ni q2];have f4:=hI q2;clear q2;go_wp2_with fail;refine(b0 w2 K2).mono ?_;rintro e w3 ⟨rfl,b8⟩;have H3:=jh f3 b8;have K3:=jh K2 b8;clear b8 b0;by_cases q3:iN oV st.lks p.R
   ·rw[Ni q3];have b9:=hI q3;have U:bG (Tw (w.heap.size+1+1+1) (w.heap.size+1+1) W0 w3):=Tw.of_below H3;have p0:=x w3 0 _ U rfl;have p1:=x w3 1 _ U rfl;have P:=x w3 2 _ U rfl;have y:=x w3 3 _ U rfl;have p2:=x w3 4 _ U rfl;have z:=x w3 5 _ U rfl;clear q3 B C E;go_wp2_with fail;refine(e6 w3 K3).mono ?_;rintro e w4 ⟨c0,b4⟩;have H4:=jh H3 c0;have K4:=jh K3 c0;have f5:bG (Tw (w.heap.size+1+1+1) (w.heap.size+1+1) W0 w4):=Tw.of_below H4;clear c0 e6 p0 p1 P y p2 z H3;rcases b4 with⟨i5,_⟩ | ⟨i5,c1,_⟩ | ⟨i5,c1,v1,v2,rfl,j6,j7⟩
    ·exact cv H2.o.1 i5
    ·exact cv H2.o.2.1 c1
    clear i5 c1 j7;obtain⟨V,J,rfl,f6⟩:=j6;have j8:=hI f6;clear f6;have g0:=HG0.below H4;have n4:=Nl n3 H4.size;have x1:=g0.row.ways;have f7:=g0.row.frozen 200;have f8:=hI g0;clear g0;have j9:= @run_makeMap prog;have k0:bG (GI W0.heap.size W0 w4 (w.heap.size+1+1+1) (w.heap.size+1+1) w4.heap.size (w4.heap.size+1) (js V p.R.length J) ⟨fun _=>0,fun _=>0,aW⟩ 0 (fun _=>0) (((w4.setCell ⟨w.heap.size+1+1,200,bn⟩ (js V p.R.length J)).alloc (.map #[] 0)).alloc (cO #[.map (bt w4.heap.size)] 357))):=z1q f5 f8 (by omega);go_upto_region 6 with fail;generalize((w4.setCell ⟨w.heap.size+1+1,200,bn⟩ (js V p.R.length J)).alloc (.map #[] 0)).alloc (cO #[.map (bt w4.heap.size)] 357)=W5 at *;have i6:w.heap.size+1+1+1<W0.heap.size:=(by omega);have i7:w.heap.size+1+1<W0.heap.size:=(by omega);have k1:w.heap.size<=w.heap.size+1+1:=(by omega);have l:w.heap.size<=w.heap.size+1+1+1:=(by omega);have c2:bG (∀W',Tw (w.heap.size+1+1+1) (w.heap.size+1+1) W0 W'->jb w W'):=fun W' b6=>K0.trans (b6.below l k1 K0.size);have c5:=hI (z1j H2 f4);have s1:=R W5 1 _ k0.tw rfl;clear x1 f7 n4 j9 f5 K4 K3 K2 K1 H4 f8;go_wp2_with fail;go_loopg [47] st.sws.length (fun g j wr=> ∃k:av,k<=st.sws.length/\g=st.sws.length-k/\j=cW dr k/\GI W0.heap.size W0 w4 (w.heap.size+1+1+1) (w.heap.size+1+1) w4.heap.size (w4.heap.size+1) (js V p.R.length J) ⟨fun _=>0,fun _=>0,aW⟩ k (rQ st.sws k) wr)
    ·exact⟨0,by omega,by omega,rfl,by rw[z1k];exact k0⟩
    obtain⟨k,n5,rfl,rfl,X⟩:=hrel;obtain⟨b5,rfl⟩: ∃b5:aj,b5=wr:=⟨_,rfl⟩;have n:=hI X;have x0:=X.mc;have l0:=My _ _ x0;clear X s1 k0;by_cases G9:k<st.sws.length
    ·have a7:=bL G9;obtain⟨b,off,rfl,r0,r1,r2⟩:=(j2 _ (c2 _ n.tw)).sw G9;have n6:=aQ k;have N:=aN G9;have f9:bG (GI W0.heap.size W0 w4 (w.heap.size+1+1+1) (w.heap.size+1+1) w4.heap.size (w4.heap.size+1) (js V p.R.length J) ⟨fun _=>0,fun _=>0,aW⟩ k (rQ st.sws k) (b5.alloc (cO #[st.sws[k].id,st.sws[k].lie,st.sws[k].call] 108))):=n.below rfl aR;have k2:k<maxLen:=by unfold maxLen;omega
     have k3:bG ((Lit.int dr st.sws[k].id).wf=bl):=by
      have:=c5.at_ k G9;exact LK (by omega) (by omega)
     have k4:bG ((Lit.int dr st.sws[k].call).wf=bl):=by
      have:=c5.at_ k G9;exact LK (by omega) (by omega)
     have k5:=hI (z1m c5 G9);obtain⟨D,hb,ho,g1⟩:=f9.mp;have k6:=hI hb;have k7:=hI ho;have k8:=hI g1;clear hb ho g1;go_wp2_with (at_mapUpdate;refine wpList_mapUpdate_own _ rfl _ _ _ 357 rfl 3 3 VQ underlying357 _ w4.heap.size k D rfl k6 k2 _ _ _ rfl rfl (keyOf_int_mk underlying3 k3) _ [] (plainElem_int underlying3 k4) ?_;intro w1 c6 a8);have a0:=f9.grown rfl i6 i7 (z1o k7 k8 c6) a8;rw[<-k5.o]at a0;go_roundg (st.sws.length-(k+1))
     ·go_light;exact⟨k+1,by omega,by omega,by go_num,a0⟩
     go_light;omega
    obtain rfl:k=st.sws.length:=(by omega);have a7:=bZ G9;have X:=n.o;rw[z1l]at X;have a0:=X.setR rfl i6 i7 (by omega) bl;have c7:bG (GI W0.heap.size W0 w4 (w.heap.size+1+1+1) (w.heap.size+1+1) w4.heap.size (w4.heap.size+1) (js V p.R.length J) (jO p st 0) st.sws.length (iJ st.sws) (b5.setCell ⟨w.heap.size+1+1+1,0,bn⟩ (db bl))):=a0;have y0:jc b5 (w.heap.size+1+1+1) 0 (db aW):=jr X.gr.ok;have y1:b5.frozen? ⟨w.heap.size+1+1+1,0,bn⟩=aW:=(by simp[aj.frozen?,X.gr.ok]);have s2:=R b5 2 _ X.tw rfl;clear X a0 n x0 l0;go_upto_region 12 with fail;generalize b5.setCell ⟨w.heap.size+1+1+1,0,bn⟩ (db bl)=W6 at *;have s2:=R W6 2 _ c7.tw rfl;clear G9 a7;go_wp2_with fail;go_loopg [60] st.lks.length (fun g j wr=> ∃k:av,k<=st.lks.length/\g=st.lks.length-k/\j=cW dr k/\GI W0.heap.size W0 w4 (w.heap.size+1+1+1) (w.heap.size+1+1) w4.heap.size (w4.heap.size+1) (js V p.R.length J) (jO p st k) st.sws.length (iJ st.sws) wr)
    ·exact⟨0,by omega,by omega,rfl,c7⟩
    obtain⟨k,n5,rfl,rfl,X⟩:=hrel;obtain⟨K,rfl⟩: ∃K:aj,K=wr:=⟨_,rfl⟩;have n:=hI X;clear X s2 c7;by_cases G9:k<st.lks.length
    ·have a7:=bL G9;obtain⟨b,off,rfl,r0,r1,r2,r3⟩:=(j3 _ (c2 _ n.tw)).lk G9;have a1:k<p.R.length:=(by have:=b9.1;omega);have n6:=aQ k;have N:=aN G9;have Q:=aN a1;go_upto_region 15 with fail;generalize c8:K.alloc _=W1;have g2:=jG c8;have d0:=jA c8;have H5:=hI (n.below rfl g2);have g3:=hI d0;have n9:=n.tw.size;obtain⟨ap,k9,aa,l2,l3,ca,a9⟩:=j8.wyAt (i:=k) (by rw[Pn];exact a1);rw[Gg]at a9;have d4:=hI a9;have L:=hI (LJ H2 a1);have l4:=hI (z1n p st k a1 G9);have l5:bG (0<=st.lks[k].gone/\st.lks[k].gone<(cP p p.R[k]).A.length):=z1h (b9.2 k G9 a1 G9).2 L.p1;generalize cP p p.R[k]=Y at *;obtain⟨t0,t1,t2,t3⟩:=sX d0;obtain⟨bb,of,rfl,x1,f7,x2,x3⟩:=(a9.same H5.sm).cells;have t4:=H5.gr.row.ways;clear a9 c8 g2 d0 r0 r1 r2 r3
     go_still_tail 7,(by kernel_rfl)
     change wpList _ _ _ _ _ W1.drew;generalize g4:W1.drew=W8;have d5:jb W1 W8:=(by rw[<-g4];exact(Nb _ _).drew);have H6:=hI (H5.below rfl d5);have d6:=jm d5 g3;have d7:=hI d6
     have HCL:bG (Calls prog 291 #[cZ #[js ap Y.A.length l2,js k9 Y.O.length l3,js aa Y.asks.length ca,Y.near],cZ #[st.lks[k].id,cW .u8 st.lks[k].ph,st.lks[k].gone,st.lks[k].left],.func (.func 292) #[] #[jp (w.heap.size+1+1+1) 0,jp (w.heap.size+1+1) 0,jp K.heap.size 0]] W8 (CZ W8 (w.heap.size+1+1+1) (w.heap.size+1+1) (jq bb of p.R.length J) (lN st.lks[k].id (lC Y st.lks[k]) (jO p st k)))):=by
      have a3:=d4.same H6.sm;exact z1f _ _ _ (jO p st k) _ Y st.lks[k] ap k9 l2 l3 _ W8 H6.gr ((Mu W8 _ 0 _ _ _ d6).trans rfl) (by omega) (by omega) (by omega) a3.A a3.O L.p6 L.p1 a3.cap L.o2 L.S l5
     clear g4 d5 d6 t0 t1 t2 t3 t4 x1 f7 x2 x3;go_wp2_with fail;refine HCL.mono ?_;rintro e w9 ⟨rfl,g5,d8⟩;have H7:=hI (H6.post rfl i6 i7 g5 d8);have d9:=(d8.block _ (aD d7) (by omega) (by omega)).trans d7;have l6:=hI d9;obtain⟨t0,t1,t2,t3⟩:=sX d9;obtain⟨n7,o0,l7,x1,f7,x2,x3⟩:=(d4.same H7.sm).cells;cases l7;have t4:=H7.gr.row.ways;generalize l8:lN st.lks[k].id (lC Y st.lks[k]) (jO p st k)=m6 at *;clear l8 g5 d8 d9 HCL d7 g3 H6 H5;go_upto_region 16 with fail
     go_still_tail 7,(by kernel_rfl)
     change wpList _ _ _ _ _ w9.drew;generalize g8:w9.drew=i8;have g9:jb w9 i8:=(by rw[<-g8];exact(Nb _ _).drew);have M:=hI (H7.below rfl g9)
     have i0:bG (Calls prog 293 #[cZ #[js ap Y.A.length l2,js k9 Y.O.length l3,js aa Y.asks.length ca,Y.near],cZ #[st.lks[k].id,cW .u8 st.lks[k].ph,st.lks[k].gone,st.lks[k].left],.func (.func 294) #[] #[jp (w.heap.size+1+1+1) 0,jp (w4.heap.size+1) 0,jp (w.heap.size+1+1) 0]] i8 (CZ i8 (w.heap.size+1+1+1) (w.heap.size+1+1) (jq bb of p.R.length J) (lK (iJ st.sws) (mG Y st.lks[k]) m6))):=by
      have l1:=M.lm;exact z1e _ _ _ _ _ _ m6 _ Y st.lks[k] _ _ aa ca i8 M.gr M.mc M.mp L.o.asks (by omega) (by omega) (by omega) (fun W' b6=>(d4.same (M.tws b6)).asks) L.len
     clear g8 g9 t0 t1 t2 t3 t4 x1 f7 x2 x3 l6 H7;go_wp2_with fail;refine i0.mono ?_;rintro e o1 ⟨rfl,i1,i2⟩;have e0:=M.post rfl i6 i7 i1 i2;rw[<-l4.o]at e0;have l9:=hI e0;clear i1 i2 e0 i0 M;go_wp2_with fail;go_roundg (st.lks.length-(k+1))
     ·go_light;exact⟨k+1,by omega,by omega,by go_num,l9⟩
     go_light;omega
    obtain rfl:k=st.lks.length:=(by omega);have a7:=bZ G9;obtain⟨cur,a5,r⟩:=n.gr.row.arr;have F:=hI a5;have HGA:=hI r;have H:=hI n.o.gr.ok;have m0:=hI (c2 _ n.tw);clear a5 r;go_upto_region 18 with fail;change Code.wp _ _ _ {tmps:=#[cZ #[p.ver,p.par,js Z p.S.length N,js a2 p.P.length Q,js a6 p.G.length c3,js a4 p.R.length c4],cZ #[js b1 st.tks.length d1,js b2 st.sws.length d2,js b3 st.lks.length d3],cY (bt ⟨w.heap.size,0,bn⟩),cY (bt ⟨w.heap.size+1,0,bn⟩),cY (bt ⟨w.heap.size+1+1,0,bn⟩),cY (bt ⟨w.heap.size+1+1+1,0,bn⟩),cY (bt ⟨w.heap.size+1+1+1+1,0,bn⟩),cY (bt ⟨w4.heap.size+1,0,bn⟩),bE,u9,u10,u11,cY (bt ⟨w.heap.size+1,0,bn⟩),cJ b1 st.tks.length d1,cY (bt ⟨w.heap.size,2,bn⟩),cJ Z p.S.length N,db bl,db aW,db aW,cY (bt ⟨w.heap.size+1,1,bn⟩),cJ b2 st.sws.length d2,cY (bt ⟨w.heap.size,3,bn⟩),cJ a2 p.P.length Q,.func (.func 287) #[] #[jp (w.heap.size+1+1+1+1) 0],db bl,db aW,db aW,db aW,cY (bt ⟨w.heap.size+1,2,bn⟩),cJ b3 st.lks.length d3,cY (bt ⟨w.heap.size,5,bn⟩),cJ a4 p.R.length c4,db bl,db aW,db aW,bE,dw #[js V p.R.length J,v2,cW dr 0],cZ #[p.ver,p.par,js Z p.S.length N,js a2 p.P.length Q,js a6 p.G.length c3,js a4 p.R.length c4],dw #[js V p.R.length J,v2,cW dr 0],cJ V p.R.length J,v2,cW dr 0,cY (bt ⟨w.heap.size+1+1,200,bn⟩),.map (bt w4.heap.size),cY (bt ⟨w.heap.size+1,1,bn⟩),cJ b2 st.sws.length d2,cW dr (st.sws.length:ar),cW dr (st.sws.length:ar),db aW,u49,u50,u51,u52,u53,u54,u55,u56,cY (bt ⟨w.heap.size+1,2,bn⟩),cJ b3 st.lks.length d3,cW dr (st.lks.length:ar),cW dr (st.lks.length:ar),db aW,u62,u63,u64,u65,u66,u67,u68,u69,u70,u71,u72,u73,u74,u75,u76,u77,u78,u79,u80,u81,bE,bE],defers:=[]} K
    refine tN (by kernel_rfl) (by kernel_rfl) (fun f a W9=> ∃s0 s83:bw,a={tmps:=#[cZ #[p.ver,p.par,js Z p.S.length N,js a2 p.P.length Q,js a6 p.G.length c3,js a4 p.R.length c4],cZ #[js b1 st.tks.length d1,js b2 st.sws.length d2,js b3 st.lks.length d3],cY (bt ⟨w.heap.size,0,bn⟩),cY (bt ⟨w.heap.size+1,0,bn⟩),cY (bt ⟨w.heap.size+1+1,0,bn⟩),cY (bt ⟨w.heap.size+1+1+1,0,bn⟩),cY (bt ⟨w.heap.size+1+1+1+1,0,bn⟩),cY (bt ⟨w4.heap.size+1,0,bn⟩),bE,u9,u10,u11,cY (bt ⟨w.heap.size+1,0,bn⟩),cJ b1 st.tks.length d1,cY (bt ⟨w.heap.size,2,bn⟩),cJ Z p.S.length N,db bl,db aW,db aW,cY (bt ⟨w.heap.size+1,1,bn⟩),cJ b2 st.sws.length d2,cY (bt ⟨w.heap.size,3,bn⟩),cJ a2 p.P.length Q,.func (.func 287) #[] #[jp (w.heap.size+1+1+1+1) 0],db bl,db aW,db aW,db aW,cY (bt ⟨w.heap.size+1,2,bn⟩),cJ b3 st.lks.length d3,cY (bt ⟨w.heap.size,5,bn⟩),cJ a4 p.R.length c4,db bl,db aW,db aW,bE,dw #[js V p.R.length J,v2,cW dr 0],cZ #[p.ver,p.par,js Z p.S.length N,js a2 p.P.length Q,js a6 p.G.length c3,js a4 p.R.length c4],dw #[js V p.R.length J,v2,cW dr 0],cJ V p.R.length J,v2,cW dr 0,cY (bt ⟨w.heap.size+1+1,200,bn⟩),.map (bt w4.heap.size),cY (bt ⟨w.heap.size+1,1,bn⟩),cJ b2 st.sws.length d2,cW dr (st.sws.length:ar),cW dr (st.sws.length:ar),db aW,u49,u50,u51,u52,u53,u54,u55,u56,cY (bt ⟨w.heap.size+1,2,bn⟩),cJ b3 st.lks.length d3,cW dr (st.lks.length:ar),cW dr (st.lks.length:ar),db aW,u62,u63,u64,u65,u66,u67,u68,u69,u70,u71,u72,u73,u74,u75,u76,u77,u78,u79,u80,u81,s0,s83],defers:=[]}/\R18 K cur (jO p st st.lks.length).ok (f 0) (f 1) s0 s83 W9) ?_ ?_ ?_
    ·exact⟨_,_,rfl,⟨rfl,rfl,rfl,rfl,by simp,by simp⟩⟩
    ·intro i o e1 f a W9 e2 hd n8;obtain⟨s0,s83,rfl,u⟩:=e2;have q0:jk W9 (w.heap.size+1+1) cur 171:=(by rw[u.heap];exact F);have T:jk W9 (w.heap.size+1+1+1) #[db (jO p st st.lks.length).ok] 4:=(by rw[u.heap];exact H);rcases i with _ | _ | _ | _ | i
     ·refine z5a rfl rfl (dk 4) rfl (w.heap.size+1+1) rfl 171 cur (0,0) q0 (by rw[oW,HGA.o.size]) ?_;exact⟨_,_,rfl,{u with h0:=fun _=>rfl}⟩
     ·simp at e1;subst e1;have c9:=ji 0 T;simp[wpOp,go_sem,c9];exact .inl ⟨_,_,⟨rfl,rfl⟩,{u with h1:=fun _=>rfl}⟩
     ·simp at e1;subst e1;obtain rfl:=u.h0 (hd ⟨0,.data⟩ (by simp) (by rfl));refine kG rfl rfl 171 (dk 4) (dk 82) rfl (w.heap.size+1+1) cur rfl rfl 171 cur q0 (by rw[oW,HGA.o.size]) rfl HGA.one ?_;rw[vW q0];exact⟨_,_,rfl,{u with h0:=u.h0}⟩
     ·simp at e1;subst e1;obtain rfl:=u.h1 (hd ⟨1,.data⟩ (by simp) (by rfl));have c9:=jz 0 T;have fz:=ji 0 T;simp[wpOp,go_sem,c9,fz];have e3:=z49 T;rw[e3];exact .inl ⟨_,_,⟨rfl,rfl⟩,{u with h1:=u.h1}⟩
     simp at e1
    intro f a W9 e2 b4;obtain⟨s0,s83,rfl,u⟩:=e2;have m1:jb K W9:=⟨u.os,u.tape,u.output,by rw[u.heap];exact Mv _,fun k _=>by rw[u.heap]⟩;have q0:jk W9 (w.heap.size+1+1) cur 171:=(by rw[u.heap];exact F);have T:=ji 0 (by rw[u.heap];exact H);go_wp2_with fail;refine Nh (v:=dw #[cZ cur,db (jO p st st.lks.length).ok]) (BM rfl _ _ (w.heap.size+1+1) (w.heap.size+1+1+1) cur _ rfl rfl (uB q0 HGA.size) T) rfl ⟨jo m0 m1,cur,_,_,_,_,_,_,rfl,HGA,?_⟩;cases hok:(jO p st st.lks.length).ok with
    | true=>exact .inr ⟨rfl,H0.2 ⟨⟨j5,f4,b9⟩,hok⟩,rfl,rfl⟩
    | false=>exact .inl ⟨rfl,fun h=>by have:=(H0.1 h).2;unfold sY at this;rw[hok]at this;cases this⟩
   rw[Mw q3];have H1:bG (¬nR p st):=fun h=>q3 (H0.1 h).1.2.2;obtain⟨WX,rfl⟩: ∃WX,WX=w3:=⟨_,rfl⟩;have HBX:=H3;clear q3 B C E P y z;go_upto_region 3 with fail;have d:=HBX.o;have c:=HG0.below d;obtain⟨cur,a5,r⟩:=c.row.arr;have F:=hI a5;have HGA:=hI r;have H:=hI c.ok;have y0:jc WX (w.heap.size+1+1+1) 0 (db aW):=jr c.ok;have y1:=jz 0 H;have i3:=jh K0 HBX;clear d c a5 r;go_step;refine Dx rfl 171 (dk 4) rfl (w.heap.size+1+1) rfl 171 cur (0,0) _ F underlying171 rfl (by rw[oW,HGA.o.size]) ?_;simp[cq];refine bP rfl 171 (dk 4) (dk 35) rfl (w.heap.size+1+1) cur cur 171 rfl rfl F (by rw[oW,HGA.o.size]) rfl HGA.one ?_;rw[vW F.o];go_wp2_with fail;refine Nh (v:=dw #[cZ cur,db aW]) (BM rfl _ _ (w.heap.size+1+1) (w.heap.size+1+1+1) cur aW rfl rfl (uB ((Ny _ _ _ _ (by simp)).trans F) HGA.size) (JH H)) rfl ⟨i3.setCell (by show w.heap.size<=w.heap.size+1+1+1;omega) _,cur,_,_,_,_,_,aW,rfl,HGA,.inl ⟨rfl,H1⟩⟩
  rw[Mw q2];have H1:bG (¬nR p st):=fun h=>q2 (H0.1 h).1.2.1;obtain⟨WX,rfl⟩: ∃WX,WX=w2:=⟨_,rfl⟩;have HBX:=f3;clear q2 B C E P y z;go_upto_region 3 with fail;have d:=HBX.o;have c:=HG0.below d;obtain⟨cur,a5,r⟩:=c.row.arr;have F:=hI a5;have HGA:=hI r;have H:=hI c.ok;have y0:jc WX (w.heap.size+1+1+1) 0 (db aW):=jr c.ok;have y1:=jz 0 H;have i3:=jh K0 HBX;clear d c a5 r;go_step;refine Dx rfl 171 (dk 4) rfl (w.heap.size+1+1) rfl 171 cur (0,0) _ F underlying171 rfl (by rw[oW,HGA.o.size]) ?_;simp[cq];refine bP rfl 171 (dk 4) (dk 35) rfl (w.heap.size+1+1) cur cur 171 rfl rfl F (by rw[oW,HGA.o.size]) rfl HGA.one ?_;rw[vW F.o];go_wp2_with fail;refine Nh (v:=dw #[cZ cur,db aW]) (BM rfl _ _ (w.heap.size+1+1) (w.heap.size+1+1+1) cur aW rfl rfl (uB ((Ny _ _ _ _ (by simp)).trans F) HGA.size) (JH H)) rfl ⟨i3.setCell (by show w.heap.size<=w.heap.size+1+1+1;omega) _,cur,_,_,_,_,_,aW,rfl,HGA,.inl ⟨rfl,H1⟩⟩
 rw[Mw T];have H1:bG (¬nR p st):=fun h=>T (H0.1 h).1.1;obtain⟨WX,rfl⟩: ∃WX,WX=w1:=⟨_,rfl⟩;have HBX:=b7;clear T B C E P y z;go_upto_region 3 with fail;have d:=HBX.o;have c:=HG0.below d;obtain⟨cur,a5,r⟩:=c.row.arr;have F:=hI a5;have HGA:=hI r;have H:=hI c.ok;have y0:jc WX (w.heap.size+1+1+1) 0 (db aW):=jr c.ok;have y1:=jz 0 H
 have i3:=jh K0 HBX;clear d c a5 r;go_step;refine Dx rfl 171 (dk 4) rfl (w.heap.size+1+1) rfl 171 cur (0,0) _ F underlying171 rfl (by rw[oW,HGA.o.size]) ?_;simp[cq];refine bP rfl 171 (dk 4) (dk 35) rfl (w.heap.size+1+1) cur cur 171 rfl rfl F (by rw[oW,HGA.o.size]) rfl HGA.one ?_;rw[vW F.o];go_wp2_with fail;refine Nh (v:=dw #[cZ cur,db aW]) (BM rfl _ _ (w.heap.size+1+1) (w.heap.size+1+1+1) cur aW rfl rfl (uB ((Ny _ _ _ _ (by simp)).trans F) HGA.size) (JH H)) rfl ⟨i3.setCell (by show w.heap.size<=w.heap.size+1+1+1;omega) _,cur,_,_,_,_,_,aW,rfl,HGA,.inl ⟨rfl,H1⟩⟩
structure RG (w0:aj) (v:av->bw) (ia is:av) (Z C:aL bw) (T:bT) (f:av->aU) (s:av->bw) (W:aj):Prop where
 bel:jb w0 W
 val: ∀i,i≠ia->f i=bl->s i=v i
 ord:f is=bl->f ia=bl
 al:f ia=bl-> ∃g,s ia=cY (bt ⟨g,0,bn⟩)/\w0.heap.size<=g/\jk W g (bif f is then C else Z) T
section
variable {w0:aj}{v:av->bw}{ia is:av}{Z C:aL bw}{T:bT}{f:av->aU}{s:av->bw}{W W':aj}
def RG.start (H:jb w0 W):RG w0 v ia is Z C T (fun _=>aW) s W:=⟨H,(fun _ _ (h:aW=bl)=>aU.noConfusion h),(fun(h:aW=bl)=>aU.noConfusion h),(fun(h:aW=bl)=>aU.noConfusion h)⟩
def RG.grow (h:RG w0 v ia is Z C T f s W) (H:jb W W'):RG w0 v ia is Z C T f s W':=
 ⟨jt h.bel H,h.val,h.ord,fun k=>by
  obtain⟨g,e,b,a⟩:=h.al k
  exact⟨g,e,b,(H.block g (aD a)).trans a⟩⟩
def RG.step (h:RG w0 v ia is Z C T f s W) (i:av) (h1:i≠ia) (h2:i≠is):RG w0 v ia is Z C T (fun j=>ab (j=i) || f j) (fun j=>if j=i then v i else s j) W:=by
 have e1:(ab (ia=i) || f ia)=f ia:=by rw[Mw (fun e=>h1 e.symm)];rfl
 have e2:(ab (is=i) || f is)=f is:=Zn
 refine⟨h.bel,fun j hj H=> ?_,fun H=> ?_,fun H=> ?_⟩
 ·by_cases e:j=i
  ·exact Ec
  simp only[Nm e];rw[Mw e,Sv]at H;exact h.val j hj H
 ·rw[e2]at H;rw[e1];exact h.ord H
 rw[e1]at H;obtain⟨g,e,a,b⟩:=h.al H;refine⟨g,(Nm (fun e=>h1 e.symm)).trans e,a,?_⟩;rw[e2];exact b
def RG.alloc (h:RG w0 v ia is Z C T f s W) (h2:ia≠is) (H:f ia=aW):RG w0 v ia is Z C T (fun j=>ab (j=ia) || f j) (fun j=>if j=ia then cY (bt ⟨W,0,bn⟩)else s j) (W.alloc (cO Z T)):=by
 have e2:(ab (is=ia) || f is)=f is:=Zn
 have b:f is=aW:=by
  cases k:f is with
  | false=>rfl
  | true=>rw[h.ord k]at H;cases H
 refine⟨h.bel.alloc h.bel.size _,fun j hj a=> ?_,fun _=>by simp,fun _=>⟨W,Np rfl,h.bel.size,?_⟩⟩
 ·simp only[Nm hj];rw[Mw hj,Sv]at a;exact h.val j hj a
 rw[e2,b];exact Ud
def RG.at (h:RG w0 v ia is Z C T f s W) (b:f ia=bl) (H:f is=aW): ∃g,s ia=cY (bt ⟨g,0,bn⟩)/\w0.heap.size<=g/\jk W g Z T:=by
 obtain⟨g,e,c,a⟩:=h.al b;rw[H]at a;exact⟨g,e,c,a⟩
def RG.store (h:RG w0 v ia is Z C T f s W) (H:ia≠is)(b:f ia=bl) (e:s ia=cY (bt ⟨g,0,bn⟩)) (c:w0.heap.size<=g) (d:jk W g Z T):
  RG w0 v ia is Z C T (fun j=>ab (j=is) || f j) (fun j=>if j=is then v is else s j) (W.setRow g C):=by
 have i:cB w0 W (W.setRow g C):=⟨rfl,rfl,rfl,Qx,fun k l=>by
  simp only[aj.setRow,Nk]
  rw[Nm ed]⟩
 refine⟨h.bel.trans i,fun j hj a=> ?_,fun _=> ?_,fun _=>⟨g,?_,c,?_⟩⟩
 ·by_cases e:j=is
  ·exact Ec
  simp only[Nm e];rw[Mw e,Sv]at a;exact h.val j hj a
 ·rw[b,Gd]
 ·exact(Nm H).trans e
 simp[aj.setRow,Nk,d]
def RG.done (h:RG w0 v ia is Z C T f s W) (a:f ia=bl) (b:f is=bl): ∃g,s ia=cY (bt ⟨g,0,bn⟩)/\w0.heap.size<=g/\jk W g C T:=by
 obtain⟨g,e,c,H⟩:=h.al a;rw[b]at H;exact⟨g,e,c,H⟩
end
def rK (o:ax av):ar:=match o with | some e=>(e:ar) | none=> -1
def z5c {a:ar}{k:av}(H:k<(bO p r i).ends.length) (h1:kZ p r i a k=bl) (h2: ∀e,e<k->kZ p r i a e=aW):rK (jL p r i a)=k:=by
 unfold jL;rw[kr H h1 h2];rfl
def z5d {a:ar}(h2: ∀e,e<(bO p r i).ends.length->kZ p r i a e=aW):rK (jL p r i a)= -1:=by
 unfold jL;rw[Fq.2]
 ·rfl
 intro e he;rw[h2 e (aq.mem_range.1 he)];simp
def BJ {l:aq aF}{m:av}(a:m<l.length) (h:dA (fun x=>ab (x.id=n)) l=(m:ar)):dW aF.id lE l n=l[m]:=by
 rcases kF (fun x:aF=>ab (x.id=n)) l with⟨e,_⟩ | ⟨k,H,e,h1,h2⟩
 ·rw[e]at h;omega
 have:k=m:=by rw[e]at h;omega
 subst this;exact(tF H h1 h2).1
theorem z5e (p:Pl) (s q gg a4:bw) (r:Rt) (c5 c6 c7:bw) (a5:ax bR) (d7 n:av) (a:ar) (w:aj) (o:bN w s q gg a4 p) (c3:p.Fit) (a6:dY w c5 c6 c7 r) (hl:IL w a5 (aI r).length (aI r)) (a7:n<(aI r).length) (c4:(aI r).length<=1000)
  (a8:dX aF.id p.S (aI r)[n]=bl) (O:(bO p r n).ends.length<=3) (ho:n+1≠r.A.length->n+1<(aI r).length) (a9:r.A.length<=17592186044416):
  jW 313 #[aT p s q gg a4,cZ #[r.id,r.E,r.X,c5,c6,c7,r.T],js a5 (aI r).length d7,n,a] w (wR w (rK (jL p r n a))):=by
 obtain⟨m,b0,hb⟩:=dF.1 a8
 have u:bO p r n=p.S[m]:=by
  unfold bO;rw[Na,Nf a7];exact BJ b0 hb
 have G:bG (∀k,k<p.S[m].ends.length->kZ p r n a k=bl->(∀e,e<k->kZ p r n a e=aW)->rK (jL p r n a)=k):=fun k d8 h1 h2=>z5c (by rw[u];exact d8) h1 h2;have H1:bG ((∀e,e<p.S[m].ends.length->kZ p r n a e=aW)->rK (jL p r n a)= -1):=fun h2=>z5d (by rw[u];exact h2)
 have H2:bG (∀e:av,kZ p r n a e=(ab (0<=gS p.S[m] a e)&&(if n+1=r.A.length then ab ((r.X=0/\(p.S[m].ends.getD e ⟨0,0⟩).tt=0)\/(r.X≠0/\fF p p.S[m].id e=r.X))else ab ((p.S[m].ends.getD e ⟨0,0⟩).tt=(aI r).getD (n+1) 0)))):=fun e=>by
  unfold kZ;rw[u]
 rw[u]at O;generalize rK (jL p r n a)=f7 at *;obtain⟨p1,f8,c8,rfl,ip⟩:=a6.A;obtain⟨o1,f9,o3,rfl,d9⟩:=a6.O;obtain rfl:=ip.len;obtain rfl:=d9.len;obtain⟨f1,f3,rfl,-⟩:=a6.fl;have H3:=hI fun b W c=>TZ p s q gg a4 p.S[m].id b W (o.below c) c3;obtain⟨b1,k1,rfl,h1⟩:=o.S;obtain⟨c9,k2,rfl,-⟩:=o.P;obtain⟨d2,k3,rfl,-⟩:=o.G;obtain⟨d3,k4,rfl,-⟩:=o.R;have Q:bG (∀W,jb w W->aB W 3 cU b1 k1 p.S):=fun W c=>h1.below gN c;have R:bG (∀W,jb w W->IL W a5 (aI r).length (aI r)):=fun W c=>hl.below c;have e0:=hI c3.S;have HV:=hI hb;have H4:=hI ho;generalize aI r=L at *;unfold aT at *;go_in;go_upto_region 1 with fail;generalize U:cj _ _=W0;have K0:=hI (eN U)
 have A:bG (jk W0 w #[p.ver,p.par,js b1 p.S k1,js c9 p.P k2,js d2 p.G k3,js d3 p.R k4] 28/\jk W0 (w+1) #[r.id,r.E,r.X,js p1 r.A c8,js o1 r.O o3,js f1 r.fl f3,r.T] 102):=by
  show _/\_;rw[<-U];exact⟨(Nv _ _ (by simp)).trans (Nc _ _),Do _ _ _⟩
 have B0:bG (∀W,jb W0 W->jk W w #[p.ver,p.par,js b1 p.S k1,js c9 p.P k2,js d2 p.G k3,js d3 p.R k4] 28/\jk W (w+1) #[r.id,r.E,r.X,js p1 r.A c8,js o1 r.O o3,js f1 r.fl f3,r.T] 102):=fun W c=>⟨(jm c A.1),(jm c A.2)⟩;have a3:bG (∀W,jb W0 W->jb w W):=fun W c=>jo K0 c;obtain⟨lb,lo,rfl,l0⟩:=(R _ K0).cell n a7;obtain⟨e1,e2,ea,ec,b2,v0,v1,v2,b3⟩:=(Q _ K0).sec b0;subst b2;have H5:bG (∀W,jb W0 W->aB W 2 fI ea ec p.S[m].ends):=fun W c=>b3.below lB c;have g0:=aQ n
 have g1:=aN a7
 have d0:=aQ m
 have d1:=aN b0
 have P:=ji 2 (A).1;have t0:=fun t:Gw W0=>t.cel P;have t1:=fun t:Gw W0=>t.cel l0;have t2:=fun t:Gw W0=>t.cel v0;have t3:=fun t:Gw W0=>t.cel v1;have t4:=fun t:Gw W0=>t.cel v2;refine zD [12] ?_;intro V0 hV;refine zB [0,1,2,3,4,5,6,7] hV ?_;have e4:=fun W (b4:jb W0 W)=>(tG (bt ⟨e1,e2,bn⟩) k1 p.S L[n] W (Q _ (a3 _ b4)) e0).mono fun e e5 h=>(⟨h.1.trans (by rw[HV.o]),h.2.symm⟩:e=cL (jV m)/\e5=W);refine zK 8 hV e4 ?_;refine zB [9,10] hV ?_;refine zA 11 12 80 #[jV 0,jV 0,jN] #[p.S[m].id,p.S[m].pt,js ea p.S[m].ends.length ec] (fun W b4=>jt hV b4) (fun g V e6 h1 b5=> ?_);have X:=jt hV h1;have e7:=Nj hV.size e6
 have b6:=Py;have d4:bG (jb W0 V):=X;have d5:bG (∀W,jb V W->jk W g #[p.S[m].id,p.S[m].pt,js ea p.S[m].ends.length ec] 80):=fun W c=>(jm c b5);have H6:bG (w+1<g):=by have:=aD A.2;show _<_;omega
 go_wp2;go_loopg [12] p.S[m].ends.length (fun e8 i wr=> ∃e:av,e<=p.S[m].ends.length/\e8=p.S[m].ends.length-e/\i= jV e/\jb V wr/\ ∀b7,b7<e->kZ p r n a b7=aW)
 ·exact⟨0,by omega,by omega,rfl,Nb _ _,fun j h=>by omega⟩
 obtain⟨e,he,rfl,rfl,c,b8⟩:=hrel;obtain⟨b9,rfl⟩: ∃b9:aj,b9=wr:=⟨_,rfl⟩;have l:=hI b8;have KO:=hI c;have Y:=jh d4 c;have K1:=hI (a3 _ Y);have E:=d5 _ c;have H7:=hI E;obtain⟨y1,e9,y2⟩:=fO (E);by_cases z:e<p.S[m].ends.length
 ·have c0:ab ((e:ar)<(p.S[m].ends.length:ar))=bl:=(by simp;omega);have f0:=O;go_wp2_with fail;refine(UA p.S[m] ea ec a e b9).mono ?_;rintro b7 w1 ⟨rfl,a0⟩;have K2:=jh KO a0;have I:=jh Y a0;have E:=d5 _ K2;have d6:=B0 _ I;obtain⟨y1,e9,y2⟩:=fO (E);obtain⟨pp0,p0,P,p2,p3,p4⟩:=dB (d6.1);obtain⟨y0,r1,r0,r2,r3,r4,r5⟩:=lU (d6.2);have l3:=Mt pp0;have l4:=Mt y0;have l5:=Mt y1;have H:=hI (H2 e);by_cases hl:gS p.S[m] a e<0
  ·have u1:ab (gS p.S[m] a e<0)=bl:=by simp[hl]
   have J:bG (kZ p r n a e=aW):=by
    show _=_;rw[H.o,Mw (show¬(0<=gS p.S[m] a e)by omega)];rfl
   go_wp2;go_roundg (p.S[m].ends.length-(e+1))
   ·go_light;refine⟨e+1,by omega,by omega,by go_num,K2,fun j h=> ?_⟩;by_cases hj:j=e
    ·subst hj;exact J
    exact l j (by omega)
   go_light;omega
  have u1:ab (gS p.S[m] a e<0)=aW:=(by simp;omega);have x:bG (ab (0<=gS p.S[m] a e)=bl):=(by show _=_;rw[Dr];omega);obtain⟨g3,o0,rfl,x0,x1⟩:=(H5 _ I).jn z;have x9:=My _ _ x0;have g4:(0:ar)<=(e:ar):=(by omega);have g5:(e:ar)<(p.S[m].ends.length:ar):=(by omega);have F:bG (p.S[m].ends.getD e ⟨0,0⟩=p.S[m].ends[e]):=(by show _=_;rw[Na,Nf z];rfl);have c1: ∀(d:av) (os:aL Obj),jb V (grow (cF w1 d) os):=fun d os=>K2.trans ((Nr w1 d os).mono K2.size);have y:=hI c1;have K:bG (∀W,jb V W->jb w W):=fun W c=>a3 _ (jo d4 c);have X0:=Ng x0;have P0:=Ng pp0;have P1:=Ng p0;have P2:=Ng P;have P3:=Ng p2;have P4:=Ng p3;have P5:=Ng p4;have Y0:=Ng y1;have Y1:=Ng y2;have R0:=Ng r0;generalize f2:p.S[m].ends[e]=N at *;by_cases o:n+1=r.A.length
  ·have u2:((n:ar)==(r.A:ar)-1)=bl:=(by rw[Da];omega);by_cases hx:r.X=0
   ·have f4:(r.X==0)=bl:=(by simp[hx]);have f5:(r.X != 0)=aW:=(by simp[hx]);by_cases h0:N.tt=0
    ·have e3:(N.tt==0)=bl:=by simp[h0]
     have a1:bG (kZ p r n a e=bl):=by
      show _=_;rw[H.o,x.o,Np o,F.o,Fa,Dr];exact .inl ⟨hx,h0⟩
     have HE:=hI (G e z a1 l);go_upto_region 7 with fail;refine Mz (by kernel_rfl) (by kernel_rfl) ?_
     repeat (go_big_quiet_step (fail))
     refine cl ?_;rintro _ ⟨⟨D,osq⟩,rfl⟩;go_wp2_with fail;go_ret;exact⟨dU HE.symm,K _ (y D osq)⟩
    have e3:(N.tt==0)=aW:=by simp[h0]
    have J:bG (kZ p r n a e=aW):=by
     show _=_;rw[H.o,x.o,Np o,F.o,Fa,Ns];rintro(⟨_,h⟩ | ⟨h,_⟩)
     ·exact h0 h
     exact h hx
    clear hx h0 o c1 x0;go_upto_region 7 with fail;refine Mz (by kernel_rfl) (by kernel_rfl) ?_
    repeat (go_big_quiet_step (fail))
    refine cl ?_;rintro _ ⟨⟨D,osq⟩,rfl⟩;go_wp2_with fail;go_roundg (p.S[m].ends.length-(e+1))
    ·go_light;refine⟨e+1,by omega,by omega,by go_num,y D osq,fun j h=> ?_⟩;by_cases hj:j=e
     ·subst hj;exact J
     exact l j (by omega)
    go_light;omega
   have f4:(r.X==0)=aW:=(by simp[hx]);have f5:(r.X != 0)=bl:=(by simp[hx]);have M:=fun(d:av) (os:aL Obj)=>Ps (H3 (e:ar) (grow (cF w1 d) os) (K _ (c1 d os)));by_cases h0:fF p p.S[m].id e=r.X
   ·have a1:bG (kZ p r n a e=bl):=by
     show _=_;rw[H.o,x.o,Np o,Fa,Dr];exact .inr ⟨hx,h0⟩
    have HE:=hI (G e z a1 l);rw[h0]at M;have e3:(r.X==r.X)=bl:=(by simp);have cC:=hI M;go_upto_region 7 with fail;refine Mz (by kernel_rfl) (by kernel_rfl) ?_
    repeat (go_big_quiet_step ((with_reducible exact cC.o _ _)))
    refine cl ?_;rintro _ ⟨⟨D,osq⟩,rfl⟩;go_wp2;go_ret;exact⟨dU HE.symm,K _ (y D osq)⟩
   have J:bG (kZ p r n a e=aW):=by
    show _=_;rw[H.o,x.o,Np o,Fa,Ns];rintro(⟨h,_⟩ | ⟨_,h⟩)
    ·exact hx h
    exact h0 h
   generalize fF p p.S[m].id e=f6 at *;have e3:(f6==r.X)=aW:=(by rw[Nd];exact h0);have cC:=hI M;go_upto_region 7 with fail;refine Mz (by kernel_rfl) (by kernel_rfl) ?_
   repeat (go_big_quiet_step ((with_reducible exact cC.o _ _)))
   refine cl ?_;rintro _ ⟨⟨D,osq⟩,rfl⟩;go_wp2;go_roundg (p.S[m].ends.length-(e+1))
   ·go_light;refine⟨e+1,by omega,by omega,by go_num,y D osq,fun j h=> ?_⟩;by_cases hj:j=e
    ·subst hj;exact J
    exact l j (by omega)
   go_light;omega
  have u2:((n:ar)==(r.A:ar)-1)=aW:=(by rw[Nd];omega);have a2:=H4 o;obtain⟨g6,o2,c2,z0⟩:=(R _ (a3 _ I)).cell (n+1) a2;cases c2;have Z0:=Ng z0;have g2:(0:ar)<=(n:ar)+1:=(by omega);have g7:(n:ar)+1<(L:ar):=(by omega);have g8:((n:ar)+1).toNat=n+1:=(by omega);have H0:bG (L.getD (n+1) 0=L[n+1]):=(by show _=_;rw[Na,Nf a2];rfl);by_cases h0:N.tt=L[n+1]
  ·have e3:(N.tt==L[n+1])=bl:=by rw[Da];exact h0
   have a1:bG (kZ p r n a e=bl):=by
    show _=_;rw[H.o,x.o,Nm o,F.o,H0.o,Fa,Dr];exact h0
   have HE:=hI (G e z a1 l);go_upto_region 9 with fail;refine Mz (by kernel_rfl) (by kernel_rfl) ?_
   repeat (go_big_quiet_step (fail))
   refine cl ?_;rintro _ ⟨⟨D,osq⟩,rfl⟩;go_wp2;go_ret;exact⟨dU HE.symm,K _ (y D osq)⟩
  have e3:(N.tt==L[n+1])=aW:=by rw[Nd];exact h0
  have J:bG (kZ p r n a e=aW):=by
   show _=_;rw[H.o,x.o,Nm o,F.o,H0.o,Fa,Ns];exact h0
  go_upto_region 9 with fail;refine Mz (by kernel_rfl) (by kernel_rfl) ?_
  repeat (go_big_quiet_step (fail))
  refine cl ?_;rintro _ ⟨⟨D,osq⟩,rfl⟩;go_wp2;go_roundg (p.S[m].ends.length-(e+1))
  ·go_light;refine⟨e+1,by omega,by omega,by go_num,y D osq,fun j h=> ?_⟩;by_cases hj:j=e
   ·subst hj;exact J
   exact l j (by omega)
  go_light;omega
 obtain rfl:e=p.S[m].ends.length:=(by omega);have c0:ab ((p.S[m].ends.length:ar)<(p.S[m].ends.length:ar))=aW:=(by simp);have HE:=hI (H1 l);go_wp2;go_ret;exact⟨dU HE.symm,K1⟩
structure mP (W:aj) (B:av) (v1:bw) (l1:aq ar) (v2:bw) (l2:aq ar):Prop where
 a:aA W B v1 l1
 b:aA W B v2 l2
 ap: ∀k,v1.ownBlock=bt k->v2.ownBlock=bt k->False
section
variable {W W':aj}{B:av}{v1 v2:bw}{l1 l2:aq ar}
def mP.swap (h:mP W B v1 l1 v2 l2):mP W B v2 l2 v1 l1:=⟨h.b,h.a,fun k e1 e2=>h.ap k e2 e1⟩
def mP.below (h:mP W B v1 l1 v2 l2) (H:jb W W'):mP W' B v1 l1 v2 l2:=⟨bU h.a H,bU h.b H,h.ap⟩
def mP.nil (W:aj) (B:av):mP W B (jN) [] (jN) []:=⟨Nw W B 3 1,Nw W B 3 1,fun k e=>by simp[bw.ownBlock]at e⟩
def mP.setRow (h:mP W B v1 l1 v2 l2)(e:g<B) (c:aL bw):mP (W.setRow g c) B v1 l1 v2 l2:=by
 have b: ∀k,B<=k->(W.setRow g c).heap[k]? =W.heap[k]? :=fun k i=>by
  simp only[aj.setRow,Nk];rw[Nm ed]
 have key: ∀v l,aA W B v l->aA (W.setRow g c) B v l:=fun v l h=>by
  refine⟨h.1,?_⟩;rcases h.2 with d | ⟨G,cap,cur,rfl,H,a,rest⟩
  ·exact .inl d
  exact .inr ⟨G,cap,cur,rfl,H,(b G H).trans a,rest⟩
 exact⟨key _ _ h.a,key _ _ h.b,h.ap⟩
def JG {rest:aq Oper}{o:Oper}{a:Act}(g:o.guard=bn) (s x:Operand)
  (t:o.op= .call {callee:= .builtin .append,args:=#[s,x],argTypes:=#[54,54]}) (B:av) (v1:bw) (l1:aq ar) (v2:bw) (l2:aq ar) (b:mP W B v1 l1 v2 l2) (n:ar) (y:a.eval s=v1)
  (hx:a.eval x=cJ (bt ⟨W,0,bn⟩) 1 1) (K:l1.length<=1000) (z:B<=W.heap.size)
  (h: ∀A d w,mP w B (js A (l1.length+1) d) (l1++[n]) v2 l2->cB B W w->wpList prog ops Q rest (a.put o.dst (js A (l1.length+1) d)) w):
  wpList prog ops Q (o::rest) a (W.alloc (cO #[n] 3)):=by
 obtain⟨i0,D,i,j,l⟩:=Se rS;refine wpList_append_own_at _ g s x 54 t B 3 i0 (jV 0) 1 8 underlying54 D i j l rfl eh v1 l1 (l1.map (cW dr)) y (b.a.alloc _) ⟨W,0,bn⟩ 1 1 [jV n] hx rfl (Go.cell_one_new W _ 3) (by intro u r;simp at r;subst r;rfl) Oq ed em ?_;intro v' w h1 h2 _ h4;have F:=dT (b.a.alloc _) ep em h2
 have H:aA w B v' (l1++[n]):=by
  unfold aA;rw[Mx,Pr];exact h1
 obtain⟨A,d,rfl⟩:=H.slice
 have p: ∀k,v2.ownBlock=bt k->k<W.heap.size:=fun k G=>by
  obtain⟨c,I,_⟩:=fD b.b G;exact aD I
 have q:aA w B v2 l2:=(aj.ownsRow.kept (b.b.alloc _) h2 (by
  cases e:v2.ownBlock with
  | none=>exact .inl rfl
  | some k=>exact .inr (fun J=>b.ap k J.symm e)))
 rw[Mx,Fb]at H h4 ⊢;refine h A d w ⟨H,q,fun k E e2=> ?_⟩ (((Nb B W).alloc z _).trans F);rcases h4 with h4 | h4
 ·rw[h4]at E;exact b.ap k E e2
 rw[h4]at E;cases E;exact cv (p _ e2) ee
end
def tu (w:aj) (RE:ax Rw) (n:av) (e:Ending) (w':aj):Prop:=
 jb w w'/\((RE=bn/\e=cL (dw #[jN,jN,db aW]))\/
  ∃x a b c d,RE=bt x/\x.ins.length=n/\x.outs.length=n/\e=cL (dw #[js a n b,js c n d,db bl])/\IL w' a n x.ins/\IL w' c n x.outs)
def BI {B:av}{a:ax bR}{l:aq ar}(h:aA W B (js a m c) l) (e:l.length=m):IL W a m l:=by
 subst e;exact aA.il h
def TT (h:iL p r i=bn): ∀d,iL p r (i+d)=bn
 | 0=>h
 | d+1=>by
  show iL p r (i+d+1)=bn;rw[iL,TT h d];rfl
def z5f (h:iL p r i=bn) (H:i<=(aI r).length):iM p r=bn:=by
 unfold iM;have:=TT h ((aI r).length-i);rw[show i+((aI r).length-i)=(aI r).length by omega]at this;exact this
def TS (h:bX p){k:av}(c:k<p.R.length): ∃i,∃h1:i<p.G.length,∃I,∃h2:I<p.S.length,∃q:av,∃hq:q<p.S[I].ends.length,
  dA (fun x=>ab (x.id=p.R[k].E)) p.G=(i:ar)/\dA (fun x=>ab (x.id=p.G[i].sec)) p.S=(I:ar)/\p.G[i].en=(q:ar)/\zN p p.R[k]=p.S[I].ends[q]:=by
 have d:=(qD h c).1;obtain⟨i,h1,E⟩:=dF.1 d.1;have hs:=(IY h i h1 h1).1;obtain⟨I,h2,a⟩:=dF.1 (CR hs.1);have f:=SC h2 a;have H:=hs.2.2;rw[zU (zR h) h2 p.G[i].sec.toNat (by have:=hs.1.1;omega)]at H;refine⟨i,h1,I,h2,p.G[i].en.toNat,ZK,E,a,ZK,?_⟩
 have b:iZ p p.R[k].E=p.G[i]:=by
  unfold iZ;rcases kF (fun x:Sg=>ab (x.id=p.R[k].E)) p.G with⟨e,_⟩ | ⟨m,g,e,g1,g2⟩
  ·rw[e]at E;omega
  have:m=i:=(by rw[e]at E;omega);subst this;exact(tF g g1 g2).1
 unfold zN;rw[b,BJ h2 a,Na,Nf ZK];rfl
theorem TR (p:Pl) (s q gg j2:bw) (a5:av) (c0:a5<p.R.length) (q1 q2 j3:bw) (w:aj) (d8:bN w s q gg j2 p) (j4:p.Fit) (a6:bX p) (e1:dY w q1 q2 j3 p.R[a5]):
  jW 216 #[aT p s q gg j2,cZ #[p.R[a5].id,p.R[a5].E,p.R[a5].X,q1,q2,j3,p.R[a5].T]] w (tu w (iM p p.R[a5]) (aI p.R[a5]).length):=by
 obtain⟨i1,h1,i2,h2,en,e2,k4,k5,k6,q3⟩:=TS a6 c0;have E:=wO a6 c0;have a7:=(qD a6 c0).1;generalize k7:p.R[a5]=r at *;have hr:=e1;clear e1;have q4:(aI r).length<=8:=by rw[oY];have:=a7.2.2.2.2.1;have:=a7.2.2.2.2.2.1;omega
 have s9:=E.A;have HL:bG (1<=(aI r).length):=by show _<=_;rw[oY];omega
 have v3:=a7.2.2.2.2.1;have k8:bG (∀x n,iL p r n=bt x->n<(aI r).length->iL p r (n+1)=qE p r n x):=fun x n hx hn=>by rw[iL,hx];rfl
 have e3:bG (∀n x,qE p r n x=if x.j.tt≠(aI r).getD n 0 then bn else if n+1=(aI r).length/\0<r.O.length then bt ⟨x.ins++[x.j.en],x.outs++[-1],x.j⟩else match jL p r n x.j.en with | none=>bn | some e=>bt ⟨x.ins++[x.j.en],x.outs++[(e:ar)],(bO p r n).ends.getD e ⟨0,0⟩⟩):=fun n x=>rfl
 have Z:bG (∀i,i<=(aI r).length->iL p r i=bn->iM p r=bn):=fun i C h=>z5f h C;have e4:=hI fun i x h=>CX p r i x h;have H3:bG (iM p r=iL p r (aI r).length):=rfl;have k9:bG (iL p r 0=bt ⟨[],[],p.S[i2].ends[en]⟩):=by show _=_;rw[iL,q3]
 have H4:bG (∀n (hn:n<(aI r).length),∃m,∃d9:m<p.S.length,dA (fun x=>ab (x.id=(aI r)[n])) p.S=(m:ar)/\bO p r n=p.S[m]/\p.S[m].ends.length<=3/\dX aF.id p.S (aI r)[n]=bl):=fun n hn=>by
  have q5:=E.shaped n hn;have e5:(aI r).getD n 0=(aI r)[n]:=by rw[Na,Nf hn];rfl
  have c1:=q5.1;rw[e5]at c1;obtain⟨m,d9,e⟩:=dF.1 c1;have j5:bO p r n=p.S[m]:=by unfold bO;rw[e5];exact BJ d9 e
  refine⟨m,d9,e,j5,?_,c1⟩;have h3:=q5.2.1;rw[j5]at h3;rcases h3 with h3 | h3<;>omega
 have l0:bG (∀n,n<(aI r).length-> ¬(n+1=(aI r).length/\0<r.O.length)->n+1≠r.A.length->n+1<(aI r).length):=fun n hn h1 h2=>by
  have:=oY r;omega
 have l1:bG (∀n e,jL p r n e=bn->rK (jL p r n e)= -1):=fun n e h=>by rw[h];rfl
 have l3:bG (∀n e k,jL p r n e=bt k->rK (jL p r n e)=k/\k<(bO p r n).ends.length):=fun n e k h=>by
  refine⟨by rw[h];rfl,?_⟩;unfold jL at h;exact aq.mem_range.1 (Sx h)
 have l4:r.A.length<=17592186044416:=by omega
 obtain⟨p1,w5,p3,rfl,ip⟩:=hr.A;obtain⟨o1,w6,o3,rfl,q6⟩:=hr.O;obtain rfl:=ip.len;obtain rfl:=q6.len;obtain⟨f1,f3,rfl,-⟩:=hr.fl;have v4:bG (∀W,jb w W->dY W (js p1 r.A p3) (js o1 r.O o3) (js f1 r.fl f3) r):=fun W F=>hr.below F
 have e6:bG (∀W n a c2 c4,jb w W->IL W c2 (aI r).length (aI r)->n<(aI r).length-> ¬(n+1=(aI r).length/\0<r.O.length)->jW 313 #[aT p s q gg j2,cZ #[r.id,r.E,r.X,js p1 r.A p3,js o1 r.O o3,js f1 r.fl f3,r.T],js c2 (aI r).length c4,jV n,jV a] W (wR W (rK (jL p r n a)))):=fun W n a c2 c4 F l5 hn l6=>by
  obtain⟨m,d9,e,j5,h3,h4⟩:=H4 n hn;exact z5e p s q gg j2 r _ _ _ c2 c4 n a W (d8.below F) j4 (hr.below F) l5 hn (by omega) h4 (by rw[j5];exact h3) (fun h=>l0 n hn l6 h) l4
 have e7:=hI fun W F=>GT r p1 o1 f1 p3 o3 f3 W (hr.below F) (by have:=oY r;omega);obtain⟨q7,k1,rfl,l7⟩:=d8.S;obtain⟨q8,q9,rfl,-⟩:=d8.P;obtain⟨a3,c3,rfl,k3⟩:=d8.G;obtain⟨r5,r6,rfl,-⟩:=d8.R;have H1:bG (∀W,jb w W->aB W 3 cU q7 k1 p.S):=fun W F=>l7.below gN F;have e8:bG (∀W,jb w W->aB W 3 gZ a3 c3 p.G):=fun W F=>k3.below lA F;have r7:=hI j4.S;have v5:=hI j4.G;have HV:=hI k4;have l8:=hI k5;have l9:=hI k6;clear d8 j4 a6 hr l7 k3 ip q6 E a7 k4 k5 k6 q3 k7;generalize iL p r=RT at *;generalize iM p r=v6 at *;generalize qE p r=RS at *;generalize m0:aI r=L at *;clear m0;unfold aT at *;go_in;go_upto_region 1 with fail;generalize c5:cj _ _=W0;have K0:=hI (eN c5)
 have B0:bG (jk W0 w #[p.ver,p.par,js q7 p.S k1,js q8 p.P q9,js a3 p.G c3,js r5 p.R r6] 28/\jk W0 (w+1) #[r.id,r.E,r.X,js p1 r.A p3,js o1 r.O o3,js f1 r.fl f3,r.T] 102):=by
  show _/\_;rw[<-c5];exact⟨(Nv _ _ (by simp)).trans (Nc _ _),Do _ _ _⟩
 clear c5;obtain⟨j6,j7,x1,x2,m2,v0,v1,v2,N⟩:=(H1 _ K0).sec h2;subst m2;obtain⟨r8,r9,m3,t8,t1,t0⟩:=(e8 _ K0).sg h1;subst m3;obtain⟨x3,x4,rfl,j8,j9⟩:=N.jn e2;rw[l9.o]at t0;have B1:bG (∀W,jb W0 W->jk W w #[p.ver,p.par,jq j6 j7 p.S k1,js q8 p.P q9,jq r8 r9 p.G c3,js r5 p.R r6] 28/\jk W (w+1) #[r.id,r.E,r.X,js p1 r.A p3,js o1 r.O o3,js f1 r.fl f3,r.T] 102):=fun W F=>⟨(jm F B0.1),(jm F B0.2)⟩;have c6:bG (∀W,jb W0 W->jb w W):=fun W F=>jo K0 F;have x5:=aQ i1
 have x6:=aN h1
 have d0:=aQ i2
 have d1:=aN h2
 have x7:=aQ en
 have l7:=aN e2
 have P:=ji 2 (B0).1;have p0:=ji 4 (B0).1;have T:=ji 1 (B0).2;have t2:=fun t:Gw W0=>t.cel p0;have t3:=fun t:Gw W0=>t.cel T;have t4:=fun t:Gw W0=>t.cel t8;have t5:=fun t:Gw W0=>t.cel t1;have t6:=fun t:Gw W0=>t.cel t0;refine zD [10] ?_;intro V G;refine zB [0,1,2,3,4,5] G ?_;have b5:=fun W (a8:jb W0 W)=>(wE (bt ⟨r8,r9,bn⟩) c3 p.G r.E W (e8 _ (c6 _ a8)) v5).mono fun e e9 h=>(⟨h.1.trans (by rw[HV.o]),h.2.symm⟩:e=cL (jV i1)/\e9=W);refine zK 6 G b5 ?_;clear b5;refine zB [7,8] G ?_;refine zA 9 10 145 #[jV 0,jV 0,jV 0] #[p.G[i1].id,p.G[i1].sec,en] (fun W a8=>jt G a8) (fun g V1 a9 h1 b0=> ?_);have b:=jt G h1;have a0:=Nj G.size a9;clear h1 a9 G t2 t3 t4 t5 t6;clear V;have K3:=hI b;have v7:=hI b0;have L1:=hI a0;have y1:jc V1 g 1 p.G[i1].sec:=jr b0;have y2:jc V1 g 2 en:=jr b0;replace P:=aP b P;replace v0:=aP b v0;replace v1:=aP b v1;replace v2:=aP b v2;replace j8:=aP b j8;replace j9:=aP b j9;clear b a0 b0 p0 T t8 t1 t0;go_upto_region 2 with fail;have t7:=fun t:Gw V1=>t.cel P;have t9:=fun t:Gw V1=>t.cel y1;have f0:=fun t:Gw V1=>t.cel y2;have f2:=fun t:Gw V1=>t.cel v2;have f4:=fun t:Gw V1=>t.cel j8;have f5:=fun t:Gw V1=>t.cel j9;refine zD [15] ?_;intro V G;refine zB [0,1,2,3,4,5] G ?_;have b5:=fun W (a8:jb V1 W)=>(tG (bt ⟨j6,j7,bn⟩) k1 p.S p.G[i1].sec W (H1 _ (c6 _ (jo K3 a8))) r7).mono fun e e9 h=>(⟨h.1.trans (by rw[l8.o]),h.2.symm⟩:e=cL (jV i2)/\e9=W);refine zK 6 G b5 ?_;clear b5;refine zB [7,8,9,10,11,12,13] G ?_;refine zA 14 15 133 #[jV 0,jV 0] #[p.S[i2].ends[en].tt,p.S[i2].ends[en].en] (fun W a8=>jt G a8) (fun g2 V2 a9 h1 c7=> ?_);have b:=jt G h1;have a0:=Nj G.size a9;clear h1 a9 G t7 t9 f0 f2 f4 f5;clear V;have K4:=jh K3 b;have L0:bG (W0.heap.size<=g2):=Nj K3.size a0;have b1:=B1 _ K4;obtain⟨y0,T,r0,r1,r2,r3,r4⟩:=lU (b1.2);have m4:=Mt y0;clear b a0 P v0 v1 v2 j8 j9 y1 y2 b1;go_wp2_with fail;refine(e7 V2 (c6 _ K4)).mono ?_;rintro e u ⟨c2,c4,rfl,O,b2⟩
 have K5:=jh K4 b2;have f6:=jm b2 c7;have m5:=hI f6;have f7:bG (g2<V2.heap.size):=aD c7;have f8:bG (V2.heap.size<=u.heap.size):=b2.size
 have H6:bG (∀W,u.grownBy W (bt g2)->aA W V2 (js c2 L c4) L):=fun W a9=>aj.ownsRow.kept O a9 (by
  cases e:(bw.slice c2 L c4).ownBlock with
  | none=>exact .inl rfl
  | some k=>exact .inr (fun v8=>by obtain⟨_,_,x8⟩:=fD O (e.trans v8);have:=f7.o;omega))
 obtain⟨lb,lo,rfl,-⟩:=(aA.il O).cell 0 (by have:=HL.o;omega);clear O b2 c7 f6 m4 y0 T r0 r1 r2 r3 r4 e7;have m6:bG (w.heap.size<=u.heap.size):=Nj K0.size K5.size;have K1:bG (∀W,u.grownBy W (bt g2)->jb W0 W):=fun W a9=>K5.grown a9 K5.size (fun j hj=>by cases hj;exact L0);go_wp2_with fail;go_loopg [10,11,12] L.length (fun v9 m7 m8 m9 wr=> ∃(n:av) (x:Rw) (aa b6:ax bR) (ca b7:av),n<=L.length/\v9=L.length-n/\m7=cJ aa n ca/\m8=cJ b6 n b7/\m9= jV n/\RT n=bt x/\u.grownBy wr (bt g2)/\jk wr g2 #[x.j.tt,x.j.en] 133/\mP wr u (js aa n ca) x.ins (js b6 n b7) x.outs)
 ·exact⟨0,_,bn,bn,0,0,by omega,by omega,rfl,rfl,rfl,k9,⟨rfl,rfl,rfl,Mv _,fun _ _ _=>rfl⟩,m5,mP.nil _ _⟩
 obtain⟨n,x,aa,b6,ca,b7,hn,rfl,rfl,rfl,rfl,hx,c8,hj,s0⟩:=hrel;obtain⟨b3,rfl⟩: ∃b3:aj,b3=wr:=⟨_,rfl⟩;have s1:=hI hx;have y:=hI c8;have n0:=hI hj;have k0:=hI s0;have f9:=hI (K1 _ c8);have K2:=hI (c6 _ f9);obtain⟨a1,X⟩:=e4 _ _ hx;clear hx c8 hj s0;by_cases Y:n<L.length
 ·have n1:ab ((n:ar)<(L:ar))=bl:=(by simp;omega);obtain⟨s2,o0,a2,x0⟩:=(aA.il (H6 _ y)).cell n Y;cases a2;have x9:(0:ar)<=(n:ar):=(by omega);have y4:(n:ar)<(L:ar):=(by omega);have l2:=My _ _ x0;have g0:jc b3 g2 0 x.j.tt:=jr n0;have X0:=Ng x0;have J0:=Ng g0;have H7:bG (∀(d:av) (os:aL Obj),jb b3 (grow (cF b3 d) os)):=fun d os=>Nr b3 d os;have HRL:bG (L.getD n 0=L[n]):=(by show _=_;rw[Na,Nf Y];rfl);have H8:=hI (k8 x n s1 Y);clear x0 g0 l2;by_cases G9:x.j.tt=L[n]
  ·have t1:(x.j.tt != L[n])=aW:=by simp[G9]
   have Q:bG (RT (n+1)=if n+1=L.length/\0<r.O.length then bt ⟨x.ins++[x.j.en],x.outs++[-1],x.j⟩else match jL p r n x.j.en with | none=>bn | some e=>bt ⟨x.ins++[x.j.en],x.outs++[(e:ar)],(bO p r n).ends.getD e ⟨0,0⟩⟩):=by
    show _=_;rw[H8.o,e3.o,Nm (by rw[HRL.o];exact fun h=>h G9)]
   clear G9;go_upto_region 9 with fail;refine Mz (by kernel_rfl) (by kernel_rfl) ?_
   repeat (go_big_quiet_step (fail))
   refine cl ?_;rintro _ ⟨⟨g1,osq⟩,rfl⟩;have z:jb b3 (grow (cF b3 g1) osq):=H7 g1 osq;generalize n2:grow (cF b3 g1) osq=k2 at *;have g3:=hI (k0.below z);have H2:bG (jk k2 g2 #[x.j.tt,x.j.en] 133):=jm z n0;have I:bG (u.grownBy k2 (bt g2)):=⟨z.os.trans y.os,z.tape.trans y.tape,z.output.trans y.output,Nj y.size z.size,fun i C c=>(z.block i (Nl C y.size)).trans (y.block i C c)⟩;clear n2 z X0 J0 k0 n0 y f9 K2 H7 HRL H8;have b4:jc k2 g2 1 x.j.en:=jr H2;have n3:=aD H2;have s3:u.heap.size<=k2.heap.size:=I.size;have n4:x.ins.length<=1000:=(by omega);have g4:x.outs.length<=1000:=(by omega);go_upto_region 12 with(at_builtin;refine JG rfl _ _ rfl u (js aa n ca) x.ins (js b6 n b7) x.outs g3 x.j.en rfl rfl n4 s3 ?_;intro g5 g6 w8 c9 J;rw[a1]at c9 ⊢);have H9:=hI c9;have d2:bG (g2<u.heap.size):=(by have:=f7.o;have:=f8.o;show _<_;omega);have d3:bG (jk w8 g2 #[x.j.tt,x.j.en] 133):=(J.block _ d2).trans H2;have f:bG (u.grownBy w8 (bt g2)):=⟨J.os.trans I.os,J.tape.trans I.tape,J.output.trans I.output,Nj I.size J.size,fun i C c=>(J.block i C).trans (I.block i C c)⟩;have K6:=hI (K1 _ f);have K7:=hI (c6 _ K6);have b1:=B1 _ K6;clear c9 J g3 H2 I b4 n3 s3;obtain⟨pp0,p2,P,p4,p0,p5⟩:=dB (b1.1);obtain⟨y0,T,r0,r1,r2,r3,r4⟩:=lU (b1.2);have b4:jc w8 g2 1 x.j.en:=jr d3;have n5:=Mt pp0;have n6:=Mt y0;have n7:=Mt b4;have g7:u.heap.size<=w8.heap.size:=f.size;clear b1;obtain⟨D,s4⟩: ∃D:aU,D=ab (n+1=L.length/\0<r.O.length):=⟨_,rfl⟩;have e0:=hI s4;clear s4;go_cut [67]from 57 to 67 (fun v wc=>v=db D/\wc=w8)
   case first=>
    by_cases m1:n+1=L.length
    ·have t0:((n:ar)==(L:ar)-1)=bl:=(by rw[Da];omega);by_cases s5:0<r.O.length
     ·have n8:ab ((0:ar)<(r.O:ar))=bl:=(by simp;omega);have g8:bG (D=bl):=(by rw[e0.o];exact Ni ⟨m1,s5⟩);clear m1;go_wp2_with fail;go_meet
      case rel=>exact⟨by rw[g8.o],rfl⟩
     have n8:ab ((0:ar)<(r.O:ar))=aW:=(by simp only[Ns];omega);have g8:bG (D=aW):=(by rw[e0.o];exact Mw (fun h=>s5 h.2));clear m1;go_wp2_with fail;go_meet
     case rel=>exact⟨by rw[g8.o],rfl⟩
    have t0:((n:ar)==(L:ar)-1)=aW:=(by rw[Nd];omega);have g8:bG (D=aW):=(by rw[e0.o];exact Mw (fun h=>m1 h.1));clear m1;go_wp2_with fail;go_meet
    case rel=>exact⟨by rw[g8.o],rfl⟩
   case rest=>
    obtain⟨rfl,s6⟩:=hcut;obtain rfl:=s6.symm;clear s6;cases D with
    | true=>
     have A:n+1=L.length/\0<r.O.length:=Ib e0.symm
     have n9:bG (v6=bt ⟨x.ins++[x.j.en],x.outs++[-1],x.j⟩):=by
      show _=_;rw[H3.o,<-A.1,Q.o,Np A]
     have H0:bG (n+1=L.length):=A.1;have g9:=hI H9.o.swap;clear A Q;go_wp2_with (at_builtin;refine JG rfl _ _ rfl u (js b6 n b7) x.outs (js g5 (n+1) g6) (x.ins++[x.j.en]) g9 (-1) rfl rfl g4 g7 ?_;intro s7 s8 w9 d4 l;rw[X]at d4 ⊢);refine Nh (v:=dw #[js g5 (n+1) g6,js s7 (n+1) s8,db bl]) (by simp[results,Tryz.f216,go_sem]) rfl ?_;exact⟨K7.trans (l.mono m6),.inr ⟨_,g5,g6,s7,s8,n9,by rw[Mx,a1];exact H0,by rw[Mx,X];exact H0,by rw[H0.o],by rw[<-H0.o];exact BI d4.b (by rw[Mx,a1];rfl),by rw[<-H0.o];exact BI d4.a (by rw[Mx,X];rfl)⟩⟩
    | false=>
     have A: ¬(n+1=L.length/\0<r.O.length):=of_decide_eq_false e0.symm
     have R:bG (RT (n+1)=match jL p r n x.j.en with | none=>bn | some e=>bt ⟨x.ins++[x.j.en],x.outs++[(e:ar)],(bO p r n).ends.getD e ⟨0,0⟩⟩):=by
      show _=_;rw[Q.o,Nm A]
     have i0:=e6 w8 n x.j.en _ c4 K7 (aA.il (H6 _ f)) Y A;have A7:=hI i0;clear A Q e0 i0;go_wp2_with fail;refine A7.mono ?_;rintro e w9 ⟨rfl,l⟩;have i3:=hI (H9.below l);have i4:bG (jk w9 g2 #[x.j.tt,x.j.en] 133):=jm l d3;have B:bG (u.grownBy w9 (bt g2)):=⟨l.os.trans f.os,l.tape.trans f.tape,l.output.trans f.output,Nj f.size l.size,fun i C c=>(l.block i (Nl C f.size)).trans (f.block i C c)⟩;have i5:=hI (K1 _ B);have i6:=hI (c6 _ i5);clear l H9 d3 f K6 K7 A7 pp0 p2 P p4 p0 p5 y0 T r0 r1 r2 r3 r4 b4 n5 n6 n7 g7;cases ho:jL p r n x.j.en with
     | none=>
      have i7:bG (RT (n+1)=bn):=by
       show _=_;rw[R.o,ho]
      have o2:=hI (l1 _ _ ho);rw[<-ho,o2.o];have o4:ab ((-1:ar)<0)=bl:=(by decide);clear ho R;go_wp2_with fail;refine Nh (v:=dw #[jN,jN,db aW]) (by simp[results,Tryz.f216,go_sem]) rfl ?_;exact⟨i6,.inl ⟨Z _ (by omega) i7,rfl⟩⟩
     | some K=>
      obtain⟨b8,b9⟩:=l3 _ _ _ ho
      have i7:bG (RT (n+1)=bt ⟨x.ins++[x.j.en],x.outs++[(K:ar)],(bO p r n).ends.getD K ⟨0,0⟩⟩):=by
       show _=_;rw[R.o,ho]
      rw[<-ho,b8];have o4:ab ((K:ar)<0)=aW:=(by simp);have H:=hI b9;have H5:=hI i3.o.swap;have i8:u.heap.size<=w9.heap.size:=B.size;clear ho R b8 b9;go_upto_region 18 with(at_builtin;refine JG rfl _ _ rfl u (js b6 n b7) x.outs (js g5 (n+1) g6) (x.ins++[x.j.en]) H5 (K:ar) rfl rfl g4 i8 ?_;intro w0 j3 w7 d5 M;rw[X]at d5 ⊢);have i9:=hI d5.swap;have j0:bG (jk w7 g2 #[x.j.tt,x.j.en] 133):=(M.block _ d2).trans i4;have o:bG (u.grownBy w7 (bt g2)):=⟨M.os.trans B.os,M.tape.trans B.tape,M.output.trans B.output,Nj B.size M.size,fun i C c=>(M.block i C).trans (B.block i C c)⟩;have K8:=hI (K1 _ o);have K9:=hI (c6 _ K8);have b1:=B1 _ K8;have P:jc w7 w 2 (jq j6 j7 p.S k1):=jr b1.1;obtain⟨m,d9,j1,d6,-,-⟩:=H4 n Y;rw[d6]at H;have o5:=hI j1;obtain⟨s2,o0,a2,x0⟩:=(aA.il (H6 _ o)).cell n Y;cases a2;obtain⟨s2,o0,w1,w2,a2,v0,v1,v2,N⟩:=(H1 _ K9).sec d9;cases a2;obtain⟨w3,w4,rfl,y3,y1⟩:=N.jn H.o;have o6:bG ((bO p r n).ends.getD K ⟨0,0⟩=p.S[m].ends[K]'H.o):=(by show _=_;rw[d6,Na,Nf H.o];rfl);have y5:(0:ar)<=(m:ar):=(by omega);have k4:(m:ar)<(p.S:ar):=(by omega);have k5:(0:ar)<=(K:ar):=(by omega);have k6:(K:ar)<(p.S[m].ends.length:ar):=(by have:=H.o;omega);clear d5 M N b1 d6 j1 v0 v1 i3 H5 i4 B i5 i6 i8;have o7:=fun t:Gw w7=>t.cel x0;have o8:=fun t:Gw w7=>t.cel P;have o9:=fun t:Gw w7=>t.cel v2;have p6:=fun t:Gw w7=>t.cel y3;have p7:=fun t:Gw w7=>t.cel y1;refine zD [15] ?_;intro U a4;refine zB [0,1,2,3,4,5,6,7] a4 ?_;have b5:=fun W (a8:jb w7 W)=>(tG (bt ⟨j6,j7,bn⟩) k1 p.S L[n] W (H1 _ (jo K9 a8)) r7).mono fun e e9 h=>(⟨h.1.trans (by rw[o5.o]),h.2.symm⟩:e=cL (jV m)/\e9=W);refine zK 8 a4 b5 ?_;refine zB [9,10,11,12,13,14] a4 ?_;clear b5 o7 o8 o9 p6 p7;have d7:=jm a4 j0;refine zS 15 133 #[jV (p.S[m].ends[K]'H.o).tt,jV (p.S[m].ends[K]'H.o).en] d7 ?_;have p8:=hI (mP.setRow (mP.below i9 a4) d2 #[jV (p.S[m].ends[K]'H.o).tt,jV (p.S[m].ends[K]'H.o).en]);have p9:bG (u.grownBy (U.setRow g2 #[jV (p.S[m].ends[K]'H.o).tt,jV (p.S[m].ends[K]'H.o).en]) (bt g2)):=⟨a4.os.trans o.os,a4.tape.trans o.tape,a4.output.trans o.output,by simp[aj.setRow];exact Nj o.size a4.size,fun i C c=>(Nq _ _ _ _ (fun e=>c (by rw[e]))).trans ((a4.block i (Nl C o.size)).trans (o.block i C c))⟩
      have q0:=hI (Dp _ _ _ #[jV (p.S[m].ends[K]'H.o).tt,jV (p.S[m].ends[K]'H.o).en] _ _ d7);clear a4 d7 i9 j0 o K8 K9 x0 y3 y1 v2 P;generalize aj.setRow _ _ _=y6 at *;go_wp2_with fail;go_roundg (L.length-(n+1))
      ·go_light;exact⟨n+1,_,g5,w0,g6,j3,by omega,by omega,rfl,rfl,by go_num,i7,p9,by rw[o6.o];exact q0,p8⟩
      go_light;omega
  have t1:(x.j.tt != L[n])=bl:=by simp[G9]
  have i7:bG (RT (n+1)=bn):=by
   show _=_;rw[H8.o,e3.o,Np (by rw[HRL.o];exact G9)]
  clear G9;go_upto_region 9 with fail;refine Mz (by kernel_rfl) (by kernel_rfl) ?_
  repeat (go_big_quiet_step (fail))
  refine cl ?_;rintro _ ⟨⟨g1,osq⟩,rfl⟩;go_wp2_with fail;refine Nh (v:=dw #[jN,jN,db aW]) (by simp[results,Tryz.f216,go_sem]) rfl ?_;exact⟨K2.trans ((H7 g1 osq).mono K2.size),.inl ⟨Z _ (by omega) i7,rfl⟩⟩
 obtain rfl:n=L.length:=(by omega);have n1:ab ((L:ar)<(L:ar))=aW:=(by simp);go_wp2_with fail;refine Nh (v:=dw #[js aa L ca,js b6 L b7,db bl]) (by simp[results,Tryz.f216,go_sem]) rfl ?_;exact⟨K2,.inr ⟨x,aa,ca,b6,b7,H3.trans s1,a1,X,rfl,BI k0.a a1,BI k0.b X⟩⟩
def z5g {rest:aq Oper}{o:Oper}{a:Act}(H:o.guard=bn) (s x:Operand)
  (p:o.op= .call {callee:= .builtin .append,args:=#[s,x],argTypes:=#[100,100]}) (q:a.eval s= jN)
  (a0:ax bR) (cap:av) (l:aq Fl) (hx:a.eval x=cJ a0 l cap) (hl:aB w 2 lZ a0 cap l) (F:l.length<=8796093022208)
  (h: ∀A C c,c.ownsRow w 207 2 (js A l C) l (l.flatMap kS)->jb w c->wpList prog ops Q rest (a.put o.dst (js A l C)) c):wpList prog ops Q (o::rest) a w:=by
 obtain⟨i0,r,i,k,n⟩:=Se DK;by_cases h0:l=[]
 ·subst h0
  have d:(Builtin.append_ #[100,100] o.type #[jN,js a0 0 cap]).run prog w= .ok (jN) w:=by
   cases a0<;>simp[Builtin.append_,Fk underlying100,sizeOf,typeInfo,r,Builtin.lenOf,Builtin.firstCells,loadCells,loadCellsFrom]
  have t:=h bn 0 w (Nw _ _ _ _) Qy;exact Go.Lib.wpList_append_run w H s x 100 100 p _ _ q hx _ _ d t
 refine Ey fun b off _ e=>?_;cases e;refine wpList_append_own_at w H s x 100 p w 207 i0 (cZ #[jV 0,jV 0]) 2 16 underlying100 r i k n rfl eh (jN) 0 [] q (Nw _ _ _ _) ⟨b,off,bn⟩ l cap (l.flatMap kS) hx (pC _ 2 l (fun _ _=>rfl)) ?_ ?_ Oq ed ep ?_
 ·intro j u hj;rw[Fn];exact mg (f:=kS) hl (fun _ _=>rfl) (fun _ _ h=>h) eh j u hj
 ·intro u D;obtain⟨y,-,E⟩:=Su.1 D;exact su y u E
 intro v' c h1 h2 _ _;rw[Pa,Dd]at h1;obtain⟨A,C,rfl⟩:=iG h1;exact h A C c h1 (dT (Nw w w 207 2) ep ep h2)
theorem TQ (r:Rt) (c5 c6 c7:bw) (w:aj) (R:dY w c5 c6 c7 r) (a5:r.fit):
  jW 132 #[cZ #[r.id,r.E,r.X,c5,c6,c7,r.T]] w fun e b5=> ∃b6 C b7 j b8 q,e=cL (cZ #[r.id,r.E,r.X,js b6 r.A C,js b7 r.O j,js b8 r.fl q,r.T])/\bM b5 w (js b6 r.A C) (js b7 r.O j) (js b8 r.fl q) r/\jb w b5:=by
 have a6:bG (∀W,jb w W->dY W c5 c6 c7 r):=fun W E=>R.below E;obtain⟨p1,c4,Q,rfl,ip⟩:=R.A;obtain⟨o1,c8,o3,rfl,b9⟩:=R.O;obtain rfl:=ip.len;obtain rfl:=b9.len;obtain⟨f1,F,rfl,-⟩:=R.fl
 have H8:bG (∀W,jb w W->IL W p1 r.A r.A):=fun W E=>by
  obtain⟨a,n,c,e,h⟩:=(a6 W E).A;cases e;exact h
 have H9:bG (∀W,jb w W->IL W o1 r.O r.O):=fun W E=>by
  obtain⟨a,n,c,e,h⟩:=(a6 W E).O;cases e;exact h
 have a7:bG (∀W,jb w W->aB W 2 lZ f1 F r.fl):=fun W E=>by
  obtain⟨a,c,e,h⟩:=(a6 W E).fl;cases e;exact h
 have a8:([]:aq ar).length+r.A.length<=17592186044416:=by have:=a5.1;simp;omega
 have a9:([]:aq ar).length+r.O.length<=17592186044416:=by have:=a5.2.1;simp;omega
 have b0:=a5.2.2;clear R a5 a6 ip b9;go_in;go_upto_region 2 with fail;generalize hW:cj _ _=W0;have c0:(w.alloc (cO #[r.id,r.E,r.X,js p1 r.A Q,js o1 r.O o3,js f1 r.fl F,r.T] 102)).heap.size=w.heap.size+1:=ee
 have c1:((w.alloc (cO #[r.id,r.E,r.X,js p1 r.A Q,js o1 r.O o3,js f1 r.fl F,r.T] 102)).alloc (cO #[jV 0,jV 0,jV 0,jN,jN,jN,jV 0] 102)).heap.size=w.heap.size+1+1:=ee
 have K0:=hI (yA hW)
 have hb:=jD hW
 have ho:=jE hW
 have G:=jF hW
 have s0:W0.heap.size=w.heap.size+3:=Qc
 clear hW c0 c1;have pp0:=ji 3 hb;have y0:=ji 3 G;refine Om fun U L=>?_;refine Qa fun Y Z=>?_;have H0:=hI G;have b1:=hI L;clear hb ho G;have d:W0.heap.size<=W0.heap.size:=Mv _;go_upto_region 3 with(at_builtin;refine sW rfl _ _ rfl W0 (jN) [] rfl (rL _ _) p1 Q r.A rfl (H8 _ K0) a8 d ?_;rw[Dd];intro t C W1 b k;have H:=dT (rL W0 W0) ep ep k;have z:=aP H y0;have htA:=jm H H0;have a0:=jz 3 htA;have a1:=Mt z);refine On fun i hWN=>?_
 have I:jk i w #[r.id,r.E,r.X,js p1 r.A Q,js o1 r.O o3,js f1 r.fl F,r.T] 102:=by
  have:=jm H Y;exact Yf
 have a2:jk i (w+1) #[jV 0,jV 0,jV 0,jN,jN,jN,jV 0] 102:=by
  have:=jm H Z;exact Ym
 have K:jk i (w+1+1) #[r.id,r.E,r.X,js t r.A C,jN,jN,r.T] 102:=by
  rw[<-hWN];exact Xp
 have K1:bG (jb w i):=by
  show cB _ _ _;rw[<-hWN];exact(jo K0 H).setCell Vq _
 have O1:bG (aA i W0 (js t r.A C) r.A):=by
  show aA _ _ _ _;rw[<-hWN];exact aV b b1 _
 have H1:bG (∀v l,aA W0 (w+1+1+1) v l->aA i (w+1+1+1) v l):=fun v l h=>by
  rw[<-hWN];exact aV (bU h H) ee _
 have s1:w.heap.size+3<=i.heap.size:=by rw[<-hWN];have:=H.size;simp;omega
 clear hWN b H z htA a0 a1 pp0 y0 U L d Y Z H0 k;have pp0:=ji 4 I;have y0:=ji 4 K;refine Om fun U L=>?_;have H2:=hI I;have H3:=hI a2;have H4:=hI K;have b2:=hI L;clear I a2 K;have d:i.heap.size<=i.heap.size:=Mv _;go_upto_region 4 with(at_builtin;refine sW rfl _ _ rfl i (jN) [] rfl (rL _ _) o1 o3 r.O rfl (H9 _ K1) a9 d ?_;rw[Dd];intro A j W2 b k;have H:=dT (rL i i) ep ep k;have z:=aP H y0;have htA:=jm H H4;have a0:=jz 4 htA;have a1:=Mt z);refine On fun o hWN=>?_
 have M:jk o w #[r.id,r.E,r.X,js p1 r.A Q,js o1 r.O o3,js f1 r.fl F,r.T] 102:=by
  have:=jm H H2;exact Yf
 have a3:jk o (w+1) #[jV 0,jV 0,jV 0,jN,jN,jN,jV 0] 102:=by
  have:=jm H H3;exact Ym
 have N:jk o (w+1+1) #[r.id,r.E,r.X,js t r.A C,js A r.O j,jN,r.T] 102:=by
  rw[<-hWN];exact Xp
 have K2:bG (jb w o):=by
  show cB _ _ _;rw[<-hWN];exact(jo K1 H).setCell Vq _
 have O2:bG (aA o i (js A r.O j) r.O):=by
  show aA _ _ _ _;rw[<-hWN];exact aV b b2 _
 have D:bG (∀v l,aA i (w+1+1+1) v l->aA o (w+1+1+1) v l):=fun v l h=>by
  rw[<-hWN];exact aV (bU h H) ee _
 have s2:w.heap.size+3<=o.heap.size:=by rw[<-hWN];have:=H.size;simp;omega
 clear hWN b H z htA a0 a1 pp0 y0 U L d H2 H3 H4 k;have pp0:=ji 5 M;have y0:=ji 5 N;refine Om fun U L=>?_;have H5:=hI M;have H6:=hI a3;have H7:=hI N;have b3:=hI L;clear M a3 N;have d:o.heap.size<=o.heap.size:=Mv _;go_upto_region 5 with(at_builtin;refine z5g rfl _ _ rfl rfl f1 F r.fl rfl (a7 _ K2) b0 ?_;intro O q W3 b H;have z:=aP H y0;have htA:=jm H H7;have a0:=jz 5 htA;have a1:=Mt z);refine On fun P hWN=>?_
 have b4:jk P w #[r.id,r.E,r.X,js p1 r.A Q,js o1 r.O o3,js f1 r.fl F,r.T] 102:=by
  have:=jm H H5;exact Yf
 have u:jk P (w+1) #[jV 0,jV 0,jV 0,jN,jN,jN,jV 0] 102:=by
  have:=jm H H6;exact Ym
 have a4:jk P (w+1+1) #[r.id,r.E,r.X,js t r.A C,js A r.O j,js O r.fl q,r.T] 102:=by
  rw[<-hWN];exact Xp
 have K3:bG (jb w P):=by
  show cB _ _ _;rw[<-hWN];exact(jo K2 H).setCell Vq _
 have O3:bG (P.ownsRow o 207 2 (js O r.fl q) r.fl (r.fl.flatMap kS)):=by
  show aj.ownsRow _ _ _ _ _ _ _;rw[<-hWN];exact aV b b3 _
 have p:bG (∀v l,aA o (w+1+1+1) v l->aA P (w+1+1+1) v l):=fun v l h=>by
  rw[<-hWN];exact aV (bU h H) ee _
 clear hWN b H z htA a0 a1 pp0 y0 U L d H5 H6 H7 ;obtain⟨q0,q1,q2,q3,q4,q5,q6⟩:=lU (a4);obtain⟨z0,z1,z2,z3,z4,z5,z6⟩:=lU (u);have c9:=jZ u
 have lr:=aD u
 have c2:bG (bM P (w+1+1+1) (js t r.A C) (js A r.O j) (js O r.fl q) r):=
  ⟨p _ _ (D _ _ (bW O1 ed)),p _ _ (bW O2 ed),bW O3 ed⟩
 clear b4 u a4 O1 O2 O3 H1 D p;go_wp2_with fail;refine On fun x o9=>?_;have e0:jc x (w+1) 0 r.id:=Kv
 have e1:jc x (w+1) 1 r.E:=Kv
 have e2:jc x (w+1) 2 r.X:=Kv
 have e3:jc x (w+1) 3 (js t r.A C):=Kv
 have e4:jc x (w+1) 4 (js A r.O j):=Kv
 have e5:jc x (w+1) 5 (js O r.fl q):=Kv
 have e6:jc x (w+1) 6 r.T:=Kv
 have c3:bG (jb w x):=by refine Uy ?_;exact Di (Di (Di (Di (Di (Di (Di (K3) ee _) ee _) ee _) ee _) ee _) ee _) ee _
 have M1:bG (bM x (w+1+1+1) (js t r.A C) (js A r.O j) (js O r.fl q) r):=by show bM _ _ _ _ _ _;rw[<-o9];exact bM.setCell (bM.setCell (bM.setCell (bM.setCell (bM.setCell (bM.setCell (bM.setCell (c2) Eb _) Eb _) Eb _) Eb _) Eb _) Eb _) Eb _
 clear o9;refine Nh (v:=cZ #[r.id,r.E,r.X,js t r.A C,js A r.O j,js O r.fl q,r.T]) (by simp[results,Tryz.f132,go_sem,e0,e1,e2,e3,e4,e5,e6]) rfl ?_;exact⟨t,C,A,j,O,q,rfl,M1.base ed,c3⟩
def zQ {o:Oper}{a:Act}{K:Act->aj->Prop}(h:ops[i]? =bt o) (hgd:o.guard=bn) (s x:Operand) (t:bT)
  (H:o.op= .call {callee:= .builtin .append,args:=#[s,x],argTypes:=#[t,t]})
  (v v':bw) (c:bw) (b:aj) (d:a.eval s=v) (hx:a.eval x=c) (e:(Builtin.append_ #[t,t] o.type #[v,c]).run prog w= .ok v' b)
  (j:K (a.put o.dst v') b):wpOp prog ops Q i K a w:=by
 unfold wpOp;rw[h];have k:Region.wanted o (yielded ops a.tmps)=bl:=by simp[Region.wanted,hgd]
 simp only[k,Hq];refine .inl ?_;unfold Oper.wp execOp;simp only[H,resolve,invoke,builtin,Sn,Ty,So,aq.map_toArray,Hu,aq.map_nil,d,hx,e];exact j
def mo (w:aj) (r:Rt) (asks:aq dV) (near:ar) (e:Ending) (w':aj):Prop:=
 ∃a1 c1 a2 c2 a3 c3,e=cL (cZ #[js a1 r.A c1,js a2 r.O c2,js a3 asks c3,near])/\aA w' w (js a1 r.A c1) r.A/\aA w' w (js a2 r.O c2) r.O/\aG w' w (js a3 asks c3) asks/\jb w w'
def JF (p:Pl) (r:Rt) (ins outs:aq ar): ∀n,(lP p r ins outs n).length<=n
 | 0=>Mv _
 | n+1=>by
  rw[lP,Mx];have:=JF p r ins outs n
  have h1:(rA p r n (ins.getD n 0) (outs.getD n 0)).length<=1:=by
   unfold rA;split
   ·simp
   repeat' split
   all_goals simp
  omega
def z5h {i:av}(a:i<p.G.length) (h:dA (fun x=>ab (x.id=n)) p.G=(i:ar)):iZ p n=p.G[i]:=by
 unfold iZ;rcases kF (fun x:Sg=>ab (x.id=n)) p.G with⟨e,_⟩ | ⟨m,H,e,g1,g2⟩
 ·rw[e]at h;omega
 have:m=i:=by rw[e]at h;omega
 subst this;exact(tF H g1 g2).1
theorem TP (p:Pl) (s q gg l1:bw) (b8:av) (Z:b8<p.R.length) (w:aj) (f9:bN w s q gg l1 p) (g0:p.Fit) (a6:bX p) (x:Rw) (hx:iM p p.R[b8]=bt x):
  jW 217 #[aT p s q gg l1,b8] w (mo w p.R[b8] (mH p p.R[b8] x) (iZ p p.R[b8].E).sec):=by
 obtain⟨i1,h1,B5,h2,en,l2,e3,k8,k9,x7⟩:=TS a6 Z;rw[z5h h1 e3];have a0:=wO a6 Z;have c2:=(qD a6 Z).1;have a7:=g0.rt b8 Z;have H3:=hI fun W x8 x9 y2 F hr=>TR p s q gg l1 b8 Z x8 x9 y2 W (f9.below F) g0 a6 hr;obtain⟨l3,k1,rfl,s6⟩:=f9.S;obtain⟨s7,s8,rfl,-⟩:=f9.P;obtain⟨a3,c3,rfl,k3⟩:=f9.G;obtain⟨B6,s9,rfl,v0⟩:=f9.R;obtain⟨v3,v4,B7,vo,B8,rfl,x0,x1,x2,x3,x4,x5,x6,hr⟩:=v0.rt Z;have v5:=g0.R;generalize p.R[b8]=r at *;have v6:(aI r).length<=8:=by rw[oY];have:=c2.2.2.2.2.1;have:=c2.2.2.2.2.2.1;omega
 have l4:=hI a0.A;have v7:=c2.2.2.2.2.2.2.1;have l5:r.A.length+r.O.length<=17592186044416:=by have:=oY r;omega
 have d6:bG (∀n (hn:n<(aI r).length),∃m,∃g3:m<p.S.length,dA (fun x=>ab (x.id=(aI r)[n])) p.S=(m:ar)/\bO p r n=p.S[m]):=fun n hn=>by
  have y3:=a0.shaped n hn;have g4:(aI r).getD n 0=(aI r)[n]:=by rw[Na,Nf hn];rfl
  have g5:=y3.1;rw[g4]at g5;obtain⟨m,g3,e⟩:=dF.1 g5;exact⟨m,g3,e,by unfold bO;rw[g4];exact BJ g3 e⟩
 have g6:bG (∀n,lP p r x.ins x.outs (n+1)=lP p r x.ins x.outs n++rA p r n (x.ins.getD n 0) (x.outs.getD n 0)):=fun n=>rfl;have e4:=hI fun n=>JF p r x.ins x.outs n;have g7:bG (mH p r x=lP p r x.ins x.outs (aI r).length++r.fl.map fun f=>⟨f.pt,f.lie,-1⟩):=rfl;have HE:bG (lP p r x.ins x.outs 0=[]):=rfl;have g9:bG (∀n a o,rA p r n a o=if(bO p r n).pt=0 then []else if 0<(if 0<=o then gS (bO p r n) a o else a)then [⟨(bO p r n).pt,if 0<=o then gS (bO p r n) a o else a,n⟩]else []):=fun n a o=>rfl;generalize mH p r x=MA at *;generalize lP p r x.ins x.outs=A at *;obtain⟨p1,B9,p3,rfl,ip⟩:=hr.A;obtain⟨o1,C0,o3,rfl,v8⟩:=hr.O;obtain rfl:=ip.len;obtain rfl:=v8.len;obtain⟨f1,f3,rfl,-⟩:=hr.fl;have i0:bG (∀W,jb w W->aB W 3 cU l3 k1 p.S):=fun W F=>s6.below gN F;have i2:bG (∀W,jb w W->aB W 3 gZ a3 c3 p.G):=fun W F=>k3.below lA F;have l6:bG (∀W,jb w W->dY W (js p1 r.A p3) (js o1 r.O o3) (js f1 r.fl f3) r):=fun W F=>hr.below F;have y4:=hI g0.S;have y5:=hI g0.G;have HV:=hI e3;have l7:=hI hx;have l8:=hI a7;generalize iM p r=C1 at *;unfold aT at *;clear f9 g0 a6 s6 k3 v0 hr ip v8 a0 c2 e3 k8 k9 x7 hx a7 h2 l2;go_in;go_upto_region 1 with fail;generalize e5:cj _ _=W0;have K0:=hI (eN e5)
 have B0:bG (jk W0 w #[p.ver,p.par,js l3 p.S k1,js s7 p.P s8,js a3 p.G c3,jq v3 v4 p.R s9] 28/\jk W0 (w+1) #[jN,jN,jN,jV 0] 184):=by
  show _/\_;rw[<-e5];exact⟨(Nv _ _ (by simp)).trans (Nc _ _),Do _ _ _⟩
 have I:=K0.o;clear e5;replace x0:=aP I x0;replace x1:=aP I x1;replace x2:=aP I x2;replace x3:=aP I x3;replace x4:=aP I x4;replace x5:=aP I x5;replace x6:=aP I x6;have p0:=ji 5 B0.o.1;have C2:=aQ b8
 have C3:=aN Z
 have y6:=My _ _ x0;have lb:=Mt p0;clear I;go_wp2_with fail;refine(TQ r _ _ _ W0 (l6.o _ K0.o) l8.o).mono ?_;rintro e W1 ⟨R,T,n1,Y,m1,m3,rfl,E,e6⟩;go_upto_region 2 with fail;generalize e7:cj _ _=W2;have c4:=jG e7
 have c5:=jA e7
 have C4:=hI e6;have l9:=hI (jt e6 c4);have i3:=hI c5;have H4:=hI (E.m.below c4);have H5:=hI E;have H6:bG (∀W,jb W2 W->jb W1 W):=fun W F=>jt c4 F;have g1:bG (∀W,jb W0 W->jb w W):=fun W F=>jo K0 F;have B1:bG (∀W,jb W0 W->jk W w #[p.ver,p.par,js l3 p.S k1,js s7 p.P s8,js a3 p.G c3,jq v3 v4 p.R s9] 28):=fun W F=>(jm F B0.o.1);have B2:bG (∀W,jb W0 W->jk W (w+1) #[jN,jN,jN,jV 0] 184):=fun W F=>(jm F B0.o.2);have a4:=B1.o _ l9.o;have p4:=ji 0 a4;have p5:=ji 1 a4;have p2:=ji 2 a4;have p6:=ji 3 a4;have q2:=ji 4 a4;clear p0;have p0:=ji 5 a4;obtain⟨r1,q3,r2,q0,q1,r0,r3⟩:=lU (c5);have m0:=Mt p4;have m2:=aD c5;clear E e6 c4 e7 c5 a4 x0 x1 x2 x3 x4 x5 x6 y6 lb;go_wp2_with fail;refine(H3.o W2 _ _ _ (g1.o _ l9.o) H4.o).mono ?_;rintro e W3 ⟨a8,m4⟩;rcases m4 with⟨hn,-⟩ | ⟨y7,ia,ib,C5,y8,i4,y9,z4,rfl,hb,ho⟩
 ·exact cv (l7.o.symm.trans hn) (by simp)
 obtain rfl:x=y7:=Pq (l7.o.symm.trans i4);have i5:=hI a8;have v9:=jh l9 a8;have c6:=jm a8 i3.o;have i6:=hI c6;have H7:=hI (H4.o.below a8);have i7:=hI hb;have i8:=hI ho;clear p4 p5 p2 p6 q2 p0 r1 q3 r2 q0 q1 r0 r3 m0 m2 a8 i4 hb ho H3 l7 i3 H4;obtain⟨r1,q3,r2,q0,q1,r0,r3⟩:=lU (c6);have m5:=aD c6;clear c6;go_wp2_with fail;refine(GT r R n1 m1 T Y m3 W3 H7.o l5).mono ?_;rintro e wo ⟨C6,C7,rfl,E,a1⟩;have K7:=jh i5 a1;have g2:=jh v9 a1;have a5:=jm a1 i6.o;have m6:=hI a5;have d7:=hI (H7.o.below a1);have d8:=hI (i7.o.below a1);have d9:=hI (i8.o.below a1);have e0:=hI (aA.il E);have L2:=hI (aD a5);clear r1 q3 r2 q0 q1 r0 r3 m5 a1 E i6 H7 i7 i8 v9;obtain⟨z5,z6,m7,m8,q4,m9⟩:=(i2.o _ (g1.o _ g2.o)).sg h1;subst m7;have a4:=B1.o _ g2.o;have d0:=aQ i1
 have d1:=aN h1
 have q2:=ji 4 a4;have q3:=ji 1 a5;have q0:=ji 3 a5;have q1:=ji 4 a5;clear a4 a5;go_upto_region 4 with fail;have t0:=fun t:Gw wo=>t.cel q0;have t1:=fun t:Gw wo=>t.cel q1;have t2:=fun t:Gw wo=>t.cel q2;have t3:=fun t:Gw wo=>t.cel q3;have t4:=fun t:Gw wo=>t.cel q4;refine zD [16] ?_;intro V hV;refine zB [0,1,2,3,4,5,6,7,8,9] hV ?_;have i9:=fun W (e8:jb wo W)=>(wE (bt ⟨z5,z6,bn⟩) c3 p.G r.E W (i2.o _ (g1.o _ (jo g2 e8))) y5.o).mono fun e n0 h=>(⟨h.1.trans (by rw[HV.o]),h.2.symm⟩:e=cL (jV i1)/\n0=W);refine zK 10 hV i9 ?_;clear i9;refine zB [11,12,13,14] hV ?_;refine zA 15 16 184 #[jN,jN,jN,jV 0] #[js R r.A T,js n1 r.O Y,jN,p.G[i1].sec] (fun W e8=>jt hV e8) (fun g V c7 h1 z=> ?_);have b:=jt hV h1;have c8:=Nj hV.size c7;clear h1 c7 hV t0 t1 t2 t3 t4
 have e9:=Py;have n2:bG (jb wo V):=b;have n3:bG (jk V g #[js R r.A T,js n1 r.O Y,jN,p.G[i1].sec] 184):=z;have L1:bG (wo.heap.size<=g):=c8;have L0:bG (g<V.heap.size):=aD z;have K2:bG (∀W,V.grownBy W (bt g)->jb wo W):=fun W c7=>n2.o.grown c7 n2.o.size (fun j hj=>by cases hj;exact L1.o);have K3:bG (∀W,V.grownBy W (bt g)->jb W0 W):=fun W c7=>g2.o.trans ((K2.o W c7).mono g2.o.size);obtain⟨lb,lo,rfl,-⟩:=e0.o.cell 0 (by have:=oY r;have:=l4.o;omega);clear b c8 z q2 q3 q0 q1 m8 q4 m9;generalize j0:aI r=L at *;have z7:=hI j0;clear j0;go_wp2_with fail;go_loopg [11] L.length (fun n4 n5 wr=> ∃(n m:av) (aa:ax bR) (ca:av),n<=L.length/\n4=L.length-n/\n5= jV n/\m=(A n).length/\V.grownBy wr (bt g)/\jk wr g #[js R r.A T,js n1 r.O Y,js aa m ca,p.G[i1].sec] 184/\aG wr V (js aa m ca) (A n))
 ·exact⟨0,0,bn,0,by omega,by omega,rfl,by rw[HE.o];rfl,⟨rfl,rfl,rfl,Mv _,fun _ _ _=>rfl⟩,n3.o,by rw[HE.o];exact aG.nil _ _⟩
 obtain⟨n,C8,aa,ca,hn,rfl,rfl,j1,J,hj,j2⟩:=hrel;obtain⟨C,rfl⟩: ∃C:aj,C=wr:=⟨_,rfl⟩;have M:=hI J;have l0:=hI hj;have n6:=hI j2;have K1:=hI (K2.o _ J);have K4:=hI (K3.o _ J);have K5:=hI (g1.o _ K4.o);clear J hj j2;by_cases D:n<L.length
 ·have n7:ab ((n:ar)<(L:ar))=bl:=(by simp;omega);obtain⟨m,g3,j3,j4⟩:=d6.o n D;obtain⟨C9,w0,n8,y1⟩:=(e0.o.below K1.o).cell n D;cases n8;obtain⟨w1,w2,ea,ec,n9,w3,v1,v2,-⟩:=(i0.o _ K5.o).sec g3;have a4:=B1.o _ K4.o;have o0:=hI j3;have j5:=hI j4;subst n9;have o2:(0:ar)<=(n:ar):=(by omega);have e3:(n:ar)<(L:ar):=(by omega);have k8:(0:ar)<=(m:ar):=(by omega);have k9:(m:ar)<(p.S:ar):=(by omega);have p2:jc C w 2 (jq w1 w2 p.S k1):=jr a4;clear a4 j3 j4;go_upto_region 8 with fail;have t5:=fun t:Gw C=>t.cel p2;have t6:=fun t:Gw C=>t.cel y1;have t7:=fun t:Gw C=>t.cel w3;have t8:=fun t:Gw C=>t.cel v1;have t9:=fun t:Gw C=>t.cel v2;refine zD [12] ?_;intro V0 hV;refine zB [0,1,2,3,4,5,6,7] hV ?_;have i9:=fun W (e8:jb C W)=>(tG (bt ⟨w1,w2,bn⟩) k1 p.S L[n] W (i0.o _ (jo K5 e8)) y4.o).mono fun e n0 h=>(⟨h.1.trans (by rw[o0.o]),h.2.symm⟩:e=cL (jV m)/\n0=W);refine zK 8 hV i9 ?_;clear i9;refine zB [9,10] hV ?_;refine zA 11 12 80 #[jV 0,jV 0,jN] #[p.S[m].id,p.S[m].pt,js ea p.S[m].ends.length ec] (fun W e8=>jt hV e8) (fun g8 V8 c7 h1 z=> ?_);have b:=jt hV h1;have c8:=Nj hV.size c7;clear h1 c7 hV t5 t6 t7 t8 t9
  ·have e9:=Py;subst j1;have H0:bG (aG V8 V (js aa (A n).length ca) (A n)):=bU n6.o b;have H1:bG (jk V8 g #[js R r.A T,js n1 r.O Y,js aa (A n).length ca,p.G[i1].sec] 184):=jm b l0.o;have c:bG (V.grownBy V8 (bt g)):=⟨b.os.trans M.o.os,b.tape.trans M.o.tape,b.output.trans M.o.output,Nj M.o.size b.size,fun i N u=>(b.block i (Nl N M.o.size)).trans (M.o.block i N u)⟩;have H8:bG (jk V8 g8 #[p.S[m].id,p.S[m].pt,js ea p.S[m].ends.length ec] 80):=z;have z8:bG (g8≠g):=(by have:=aD l0.o;show _≠_;omega);have K6:=hI (K2.o _ c.o);have K8:=hI (g1.o _ (K3.o _ c.o));have z1:jc V8 g8 1 p.S[m].pt:=jr z;have z9:=Mt z1;have HL:=hI (e4.o n);clear b c8 z y1 p2 w3 v1 v2 n6 l0 M K1 K4 K5;have j6:n<x.ins.length:=(by omega);have j7:n<x.outs.length:=by omega
   have l:bG (A (n+1)=A n++(if p.S[m].pt=0 then []else if 0<(if 0<=x.outs[n]then gS p.S[m] x.ins[n] x.outs[n]else x.ins[n])then [⟨p.S[m].pt,if 0<=x.outs[n]then gS p.S[m] x.ins[n] x.outs[n]else x.ins[n],n⟩]else [])):=by
    show _=_;rw[g6.o,g9.o,j5.o,Na,Na,Nf j6,Nf j7];rfl
   by_cases hz:p.S[m].pt=0
   ·have A0:(p.S[m].pt==0)=bl:=by simp[hz]
    have a2:bG (A (n+1)=A n):=by
     show _=_;rw[l.o,Np hz,Sh]
    clear hz l;go_wp2_with fail;go_roundg (L.length-(n+1))
    ·go_light;exact⟨n+1,_,aa,ca,by omega,by omega,by go_num,rfl,c.o,by rw[a2.o];exact H1.o,by rw[a2.o];exact H0.o⟩
    go_light;omega
   have A0:(p.S[m].pt==0)=aW:=(by simp[hz]);have d2:=hI hz;clear hz;obtain⟨D0,D1,rfl,pp0⟩:=(d8.o.below K6.o).cell n j6;obtain⟨D2,A1,rfl,y0⟩:=(d9.o.below K6.o).cell n j7;have A2:=Mt pp0;have A3:=Mt y0;have A4:(0:ar)<=(n:ar):=(by omega);generalize o4:x.ins[n]=b9 at *;generalize o5:x.outs[n]=e1 at *;have A5:(n:ar)<(L:ar):=(by omega);clear o4 o5;by_cases f0:0<=e1
   ·have A6:ab ((0:ar)<=e1)=bl:=(by simp[f0]);have z0:jc V8 g8 0 p.S[m].id:=jr H8.o;have z2:jc V8 g8 2 (js ea p.S[m].ends.length ec):=jr H8.o;have Z0:=Ng z0;have Z1:=Ng z1;have Z2:=Ng z2;have A7:=Ng pp0;have A8:=Ng y0;have f2:=fun(d:av) (os:aL Obj)=>Ps (UA p.S[m] ea ec b9 e1 (grow (cF V8 d) os));have j8:bG (∀(d:av) (os:aL Obj),jb V8 (grow (cF V8 d) os)):=fun d os=>Nr V8 d os;unfold jY at f2;have d3:bG ((if 0<=e1 then gS p.S[m] b9 e1 else b9)=gS p.S[m] b9 e1):=Np f0;generalize gS p.S[m] b9 e1=j9 at *;have cC:=hI f2;clear f2 z0 z2 f0;go_upto_region 12 with fail;refine Mz (by kernel_rfl) (by kernel_rfl) ?_
    repeat (go_big_quiet_step ((with_reducible exact cC.o _ _)))
    refine cl ?_;rintro _ ⟨⟨o6,osq⟩,rfl⟩;have G:jb V8 (grow (cF V8 o6) osq):=j8.o o6 osq;generalize k0:grow (cF V8 o6) osq=O at *;have H9:bG (aG O V (js aa (A n).length ca) (A n)):=bU H0.o G;have a9:bG (jk O g #[js R r.A T,js n1 r.O Y,js aa (A n).length ca,p.G[i1].sec] 184):=jm G H1.o;have B:bG (V.grownBy O (bt g)):=⟨G.os.trans c.o.os,G.tape.trans c.o.tape,G.output.trans c.o.output,Nj c.o.size G.size,fun i N u=>(G.block i (Nl N c.o.size)).trans (c.o.block i N u)⟩;have H6:bG (jk O g8 #[p.S[m].id,p.S[m].pt,js ea p.S[m].ends.length ec] 80):=jm G H8.o;clear G k0 j8 cC Z0 Z1 Z2 A7 A8 H0 H1 c H8 z1 z9 pp0 y0 A2 A3 K6 K8;by_cases b0:0<j9
    ·have o7:ab ((0:ar)<j9)=bl:=by simp[b0]
     have a2:bG (A (n+1)=A n++[⟨p.S[m].pt,j9,n⟩]):=by
      show _=_;rw[l.o,Nm d2.o,d3.o,Np b0]
     clear b0 l d3;have s1:jc O g8 1 p.S[m].pt:=jr H6.o;have s2:jc O g 2 (js aa (A n).length ca):=jr a9.o;have s3:=Mt s1;have s4:=Mt s2;have f4:(A n).length<=1000:=(by have:=HL.o;omega);have P:V.heap.size<=O.heap.size:=B.o.size;go_wp2_with (at_builtin;refine nT rfl _ _ 182 281 _ _ 3 24 rfl underlying182 vL rfl (by decide) (by decide) V (js aa (A n).length ca) (A n).length _ rfl H9.o f4 P [jV p.S[m].pt,jV j9,jV n] rfl rfl (uN _ _ _) ?_;intro c0 c9 w9 hown9 y;have H:cB V O w9:=((Nb _ _).alloc P _).trans (dT (H9.o.alloc _) (Mv _) (by simp<;>omega) y);have hB9:=(H.block _ L0.o).trans a9.o;have b1:w9.frozen? ⟨g,2,bn⟩=aW:=(by simp[aj.frozen?,hB9]);have Q:jc w9 g 2 (js aa (A n).length ca):=jr hB9;have b2:=Mt Q);generalize hWN:cd _ _ _=b3;have b4:bG (jk b3 g #[js R r.A T,js n1 r.O Y,jq c0 0 ((A n).length+1) c9,p.G[i1].sec] 184):=by show _=_;rw[<-hWN];simp[cd,Nk,hB9]
     have b5:bG (aG b3 V (jq c0 0 ((A n).length+1) c9) (A (n+1))):=by
      show aG _ _ _ _;rw[a2.o,<-hWN];exact aV (by simpa [aG,Dg,pP]using hown9) L0.o _
     have b6:bG (V.grownBy b3 (bt g)):=by
      show aj.grownBy _ _ _;rw[<-hWN];refine⟨H.os.trans B.o.os,H.tape.trans B.o.tape,H.output.trans B.o.output,by simp[cd];exact Nj B.o.size H.size,fun i N u=> ?_⟩;refine(Ny _ _ _ i (fun e=>u (by rw[e]))).trans ((H.block i N).trans (B.o.block i N u))
     have f5:bG ((A n).length+1=(A (n+1)).length):=(by show _=_;rw[a2.o];simp);clear hWN hown9 y H hB9 b1 Q b2 s1 s2 s3 s4;go_roundg (L.length-(n+1))
     ·go_light;exact⟨n+1,_,bt ⟨c0,0,bn⟩,c9,by omega,by omega,by go_num,f5.o,b6.o,b4.o,b5.o⟩
     go_light;omega
    have o7:ab ((0:ar)<j9)=aW:=by simp;omega
    have a2:bG (A (n+1)=A n):=by
     show _=_;rw[l.o,Nm d2.o,d3.o,Nm b0,Sh]
    clear b0 l d3;go_wp2_with fail;go_roundg (L.length-(n+1))
    ·go_light;exact⟨n+1,_,aa,ca,by omega,by omega,by go_num,rfl,B.o,by rw[a2.o];exact a9.o,by rw[a2.o];exact H9.o⟩
    go_light;omega
   have A6:ab ((0:ar)<=e1)=aW:=(by simp;omega);by_cases b0:0<b9
   ·have o7:ab ((0:ar)<b9)=bl:=by simp[b0]
    have a2:bG (A (n+1)=A n++[⟨p.S[m].pt,b9,n⟩]):=by
     show _=_;rw[l.o,Nm d2.o,Nm f0,Np b0]
    clear f0 b0 l;have s1:jc V8 g8 1 p.S[m].pt:=jr H8.o;have s2:jc V8 g 2 (js aa (A n).length ca):=jr H1.o;have s3:=Mt s1;have s4:=Mt s2;have f4:(A n).length<=1000:=(by have:=HL.o;omega);have P:V.heap.size<=V8.heap.size:=c.o.size;go_wp2_with (at_builtin;refine nT rfl _ _ 182 281 _ _ 3 24 rfl underlying182 vL rfl (by decide) (by decide) V (js aa (A n).length ca) (A n).length _ rfl H0.o f4 P [jV p.S[m].pt,jV b9,jV n] rfl rfl (uN _ _ _) ?_;intro c0 c9 w9 hown9 y;have H:cB V V8 w9:=((Nb _ _).alloc P _).trans (dT (H0.o.alloc _) (Mv _) (by simp<;>omega) y);have hB9:=(H.block _ L0.o).trans H1.o;have b1:w9.frozen? ⟨g,2,bn⟩=aW:=(by simp[aj.frozen?,hB9]);have Q:jc w9 g 2 (js aa (A n).length ca):=jr hB9;have b2:=Mt Q);generalize hWN:cd _ _ _=b3;have b4:bG (jk b3 g #[js R r.A T,js n1 r.O Y,jq c0 0 ((A n).length+1) c9,p.G[i1].sec] 184):=by show _=_;rw[<-hWN];simp[cd,Nk,hB9]
    have b5:bG (aG b3 V (jq c0 0 ((A n).length+1) c9) (A (n+1))):=by
     show aG _ _ _ _;rw[a2.o,<-hWN];exact aV (by simpa [aG,Dg,pP]using hown9) L0.o _
    have b6:bG (V.grownBy b3 (bt g)):=by
     show aj.grownBy _ _ _;rw[<-hWN];refine⟨H.os.trans c.o.os,H.tape.trans c.o.tape,H.output.trans c.o.output,by simp[cd];exact Nj c.o.size H.size,fun i N u=> ?_⟩;refine(Ny _ _ _ i (fun e=>u (by rw[e]))).trans ((H.block i N).trans (c.o.block i N u))
    have f5:bG ((A n).length+1=(A (n+1)).length):=(by show _=_;rw[a2.o];simp);clear hWN hown9 y H hB9 b1 Q b2 s1 s2 s3 s4;go_roundg (L.length-(n+1))
    ·go_light;exact⟨n+1,_,bt ⟨c0,0,bn⟩,c9,by omega,by omega,by go_num,f5.o,b6.o,b4.o,b5.o⟩
    go_light;omega
   have o7:ab ((0:ar)<b9)=aW:=by simp;omega
   have a2:bG (A (n+1)=A n):=by
    show _=_;rw[l.o,Nm d2.o,Nm f0,Nm b0,Sh]
   clear f0 b0 l;go_wp2_with fail;go_roundg (L.length-(n+1))
   ·go_light;exact⟨n+1,_,aa,ca,by omega,by omega,by go_num,rfl,c.o,by rw[a2.o];exact H1.o,by rw[a2.o];exact H0.o⟩
   go_light;omega
 obtain rfl:n=L.length:=(by omega);have n7:ab ((L:ar)<(L:ar))=aW:=(by simp);subst j1;have HL:=hI (e4.o L);have k2:bG (MA=A L++r.fl.map fun f=>⟨f.pt,f.lie,-1⟩):=g7.o;clear g7 g6 e4 HE g9 d6 d8 d9;obtain⟨D3,D4,o8,k4⟩:=d7.o.fl;cases o8;have p7:=hI k4;clear k4;have w4:r.fl.length<=8796093022208:=(by omega);go_wp2_with fail;go_loopg [14] r.fl.length (fun n4 p8 wr=> ∃(k:av) (aa:ax bR) (ca:av) (X:aq dV),k<=r.fl.length/\n4=r.fl.length-k/\p8= jV k/\X=A L++(r.fl.take k).map (fun f=>(⟨f.pt,f.lie,-1⟩:dV))/\V.grownBy wr (bt g)/\jk wr g #[js R r.A T,js n1 r.O Y,js aa X ca,p.G[i1].sec] 184/\aG wr V (js aa X ca) X)
 ·exact⟨0,aa,ca,A L,by omega,by omega,rfl,by simp,M.o,l0.o,n6.o⟩
 obtain⟨k,aa,ca,X,D5,rfl,rfl,f6,J,hj,j2⟩:=hrel;obtain⟨C,rfl⟩: ∃C:aj,C=wr:=⟨_,rfl⟩;have k5:=hI f6;have e2:=hI J;have d4:=hI hj;have f7:=hI j2;have K1:=hI (K2.o _ J);have hr:=jm K1.o m6.o;have A9:X.length<=100:=(by rw[f6,Mx,Pn,Dn];have:=HL.o;omega);clear J hj j2 f6;have r0:jc C W1 5 (js m1 r.fl m3):=jr hr;have p9:=Mt r0;clear hr;by_cases D:k<r.fl.length
 ·have q5:ab ((k:ar)<(r.fl:ar))=bl:=(by simp;omega);obtain⟨D6,D7,q6,w5,w6⟩:=(p7.o.below zJ K1.o).fl D;subst q6;have o2:(0:ar)<=(k:ar):=(by omega);have e3:(k:ar)<(r.fl:ar):=(by omega);have s2:jc C g 2 (js aa X ca):=jr d4.o;go_upto_region 18 with fail;have q7:=fun t:Gw C=>t.cel w5;have q8:=fun t:Gw C=>t.cel w6;have q9:=fun t:Gw C=>t.cel s2;have r4:=fun t:Gw C=>t.cel r0;refine zD [16] ?_;intro U c1;refine zB [0,1,2,3,4,5,6,7,8,9,10,11,12,13,14] c1 ?_;have k6:=hI (bU f7.o c1);have r5:=hI ((jm c1 d4.o));have H2:bG (V.grownBy U (bt g)):=⟨c1.os.trans e2.o.os,c1.tape.trans e2.o.tape,c1.output.trans e2.o.output,Nj e2.o.size c1.size,fun i N u=>(c1.block i (Nl N e2.o.size)).trans (e2.o.block i N u)⟩;clear q7 q8 q9 r4 w5 w6 s2 r0 p9;have P:V.heap.size<=U.heap.size:=H2.o.size;refine aS 15 (by kernel_rfl) ?_;intro K w7;simp[wpOp,go_sem];refine .inl (w7 _ _ (fun _=>jt c1 aR) ?_);clear w7 K c1
  conv=>arg 8;simp[cq]
  refine pG [16,17,18] (by kernel_rfl) (by simp) ?_;simp only[eE,Db,aq.getElem?_cons_zero,Nt,ax.toList_some,Nz,Dd];go_wp2_with (at_builtin;refine nT rfl _ _ 182 281 _ _ 3 24 rfl underlying182 vL rfl (by decide) (by decide) V (js aa X ca) X _ rfl k6.o (by omega) P [jV r.fl[k].pt,jV r.fl[k].lie,jV (-1)] rfl rfl (uN _ _ _) ?_;intro c0 c9 w9 hown9 y;have H:cB V U w9:=((Nb _ _).alloc P _).trans (dT (k6.o.alloc _) (Mv _) (by simp<;>omega) y);have hB9:=(H.block _ L0.o).trans r5.o;have b1:w9.frozen? ⟨g,2,bn⟩=aW:=(by simp[aj.frozen?,hB9]);have Q:jc w9 g 2 (js aa X ca):=jr hB9;have b2:=Mt Q);generalize hWN:cd _ _ _=b3;have b4:bG (jk b3 g #[js R r.A T,js n1 r.O Y,jq c0 0 (X.length+1) c9,p.G[i1].sec] 184):=by show _=_;rw[<-hWN];simp[cd,Nk,hB9]
  have b5:bG (aG b3 V (jq c0 0 (X.length+1) c9) (X++[⟨r.fl[k].pt,r.fl[k].lie,-1⟩])):=by
   show aG _ _ _ _;rw[<-hWN];exact aV (by simpa [aG,Dg,pP]using hown9) L0.o _
  have b6:bG (V.grownBy b3 (bt g)):=by
   show aj.grownBy _ _ _;rw[<-hWN];refine⟨H.os.trans H2.o.os,H.tape.trans H2.o.tape,H.output.trans H2.o.output,by simp[cd];exact Nj H2.o.size H.size,fun i N u=> ?_⟩;exact(Ny _ _ _ i (fun e=>u (by rw[e]))).trans ((H.block i N).trans (H2.o.block i N u))
  have r6:bG (X++[⟨r.fl[k].pt,r.fl[k].lie,-1⟩]=A L++(r.fl.take (k+1)).map (fun f=>(⟨f.pt,f.lie,-1⟩:dV))):=by
   show _=_;rw[k5.o,Dc D,Pr,Dk];rfl
  clear hWN hown9 y H hB9 b1 Q b2;go_roundg (r.fl.length-(k+1))
  ·go_light;exact⟨k+1,_,c9,_,by omega,by omega,by go_num,r6.o,b6.o,by rw[Mx];exact b4.o,by rw[Mx];exact b5.o⟩
  go_light;omega
 obtain rfl:k=r.fl.length:=(by omega);have q5:ab ((r.fl:ar)<(r.fl:ar))=aW:=(by simp);have r7:bG (X=MA):=(by show _=_;rw[k2.o,k5.o,Ph]);obtain rfl:=r7.o;have z:jk C g #[js R r.A T,js n1 r.O Y,js aa X ca,p.G[i1].sec] 184:=d4.o;have d5:=B2.o _ (K3.o _ e2.o);have D8: ∀o,C.frozen? ⟨w+1,o,bn⟩=aW:=fun o=>by simp[aj.frozen?,d5]
 have lz:=aD d5
 have B3:=aD z;obtain⟨y1,D9,E0,E1⟩:=sX (z);obtain⟨z0,z1,z2,z3⟩:=sX (d5);have b7:bG (w+1<V.heap.size):=(by have:=aD B0.o.2;have:=n2.o.size;have:=g2.o.size;show _<_;omega);have r8:=hI f7.o;have w8:=hI (d7.o.below K1.o);clear z d5 d4 f7;go_wp2_with fail;generalize o9:cd _ _ _=f8;have o2:jc f8 (w+1) 0 (js R r.A T):=(by rw[<-o9];simp[go_sem,lz,z0,z1,z2,z3]);have e3:jc f8 (w+1) 1 (js n1 r.O Y):=(by rw[<-o9];simp[go_sem,lz,z0,z1,z2,z3]);have k8:jc f8 (w+1) 2 (js aa X ca):=(by rw[<-o9];simp[go_sem,lz,z0,z1,z2,z3]);have k9:jc f8 (w+1) 3 p.G[i1].sec:=(by rw[<-o9];simp[go_sem,lz,z0,z1,z2,z3]);have B4:bG (jb w f8):=by show cB _ _ _;rw[<-o9];exact Di (Di (Di (Di ((g1.o _ (K3.o _ e2.o))) (by simp) _) (by simp) _) (by simp) _) (by simp) _
 have r9:bM C W0 (js R r.A T) (js n1 r.O Y) (js m1 r.fl m3) r:=by
  have F:=H6.o _ (jo K7 K1.o);exact⟨bU H5.o.1 F,bU H5.o.2.1 F,bU H5.o.2.2 F⟩
 have k7:bM f8 W0 (js R r.A T) (js n1 r.O Y) (js m1 r.fl m3) r:=by
  rw[<-o9];have D:w.heap.size+1<W0.heap.size:=aD B0.o.2;exact bM.setCell (bM.setCell (bM.setCell (bM.setCell r9 D _) D _) D _) D _
 have s0:=hI k7.1;have s5:=hI k7.2.1;have M3:bG (aG f8 V (js aa X ca) X):=(by show aG _ _ _ _;rw[<-o9];exact aV (aV (aV (aV (r8.o) b7.o _) b7.o _) b7.o _) b7.o _);refine Nh (v:=cZ #[js R r.A T,js n1 r.O Y,js aa X ca,p.G[i1].sec]) (by simp[results,Tryz.f217,go_sem,o2,e3,k8,k9]) rfl ?_;exact⟨R,T,n1,Y,aa,ca,rfl,bW s0.o K0.o.size,bW s5.o K0.o.size,bW M3.o (by have:=b7.o;omega),B4.o⟩
