/- Walks and plain laws for the statement. -/
import Derived.Test.YtbiehpjhhopjaaaGreatT13
import Derived.Lib.SmallJoins
set_option linter.all false
set_option maxRecDepth 100000
set_option maxHeartbeats 16000000
namespace Go.Proofs.YtbiehpjhhopjaaaGreat
open Go.RowKit Go.Sort Tryz
variable {cs:List Value}{W W' w:World}{e t:TypeId}{g m sz:Nat}{x:Hs}{key:List Int}{A:Array Value}{z:Int}
structure Bg (w:World) (g:Nat) (A:Array Value) (R:Array Value) (W:World):Prop where
 fr:Fr w [(A,35)] W
 lo:w.heap.size+1<=g
 row:jk W g R 124
def Bg.below {R:Array Value}(h:Bg w g A R W) (H:jb W W'):Bg w g A R W':=
 ⟨h.fr.below H,h.lo,(jm H h.row)⟩
def Bg.onl {R r:Array Value}(h:Bg w g A R W) (H:aZ g W W') (a:jk W' g r 124):Bg w g A r W':=
 ⟨h.fr.low (H.below Qy h.lo),h.lo,a⟩
def Bg.sets {R:Array Value}(h:Bg w g A R W) (o:Nat) (v:List Value):Bg w g A (nZ R o v) (W.setCells g o v):=
 h.onl (aZ.cells g v o W) (yQ (W:=W) v o _ _ h.row)
def tV {o k:Nat}{cs:Array Value}{T:TypeId}(hB9:jk W g cs T) (H:o+k<=cs.size):W.there g o k:=fun j hj=>by
 refine⟨?_,Kl⟩;rw[Mu W _ (o+j) _ _ _ hB9,Sa ed];rfl
def yaq (a:Nat->Option Addr) (c:Nat->Nat) (x:Hs) (e:Int):nZ (cY nA nC aK e) 0 (aE a c x).toList=cY a c x e:=by
 unfold cY aE;simp[nZ]
def NP (W:World) (N:Nat):mJ W N nA nC aK:=⟨⟨(oF _).key,(oF _).pl,(oF _).bk,(oF _).st,(oF _).nx⟩,Nw _ _ _ _⟩
def NO (w:World) (x:Hs) (e:Ending) (w':World):Prop:= ∃g a c,e= .returned (jp g 0)/\w.heap.size<=g/\jk w' g (cY a c (if dH x=0 then x else aK) (dH x)) 124/\
 mJ w' (g+1) a c (if dH x=0 then x else aK)/\jb w w'
theorem yar (x:Hs) (a:Nat->Option Addr) (c:Nat->Nat) (w:World) (hx:dK w a c x) (E6:x.Fit):jW 76 #[cV a c x] w (NO w x):=by
 have c7:Hid (∀W,jb w W->jW 31 #[.agg (aE a c x)] W (uZ W (if gD x=true then 0 else 8))):=fun W H=>QH x a c W (hx.below H) E6;refine Xg fun a6 a7=>?_;obtain⟨m,A⟩: ∃m,m=(if gD x=true then(0:Int)else 8):=⟨_,rfl⟩;rw[<-A]at c7;have a9:=hI A;clear hx E6 A;obtain⟨y,c8⟩: ∃y,y=(if dH x=0 then x else aK):=⟨_,rfl⟩;unfold NO;rw[<-c8];have a2:=hI c8;clear c8;obtain⟨E,Z⟩: ∃E,E=dH x:=⟨_,rfl⟩;rw[<-Z]at a2 ⊢;have a8:=hI Z;clear Z;unfold cV;go_enter func76,ntmps76;go_upto_region 1 with fail;generalize b1:World.alloc _ _=W0;have F:=hI (jH b1)
 clear b1;refine Xl ?_;go_upto_region 2 with(go_at_call 31;refine(c7 W0 F.bel).mono ?_;refine Qe fun W1 H=>?_;have F1:=hI (F.below H);clear H);have b2:w.heap.size+1<=W1.heap.size:=F1.sz;refine Kb fun g c9=>?_;refine Qq fun W2 b3=>?_
 have B:Hid (Bg w g (aE a c x) (cY nA nC aK m) W2):=by
  show Bg _ _ _ _ _;rw[<-b3,c9];exact⟨F1.below aR,b2,Nc _ _⟩
 rw[<-c9]at b2 ⊢;clear b3 c9 F F1 c7;obtain⟨e0,d3,-⟩:=BU B.row;by_cases A:gD x=true
 ·have m0:m=0:=by rw[a9.o,Np A]
  subst m0;cases hh:x.halted
  ·have Z:E=0:=(by rw[a8.o];unfold dH;rw[Np A,hh];rfl);subst Z;obtain rfl:x=y:=(by rw[a2.o,Np rfl]);clear a8 a2;have b0:jc W2 w 24 (.bool x.halted):=jr (B.fr.row 0 _ rfl);rw[hh]at b0;have lb:=aD (B.fr.row 0 _ rfl);clear A hh a9;go_upto_region 5 with fail;clear e0 b0;have b4:W2.there g 0 (aE a c x).size:=tV B.row Ee
   iterate 4 go_step
   refine gP rfl (.tmp 1) rfl rfl (B.fr.row 0 _ rfl) ?_;simp only[Act.put];go_upto_region 6 with(refine sA rfl 35 (.tmp 28) (.tmp 26) rfl g 0 (aE a c x) rfl rfl b4 cQ (fQ _ _ _) ?_);have B3:=hI (B.sets 0 (aE a c x).toList);rw[yaq]at B3;generalize d4:World.setCells _ _ _ _=W3 at *;clear d4;simp only[Act.put];clear B b4 d3 lb;have e7:jc W3 w 0 (js (a 0) x.key (c 0)):=jr (B3.fr.row 0 _ rfl);have x0:jc W3 w 17 (js (a 12) x.buf (c 12)):=jr (B3.fr.row 0 _ rfl);have lb:w.heap.size<W3.heap.size:=aD (B3.fr.row 0 _ rfl);refine pK [8] [0,1,2,3,5,6] ef Qd ef ?_;intro V e1 e2;have f2:=fun t:Gw W3=>t.cel e7;have t0:=fun t:Gw W3=>t.cel x0;have l0:=fun t:Gw W3=>t.lt lb;refine Oj ?_
   repeat (go_big_quiet_step (fail))
   refine wpQuiet_nil ?_;clear f2 t0 l0 e7 x0 lb;have c4:=hI (B3.below e1);refine aS 4 ef ?_;refine Oe (UN _ _ x.key V (a6 V c4.fr.bel).key (by have:=a7.key;omega)) fun K hK=>?_;rintro e V1 ⟨u1,rfl,h1,H⟩;simp[go_sem];have D0:=jt e1 H;refine Ob ?_;have B5:=hI (c4.below H);obtain⟨Y,d0,rfl⟩:=rR h1;have k:=hI (BF h1 (uA (n:=g+1) (aD c4.row)));clear hK K h1 H c4 e1;refine aS 7 ef ?_;refine Oe (UN _ _ x.buf V1 (a6 V1 B5.fr.bel).buf (by have:=a7.buf;omega)) fun K hK=>?_;rintro e V2 ⟨u2,rfl,h1,H⟩;simp[go_sem];refine hK _ _ (fun _=>jt D0 H) ?_;have a3:=hI (B5.below H);obtain⟨f,D,rfl⟩:=rR h1;have BO:=hI (bW (base':=g+1) h1 (aD B5.row));replace k:=hI (aB.ext iX k (vN h1 H));clear hK K h1 H B5 D0;refine pG [8,9,10,11,12,13,14,15] ef ee ?_;refine Oj ?_;have f3:=ji 0 a3.row;have e3:=ji 17 a3.row;have d3:=aD a3.row;have fz: ∀o,V2.frozen? ⟨g,o,none⟩=false:=fun o=>by simp[World.frozen?,a3.o.row]
   refine Vc ?_;clear f3 e3 d3 fz B3 e2;have b:=(aZ.set V2 ⟨g,0,none⟩ (js Y x.key d0)).trans (aZ.set _ ⟨g,17,none⟩ (js f x.buf D));have c5:Hid (Bg w g (aE a c x) (cY (up (up a 0 Y) 12 f) (up (up c 0 d0) 12 D) x 0) _):=a3.onl b (qW (qW a3.row));replace k:=hI (aB.ext iX k (b.off (fV Qt)));replace BO:=hI (b.own BO Xe);generalize World.setCell _ _ _=wo at *;clear b a3;obtain⟨-,q0,q1,q2,q3,q4,e8,e9,f0,f1,x1,x2,x3,-,x4,x5,x6,-,x7,x8,x9,b9,c0,c1,-⟩:=nN (show wo.heap[w.heap.size]? =_ from c5.fr.row 0 _ rfl);have lb:w.heap.size<wo.heap.size:=aD (c5.fr.row 0 _ rfl);refine pK [16] [0,1,2,3,4,5,7,8,10,11,13,14] ef Qd ef ?_;intro U c2 e2;refine Zc fun f4 f5 f6 f7 f8=>?_;have f9:=fun t:Gw wo=>t.cel e8;have g0:=fun t:Gw wo=>t.cel e9;have g1:=fun t:Gw wo=>t.cel f0;have g2:=fun t:Gw wo=>t.cel f1;have t1:=fun t:Gw wo=>t.cel x1;have t2:=fun t:Gw wo=>t.cel x2;have t3:=fun t:Gw wo=>t.cel x3;have t4:=fun t:Gw wo=>t.cel x7;have t5:=fun t:Gw wo=>t.cel x8;have t6:=fun t:Gw wo=>t.cel x9;have t7:=fun t:Gw wo=>t.cel b9;have t8:=fun t:Gw wo=>t.cel c0;have t9:=fun t:Gw wo=>t.cel c1;have e4:=fun t:Gw wo=>t.cel x4;have e5:=fun t:Gw wo=>t.cel x5;have e6:=fun t:Gw wo=>t.cel x6;have l0:=fun t:Gw wo=>t.lt lb;refine Oj ?_
   repeat (go_big_quiet_step (fail))
   refine wpQuiet_nil ?_;clear f4 f5 f6 f7 f8 f9 g0 g1 g2 t1 t2 t3 t4 t5 t6 t7 t8 t9 e4 e5 e6 q0 q1 q2 q3 q4 e8 e9 f0 f1 x1 x2 x3 x7 x8 x9 b9 c0 c1 x4 x5 x6 l0 lb;have c6:=hI (c5.below c2);replace k:=hI (aB.ext iX k (eV c2));replace BO:=hI (bU BO c2);clear c5;refine aS 6 ef ?_;refine Oe (GU x.pl _ _ _ _ U (a6 U c6.fr.bel).pl a7.pl) fun K hK=>?_;rintro e U6 ⟨C,d1,G,d2,I,J,L,M,rfl,h1,H⟩;unfold aT;simp[go_sem];have a4:=jt c2 H;refine hK _ _ (fun _=>a4) ?_;have B9:=hI (c6.below H);replace k:=hI (aB.ext iX k (eV H));have P:=hI (h1.ext (EX BO (aD c6.row)));replace BO:=hI (bU BO H);clear hK K h1 H c6 c2;refine aS 9 ef ?_;refine Oe (GU x.bk _ _ _ _ U6 (a6 U6 B9.fr.bel).bk a7.bk) fun K hK=>?_;rintro e U9 ⟨b5,d5,b6,d6,b7,d7,b8,d8,rfl,h1,H⟩;unfold aT;simp[go_sem];have a5:=jt a4 H;refine hK _ _ (fun _=>a5) ?_;have B0:=hI (B9.below H);replace k:=hI (aB.ext iX k (eV H));replace P:=hI (P.ext (eV H));have z:=hI (h1.ext (EX BO (aD B9.row)));replace BO:=hI (bU BO H);clear hK K h1 H B9 a4;refine aS 12 ef ?_;refine Oe (GU x.nx _ _ _ _ U9 (a6 U9 B0.fr.bel).nx a7.nx) fun K hK=>?_;rintro e U0 ⟨i,j,l,p,q,r,s,u,rfl,h1,H⟩;unfold aT;simp[go_sem];have N:=jt a5 H;refine hK _ _ (fun _=>N) ?_;have B1:=hI (B0.below H);replace k:=hI (aB.ext iX k (eV H));replace P:=hI (P.ext (eV H));replace z:=hI (z.ext (eV H));have O:=hI (h1.ext (EX BO (aD B0.row)));replace BO:=hI (bU BO H);clear hK K h1 H B0 a5;refine aS 15 ef ?_;refine Oe (z2n x.st _ _ _ U0 (a6 U0 B1.fr.bel).st a7.st) fun K hK=>?_;rintro e U1 ⟨c3,d9,Q,R,T,X,rfl,h1,H⟩;simp[go_sem];have a1:=jt N H;refine hK _ _ (fun _=>a1) ?_;have B7:=hI (B1.below H);replace k:=hI (aB.ext iX k (eV H));replace P:=hI (P.ext (eV H));replace z:=hI (z.ext (eV H));replace O:=hI (O.ext (eV H));have a0:=hI (h1.off (yai BO (aD B1.row)));replace BO:=hI (bU BO H);clear hK K h1 H B1 N;refine pG [16,17,18,19,20,21,22,23,24,25,26,27,28,29,30,31] ef ee ?_;refine Oj ?_;clear a1 e2
   try simp only[Act.put]
   iterate 9 go_step
   refine sA rfl 28 (.tmp 61) (.tmp 49) rfl g 1 #[x.pl.ver,x.pl.par,js C x.pl.S d1,js G x.pl.P d2,js I x.pl.G J,js L x.pl.R M] rfl rfl (tV B7.row Ee) ef Qj ?_;have b:=aZ.cells g [jV x.pl.ver,jV x.pl.par,.slice C x.pl.S d1,.slice G x.pl.P d2,.slice I x.pl.G J,.slice L x.pl.R M] 1 U1;have B2:=hI (B7.sets 1 [jV x.pl.ver,jV x.pl.par,.slice C x.pl.S d1,.slice G x.pl.P d2,.slice I x.pl.G J,.slice L x.pl.R M]);rw[show nZ (cY (up (up a 0 Y) 12 f) (up (up c 0 d0) 12 D) x 0) 1 [jV x.pl.ver,jV x.pl.par,.slice C x.pl.S d1,.slice G x.pl.P d2,.slice I x.pl.G J,.slice L x.pl.R M]=cY (bA (up (up a 0 Y) 12 f) 1 C G I L) (bA (up (up c 0 d0) 12 D) 1 d1 d2 J M) x 0 from rfl]at B2;replace k:=hI (aB.ext iX k (b.off (fV Qt)));replace P:=hI (P.ext (b.off (fV Qt)));replace z:=hI (z.ext (b.off (fV Qt)));replace O:=hI (O.ext (b.off (fV Qt)));replace a0:=hI (fU.ext a0 (b.off (fV Qt)));replace BO:=hI (b.own BO Xe);clear b B7
   try simp only[Act.put]
   generalize v:World.setCells _ _ _ _=W4 at *;clear v
   iterate 9 go_step
   refine sA rfl 28 (.tmp 64) (.tmp 52) rfl g 7 #[x.bk.ver,x.bk.par,js b5 x.bk.S d5,js b6 x.bk.P d6,js b7 x.bk.G d7,js b8 x.bk.R d8] rfl rfl (tV B2.row Ee) ef Qj ?_;have b:=aZ.cells g [jV x.bk.ver,jV x.bk.par,.slice b5 x.bk.S d5,.slice b6 x.bk.P d6,.slice b7 x.bk.G d7,.slice b8 x.bk.R d8] 7 W4;have B4:=hI (B2.sets 7 [jV x.bk.ver,jV x.bk.par,.slice b5 x.bk.S d5,.slice b6 x.bk.P d6,.slice b7 x.bk.G d7,.slice b8 x.bk.R d8]);rw[show nZ (cY (bA (up (up a 0 Y) 12 f) 1 C G I L) (bA (up (up c 0 d0) 12 D) 1 d1 d2 J M) x 0) 7 [jV x.bk.ver,jV x.bk.par,.slice b5 x.bk.S d5,.slice b6 x.bk.P d6,.slice b7 x.bk.G d7,.slice b8 x.bk.R d8]=cY (bA (bA (up (up a 0 Y) 12 f) 1 C G I L) 5 b5 b6 b7 b8) (bA (bA (up (up c 0 d0) 12 D) 1 d1 d2 J M) 5 d5 d6 d7 d8) x 0 from rfl]at B4;replace k:=hI (aB.ext iX k (b.off (fV Qt)));replace P:=hI (P.ext (b.off (fV Qt)));replace z:=hI (z.ext (b.off (fV Qt)));replace O:=hI (O.ext (b.off (fV Qt)));replace a0:=hI (fU.ext a0 (b.off (fV Qt)));replace BO:=hI (b.own BO Xe);clear b B2
   try simp only[Act.put]
   generalize v:World.setCells _ _ _ _=W5 at *;clear v
   iterate 9 go_step
   refine sA rfl 28 (.tmp 67) (.tmp 55) rfl g 18 #[x.nx.ver,x.nx.par,js i x.nx.S j,js l x.nx.P p,js q x.nx.G r,js s x.nx.R u] rfl rfl (tV B4.row Ee) ef Qj ?_;have b:=aZ.cells g [jV x.nx.ver,jV x.nx.par,.slice i x.nx.S j,.slice l x.nx.P p,.slice q x.nx.G r,.slice s x.nx.R u] 18 W5;have B6:=hI (B4.sets 18 [jV x.nx.ver,jV x.nx.par,.slice i x.nx.S j,.slice l x.nx.P p,.slice q x.nx.G r,.slice s x.nx.R u]);rw[show nZ (cY (bA (bA (up (up a 0 Y) 12 f) 1 C G I L) 5 b5 b6 b7 b8) (bA (bA (up (up c 0 d0) 12 D) 1 d1 d2 J M) 5 d5 d6 d7 d8) x 0) 18 [jV x.nx.ver,jV x.nx.par,.slice i x.nx.S j,.slice l x.nx.P p,.slice q x.nx.G r,.slice s x.nx.R u]=cY (bA (bA (bA (up (up a 0 Y) 12 f) 1 C G I L) 5 b5 b6 b7 b8) 13 i l q s) (bA (bA (bA (up (up c 0 d0) 12 D) 1 d1 d2 J M) 5 d5 d6 d7 d8) 13 j p r u) x 0 from rfl]at B6;replace k:=hI (aB.ext iX k (b.off (fV Qt)));replace P:=hI (P.ext (b.off (fV Qt)));replace z:=hI (z.ext (b.off (fV Qt)));replace O:=hI (O.ext (b.off (fV Qt)));replace a0:=hI (fU.ext a0 (b.off (fV Qt)));replace BO:=hI (b.own BO Xe);clear b B4
   try simp only[Act.put]
   generalize v:World.setCells _ _ _ _=W6 at *;clear v
   iterate 9 go_step
   refine sA rfl 33 (.tmp 70) (.tmp 58) rfl g 14 #[js c3 x.st.tks d9,js Q x.st.sws R,js T x.st.lks X] rfl rfl (tV B6.row Ee) ef Qj ?_;have b:=aZ.cells g [.slice c3 x.st.tks d9,.slice Q x.st.sws R,.slice T x.st.lks X] 14 W6;have B8:=hI (B6.sets 14 [.slice c3 x.st.tks d9,.slice Q x.st.sws R,.slice T x.st.lks X]);rw[show nZ (cY (bA (bA (bA (up (up a 0 Y) 12 f) 1 C G I L) 5 b5 b6 b7 b8) 13 i l q s) (bA (bA (bA (up (up c 0 d0) 12 D) 1 d1 d2 J M) 5 d5 d6 d7 d8) 13 j p r u) x 0) 14 [.slice c3 x.st.tks d9,.slice Q x.st.sws R,.slice T x.st.lks X]=cY (up (up (up (bA (bA (bA (up (up a 0 Y) 12 f) 1 C G I L) 5 b5 b6 b7 b8) 13 i l q s) 9 c3) 10 Q) 11 T) (up (up (up (bA (bA (bA (up (up c 0 d0) 12 D) 1 d1 d2 J M) 5 d5 d6 d7 d8) 13 j p r u) 9 d9) 10 R) 11 X) x 0 from rfl]at B8;replace k:=hI (aB.ext iX k (b.off (fV Qt)));replace P:=hI (P.ext (b.off (fV Qt)));replace z:=hI (z.ext (b.off (fV Qt)));replace O:=hI (O.ext (b.off (fV Qt)));replace a0:=hI (fU.ext a0 (b.off (fV Qt)));replace BO:=hI (b.own BO Xe);clear b B6
   try simp only[Act.put]
   generalize v:World.setCells _ _ _ _=W7 at *;clear v;refine ei ?_;exact⟨g,_,_,rfl,ed,B8.row,⟨⟨k,P,z,a0,O⟩,BO⟩,B8.fr.bel⟩
  have Z:E=300:=(by rw[a8.o];unfold dH;rw[Np A,hh];rfl);subst Z;obtain rfl:y=aK:=(by rw[a2.o,Nm eh]);have b0:jc W2 w 24 (.bool x.halted):=jr (B.fr.row 0 _ rfl);rw[hh]at b0;have lb:=aD (B.fr.row 0 _ rfl);have fz: ∀o,W2.frozen? ⟨g,o,none⟩=false:=fun o=>by simp[World.frozen?,B.o.row]
  have B3:=hI (B.onl (aZ.set W2 ⟨g,25,none⟩ (jV 300)) (qW B.row));clear A hh a9 a8 a2;refine ei ?_;exact⟨g,nA,nC,rfl,ed,B3.row,NP _ _,B3.fr.bel⟩
 have Z:E=8:=by rw[a8.o];unfold dH;rw[Nm A]
 subst Z;obtain rfl:y=aK:=by rw[a2.o,Nm eh]
 have m0:m=8:=by rw[a9.o,Nm A]
 subst m0;clear a8 a2 a9 A;refine ei ?_;exact⟨g,nA,nC,rfl,ed,B.row,NP _ _,B.fr.bel⟩
def iT (x:Hs):Hs × Int:=if dH x=0 then({x with nx:=bV,buf:=[]},0)else(aK,dH x)
abbrev oQ (a:Nat->Option Addr) (b1 b2 b3 b4:Option Addr):Nat->Option Addr:=up (bA a 13 b1 b2 b3 b4) 12 none
abbrev oP (c:Nat->Nat) (d1 d2 d3 d4:Nat):Nat->Nat:=up (bA c 13 d1 d2 d3 d4) 12 0
def BS {a:Nat->Option Addr}{c:Nat->Nat}(h:dK W a c x){p:Pl}{b1 b2 b3 b4:Option Addr}{d1 d2 d3 d4:Nat}(H:bN W (js b1 p.S d1) (js b2 p.P d2) (js b3 p.G d3) (js b4 p.R d4) p):
  dK W (oQ a b1 b2 b3 b4) (oP c d1 d2 d3 d4) {x with nx:=p,buf:=[]}:=⟨h.key,h.pl,h.bk,h.st,EU _ _ _,H⟩
theorem yas (x:Hs) (a:Nat->Option Addr) (c:Nat->Nat) (w:World) (hx:dK w a c x) (E6:x.Fit):jW 30 #[cV a c x] w (vM w (iT x)):=by
 refine ZV fun s=>?_;refine Ms fun u=>?_;unfold cV;go_in;go_upto_region 1 with fail;generalize j:World.alloc (World.alloc _ _) _=W0;have F:Hid (Fr w [(aE a c x,35),(aE nA nC aK,35)] W0):=by show Fr _ _ _;rw[<-j];exact((Fr.start w).alloc rfl _ 35).alloc ee _ 35
 go_step;refine gP rfl (.tmp 1) rfl rfl (F.row 0 _ rfl) ?_;simp[Act.put];go_upto_region 2 with(go_at_call 79;refine(s W0 F.bel).mono ?_;refine Qe fun W1 b=>?_;have F1:=hI (F.below b));by_cases hz:dH x=0
 ·have HE:Hid (iT x=({x with nx:=bV,buf:=[]},0)):=by show iT x=_;unfold iT;rw[Np hz]
  rw[hz];go_upto_region 4 with fail;go_step;refine gP rfl (.tmp 1) rfl rfl (F1.row 0 _ rfl) ?_;simp[Act.put];go_upto_region 5 with(first | (go_at_call 24;refine(u W1 F1.bel).mono ?_;refine Ou fun W2 a' c' h1 b=>?_;unfold cV;have H:=hI (h1.ext (kT (n:=w.heap.size+2) F1.sz));have F2:=hI (F1.below b)) | (refine bP rfl 35 (.tmp 1) (.tmp 12) rfl w (aE a' c' x) _ 35 rfl rfl (F2.row 0 _ rfl) cQ rfl (fQ _ _ _) ?_))
  have d:aZ w W2 (W2.setRow w (aE a' c' x)):=⟨rfl,rfl,rfl,Qx,fun k l=>Nq _ _ _ _ l⟩;refine Yb fun F3=>?_;replace H:=hI (H.ext (d.off (dC ee)));simp only[Act.put];generalize World.setRow _ _ _=q at *;go_upto_region 6 with(refine sA rfl 28 (.tmp 14) (.tmp 13) rfl w 18 cW rfl rfl (F3.there (i:=0) rfl (show 18+6<=25 by decide)) ef Qj ?_);have d:aZ w q (q.setCells w 18 [jV 0,jV 0,jN,jN,jN,jN]):=aZ.cells _ _ _ _;have g:Hid (Fr w [(aE (bA a' 13 none none none none) (bA c' 13 0 0 0 0) {x with nx:=bV},35),(aE nA nC aK,35)] (q.setCells w 18 [jV 0,jV 0,jN,jN,jN,jN])):=F3.sets 0 rfl 18 [jV 0,jV 0,jN,jN,jN,jN];replace H:=hI (H.ext (d.off (dC ee)));simp only[Act.put];generalize World.setCells _ _ _ _=f at *;have B:jc f w 17 (js (a' 12) x.buf (c' 12)):=jr (g.row 0 _ rfl);have lb:w.heap.size<f.heap.size:=g.lt (i:=0) ee;have y: ∀o,f.frozen? ⟨w,o,none⟩=false:=fun o=>by have:=g.row 0 _ rfl;simp[World.frozen?,show f.heap[w.heap.size]? =_ from this]
  go_upto_region 7 with fail;have d:=aZ.set f ⟨w,17,none⟩ (jN);have r:Hid (Fr w [(aE (oQ a' none none none none) (oP c' 0 0 0 0) {x with nx:=bV,buf:=[]},35),(aE nA nC aK,35)] (f.setCell ⟨w,17,none⟩ (jN))):=g.set 0 rfl 17 (jN);replace H:=hI (BS (p:=bV) (H.ext (d.off (dC ee))) (wJ _));generalize World.setCell _ _ _=W5 at *;go_step;refine gP rfl (.tmp 1) rfl rfl (r.row 0 _ rfl) ?_;simp only[Act.put];go_wp2_with (refine bP rfl 35 (.tmp 2) (.tmp 16) rfl (w+1) (aE (oQ a' none none none none) (oP c' 0 0 0 0) {x with nx:=bV,buf:=[]}) _ 35 rfl rfl (r.row 1 _ rfl) cQ rfl (fQ _ _ _) ?_);have d:aZ (w+1) W5 (W5.setRow (w+1) (aE (oQ a' none none none none) (oP c' 0 0 0 0) {x with nx:=bV,buf:=[]})):=⟨rfl,rfl,rfl,Qx,fun k l=>Nq _ _ _ _ l⟩;have F6:=hI (r.setRow 1 rfl (aE (oQ a' none none none none) (oP c' 0 0 0 0) {x with nx:=bV,buf:=[]}));replace H:=hI (H.ext (d.off (dC ee)));refine Nh (v:= .tuple #[.agg (aE (oQ a' none none none none) (oP c' 0 0 0 0) {x with nx:=bV,buf:=[]}),jV 0]) (eL rfl _ _ (w+1) 35 _ (0,0) _ _ rfl rfl (F6.row 1 _ rfl) underlying35 rfl cQ) rfl ?_;rw[HE.o];exact⟨_,_,rfl,H.ext (kT ed),F6.bel⟩
 have HE:Hid (iT x=(aK,dH x)):=by show iT x=_;unfold iT;rw[Nm hz]
 generalize dH x=E at *;have d1:(E != 0)=true:=Qh
 go_upto_region 3 with fail;go_wp2_with (refine bP rfl 35 (.tmp 2) (.tmp 9) rfl (w+1) (aE nA nC aK) _ 35 rfl rfl (F1.row 1 _ rfl) cQ rfl (fQ _ _ _) ?_);refine Nh (v:= .tuple #[.agg (aE nA nC aK),E]) (eL rfl _ _ (w+1) 35 _ (0,0) _ _ rfl rfl ((F1.setRow 1 rfl (aE nA nC aK)).row 1 _ rfl) underlying35 rfl cQ) rfl ?_;rw[HE.o];exact⟨nA,nC,rfl,oF _,(F1.setRow 1 rfl (aE nA nC aK)).bel⟩
def nI (y:Hs) (e:Int):Hs:=if e=0 then y else aK
def sL (g:Nat) (a:Nat->Option Addr) (c:Nat->Nat) (x:Hs) (e:Int) (S:Nat->Bool) (w:World) (h:jk w g (cY a c x e) 124) (H:dK (bK S w) a c x):
  jW 78 #[jp g 0] w fun en W=>(∃A C,en= .returned (.tuple #[.agg (aE A C (nI x e)),e])/\dK (bK S W) A C (nI x e))/\jb w W:=
 (yap g a c x e w h).mono fun en W ⟨h1,h2⟩=>by
  refine⟨?_,h2⟩;unfold nI;by_cases he:e=0
  ·rw[Np he]at h1 ⊢;exact⟨a,c,h1,H.ext (eV h2)⟩
  rw[Nm he]at h1 ⊢;exact⟨nA,nC,h1,oF _⟩
def EQ (x:Hs) (a:Nat->Option Addr) (c:Nat->Nat) (w:World) (hx:dK w a c x) (H:x.Fit):jW 76 #[.agg (aE a c x)] w fun e W=> ∃g A C,e= .returned (jp g 0)/\w.heap.size<=g/\jk W g (cY A C (nI x (dH x)) (dH x)) 124/\
  mJ W (g+1) A C (nI x (dH x))/\jb w W:=yar x a c w hx H
def yat (a:Nat->Option Addr) (c:Nat->Nat) (x:Hs) (e:Int):nZ ((cY a c x e).setIfInBounds 17 (jN)) 18 [jV 0,jV 0,jN,jN,jN,jN]=cY (oQ a none none none none) (oP c 0 0 0 0) {x with nx:=bV,buf:=[]} e:=by
 simp[cY,aE,nZ,bA,up,bV]
def yau (a:Nat->Option Addr) (c:Nat->Nat) (x:Hs) (e:Int) (p:Pl) (b1 b2 b3 b4:Option Addr) (d1 d2 d3 d4:Nat):(nZ (cY a c x e) 18 [jV p.ver,jV p.par,.slice b1 p.S d1,.slice b2 p.P d2,.slice b3 p.G d3,.slice b4 p.R d4]).setIfInBounds 17 (jN)=cY (oQ a b1 b2 b3 b4) (oP c d1 d2 d3 d4) {x with nx:=p,buf:=[]} e:=by
 simp[cY,aE,nZ,bA,up]
def yav (x:Hs) (a:Nat->Option Addr) (c:Nat->Nat) (w:World) (hx:dK w a c x) (f:x.Fit):jW 29 #[cV a c x] w (vM w (iT x)):=by
 have HB:=hI fun W i=>EQ x a c W (hx.below i) f
 have D:Hid (iT x=(nI {nI x (dH x)with nx:=bV,buf:=[]} (dH x),dH x)):=by
  show iT x=_;unfold iT nI;by_cases h:dH x=0
  ·simp[h]
  simp[h]
 generalize iT x=P at *;generalize nI x (dH x)=y at *;generalize dH x=E at *;unfold cV;go_in;go_upto_region 1 with fail;generalize j:World.alloc (World.alloc _ _) _=W0;have F:Hid (Fr w [(aE a c x,35),(aE nA nC aK,35)] W0):=by show Fr _ _ _;rw[<-j];exact((Fr.start w).alloc rfl _ 35).alloc ee _ 35
 go_step;refine gP rfl (.tmp 1) rfl rfl (F.row 0 _ rfl) ?_;simp[Act.put];go_upto_region 2 with(go_at_call 76;refine(HB W0 F.bel).mono ?_;rintro e b ⟨g,q,r,rfl,G,I,J,i⟩;have F1:=hI (F.below i);have l:w.heap.size+2<=g:=Nj F.sz G;have R1:=hI I;have M1:=hI (J.m ep));have K:jc b g 17 (js (q 12) y.buf (r 12)):=jr R1;have Q:=aD R1;have fz: ∀o,b.frozen? ⟨g,o,none⟩=false:=fun o=>by simp[World.frozen?,R1.o]
 go_upto_region 3 with(refine sA rfl 28 (.tmp 15) (.tmp 9) rfl g 18 cW rfl rfl (tV (qW R1) Ee) ef Qj ?_);have s:=(aZ.set b ⟨g,17,none⟩ (jN)).trans (aZ.cells g [jV 0,jV 0,jN,jN,jN,jN] 18 _)
 have R2:Hid (((b.setCell ⟨g,17,none⟩ (jN)).setCells g 18 [jV 0,jV 0,jN,jN,jN,jN]).heap[g]? =some (.cells (cY (oQ q none none none none) (oP r 0 0 0 0) {y with nx:=bV,buf:=[]} E) 124 (0,0))):=by
  show _=_;rw[<-yat];exact yQ (W:=b) _ _ _ _ (qW R1)
 have F2:=hI (F1.low (s.below Qy l));have M2:=hI (BS (p:=bV) (M1.ext (s.off (dC Qt))) (wJ _));generalize L:World.setCells _ _ _ _=W2 at *;simp only[Act.put];obtain⟨z,hz⟩: ∃z,z=nI {y with nx:=bV,buf:=[]} E:=⟨_,rfl⟩;have HE:Hid (jW 78 _ W2 _):=sL g _ _ _ _ _ W2 R2 M2;rw[<-hz]at HE;have M:=hI hz;clear hz;go_wp2_with (first | (go_at_call 78;refine HE.mono ?_;rintro en t ⟨⟨A,C,rfl,H⟩,d⟩;have u:=hI (F2.below d);have N:=hI H;clear d H) | (refine bP rfl 35 (.tmp 2) (.tmp 18) rfl (w+1) (aE A C z) _ 35 rfl rfl (u.row 1 _ rfl) cQ rfl (fQ _ _ _) ?_))
 have n:aZ (w+1) t (t.setRow (w+1) (aE A C z)):=⟨rfl,rfl,rfl,Qx,fun k O=>Nq _ _ _ _ O⟩;have B:=hI (u.setRow 1 rfl (aE A C z));refine Nh (v:= .tuple #[.agg (aE A C z),_]) (eL rfl _ _ (w+1) 35 _ (0,0) _ _ rfl rfl (B.row 1 _ rfl) underlying35 rfl cQ) rfl ?_;rw[D.o];rw[<-M.o];exact⟨A,C,rfl,(N.ext (n.off (dC ed))).ext (kT ed),B.bel⟩
def iQ (x:Hs) (b:List Int):Hs × Int:=if dH x=0 then(if x.buf.length+b.length<=2048 then({x with buf:=x.buf++b},0)else(aK,9))else(aK,dH x)
theorem yaw (x:Hs) (a:Nat->Option Addr) (c:Nat->Nat) (b:List Int) (ba:Option Addr) (bc:Nat) (w:World) (hx:dK w a c x) (E6:x.Fit) (hl:aB w 1 dG ba bc b) (q:aO b) (D:b.length<=5000):
  jW 26 #[cV a c x,js ba b bc] w (vM w (iQ x b)):=by
 refine ZV fun G=>?_;have J:Hid (∀W,jb w W->jW 24 #[.agg (aE a c x)] W (NU W x)):=fun W hl=>EV x a c W (hx.below hl) E6;refine Ka fun K=>?_;have N:=E6.buf;have r:=hI E6.bb;have s:=hI q;unfold cV;go_in;go_upto_region 1 with fail;generalize t:World.alloc (World.alloc _ _) _=W0;have F:Hid (Fr w [(aE a c x,35),(aE nA nC aK,35)] W0):=by show Fr _ _ _;rw[<-t];exact((Fr.start w).alloc rfl _ 35).alloc ee _ 35
 go_step;refine gP rfl (.tmp 2) rfl rfl (F.row 0 _ rfl) ?_;simp[Act.put];go_upto_region 2 with(go_at_call 79;refine(G W0 F.bel).mono ?_;refine Qe fun u hl=>?_;have F1:=hI (F.below hl));by_cases hz:dH x=0
 ·have X:jc u w 17 (js (a 12) x.buf (c 12)):=jr (F1.row 0 _ rfl);have lb:w.heap.size<u.heap.size:=F1.lt (i:=0) ee;by_cases B:x.buf.length+b.length<=2048
  ·have HE:Hid (iQ x b=({x with buf:=x.buf++b},0)):=(by show iQ x b=_;unfold iQ;rw[Np hz,Np B]);rw[hz];have d1:decide ((2048:Int)<(x.buf:Int)+(b:Int))=false:=Mw ed;go_upto_region 6 with fail;go_step;refine gP rfl (.tmp 2) rfl rfl (F1.row 0 _ rfl) ?_;simp[Act.put];go_upto_region 7 with(first | (go_at_call 24;refine(J u F1.bel).mono ?_;refine Ou fun W2 a' c' h1 hl=>?_;unfold cV;have H:=hI (h1.base (n:=w.heap.size+2) F1.sz);have F2:=hI (F1.below hl)) | (refine bP rfl 35 (.tmp 2) (.tmp 22) rfl w (aE a' c' x) _ 35 rfl rfl (F2.row 0 _ rfl) cQ rfl (fQ _ _ _) ?_))
   have g:aZ w W2 (W2.setRow w (aE a' c' x)):=⟨rfl,rfl,rfl,Qx,fun k y=>Nq _ _ _ _ y⟩;refine Yb fun f=>?_;replace H:=hI (H.onl g ed);simp only[Act.put];generalize World.setRow _ _ _=W3 at *;have X:jc W3 w 17 (js (a' 12) x.buf (c' 12)):=jr (f.row 0 _ rfl);have lb:w.heap.size<W3.heap.size:=f.lt (i:=0) ee;go_upto_region 8 with(at_builtin;refine FC rfl _ _ rfl (w+2) _ x.buf rfl r H.own ba bc b rfl (K _ f.bel) s ed f.sz ?_;intro A C d j l;have p:=hI (f.low (dT H.own ep f.sz l));have M:=hI (H.app l j (n:=w.heap.size+2) ep);have X:jc d w 17 (js (a' 12) x.buf (c' 12)):=jr (p.row 0 _ rfl);have lb:w.heap.size<d.heap.size:=p.lt (i:=0) ee;have O: ∀o,d.frozen? ⟨w,o,none⟩=false:=fun o=>by have:=p.row 0 _ rfl;simp[World.frozen?,show d.heap[w.heap.size]? =_ from this]);have g:=aZ.set d ⟨w,17,none⟩ (js A (x.buf++b).length C);have z:Hid (Fr w [(aE (up a' 12 A) (up c' 12 C) {x with buf:=x.buf++b},35),(aE nA nC aK,35)] (d.setCell ⟨w,17,none⟩ (js A (x.buf++b).length C))):=p.set 0 rfl 17 (js A (x.buf++b).length C);replace M:=hI (M.ext (g.off (dC ee)));rw[<-Mx];generalize World.setCell _ _ _=W5 at *;go_step;refine gP rfl (.tmp 2) rfl rfl (z.row 0 _ rfl) ?_;simp only[Act.put];go_wp2_with (refine bP rfl 35 (.tmp 4) (.tmp 28) rfl (w+1) (aE (up a' 12 A) (up c' 12 C) {x with buf:=x.buf++b}) _ 35 rfl rfl (z.row 1 _ rfl) cQ rfl (fQ _ _ _) ?_);have g:aZ (w+1) W5 (W5.setRow (w+1) (aE (up a' 12 A) (up c' 12 C) {x with buf:=x.buf++b})):=⟨rfl,rfl,rfl,Qx,fun k y=>Nq _ _ _ _ y⟩;have F6:=hI (z.setRow 1 rfl (aE (up a' 12 A) (up c' 12 C) {x with buf:=x.buf++b}));replace M:=hI (M.ext (g.off (dC ee)));refine Nh (v:= .tuple #[.agg (aE (up a' 12 A) (up c' 12 C) {x with buf:=x.buf++b}),jV 0]) (eL rfl _ _ (w+1) 35 _ (0,0) _ _ rfl rfl (F6.row 1 _ rfl) underlying35 rfl cQ) rfl ?_;rw[HE.o];exact⟨_,_,rfl,M.ext (kT ed),F6.bel⟩
  have HE:Hid (iQ x b=(aK,9)):=(by show iQ x b=_;unfold iQ;rw[Np hz,Nm B]);rw[hz];have d1:decide ((2048:Int)<(x.buf:Int)+(b:Int))=true:=Ni ed;go_upto_region 5 with fail;go_wp2_with (refine bP rfl 35 (.tmp 4) (.tmp 20) rfl (w+1) (aE nA nC aK) _ 35 rfl rfl (F1.row 1 _ rfl) cQ rfl (fQ _ _ _) ?_);refine Nh (v:= .tuple #[.agg (aE nA nC aK),jV 9]) (eL rfl _ _ (w+1) 35 _ (0,0) _ _ rfl rfl ((F1.setRow 1 rfl (aE nA nC aK)).row 1 _ rfl) underlying35 rfl cQ) rfl ?_;rw[HE.o];exact⟨nA,nC,rfl,oF _,(F1.setRow 1 rfl (aE nA nC aK)).bel⟩
 have HE:Hid (iQ x b=(aK,dH x)):=by show iQ x b=_;unfold iQ;rw[Nm hz]
 generalize dH x=E at *;have d1:(E != 0)=true:=Qh
 go_upto_region 3 with fail;go_wp2_with (refine bP rfl 35 (.tmp 4) (.tmp 11) rfl (w+1) (aE nA nC aK) _ 35 rfl rfl (F1.row 1 _ rfl) cQ rfl (fQ _ _ _) ?_);refine Nh (v:= .tuple #[.agg (aE nA nC aK),E]) (eL rfl _ _ (w+1) 35 _ (0,0) _ _ rfl rfl ((F1.setRow 1 rfl (aE nA nC aK)).row 1 _ rfl) underlying35 rfl cQ) rfl ?_;rw[HE.o];exact⟨nA,nC,rfl,oF _,(F1.setRow 1 rfl (aE nA nC aK)).bel⟩
open Classical in
noncomputable def qQ (key b:List Int):Option Pl:=if h: ∃p,lI key b p then some h.choose else none
def NN {b:List Int}{p:Pl}(h:lI key b p):qQ key b=some p:=by
 have he: ∃p,lI key b p:=⟨p,h⟩;rw[qQ,dif_pos he,vz he.choose_spec h]
def NM {b:List Int}(h: ∀p,¬lI key b p):qQ key b=none:=by rw[qQ,dif_neg (fun⟨p,H⟩=>h p H)]
noncomputable def kY (x:Hs):Hs × Int:=
 if dH x≠0 then(aK,dH x)else if x.nx≠bV then(aK,272)else match qQ x.key x.buf with
 | none=>(aK,jI x.key x.buf)
 | some p=>if¬bS p then(aK,100)else if fJ x p≠0 then(aK,fJ x p)else({x with nx:=p,buf:=[]},0)
def GS (h:dH x=0):x.key.length<=64/\x.buf.length<=2048:=by
 unfold dH at h;by_cases H:gD x=true
 ·rw[Np H]at h;by_cases hi:x.halted=true
  ·rw[Np hi]at h;cases h
  have h0:x.halted=false:=Og;unfold gD at H;rw[h0]at H;unfold QJ at H;simp only[cond_false,Dt,Dr]at H;have h1:=H.1;have h2:=H.2.2.2.2.2.1;omega
 rw[Nm H]at h;cases h
def NL (key b:List Int):(jI key b != 0)=true:=by unfold jI;split<;>(try split)<;>rfl
def GQ {b:List Int}{p:Pl}(h:lI key b p):p.Fit:=by
 have:=OY ((b.take (b.length-32)).map Int.toNat) (0,false);rw[AY h.2.2.1 h.2.2.2]at this;exact this
theorem yax (x:Hs) (a:Nat->Option Addr) (c:Nat->Nat) (w:World) (hx:dK w a c x) (E6:x.Fit):jW 28 #[cV a c x] w (vM w (kY x)):=by
 refine ZV fun b4=>?_;refine Ms fun b5=>?_;have C:Hid (∀W,jb w W->jW 83 #[.agg #[x.nx.ver,x.nx.par,js (a 13) x.nx.S (c 13),js (a 14) x.nx.P (c 14),js (a 15) x.nx.G (c 15),js (a 16) x.nx.R (c 16)]] W (bY W (decide (x.nx=bV)))):=fun W H=>DQ x.nx _ _ _ _ W (hx.below H).nx E6.nx;have H0:=hI fun h W H=>vv x.key x.buf _ _ _ _ W (hx.below H).key (GS h).1 (hx.below H).buf E6.bb (GS h).2;have H1:Hid (∀W p s q g r,jW 85 #[.agg (aE a c x),.agg #[p.ver,p.par,s,q,g,r]] W fun e a3=>e= .returned (jV (fJ x p))/\jb W a3):=fun W p s q g r=>yam x a c p s q g r W
 have X:Hid (kY x=if dH x≠0 then(aK,dH x)else if x.nx≠bV then(aK,272)else match qQ x.key x.buf with
  | none=>(aK,jI x.key x.buf)
  | some p=>if¬bS p then(aK,100)else if fJ x p≠0 then(aK,fJ x p)else({x with nx:=p,buf:=[]},0)):=rfl
 clear hx E6;generalize kY x=b at *;unfold cV;go_enter func28,ntmps28;go_upto_region 1 with fail;generalize Y:World.alloc (World.alloc _ _) _=W0;have F:Hid (Fr w [(aE a c x,35),(aE nA nC aK,35)] W0):=by show Fr _ _ _;rw[<-Y];exact((Fr.start w).alloc rfl _ 35).alloc ee _ 35
 clear Y;refine Xl ?_;go_upto_region 2 with(go_at_call 79;refine(b4 W0 F.bel).mono ?_;refine Qe fun W3 H=>?_;have M:=hI (F.below H);clear H);by_cases a0:dH x=0
 ·have H2:=hI a0;rw[a0]at X ⊢;have T:jk W3 w (aE a c x) 35:=M.row 0 _ rfl;obtain⟨-,-,-,-,-,-,-,-,-,-,-,-,-,-,-,-,-,-,n0,n1,n2,n3,n4,n5,-⟩:=nN T;have lb:=aD T;clear T;by_cases hz:x.nx=bV
  ·have f:Hid (b=match qQ x.key x.buf with
     | none=>(aK,jI x.key x.buf)
     | some p=>if¬bS p then(aK,100)else if fJ x p≠0 then(aK,fJ x p)else({x with nx:=p,buf:=[]},0)):=by
    show b=_;rw[X.o,Nm ee,Nm Qh]
   rw[show decide (x.nx=bV)=true from Ni hz]at C;clear hz X;go_upto_region 6 with(go_at_call 83;refine(C W3 M.bel).mono ?_;refine Qe fun W4 H=>?_;have I:=hI (M.below H));have T:jk W4 w (aE a c x) 35:=I.row 0 _ rfl;obtain⟨k0,-,-,-,-,-,-,-,-,-,-,-,-,-,-,-,-,k1,-,-,-,-,-,-,-⟩:=nN T;have lb:=aD T
   iterate 15 go_step
   go_at_call 84;refine(H0 H2 W4 I.bel).mono ?_;rintro e W1 ⟨H,⟨p,B,d1,u,d2,y,D,z,A,a9,rfl,a4⟩ | ⟨hno,rfl⟩⟩
   ·have l:Hid (b=if¬bS p then(aK,100)else if fJ x p≠0 then(aK,fJ x p)else({x with nx:=p,buf:=[]},0)):=by
     show b=_;rw[f.o,NN a9]
    have H3:=hI (GQ a9);have Z:=hI (I.below H);have P3:=hI (a4.ext (kT (n:=w.heap.size+2) I.sz));dsimp only[aT];go_upto_region 7 with fail;generalize O:World.alloc _ _=N;have P:=jG O;have a5:=jA O;have a6:w.heap.size+2<=W1.heap.size:=Z.sz;have Q:=hI (Z.below P);have P4:=hI (P3.ext (eV P));refine Kb fun G b1=>?_;rw[<-b1]at a5 a6 ⊢;have R4:=hI a5;clear O P a5 b1 Z P3;have q0:=(Mu N _ 0 _ _ _ R4).trans rfl;have q1:=(Mu N _ 1 _ _ _ R4).trans rfl;have q2:=(Mu N _ 2 _ _ _ R4).trans rfl;have q3:=(Mu N _ 3 _ _ _ R4).trans rfl;have q4:=(Mu N _ 4 _ _ _ R4).trans rfl;have q5:=(Mu N _ 5 _ _ _ R4).trans rfl;have a1:=aD R4;have j:=hI (yN p _ _ _ _ N (P4.ext (mZ _ _)) H3);unfold aT at j;by_cases t:bS p
    ·rw[show decide (bS p)=true from Ni t]at j
     have J:Hid (b=if fJ x p≠0 then(aK,fJ x p)else({x with nx:=p,buf:=[]},0)):=by
      show b=_;rw[l.o,Nm (by simp[t])]
     clear t l;go_upto_region 11 with(go_at_call 62;refine j.mono ?_;refine Qe fun W5 H=>?_;have U:=hI (Q.below H);have P5:=hI (P4.ext (eV H));have hya:=hI ((jm H R4));clear H);clear q0 q1 q2 q3 q4 q5 a1 Q P4 R4 j;go_step;refine gP rfl (.tmp 1) rfl rfl (U.row 0 _ rfl) ?_;simp[Act.put];refine ZR fun q0 q1 q2 q3 q4 q5=>?_;have a1:=aD hya;go_upto_region 12 with(go_at_call 85;refine(H1 W5 p _ _ _ _).mono ?_;refine Qe fun W6 H=>?_;have F1:=hI (U.below H);have P6:=hI (P5.ext (eV H));have R6:=hI ((jm H hya)));by_cases a2:fJ x p=0
     ·have HE:Hid (b=({x with nx:=p,buf:=[]},0)):=by
       show b=_;rw[J.o,Nm (by simp[a2])]
      rw[a2];go_upto_region 14 with fail;go_step;refine gP rfl (.tmp 1) rfl rfl (F1.row 0 _ rfl) ?_;simp[Act.put];go_upto_region 15 with(first | (go_at_call 24;refine(b5 W6 F1.bel).mono ?_;refine Ou fun W2 a' c' h1 H=>?_;unfold cV;have K:=hI (h1.ext (kT (n:=w.heap.size+2) F1.sz));have F2:=hI (F1.below H);have P7:=hI (P6.ext (eV H));have R7:=hI ((jm H R6))) | (refine bP rfl 35 (.tmp 1) (.tmp 41) rfl w (aE a' c' x) _ 35 rfl rfl (F2.row 0 _ rfl) cQ rfl (fQ _ _ _) ?_))
      have d:aZ w W2 (W2.setRow w (aE a' c' x)):=⟨rfl,rfl,rfl,Qx,fun k a7=>Nq _ _ _ _ a7⟩;refine Yb fun F8=>?_;replace K:=hI (K.ext (d.off (dC ee)));have P8:=hI (P7.ext (d.off (dC (k:=w.heap.size) ee)));have R:=hI ((d.block G ed).trans R7);simp only[Act.put];generalize World.setRow _ _ _=L at *;clear d F1 F2 P6 P7 R6 R7;have q0:=(Mu L _ 0 _ _ _ R).trans rfl;have q1:=(Mu L _ 1 _ _ _ R).trans rfl;have q2:=(Mu L _ 2 _ _ _ R).trans rfl;have q3:=(Mu L _ 3 _ _ _ R).trans rfl;have q4:=(Mu L _ 4 _ _ _ R).trans rfl;have q5:=(Mu L _ 5 _ _ _ R).trans rfl;have a1:=aD R;go_upto_region 16 with(refine sA rfl 28 (.tmp 43) (.tmp 42) rfl w 18 #[p.ver,p.par,js B p.S d1,js u p.P d2,js y p.G D,js z p.R A] rfl rfl (F8.there (i:=0) rfl (show 18+6<=25 by decide)) ef Qj ?_);have d:aZ w L (L.setCells w 18 [jV p.ver,jV p.par,.slice B p.S d1,.slice u p.P d2,.slice y p.G D,.slice z p.R A]):=aZ.cells _ _ _ _;have F9:Hid (Fr w [(aE (bA a' 13 B u y z) (bA c' 13 d1 d2 D A) {x with nx:=p},35),(aE nA nC aK,35)] (L.setCells w 18 [jV p.ver,jV p.par,.slice B p.S d1,.slice u p.P d2,.slice y p.G D,.slice z p.R A])):=F8.sets 0 rfl 18 [jV p.ver,jV p.par,.slice B p.S d1,.slice u p.P d2,.slice y p.G D,.slice z p.R A];replace K:=hI (K.ext (d.off (dC ee)));have P9:=hI (P8.ext (d.off (dC (k:=w.heap.size) ee)));simp only[Act.put];generalize World.setCells _ _ _ _=V at *;clear d F8 P8 R q0 q1 q2 q3 q4 q5 a1;have b0:jc V w 17 (js (a' 12) x.buf (c' 12)):=jr (F9.row 0 _ rfl);have lb:w.heap.size<V.heap.size:=F9.lt (i:=0) ee;have b6: ∀o,V.frozen? ⟨w,o,none⟩=false:=fun o=>by have:=F9.row 0 _ rfl;simp[World.frozen?,show V.heap[w.heap.size]? =_ from this]
      go_upto_region 17 with fail;have d:=aZ.set V ⟨w,17,none⟩ (jN);have a8:Hid (Fr w [(aE (oQ a' B u y z) (oP c' d1 d2 D A) {x with nx:=p,buf:=[]},35),(aE nA nC aK,35)] (V.setCell ⟨w,17,none⟩ (jN))):=F9.set 0 rfl 17 (jN);replace K:=hI (BS (p:=p) (K.ext (d.off (dC ee))) (P9.ext (d.off (dC ee))));generalize World.setCell _ _ _=b2 at *;clear d F9 P9 b0 lb b6;go_step;refine gP rfl (.tmp 1) rfl rfl (a8.row 0 _ rfl) ?_;simp only[Act.put];go_wp2_with (refine bP rfl 35 (.tmp 2) (.tmp 45) rfl (w+1) (aE (oQ a' B u y z) (oP c' d1 d2 D A) {x with nx:=p,buf:=[]}) _ 35 rfl rfl (a8.row 1 _ rfl) cQ rfl (fQ _ _ _) ?_);have d:aZ (w+1) b2 (b2.setRow (w+1) (aE (oQ a' B u y z) (oP c' d1 d2 D A) {x with nx:=p,buf:=[]})):=⟨rfl,rfl,rfl,Qx,fun k a7=>Nq _ _ _ _ a7⟩;have b3:=hI (a8.setRow 1 rfl (aE (oQ a' B u y z) (oP c' d1 d2 D A) {x with nx:=p,buf:=[]}));replace K:=hI (K.ext (d.off (dC ee)));refine Nh (v:= .tuple #[.agg (aE (oQ a' B u y z) (oP c' d1 d2 D A) {x with nx:=p,buf:=[]}),jV 0]) (eL rfl _ _ (w+1) 35 _ (0,0) _ _ rfl rfl (b3.row 1 _ rfl) underlying35 rfl cQ) rfl ?_;rw[HE.o];exact⟨_,_,rfl,K.ext (kT ed),b3.bel⟩
     have HE:Hid (b=(aK,fJ x p)):=by
      show b=_;rw[J.o,Np a2]
     generalize fJ x p=E at *;have d1:(E != 0)=true:=(by simp[a2]);go_upto_region 13 with fail;go_wp2_with (refine bP rfl 35 (.tmp 2) (.tmp 38) rfl (w+1) (aE nA nC aK) _ 35 rfl rfl (F1.row 1 _ rfl) cQ rfl (fQ _ _ _) ?_);exact ZQ
    rw[show decide (bS p)=false from Mw t]at j
    have J:Hid (b=(aK,100)):=by
     show b=_;rw[l.o,Np t]
    go_upto_region 10 with(go_at_call 62;refine j.mono ?_;refine Qe fun _ H=>?_;have U:=hI (Q.below H);clear H);go_wp2_with (refine bP rfl 35 (.tmp 2) (.tmp 32) rfl (w+1) (aE nA nC aK) _ 35 rfl rfl (U.row 1 _ rfl) cQ rfl (fQ _ _ _) ?_);refine Nh (v:= .tuple #[.agg (aE nA nC aK),jV 100]) (eL rfl _ _ (w+1) 35 _ (0,0) _ _ rfl rfl ((U.setRow 1 rfl (aE nA nC aK)).row 1 _ rfl) underlying35 rfl cQ) rfl ?_;rw[J.o];exact⟨nA,nC,rfl,oF _,(U.setRow 1 rfl (aE nA nC aK)).bel⟩
   have Z:=hI (I.below H)
   have l:Hid (b=(aK,jI x.key x.buf)):=by
    show b=_;rw[f.o,NM hno]
   have d1:=NL x.key x.buf;generalize jI x.key x.buf=E at *;dsimp only[sE];go_upto_region 7 with fail;have Q:=hI (Z.below ((Nb _ _).alloc ep (.cells cW 28)));generalize World.alloc _ _=N at *;go_upto_region 8 with fail;go_wp2_with (refine bP rfl 35 (.tmp 2) (.tmp 27) rfl (w+1) (aE nA nC aK) _ 35 rfl rfl (Q.row 1 _ rfl) cQ rfl (fQ _ _ _) ?_);refine Nh (v:= .tuple #[.agg (aE nA nC aK),E]) (eL rfl _ _ (w+1) 35 _ (0,0) _ _ rfl rfl ((Q.setRow 1 rfl (aE nA nC aK)).row 1 _ rfl) underlying35 rfl cQ) rfl ?_;rw[l.o];exact⟨nA,nC,rfl,oF _,(Q.setRow 1 rfl (aE nA nC aK)).bel⟩
  have f:Hid (b=(aK,272)):=by
   show b=_;rw[X.o,Nm ee,Np hz]
  rw[show decide (x.nx=bV)=false from Mw hz]at C;go_upto_region 5 with(go_at_call 83;refine(C W3 M.bel).mono ?_;refine Qe fun _ H=>?_;have I:=hI (M.below H));go_wp2_with (refine bP rfl 35 (.tmp 2) (.tmp 16) rfl (w+1) (aE nA nC aK) _ 35 rfl rfl (I.row 1 _ rfl) cQ rfl (fQ _ _ _) ?_);refine Nh (v:= .tuple #[.agg (aE nA nC aK),jV 272]) (eL rfl _ _ (w+1) 35 _ (0,0) _ _ rfl rfl ((I.setRow 1 rfl (aE nA nC aK)).row 1 _ rfl) underlying35 rfl cQ) rfl ?_;rw[f.o];exact⟨nA,nC,rfl,oF _,(I.setRow 1 rfl (aE nA nC aK)).bel⟩
 have f:Hid (b=(aK,dH x)):=by
  show b=_;rw[X.o,Np a0]
 generalize dH x=E at *;have d1:(E != 0)=true:=by simp[a0]
 go_upto_region 3 with fail;go_wp2_with (refine bP rfl 35 (.tmp 2) (.tmp 10) rfl (w+1) (aE nA nC aK) _ 35 rfl rfl (M.row 1 _ rfl) cQ rfl (fQ _ _ _) ?_);refine Nh (v:= .tuple #[.agg (aE nA nC aK),E]) (eL rfl _ _ (w+1) 35 _ (0,0) _ _ rfl rfl ((M.setRow 1 rfl (aE nA nC aK)).row 1 _ rfl) underlying35 rfl cQ) rfl ?_;rw[f.o];exact⟨nA,nC,rfl,oF _,(M.setRow 1 rfl (aE nA nC aK)).bel⟩
def yB (key b:List Int) (N:Nat) (cs:Array Value) (ec:Int) (W:World):Prop:=
 (∃p b1 d1 b2 d2 b3 d3 b4 d4,lI key b p/\ec=0/\cs=(#[p.ver,p.par,js b1 p.S d1,js b2 p.P d2,js b3 p.G d3,js b4 p.R d4]:Array Value)/\bN (bK (old N) W) (js b1 p.S d1) (js b2 p.P d2) (js b3 p.G d3) (js b4 p.R d4) p)\/
 ((∀p,¬lI key b p)/\ec=jI key b)
def yB.ext {b:List Int}{N n:Nat}{cs:Array Value}{E:Int}(h:yB key b N cs E W) (he:eD (bK (old N) W) (bK (old n) W')):yB key b n cs E W':=by
 rcases h with⟨p,b1,d1,b2,d2,b3,d3,b4,d4,h1,h2,h3,h4⟩ | h
 ·exact .inl ⟨p,b1,d1,b2,d2,b3,d3,b4,d4,h1,h2,h3,h4.ext he⟩
 exact .inr h
def NK {b:List Int}{d:World}{e:Ending}(h:DV w key b e d): ∃C f i j k l E,e= .returned (.tuple #[.agg #[C,f,i,j,k,l],jV E])/\jb w d/\(#[C,f,i,j,k,l].all (·.oneCell')=true)/\yB key b w #[C,f,i,j,k,l] E d:=by
 obtain⟨H,⟨p,b1,d1,b2,d2,b3,d3,b4,d4,h1,rfl,h3⟩ | ⟨h1,rfl⟩⟩:=h
 ·exact⟨_,_,_,_,_,_,_,rfl,H,Qj,.inl ⟨p,b1,d1,b2,d2,b3,d3,b4,d4,h1,rfl,rfl,h3⟩⟩
 exact⟨_,_,_,_,_,_,_,rfl,H,Qj,.inr ⟨h1,rfl⟩⟩
def NJ (x:Hs):nI x 0=x:=rfl
def yG (x:Hs){e:Int}(h:e≠0):nI x e=aK:=Nm h
def yay (x:Hs) (p:Pl):rZ x p 0 2=fJ x p:=by
 unfold rZ fJ mV;by_cases h1:p.par=x.pl.ver<;>by_cases h2:p.ver<=x.high<;>simp[h1,h2]
section
variable {W:World}{g:Nat}{a:Nat->Option Addr}{c:Nat->Nat}{x:Hs}{e:Int}
def zG (g:Nat) (a:Nat->Option Addr) (c:Nat->Nat) (x:Hs) (W:World) (b:Bool) (e:Int) (en:Ending) (w':World):Prop:=en= .returned (.bool b)/\jk w' g (cY a c x e) 124/\aZ g W w'
def zF (f:Int) (h:jk W g (cY a c x 0) 124):jW 77 #[jp g 0,.bool false,f] W (zG g a c x W false 0):=BT g a c x 0 f false W h
def BQ (f:Int) (H:f≠0) (h:jk W g (cY a c x 0) 124):jW 77 #[jp g 0,.bool true,f] W (zG g a c x W true f):=(BT g a c x 0 f true W h).mono fun _ _ ⟨h1,h2,h3⟩=>by
 rw[show mV 0 true f=f from by simp[mV]]at h1 h2;exact⟨by rw[h1];simp[H],h2,h3⟩
def NI (b:Bool) (f:Int) (he:e≠0) (h:jk W g (cY a c x e) 124):jW 77 #[jp g 0,.bool b,f] W (zG g a c x W true e):=(BT g a c x e f b W h).mono fun _ _ ⟨h1,h2,h3⟩=>by
 rw[show mV e b f=e from by simp[mV,he]]at h1 h2;exact⟨by rw[h1];simp[he],h2,h3⟩
def Kq.off (h:Kq g W W'):eD (bK (old (g+1)) W) (bK (old (g+1)) W'):=yR fun k b H=>h.blk k b (by rintro rfl;unfold old at H;simp at H)
end
theorem yaz (x:Hs) (a:Nat->Option Addr) (c:Nat->Nat) (w:World) (hx:dK w a c x) (Y:x.Fit):jW 27 #[cV a c x] w (vM w (kY x)):=by
 have HB:=hI fun W b=>EQ x a c W (hx.below b) Y;have H3:=hI Y.nx;have H6:=hI Y.kb;have H7:=hI Y.bb;have H4:Hid (dH x=0->x.key.length<=64/\x.buf.length<=2048):=fun h=>GS h
 have b9:Hid (kY x=if dH x≠0 then(aK,dH x)else if x.nx≠bV then(aK,272)else match qQ x.key x.buf with
  | none=>(aK,jI x.key x.buf)
  | some p=>if¬bS p then(aK,100)else if fJ x p≠0 then(aK,fJ x p)else({x with nx:=p,buf:=[]},0)):=rfl
 generalize kY x=C at *;generalize dH x=E at *;clear hx Y;unfold cV;go_enter func27,ntmps27;go_upto_region 1 with fail;generalize a9:World.alloc (World.alloc _ _) _=W0;have F:Hid (Fr w [(aE a c x,35),(aE nA nC aK,35)] W0):=by show Fr _ _ _;rw[<-a9];exact((Fr.start w).alloc rfl _ 35).alloc ee _ 35
 clear a9;refine Xl ?_;go_upto_region 2 with(refine ZY fun W4 g Z a0 d6 d7 b0 b F1 l=>?_;have R1:=hI d7;have M1:=hI (b0.m ep);clear b d6 d7 b0);obtain⟨y,a8⟩: ∃y,y=nI x E:=⟨_,rfl⟩;rw[<-a8]at R1 M1;have c0:=hI a8;clear a8;have c1:=ji 18 R1;have c2:=ji 19 R1;have c3:=ji 20 R1;have c4:=ji 21 R1;have c5:=ji 22 R1;have c6:=ji 23 R1;have d8:=aD R1
 have H5:Hid y.nx.Fit:=by
  show y.nx.Fit;rw[c0.o];unfold nI;split
  ·exact H3
  exact wK
 have n:=hI (wI y.nx _ _ _ _ W4 (M1.ext (mZ _ _)).nx H5);unfold aT at n;have C0:=hI n;by_cases d9:E=0/\x.nx=bV
 ·obtain⟨rfl,J⟩:=d9;obtain rfl:y=x:=c0.o
  have H0:Hid (C=match qQ y.key y.buf with
   | none=>(aK,jI y.key y.buf)
   | some p=>if¬bS p then(aK,100)else if fJ y p≠0 then(aK,fJ y p)else({y with nx:=p,buf:=[]},0)):=by
   show C=_;rw[b9.o,Nm ee,Nm (by simp[J])]
  rw[show decide (y.nx=bV)=true from Ni J]at n;clear J b9 C0 H5 H3;go_upto_region 4 with(first | (go_at_call 80;refine n.mono ?_;refine Qe fun W2 b=>?_;have F2:=hI (F1.below b);have R2:=hI ((jm b R1));have M2:=hI (M1.ext (eV b))) | (go_at_call 77;refine(zF 272 R2).mono ?_;rintro e W3 ⟨rfl,q,H⟩;have F3:=hI (F2.low (H.below Qy l));have R3:=hI q;have M3:=hI (M2.ext (H.off (dC Qt)))))
  have H1:Hid (∀W,jb W3 W->jW 81 #[js (Z 0) y.key (a0 0),js (Z 12) y.buf (a0 12)] W (DV W y.key y.buf)):=fun W b=>by
   have b0:=(M3.ext (mZ _ _)).below b;exact yae y.key y.buf _ _ _ _ W b0.key (H4 Py).1 H6 b0.buf H7 (H4 Py).2
  have a1:=aD R3;go_cut [5,6]from 22 to 35 (fun s5 s6 c7=> ∃G O P R T U X a2,s5= .pointer (some ⟨G,0,none⟩)/\s6= jV a2/\jb W3 c7/\W3.heap.size<=G/\jk c7 G #[O,P,R,T,U,X] 28/\yB y.key y.buf W3 #[O,P,R,T,U,X] a2 c7)
  case first=>
   have e0:=ji 0 R3;have x0:=ji 17 R3;refine pK [15] [0,1,2,3,4,5,6,7,8,9] ef Qd ef ?_;intro V g9 e2;have e3:=fun t:Gw W3=>t.cel e0;have t0:=fun t:Gw W3=>t.cel x0;have l0:=fun t:Gw W3=>t.lt a1;refine Oj ?_
   repeat (go_big_quiet_step (fail))
   refine wpQuiet_nil ?_;clear e3 t0 l0 e0 x0 e2;refine sP 10 14 ef ?_ ?_
   ·refine Oe (H1 V g9) fun K hK=>?_;rintro e W1 ho;obtain⟨O,P,R,T,U,X,a2,rfl,b,h1,hx⟩:=NK ho;simp[go_sem];have D0:=jt g9 b;refine Ob ?_;clear hK K ho;refine tO 11 ef Qd (fun _=>D0) ?_;intro K hK o H;simp at H;subst H;refine Qo ?_;refine tO 12 ef Qd (fun _=>D0) ?_;intro K hK o H;simp at H;subst H;refine Qo ?_;refine tO 13 ef Qd (fun _=>D0) ?_;intro K hK o H;simp at H;subst H;refine Qo ?_;refine aS 14 ef ?_;intro K hK;refine Ot ?_;refine Kb fun G j=>?_;rw[<-j];have HGP:=hI j;clear j;generalize hA:World.alloc W1 _=V2;have a3:=jG hA;have G2:jk V2 G #[jV 0,jV 0,jN,jN,jN,jN] 28:=Yi;have z:=jt D0 a3;refine hK _ _ (fun _=>z) ?_;clear hK K hA;refine pG [15,16] ef ee ?_;refine Oj ?_;go_wp2_with (refine bP rfl 28 (.tmp 5) (.tmp 34) rfl G #[O,P,R,T,U,X] _ 28 rfl rfl G2 ef rfl h1 ?_);go_meet
    case rel=>
     have H:aZ G V2 (V2.setRow G #[O,P,R,T,U,X]):=⟨rfl,rfl,rfl,Qx,fun k D=>Nq _ _ _ _ D⟩;have j:=HGP.o;exact⟨G,O,P,R,T,U,X,a2,rfl,rfl,H.below z (by have:=D0.size;omega),by have:=D0.size;omega,Dp _ _ _ _ _ _ G2,hx.ext fun p v h=>kT g9.size p v (yR (fun k D _=>(H.block k ed).trans (a3.block k D)) p v h)⟩
   intro K hK;refine Ot ?_;obtain⟨G,j⟩: ∃G,G=V.heap.size:=⟨_,rfl⟩;rw[<-j];have HGP:=hI j;clear j;generalize hA:World.alloc V _=W1;have a3:=jG hA;have G2:jk W1 G #[jV 0,jV 0,jN,jN,jN,jN] 28:=Yi;have D0:=jt g9 a3;refine Ob ?_;clear hK K hA;refine aS 10 ef ?_;refine Oe (H1 W1 D0) fun K hK=>?_;rintro e V2 ho;obtain⟨O,P,R,T,U,X,a2,rfl,b,h1,hx⟩:=NK ho;simp[go_sem];have z:=jt D0 b;refine hK _ _ (fun _=>z) ?_;clear hK K ho;refine tO 11 ef Qd (fun _=>z) ?_;intro K hK o H;simp at H;subst H;refine Qo ?_;refine tO 12 ef Qd (fun _=>z) ?_;intro K hK o H;simp at H;subst H;refine Qo ?_;refine tO 13 ef Qd (fun _=>z) ?_;intro K hK o H;simp at H;subst H;refine Qo ?_;have G3:=jm b G2;refine pG [15,16] ef ee ?_;refine Oj ?_;go_wp2_with (refine bP rfl 28 (.tmp 5) (.tmp 34) rfl G #[O,P,R,T,U,X] _ 28 rfl rfl G3 ef rfl h1 ?_);go_meet
   case rel=>
    have H:aZ G V2 (V2.setRow G #[O,P,R,T,U,X]):=⟨rfl,rfl,rfl,Qx,fun k D=>Nq _ _ _ _ D⟩;have j:=HGP.o;exact⟨G,O,P,R,T,U,X,a2,rfl,rfl,H.below z Uo,Uo,Dp _ _ _ _ _ _ G3,hx.ext fun p v h=>kT (by have:=D0.size;omega) p v (H.off (dC (by rw[j];exact Nl (Nx _) (by have:=aD G2;omega))) p v h)⟩
  case rest=>
   obtain⟨G,O,P,R,T,U,X,a2,rfl,rfl,b,j,ho,hx⟩:=hcut;have F4:=hI (F3.below b);have R4:=hI ((b.block _ a1).trans R3);have M4:=hI (M3.ext (eV b));have e4:=Nl a1 j;have e1:Hid (yB y.key y.buf (g+1) #[O,P,R,T,U,X] a2 _):=hx.ext (kT a1);clear hx b j F3 R3 M3 H1 a1;rcases e1.o with⟨p,b1,d1,b2,d2,b3,d3,b4,d4,a7,rfl,b5,hb⟩ | ⟨c8,rfl⟩
   ·have L:Hid (C=if¬bS p then(aK,100)else if fJ y p≠0 then(aK,fJ y p)else({y with nx:=p,buf:=[]},0)):=by
     show C=_;rw[H0.o,NN a7]
    have H8:=hI (GQ a7);simp only[Array.mk.injEq,Il,and_true]at b5;obtain⟨rfl,rfl,rfl,rfl,rfl,rfl⟩:=b5;refine Qa fun P4 Q4=>?_;clear ho a7 hb e1 H0;go_upto_region 7 with(go_at_call 77;refine(zF 0 R4).mono ?_;rintro e W5 ⟨rfl,q,H⟩;have F5:=hI (F4.low (H.below Qy l));have R5:=hI q;have M5:=hI (M4.ext (H.off (dC Qt)));have P5:=hI (P4.ext (H.off (dC Qt)));have hya:=hI ((H.block G ed).trans Q4);clear q H);clear F4 R4 M4 P4 Q4;refine ZR fun q0 q1 q2 q3 q4 q5=>?_;have b6:=aD hya;have M:=hI (LM p _ _ _ _ W5 (P5.ext (mZ _ _)) H8);unfold aT at M;by_cases a4:bS p
    ·rw[Np a4]at M
     have N:Hid (C=if fJ y p≠0 then(aK,fJ y p)else({y with nx:=p,buf:=[]},0)):=by
      show C=_;rw[L.o,Nm (by simp[a4])]
     go_upto_region 8 with(go_at_call 58;refine M.mono ?_;refine Qe fun W6 b=>?_;have F6:=hI (F5.below b);have R6:=hI ((jm b R5));have M6:=hI (M5.ext (eV b));have P6:=hI (P5.ext (eV b));have Q6:=hI ((jm b hya)));clear q0 q1 q2 q3 q4 q5 b6;clear F5 R5 M5 P5 hya M;obtain⟨f,c9⟩: ∃f,f=fJ y p:=⟨_,rfl⟩;rw[<-c9]at N;have d0:=hI ((yay y p).trans c9.symm);clear c9;have q0:=(Mu W6 _ 0 _ _ _ Q6).trans rfl;have q1:=(Mu W6 _ 1 _ _ _ Q6).trans rfl;have q2:=(Mu W6 _ 2 _ _ _ Q6).trans rfl;have q3:=(Mu W6 _ 3 _ _ _ Q6).trans rfl;have q4:=(Mu W6 _ 4 _ _ _ Q6).trans rfl;have q5:=(Mu W6 _ 5 _ _ _ Q6).trans rfl;have b6:=aD Q6;by_cases a5:f=0
     ·subst a5
      have F0:Hid (∀W,jk W g (cY Z a0 y 0) 124->jW 82 #[jp g 0,.agg #[p.ver,p.par,js b1 p.S d1,js b2 p.P d2,js b3 p.G d3,js b4 p.R d4]] W fun en b7=>en= .returned (.bool true)/\jk b7 g (cY Z a0 y 0) 124/\Kq g W b7):=fun W h=>by
       have:=NQ g Z a0 y 0 p (js b1 p.S d1) (js b2 p.P d2) (js b3 p.G d3) (js b4 p.R d4) W h;rw[d0.o]at this;exact this
      have H2:Hid (C=({y with nx:=p,buf:=[]},0)):=by
       show C=_;rw[N.o,Nm ee]
      clear d0 N;go_upto_region 9 with(first | (go_at_call 77;refine(zF 0 R6).mono ?_;refine Vt fun B q H R7=>?_;have F7:=hI (F6.low (H.below Qy l));have M7:=hI (M6.ext (H.off (dC Qt)));have P7:=hI (P6.ext (H.off (dC Qt)));have Q:=hI ((H.block G ed).trans Q6);have q0:=(Mu B _ 0 _ _ _ Q).trans rfl;have q1:=(Mu B _ 1 _ _ _ Q).trans rfl;have q2:=(Mu B _ 2 _ _ _ Q).trans rfl;have q3:=(Mu B _ 3 _ _ _ Q).trans rfl;have q4:=(Mu B _ 4 _ _ _ Q).trans rfl;have q5:=(Mu B _ 5 _ _ _ Q).trans rfl;have b6:=aD Q) | (go_at_call 82;refine(F0 B R7).mono ?_;refine Vt fun W8 q hq R8=>?_;have F8:=hI (F7.low (hq.bel.mono l));have M8:=hI (M7.ext hq.off);have P8:=hI (P7.ext hq.off);have Q8:=hI ((hq.blk G (aD Q) ed).trans Q)))
      have q0:=(Mu W8 _ 0 _ _ _ Q8).trans rfl;have q1:=(Mu W8 _ 1 _ _ _ Q8).trans rfl;have q2:=(Mu W8 _ 2 _ _ _ Q8).trans rfl;have q3:=(Mu W8 _ 3 _ _ _ Q8).trans rfl;have q4:=(Mu W8 _ 4 _ _ _ Q8).trans rfl;have q5:=(Mu W8 _ 5 _ _ _ Q8).trans rfl;have b6:=aD Q8;go_upto_region 10 with(refine sA rfl 28 (.tmp 63) (.tmp 60) rfl g 18 #[p.ver,p.par,js b1 p.S d1,js b2 p.P d2,js b3 p.G d3,js b4 p.R d4] rfl rfl (tV R8 Ee) ef Qj ?_;simp only[Act.put];have H:=aZ.cells g [jV p.ver,jV p.par,.slice b1 p.S d1,.slice b2 p.P d2,.slice b3 p.G d3,.slice b4 p.R d4] 18 W8;have R9:=hI (yQ (W:=W8) [jV p.ver,jV p.par,.slice b1 p.S d1,.slice b2 p.P d2,.slice b3 p.G d3,.slice b4 p.R d4] 18 _ _ R8);have F9:=hI (F8.low (H.below Qy l));have M9:=hI (M8.ext (H.off (dC Qt)));have P9:=hI (P8.ext (H.off (dC Qt)));generalize World.setCells _ _ _ _=W9 at *;have e5:jc W9 g 17 (js (Z 12) y.buf (a0 12)):=jr R9;have d8:=aD R9;have fz:=jZ R9);have H:=aZ.set W9 ⟨g,17,none⟩ (jN);have RA:=hI (qW (o:=17) (u:= jN) R9);rw[yau]at RA;have e6:=hI (F9.low (H.below Qy l));have MA:=hI (M9.ext (H.off (dC Qt)));have e7:=hI (P9.ext (H.off (dC Qt)));generalize World.setCell _ _ _=e8 at *;have e9:=hI (BS (p:=p) MA e7);have HE:=hI (sL g _ _ _ _ (old (g+1)) e8 RA e9);go_wp2_with (first | (go_at_call 78;refine HE.mono ?_;rintro en WL ⟨⟨aL,cL,rfl,i⟩,r⟩;rw[NJ]at i ⊢;have FL:=hI (e6.below r);have a6:=hI i) | (refine bP rfl 35 (.tmp 2) (.tmp 69) rfl (w+1) (aE aL cL {y with nx:=p,buf:=[]}) _ 35 rfl rfl (FL.row 1 _ rfl) cQ rfl (fQ _ _ _) ?_))
      have s:aZ (w+1) WL (WL.setRow (w+1) (aE aL cL {y with nx:=p,buf:=[]})):=⟨rfl,rfl,rfl,Qx,fun k D=>Nq _ _ _ _ D⟩;have I:=hI (FL.setRow 1 rfl (aE aL cL {y with nx:=p,buf:=[]}));refine Nh (v:= .tuple #[.agg (aE aL cL {y with nx:=p,buf:=[]}),_]) (eL rfl _ _ (w+1) 35 _ (0,0) _ _ rfl rfl (I.row 1 _ rfl) underlying35 rfl cQ) rfl ?_;rw[H2.o];exact⟨aL,cL,rfl,(a6.ext (s.off (dC ed))).ext (kT ed),I.bel⟩
     have F0:Hid (∀W,jk W g (cY Z a0 y 0) 124->jW 82 #[jp g 0,.agg #[p.ver,p.par,js b1 p.S d1,js b2 p.P d2,js b3 p.G d3,js b4 p.R d4]] W fun en b7=>en= .returned (.bool false)/\jk b7 g (cY Z a0 y f) 124/\Kq g W b7):=fun W h=>by
      have:=NQ g Z a0 y 0 p (js b1 p.S d1) (js b2 p.P d2) (js b3 p.G d3) (js b4 p.R d4) W h;rw[d0.o,show(f==0)=false by simp[a5]]at this;exact this
     have H2:Hid (C=(aK,f)):=by
      show C=_;rw[N.o,Np a5]
     have hz:=yG y a5;go_upto_region 10 with(first | (go_at_call 77;refine(zF 0 R6).mono ?_;refine Vt fun B q H R7=>?_;have F7:=hI (F6.low (H.below Qy l));have M7:=hI (M6.ext (H.off (dC Qt)));have P7:=hI (P6.ext (H.off (dC Qt)));have Q:=hI ((H.block G ed).trans Q6);have q0:=(Mu B _ 0 _ _ _ Q).trans rfl;have q1:=(Mu B _ 1 _ _ _ Q).trans rfl;have q2:=(Mu B _ 2 _ _ _ Q).trans rfl;have q3:=(Mu B _ 3 _ _ _ Q).trans rfl;have q4:=(Mu B _ 4 _ _ _ Q).trans rfl;have q5:=(Mu B _ 5 _ _ _ Q).trans rfl;have b6:=aD Q) | (go_at_call 82;refine(F0 B R7).mono ?_;refine Vt fun W8 q hq R8=>?_;have F8:=hI (F7.low (hq.bel.mono l));have M8:=hI (M7.ext hq.off);have P8:=hI (P7.ext hq.off);have Q8:=hI ((hq.blk G (aD Q) ed).trans Q)))
     have HE:=hI (sL g _ _ _ _ (old (g+1)) W8 R8 M8);go_wp2_with (first | (go_at_call 78;refine HE.mono ?_;rintro en WL ⟨⟨aL,cL,rfl,i⟩,r⟩;rw[hz]at i ⊢;have FL:=hI (F8.below r);have a6:=hI i) | (refine bP rfl 35 (.tmp 2) (.tmp 69) rfl (w+1) (aE aL cL aK) _ 35 rfl rfl (FL.row 1 _ rfl) cQ rfl (fQ _ _ _) ?_))
     have s:aZ (w+1) WL (WL.setRow (w+1) (aE aL cL aK)):=⟨rfl,rfl,rfl,(by simp[World.setRow]),fun k D=>Nq _ _ _ _ D⟩;have I:=hI (FL.setRow 1 rfl (aE aL cL aK));refine Nh (v:= .tuple #[.agg (aE aL cL aK),_]) (eL rfl _ _ (w+1) 35 _ (0,0) _ _ rfl rfl (I.row 1 _ rfl) underlying35 rfl cQ) rfl ?_;rw[H2.o];exact⟨aL,cL,rfl,(a6.ext (s.off (dC ed))).ext (kT ed),I.bel⟩
    rw[Nm a4]at M
    have N:Hid (C=(aK,100)):=by
     show C=_;rw[L.o,Np a4]
    go_upto_region 8 with(go_at_call 58;refine M.mono ?_;refine Qe fun _ b=>?_;have F6:=hI (F5.below b);have R6:=hI ((jm b R5));have M6:=hI (M5.ext (eV b)));go_upto_region 10 with(go_at_call 77;refine(BQ 100 eh R6).mono ?_;refine Vt fun B q H R7=>?_;have F7:=hI (F6.low (H.below Qy l));have M7:=hI (M6.ext (H.off (dC Qt))));have hz:=yG y (e:=100) eh;have HE:=hI (sL g _ _ _ _ (old (g+1)) B R7 M7);go_wp2_with (first | (go_at_call 78;refine HE.mono ?_;rintro en WL ⟨⟨aL,cL,rfl,i⟩,r⟩;rw[hz]at i ⊢;have FL:=hI (F7.below r);have a6:=hI i) | (refine bP rfl 35 (.tmp 2) (.tmp 69) rfl (w+1) (aE aL cL aK) _ 35 rfl rfl (FL.row 1 _ rfl) cQ rfl (fQ _ _ _) ?_))
    have s:aZ (w+1) WL (WL.setRow (w+1) (aE aL cL aK)):=⟨rfl,rfl,rfl,(by simp[World.setRow]),fun k D=>Nq _ _ _ _ D⟩;have I:=hI (FL.setRow 1 rfl (aE aL cL aK));refine Nh (v:= .tuple #[.agg (aE aL cL aK),_]) (eL rfl _ _ (w+1) 35 _ (0,0) _ _ rfl rfl (I.row 1 _ rfl) underlying35 rfl cQ) rfl ?_;rw[N.o];exact⟨aL,cL,rfl,(a6.ext (s.off (dC ed))).ext (kT ed),I.bel⟩
   have L:Hid (C=(aK,jI y.key y.buf)):=by
    show C=_;rw[H0.o,NM c8]
   have hi:=NL y.key y.buf;generalize jI y.key y.buf=a2 at *;have b8:a2≠0:=Og;go_upto_region 6 with(go_at_call 77;refine(BQ a2 b8 R4).mono ?_;refine Vt fun W5 q H R5=>?_;have F5:=hI (F4.low (H.below Qy l));have M5:=hI (M4.ext (H.off (dC Qt))));have hz:=yG y b8;have HE:=hI (sL g _ _ _ _ (old (g+1)) W5 R5 M5);go_wp2_with (first | (go_at_call 78;refine HE.mono ?_;rintro en WL ⟨⟨aL,cL,rfl,i⟩,r⟩;rw[hz]at i ⊢;have FL:=hI (F5.below r);have a6:=hI i) | (refine bP rfl 35 (.tmp 2) (.tmp 43) rfl (w+1) (aE aL cL aK) _ 35 rfl rfl (FL.row 1 _ rfl) cQ rfl (fQ _ _ _) ?_))
   have s:aZ (w+1) WL (WL.setRow (w+1) (aE aL cL aK)):=⟨rfl,rfl,rfl,(by simp[World.setRow]),fun k D=>Nq _ _ _ _ D⟩;have I:=hI (FL.setRow 1 rfl (aE aL cL aK));refine Nh (v:= .tuple #[.agg (aE aL cL aK),_]) (eL rfl _ _ (w+1) 35 _ (0,0) _ _ rfl rfl (I.row 1 _ rfl) underlying35 rfl cQ) rfl ?_;rw[L.o];exact⟨aL,cL,rfl,(a6.ext (s.off (dC ed))).ext (kT ed),I.bel⟩
 obtain⟨E1,d5,H0,f0⟩: ∃E1,E1≠0/\C=(aK,E1)/\ ∀W,jk W g (cY Z a0 y E) 124->jW 77 #[jp g 0,.bool (!decide (y.nx=bV)),jV 272] W (zG g Z a0 y W true E1):=by
  by_cases h0:E=0
  ·subst h0;have J:x.nx≠bV:=fun h=>d9 ⟨rfl,h⟩;have a8:y=x:=c0.o;refine⟨272,eh,by rw[b9.o,Nm ee,Np J],fun W h=> ?_⟩;rw[a8,Mw J];rw[a8]at h;exact BQ 272 eh h
  exact⟨E,h0,by rw[b9.o,Np h0],fun W h=>NI _ 272 h0 h⟩
 have H9:=hI f0;have L:=hI H0;have hz:=yG y d5;generalize decide (y.nx=bV)=bn at *;go_upto_region 3 with(first | (go_at_call 80;refine n.mono ?_;refine Qe fun W2 b=>?_;have F2:=hI (F1.below b);have R2:=hI ((jm b R1));have M2:=hI (M1.ext (eV b))) | (go_at_call 77;refine(H9 W2 R2).mono ?_;refine Vt fun W3 q H R3=>?_;have F3:=hI (F2.low (H.below Qy l));have M3:=hI (M2.ext (H.off (dC Qt)));clear q H))
 clear c1 c2 c3 c4 c5 c6 d8 F1 R1 M1 F2 R2 M2 n;have HE:=hI (sL g _ _ _ _ (old (g+1)) W3 R3 M3);go_wp2_with (first | (go_at_call 78;refine HE.mono ?_;rintro en WL ⟨⟨aL,cL,rfl,i⟩,r⟩;rw[hz]at i ⊢;have FL:=hI (F3.below r);have a6:=hI i) | (refine bP rfl 35 (.tmp 2) (.tmp 20) rfl (w+1) (aE aL cL aK) _ 35 rfl rfl (FL.row 1 _ rfl) cQ rfl (fQ _ _ _) ?_))
 have s:aZ (w+1) WL (WL.setRow (w+1) (aE aL cL aK)):=⟨rfl,rfl,rfl,(by simp[World.setRow]),fun k D=>Nq _ _ _ _ D⟩;have I:=hI (FL.setRow 1 rfl (aE aL cL aK));refine Nh (v:= .tuple #[.agg (aE aL cL aK),_]) (eL rfl _ _ (w+1) 35 _ (0,0) _ _ rfl rfl (I.row 1 _ rfl) underlying35 rfl cQ) rfl ?_;rw[L.o];exact⟨aL,cL,rfl,(a6.ext (s.off (dC ed))).ext (kT ed),I.bel⟩
def NH (v u:Value):Prop:=u=v\/ ∃k a b,v= .int k a/\u= .int k b
def ya0 {o:Nat}{k:IntKind}{z':Int}(H:jc w g o (.int k z)){q:Addr}{v:Value}(hq:w.cell? q=some v): ∃u,(w.setCell ⟨g,o,none⟩ (.int k z')).cell? q=some u/\NH v u:=by
 by_cases d:q.block=g
 ·subst d;unfold World.cell? at H hq ⊢;simp only[World.setCell,Nk];cases ho:w.heap[q.block]? with
  | none=>rw[ho]at hq;cases hq
  | some O=>
   rw[ho]at H hq;cases O with
   | cells c T fr=>
    cases hs:q.spot with
    | some sp=>simp[hs]at hq
    | none=>
     simp[hs]at H hq ⊢;by_cases e:o=q.off
     ·subst e;rw[H]at hq;cases hq;have b:=(Array.getElem?_eq_some_iff.1 H).1;exact⟨_,by rw[Array.getElem?_setIfInBounds_self_of_lt b],.inr ⟨k,z,z',rfl,rfl⟩⟩
     exact⟨v,by rw[Array.getElem?_setIfInBounds_ne e];exact hq,.inl rfl⟩
   | _=>cases hq
 exact⟨v,by unfold World.cell? at hq ⊢;rw[Ny w ⟨g,o,none⟩ _ q.block d];exact hq,.inl rfl⟩
def ya1 (w:World) (a:Addr) (u:Value) (q:Addr):(w.setCell a u).frozen? q=w.frozen? q:=by
 have:(w.setCell a u).heap[q.block]? =if a.block=q.block then w.heap[q.block]?.map (fun O=>match O with | .cells c E frozen=> .cells (if a.spot.isSome then c else c.setIfInBounds a.off u) E frozen | o=>o)else w.heap[q.block]? :=by simp[World.setCell,Nk]<;>rfl
 unfold World.frozen?;rw[this];by_cases H:a.block=q.block
 ·rw[Np H];cases w.heap[q.block]? with
  | none=>rfl
  | some O=>cases O<;>rfl
 rw[Nm H]
structure Sq (S:Nat->Bool) (w:World) (A:Array Value) (W:World):Prop where
 row:jk W w A 35
 bel:Below 0 w W
 keep: ∀k,k<w.heap.size->S k=true->W.heap[k]? =w.heap[k]?
 cell: ∀p v,(bK S w).cell? p=some v-> ∃u,W.cell? p=some u/\NH v u
 frz: ∀p v,(bK S w).cell? p=some v->W.frozen? p=false
section
variable {S:Nat->Bool}{w W W':World}{A:Array Value}
def Sq.start (h0:S 0=true) (H:jb w W) (b:jk W w A 35):Sq S w A W:=
 ⟨b,H.mono (Pe _),fun k d _=>H.block k d,fun p v h=>⟨v,(H.cell (Mt (pL h).2)).trans (pL h).2,.inl rfl⟩,fun p v h=>by
  have:=z4n h h0;unfold World.frozen? at this ⊢;rw[H.block _ (Mt (pL h).2)]
  exact this⟩
def Sq.below (h:Sq S w A W) (H:jb W W'):Sq S w A W':=by
 have i:=h.bel.size
 exact⟨(jm H h.row),h.bel.trans (H.mono (Pe _)),fun k d f=>(H.block k ed).trans (h.keep k d f),fun p v b=>by
  obtain⟨u,hc,hl⟩:=h.cell p v b;exact⟨u,(H.cell Uj).trans hc,hl⟩,fun p v b=>by
  obtain⟨u,hc,hl⟩:=h.cell p v b;have:=h.frz p v b;unfold World.frozen? at this ⊢;rw[H.block _ Uj]
  exact this⟩
def Sq.int (h:Sq S w A W){p:Addr}{k:IntKind}(d:(bK S w).cell? p=some (.int k z)): ∃m,W.cell? p=some (.int k m):=by
 obtain⟨u,H,rfl | ⟨K,a,b,e,rfl⟩⟩:=h.cell p _ d
 ·exact⟨z,H⟩
 cases e;exact⟨b,H⟩
def Sq.sl (h:Sq S w A W){p:Addr}{a:Option Addr}{n c:Nat}(H:(bK S w).cell? p=some (.slice a n c)):W.cell? p=some (.slice a n c):=by
 obtain⟨u,d,rfl | ⟨k,a,b,e,rfl⟩⟩:=h.cell p _ H
 ·exact d
 cases e
def Sq.set (h:Sq S w A W){o:Nat}{k:IntKind}(i:jc (bK S w) g o (.int k z)) (z':Int):Sq S w A (W.setCell ⟨g,o,none⟩ (.int k z')):=by
 obtain⟨l,n⟩:=pL i;have s:g<w.heap.size:=Mt n;obtain⟨m,q⟩:=h.int i;refine⟨(Ny _ _ _ _ em).trans h.row,⟨h.bel.os,h.bel.tape,h.bel.output,by simp[World.setCell];exact h.bel.size,fun k j=>by omega⟩,fun k j H=>(Ny _ _ _ _ (fun e=>by rw[e]at H;simp at H;rw[l]at H;cases H)).trans (h.keep k j H),fun p v d=> ?_,fun p v d=>by rw[ya1];exact h.frz p v d⟩;obtain⟨u,r,hl⟩:=h.cell p v d;obtain⟨U,f,b⟩:=ya0 (z':=z') q r;refine⟨U,f,?_⟩;rcases hl with rfl | ⟨k1,a1,b1,rfl,rfl⟩
 ·exact b
 rcases b with rfl | ⟨k2,a2,b2,e,rfl⟩
 ·exact .inr ⟨_,_,_,rfl,rfl⟩
 cases e;exact .inr ⟨_,_,_,rfl,rfl⟩
end
theorem GP (S:Nat->Bool) (h0:S 0=true) (x:Hs) (a:Nat->Option Addr) (c:Nat->Nat) (w:World) (hx:dK (bK S w) a c x) (y:x.Fit):
  jW 32 #[cV a c x] w fun e z=>(∃v,e= .returned v)/\w.heap.size<=z.heap.size/\Below 0 w z/\ ∀k,k<w.heap.size->S k=true->z.heap[k]? =w.heap[k]? :=by
 have q:=hI hx;have p:=hI y;unfold cV;go_in;go_upto_region 1 with fail;generalize hW:World.alloc _ _=W0;have Q:Hid (Sq S w (aE a c x) W0):=Sq.start h0 (by rw[<-hW];exact aR) (by rw[<-hW];exact Nc _ _);go_wp2_with fail;have M:x.key.length<=5000:=by have:=p.key;omega
 go_loopg [2] x.key.length (fun G i wr=> ∃k:Nat,k<=x.key.length/\G=x.key.length-k/\i= jV k/\Sq S w (aE a c x) wr)
 ·exact⟨0,ed,ed,rfl,Q⟩
 obtain⟨k,r,rfl,rfl,H⟩:=hrel;have SQ:=hI H;have hc:=ji 0 H.row;have lb:=aD H.row;by_cases G9:k<x.key.length
 ·obtain⟨b,off,t,e,n,l,rfl⟩:=q.key.at_ k G9;have hb:=l 0 ee;simp only[Tb,Pk,Nu]at hb;rw[e]at hc;obtain⟨m,x0⟩:=SQ.int hb;refine Qw fun L=>?_;have fz:=SQ.frz _ _ hb;have Z:=hI hb;have hd:=bL G9;refine Qb fun C u=>?_;go_upto_region 4 with fail;refine yM 10 ef (fun d _ _ _ _ h=>by cases d<;>exact h) ef ?_;intro V B;have SV:=hI (SQ.below B);have N:=SV.frz _ _ Z;replace hc:=(B.cell Uj).trans hc;replace x0:=(B.cell (Mt x0)).trans x0;replace L:=Mt x0;replace lb:=Mt hc;refine Xj ?_
  repeat (go_big_quiet_step (fail))
  refine wpQuiet_nil ?_;go_wp2_with fail;go_roundg (x.key.length-(k+1))
  ·go_light;exact⟨k+1,ed,ed,ej,SV.set Z _⟩
  go_light;omega
 obtain rfl:k=x.key.length:=ed;have hd:=bZ G9;have Q:=SQ;go_wp2_with fail;have P:x.buf.length<=5000:=(by have:=p.buf;omega);go_loopg [3] x.buf.length (fun G i wr=> ∃k:Nat,k<=x.buf.length/\G=x.buf.length-k/\i= jV k/\Sq S w (aE a c x) wr)
 ·exact⟨0,ed,ed,rfl,Q⟩
 obtain⟨k,r,rfl,rfl,H⟩:=hrel;have SQ:=hI H;have hc:=ji 17 H.row;have lb:=aD H.row;by_cases G9:k<x.buf.length
 ·obtain⟨b,off,t,e,n,l,rfl⟩:=q.buf.at_ k G9;have hb:=l 0 ee;simp only[Tb,Pk,Nu]at hb;rw[e]at hc;obtain⟨m,x0⟩:=SQ.int hb;refine Qw fun L=>?_;have fz:=SQ.frz _ _ hb;have Z:=hI hb;have hd:=bL G9;refine Qb fun C u=>?_;go_wp2_with fail;go_roundg (x.buf.length-(k+1))
  ·go_light;exact⟨k+1,ed,ed,ej,SQ.set Z _⟩
  go_light;omega
 obtain rfl:k=x.buf.length:=ed;have hd:=bZ G9;have Q:=SQ;go_wp2_with fail;have R:x.st.tks.length<=5000:=(by have:=p.st.1;omega);go_loopg [4] x.st.tks.length (fun G i wr=> ∃k:Nat,k<=x.st.tks.length/\G=x.st.tks.length-k/\i= jV k/\Sq S w (aE a c x) wr)
 ·exact⟨0,ed,ed,rfl,Q⟩
 obtain⟨k,r,rfl,rfl,H⟩:=hrel;have SQ:=hI H;have hc:=ji 14 H.row;have lb:=aD H.row;by_cases G9:k<x.st.tks.length
 ·obtain⟨D,F,E,f⟩:=q.st.tks;cases E;obtain⟨b,off,t,e,n,l,rfl⟩:=f.at_ k G9;have hb:=l 1 ee;simp only[Dl,Nu]at hb;rw[e]at hc;obtain⟨m,x0⟩:=SQ.int hb;refine Qw fun L=>?_;have fz:=SQ.frz _ _ hb;have Z:=hI hb;have hd:=bL G9;refine Qb fun C u=>?_;go_wp2_with fail;go_roundg (x.st.tks.length-(k+1))
  ·go_light;exact⟨k+1,ed,ed,ej,SQ.set Z _⟩
  go_light;omega
 obtain rfl:k=x.st.tks.length:=ed;have hd:=bZ G9;have Q:=SQ;go_wp2_with fail;have T:x.pl.S.length<=5000:=(by have:=p.pl.S;omega);go_loopg [5] x.pl.S.length (fun G i wr=> ∃k:Nat,k<=x.pl.S.length/\G=x.pl.S.length-k/\i= jV k/\Sq S w (aE a c x) wr)
 ·exact⟨0,ed,ed,rfl,Q⟩
 obtain⟨k,r,rfl,rfl,H⟩:=hrel;have SQ:=hI H;have hc:=ji 3 H.row;have lb:=aD H.row;by_cases G9:k<x.pl.S.length
 ·obtain⟨D,F,E,f⟩:=q.pl.S;cases E;obtain⟨b,off,t,e,n,l,a4,rfl,I⟩:=f.at_ k G9;have hb:=l 0 ee;have ho:=l 2 ee;obtain⟨a5,a6,rfl,J⟩:=I;simp only[Pk,Dl,Nu]at hb ho;rw[e]at hc;obtain⟨m,x0⟩:=SQ.int hb;refine Qw fun L=>?_;have fz:=SQ.frz _ _ hb;refine Qa fun Z Z2=>?_;have U:=hI J;have X:=p.pl.ends k G9;generalize x.pl.S[k]=s at *;have hd:=bL G9;refine Qb fun C u=>?_;go_wp2_with fail;have K:=hI (SQ.set Z 0);generalize Y:World.setCell _ _ _=a7 at *;have E1:=hI e;go_loopg [6] s.ends.length (fun G i wr=> ∃j:Nat,j<=s.ends.length/\G=s.ends.length-j/\i= jV j/\Sq S w (aE a c x) wr)
  ·exact⟨0,ed,ed,rfl,K⟩
  obtain⟨j,hj,rfl,rfl,H⟩:=hrel;have SQ:=hI H;have hc:=ji 3 H.row;rw[E1.o]at hc;have lb:=aD H.row;have y2:=H.sl Z2;have a8:=Mt y2;by_cases o:j<s.ends.length
  ·obtain⟨b2,O,v0,e2,n,l,rfl⟩:=U.at_ j o;have hb:=l 0 ee;simp only[Pk,Nu]at hb;rw[e2]at y2;obtain⟨m2,x0⟩:=SQ.int hb;refine Qw fun L=>?_;have fz:=SQ.frz _ _ hb;have Z:=hI hb;have hd:=bL o;have j0:=aQ j;have j1:=aN o;go_wp2_with fail;go_roundg (s.ends.length-(j+1))
   ·go_light;exact⟨j+1,ed,ed,ej,SQ.set Z _⟩
   go_light;omega
  obtain rfl:j=s.ends.length:=ed;have hd:=bZ o;go_wp2_with fail;go_roundg (x.pl.S.length-(k+1))
  ·go_light;exact⟨k+1,ed,ed,ej,SQ⟩
  go_light;omega
 obtain rfl:k=x.pl.S.length:=ed;have hd:=bZ G9;have Q:=SQ;go_wp2_with fail;have a0:x.bk.R.length<=5000:=(by have:=p.bk.R;omega);go_loopg [7] x.bk.R.length (fun G i wr=> ∃k:Nat,k<=x.bk.R.length/\G=x.bk.R.length-k/\i= jV k/\Sq S w (aE a c x) wr)
 ·exact⟨0,ed,ed,rfl,Q⟩
 obtain⟨k,r,rfl,rfl,H⟩:=hrel;have SQ:=hI H;have hc:=ji 12 H.row;have lb:=aD H.row;by_cases G9:k<x.bk.R.length
 ·obtain⟨D,F,E,f⟩:=q.bk.R;cases E;obtain⟨b,off,t,e,n,l,a1,vo,a2,rfl,-⟩:=f.at_ k G9;have hb:=l 6 ee;simp only[Dl,Nu]at hb;rw[e]at hc;obtain⟨m,x0⟩:=SQ.int hb;refine Qw fun L=>?_;have fz:=SQ.frz _ _ hb;have Z:=hI hb;have hd:=bL G9;refine Qb fun C u=>?_;go_wp2_with fail;go_roundg (x.bk.R.length-(k+1))
  ·go_light;exact⟨k+1,ed,ed,ej,SQ.set Z _⟩
  go_light;omega
 obtain rfl:k=x.bk.R.length:=ed;have hd:=bZ G9;have Q:=SQ;go_wp2_with fail;have a3:x.nx.R.length<=5000:=(by have:=p.nx.R;omega);go_loopg [8] x.nx.R.length (fun G i wr=> ∃k:Nat,k<=x.nx.R.length/\G=x.nx.R.length-k/\i= jV k/\Sq S w (aE a c x) wr)
 ·exact⟨0,ed,ed,rfl,Q⟩
 obtain⟨k,r,rfl,rfl,H⟩:=hrel;have SQ:=hI H;have hc:=ji 23 H.row;have lb:=aD H.row;by_cases G9:k<x.nx.R.length
 ·obtain⟨D,F,E,f⟩:=q.nx.R;cases E;obtain⟨b,off,t,e,n,l,a1,vo,a2,rfl,-⟩:=f.at_ k G9;have hb:=l 6 ee;simp only[Dl,Nu]at hb;rw[e]at hc;obtain⟨m,x0⟩:=SQ.int hb;refine Qw fun _=>?_;have fz:=SQ.frz _ _ hb;have Z:=hI hb;have hd:=bL G9;refine Qb fun _ _=>?_;go_wp2_with fail;go_roundg (x.nx.R.length-(k+1))
  ·go_light;exact⟨k+1,ed,ed,ej,SQ.set Z _⟩
  go_light;omega
 obtain rfl:k=x.nx.R.length:=ed;have hd:=bZ G9;have Q:=SQ;go_wp2_with fail
 go_end0
 exact⟨⟨_,rfl⟩,Q.bel.size,Q.bel,Q.keep⟩
def ya2 (a:Nat->Option Addr) (c:Nat->Nat) (x:Hs) (e:Int) (l:List Int) (a3:Option Addr) (c3:Nat):(cY a c x e).setIfInBounds 17 (js a3 l c3)=cY (up a 12 a3) (up c 12 c3) {x with buf:=l} e:=by
 simp[cY,aE,up]
theorem ya3 (x:Hs) (a:Nat->Option Addr) (c:Nat->Nat) (b:List Int) (ba:Option Addr) (bc:Nat) (w:World) (hx:dK w a c x) (q:x.Fit) (hl:aB w 1 dG ba bc b) (P:aO b) (a9:b.length<=5000):
  jW 25 #[cV a c x,js ba b bc] w (vM w (iQ x b)):=by
 have HB:=hI fun W hl=>EQ x a c W (hx.below hl) q;refine Ka fun b0=>?_;have b2:=q.buf;have Q:=hI q.bb;have R:=hI P;have z:Hid (iQ x b=if dH x=0 then(if x.buf.length+b.length<=2048 then({x with buf:=x.buf++b},0)else(aK,9))else(aK,dH x)):=rfl;generalize iQ x b=T at *;generalize dH x=E at *;unfold cV;go_in;go_upto_region 1 with fail;generalize U:World.alloc (World.alloc _ _) _=W0;have F:Hid (Fr w [(aE a c x,35),(aE nA nC aK,35)] W0):=by show Fr _ _ _;rw[<-U];exact((Fr.start w).alloc rfl _ 35).alloc ee _ 35
 go_step;refine gP rfl (.tmp 2) rfl rfl (F.row 0 _ rfl) ?_;simp[Act.put];go_upto_region 2 with(refine ZY fun V g a5 a6 _ hb ho _ B f=>?_;refine Qa fun R1 K=>?_);obtain⟨y,X⟩: ∃y,y=nI x E:=⟨_,rfl⟩;rw[<-X]at R1 K;have a7:=hI X;clear X;have Y:jc V w 17 (js (a 12) x.buf (c 12)):=jr (B.row 0 _ rfl);have lb:w.heap.size<V.heap.size:=B.lt (i:=0) ee;by_cases Z:E=0/\x.buf.length+b.length<=2048
 ·obtain⟨rfl,a0⟩:=Z;obtain rfl:y=x:=a7.o;have j:Hid (T=({y with buf:=y.buf++b},0)):=by show T=_;rw[z.o,Np rfl,Np a0]
  have d1:decide ((2048:Int)<(y.buf:Int)+(b:Int))=false:=Mw ed;clear z a7;go_upto_region 3 with(go_at_call 77;refine(zF 9 R1).mono ?_;refine Vt fun W2 N d R2=>?_;have G:=hI (B.low (d.below Qy f));have M:=hI (K.onl d Qt));have C:=ji 17 R2;have L:=aD R2;go_upto_region 4 with(at_builtin;refine FC rfl _ _ rfl (g+1) _ y.buf rfl Q M.own ba bc b rfl (b0 _ G.bel) R ed L ?_;intro a8 c3 W4 p r;have s:=dT M.own ep L r;have F4:=hI (G.low (s.mono (Fw f)));have M4:=hI (M.app r p (n:=g+1) ep);have R4:=hI ((s.block _ Qt).trans R2);clear C L p r s;have C:=ji 17 R4;have L:=aD R4;have fz:=jZ R4);have d:=aZ.set W4 ⟨g,17,none⟩ (js a8 (y.buf++b).length c3);have R5:=hI (qW (o:=17) (u:= .slice a8 (y.buf++b).length c3) R4);rw[ya2]at R5;rw[<-Mx];have F5:=hI (F4.low (d.below Qy f));have M5:=hI (M4.ext (d.off (dC Qt)));generalize World.setCell _ _ _=W5 at *;clear d C L fz G F4 R2 R4 M M4;have HE:=hI (sL g _ _ _ _ (old (g+1)) W5 R5 M5);go_wp2_with (first | (go_at_call 78;refine HE.mono ?_;rintro en WL ⟨⟨aL,cL,rfl,H⟩,l⟩;rw[NJ]at H ⊢;have FL:=hI (F5.below l);have a1:=hI H;clear l H) | (refine bP rfl 35 (.tmp 4) (.tmp 32) rfl (w+1) (aE aL cL {y with buf:=y.buf++b}) _ 35 rfl rfl (FL.row 1 _ rfl) cQ rfl (fQ _ _ _) ?_))
  have t:aZ (w+1) WL (WL.setRow (w+1) (aE aL cL {y with buf:=y.buf++b})):=⟨rfl,rfl,rfl,Qx,fun k a2=>Nq _ _ _ _ a2⟩;have I:=hI (FL.setRow 1 rfl (aE aL cL {y with buf:=y.buf++b}));refine Nh (v:= .tuple #[.agg (aE aL cL {y with buf:=y.buf++b}),_]) (eL rfl _ _ (w+1) 35 _ (0,0) _ _ rfl rfl (I.row 1 _ rfl) underlying35 rfl cQ) rfl ?_;rw[j.o];exact⟨aL,cL,rfl,(a1.ext (t.off (dC ed))).ext (kT ed),I.bel⟩
 obtain⟨O,J,j,a3⟩: ∃O,O≠0/\T=(aK,O)/\ ∀W,jk W g (cY a5 a6 y E) 124->jW 77 #[jp g 0,.bool (decide ((2048:Int)<(x.buf:Int)+(b:Int))),jV 9] W (zG g a5 a6 y W true O):=by
  by_cases h0:E=0
  ·subst h0;have a0: ¬x.buf.length+b.length<=2048:=fun h=>Z ⟨rfl,h⟩;refine⟨9,eh,by rw[z.o,Np rfl,Nm a0],fun W h=> ?_⟩;rw[Ni ed];exact BQ 9 eh h
  exact⟨E,h0,by rw[z.o,Nm h0],fun W h=>NI _ 9 h0 h⟩
 obtain⟨D,a4⟩: ∃D,D=decide ((2048:Int)<(x.buf:Int)+(b:Int)):=⟨_,rfl⟩;rw[<-a4]at a3;have d1:=a4.symm;have H0:=hI a3;have H1:=hI j;have hz:=yG y J;clear a3 j Z z J a4;go_upto_region 4 with(go_at_call 77;refine(H0 V R1).mono ?_;refine Vt fun W2 N d R2=>?_;have G:=hI (B.low (d.below Qy f));have M:=hI ((K.m ep).ext (d.off (dC Qt)));clear N d);clear Y lb d1 B R1 K;have HE:=hI (sL g _ _ _ _ (old (g+1)) W2 R2 M);go_wp2_with (first | (go_at_call 78;refine HE.mono ?_;rintro en WL ⟨⟨aL,cL,rfl,H⟩,l⟩;rw[hz]at H ⊢;have FL:=hI (G.below l);have a1:=hI H) | (refine bP rfl 35 (.tmp 4) (.tmp 32) rfl (w+1) (aE aL cL aK) _ 35 rfl rfl (FL.row 1 _ rfl) cQ rfl (fQ _ _ _) ?_))
 have t:aZ (w+1) WL (WL.setRow (w+1) (aE aL cL aK)):=⟨rfl,rfl,rfl,(by simp[World.setRow]),fun k a2=>Nq _ _ _ _ a2⟩;have I:=hI (FL.setRow 1 rfl (aE aL cL aK));refine Nh (v:= .tuple #[.agg (aE aL cL aK),_]) (eL rfl _ _ (w+1) 35 _ (0,0) _ _ rfl rfl (I.row 1 _ rfl) underlying35 rfl cQ) rfl ?_;rw[H1.o];exact⟨aL,cL,rfl,(a1.ext (t.off (dC ed))).ext (kT ed),I.bel⟩
def ya4 {b:List Int}(h:x.Fit) (a:aO b):(iQ x b).1.Fit:=by
 unfold iQ;split
 ·split
  ·rename_i h2
   exact⟨h.pl,h.bk,h.nx,h.st,h.key,em,h.kb,h.bb.app a⟩
  exact sM
 exact sM
def ya5 (h:x.Fit):(iT x).1.Fit:=by
 unfold iT;split
 ·exact⟨h.pl,h.bk,wK,h.st,h.key,Pe _,h.kb,fun x h=>(nomatch h)⟩
 exact sM
def ya6 (h:x.Fit):(kY x).1.Fit:=by
 unfold kY;split
 ·exact sM
 split
 ·exact sM
 unfold qQ;split
 ·exact sM
 rename_i p a
 split at a
 ·rename_i hq
  cases a;split
  ·exact sM
  split
  ·exact sM
  exact⟨h.pl,h.bk,GQ hq.choose_spec,h.st,h.key,Pe _,h.kb,fun x h=>(nomatch h)⟩
 cases a
def box (n m:Nat):Nat->Bool:=fun k=>decide (k<n) || decide (m<=k)
def GO {n:Nat}{U:World}(a:0<n) (c:U.heap.size<=m) (h: ∀k,n<=k->k<U.heap.size->W.heap[k]? =U.heap[k]?):eD (bK (old n) U) (bK (box n m) W):=fun p v e=>by
 obtain⟨h1,h2⟩:=pL e;have b:=Mt h2;unfold old at h1;simp only[Ns]at h1;refine uC e ?_ (fun _=>by unfold old;simp[a]) (h _ ed b);unfold box;refine Xu ?_;omega
def Below.spoil {n:Nat}{V:World}(h:jb V W) (b:V.heap.size<=n) (h0:Below 0 W W') (a: ∀k,k<W.heap.size->box n m k=true->W'.heap[k]? =W.heap[k]?):jb V W':=
 ⟨h0.os.trans h.os,h0.tape.trans h.tape,h0.output.trans h.output,Nj h.size h0.size,fun k hi=>(a k ZD (by unfold box;simp;omega)).trans (h.block k hi)⟩
def GN {n:Nat}(h:0<n):box n m 0=true:=by unfold box;simp[h]
theorem ya7 (x:Hs) (a:Nat->Option Addr) (c:Nat->Nat) (b:List Int) (ba:Option Addr) (bc:Nat) (w:World) (hx:dK w a c x) (hb:x.Wide) (d:aB w 1 dG ba bc b) (ho:aO b):
  jW 4 #[cV a c x,js ba b bc] w fun e c8=>e= .returned (.bool true)/\jb w c8:=by
 have C:Hid (∀W,jb w W->dK W a c x/\aB W 1 dG ba bc b):=fun W h=>⟨hx.below h,d.below fS h⟩;have c9:=hI hb;have L:=hI ho;unfold cV;go_in;go_upto_region 1 with fail;generalize b4:World.alloc _ _=W0;have F:=hI (jH b4)
 go_step;refine gP (by rfl) _ rfl rfl (iD F.o) ?_;simp[Act.put];go_wp2_with fail;refine(yal x a c W0 (C.o W0 F.o.bel).1 c9.o).mono ?_;rintro e b8 ⟨r1,rfl,b5,d⟩;replace F:=hI (F.o.below d);have F1:=hI b5;cases r1
 case true=>
  go_wp2_with fail;go_ret;exact⟨rfl,F.o.bel⟩
 have i:=hI (F1.o rfl);by_cases b6:b.length<=5000
 case neg=>
  have t0:decide ((5000:Int)<(b:Int))=true:=by simp;omega
  go_wp2_with fail;go_ret;exact⟨rfl,F.o.bel⟩
 have t0:decide ((5000:Int)<(b:Int))=false:=by simp;omega
 have H0:=hI b6;go_upto_region 3 with fail;go_step;refine gP (by rfl) _ rfl rfl (iD F.o) ?_;simp[Act.put];go_wp2_with fail;refine(EV x a c b8 (C.o b8 F.o.bel).1 i.o).mono ?_;rintro e G ⟨a0,D,rfl,d0,d⟩;unfold cV;replace F:=hI (F.o.below d);have E0:Hid (Fr G [(aE nA nC aK,35)] (G.alloc (.cells (aE nA nC aK) 35))):=(Fr.start G).alloc rfl _ 35;go_upto_region 4 with(refine bP rfl 35 (.tmp 5) (.tmp 26) rfl G (aE a0 D x) _ 35 rfl rfl (E0.o.row 0 _ rfl) cQ rfl (fQ _ _ _) ?_);generalize o9:World.setRow (World.alloc G _) _ _=V;have E:Fr G [(aE a0 D x,35)] V:=by rw[<-o9];exact E0.o.setRow 0 rfl _
 have R:Hid (jk V G (aE a0 D x) 35):=E.row 0 _ rfl;have a1:Hid (∀W,jb V W->dK W a0 D x):=fun W h=>((d0.m (Mv _)).ext (mZ _ _)).below (jt E.bel h);replace F:=hI (F.o.below E.bel);have a2:=hI (iD F.o);have I:=hI F.o.bel;have a3:=Nat.lt_of_le_of_lt (Pe _) (aD R.o);generalize G.heap.size=g0 at *
 try dsimp only[Act.put]
 have B0:Hid (jb V V):=Nb _ _;go_step;refine gP (by rfl) _ rfl rfl ((jm B0.o R.o)) ?_;simp[Act.put];go_wp2_with fail;refine(ya3 x a0 D b ba bc V (a1.o V B0.o) i.o (C.o V (jo I B0.o)).2 L.o H0.o).mono ?_;rintro e s ⟨T,X,rfl,p,d⟩;have E0:Hid (Fr s [(aE nA nC aK,35)] (s.alloc (.cells (aE nA nC aK) 35))):=(Fr.start s).alloc rfl _ 35;unfold cV;go_upto_region 5 with(refine bP rfl 35 (.tmp 6) (.tmp 31) rfl s (aE T X (iQ x b).1) _ 35 rfl rfl (E0.o.row 0 _ rfl) cQ rfl (fQ _ _ _) ?_);generalize o9:World.setRow (World.alloc s _) _ _=j;have E:Fr s [(aE T X (iQ x b).1,35)] j:=by rw[<-o9];exact E0.o.setRow 0 rfl _
 have R1:Hid (jk j s (aE T X (iQ x b).1) 35):=E.row 0 _ rfl;have N1:=hI p;have M0:Hid (∀W,jb j W->dK W T X (iQ x b).1/\ ∀k,k<s.heap.size->W.heap[k]? =s.heap[k]?):=fun W h=>⟨(p.ext (mZ _ _)).below (jt E.bel h),fun k hk=>(h.block k (Nl hk E.bel.size)).trans (E.bel.block k hk)⟩;have S1:V.heap.size<=s.heap.size/\s.heap.size<j.heap.size:=⟨d.size,aD R1.o⟩;have Y:=hI (B0.o.trans ((jt d E.bel).mono B0.o.size));have I1:Hid (∀W,jb j W->jb V W):=fun W h=>(jt d E.bel).trans (h.mono (Nj d.size E.bel.size));generalize a4:s.heap.size=g1 at *
 try dsimp only[Act.put]
 go_step;refine gP (by rfl) _ rfl rfl ((jm Y.o a2.o)) ?_;simp[Act.put];go_wp2_with fail;refine(yaw x a c b ba bc j (C.o j (jo I Y.o)).1 i.o (C.o j (jo I Y.o)).2 L.o H0.o).mono ?_;rintro e t ⟨a6,c2,rfl,p,d⟩;have E0:Hid (Fr t [(aE nA nC aK,35)] (t.alloc (.cells (aE nA nC aK) 35))):=(Fr.start t).alloc rfl _ 35;unfold cV;go_upto_region 6 with(refine bP rfl 35 (.tmp 8) (.tmp 37) rfl t (aE a6 c2 (iQ x b).1) _ 35 rfl rfl (E0.o.row 0 _ rfl) cQ rfl (fQ _ _ _) ?_);generalize o9:World.setRow (World.alloc t _) _ _=f;have E:Fr t [(aE a6 c2 (iQ x b).1,35)] f:=by rw[<-o9];exact E0.o.setRow 0 rfl _
 have R2:Hid (jk f t (aE a6 c2 (iQ x b).1) 35):=E.row 0 _ rfl;have N2:=hI p;have M3:Hid (∀W,jb f W->dK W a6 c2 (iQ x b).1/\ ∀k,k<t.heap.size->W.heap[k]? =t.heap[k]?):=fun W h=>⟨(p.ext (mZ _ _)).below (jt E.bel h),fun k hk=>(h.block k (Nl hk E.bel.size)).trans (E.bel.block k hk)⟩;have S2:j.heap.size<=t.heap.size/\t.heap.size<f.heap.size:=⟨d.size,aD R2.o⟩;have B2:=hI (Y.o.trans ((jt d E.bel).mono Y.o.size));have I2:Hid (∀W,jb f W->jb j W):=fun W h=>(jt d E.bel).trans (h.mono (Nj d.size E.bel.size));generalize d1:t.heap.size=g2 at *
 try dsimp only[Act.put]
 go_step;refine gP (by rfl) _ rfl rfl ((jm B2.o R.o)) ?_;simp[Act.put];go_wp2_with fail;refine(yaz x a0 D f (a1.o f B2.o) i.o).mono ?_;rintro e U ⟨Z,c3,rfl,p,d⟩;have E0:Hid (Fr U [(aE nA nC aK,35)] (U.alloc (.cells (aE nA nC aK) 35))):=(Fr.start U).alloc rfl _ 35;unfold cV;go_upto_region 7 with(refine bP rfl 35 (.tmp 10) (.tmp 42) rfl U (aE Z c3 (kY x).1) _ 35 rfl rfl (E0.o.row 0 _ rfl) cQ rfl (fQ _ _ _) ?_);generalize o9:World.setRow (World.alloc U _) _ _=l;have E:Fr U [(aE Z c3 (kY x).1,35)] l:=by rw[<-o9];exact E0.o.setRow 0 rfl _
 have R3:Hid (jk l U (aE Z c3 (kY x).1) 35):=E.row 0 _ rfl;have N3:=hI p;have M1:Hid (∀W,jb l W->dK W Z c3 (kY x).1/\ ∀k,k<U.heap.size->W.heap[k]? =U.heap[k]?):=fun W h=>⟨(p.ext (mZ _ _)).below (jt E.bel h),fun k hk=>(h.block k (Nl hk E.bel.size)).trans (E.bel.block k hk)⟩;have S3:f.heap.size<=U.heap.size/\U.heap.size<l.heap.size:=⟨d.size,aD R3.o⟩;have B3:=hI (B2.o.trans ((jt d E.bel).mono B2.o.size));have I3:Hid (∀W,jb l W->jb f W):=fun W h=>(jt d E.bel).trans (h.mono (Nj d.size E.bel.size));generalize a7:U.heap.size=g3 at *
 try dsimp only[Act.put]
 go_step;refine gP (by rfl) _ rfl rfl ((jm B3.o a2.o)) ?_;simp[Act.put];go_wp2_with fail;refine(yax x a c l (C.o l (jo I B3.o)).1 i.o).mono ?_;rintro e y ⟨a8,c4,rfl,p,d⟩;have E0:Hid (Fr y [(aE nA nC aK,35)] (y.alloc (.cells (aE nA nC aK) 35))):=(Fr.start y).alloc rfl _ 35;unfold cV;go_upto_region 8 with(refine bP rfl 35 (.tmp 12) (.tmp 47) rfl y (aE a8 c4 (kY x).1) _ 35 rfl rfl (E0.o.row 0 _ rfl) cQ rfl (fQ _ _ _) ?_);generalize o9:World.setRow (World.alloc y _) _ _=g;have E:Fr y [(aE a8 c4 (kY x).1,35)] g:=by rw[<-o9];exact E0.o.setRow 0 rfl _
 have R4:Hid (jk g y (aE a8 c4 (kY x).1) 35):=E.row 0 _ rfl;have N4:=hI p;have M4:Hid (∀W,jb g W->dK W a8 c4 (kY x).1/\ ∀k,k<y.heap.size->W.heap[k]? =y.heap[k]?):=fun W h=>⟨(p.ext (mZ _ _)).below (jt E.bel h),fun k hk=>(h.block k (Nl hk E.bel.size)).trans (E.bel.block k hk)⟩;have S4:l.heap.size<=y.heap.size/\y.heap.size<g.heap.size:=⟨d.size,aD R4.o⟩;have B4:=hI (B3.o.trans ((jt d E.bel).mono B3.o.size));have I4:Hid (∀W,jb g W->jb l W):=fun W h=>(jt d E.bel).trans (h.mono (Nj d.size E.bel.size));generalize d2:y.heap.size=g4 at *
 try dsimp only[Act.put]
 go_step;refine gP (by rfl) _ rfl rfl ((jm B4.o R.o)) ?_;simp[Act.put];go_wp2_with fail;refine(yav x a0 D g (a1.o g B4.o) i.o).mono ?_;rintro e u ⟨a5,c5,rfl,p,d⟩;have E0:Hid (Fr u [(aE nA nC aK,35)] (u.alloc (.cells (aE nA nC aK) 35))):=(Fr.start u).alloc rfl _ 35;unfold cV;go_upto_region 9 with(refine bP rfl 35 (.tmp 14) (.tmp 52) rfl u (aE a5 c5 (iT x).1) _ 35 rfl rfl (E0.o.row 0 _ rfl) cQ rfl (fQ _ _ _) ?_);generalize o9:World.setRow (World.alloc u _) _ _=n;have E:Fr u [(aE a5 c5 (iT x).1,35)] n:=by rw[<-o9];exact E0.o.setRow 0 rfl _
 have R5:Hid (jk n u (aE a5 c5 (iT x).1) 35):=E.row 0 _ rfl;have N5:=hI p;have M2:Hid (∀W,jb n W->dK W a5 c5 (iT x).1/\ ∀k,k<u.heap.size->W.heap[k]? =u.heap[k]?):=fun W h=>⟨(p.ext (mZ _ _)).below (jt E.bel h),fun k hk=>(h.block k (Nl hk E.bel.size)).trans (E.bel.block k hk)⟩;have S5:g.heap.size<=u.heap.size/\u.heap.size<n.heap.size:=⟨d.size,aD R5.o⟩;have B5:=hI (B4.o.trans ((jt d E.bel).mono B4.o.size));have I5:Hid (∀W,jb n W->jb g W):=fun W h=>(jt d E.bel).trans (h.mono (Nj d.size E.bel.size));generalize a9:u.heap.size=g5 at *
 try dsimp only[Act.put]
 go_step;refine gP (by rfl) _ rfl rfl ((jm B5.o a2.o)) ?_;simp[Act.put];go_wp2_with fail;refine(yas x a c n (C.o n (jo I B5.o)).1 i.o).mono ?_;rintro e z ⟨b0,c6,rfl,p,d⟩;have E0:Hid (Fr z [(aE nA nC aK,35)] (z.alloc (.cells (aE nA nC aK) 35))):=(Fr.start z).alloc rfl _ 35;unfold cV;go_upto_region 10 with(refine bP rfl 35 (.tmp 16) (.tmp 57) rfl z (aE b0 c6 (iT x).1) _ 35 rfl rfl (E0.o.row 0 _ rfl) cQ rfl (fQ _ _ _) ?_);generalize o9:World.setRow (World.alloc z _) _ _=o;have E:Fr z [(aE b0 c6 (iT x).1,35)] o:=by rw[<-o9];exact E0.o.setRow 0 rfl _
 have R6:Hid (jk o z (aE b0 c6 (iT x).1) 35):=E.row 0 _ rfl;have N6:=hI p;have M5:Hid (∀W,jb o W->dK W b0 c6 (iT x).1/\ ∀k,k<z.heap.size->W.heap[k]? =z.heap[k]?):=fun W h=>⟨(p.ext (mZ _ _)).below (jt E.bel h),fun k hk=>(h.block k (Nl hk E.bel.size)).trans (E.bel.block k hk)⟩;have S6:n.heap.size<=z.heap.size/\z.heap.size<o.heap.size:=⟨d.size,aD R6.o⟩;have B6:=hI (B5.o.trans ((jt d E.bel).mono B5.o.size));have I6:Hid (∀W,jb o W->jb n W):=fun W h=>(jt d E.bel).trans (h.mono (Nj d.size E.bel.size));generalize d3:z.heap.size=g6 at *
 try dsimp only[Act.put]
 obtain⟨E,b9⟩: ∃E,(if gD x=true then 0 else 8:Int)=E:=⟨_,rfl⟩;have M:=hI (ya4 i.o L.o);have N:=hI (ya6 i.o);have O:=hI (ya5 i.o)
 have K:Hid (∀W,jb o W->jb n W/\jb g W/\jb l W/\jb f W/\jb j W/\jb V W):=fun W h=>by
  have k5:=I6.o W h;have k4:=I5.o W k5;have k3:=I4.o W k4;have k2:=I3.o W k3;have k1:=I2.o W k2;exact⟨k5,k4,k3,k2,k1,I1.o W k1⟩
 have b1:=hI (K.o o (Nb _ _));have L1:=hI ((jm b1.o.2.2.2.2.1 R1.o));have L2:=hI ((jm b1.o.2.2.2.1 R2.o));have L3:=hI ((jm b1.o.2.2.1 R3.o));have L4:=hI ((jm b1.o.2.1 R4.o));have L5:=hI ((jm b1.o.1 R5.o));have L7:=hI ((jm B6.o R.o));have L8:=hI ((jm B6.o a2.o));have k1:=fB.of (v:= jV E) fun W d=>by rw[<-b9];exact QH x a0 D W (a1.o W (K.o W d).2.2.2.2.2) i.o
 have k2:=fB.of (v:= jV E) fun W d=>by rw[<-b9];exact z6l x a c W (C.o W (I.o.trans ((K.o W d).2.2.2.2.2.mono I.o.size))).1 i.o
 have k3:=fB.of (v:= .bool true) fun W d=>by have:=BW (iQ x b).1 (iQ x b).1 T a6 X c2 W (M0.o W (K.o W d).2.2.2.2.1).1 (M3.o W (K.o W d).2.2.2.1).1 M.o M.o;rw[Ni rfl]at this;exact this
 have k4:=fB.of (v:= .bool true) fun W d=>by have:=BW (kY x).1 (kY x).1 Z a8 c3 c4 W (M1.o W (K.o W d).2.2.1).1 (M4.o W (K.o W d).2.1).1 N.o N.o;rw[Ni rfl]at this;exact this
 have k5:=fB.of (v:= .bool true) fun W d=>by have:=BW (iT x).1 (iT x).1 a5 b0 c5 c6 W (M2.o W (K.o W d).1).1 (M5.o W d).1 O.o O.o;rw[Ni rfl]at this;exact this
 unfold cV at k1 k2 k3 k4 k5;generalize(iQ x b).2=E1 at *;generalize(kY x).2=E3 at *;generalize(iT x).2=E5 at *;have C1:=hI k1;have C2:=hI k2;have C3:=hI k3;have C4:=hI k4;have C5:=hI k5;refine Mz (by kernel_rfl) (by kernel_rfl) ?_
 repeat (first | (go_big_quiet_want;(first | refine sD L1.o _ rfl rfl ?_ | refine sD L2.o _ rfl rfl ?_ | refine sD L3.o _ rfl rfl ?_ | refine sD L4.o _ rfl rfl ?_ | refine sD L5.o _ rfl rfl ?_ | refine sD R6.o _ rfl rfl ?_ | refine sD L7.o _ rfl rfl ?_ | refine sD L8.o _ rfl rfl ?_);simp[Act.put];go_big_quiet_on) | go_big_quiet_step (first | (with_reducible exact C1.o _ _) | (with_reducible exact C2.o _ _) | (with_reducible exact C3.o _ _) | (with_reducible exact C4.o _ _) | (with_reducible exact C5.o _ _)))
 refine wpQuiet_nil ?_;rintro _ ⟨⟨c0,osq⟩,rfl⟩;have A:=Nr o c0 osq;generalize grow (redrawn o c0) osq=J at *;have J9:=hI (K.o J A);have X1:=hI ((jm A L1.o));have X3:=hI ((jm A L3.o));have X5:=hI ((jm A L5.o));have d4:=hI (M0.o J J9.o.2.2.2.2.1).2;have A3:=hI (M1.o J J9.o.2.2.1).2;have A5:=hI (M2.o J J9.o.1).2;have z9:=A.size;have d8:=Y.o.size;have HL:Hid (V.heap.size<=g1/\g1<f.heap.size/\f.heap.size<=g3/\g3<g.heap.size/\g.heap.size<=g5/\g5<J.heap.size):=⟨S1.1,by omega,S3.1,by omega,S5.1,by omega⟩;go_upto_region 12 with fail;go_step;refine gP (by rfl) _ rfl rfl X1.o ?_;simp[Act.put];go_wp2_with fail;refine(GP (box V g1) (GN a3) (iQ x b).1 T X J (N1.o.ext (GO a3 (Fj a4) fun k _ hk=>d4.o k (by rw[<-a4];exact hk))) M.o).mono ?_;rintro e r ⟨⟨v,rfl⟩,c1,B,hk⟩;have d5:=hI (Below.spoil J9.o.2.2.2.2.2 (Mv _) B hk);have hq: ∀k,k<J.heap.size->g1<=k->r.heap[k]? =J.heap[k]? :=fun k h1 h2=>hk k h1 (by unfold box;simp[h2]);have Y3:=hI ((hq g3 (aD X3.o) (by have:=HL.o;omega)).trans X3.o);have Y5:=hI ((hq g5 (aD X5.o) (by have:=HL.o;omega)).trans X5.o);have A1:Hid (∀k,f.heap.size<=k->k<g3->r.heap[k]? =U.heap[k]?):=fun k h1 h2=>(hq k (by have:=HL.o;omega) (by have:=HL.o;omega)).trans (A3.o k h2);have A2:Hid (∀k,g.heap.size<=k->k<g5->r.heap[k]? =u.heap[k]?):=fun k h1 h2=>(hq k (by have:=HL.o;omega) (by have:=HL.o;omega)).trans (A5.o k h2);go_upto_region 13 with fail;go_step;refine gP (by rfl) _ rfl rfl Y3.o ?_;simp[Act.put];go_wp2_with fail;have h20:0<f.heap.size:=by have:=HL.o;omega
 refine(GP (box f g3) (GN h20) (kY x).1 Z c3 r (N3.o.ext (GO h20 (Fj a7) fun k h1 h2=>A1.o k h1 (by rw[<-a7];exact h2))) N.o).mono ?_;rintro e W1 ⟨⟨v,rfl⟩,c1,B,hk⟩;have d6:=hI (Below.spoil d5.o (by have:=HL.o;omega) B hk);have hq: ∀k,k<r.heap.size->g3<=k->W1.heap[k]? =r.heap[k]? :=fun k h1 h2=>hk k h1 (by unfold box;simp[h2]);have Z5:=hI ((hq g5 (aD Y5.o) (by have:=HL.o;omega)).trans Y5.o);have l5:=aD Y5.o;have A0:=hI fun k h1 h2=>(hq k (by omega) (by have:=HL.o;omega)).trans (A2.o k h1 h2);go_upto_region 14 with fail;go_step;refine gP (by rfl) _ rfl rfl Z5.o ?_;simp[Act.put];go_wp2_with fail;have b2:0<g.heap.size:=by have:=HL.o;omega
 refine(GP (box g g5) (GN b2) (iT x).1 a5 c5 W1 (N5.o.ext (GO b2 (Fj a9) fun k h1 h2=>A0.o k h1 (by rw[<-a9];exact h2))) O.o).mono ?_;rintro e P ⟨⟨v,rfl⟩,c1,B,hk⟩;have b3:=hI (Below.spoil d6.o (by have:=HL.o;omega) B hk);go_upto_region 15 with fail;go_step;refine gP (by rfl) _ rfl rfl ((jm b3.o R.o)) ?_;simp[Act.put];refine gP (by rfl) _ rfl rfl ((jm b3.o a2.o)) ?_;simp[Act.put];have c7:=hI (jo I b3.o);have q:=BW x x a0 a D c P (a1.o P b3.o) (C.o P c7.o).1 i.o i.o;rw[Ni rfl]at q;unfold cV at q;have Q:=hI q;go_wp2_with (go_at_call 18;refine Q.o.mono ?_;rintro e d9 ⟨rfl,b7⟩;have d7:=hI (jo c7 b7));go_ret;exact⟨rfl,d7.o⟩
open Go.ChangeShapes Go.WideShapes Go.ChangeAt Go.Deep
def ya8:ownKnob prog.godebug=none:=by kernel_rfl
def NG:laidOutB prog=true:=by kernel_rfl
section
variable {H:Type}{enc:TypeId × Value->H}{W:World}{base:Nat}{sp:Nat->Bool}{hd:Bool}
def mf:DataW H->DataW H->Prop
 | .slice es _,d=>d∈es
 | _,_=>False
def NE {α:Type}{R:World->List Value->α->Prop}(I:prog.underlying t=some (.slice e)) (J:prog.cellsOf e=sz) (hz:0<sz)
  {n:Nat}{v:Value}{y:DataW H × List MemPlace}(K: ∀n cs z,DataW.trod enc prog W base sp hd n e cs=some z->cs.length=sz->mf y.1 z.1-> ∃x,R W cs x)
  (h:DataW.trod enc prog W base sp hd n t [v]=some y): ∃l:List α,Sl W sz R v l:=by
 rcases open_slice I h with⟨g,_⟩ | ⟨a,len,cap,m,k,D,Pl,g,N,hl,O,u,rfl,hx⟩
 ·cases g;exact⟨[],Sl.nil W sz R⟩
 cases g;have L:len<=m:=by rw[u];split<;>omega
 have E: ∀i:Fin len,∃q:α × List Value,W.cells? base (a.add (i.1 * sz)) sz=some q.2/\R W q.2 q.1:=by
  intro i;obtain⟨C,h1,h2⟩:=hx i.1 (by have:=i.2;omega);rw[J]at h1;obtain⟨_,c,_⟩:=Ii h1;obtain⟨x,w⟩:=K _ _ _ h2 c (List.mem_map.2 ⟨i.1,List.mem_range.2 i.2,rfl⟩);exact⟨(x,C),h1,w⟩
 obtain⟨f,F⟩:=Classical.axiomOfChoice E;refine⟨List.ofFn fun i=>(f i).1,some a,cap,by rw[Ig],by rw[Ig];exact hl,(fun h=>nomatch h),fun i G=> ?_⟩;have r:i<len:=by rw[Ig]at G;exact G
 obtain⟨hq,w⟩:=F ⟨i,r⟩;obtain⟨_,c,o⟩:=Ii hq
 have p:a.spot=none:=by
  obtain⟨A,_⟩:=F ⟨0,ed⟩;obtain⟨_,B,d⟩:=Ii A;have h0:=d 0 hz;rw[Nf ed]at h0
  simpa [Addr.add]using World.cell?_spot h0
 obtain⟨b,off,s⟩:=a;have M:s=none:=p;subst M;refine⟨b,off,(f ⟨i,r⟩).2,rfl,c,fun j hj=> ?_,?_⟩
 ·have h1:=o j ed;rw[Nf hj]at h1
  have e:((⟨b,off,none⟩:Addr).add (i * sz)).add j=⟨b,off+i * sz+j,none⟩:=by
   unfold Addr.add;by_cases e1:i * sz=0<;>by_cases e2:j=0<;>simp[e1,e2,Tz]
  rw[<-e];exact h1
 rw[List.getElem_ofFn];exact w
def zE {α:Type}{R:World->List Value->α->Prop}(a:prog.underlying t=some (.slice e)) (b:prog.cellsOf e=sz) (hz:0<sz)
  (c: ∀n cs y,DataW.trod enc prog W base sp hd n e cs=some y->cs.length=sz-> ∃x,R W cs x)
  {n:Nat}{v:Value}{y:DataW H × List MemPlace}(h:DataW.trod enc prog W base sp hd n t [v]=some y): ∃l:List α,Sl W sz R v l:=
 NE a b hz (fun n cs z h1 h2 _=>c n cs z h1 h2) h
def fY {F:Array Field}(d:prog.underlying t=some (.struct F)){n:Nat}{y:DataW H × List MemPlace}(h:DataW.trod enc prog W base sp hd n t cs=some y) (j:Nat) (f:Field) (c:F[j]? =some f)
  (u:TypeId) (g:f.type=u) (o:Nat) (i:f.offset=o) (k:prog.cellsOf u=1){v:Value}(l:cs[o]? =some v): ∃m z,DataW.trod enc prog W base sp hd m u [v]=some z:=by
 obtain⟨xs,m,_,_,_,p,a⟩:=DataW.trod_struct d h;have h1:=a j f c;rw[g,k,i]at h1;have hj:=(Array.getElem?_eq_some_iff.1 c).1
 have h2:(cs.drop o).take 1=[v]:=by
  obtain⟨b,e⟩:=List.getElem?_eq_some_iff.1 l;rw[Pz b];simp[e]
 rw[h2,Nf ed]at h1;exact⟨m,_,h1⟩
def iW {n:Nat}{v:Value}{y:DataW H × List MemPlace}(h:DataW.trod enc prog W base sp hd n 3 [v]=some y): ∃x,v= jV x:=by
 obtain⟨x,e,_⟩:=DataW.trod_int underlying3 h;cases e;exact⟨x,rfl⟩
def ND {n:Nat}{v:Value}{y:DataW H × List MemPlace}(h:DataW.trod enc prog W base sp hd n 5 [v]=some y): ∃x,v= .int .u8 x:=by
 obtain⟨x,e,_⟩:=DataW.trod_int underlying5 h;cases e;exact⟨x,rfl⟩
def iV:prog.cellsOf 3=1:=by kernel_rfl
def GM:prog.cellsOf 5=1:=by kernel_rfl
def ya9 {n:Nat}{y:DataW H × List MemPlace}(h:DataW.trod enc prog W base sp hd n 133 cs=some y) (hl:cs.length=2): ∃x,fI W cs x:=by
 match cs,hl with
 | [c0,c1],_=>
  obtain⟨_,_,h0⟩:=fY underlying133 h 0 _ rfl 3 rfl 0 rfl iV rfl;obtain⟨_,_,h1⟩:=fY underlying133 h 1 _ rfl 3 rfl 1 rfl iV rfl;obtain⟨x0,rfl⟩:=iW h0;obtain⟨x1,rfl⟩:=iW h1;exact⟨⟨x0,x1⟩,rfl⟩
def yba {n:Nat}{y:DataW H × List MemPlace}(h:DataW.trod enc prog W base sp hd n 143 cs=some y) (hl:cs.length=2): ∃x,iA W cs x:=by
 match cs,hl with
 | [c0,c1],_=>
  obtain⟨_,_,h0⟩:=fY underlying143 h 0 _ rfl 3 rfl 0 rfl iV rfl;obtain⟨_,_,h1⟩:=fY underlying143 h 1 _ rfl 3 rfl 1 rfl iV rfl;obtain⟨x0,rfl⟩:=iW h0;obtain⟨x1,rfl⟩:=iW h1;exact⟨⟨x0,x1⟩,rfl⟩
def ybb {n:Nat}{y:DataW H × List MemPlace}(h:DataW.trod enc prog W base sp hd n 207 cs=some y) (hl:cs.length=2): ∃x,lZ W cs x:=by
 match cs,hl with
 | [c0,c1],_=>
  obtain⟨_,_,h0⟩:=fY underlying207 h 0 _ rfl 3 rfl 0 rfl iV rfl;obtain⟨_,_,h1⟩:=fY underlying207 h 1 _ rfl 3 rfl 1 rfl iV rfl;obtain⟨x0,rfl⟩:=iW h0;obtain⟨x1,rfl⟩:=iW h1;exact⟨⟨x0,x1⟩,rfl⟩
def ybc {n:Nat}{y:DataW H × List MemPlace}(h:DataW.trod enc prog W base sp hd n 106 cs=some y) (hl:cs.length=2): ∃x,nX W cs x:=by
 match cs,hl with
 | [c0,c1],_=>
  obtain⟨_,_,h0⟩:=fY underlying106 h 0 _ rfl 3 rfl 0 rfl iV rfl;obtain⟨_,_,h1⟩:=fY underlying106 h 1 _ rfl 5 rfl 1 rfl GM rfl;obtain⟨x0,rfl⟩:=iW h0;obtain⟨x1,rfl⟩:=ND h1;exact⟨⟨x0,x1⟩,rfl⟩
def ybd {n:Nat}{y:DataW H × List MemPlace}(h:DataW.trod enc prog W base sp hd n 145 cs=some y) (hl:cs.length=3): ∃x,gZ W cs x:=by
 match cs,hl with
 | [c0,c1,c2],_=>
  obtain⟨_,_,h0⟩:=fY underlying145 h 0 _ rfl 3 rfl 0 rfl iV rfl;obtain⟨_,_,h1⟩:=fY underlying145 h 1 _ rfl 3 rfl 1 rfl iV rfl;obtain⟨_,_,h2⟩:=fY underlying145 h 2 _ rfl 3 rfl 2 rfl iV rfl;obtain⟨x0,rfl⟩:=iW h0;obtain⟨x1,rfl⟩:=iW h1;obtain⟨x2,rfl⟩:=iW h2;exact⟨⟨x0,x1,x2⟩,rfl⟩
def ybe {n:Nat}{y:DataW H × List MemPlace}(h:DataW.trod enc prog W base sp hd n 108 cs=some y) (hl:cs.length=3): ∃x,mR W cs x:=by
 match cs,hl with
 | [c0,c1,c2],_=>
  obtain⟨_,_,h0⟩:=fY underlying108 h 0 _ rfl 3 rfl 0 rfl iV rfl;obtain⟨_,_,h1⟩:=fY underlying108 h 1 _ rfl 3 rfl 1 rfl iV rfl;obtain⟨_,_,h2⟩:=fY underlying108 h 2 _ rfl 3 rfl 2 rfl iV rfl;obtain⟨x0,rfl⟩:=iW h0;obtain⟨x1,rfl⟩:=iW h1;obtain⟨x2,rfl⟩:=iW h2;exact⟨⟨x0,x1,x2⟩,rfl⟩
def ybf {n:Nat}{y:DataW H × List MemPlace}(h:DataW.trod enc prog W base sp hd n 99 cs=some y) (hl:cs.length=4): ∃x,mS W cs x:=by
 match cs,hl with
 | [c0,c1,c2,c3],_=>
  obtain⟨_,_,h0⟩:=fY underlying99 h 0 _ rfl 3 rfl 0 rfl iV rfl;obtain⟨_,_,h1⟩:=fY underlying99 h 1 _ rfl 5 rfl 1 rfl GM rfl;obtain⟨_,_,h2⟩:=fY underlying99 h 2 _ rfl 3 rfl 2 rfl iV rfl;obtain⟨_,_,h3⟩:=fY underlying99 h 3 _ rfl 3 rfl 3 rfl iV rfl;obtain⟨x0,rfl⟩:=iW h0;obtain⟨x1,rfl⟩:=ND h1;obtain⟨x2,rfl⟩:=iW h2;obtain⟨x3,rfl⟩:=iW h3;exact⟨⟨x0,x1,x2,x3⟩,rfl⟩
def ybg:prog.cellsOf 78=1:=by kernel_rfl
def NC:prog.cellsOf 54=1:=by kernel_rfl
def ybh:prog.cellsOf 100=1:=by kernel_rfl
def ybi:prog.cellsOf 133=2:=by kernel_rfl
def ybj:prog.cellsOf 143=2:=by kernel_rfl
def ybk:prog.cellsOf 207=2:=by kernel_rfl
def ybl:prog.cellsOf 106=2:=by kernel_rfl
def ybm:prog.cellsOf 145=3:=by kernel_rfl
def ybn:prog.cellsOf 108=3:=by kernel_rfl
def ybo:prog.cellsOf 99=4:=by kernel_rfl
def ybp:prog.cellsOf 80=3:=by kernel_rfl
def ybq:prog.cellsOf 102=7:=by kernel_rfl
def GL:prog.cellsOf 28=6:=by kernel_rfl
def ybr:prog.cellsOf 33=3:=by kernel_rfl
def ybs:prog.cellsOf 23=1:=by kernel_rfl
def ybt:prog.cellsOf 24=1:=by kernel_rfl
def ybu:prog.cellsOf 25=1:=by kernel_rfl
def ybv:prog.cellsOf 26=1:=by kernel_rfl
def ybw:prog.cellsOf 29=1:=by kernel_rfl
def ybx:prog.cellsOf 30=1:=by kernel_rfl
def yby:prog.cellsOf 31=1:=by kernel_rfl
end
def ybz {H:Type}{enc:TypeId × Value->H}{a:Assume}{C:Checked}{os:Os}{f:FuncId}{F:Func}{s:ChangeSpec}{c:List PathCond}{A l d n:Bool}
  (own:ownKnob C.prog.godebug=none) (o:os.Started) (N:C.prog.inits.idxOf? f=none) (p:C.prog.funcs[f]? =some F)
  (g: ∃(w:World) (tape:Tape) (i:Input),w.os=os/\(w.forCall tape i).Shaped C.prog/\i.vars=[]/\Input.okWide C.prog (w.forCall tape i) .any w f i/\
   s.pre6 enc C.prog F c A (w.forCall tape i).memory i.args/\a.holds C.prog (lone (Frame.enter C.prog f i.args .normal) [] (w.forCall tape i)))
  (k: ∀(W:World) (base:Nat) (args:Array Value) (D G:List (DataW H)) (b:List MemPlace),
   (∀(j:Nat) t v,F.params[j]? =some t->args[j]? =some v->Value.okWide C.prog W .any base t v)->
   DataW.Whole enc C.prog F.params.toList s.vars A W args.toList D G b->
   (DataW.weightsEach C.prog (F.params.toList++s.plain.varTypes C.prog) (D++G)).all (· <=reachBytes)=true->
   Calls C.prog f args W fun e W'=> ∃v,e= .returned v/\s.post enc C.prog F A l d n W args v W'):
  ReturnsInHanded a C os f .any (s.pre6 enc C.prog F c A) (s.post enc C.prog F A l d n):=by
 have e:s.pre6 enc C.prog F c A=fun w args=>(s.pre enc C.prog F c A w args/\True)/\sizedMet enc C.prog F (OpenSpec.ofChange s) A w args:=by
  funext w args
  simp[ChangeSpec.pre6]
 rw[e]at g ⊢;exact returnsInHanded_of_change_and (X:=fun _ _=>True) (fun _ _ _ _ h=>h) own o N p g fun W base args D G b h1 h2 _ h4 _ _=>k W base args D G b h1 h2 h4
section
variable {H:Type}{enc:TypeId × Value->H}{W:World}{base:Nat}{sp:Nat->Bool}{hd:Bool}
def cX (t:TypeId) (d:DataW H):Prop:= ∀n∈d.weights prog t,n<=reachBytes
def MY {T:List TypeId}{D:List (DataW H)}(h:(DataW.weightsEach prog T D).all (· <=reachBytes)=true) (j:Nat){d:DataW H}(a:T[j]? =some t) (hd:D[j]? =some d):cX t d:=
 fun n b=>by simpa using List.all_eq_true.1 h _ (DataW.weights_mem_each a hd n b)
def yb0 {l:List (DataW H)}(h: ∀n∈DataW.weightsAll prog e l,n<=reachBytes){d:DataW H}(hd:d∈l):cX e d:=by
 induction l with
 | nil=>cases hd
 | cons x r i=>
  unfold DataW.weightsAll at h;rcases Dv.1 hd with rfl | hd
  ·exact fun n a=>h n (Gi _ a)
  exact i (fun n a=>h n (Hk _ a)) hd
def yb1 (a:prog.underlying t=some (.slice e)): ∀ {d:DataW H},cX t d-> ∀z,mf d z->cX e z
 | .slice es ss,hl,z,hz=>by
  unfold cX at hl;simp only[DataW.weights,a]at hl;exact yb0 (fun n b=>hl n (Dy _ (Gi _ b))) hz
 | .lit _,_,_,hz | .nil,_,_,hz | .ptr _,_,_,hz | .agg _,_,_,hz | .iface _ _,_,_,hz | .map _,_,_,hz | .held _,_,_,hz=>nomatch hz
def wV {α:Type}{b:Nat}{R:World->List Value->α->Prop}{φ:α->Prop}(g:prog.underlying t=some (.slice e)) (p:prog.cellsOf e=sz) (hz:0<sz) (q:prog.bytesOf e=b)
  (r: ∀n cs y,DataW.trod enc prog W base sp hd n e cs=some y->cs.length=sz->cX e y.1-> ∃x,R W cs x/\φ x)
  {n:Nat}{v:Value}{y:DataW H × List MemPlace}(h:DataW.trod enc prog W base sp hd n t [v]=some y) (hl:cX t y.1): ∃l:List α,Sl W sz R v l/\l.length * b<=reachBytes/\ ∀x∈l,φ x:=by
 have s:=yb1 g hl;obtain⟨l,a,cap,rfl,j,d,f⟩:=NE (R:=fun w cs x=>R w cs x/\φ x) g p hz (fun n cs z h1 h2 h3=>r n cs z h1 h2 (s _ h3)) h;refine⟨l,⟨a,cap,rfl,j,d,fun i o=> ?_⟩,?_,fun x hx=> ?_⟩
 ·obtain⟨b,off,V,h1,h2,h3,h4,_⟩:=f i o;exact⟨b,off,V,h1,h2,h3,h4⟩
 ·rcases open_slice g h with⟨c,_⟩ | ⟨a,len,cap,m,k,D,Pl,c,_,u,_,A,rfl,hx⟩
  ·have e:l.length=0:=by
    have:=List.singleton_inj.1 c;simp only[Value.slice.injEq]at this;exact this.2.1
   rw[e];simp
  have e:l.length=len:=by
   have:=List.singleton_inj.1 c;simp only[Value.slice.injEq]at this;exact this.2.1
  unfold cX at hl;simp only[DataW.weights,g,q]at hl;have h1:=hl _ (Dq ..);simp only[Pn,Gy]at h1;rw[e];exact Nj (Ff b (Nat.le_add_right _ _)) h1
 obtain⟨i,o,rfl⟩:=List.mem_iff_getElem.1 hx;obtain⟨_,_,_,_,_,_,_,h⟩:=f i o;exact h
def oE {F:Array Field}(c:prog.underlying t=some (.struct F)){n:Nat}{y:DataW H × List MemPlace}(h:DataW.trod enc prog W base sp hd n t cs=some y) (hl:cX t y.1) (j:Nat) (f:Field) (b:F[j]? =some f)
  (u:TypeId) (d:f.type=u) (o:Nat) (e:f.offset=o) (k:Nat) (g:prog.cellsOf u=k){v:List Value}(i:(cs.drop o).take k=v): ∃m z,DataW.trod enc prog W base sp hd m u v=some z/\cX u z.1:=by
 obtain⟨xs,m,_,rfl,_,l,a⟩:=DataW.trod_struct c h;have h1:=a j f b;rw[d,g,e,i]at h1;have hj:=(Array.getElem?_eq_some_iff.1 b).1;rw[Nf ed]at h1;refine⟨m,_,h1,fun k p=> ?_⟩;unfold cX at hl;simp only[DataW.weights,c]at hl;refine hl k (DataW.weights_mem_each (j:=j) ?_ ?_ k p)
 ·rw[Pp,Ge,b];simp[d]
 rw[Pp,Nf ed];rfl
def u8W {n:Nat}{v:Value}{y:DataW H × List MemPlace}(h:DataW.trod enc prog W base sp hd n 5 [v]=some y): ∃x,v= .int .u8 x/\0<=x/\x<=255:=by
 obtain⟨x,e,_,a⟩:=DataW.trod_int underlying5 h;cases e;refine⟨x,rfl,?_⟩
 simpa [Lit.wf,IntKind.min,IntKind.max,IntKind.signed,IntKind.bits]using a
def GK {n:Nat}{v:Value}{y:DataW H × List MemPlace}(h:DataW.trod enc prog W base sp hd n 22 [v]=some y) (hl:cX 22 y.1): ∃l,Sl W 1 dG v l/\aO l:=by
 obtain⟨l,h1,_,h2⟩:=wV (R:=dG) (φ:=fun x=>0<=x/\x<=255) (b:=1) underlying22 GM eh ef (fun n cs y a d _=>by
  match cs,d with
  | [c],_=>
   obtain⟨x,rfl,hx⟩:=u8W a
   exact⟨x,rfl,hx⟩) h hl
 exact⟨l,h1,h2⟩
def MX {n:Nat}{v:Value}{y:DataW H × List MemPlace}(h:DataW.trod enc prog W base sp hd n 54 [v]=some y) (hl:cX 54 y.1): ∃l,eP W v l/\l.length<=17592186044416:=by
 obtain⟨l,⟨a,cap,rfl,h2⟩,h3,_⟩:=wV (R:=rh) (φ:=fun _=>True) (b:=8) underlying54 iV eh ef (fun m cs y d hl _=>by
  match cs,hl with
  | [c],_=>
   obtain⟨x,rfl⟩:=iW d
   exact⟨x,rfl,Py⟩) h hl
 refine⟨l,⟨a,l.length,cap,rfl,rfl,fun i f=> ?_⟩,by unfold reachBytes at h3;omega⟩;obtain⟨b,off,V,e,_,g,rfl⟩:=h2.at_ i f;exact⟨b,off,e,by simpa using g 0 ee⟩
def yb2 {n:Nat}{y:DataW H × List MemPlace}(h:DataW.trod enc prog W base sp hd n 80 cs=some y) (hl:cs.length=3) (d:cX 80 y.1): ∃x,cU W cs x/\x.ends.length<=8796093022208:=by
 match cs,hl with
 | [c0,c1,c2],_=>
  obtain⟨_,_,h0⟩:=fY underlying80 h 0 _ rfl 3 rfl 0 rfl iV rfl;obtain⟨_,_,h1⟩:=fY underlying80 h 1 _ rfl 3 rfl 1 rfl iV rfl;obtain⟨_,_,h2,c⟩:=oE underlying80 h d 2 _ rfl 78 rfl 2 rfl 1 ybg rfl;obtain⟨x0,rfl⟩:=iW h0;obtain⟨x1,rfl⟩:=iW h1;obtain⟨l,hl,e,_⟩:=wV (R:=fI) (φ:=fun _=>True) (b:=16) underlying78 ybi eh ef (fun _ _ _ a b _=>(ya9 a b).imp fun _ h=>⟨h,Py⟩) h2 c;exact⟨⟨x0,x1,l⟩,⟨c2,rfl,hl⟩,by unfold reachBytes at e;show l.length<=_;omega⟩
def rtW {n:Nat}{y:DataW H × List MemPlace}(h:DataW.trod enc prog W base sp hd n 102 cs=some y) (hl:cs.length=7) (c:cX 102 y.1): ∃x,fH W cs x/\x.fit:=by
 match cs,hl with
 | [c0,c1,c2,c3,c4,c5,c6],_=>
  obtain⟨_,_,h0⟩:=fY underlying102 h 0 _ rfl 3 rfl 0 rfl iV rfl;obtain⟨_,_,h1⟩:=fY underlying102 h 1 _ rfl 3 rfl 1 rfl iV rfl;obtain⟨_,_,h2⟩:=fY underlying102 h 2 _ rfl 3 rfl 2 rfl iV rfl;obtain⟨_,_,h3,w3⟩:=oE underlying102 h c 3 _ rfl 54 rfl 3 rfl 1 NC rfl;obtain⟨_,_,h4,w4⟩:=oE underlying102 h c 4 _ rfl 54 rfl 4 rfl 1 NC rfl;obtain⟨_,_,h5,w5⟩:=oE underlying102 h c 5 _ rfl 100 rfl 5 rfl 1 ybh rfl;obtain⟨_,_,h6⟩:=fY underlying102 h 6 _ rfl 3 rfl 6 rfl iV rfl;obtain⟨x0,rfl⟩:=iW h0;obtain⟨x1,rfl⟩:=iW h1;obtain⟨x2,rfl⟩:=iW h2;obtain⟨x6,rfl⟩:=iW h6;obtain⟨l3,k3,b3⟩:=MX h3 w3;obtain⟨l4,k4,b4⟩:=MX h4 w4;obtain⟨l5,k5,b5,_⟩:=wV (R:=lZ) (φ:=fun _=>True) (b:=16) underlying100 ybk eh ef (fun _ _ _ a b _=>(ybb a b).imp fun _ h=>⟨h,Py⟩) h5 w5;exact⟨⟨x0,x1,x2,l3,l4,l5,x6⟩,⟨c3,c4,c5,rfl,k3,k4,k5⟩,b3,b4,by unfold reachBytes at b5;show l5.length<=_;omega⟩
def GJ {n:Nat}{c0 c1 c2 c3 c4 c5:Value}{y:DataW H × List MemPlace}(h:DataW.trod enc prog W base sp hd n 28 [c0,c1,c2,c3,c4,c5]=some y) (c:cX 28 y.1):
  ∃x:Pl,c0=↑x.ver/\c1=↑x.par/\bN W c2 c3 c4 c5 x/\x.Wide:=by
 obtain⟨_,_,h0⟩:=fY underlying28 h 0 _ rfl 3 rfl 0 rfl iV rfl;obtain⟨_,_,h1⟩:=fY underlying28 h 1 _ rfl 3 rfl 1 rfl iV rfl;obtain⟨_,_,h2,w2⟩:=oE underlying28 h c 2 _ rfl 23 rfl 2 rfl 1 ybs rfl;obtain⟨_,_,h3⟩:=fY underlying28 h 3 _ rfl 24 rfl 3 rfl ybt rfl;obtain⟨_,_,h4⟩:=fY underlying28 h 4 _ rfl 25 rfl 4 rfl ybu rfl;obtain⟨_,_,h5,w5⟩:=oE underlying28 h c 5 _ rfl 26 rfl 5 rfl 1 ybv rfl;obtain⟨x0,rfl⟩:=iW h0;obtain⟨x1,rfl⟩:=iW h1;obtain⟨l2,k2,_,b2⟩:=wV (R:=cU) (φ:=fun x=>x.ends.length<=8796093022208) (b:=40) underlying23 ybp eh ef (fun _ _ _=>yb2) h2 w2;obtain⟨l3,k3⟩:=zE (R:=iA) underlying24 ybj eh (fun _ _ _=>yba) h3;obtain⟨l4,k4⟩:=zE (R:=gZ) underlying25 ybm eh (fun _ _ _=>ybd) h4;obtain⟨l5,k5,_,b5⟩:=wV (R:=fH) (φ:=Rt.fit) (b:=104) underlying26 ybq eh ef (fun _ _ _=>rtW) h5 w5;exact⟨⟨x0,x1,l2,l3,l4,l5⟩,rfl,rfl,⟨k2,k3,k4,k5⟩,fun i a=>b2 _ (Nn a),fun i a=>b5 _ (Nn a)⟩
def yb3 {n:Nat}{c0 c1 c2:Value}{y:DataW H × List MemPlace}(h:DataW.trod enc prog W base sp hd n 33 [c0,c1,c2]=some y): ∃x,fU W c0 c1 c2 x:=by
 obtain⟨_,_,h0⟩:=fY underlying33 h 0 _ rfl 29 rfl 0 rfl ybw rfl;obtain⟨_,_,h1⟩:=fY underlying33 h 1 _ rfl 30 rfl 1 rfl ybx rfl;obtain⟨_,_,h2⟩:=fY underlying33 h 2 _ rfl 31 rfl 2 rfl yby rfl;obtain⟨l0,k0⟩:=zE (R:=nX) underlying29 ybl eh (fun _ _ _=>ybc) h0;obtain⟨l1,k1⟩:=zE (R:=mR) underlying30 ybn eh (fun _ _ _=>ybe) h1;obtain⟨l2,k2⟩:=zE (R:=mS) underlying31 ybo eh (fun _ _ _=>ybf) h2;exact⟨⟨l0,l1,l2⟩,k0,k1,k2⟩
def yb4 {v:Value}{d:DataW H}{p:List MemPlace}{r:Reach}{b0:Nat}(b:Value.okWide prog W r b0 22 v) (h:DataW.Trod enc prog W base sp hd 22 v d p) (hl:cX 22 d): ∃a c l,v= .slice a (List.length l) c/\aB W 1 dG a c l/\aO l:=by
 obtain⟨n,h⟩:=h;obtain⟨a0,l0,c0,rfl⟩:=okWide_slice underlying22 b;obtain⟨l,⟨a,c,e,h1⟩,h2⟩:=GK (v:= .slice a0 l0 c0) h hl;exact⟨a,c,l,e,h1,h2⟩
def yb5:prog.cellsOf 35=25:=by kernel_rfl
def MV:prog.cellsOf 22=1:=by kernel_rfl
def yb6:prog.cellsOf 4=1:=by kernel_rfl
def yb7 {r:Reach}{B:Nat}{v:Value}{d:DataW H}{p:List MemPlace}(C:Value.okWide prog W r B 35 v) (h:DataW.Trod enc prog W base sp hd 35 v d p) (hl:cX 35 d): ∃a c x,v=cV a c x/\dK W a c x/\x.Wide:=by
 obtain⟨cs,rfl,f⟩:=okWide_struct underlying35 C;replace f:=f.trans yb5;obtain⟨l⟩:=cs
 match l,f with
 | [c0,c1,c2,c3,c4,c5,c6,c7,c8,c9,c10,c11,c12,c13,c14,c15,c16,c17,c18,c19,c20,c21,c22,c23,c24],_=>
  obtain⟨n,h⟩:=h;have h:DataW.trod enc prog W base sp hd n 35 [c0,c1,c2,c3,c4,c5,c6,c7,c8,c9,c10,c11,c12,c13,c14,c15,c16,c17,c18,c19,c20,c21,c22,c23,c24]=some (d,p):=h;obtain⟨_,_,h0,w0⟩:=oE underlying35 h hl 0 _ rfl 22 rfl 0 rfl 1 MV rfl;obtain⟨_,_,h1,w1⟩:=oE underlying35 h hl 1 _ rfl 28 rfl 1 rfl 6 GL rfl;obtain⟨_,_,h2,w2⟩:=oE underlying35 h hl 2 _ rfl 28 rfl 7 rfl 6 GL rfl;obtain⟨_,_,h3,_⟩:=oE underlying35 h hl 3 _ rfl 3 rfl 13 rfl 1 iV rfl;obtain⟨_,_,h4,_⟩:=oE underlying35 h hl 4 _ rfl 33 rfl 14 rfl 3 ybr rfl;obtain⟨_,_,h5,w5⟩:=oE underlying35 h hl 5 _ rfl 22 rfl 17 rfl 1 MV rfl;obtain⟨_,_,h6,w6⟩:=oE underlying35 h hl 6 _ rfl 28 rfl 18 rfl 6 GL rfl;obtain⟨_,_,h7,_⟩:=oE underlying35 h hl 7 _ rfl 4 rfl 24 rfl 1 yb6 rfl;obtain⟨key,⟨a0,k0,rfl,m0⟩,B⟩:=GK h0 w0;obtain⟨pl,rfl,rfl,M,v1⟩:=GJ h1 w1;obtain⟨bk,rfl,rfl,g,v2⟩:=GJ h2 w2;obtain⟨D,rfl⟩:=iW h3;obtain⟨st,j⟩:=yb3 h4;obtain⟨buf,⟨a5,k5,rfl,m5⟩,b5⟩:=GK h5 w5;obtain⟨nx,rfl,rfl,i,v6⟩:=GJ h6 w6;obtain⟨b,e,_⟩:=DataW.trod_bool underlying4 h7;cases e;obtain⟨p1,q1,rfl,-⟩:=id M.S;obtain⟨p2,q2,rfl,-⟩:=id M.P;obtain⟨p3,q3,rfl,-⟩:=id M.G;obtain⟨p4,q4,rfl,-⟩:=id M.R;obtain⟨p5,q5,rfl,-⟩:=id g.S;obtain⟨p6,q6,rfl,-⟩:=id g.P;obtain⟨p7,q7,rfl,-⟩:=id g.G;obtain⟨p8,q8,rfl,-⟩:=id g.R;obtain⟨p9,q9,rfl,-⟩:=id j.tks;obtain⟨P,q,rfl,-⟩:=id j.sws;obtain⟨k,Q,rfl,-⟩:=id j.lks;obtain⟨o,s,rfl,-⟩:=id i.S;obtain⟨t,u,rfl,-⟩:=id i.P;obtain⟨w,y,rfl,-⟩:=id i.G;obtain⟨z,A,rfl,-⟩:=id i.R
  exact⟨(#[a0,p1,p2,p3,p4,p5,p6,p7,p8,p9,P,k,a5,o,t,w,z].getD · none),(#[k0,q1,q2,q3,q4,q5,q6,q7,q8,q9,q,Q,k5,s,u,y,A].getD · 0),
   ⟨key,pl,bk,D,st,buf,nx,b⟩,rfl,⟨m0,M,g,j,m5,i⟩,⟨v1,v2,v6,B,b5⟩⟩
end
end Go.Proofs.YtbiehpjhhopjaaaGreat
