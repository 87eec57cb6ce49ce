/- Walks, laws. -/
import Derived.Test.YtbiehpjhhopjaaaGreatT7
import Derived.Great.BuildSlice
import Derived.Shelf.SortM.Plain
import Derived.Shelf.SortM.SortNone
import Derived.Shelf.Slices.CompactI
import Derived.Sort.OwnSortedInts
import Derived.Lib.RowBridge
import Derived.Test.YtbiehpjhhopjaaaGreatT8
set_option linter.all false
set_option maxRecDepth 100000
set_option maxHeartbeats 16000000
namespace Go.Proofs.YtbiehpjhhopjaaaGreat
open _root_ renaming Array->aL,Bool->aU,Bool.false->aW,Decidable.decide->ab,List->aq,Int->ar,Nat->av,Option->ax,Bool.true->bl,Option.none->bn,Option.some->bt,Decidable->cG,absurd->cv,inferInstance->cx
open Go renaming World->aj,undef->bE,RowKit.Hid->bG,Addr->bR,TypeId->bT,Value->bw,RowKit.Below->cB,redrawn->cF,Value.slice->cJ,Ending.returned->cL,Obj.cells->cO,Value.int->cW,Value.pointer->cY,Value.agg->cZ,World.setCell->cd,World.alloc->cj,wpQuiet_nil->cl,Act.put->cq,Value.bool->db,Operand.tmp->dk,IntKind.i64->dr,Value.tuple->dw
open Go.RowKit Go.Sort Tryz
variable {V W W' w0:aj}{B c cap d g gr k n:av}{st:St}{T e t:bT}{xs:aq bw}{ops:aL Oper}{Q:Exit->Act->aj->Prop}{a0 b:ax bR}{G S:av->aU}{x:Hs}{f0 f1 f2 f3 f4 f5 f6 f7 f8 f9:aU}{s0 s1 s2 u:bw}{Z:aL bw}
def TO (p:Pl) (s q gg R:bw) (k:av) (o:k<p.R.length) (w:aj) (d:bN w s q gg R p) (E:p.Fit) (f:bX p) (x:Rw) (hx:iM p p.R[k]=bt x):
  jW 316 #[aT p s q gg R,k] w (mo w p.R[k] (mH p p.R[k] x) (iZ p p.R[k].E).sec):=by
 have F:=hI fun W G=>TP p s q gg R k o W (d.below G) E f x hx;obtain⟨a1,k1,rfl,-⟩:=d.S;obtain⟨a2,k2,rfl,-⟩:=d.P;obtain⟨a3,k3,rfl,-⟩:=d.G;obtain⟨a4,k4,rfl,-⟩:=d.R;clear d E f hx;generalize mH p p.R[k] x=MA at *;generalize(iZ p p.R[k].E).sec=near at *;generalize p.R[k]=r at *;unfold aT at *;go_in;go_upto_region 1 with fail;generalize a:cj _ _=W0;have K:=hI (eN a)
 have g:=jB a
 have i:=hI (jC a)
 clear a;obtain⟨P,t,u,y,z,A⟩:=dB (g);clear g;go_wp2_with fail;refine(F W0 K).mono ?_;rintro e W1 ⟨Q,j,n1,n,M,l,rfl,o1,o2,o3,c⟩;have B:=hI o1;have C:=hI o2;have D:=hI o3;have hz:=jm c i;have J:=jZ hz
 have lz:=aD hz;have H:=aD i;have K1:=jh K c;obtain⟨z0,z1,z2,z3⟩:=sX (hz);clear o1 o2 o3 hz c P t u y z A;go_wp2_with fail;refine On fun b o9=>?_;have e0:jc b (w+1) 0 (js Q r.A j):=Kh
 have e1:jc b (w+1) 1 (js n1 r.O n):=Kh
 have e2:jc b (w+1) 2 (js M MA l):=Kh
 have e3:jc b (w+1) 3 near:=Kh
 have I:bG (jb w b):=by refine Uy ?_;exact Di (Di (Di (Di (K1) ee _) ee _) ee _) ee _
 have M1:bG (aA b W0 (js Q r.A j) r.A):=by show aA _ _ _ _;rw[<-o9];exact aV (aV (aV (aV (B) H _) H _) H _) H _
 have M2:bG (aA b W0 (js n1 r.O n) r.O):=by show aA _ _ _ _;rw[<-o9];exact aV (aV (aV (aV (C) H _) H _) H _) H _
 have M3:bG (aG b W0 (js M MA l) MA):=by show aG _ _ _ _;rw[<-o9];exact aV (aV (aV (aV (D) H _) H _) H _) H _
 clear o9;refine Nh (v:=cZ #[js Q r.A j,js n1 r.O n,js M MA l,near]) (by simp[results,Tryz.f316,go_sem,e0,e1,e2,e3]) rfl ?_;exact⟨Q,j,n1,n,M,l,rfl,bW M1 K.size,bW M2 K.size,bW M3 K.size,I⟩
def sS (r:Rt) (l:Lk):aq ar:=if l.ph=0 then []else r.A.drop (min (max l.gone 0).toNat r.A)++r.O
def TN (p:Pl) (r:Rt) (l:Lk):lC (cP p r) l=sS r l:=rfl
def RJ (n:ar): ∀u∈[bw.int dr n],u.oneCell'=bl:=by simp[bw.oneCell']
def RI {l:aq ar}:l.drop (min n l)=l.drop n:=by
 rcases av.le_total n l with h | h
 ·rw[Gm h]
 rw[av.min_eq_right h,Gb ep,Gb h]
def RF {l:aq ar}{G:av}(h:k<l.length) (H:G<=k):(l.take (k+1)).drop G=(l.take k).drop G++[l[k]]:=by
 rw[Dc h,aq.drop_append_of_le_length Kk]
theorem z5i (p:Pl) (s q gg a0:bw) (K:av) (M:K<p.R.length) (l:Lk) (w:aj) (L:bN w s q gg a0 p) (a2:p.Fit) (z:bX p) (x:Rw) (hx:iM p p.R[K]=bt x):
  jW 221 #[aT p s q gg a0,cZ #[l.id,cW .u8 l.ph,l.gone,l.left],K] w (LY w (sS p.R[K] l)):=by
 have a6:=hI fun W hb=>TO p s q gg a0 K M W (L.below hb) a2 z x hx;have A:=(qD z M).1;have a7:=A.2.2.2.2.1;have a8:=A.2.2.2.2.2.1;obtain⟨b2,k1,rfl,-⟩:=L.S;obtain⟨b3,k2,rfl,-⟩:=L.P;obtain⟨b4,k3,rfl,-⟩:=L.G;obtain⟨a4,k4,rfl,-⟩:=L.R;clear L a2 z hx A;generalize mH p p.R[K] x=MA at *;generalize(iZ p p.R[K].E).sec=near at *;generalize p.R[K]=r at *;unfold aT at *;go_in;go_upto_region 1 with fail;generalize y:cj _ _=W0;have K0:=hI (eN y)
 have N:=jB y
 have B:=hI (jC y)
 clear y;obtain⟨pp0,p0,p1,p2,p3,p4⟩:=dB (N);have y0:=ji 1 B;refine Om fun lb a3=>?_;clear N;by_cases c:l.ph=0
 ·have r1:(l.ph==0)=bl:=by simp[c]
  have HE:bG (sS r l=[]):=by show _=_;unfold sS;rw[Np c]
  clear c;refine ei ?_;refine⟨bn,0,ew,?_,K0⟩;rw[HE.o];exact rL _ _
 have r1:(l.ph==0)=aW:=by simp[c]
 have HE:bG (sS r l=r.A.drop (min (max l.gone 0).toNat r.A)++r.O):=by show _=_;unfold sS;rw[Nm c]
 clear c;generalize sS r l=a5 at *;go_wp2_with fail;refine(a6 W0 K0).mono ?_;rintro e W1 ⟨q1,q3,n1,n3,m1,m3,rfl,o1,o2,o3,C⟩;go_upto_region 4 with fail;generalize D:cj _ _=W2;have f:=jG D
 have O:=jA D
 have K2:=hI (K0.trans ((jt C f).mono K0.size));have P:=hI O;have Q:=hI (aA.il (bU o1 f));have R:=hI (aA.il (bU o2 f));have T:=((jt C f).block _ (aD B)).trans B;clear o1 o2 o3 C f D O pp0 p0 p1 p2 p3 p4 y0 lb a3;have U:=ji 2 T;have a3:=Mt U;clear T;have HZ2:=hI K2.size;by_cases a1:0<=l.gone
 ·obtain⟨G,a9⟩: ∃G:av,l.gone=(G:ar):=⟨l.gone.toNat,ed⟩
  have HG:bG (a5=r.A.drop G++r.O):=by
   show _=_;rw[HE.o,RI]
   congr 2
   omega
  clear HE a1;rw[a9]at U;go_wp2_with fail;go_loopg [8,9] (r.A.length-G) (fun g v i wr=> ∃(k:av) (b:ax bR) (d:av),G<=k/\g=r.A.length-k/\v=cJ b ((r.A.take k).drop G).length d/\i= jV k/\jb W2 wr/\aA wr W2 (js b ((r.A.take k).drop G).length d) ((r.A.take k).drop G))
  ·have h0:(r.A.take G).drop G=[]:=Gb Kk;exact⟨G,bn,0,ed,rfl,by rw[h0];rfl,rfl,Nb _ _,by rw[h0];exact rL _ _⟩
  obtain⟨k,b,d,E,rfl,rfl,rfl,hb,ho⟩:=hrel;have H:=jm hb P;have e0:=ji 0 H;have e1:=ji 1 H;have le:=Mt e0;refine Qa fun V HO=>?_;have hwr:=hb.size;have F:=hI (Q.below hb);have HOr:=hI (R.below hb);clear hb ho H;have j:((r.A.take k).drop G).length<=1000:=(by rw[Po,Dn];omega);by_cases G9:k<r.A.length
  ·have hd:=bL G9;have n:=hI (RF (G:=G) G9 E);obtain⟨g,off,rfl,x0⟩:=F.cell k G9;refine Qb fun c0 c1=>?_;generalize(r.A.take k).drop G=FK at *;have X:bG (wr.ownsRow W2 3 1 (js b FK d) FK (FK.map (cW dr))):=HO;clear HO;go_wp2_with (at_builtin;refine nT rfl _ _ 54 3 3 _ 1 8 rfl underlying54 rS rfl eh eh W2 (js b FK d) FK _ rfl X j hwr [jV r.A[k]] rfl rfl (RJ _) ?_;intro Y Z w8 n6 o);have I:=(V.alloc hwr _).trans (dT (X.alloc _) ep em o)
   have J:aA w8 W2 (jq Y 0 (FK.length+1) Z) (FK++[r.A[k]]):=by
    show aj.ownsRow _ _ _ _ _ _ _;exact Yz
   go_roundg (r.A.length-(k+1))
   ·go_light;exact⟨k+1,bt ⟨Y,0,bn⟩,Z,ed,ed,by rw[n.o];simp,ej,I,by rw[n.o];simpa using J⟩
   go_light;omega
  have hd:=bZ G9;have t:r.A.take k=r.A:=Sk ed;rw[t]at HO j ⊢;have hl:(r.A.drop G).length+r.O.length<=17592186044416:=YD;generalize r.A.drop G=FK at *;go_wp2_with (at_builtin;refine sW rfl _ _ rfl W2 (js b FK d) FK rfl HO n1 n3 r.O rfl HOr hl hwr ?_;intro a4 c4 w4 a u);have HF:=hI a;have HFB:=hI (V.trans (dT HO ep hwr u));exact Ri
 have b0:l.gone<0:=ed;have b1:max l.gone 0=0:=by omega
 have HG:bG (a5=r.A.drop 0++r.O):=by
  show _=_;rw[HE.o,RI]
  congr 2
  omega
 clear HE;go_wp2_with fail;go_loopg [8,9] (r.A.length-0) (fun g v i wr=> ∃(k:av) (b:ax bR) (d:av),0<=k/\g=r.A.length-k/\v=cJ b ((r.A.take k).drop 0).length d/\i= jV k/\jb W2 wr/\aA wr W2 (js b ((r.A.take k).drop 0).length d) ((r.A.take k).drop 0))
 ·have h0:(r.A.take 0).drop 0=[]:=Gb Kk;exact⟨0,bn,0,ed,rfl,by rw[h0];rfl,rfl,Nb _ _,by rw[h0];exact rL _ _⟩
 obtain⟨k,b,d,E,rfl,rfl,rfl,hb,ho⟩:=hrel;have H:=jm hb P;have e0:=ji 0 H;have e1:=ji 1 H;have le:=Mt e0;refine Qa fun V HO=>?_;have hwr:=hb.size;have F:=hI (Q.below hb);have HOr:=hI (R.below hb);clear hb ho H;have j:((r.A.take k).drop 0).length<=1000:=(by rw[Po,Dn];omega);by_cases G9:k<r.A.length
 ·have hd:=bL G9;have n:=hI (RF (G:=0) G9 E);obtain⟨g,off,rfl,x0⟩:=F.cell k G9;refine Qb fun _ _=>?_;generalize(r.A.take k).drop 0=FK at *;have X:bG (wr.ownsRow W2 3 1 (js b FK d) FK (FK.map (cW dr))):=HO;clear HO;go_wp2_with (at_builtin;refine nT rfl _ _ 54 3 3 _ 1 8 rfl underlying54 rS rfl eh eh W2 (js b FK d) FK _ rfl X j hwr [jV r.A[k]] rfl rfl (RJ _) ?_;intro Y Z w8 n6 o);have I:=(V.alloc hwr _).trans (dT (X.alloc _) ep em o)
  have J:aA w8 W2 (jq Y 0 (FK.length+1) Z) (FK++[r.A[k]]):=by
   show aj.ownsRow _ _ _ _ _ _ _;exact Yz
  go_roundg (r.A.length-(k+1))
  ·go_light;exact⟨k+1,bt ⟨Y,0,bn⟩,Z,ed,ed,by rw[n.o];simp,ej,I,by rw[n.o];simpa using J⟩
  go_light;omega
 have hd:=bZ G9;have t:r.A.take k=r.A:=Sk ed;rw[t]at HO j ⊢;have hl:(r.A.drop 0).length+r.O.length<=17592186044416:=YD;generalize r.A.drop 0=FK at *;go_wp2_with (at_builtin;refine sW rfl _ _ rfl W2 (js b FK d) FK rfl HO n1 n3 r.O rfl HOr hl hwr ?_;intro a4 c4 w4 a u);have HF:=hI a;have HFB:=hI (V.trans (dT HO ep hwr u));exact Ri
def mY (n:ar) (a:dV):aU:=ab (a.pl<0\/n<=a.pl)
def pZ (MA:aq dV) (l:Lk):aq dV:=if l.ph=0 then []else MA.filter (mY l.gone)
def z5j (w:Wy) (l:Lk):mG w l=pZ w.asks l:=rfl
def RC (w:aj) (l:aq dV) (e:Ending) (w':aj):Prop:= ∃a c,e=cL (js a l c)/\aG w' w (js a l c) l/\jb w w'
def z5k (x:dV): ∀u∈[bw.int dr x.pt,jV x.lie,jV x.pl],u.oneCell'=bl:=by simp[bw.oneCell']
def z5l {α:Type}{pr:α->aU}{l:aq α}(h:k<l.length) (H:pr l[k]=bl):(l.take (k+1)).filter pr=(l.take k).filter pr++[l[k]]:=by
 rw[Dc h,aq.filter_append,aq.filter_cons_of_pos H,aq.filter_nil]
def z5m {α:Type}{pr:α->aU}{l:aq α}(h:k<l.length) (hz:pr l[k]=aW):(l.take (k+1)).filter pr=(l.take k).filter pr:=by
 rw[Dc h,aq.filter_append,aq.filter_cons_of_neg Qh,aq.filter_nil,Sh]
def JD {p:Pl}(H:bX p)(a:k<p.R.length) (x:Rw):(mH p p.R[k] x).length<=1000:=by
 have h:=(qD H a).1;have h6:=h.2.2.2.2.1;have h2:=h.2.2.2.2.2.1;have h3:=h.2.2.2.2.2.2.1;have:=JF p p.R[k] x.ins x.outs (aI p.R[k]).length;unfold mH;rw[Mx,Pn];have:(aI p.R[k]).length=p.R[k].A.length+p.R[k].O.length:=Mx;omega
theorem z5n (p:Pl) (s q gg a0:bw) (K:av) (J:K<p.R.length) (l:Lk) (w:aj) (I:bN w s q gg a0 p) (a6:p.Fit) (u:bX p) (x:Rw) (hx:iM p p.R[K]=bt x):
  Calls prog 222 #[aT p s q gg a0,cZ #[l.id,cW .u8 l.ph,l.gone,l.left],K] w (RC w (pZ (mH p p.R[K] x) l)):=by
 have a8:=hI fun W hb=>TO p s q gg a0 K J W (I.below hb) a6 u x hx;have a9:=JD u J x;obtain⟨b5,k1,rfl,-⟩:=I.S;obtain⟨b6,k2,rfl,-⟩:=I.P;obtain⟨b7,k3,rfl,-⟩:=I.G;obtain⟨b9,k4,rfl,-⟩:=I.R;clear I a6 u hx;generalize mH p p.R[K] x=MA at *;generalize(iZ p p.R[K].E).sec=near at *;generalize p.R[K]=r at *;unfold aT at *;go_in;go_upto_region 1 with fail;generalize j:cj _ _=W0;have V:=hI (eN j)
 have L:=jB j
 have y:=hI (jC j)
 clear j;obtain⟨pp0,p0,p1,p2,p3,p4⟩:=dB (L);have y0:=ji 1 y;refine Om fun lb b0=>?_;clear L;by_cases a:l.ph=0
 ·have r1:(l.ph==0)=bl:=by simp[a]
  have HE:bG (pZ MA l=[]):=by show _=_;unfold pZ;rw[Np a]
  clear a;go_wp2_with fail;go_ret;refine⟨bn,0,ew,?_,V⟩;rw[HE.o];exact aG.nil _ _
 have r1:(l.ph==0)=aW:=by simp[a]
 have HE:bG (pZ MA l=MA.filter (mY l.gone)):=by show _=_;unfold pZ;rw[Nm a]
 clear a;generalize pZ MA l=c0 at *;go_wp2_with fail;refine(a8 W0 V).mono ?_;rintro e W1 ⟨q1,q3,n1,n3,m1,m3,rfl,o1,o2,o3,z⟩;go_upto_region 4 with fail;generalize A:cj _ _=B;have n:=jG A
 have M:=jA A
 have K2:=hI (V.trans ((jt z n).mono V.size));have H0:=hI M
 have H1:bG (aB B 3 qH m1 m3 MA):=by
  obtain⟨c1,c2,b1,h'⟩:=aG.sl (bU o3 n);cases b1;exact h'
 have H2:=hI (((jt z n).block _ (aD y)).trans y);clear o1 o2 o3 z n A M pp0 p0 p1 p2 p3 p4 y0 lb b0;have N:=hI K2.size;go_wp2_with fail;go_loopg [8,9] MA.length (fun g v i wr=> ∃(k:av) (b:ax bR) (d:av),k<=MA.length/\g=MA.length-k/\v=cJ b ((MA.take k).filter (mY l.gone)).length d/\i=cW dr k/\jb B wr/\aG wr B.heap.size (js b ((MA.take k).filter (mY l.gone)).length d) ((MA.take k).filter (mY l.gone)))
 ·exact⟨0,bn,0,ed,ed,rfl,rfl,Nb _ _,aG.nil _ _⟩
 obtain⟨k,b,d,c3,rfl,rfl,rfl,hb,ho⟩:=hrel;have t:=jm hb H0;have c:=jm hb H2;have hc:=ji 2 t;have f2:=ji 2 c;have le:=Mt hc;have b2:=Mt f2;have a1:=hI hb;have X:=hI ho;have O:=hb.size;have P:=hI (H1.below DX hb);clear hb ho t c;have Q:((MA.take k).filter (mY l.gone)).length<=1000:=Nj (aq.length_filter_le _ _) Kk;by_cases G9:k<MA.length
 ·have hd:=bL G9;obtain⟨g,off,b3,rfl,a2,o,a3⟩:=P.at_ k G9;obtain rfl:b3=[cW dr MA[k].pt,cW dr MA[k].lie,cW dr MA[k].pl]:=a3;have Y:jc wr g (off+k * 3) MA[k].pt:=o 0 ee;have x1:jc wr g (off+k * 3+1) MA[k].lie:=o 1 ee;have x2:jc wr g (off+k * 3+2) MA[k].pl:=o 2 ee;have b4:=Mt Y;clear o a2;refine Qb fun _ _=>?_;obtain⟨D,a7⟩: ∃D:aU,D=mY l.gone MA[k]:=⟨_,rfl⟩;have R:=hI a7;clear a7;go_upto_region 8 with fail;go_cut [40]from 23 to 40 (fun v wc=>v=db D/\jb wr wc)
  case first=>
   by_cases C:MA[k].pl<0
   ·have t1:=jT C;have HV:bG (D=bl):=(by show _=_;rw[R.o];unfold mY;simp[C]);clear C;go_quiet (fail);go_wp2_with fail;go_meet
    case rel=>exact⟨Oi,dM Qy _⟩
   have t1:=jU C;by_cases Z:l.gone<=MA[k].pl
   ·have t2:=jT Z;have HV:bG (D=bl):=(by show _=_;rw[R.o];unfold mY;simp[Z]);clear C;go_quiet (fail);go_wp2_with fail;go_meet
    case rel=>exact⟨Oi,dM Qy _⟩
   have t2:=jU Z;have HV:bG (D=aW):=(by show _=_;rw[R.o];unfold mY;simp[C,Z]);clear C;go_quiet (fail);go_wp2_with fail;go_meet
   case rel=>exact⟨Oi,dM Qy _⟩
  case rest=>
   obtain⟨rfl,H⟩:=hcut;have H3:=hI H;have E:=hI (a1.trans (H.mono O));have T:=E.size;have F:bG (aG wc B.heap.size (js b ((MA.take k).filter (mY l.gone)).length d) ((MA.take k).filter (mY l.gone))):=bU X H;have e0:=(H.cell Uj).trans hc;have x0:=(H.cell (Mt Y)).trans Y;have x3:=(H.cell (Mt x1)).trans x1;have x4:=(H.cell (Mt x2)).trans x2;have l0:=Mt e0;have l1:=Mt x0;clear hc f2 Y x1 x2 le b2 b4 H X a1 P O;cases D with
   | true=>
    have f:=hI (z5l (pr:=mY l.gone) G9 R.symm);generalize(MA.take k).filter (mY l.gone)=FK at *;have O1:bG (wc.ownsRow B.heap.size 281 3 (js b FK.length d) FK.length (FK.flatMap pP)):=F;clear F;go_wp2_with (at_builtin;refine nT rfl _ _ 182 281 281 _ 3 24 rfl underlying182 vL rfl eh eh B.heap.size (js b FK.length d) FK.length _ rfl O1 Q T [cW dr MA[k].pt,cW dr MA[k].lie,cW dr MA[k].pl] rfl rfl (z5k _) ?_;intro b8 c8 w8 G U);have a4:=(E.alloc T _).trans (dT (O1.alloc _) ep em U)
    have a5:aG w8 B.heap.size (jq b8 0 (FK.length+1) c8) (FK++[MA[k]]):=by
     show aj.ownsRow _ _ _ _ _ _ _;rw[Mx,Dg];exact G
    go_roundg (MA.length-(k+1))
    ·go_light;exact⟨k+1,bt ⟨b8,0,bn⟩,c8,ed,ed,by rw[f.o];simp,ej,a4,by rw[f.o];simpa using a5⟩
    go_light;omega
   | false=>
    have f:=hI (z5m (pr:=mY l.gone) G9 R.symm);generalize(MA.take k).filter (mY l.gone)=FK at *;go_wp2_with fail;go_roundg (MA.length-(k+1))
    ·go_light;exact⟨k+1,b,d,ed,ed,by rw[f.o],ej,E,by rw[f.o];exact F⟩
    go_light;omega
 obtain rfl:k=MA.length:=ed;have hd:=bZ G9;rw[Ph]at X Q ⊢;refine ei ?_;exact⟨b,d,ew,by rw[HE.o];exact bW X N,K2.trans (a1.mono N)⟩
def z5o (p:Pl) (st:St):jR p st↔st.tks.length=p.S.length/\st.sws.length=p.P.length/\st.lks.length=p.R.length/\(∀j (h:j<st.tks.length) (h':j<p.S.length),pB st.tks[j] p.S[j])/\(∀j (h:j<st.sws.length) (h':j<p.P.length),oI st.sws[j] p.P[j])/\ ∀j (h:j<st.lks.length) (h':j<p.R.length),oV st.lks[j] p.R[j]:=by
 constructor
 ·rintro⟨⟨h1,h2⟩,⟨h3,h4⟩,⟨h5,h6⟩⟩;exact⟨h1,h3,h5,fun j h h'=>h2 j h h' h,fun j h h'=>h4 j h h' h,fun j h h'=>h6 j h h' h⟩
 rintro⟨h1,h3,h5,h2,h4,h6⟩;exact⟨⟨h1,fun j h h' _=>h2 j h h'⟩,⟨h3,fun j h h' _=>h4 j h h'⟩,⟨h5,fun j h h' _=>h6 j h h'⟩⟩
theorem z5p (p:Pl) (st:St) (s q gg a0 t sw lk:bw) (w:aj) (G:bN w s q gg a0 p) (a1:p.Fit) (O:fU w t sw lk st) (v:st.fit):
  jW 220 #[aT p s q gg a0,pV t sw lk] w (bY w (ab (jR p st))):=by
 have b:=hI (z5o p st);have H:bG (¬jR p st->ab (jR p st)=aW):=fun h=>Mw h;have I:bG (jR p st->ab (jR p st)=bl):=fun h=>Ni h;generalize ab (jR p st)=B at *;obtain⟨V,Y,rfl,g1⟩:=G.S;obtain⟨Z,k2,rfl,g2⟩:=G.P;obtain⟨a3,k3,rfl,-⟩:=G.G;obtain⟨a4,k4,rfl,g4⟩:=G.R;obtain⟨b1,d1,rfl,g5⟩:=O.tks;obtain⟨b2,d2,rfl,g6⟩:=O.sws;obtain⟨b3,d3,rfl,g7⟩:=O.lks;have H0:bG (∀W,jb w W->aB W 3 cU V Y p.S):=fun W ho=>g1.below gN ho;have H1:bG (∀W,jb w W->aB W 2 iA Z k2 p.P):=fun W ho=>g2.below lT ho;refine Em fun H2=>?_;have H3:bG (∀W,jb w W->aB W 2 nX b1 d1 st.tks):=fun W ho=>g5.below rU ho;have H4:bG (∀W,jb w W->aB W 3 mR b2 d2 st.sws):=fun W ho=>g6.below qG ho;have H5:bG (∀W,jb w W->aB W 4 mS b3 d3 st.lks):=fun W ho=>g7.below qF ho;have a8:=hI v.1;have a9:=hI v.2.1;have LL:=hI v.2.2;have H6:=hI fun j h=>(a1.rt j h).1;clear G a1 O v g1 g2 g4 g5 g6 g7;unfold aT pV;go_in;go_upto_region 1 with fail;generalize C:cj _ _=W0;have K0:=hI (eN C)
 have n:bG (jk W0 w #[p.ver,p.par,js V p.S Y,js Z p.P k2,js a3 p.G k3,js a4 p.R k4] 28/\jk W0 (w+1) #[js b1 st.tks d1,js b2 st.sws d2,js b3 st.lks d3] 33):=by
  show _/\_;rw[<-C];exact⟨(Nv _ _ ee).trans Oa,Do _ _ _⟩
 have D:bG (∀W,jb W0 W->jk W w #[p.ver,p.par,js V p.S Y,js Z p.P k2,js a3 p.G k3,js a4 p.R k4] 28/\jk W (w+1) #[js b1 st.tks d1,js b2 st.sws d2,js b3 st.lks d3] 33):=fun W ho=>⟨(jm ho n.1),(jm ho n.2)⟩;have KW:bG (∀W,jb W0 W->jb w W):=fun W ho=>jo K0 ho;clear C;have pp0:=ji 2 (n).1;have P:=ji 3 (n).1;have x:=ji 5 (n).1;obtain⟨y0,z,E⟩:=fO (n).2;have lb:=Mt pp0;have b0:=Mt y0;by_cases J:st.tks.length=p.S.length
 ·have n1:((st.tks:ar) != (p.S:ar))=aW:=by simp[J]
  have HL:=hI J;clear J;by_cases hz:st.sws.length=p.P.length
  ·have n2:((st.sws:ar) != (p.P:ar))=aW:=Qh;have E2:=hI hz;clear hz;by_cases L:st.lks.length=p.R.length
   ·have n3:((st.lks:ar) != (p.R:ar))=aW:=(by simp[L]);have E3:=hI L;clear L;have a2:=a8.o;have a5:=a9.o;have a6:=LL.o;go_wp2_with fail;clear pp0 P x y0 z E lb b0 n1 n2 n3;go_loopg [5] st.tks.length (fun g i wr=> ∃k:av,k<=st.tks.length/\g=st.tks.length-k/\i= jV k/\jb W0 wr/\ ∀j (h:j<st.tks.length) (h':j<p.S.length),j<k->pB st.tks[j] p.S[j])
    ·exact⟨0,ed,ed,rfl,Nb _ _,fun j h h' hj=>by omega⟩
    obtain⟨k,a7,rfl,rfl,ho,hb⟩:=hrel;obtain⟨wA,rfl⟩: ∃wA:aj,wA=wr:=⟨_,rfl⟩;refine Qa fun f KO=>?_;have K1:=hI (KW _ ho);have o:=D _ ho;clear ho hb;have pp0:=ji 2 (o).1;have y0:=ji 0 (o).2;clear o;by_cases G9:k<st.tks.length
    ·have r:=bL G9;have a:k<p.S.length:=Qm;refine Qb fun c0 c1=>?_;have c2:=aN a;obtain⟨q1,q2,rfl,x0,X⟩:=(H3 _ K1).tk G9;obtain⟨q3,q4,_,_,rfl,y,-⟩:=(H0 _ K1).sec a;refine Qv fun l8=>?_;have l9:=My _ _ y;have KA:=hI KO.o;have A:=fun d os=>KA.trans ((Nr wA d os).mono KA.size);have I0:=hI A;have X0:=Ng x0;have X1:=Ng X;have Y0:=Ng y;have P2:=Ng pp0;have S0:=Ng y0;have c:bG (¬pB st.tks[k] p.S[k]-> ¬jR p st):=fun h e=>h ((b.1 e).2.2.2.1 k G9 a);clear x0 X y A pp0;by_cases h0:st.tks[k].id=p.S[k].id
     ·have t0:(st.tks[k].id != p.S[k].id)=aW:=(by simp[h0]);by_cases h1:2<st.tks[k].is
      ·have T:=jT h1;have HE:=hI (H (c (fun e=>by have:=e.2;omega)));clear h1;go_upto_region 6 with fail;refine Mz ef ef ?_
       repeat (go_big_quiet_step (fail))
       refine cl ?_;rintro _ ⟨⟨dq,osq⟩,rfl⟩;go_wp2_with fail;go_ret;exact Qz
      have T:=jU h1;have M:bG (pB st.tks[k] p.S[k]):=⟨h0,ed⟩;clear h0 h1;go_upto_region 6 with fail;refine Mz ef ef ?_
      repeat (go_big_quiet_step (fail))
      refine cl ?_;rintro _ ⟨⟨dq,osq⟩,rfl⟩;go_wp2_with fail;go_roundg (st.tks.length-(k+1))
      ·go_light;refine⟨k+1,ed,ed,ej,I0 dq osq,fun j h h' hj=> ?_⟩;by_cases u:j=k
       ·subst u;exact M
       exact f j h h' ed
      go_light;omega
     have t0:(st.tks[k].id != p.S[k].id)=bl:=(by simp[h0]);have HE:=hI (H (c (fun e=>h0 e.1)));clear h0;go_upto_region 6 with fail;refine Mz ef ef ?_
     repeat (go_big_quiet_step (fail))
     refine cl ?_;rintro _ ⟨⟨dq,osq⟩,rfl⟩;go_wp2_with fail;go_ret;exact Qz
    obtain rfl:k=st.tks.length:=ed;have r:=bZ G9;have R1:=hI fun j h h'=>f j h h' h;have Q:=hI KO.o;clear KO K1 f;go_wp2_with fail;clear pp0 y0;go_loopg [6] st.sws.length (fun g i wr=> ∃k:av,k<=st.sws.length/\g=st.sws.length-k/\i= jV k/\jb W0 wr/\ ∀j (h:j<st.sws.length) (h':j<p.P.length),j<k->oI st.sws[j] p.P[j])
    ·exact⟨0,ed,ed,rfl,Q,fun j h h' hj=>by omega⟩
    obtain⟨k,a7,rfl,rfl,ho,hb⟩:=hrel;obtain⟨wA,rfl⟩: ∃wA:aj,wA=wr:=⟨_,rfl⟩;have f:=hI hb;have KO:=hI ho;have K1:=hI (KW _ ho);have o:=D _ ho;clear ho hb;have P:=ji 3 (o).1;have z:=ji 1 (o).2;clear o;by_cases G9:k<st.sws.length
    ·have r:=bL G9;have a:k<p.P.length:=(by have:=E2.o;omega);refine Qb fun c0 c1=>?_;have c2:=aN a;obtain⟨q1,q2,rfl,x0,X,R⟩:=(H4 _ K1).sw G9;refine Qv fun l8=>?_;go_upto_region 12 with fail;generalize hW:cj _ _=U;have F:=jG hW;have z0:jc U wA 0 st.sws[k].id:=Qc;have z1:jc U wA 1 st.sws[k].lie:=Qc;have z2:jc U wA 2 st.sws[k].call:=Qc;have K:=jh KO F;have g3:=aP F P;obtain⟨q3,q4,rfl,y,y1⟩:=(H1 _ (KW _ K)).pt a;have l9:=My _ _ y;clear hW F x0 X R P z l8;have A:=fun d os=>K.trans ((Nr U d os).mono K.size);have I0:=hI A;have Z0:=Ng z0;have Z1:=Ng z1;have Z2:=Ng z2;have Y0:=Ng y;have G3:=Ng g3;have c:bG (¬oI st.sws[k] p.P[k]-> ¬jR p st):=fun h e=>h ((b.1 e).2.2.2.2.1 k G9 a);clear z0 z1 z2 y y1 g3 A;by_cases h0:st.sws[k].id=p.P[k].id
     ·have t0:(st.sws[k].id != p.P[k].id)=aW:=(by simp[h0]);by_cases h4:st.sws[k].lie<0
      ·have t4:=jT h4;have HE:=hI (H (c (fun e=>by have:=e.2.1.1;omega)));clear h4;refine Va ?_;refine Mz ef ef ?_
       repeat (go_big_quiet_step (fail))
       refine cl ?_;rintro _ ⟨⟨dq,osq⟩,rfl⟩;go_wp2_with fail;go_ret;exact Qz
      have t4:=jU h4;by_cases h3:2<st.sws[k].lie
      ·have t3:=jT h3;have HE:=hI (H (c (fun e=>by have:=e.2.1.2;omega)));clear h3;go_upto_region 12 with fail;refine Mz ef ef ?_
       repeat (go_big_quiet_step (fail))
       refine cl ?_;rintro _ ⟨⟨dq,osq⟩,rfl⟩;go_wp2_with fail;go_ret;exact Qz
      have t3:=jU h3;by_cases h2:st.sws[k].call<0
      ·have t2:=jT h2;have HE:=hI (H (c (fun e=>by have:=e.2.2.1;omega)));clear h2;go_upto_region 12 with fail;refine Mz ef ef ?_
       repeat (go_big_quiet_step (fail))
       refine cl ?_;rintro _ ⟨⟨dq,osq⟩,rfl⟩;go_wp2_with fail;go_ret;exact Qz
      have t2:=jU h2;by_cases h1:2<st.sws[k].call
      ·have T:=jT h1;have HE:=hI (H (c (fun e=>by have:=e.2.2.2;omega)));clear h1;refine Va ?_;refine Mz ef ef ?_
       repeat (go_big_quiet_step (fail))
       refine cl ?_;rintro _ ⟨⟨dq,osq⟩,rfl⟩;go_wp2_with fail;go_ret;exact Qz
      have T:=jU h1;have M:bG (oI st.sws[k] p.P[k]):=⟨h0,⟨ed,ed⟩,⟨ed,ed⟩⟩;clear h0 h1 h2 h3 h4;refine Va ?_;refine Mz ef ef ?_
      repeat (go_big_quiet_step (fail))
      refine cl ?_;rintro _ ⟨⟨dq,osq⟩,rfl⟩;go_wp2_with fail;go_roundg (st.sws.length-(k+1))
      ·go_light;refine⟨k+1,ed,ed,ej,I0 dq osq,fun j h h' hj=> ?_⟩;by_cases u:j=k
       ·subst u;exact M
       exact f j h h' ed
      go_light;omega
     have t0:(st.sws[k].id != p.P[k].id)=bl:=(by simp[h0]);have HE:=hI (H (c (fun e=>h0 e.1)));clear h0;refine Va ?_;refine Mz ef ef ?_
     repeat (go_big_quiet_step (fail))
     refine cl ?_;rintro _ ⟨⟨dq,osq⟩,rfl⟩;refine ei ?_;exact Qz
    obtain rfl:k=st.sws.length:=ed;have r:=bZ G9;have R2:=hI fun j h h'=>f j h h' h;clear Q;have Q:=hI KO.o;clear KO K1 f;go_wp2_with fail;clear P z;go_loopg [8] st.lks.length (fun g i wr=> ∃k:av,k<=st.lks.length/\g=st.lks.length-k/\i= jV k/\jb W0 wr/\ ∀j (h:j<st.lks.length) (h':j<p.R.length),j<k->oV st.lks[j] p.R[j])
    ·exact⟨0,ed,ed,rfl,Q,fun j h h' hj=>by omega⟩
    obtain⟨k,a7,rfl,rfl,ho,hb⟩:=hrel;obtain⟨wA,rfl⟩: ∃wA:aj,wA=wr:=⟨_,rfl⟩;refine Qa fun f KO=>?_;have K1:=hI (KW _ ho);have o:=D _ ho;clear ho hb;have x:=ji 5 (o).1;have E:=ji 2 (o).2;clear o;by_cases G9:k<st.lks.length
    ·have r:=bL G9;have a:k<p.R.length:=(by have:=E3.o;omega);refine Qb fun _ _=>?_;have c2:=aN a;obtain⟨q1,q2,rfl,x0,X,R,x3⟩:=(H5 _ K1).lk G9;obtain⟨q3,q4,b4,vo,b5,rfl,y,y1,y2,y3,y4,y5,y6,N⟩:=(H2 _ K1).rt a;obtain⟨v1,v2,v3,rfl,ip⟩:=N.A;obtain rfl:=ip.len;refine Qv fun _=>?_;have l9:=My _ _ y;have KA:=hI KO.o;refine Xk fun A I0=>?_;have X0:=Ng x0;have X1:=Ng X;have X2:=Ng R;have X3:=Ng x3;have Y0:=Ng y;have Y3:=Ng y3;have Y6:=Ng y6;have P5:=Ng x;have S2:=Ng E;have l:=fun(d:av) (os:aL Obj)=>Ps (z3s st.lks[k] p.R[k] (grow (cF wA d) os) (H6 k a));have c:bG (¬oV st.lks[k] p.R[k]-> ¬jR p st):=fun h e=>h ((b.1 e).2.2.2.2.2 k G9 a);clear x0 X R x3 y y1 y2 y3 y4 y5 y6 N ip A x;by_cases h1:st.lks[k].id=p.R[k].id
     ·have T:(st.lks[k].id != p.R[k].id)=aW:=(by simp[h1]);by_cases h2:kX st.lks[k] p.R[k]
      ·rw[Ni h2]at l;have cC:=hI l;have M:bG (oV st.lks[k] p.R[k]):=⟨h1,h2⟩;clear h1 h2 l;go_upto_region 17 with fail;refine Mz ef ef ?_
       repeat (go_big_quiet_step ((with_reducible exact cC.o _ _)))
       refine cl ?_;rintro _ ⟨⟨dq,osq⟩,rfl⟩;go_wp2_with fail;go_roundg (st.lks.length-(k+1))
       ·go_light;refine⟨k+1,ed,ed,ej,I0 dq osq,fun j h h' hj=> ?_⟩;by_cases u:j=k
        ·subst u;exact M
        exact f j h h' ed
       go_light;omega
      rw[Mw h2]at l;have cC:=hI l;have HE:=hI (H (c (fun e=>h2 e.2)));clear h1 h2 l;go_upto_region 17 with fail;refine Mz ef ef ?_
      repeat (go_big_quiet_step ((with_reducible exact cC.o _ _)))
      refine cl ?_;rintro _ ⟨⟨dq,osq⟩,rfl⟩;refine ei ?_;exact Qz
     have T:(st.lks[k].id != p.R[k].id)=bl:=(by simp[h1]);have HE:=hI (H (c (fun e=>h1 e.1)));clear h1 l;go_upto_region 17 with fail;refine Mz ef ef ?_
     repeat (go_big_quiet_step (fail))
     refine cl ?_;rintro _ ⟨⟨dq,osq⟩,rfl⟩;refine ei ?_;exact Qz
    obtain rfl:k=st.lks.length:=ed;have r:=bZ G9;have HE:=hI (I (b.2 ⟨HL,E2,E3,R1,R2,fun j h h'=>f j h h' h⟩));refine ei ?_;exact Qu
   have n3:((st.lks:ar) != (p.R:ar))=bl:=em;have HE:=hI (H (fun h=>L (b.1 h).2.2.1));clear L;refine ei ?_;exact⟨aH HE.symm,K0⟩
  have n2:((st.sws:ar) != (p.P:ar))=bl:=em;have HE:=hI (H (fun h=>hz (b.1 h).2.1));clear hz;refine ei ?_;exact⟨aH HE.symm,K0⟩
 have n1:((st.tks:ar) != (p.S:ar))=bl:=by simp;omega
 have HE:=hI (H (fun h=>J (b.1 h).1));clear J;refine ei ?_;exact⟨aH HE.symm,K0⟩
open Go.Maps
def mX (p:Pl) (st:St):ar:=if bS p then(if nR p st then 0 else 8)else 100
def LX (w:aj) (p:Pl) (st:St) (e:Ending) (w':aj):Prop:=
 jb w w'/\ ∃cs H A a l c,e=cL (dw #[cZ cs,jV (mX p st)])/\pF cs H A (js a l c)/\(mX p st=0->H=(sY p st).H/\A=(sY p st).A)
def JC {F:Func}{p q:Tmp}(h:F.results=#[.cell p 171,.tmp q]) (tmps:aL bw) (w:aj) (g:av) (cs:aL bw) (n:ar)
  (hi:tmps.getD p bE=cY (bt ⟨g,0,bn⟩)) (hq:tmps.getD q bE= jV n) (hl:(loadVar 171 ⟨g,0,bn⟩).run prog w= .ok (cZ cs) w):
  (results F tmps).run prog w= .ok (dw #[cZ cs,n]) w:=by
 have H:tmps[p]?.getD bE=cY (bt ⟨g,0,bn⟩):=Og
 have a:tmps[q]?.getD bE= jV n:=by simpa using hq
 simp[results,h,H,a,asAddr,hl]
def QY (w:aj) (c0 cs:aL bw) (T:bT):(w.alloc (cO c0 T)).setRow w cs=w.alloc (cO cs T):=by
 have:(w.heap.push (cO c0 T (0,0))).modify w (fun | .cells _ a frozen=> cO cs a frozen | o=>o)=w.heap.push (cO cs T (0,0)):=by
  apply aL.ext
  ·simp
  intro i h1 h2;rw[aL.getElem_modify];rw[aL.getElem_push,aL.getElem_push];split
  ·rename_i e;subst e;simp
  rename_i e
  rw[dif_pos (by simp at h2;omega),dif_pos (by simp at h2;omega)]
 show({w with heap:=_}:aj)={w with heap:=_};exact Tc (fun h=>({w with heap:=h}:aj)) this
def z5q {w:aj}{c0:aL bw}{fr:av × av}(h:w.heap[g]? =bt (cO c0 T fr)) (cs:aL bw):(w.setRow g cs).heap[g]? =bt (cO cs T fr):=by
 simp[aj.setRow,Nk,h]
def z5r {w:aj}(H:cB B w0 w) (a:B<=g) (cs:aL bw):cB B w0 (w.setRow g cs):=
 ⟨H.os,H.tape,H.output,by rw[size_setRow];exact H.size,fun k b=>by
  rw[show(w.setRow g cs).heap[k]? =w.heap[k]? by simp[aj.setRow,Nk,show¬g=k by omega]]
  exact H.block k b⟩
structure sK (W:aj) (g:av) (p:Pl) (st:St) (s q gg rr t sw lk:bw):Prop where
 pl:jk W g #[p.ver,p.par,s,q,gg,rr] 28
 st:jk W (g+1) #[t,sw,lk] 33
def sK.below {p:Pl}{s q gg r t sw lk:bw}(h:sK W g p st s q gg r t sw lk) (H:jb W W'):sK W' g p st s q gg r t sw lk:=
 ⟨(jm H h.pl),(jm H h.st)⟩
theorem z5s (p:Pl) (st:St) (s q gg a0 t sw lk:bw) (w:aj) (N:bN w s q gg a0 p) (a7:p.Fit) (a1:fU w t sw lk st) (a3:st.fit):
  jW 115 #[aT p s q gg a0,pV t sw lk] w (LX w p st):=by
 have Q:=hI fun a4 a2=>LM p s q gg a0 a4 (N.below a2) a7;have R:=hI fun k a4 a2=>z5b p st s q gg a0 t sw lk a4 (N.below a2) a7 (a1.below a2) a3 k;obtain⟨a8,c1,rfl,-⟩:=N.S;obtain⟨a9,c2,rfl,-⟩:=N.P;obtain⟨b0,c3,rfl,-⟩:=N.G;obtain⟨b1,c4,rfl,-⟩:=N.R;obtain⟨b5,d1,rfl,-⟩:=a1.tks;obtain⟨b6,d2,rfl,-⟩:=a1.sws;obtain⟨b7,d3,rfl,-⟩:=a1.lks
 have a5:bG (∀n:ar,(¬bS p->n=100)->(bS p-> ¬nR p st->n=8)->(bS p->nR p st->n=0)->mX p st=n):=fun n h1 h2 h3=>by
  unfold mX;by_cases h:bS p
  ·rw[Np h];by_cases h':nR p st
   ·rw[Np h',h3 h h']
   rw[Nm h',h2 h h']
  rw[Nm h,h1 h]
 generalize a6:mX p st=E at *;unfold LX;rw[a6];unfold aT pV at *;go_in;go_upto_region 1 with fail;generalize i:cj _ _=W0;have K0:=hI (yA i)
 have hb:sK W0 w p st (js a8 p.S c1) (js a9 p.P c2) (js b0 p.G c3) (js b1 p.R c4) (js b5 st.tks d1) (js b6 st.sws d2) (js b7 st.lks d3):=by
  rw[<-i];exact⟨(Nv _ _ Vq).trans ((Nv _ _ ee).trans Oa),(Nv _ _ ee).trans (Do _ _ _)⟩
 have ho:=jF i
 refine Qa fun H0 H1=>?_;have O:bG (∀(W':aj) (o:av) (v:bw),W'.heap[w.heap.size]? =W0.heap[w.heap.size]? ->#[bw.int dr p.ver,p.par,js a8 p.S c1,js a9 p.P c2,js b0 p.G c3,js b1 p.R c4][o]? =bt v->jc W' w o v):=fun W' o v b8 h=>(Mu W' _ o _ _ _ (b8.trans hb.pl)).trans h;clear i hb ho;have P:=O W0 0 _ rfl rfl;have u:=O W0 1 _ rfl rfl;have y:=O W0 2 _ rfl rfl;have z:=O W0 3 _ rfl rfl;have B:=O W0 4 _ rfl rfl;have D:=O W0 5 _ rfl rfl;go_wp2_with fail;refine(Q W0 K0).mono ?_;refine Qe fun w1 j=>?_;have K1:=jh K0 j;have d:=hI (jm j H1);have r:=hI (H0.below j);clear j Q P u y z B D;by_cases k:bS p
 ·rw[Np k];have U:=hI k;have HCL:=hI (R k w1 K1);clear k R;obtain⟨P,u,y,z,B,D⟩:=dB r.pl;obtain⟨s0,s1,s2⟩:=fO r.st;go_wp2_with fail;refine HCL.mono ?_;rintro e w2 ⟨F,cs,H,A,a,l,c,b,rfl,V,X⟩;have K2:=jh K1 F;have G:=hI (jm F d);have HGA:=hI V;have I:=hI X;clear V X F HCL P u y z B D s0 s1 s2;have J:(prog.info? 171).map (·.size)=bt zeroCells171.size:=by rw[oW,bB.size]
  have K:(prog.info? 171).map (·.size)=bt cs.size:=Ez
  have Y:zeroCells171.size=cs.size:=by rw[bB.size,HGA.o.size]
  have l2:=aD G;go_upto_region 5 with(refine bP rfl 171 (dk 7) (dk 19) rfl w2 cs zeroCells171 171 rfl rfl Oa K Y HGA.one ?_;rw[QY]);generalize L:w2.alloc (cO cs 171)=c5;have M:=jG L
  have b2:=jh K2 M;have g:=hI ((M.block _ l2).trans G);have H2:=hI (jA L)
  clear L M G d;rcases I.o with⟨rfl,b3⟩ | ⟨rfl,b4,h1,h2⟩
  ·have HV:=hI (a5 8 (fun h=>cv U.o h) (fun _ _=>rfl) (fun _ h=>cv h b3));clear b3 I
   go_wp2_with (first
    | (refine wpList_buildTo rfl 171 #[] rfl (bt 23) rfl zeroCells171 ef ?_)
    | (refine bP rfl 171 (dk 4) (dk 23) rfl (w+1+1) zeroCells171 zeroCells171 171 rfl rfl g J rfl bB.one ?_;rw[vW g.o]))
   refine Nh (v:=dw #[cZ zeroCells171,jV 8]) (JC rfl _ _ (w+1+1) _ _ rfl rfl (uB g bB.size)) rfl ⟨b2,_,_,_,_,_,_,Oi,bB,fun h=>by rw[HV.o]at h;cases h⟩
  have HV:=hI (a5 0 (fun h=>cv U.o h) (fun _ h=>cv b4 h) (fun _ _=>rfl));have b9:=hI h1;have c0:=hI h2;clear b4 h1 h2 I
  go_wp2_with (first
   | (refine Dx rfl 171 (dk 7) rfl w2 rfl 171 cs (0,0) _ H2 underlying171 rfl K ?_)
   | (refine bP rfl 171 (dk 4) (dk 24) rfl (w+1+1) cs zeroCells171 171 rfl rfl g K Y HGA.one ?_))
  refine Nh (v:=dw #[cZ cs,jV 0]) (JC rfl _ _ (w+1+1) _ _ rfl rfl (uB (z5q g cs) HGA.size)) rfl ⟨z5r b2 ed _,_,_,_,_,_,_,Oi,HGA,fun _=>⟨b9,c0⟩⟩
 rw[Nm k];have U:=hI k;have HV:=hI (a5 100 (fun _=>rfl) (fun h=>cv h U) (fun h=>cv h U));have J:(prog.info? 171).map (·.size)=bt zeroCells171.size:=by rw[oW,bB.size]
 go_wp2_with (first
  | (refine wpList_buildTo rfl 171 #[] rfl (bt 13) rfl zeroCells171 ef ?_)
  | (refine bP rfl 171 (dk 4) (dk 13) rfl (w+1+1) zeroCells171 zeroCells171 171 rfl rfl d J rfl bB.one ?_;rw[vW d.o]))
 refine Nh (v:=dw #[cZ zeroCells171,jV 100]) (JC rfl _ _ (w+1+1) _ _ rfl rfl (uB d bB.size)) rfl ⟨K1,_,_,_,_,_,_,Oi,bB,fun h=>by rw[HV.o]at h;cases h⟩
def z5t (p:Pl) (st:St) (s q gg r t sw lk:bw) (w:aj) (d:bN w s q gg r p) (D:p.Fit) (i:fU w t sw lk st) (j:st.fit):
  jW 87 #[aT p s q gg r,pV t sw lk] w (uZ w (mX p st)):=by
 have g:=hI fun F B=>z5s p st s q gg r t sw lk F (d.below B) D (i.below B) j;obtain⟨a1,c1,rfl,-⟩:=d.S;obtain⟨a2,c2,rfl,-⟩:=d.P;obtain⟨a3,c3,rfl,-⟩:=d.G;obtain⟨a4,c4,rfl,-⟩:=d.R;obtain⟨b1,d1,rfl,-⟩:=i.tks;obtain⟨b2,d2,rfl,-⟩:=i.sws;obtain⟨b3,d3,rfl,-⟩:=i.lks;unfold LX at g;generalize mX p st=E at *;unfold aT pV at *;go_in;go_upto_region 1 with fail;generalize b:cj _ _=W0;have K0:=hI (eN b)
 have k:=jB b
 have n:=jC b
 obtain⟨P,G,I,J,K,L⟩:=dB k;obtain⟨M,N,O⟩:=fO n;have HCL:=hI (g W0 K0);go_wp2_with fail;refine HCL.mono ?_;rintro e w1 ⟨o,cs,H,A,a,l,c,rfl,u,-⟩;have K1:=jh K0 o;have HGA:=hI u;have y:(prog.info? 171).map (·.size)=bt cs.size:=Ez
 have z:zeroCells171.size=cs.size:=by rw[bB.size,HGA.o.size]
 go_wp2_with (refine bP rfl 171 (dk 5) (dk 11) rfl w1 cs zeroCells171 171 rfl rfl Oa y z HGA.one ?_;rw[QY]);go_ret;exact⟨rfl,K1.alloc K1.size _⟩
def JB (x:ar): ∀u∈[bw.int dr x],u.oneCell'=bl:=by
 intro u H;rw[Tv]at H;subst H;rfl
def yP (H:av->aU) (s:av):av->aU:=fun q=>if q=s then bl else H q
def QX (A:av->ar) (s:av) (x:ar):av->ar:=fun q=>if q=s then x else A q
def iF:aq ar->(av->aU)->ax (av->aU)
 | [],H=>bt H
 | s::r,H=>if H s.toNat=bl then bn else iF r (yP H s.toNat)
def iE (call:ar->ar):aq dV->(av->ar)->ax (av->ar)
 | [],A=>bt A
 | a::r,A=>if(A a.pt.toNat≠0/\A a.pt.toNat≠a.lie)\/call a.pt≠a.lie then bn else iE call r (QX A a.pt.toNat a.lie)
def z5u (id:ar): ∀(l:aq ar) (g:Gr),g.ok=aW->(lN id l g).ok=aW
 | [],g,h=>h
 | s::r,g,h=>by
  have h1:(mF id g s).ok=aW:=by unfold mF;simp[h]
  rw[lN,Nm (by rw[h1];decide)];exact h1
def QV (call:ar->ar): ∀(l:aq dV) (g:Gr),g.ok=aW->(lK call l g).ok=aW
 | [],g,h=>h
 | s::r,g,h=>by
  have h1:(mE call g s).ok=aW:=by unfold mE;simp[h]
  rw[lK,Nm (by rw[h1];decide)];exact h1
def QU {id:ar}(a:id≠0): ∀(l:aq ar) (g:Gr) (H:av->aU),g.ok=bl->(∀q,g.H q≠0↔H q=bl)->
  match iF l H with
  | none=>(lN id l g).ok=aW
  | some c=>(lN id l g).ok=bl/\(∀q,(lN id l g).H q≠0↔c q=bl)/\(lN id l g).A=g.A
 | [],g,H,h0,h1=>⟨h0,h1,rfl⟩
 | s::r,g,H,h0,h1=>by
  rw[iF,lN];by_cases b:H s.toNat=bl
  ·rw[Np b]
   have h2:(mF id g s).ok=aW:=by
    unfold mF;have:=(h1 s.toNat).2 b;simp[this]
   simp only;rw[Nm (by rw[h2];decide)];exact h2
  rw[Nm b]
  have h3:g.H s.toNat=0:=by
   by_cases hz:g.H s.toNat=0
   ·exact hz
   exact cv ((h1 _).1 hz) b
  have h2:(mF id g s).ok=bl:=(by unfold mF;simp[h0,h3]);rw[Np h2]
  exact QU a r (mF id g s) (yP H s.toNat) h2 (fun q=>by
   unfold mF yP;by_cases hq:q=s.toNat
   ·simp[hq,a]
   simp only[Nm hq];exact h1 q)
def QT {call:ar->ar}: ∀(l:aq dV) (g:Gr),(∀a∈l,1<=a.pt)->g.ok=bl->(∀q:av,g.A q≠0->g.A q=call q)->
  match iE call l g.A with
  | none=>(lK call l g).ok=aW
  | some A=>(lK call l g).ok=bl/\(lK call l g).A=A/\(lK call l g).H=g.H/\ ∀q:av,A q≠0->A q=call q
 | [],g,_,h0,h1=>⟨h0,rfl,rfl,h1⟩
 | a::r,g,hl,h0,h1=>by
  have j:=hl a Dq;have c:((a.pt.toNat:av):ar)=a.pt:=ed
  rw[iE,lK];by_cases H:call a.pt=a.lie
  ·have d: ¬((g.A a.pt.toNat≠0/\g.A a.pt.toNat≠a.lie)\/call a.pt≠a.lie):=by
    rintro(⟨q1,q2⟩ | q)
    ·have:=h1 _ q1;rw[c]at this;exact q2 (this.trans H)
    exact q H
   rw[Nm d];have h2:(mE call g a).ok=bl:=(by unfold mE;simp[h0,H]);rw[Np h2]
   have i:=QT r (mE call g a) (fun b e=>hl b (Dy _ e)) h2 (fun q hq=>by
    unfold mE at hq ⊢;simp only at hq ⊢;by_cases he:q=a.pt.toNat
    ·rw[Np he,he,c];exact H.symm
    rw[Nm he]at hq ⊢;exact h1 q hq)
   exact i
  rw[Np (.inr H)];have h2:(mE call g a).ok=aW:=(by unfold mE;simp[H]);simp only;rw[Nm (by rw[h2];decide)];exact h2
def qV (p:Pl) (st:St) (i:av) (x:(av->aU) × (av->ar)):ax ((av->aU) × (av->ar)):=
 (iF (lC (cP p (p.R.getD i nE)) (st.lks.getD i nF)) x.1).bind fun H=>(iE (iJ st.sws) (mG (cP p (p.R.getD i nE)) (st.lks.getD i nF)) x.2).map fun A=>(H,A)
def gQ (p:Pl) (st:St):av->ax ((av->aU) × (av->ar))
 | 0=>bt (fun _=>aW,fun _=>0)
 | i+1=>(gQ p st i).bind (qV p st i)
def QS {p:Pl}(b:bS p){i:av}(c:i<p.R.length) (l:Lk): ∀a∈mG (cP p p.R[i]) l,1<=a.pt/\a.pt<=99:=fun a H=>by
 unfold mG at H;split at H
 ·simp at H
 exact(LJ b c).asks a (aq.mem_filter.1 H).1
def z5v {p:Pl}(b:bS p) (H:jR p st){i:av}(a:i<st.lks.length):st.lks[i].id≠0:=by
 have hl:=H.2.2.1;have h1:=(H.2.2.2 i a ed a).1;have h2:=(IW b.1 i ed ed).1;omega
def z5w (call:ar->ar) (w:Wy) (l:Lk) (g:Gr) (h:g.ok=aW):(sZ call w l g).ok=aW:=QV _ _ _ (z5u _ _ _ h)
def JA {p:Pl}(c:bS p) (d:jR p st): ∀i,i<=st.lks.length->
  match gQ p st i with
  | none=>(jO p st i).ok=aW
  | some x=>(jO p st i).ok=bl/\(∀q,(jO p st i).H q≠0↔x.1 q=bl)/\(jO p st i).A=x.2/\ ∀q:av,x.2 q≠0->x.2 q=iJ st.sws q
 | 0,_=>⟨rfl,fun q=>by simp[jO],rfl,fun q h=>cv rfl h⟩
 | i+1,hi=>by
  have I:=JA c d i ed;have hl:=d.2.2.1;have hn:i<p.R.length:=ed
  have e:p.R.getD i nE=p.R[i]:=Ek
  have el:st.lks.getD i nF=st.lks[i]:=by rw[Na,Nf ed];rfl
  rw[gQ];show match (gQ p st i).bind (qV p st i)with | none=>(sZ (iJ st.sws) (cP p (p.R.getD i nE)) (st.lks.getD i nF) (jO p st i)).ok=aW | some x=>(sZ (iJ st.sws) (cP p (p.R.getD i nE)) (st.lks.getD i nF) (jO p st i)).ok=bl/\(∀q,(sZ (iJ st.sws) (cP p (p.R.getD i nE)) (st.lks.getD i nF) (jO p st i)).H q≠0↔x.1 q=bl)/\(sZ (iJ st.sws) (cP p (p.R.getD i nE)) (st.lks.getD i nF) (jO p st i)).A=x.2/\ ∀q:av,x.2 q≠0->x.2 q=iJ st.sws q
  cases hp:gQ p st i with
  | none=>
   rw[hp]at I;exact z5w _ _ _ _ I
  | some x=>
   rw[hp]at I;obtain⟨h1,h2,h3,h4⟩:=I;show match qV p st i x with | none=>_ | some x=>_
   unfold qV sZ;rw[e,el];have b:=QU (z5v c d (i:=i) ed) (lC (cP p p.R[i]) st.lks[i]) (jO p st i) x.1 h1 h2;cases hr:iF (lC (cP p p.R[i]) st.lks[i]) x.1 with
   | none=>
    rw[hr]at b;exact QV _ _ _ b
   | some g=>
    rw[hr]at b;obtain⟨k1,k2,k3⟩:=b;have H:=QT (call:=iJ st.sws) (mG (cP p p.R[i]) st.lks[i]) (lN st.lks[i].id (lC (cP p p.R[i]) st.lks[i]) (jO p st i)) (fun a h=>(QS c hn _ a h).1) k1 (by rw[k3,h3];exact h4);rw[k3,h3]at H;cases hq:iE (iJ st.sws) (mG (cP p p.R[i]) st.lks[i]) x.2 with
    | none=>rw[hq]at H;exact H
    | some A=>
     rw[hq]at H;obtain⟨m1,m2,m3,m4⟩:=H;exact⟨m1,fun q=>by rw[m3];exact k2 q,m2,m4⟩
def yO (p:Pl) (st:St):Prop:=jR p st/\(gQ p st st.lks).isSome=bl
instance (p:Pl) (st:St):cG (yO p st):=by unfold yO;exact cx
def QR {p:Pl}(H:bS p):nR p st↔yO p st:=by
 unfold nR yO;constructor
 ·rintro⟨h1,h2⟩;refine⟨h1,?_⟩;have:=JA H h1 st.lks ep;cases hr:gQ p st st.lks with
  | none=>rw[hr]at this;unfold sY at h2;rw[this]at h2;cases h2
  | some x=>rfl
 rintro⟨h1,h2⟩;refine⟨h1,?_⟩;have:=JA H h1 st.lks ep;cases hr:gQ p st st.lks with
 | none=>rw[hr]at h2;cases h2
 | some x=>rw[hr]at this;exact this.1
def z5x {p:Pl}(a:bS p){i:av}(b:i<p.R.length) (l:Lk): ∀s∈lC (cP p p.R[i]) l,0<=s/\s<=99:=fun s H=>by
 unfold lC at H;split at H
 ·simp at H
 refine(LJ a b).S s ?_;rcases Tx.1 H with h | h
 ·exact Gi _ (Gh h)
 exact Hk _ h
def BG {p:Pl}(h:bS p)(H:k<p.R.length): ∃x,iM p p.R[k]=bt x:=by
 have h2:=((uL p).1 h).2 k H;unfold mO at h2;cases hr:iM p p.R[k]with
 | none=>rw[hr]at h2;exact h2.elim
 | some x=>exact⟨x,rfl⟩
def z5y {p:Pl}(H:bX p)(a:k<p.R.length) (l:Lk):(lC (cP p p.R[k]) l).length<=1000:=by
 have h:=(qD H a).1;have h6:=h.2.2.2.2.1;have h2:=h.2.2.2.2.2.1;rw[TN];unfold sS;split
 ·simp
 rw[Mx,Po];omega
def IZ {p:Pl}(H:bX p)(a:k<p.R.length){x:Rw}(hx:iM p p.R[k]=bt x) (l:Lk):mG (cP p p.R[k]) l=pZ (mH p p.R[k] x) l:=by
 rw[z5j,IU H a hx]
def z5z {MA:aq dV}(h:MA.length<=1000) (l:Lk):(pZ MA l).length<=1000:=by
 unfold pZ;split
 ·simp
 exact Nj (aq.length_filter_le _ _) h
def mK {base:av}{sz:av}{v:bw}(h:W.ownsRow base e sz v n xs){C:aL bw}(a:jk W g Z T) (b:T≠e):
  (W.setRow g C).ownsRow base e sz v n xs:=by
 refine⟨h.1,?_⟩;rcases h.2 with d | ⟨k,cap,cur,rfl,c,H,rest⟩
 ·exact .inl d
 have i:g≠k:=fun j=>by
  rw[j,H]at a
  injection a with a
  injection a with _ h2 _
  exact b h2.symm
 refine .inr ⟨k,cap,cur,rfl,c,?_,rest⟩;simp only[aj.setRow,Nk];rw[Nm i];exact H
def RG.swap {v v':av->bw}{ia is:av}{C C':aL bw}{f:av->aU}{s:av->bw}(h:RG w0 v ia is Z C T f s W) (hl:f is=aW) (b: ∀i,i≠ia->f i=bl->v i=v' i):RG w0 v' ia is Z C' T f s W:=
 ⟨h.bel,fun i H a=>(h.val i H a).trans (b i H a),h.ord,fun k=>by
  obtain⟨g,e,c,hr⟩:=h.al k;rw[hl]at hr
  exact⟨g,e,c,Up⟩⟩
structure lY {α:Type}(w0:aj) (v:α->av->bw) (ia is ic:av) (Z:aL bw) (C:α->aL bw) (T:bT) (E:aj->α->Prop) (f:av->aU) (s:av->bw) (x:α) (W:aj):Prop where
 rg:RG w0 (v x) ia is Z (C x) T f s W
 has:f ic=bl->E W x
 ord:f is=bl->f ic=bl
section
variable {α:Type}{w0:aj}{v:α->av->bw}{ia is ic:av}{Z:aL bw}{C:α->aL bw}{T:bT}{E:aj->α->Prop}{f:av->aU}{s:av->bw}{x:α}{W W':aj}
def lY.start (x:α) (H:jb w0 W):lY w0 v ia is ic Z C T E (fun _=>aW) s x W:=⟨RG.start H,(fun(h:aW=bl)=>aU.noConfusion h),(fun(h:aW=bl)=>aU.noConfusion h)⟩
def lY.grow (h:lY w0 v ia is ic Z C T E f s x W) (H: ∀x,E W x->E W' x) (a:jb W W'):lY w0 v ia is ic Z C T E f s x W':=⟨h.rg.grow a,fun k=>H _ (h.has k),h.ord⟩
def lY.step (h:lY w0 v ia is ic Z C T E f s x W) (i:av) (h1:i≠ia) (h2:i≠is) (h3:i≠ic):lY w0 v ia is ic Z C T E (fun j=>ab (j=i) || f j) (fun j=>if j=i then v x i else s j) x W:=by
 have e1:(ab (ic=i) || f ic)=f ic:=by rw[Mw (fun e=>h3 e.symm)];rfl
 have e2:(ab (is=i) || f is)=f is:=Zn
 exact⟨h.rg.step i h1 h2,fun k=>h.has (e1 ▸ k),fun k=>by rw[e1];exact h.ord (e2 ▸ k)⟩
def lY.call (h:lY w0 v ia is ic Z C T E f s x W) (y:α) (h1:ic≠ia) (h2:ic≠is) (H:f ic=aW) (b: ∀i,i≠ic->v x i=v y i) (c:jb W W') (d:E W' y):lY w0 v ia is ic Z C T E (fun j=>ab (j=ic) || f j) (fun j=>if j=ic then v y ic else s j) y W':=by
 have g:f is=aW:=by
  cases k:f is with
  | false=>rfl
  | true=>rw[h.ord k]at H;cases H
 have e2:(ab (is=ic) || f is)=f is:=Zn
 refine⟨((h.rg.swap (v':=v y) (C':=C y) g fun i _ a=>b i fun e=> ?_).grow c).step ic h1 h2,fun _=>d,fun k=> ?_⟩
 ·subst e;rw[H]at a;cases a
 simp
def lY.alloc (h:lY w0 v ia is ic Z C T E f s x W) (h1:ia≠is) (h3:ia≠ic) (a: ∀x,E W x->E (W.alloc (cO Z T)) x) (H:f ia=aW):lY w0 v ia is ic Z C T E (fun j=>ab (j=ia) || f j) (fun j=>if j=ia then cY (bt ⟨W,0,bn⟩)else s j) x (W.alloc (cO Z T)):=by
 have e1:(ab (ic=ia) || f ic)=f ic:=by rw[Mw (fun e=>h3 e.symm)];rfl
 have e2:(ab (is=ia) || f is)=f is:=by rw[Mw (fun e=>h1 e.symm)];rfl
 exact⟨h.rg.alloc h1 H,fun k=>a _ (h.has (e1 ▸ k)),fun k=>by rw[e1];exact h.ord (e2 ▸ k)⟩
def lY.store (h:lY w0 v ia is ic Z C T E f s x W) (h1:ia≠is) (h2:ic≠is)(a:f ia=bl) (H:f ic=bl) (e:s ia=cY (bt ⟨g,0,bn⟩)) (b:w0.heap.size<=g) (c:jk W g Z T) (d:E W x->E (W.setRow g (C x)) x):
  lY w0 v ia is ic Z C T E (fun j=>ab (j=is) || f j) (fun j=>if j=is then v x is else s j) x (W.setRow g (C x)):=
 ⟨h.rg.store h1 a e b c,fun _=>d (h.has H),fun _=>by rw[H,Gd]⟩
end
def z50 {α:Type}{f:α->ar}{l:aq α}(h:dE f l l){k:av}(H:k<l.length):dA (fun x=>ab (f x=f l[k])) l=(k:ar):=by
 rcases kF (fun x=>ab (f x=f l[k])) l with⟨_,h2⟩ | ⟨m,a,e,h1,h2⟩
 ·have:=h2 k H;simp at this
 rcases Fv m k with h' | h' | h'
 ·have:=wP h H h';have h1:f l[m]=f l[k]:=(by simpa using h1);omega
 ·rw[e,h']
 have:=h2 k H h';simp at this
def z51 {p:Pl}{r:Rt}(h:iM p r=bn):ab (mO p r)=aW:=by
 apply Mw;unfold mO;rw[h];exact id
def z52 {p:Pl}{r:Rt}{x:Rw}(h:iM p r=bt x):ab (mO p r)=ab (nS (mH p r x)/\sV p r x.outs):=by
 apply Ss.2;unfold mO;rw[h]
theorem z53 (p:Pl) (s q gg b4:bw) (K:av) (L:K<p.R.length) (e8 e9 f0:bw) (w:aj) (a5:bN w s q gg b4 p) (b5:p.Fit) (E:bX p) (M:dY w e8 e9 f0 p.R[K]):
  Calls prog 130 #[aT p s q gg b4,cZ #[p.R[K].id,p.R[K].E,p.R[K].X,e8,e9,f0,p.R[K].T]] w (bY w (ab (mO p p.R[K]))):=by
 have i7:=hI fun W l=>TR p s q gg b4 K L e8 e9 f0 W (a5.below l) b5 E (M.below l);have H5:=hI fun x hx W l=>TP p s q gg b4 K L W (a5.below l) b5 E x hx;have f2:=hI fun a b W l=>TZ p s q gg b4 a b W (a5.below l) b5;have H6:=hI (JD E L);have HV:=hI (z50 (IW E) L);have H7:bG (iM p p.R[K]=bn->ab (mO p p.R[K])=aW):=z51;have H8:bG (∀x,iM p p.R[K]=bt x->ab (mO p p.R[K])=ab (nS (mH p p.R[K] x)/\sV p p.R[K] x.outs)):=fun x=>z52;have b6:=(qD E L).1;have k5:=b6.2.2.2.2.1;have f4:=hI (oY p.R[K]);have k6:=hI b5.R;have f5:=M.A;have f6:=M.O;obtain⟨a1,k1,rfl,-⟩:=a5.S;obtain⟨a2,k2,rfl,-⟩:=a5.P;obtain⟨a3,k3,rfl,-⟩:=a5.G;obtain⟨a4,k4,rfl,g4⟩:=a5.R;refine Em fun f7=>?_;have H9:=hI M;clear a5 b5 E b6 g4 M;generalize ab (mO p p.R[K])=D at *;generalize f8:iM p p.R[K]=l6 at *;clear f8;generalize p.R[K]=r at *;obtain⟨p1,l7,p3,rfl,ip⟩:=f5;obtain⟨o1,l8,o3,rfl,i8⟩:=f6;obtain rfl:=ip.len;obtain rfl:=i8.len;obtain⟨f1,f3,rfl,-⟩:=H9.o.fl;have f9:bG (∀W,jb w W->IL W p1 r.A.length r.A):=fun W l=>ip.below l;clear H9 ip i8;unfold aT at *;go_in;go_upto_region 1 with fail;generalize a0:cj _ _=W0;have i9:=hI (eN a0)
 have H0:=hI (jB a0)
 have N:=hI (jC a0)
 clear a0;obtain⟨pp0,F,G,I,J,P⟩:=dB (H0.o);obtain⟨y0,r1,r0,O,r2,r3,r4⟩:=lU (N.o);refine Om fun lb d9=>?_;go_wp2_with fail;refine(i7.o W0 i9.o).mono ?_;rintro e W1 ⟨a8,b7⟩;have H1:=hI a8;have K1:=jh i9 a8;clear a8 pp0 F G I J P y0 r1 r0 O r2 r3 r4 lb d9 i7;rcases b7 with⟨Q,rfl⟩ | ⟨x,ia,ib,ic,id,Q,a9,ho,rfl,g0,hb⟩
 ·have HE:=hI (H7.o Q);refine ei ?_;exact⟨ew,K1.o⟩
 have HE:=hI (H8.o x Q);have j0:=hI (H5.o x Q);have b8:=hI (H6.o x);refine Qa fun b9 o7=>?_;clear H5 H8 H7 Q g0 hb a9 ho H6;generalize mH p r x=MA at *;generalize(iZ p r.E).sec=near at *;have T:=jm H1.o H0.o;have B:=jm H1.o N.o;go_upto_region 4 with fail;obtain⟨pp0,F,G,I,J,P⟩:=dB (T);have y0:=ji 0 B;clear T B
 refine tN ef ef (fun f k7 A=> ∃(s:av->bw) (y:ax bR × av × ax bR × av × ax bR × av),k7={tmps:=#[cZ #[p.ver,p.par,js a1 p.S.length k1,js a2 p.P.length k2,js a3 p.G.length k3,js a4 p.R.length k4],cZ #[r.id,r.E,r.X,js p1 r.A.length p3,js o1 r.O.length o3,js f1 r.fl.length f3,r.T],cY (bt ⟨w.heap.size,0,bn⟩),cY (bt ⟨w.heap.size+1,0,bn⟩),db aW,cJ ia (aI r).length ib,cJ ic (aI r).length id,db bl,s 7,bE,bE,bE,bE,dw #[js ia (aI r).length ib,js ic (aI r).length id,db bl],cZ #[p.ver,p.par,js a1 p.S.length k1,js a2 p.P.length k2,js a3 p.G.length k3,js a4 p.R.length k4],cZ #[r.id,r.E,r.X,js p1 r.A.length p3,js o1 r.O.length o3,js f1 r.fl.length f3,r.T],dw #[js ia (aI r).length ib,js ic (aI r).length id,db bl],cJ ia (aI r).length ib,cJ ic (aI r).length id,db bl,db bl,db aW,s 0,s 1,s 2,s 3,s 4,s 5,s 6,bE,bE,bE,bE,bE,bE,bE,bE,bE,bE,bE,bE,bE,bE,bE,bE,bE,bE,bE,bE,bE,bE,bE,bE,bE,bE,bE,bE,bE,bE,bE,bE,bE,bE,bE,bE,bE,bE,bE,bE,bE,bE,bE,bE,bE,bE,bE,bE,bE,bE,bE,bE,bE,bE,bE,bE,bE,bE,bE,bE,bE,bE,bE,bE,bE,bE,bE],defers:=[]}/\lY W1 (fun(y:ax bR × av × ax bR × av × ax bR × av) (i:av)=>match i with | 0=> cZ #[p.ver,p.par,js a1 p.S.length k1,js a2 p.P.length k2,js a3 p.G.length k3,js a4 p.R.length k4] | 1=> cY (bt ⟨w.heap.size,5,bn⟩) | 2=> cJ a4 p.R.length k4 | 3=> cY (bt ⟨w.heap.size+1,0,bn⟩) | 4=> cW dr r.id | 5=> cW dr K | 6=> cZ #[js y.1 r.A.length y.2.1,js y.2.2.1 r.O.length y.2.2.2.1,js y.2.2.2.2.1 MA.length y.2.2.2.2.2,near] | _=>bE) 7 8 6 #[cJ bn 0 0,cJ bn 0 0,cJ bn 0 0,cW dr 0] (fun(y:ax bR × av × ax bR × av × ax bR × av)=>#[js y.1 r.A.length y.2.1,js y.2.2.1 r.O.length y.2.2.2.1,js y.2.2.2.2.1 MA.length y.2.2.2.2.2,near]) 184 (fun(W8:aj) (y:ax bR × av × ax bR × av × ax bR × av)=>aG W8 W1.heap.size (js y.2.2.2.2.1 MA.length y.2.2.2.2.2) MA) f s y A) ?_ ?_ ?_
 ·exact⟨(fun i=>match i with | 0=>bE | 1=>bE | 2=>bE | 3=>bE | 4=>bE | 5=>bE | 6=>bE | 7=>bE | _=>bE),(bn,0,bn,0,bn,0),rfl,lY.start _ ⟨rfl,rfl,rfl,Mv _,fun _ _=>rfl⟩⟩
 ·intro i o U f a A b0 hd b1;obtain⟨s,y,rfl,H⟩:=b0;rcases i with _ | _ | _ | _ | _ | _ | _ | _ | _ | i
  ·have c:=U;simp at c;subst c;have q0:=aP H.rg.bel pp0;have q1:=aP H.rg.bel F;have q2:=aP H.rg.bel G;have q3:=aP H.rg.bel I;have q4:=aP H.rg.bel J;have q5:=aP H.rg.bel P;refine wU (by simp[wpOp,go_sem,q0,q1,q2,q3,q4,q5];exact .inl ⟨rfl,rfl⟩) ?_;exact⟨fun j=>if j=0 then cZ #[p.ver,p.par,js a1 p.S.length k1,js a2 p.P.length k2,js a3 p.G.length k3,js a4 p.R.length k4]else s j,y,rfl,H.step 0 eh eh eh⟩
  ·have c:=U;simp at c;subst c;refine wU Yr ?_;exact⟨fun j=>if j=1 then cY (bt ⟨w.heap.size,5,bn⟩)else s j,y,rfl,H.step 1 eh eh eh⟩
  ·have c:=U;simp at c;subst c;have e1:s 1=cY (bt ⟨w.heap.size,5,bn⟩):=H.rg.val 1 eh (hd ⟨1,.data⟩ ee ev);have q2:=aP H.rg.bel P;refine wU (by simp[wpOp,go_sem,e1,q2];exact .inl ⟨rfl,rfl⟩) ?_;exact⟨fun j=>if j=2 then cJ a4 p.R.length k4 else s j,y,by simp[e1],H.step 2 eh eh eh⟩
  ·have c:=U;simp at c;subst c;refine wU Yr ?_;exact⟨fun j=>if j=3 then cY (bt ⟨w.heap.size+1,0,bn⟩)else s j,y,rfl,H.step 3 eh eh eh⟩
  ·have c:=U;simp at c;subst c;have e3:s 3=cY (bt ⟨w.heap.size+1,0,bn⟩):=H.rg.val 3 eh (hd ⟨3,.data⟩ ee ev);have q2:=aP H.rg.bel y0;refine wU (by simp[wpOp,go_sem,e3,q2];exact .inl ⟨rfl,rfl⟩) ?_;exact⟨fun j=>if j=4 then cW dr r.id else s j,y,by simp[e3],H.step 4 eh eh eh⟩
  ·have c:=U;simp at c;subst c;have c9:s 2=cJ a4 p.R.length k4:=H.rg.val 2 eh (hd ⟨2,.data⟩ ee ev);have fz:s 4=↑r.id:=H.rg.val 4 eh (hd ⟨4,.data⟩ ee ev);have g1:=((qy a4 k4 p.R r.id A (f7.o A (jo K1 H.rg.bel)) k6.o).mono fun e V h=>(⟨h.1.trans Oi,MI h.2⟩:e=cL (cW dr K)/\jb A V));apply tz (R:=fun V=>jb A V)
   ·refine Vi ?_;refine .inl (g1.mono ?_);refine Qe fun V l=>?_;simp[go_sem];exact⟨rfl,l⟩
   intro V l;exact⟨fun j=>if j=5 then cW dr K else s j,y,by simp[c9,fz],(H.grow (fun y h=>bU h l) l).step 5 eh eh eh⟩
  ·have c:=U;simp at c;subst c;have e0:s 0=cZ #[p.ver,p.par,js a1 p.S.length k1,js a2 p.P.length k2,js a3 p.G.length k3,js a4 p.R.length k4]:=H.rg.val 0 eh (hd ⟨0,.data⟩ ee ev);have e5:s 5=cW dr K:=H.rg.val 5 eh (hd ⟨5,.data⟩ ee ev);have g1:=j0.o A (jo K1 H.rg.bel);obtain⟨Q9,c0⟩: ∃Q9:Act->aj->Prop,Q9=fun e2 V=> ∃Y:ax bR × av × ax bR × av × ax bR × av,e2={tmps:=#[cZ #[p.ver,p.par,js a1 p.S.length k1,js a2 p.P.length k2,js a3 p.G.length k3,js a4 p.R.length k4],cZ #[r.id,r.E,r.X,js p1 r.A.length p3,js o1 r.O.length o3,js f1 r.fl.length f3,r.T],cY (bt ⟨w.heap.size,0,bn⟩),cY (bt ⟨w.heap.size+1,0,bn⟩),db aW,cJ ia (aI r).length ib,cJ ic (aI r).length id,db bl,s 7,bE,bE,bE,bE,dw #[js ia (aI r).length ib,js ic (aI r).length id,db bl],cZ #[p.ver,p.par,js a1 p.S.length k1,js a2 p.P.length k2,js a3 p.G.length k3,js a4 p.R.length k4],cZ #[r.id,r.E,r.X,js p1 r.A.length p3,js o1 r.O.length o3,js f1 r.fl.length f3,r.T],dw #[js ia (aI r).length ib,js ic (aI r).length id,db bl],cJ ia (aI r).length ib,cJ ic (aI r).length id,db bl,db bl,db aW,cZ #[p.ver,p.par,js a1 p.S.length k1,js a2 p.P.length k2,js a3 p.G.length k3,js a4 p.R.length k4],s 1,s 2,s 3,s 4,cW dr K,cZ #[js Y.1 r.A.length Y.2.1,js Y.2.2.1 r.O.length Y.2.2.2.1,js Y.2.2.2.2.1 MA.length Y.2.2.2.2.2,near],bE,bE,bE,bE,bE,bE,bE,bE,bE,bE,bE,bE,bE,bE,bE,bE,bE,bE,bE,bE,bE,bE,bE,bE,bE,bE,bE,bE,bE,bE,bE,bE,bE,bE,bE,bE,bE,bE,bE,bE,bE,bE,bE,bE,bE,bE,bE,bE,bE,bE,bE,bE,bE,bE,bE,bE,bE,bE,bE,bE,bE,bE,bE,bE,bE,bE,bE],defers:=[]}/\jb A V/\aG V W1.heap.size (js Y.2.2.2.2.1 MA.length Y.2.2.2.2.2) MA:=⟨_,rfl⟩;refine Gl (fun e2 V (j1:Q9 e2 V)=> ?_) ?_
   ·rw[c0]at j1;obtain⟨Y,rfl,l,g2⟩:=j1;refine⟨fun j=>if j=6 then cZ #[js Y.1 r.A.length Y.2.1,js Y.2.2.1 r.O.length Y.2.2.2.1,js Y.2.2.2.2.1 MA.length Y.2.2.2.2.2,near]else s j,Y,by simp[e0,e5],H.call Y eh eh b1 (fun i e4=> ?_) l g2⟩;rcases i with _ | _ | _ | _ | _ | _ | _ | _ | _ | _ | i<;>first | rfl | exact cv rfl e4
   simp[wpOp,go_sem,e0,e5];refine .inl (g1.mono ?_);rintro e V ⟨q1,q3,n1,n3,m1,m3,rfl,o2,o4,o0,l⟩;simp[go_sem];rw[c0];exact⟨(q1,q3,n1,n3,m1,m3),rfl,l,bW o0 H.rg.bel.size⟩
  ·have c:=U;simp at c;subst c;refine wU Yr ?_;exact⟨fun j=>if j=7 then cY (bt ⟨A.heap.size,0,bn⟩)else s j,y,rfl,H.alloc eh eh (fun y h=>bU h aR) b1⟩
  ·have c:=U;simp at c;subst c;have e6:s 6=cZ #[js y.1 r.A.length y.2.1,js y.2.2.1 r.O.length y.2.2.2.1,js y.2.2.2.2.1 MA.length y.2.2.2.2.2,near]:=H.rg.val 6 eh (hd ⟨6,.data⟩ ee ev);have j2:=hd ⟨7,.data⟩ ee ev;have g3:=hd ⟨6,.data⟩ ee ev;obtain⟨g,c1,z,n⟩:=H.rg.at j2 b1;refine kG U rfl 184 (dk 8) (dk 28) rfl g #[js y.1 r.A.length y.2.1,js y.2.2.1 r.O.length y.2.2.2.1,js y.2.2.2.2.1 MA.length y.2.2.2.2.2,near] c1 e6 184 #[cJ bn 0 0,cJ bn 0 0,cJ bn 0 0,cW dr 0] n rfl rfl Qj ?_;exact⟨fun j=>if j=8 then bE else s j,y,rfl,H.store eh eh j2 g3 c1 z n (fun h=>mK h n eh)⟩
  simp at U
 intro f a A b0 d;obtain⟨s,y,rfl,H⟩:=b0;have e0:s 0=cZ #[p.ver,p.par,js a1 p.S.length k1,js a2 p.P.length k2,js a3 p.G.length k3,js a4 p.R.length k4]:=H.rg.val 0 eh (d 0 eh);have e1:s 1=cY (bt ⟨w.heap.size,5,bn⟩):=H.rg.val 1 eh (d 1 eh);have c9:s 2=cJ a4 p.R.length k4:=H.rg.val 2 eh (d 2 eh);have e3:s 3=cY (bt ⟨w.heap.size+1,0,bn⟩):=H.rg.val 3 eh (d 3 eh);have fz:s 4=↑r.id:=H.rg.val 4 eh (d 4 eh);have e5:s 5=cW dr K:=H.rg.val 5 eh (d 5 eh);have e6:s 6=cZ #[js y.1 r.A.length y.2.1,js y.2.2.1 r.O.length y.2.2.2.1,js y.2.2.2.2.1 MA.length y.2.2.2.2.2,near]:=H.rg.val 6 eh (d 6 eh);obtain⟨g,c1,z,n⟩:=H.rg.done (d 7 eh) (d 8 eh);have C:=H.rg.bel;have a6:=H.has (d 6 eh);simp only[e0,e1,c9,e3,fz,e5,e6,c1];clear H d c1 e0 e1 c9 e3 fz e5 e6;have j3:=hI n
 have g5:bG (aB A 3 qH y.2.2.2.2.1 y.2.2.2.2.2 MA):=by
  obtain⟨e2,l9,k8,h'⟩:=aG.sl a6;cases k8;exact h'
 have KO:=jh K1 C;have j4:=jh H1 C;have g6:=hI (b9.o.below C);clear z n C a6 pp0 F G I J P y0 j0 b9 HV;obtain⟨y1,y2,y3,y4,y5,y6⟩:=y;simp only at *;obtain⟨a7,b2⟩: ∃a7:av->Prop,a7=fun i=> ¬(fF p (r.A.getD i 0) (x.outs.getD i 0)≠0/\i+1<r.A.length)/\ ¬(i+1=r.A.length/\fF p (r.A.getD i 0) (x.outs.getD i 0)≠r.X):=⟨_,rfl⟩;have g7:bG (∀i,a7 i-> ¬(fF p (r.A.getD i 0) (x.outs.getD i 0)≠0/\i+1<r.A.length)/\ ¬(i+1=r.A.length/\fF p (r.A.getD i 0) (x.outs.getD i 0)≠r.X)):=fun i h=>by rw[b2]at h;exact h
 have H2:bG (∀i,¬(fF p (r.A.getD i 0) (x.outs.getD i 0)≠0/\i+1<r.A.length)/\ ¬(i+1=r.A.length/\fF p (r.A.getD i 0) (x.outs.getD i 0)≠r.X)->a7 i):=fun i h=>by rw[b2];exact h
 clear b2;go_wp2_with fail;go_loopg [9] MA.length (fun u i wr=> ∃(k:av),k<=MA.length/\u=MA.length-k/\i=cW dr k/\jb A wr/\tI MA k)
 ·exact⟨0,ed,ed,rfl,Nb _ _,fun i e4 g8=>cv g8 (Pm _)⟩
 obtain⟨k,k9,rfl,rfl,l,c2⟩:=hrel;have t:=jm l j3.o;have HB:=hI l;have c3:=hI c2;have c9:=ji 2 t;have le:=Mt c9;clear l c2 t;by_cases hn:k<MA.length
 ·have hd:=bL hn;clear hn;have G9:bG (k<MA.length):=(by show _<_;simpa using hd);go_wp2_with fail;go_loopg [10] k (fun u i g9=> ∃(m:av),m<=k/\u=k-m/\i=cW dr m/\jb A g9/\(∀j (hj:j<MA.length),j<m->MA[j].pt≠(MA[k]'G9.o).pt))
  ·exact⟨0,ed,ed,rfl,HB.o,fun j _ hj=>cv hj (Pm _)⟩
  obtain⟨m,m0,rfl,rfl,l,X⟩:=hrel;have t:=jm l j3.o;have L9:=hI l;have c4:=hI X;have H3:=hI (g5.o.below DX l);clear l X c9 le HB;by_cases b3:m<k
  ·have i0:=bL b3;have hn:=G9.o;have c5:m<MA.length:=ed;obtain⟨j5,j6,v1,rfl,a9,c6,i1⟩:=H3.o.at_ m c5;obtain⟨l0,o5,v2,i2,ho,c7,i3⟩:=H3.o.at_ k hn;cases i2;obtain rfl:v1=[cW dr MA[m].pt,cW dr MA[m].lie,cW dr MA[m].pl]:=i1;obtain rfl:v2=[cW dr MA[k].pt,cW dr MA[k].lie,cW dr MA[k].pl]:=i3;have x0:jc wr j5 (j6+m * 3) MA[m].pt:=c6 0 ee;have z0:jc wr j5 (j6+k * 3) MA[k].pt:=c7 0 ee;have j7:=Mt x0;have c9:=ji 2 t;have le:=Mt c9;have c8:=b8.o;have j8:m<=1000:=ed;have l1:=aQ m;have l2:=aN c5;refine Qb fun l3 _=>?_;clear c6 c7 a9 ho t H3;by_cases hq:MA[m].pt=MA[k].pt
   ·have t1:(MA[m].pt==MA[k].pt)=bl:=by rw[Da];exact hq
    have HF:bG (D=aW):=by
     show _=_;rw[HE.o];exact Mw fun h=>h.1 k hn hn m b3 hq
    clear hq;go_upto_region 11 with fail;go_quiet (fail);refine ei ?_;exact⟨by rw[HF.o];rfl,dM (jo KO L9.o) _⟩
   have t1:(MA[m].pt==MA[k].pt)=aW:=(by rw[Nd];exact hq);have l4:=hI hq;clear hq;go_upto_region 11 with fail;go_quiet (fail);go_wp2_with fail;go_roundg (k-(m+1))
   ·go_light;refine⟨m+1,ed,ed,ej,dM L9.o _,fun j h1 h2=> ?_⟩;by_cases i4:j=m
    ·subst i4;exact l4.o
    exact c4.o j h1 ed
   go_light;omega
  have i0:=bZ b3;obtain rfl:m=k:=ed;have d0:=hI (XQ G9.o c3.o fun j hj=>c4.o j (av.lt_trans hj G9.o) hj);have j9:m+1<=MA.length:=G9.o;have c8:=b8.o;go_wp2_with fail;go_roundg (MA.length-(m+1))
  ·go_light;exact⟨m+1,ed,ed,ej,L9.o,d0.o⟩
  go_light;omega
 obtain rfl:k=MA.length:=ed;have d1:=c3.o;have i5:=HB.o;have hd:=bZ hn;have d2:=hI d1;clear hd HB;have d3:=hI i5;go_upto_region 13 with fail;go_wp2_with fail;go_loopg [11] r.A.length (fun u i g9=> ∃(k:av),k<=r.A.length/\u=r.A.length-k/\i=cW dr k/\jb A g9/\(∀j,j<k->a7 j))
 ·exact⟨0,ed,ed,rfl,d3.o,fun j hj=>cv hj (Pm _)⟩
 obtain⟨k,k9,rfl,rfl,l,X⟩:=hrel;have HB:=hI l;have e7:=hI X;have i6:=jh KO l;have K0:=jh j4 l;clear c9 le l X;have T:=jm K0.o H0.o;have B:=jm K0.o N.o;obtain⟨pp0,F,G,I,J,P⟩:=dB (T);have O:=ji 3 B;have lb:=Mt pp0;have d9:=Mt O;clear T B;by_cases hn:k<r.A.length
 ·have hd:=bL hn;have d4:=f4.o;have d5:k<x.outs.length:=Ko;obtain⟨m4,m5,rfl,x0⟩:=(f9.o wr i6.o).cell k hn;obtain⟨m6,m7,rfl,z0⟩:=(g6.o.below HB.o).cell k d5;have j7:=Mt x0;have l5:=Mt z0;have l1:=aQ k;have l2:=aN hn;have l3:(k:ar)<((aI r).length:ar):=ed;clear d4;have z:r.A.getD k 0=r.A[k]:=Ek;have n:x.outs.getD k 0=x.outs[k]:=(by rw[Na,Nf d5];rfl);go_upto_region 16 with fail
  go_still_tail 10,ef
  refine Xc fun k0 d6 d7 H4=>?_;have A7:=hI (f2.o r.A[k] x.outs[k] k0 (jo KO H4.o));obtain⟨S,H⟩: ∃S,fF p (r.A.getD k 0) (x.outs.getD k 0)=S:=⟨_,rfl⟩;rw[z,n]at H;rw[H]at A7;rw[<-z,<-n]at H;clear z n d6 d7 pp0 F G I J P O lb d9 x0 z0 j7 l5 HB i6 K0;go_wp2_with fail;refine A7.o.mono ?_;rintro e W2 ⟨rfl,d8⟩;have L9:=jh H4 d8;have B:=((jo j4 L9.o).block _ (aD N.o)).trans N.o;have r0:=ji 2 B;have O:=ji 3 B;have d9:=Mt r0;clear B d8 A7 H4;by_cases s1:k+1<r.A.length
  ·have t2:ab ((k:ar)<(r.A.length:ar)-1)=bl:=em;have t3:((k:ar)==(r.A.length:ar)-1)=aW:=Ov;have hz:=Py;by_cases v:S=0
   ·have t1:(S != 0)=aW:=by simp[v]
    have Z:bG (∀j,j<k+1->a7 j):=fun j hj=>by
     rcases Pw j k with h' | h'
     ·exact e7.o j h'
     obtain rfl:j=k:=ed;refine H2.o j ?_;rw[H];exact⟨fun h=>h.1 v,fun h=>cv h.1 ed⟩
    clear s1 v hz H;go_wp2_with fail;go_roundg (r.A.length-(k+1))
    ·go_light;exact⟨k+1,ed,ed,ej,L9.o,Z.o⟩
    go_light;omega
   have t1:(S != 0)=bl:=by simp[v]
   have HF:bG (D=aW):=by
    show _=_;rw[HE.o];refine Mw fun h=> ?_;have h2:=h.2 k hn;rw[H]at h2;exact h2.1 ⟨v,s1⟩
   clear s1 v hz H;refine ei ?_;exact YE
  have t2:ab ((k:ar)<(r.A.length:ar)-1)=aW:=em;have t3:((k:ar)==(r.A.length:ar)-1)=bl:=Ve;by_cases hz:S=r.X
  ·have t4:(S != r.X)=aW:=Qh;by_cases v:S=0
   ·have t1:(S != 0)=aW:=by simp[v]
    have Z:bG (∀j,j<k+1->a7 j):=fun j hj=>by
     rcases Pw j k with h' | h'
     ·exact e7.o j h'
     obtain rfl:j=k:=ed;refine H2.o j ?_;rw[H];exact⟨fun h=>cv h.2 s1,fun h=>h.2 hz⟩
    clear s1 v hz H;go_wp2_with fail;go_roundg (r.A.length-(k+1))
    ·go_light;exact⟨k+1,ed,ed,ej,L9.o,Z.o⟩
    go_light;omega
   have t1:(S != 0)=bl:=by simp[v]
   have Z:bG (∀j,j<k+1->a7 j):=fun j hj=>by
    rcases Pw j k with h' | h'
    ·exact e7.o j h'
    obtain rfl:j=k:=ed;refine H2.o j ?_;rw[H];exact⟨fun h=>cv h.2 s1,fun h=>h.2 hz⟩
   clear s1 v hz H;go_wp2_with fail;go_roundg (r.A.length-(k+1))
   ·go_light;exact⟨k+1,ed,ed,ej,L9.o,Z.o⟩
   go_light;omega
  have t4:(S != r.X)=bl:=Qh;by_cases v:S=0
  ·have t1:(S != 0)=aW:=by simp[v]
   have HF:bG (D=aW):=by
    show _=_;rw[HE.o];refine Mw fun h=> ?_;have h2:=h.2 k hn;rw[H]at h2;exact h2.2 ⟨ed,hz⟩
   clear s1 v hz H;refine ei ?_;exact YE
  have t1:(S != 0)=bl:=by simp[v]
  have HF:bG (D=aW):=by
   show _=_;rw[HE.o];refine Mw fun h=> ?_;have h2:=h.2 k hn;rw[H]at h2;exact h2.2 ⟨ed,hz⟩
  clear s1 v hz H;refine ei ?_;exact YE
 obtain rfl:k=r.A.length:=ed;have hd:=bZ hn
 have HF:bG (D=bl):=by
  show _=_;rw[HE.o];exact Ni ⟨d2.o,fun i e4=>g7.o i (e7.o i e4)⟩
 refine ei ?_;exact⟨by rw[HF.o];rfl,i6.o⟩
theorem yN (p:Pl) (s q gg R:bw) (w:aj) (d:bN w s q gg R p) (I:p.Fit):
  jW 62 #[aT p s q gg R] w (bY w (ab (bS p))):=by
 have A:=hI fun W hb=>z4t p s q gg R W (d.below hb) I;have L:=hI fun H k a1 M N O W hb J=>z53 p s q gg R k a1 M N O W (d.below hb) I H J;have f:=hI (uL p);obtain⟨a7,k1,rfl,-⟩:=d.S;obtain⟨a8,k2,rfl,-⟩:=d.P;obtain⟨a9,k3,rfl,-⟩:=d.G;obtain⟨a4,k4,rfl,g4⟩:=d.R;refine Em fun Q=>?_;have b0:=I.R;clear d I g4;have a5:bG (ab (bS p)=bl↔bS p):=Dj;have B:bG (¬bS p->ab (bS p)=aW):=fun h=>Mw h;generalize ab (bS p)=D at *;unfold aT at *;go_in;go_upto_region 1 with fail;generalize l:cj _ _=W0;have K:=hI (jG l)
 have C:=hI (jA l)
 clear l;obtain⟨x0,P,n,o,r,t⟩:=dB (C.o);refine Qw fun lb=>?_;by_cases H:bX p
 ·have b:=jT H;rw[b]at A;have T:=hI (L.o H);have U:=hI H;clear b H L;go_wp2_with fail;refine(A.o W0 K.o).mono ?_;rintro e W1 ⟨rfl,hb⟩;have V:=hI hb;clear hb x0 P n o r t lb A;go_wp2_with fail;go_loopg [3] p.R.length (fun u i wr=> ∃(k:av),k<=p.R.length/\u=p.R.length-k/\i= jV k/\jb W0 wr/\(∀j (hj:j<p.R.length),j<k->mO p p.R[j]))
  ·exact⟨0,ed,ed,rfl,V.o,fun j _ hj=>cv hj (Pm _)⟩
  obtain⟨k,a1,rfl,rfl,hb,ho⟩:=hrel;have E:=jm hb C.o;refine Qa fun HB a2=>?_;have F:=jh K hb;obtain⟨x0,P,n,o,r,t⟩:=dB (E);refine Qw fun lb=>?_;clear hb ho E;by_cases G9:k<p.R.length
  ·have hd:=bL G9;obtain⟨g,off,b1,rfl,X,a,Y⟩:=(Q.o wr F.o).at_ k G9;obtain⟨M,N,O,rfl,J⟩:=Y;have Z:=a 0 ee;have x1:=a 1 ee;have x2:=a 2 ee;have x3:=a 3 ee;have x4:=a 4 ee;have x5:=a 5 ee;have x6:=a 6 ee;simp only[Pk,Nu,Dl]at Z x1 x2 x3 x4 x5 x6;have a6:=Mt Z;have H0:=hI J;clear X a J;refine Qb fun _ _=>?_;go_upto_region 6 with fail
   go_still_tail 6,ef
   refine Xc fun a3 G v x=>?_;have A7:=hI (T.o k G9 M N O a3 (jo K x.o) (H0.o.below v));clear G v x0 P n o r t lb Z x1 x2 x3 x4 x5 x6 a6 HB F;by_cases z:mO p p.R[k]
   ·rw[Ni z]at A7
    have H1:bG (∀j (hj:j<p.R.length),j<k+1->mO p p.R[j]):=fun j h1 h2=>by
     by_cases a0:j=k
     ·subst a0;exact z
     exact a2.o j h1 ed
    clear z;go_wp2_with fail;refine A7.o.mono ?_;rintro e W2 ⟨rfl,c⟩;have y:=jh x c;clear c A7;go_wp2_with fail;go_roundg (p.R.length-(k+1))
    ·go_light;exact⟨k+1,ed,ed,ej,y.o,H1.o⟩
    go_light;omega
   rw[Mw z]at A7;have HE:=hI (B.o fun h=>z ((f.o.1 h).2 k G9));clear z;go_wp2_with fail;refine A7.o.mono ?_;rintro e W2 ⟨rfl,c⟩;have y:=jh x c;clear c A7;refine ei ?_;exact⟨ew,jo K y.o⟩
  obtain rfl:k=p.R.length:=ed;have hd:=bZ G9;have HE:=hI (a5.o.2 (f.o.2 ⟨U.o,fun j hj=>a2.o j hj hj⟩));refine ei ?_;exact⟨ew,F.o⟩
 have b:=jU H;rw[b]at A;have HE:=hI (B.o fun h=>H (f.o.1 h).1);clear b H L;go_wp2_with fail;refine(A.o W0 K.o).mono ?_;rintro e W1 ⟨rfl,hb⟩;have F:=jh K hb;clear hb;refine ei ?_;exact⟨ew,F.o⟩
def QQ {α:Type} [DecidableEq α]: ∀ {P L:aq α},P.Nodup->(∀a∈P,a∈L)->P.length<=L.length
 | [],L,_,_=>Pe _
 | a::P,L,hn,hs=>by
  have H:=hs a Dq;have c:=aq.nodup_cons.1 hn;have i:=QQ (P:=P) (L:=L.erase a) c.2 (fun b d=>(aq.mem_erase_of_ne (by intro e;subst e;exact c.1 d)).2 (hs b (Dy _ d)));rw[aq.length_erase_of_mem H]at i;have:=aq.length_pos_of_mem H;rw[Du];omega
def z54 {p:Pl}(d:bX p){s:aF}(o:s∈p.S) (h:s.pt≠0):dX Pt.id p.P s.pt=bl:=by
 have b:=d.2.1.1
 have q:(p.P.map Pt.id).Nodup:=by
  unfold aq.Nodup;rw[aq.pairwise_map,aq.pairwise_iff_getElem];intro i j c hj f;have:=wP b.1.1 hj f;omega
 by_cases n:dX Pt.id p.P s.pt=bl
 ·exact n
 have g: ∀x∈p.P,x.id≠s.pt:=fun x hx e=>n (by unfold dX;rw[Tg];exact⟨x,hx,Ni e⟩);have H:=b.2.1;unfold fZ at H;rw[Ph]at H
 have hl:=QQ (P:=s.pt::p.P.map Pt.id) (L:=(p.S.filter fun s=>ab (s.pt≠0)).map aF.pt)
  (aq.nodup_cons.2 ⟨fun r=>by obtain⟨x,hx,e⟩:=aq.mem_map.1 r;exact g x hx e,q⟩)
  (fun a k=>by
   rcases Dv.1 k with rfl | k
   ·exact aq.mem_map.2 ⟨s,aq.mem_filter.2 ⟨o,Ni h⟩,rfl⟩
   obtain⟨x,hx,rfl⟩:=aq.mem_map.1 k;obtain⟨i,c,rfl⟩:=No hx;obtain⟨t,l,_,e⟩:=b.2.2 i c;have:=(b.1.1 i c c).1
   exact aq.mem_map.2 ⟨t,aq.mem_filter.2 ⟨l,Ni ed⟩,e⟩)
 rw[Du,Pn,Pn,H]at hl;omega
def z55 {p:Pl}{r:Rt}{i:av}(h:(bO p r i).pt≠0):bO p r i∈p.S:=by
 unfold bO dW at *;cases hf:p.S.find? (fun x=>ab (x.id=(aI r).getD i 0))with
 | none=>rw[hf]at h;exact cv rfl h
 | some x=>exact Sx hf
def QP {p:Pl}(H:bX p) (r:Rt) (ins outs:aq ar): ∀i,∀a∈lP p r ins outs i,dX Pt.id p.P a.pt=bl
 | 0,a,h=>by simp[lP]at h
 | i+1,a,h=>by
  rw[lP]at h;rcases Tx.1 h with h | h
  ·exact QP H r ins outs i a h
  unfold rA at h;by_cases hz:(bO p r i).pt=0
  ·rw[Np hz]at h;simp at h
  rw[Nm hz]at h;by_cases hq:0<(if 0<=outs.getD i 0 then gS (bO p r i) (ins.getD i 0) (outs.getD i 0)else ins.getD i 0)
  ·rw[Np hq,Tv]at h;rw[h];exact z54 H (z55 hz) hz
  rw[Nm hq]at h;simp at h
def z56 {p:Pl}(b:bS p)(d:k<p.R.length) (l:Lk): ∀a∈mG (cP p p.R[k]) l,dX Pt.id p.P a.pt=bl:=by
 intro a c;obtain⟨x,hx⟩:=BG b d;have H:=((uL p).1 b).1;rw[IZ H d hx]at c;unfold pZ at c;split at c
 ·simp at c
 have h1:=(aq.mem_filter.1 c).1;unfold mH at h1;rcases Tx.1 h1 with h1 | h1
 ·exact QP H _ _ _ _ a h1
 obtain⟨f,g,rfl⟩:=aq.mem_map.1 h1;obtain⟨i,e,rfl⟩:=No g;exact((qD H d).2.2 i e e).1
def z57 {p:Pl}(o:jR p st){n:ar}(h:dX Pt.id p.P n=bl): ∃i,∃d:i<st.sws.length,dA (fun x=>ab (x.id=n)) p.P=(i:ar)/\st.sws[i].call=iJ st.sws n:=by
 have g:=o.2.1;rcases kF (fun x=>ab (x.id=n)) p.P with⟨_,h2⟩ | ⟨k,l,e,h1,h2⟩
 ·unfold dX at h;rw[Tg]at h;obtain⟨x,hx,e⟩:=h;obtain⟨i,d,rfl⟩:=No hx;have:=h2 i d;rw[this]at e;cases e
 have H:k<st.sws.length:=by rw[g.1];exact l
 have a:=fun j hj b=>(g.2 j hj b hj).1;refine⟨k,H,e,?_⟩;unfold iJ
 rw[(tF (f:=Sw.id) (z:=⟨0,0,0⟩) (n:=n) H (by rw[a k H l];exact h1) fun j hj c=>by
  rw[a j hj ed]
  exact h2 j ed c).1]
def aM.other {f:av->ar}(h:aM W g n T f){a:bR}(A6:g≠a.block):aM (W.setCell a u) g n T f:=by
 exact Rv
def aC.other {f:av->aU}(h:aC W g n T f){a:bR}(A6:g≠a.block):aC (W.setCell a u) g n T f:=by
 exact Rv
def GG: ∀(l m:aq ar) (H:av->aU),iF (l++m) H=(iF l H).bind (iF m)
 | [],m,H=>rfl
 | s::r,m,H=>by
  rw[Nz,iF,iF];by_cases h:H s.toNat=bl
  ·rw[Np h,Np h];rfl
  rw[Nm h,Nm h];exact GG r m _
def QO {l:aq ar}{m:av}(a:m<l.length){H:av->aU}(h:iF (l.take m) H=bt G):(G l[m].toNat=bl->iF l H=bn)/\(G l[m].toNat=aW->iF (l.take (m+1)) H=bt (yP G l[m].toNat)):=by
 constructor
 ·intro T4;have e:=GG (l.take m) (l.drop m) H;rw[Hi,h]at e;rw[e];show iF (l.drop m) G=bn;rw[Pz a,iF,Np T4]
 intro T4;rw[Dc a,GG,h];show iF [l[m]] G=_;rw[iF,Nm Vm,iF]
def GF (call:ar->ar): ∀(l m:aq dV) (A:av->ar),iE call (l++m) A=(iE call l A).bind (iE call m)
 | [],m,A=>rfl
 | a::r,m,A=>by
  rw[Nz,iE,iE];by_cases h:(A a.pt.toNat≠0/\A a.pt.toNat≠a.lie)\/call a.pt≠a.lie
  ·rw[Np h,Np h];rfl
  rw[Nm h,Nm h];exact GF call r m _
def QN {call:ar->ar}{l:aq dV}{m:av}(a:m<l.length){A G:av->ar}(h:iE call (l.take m) A=bt G):(((G l[m].pt.toNat≠0/\G l[m].pt.toNat≠l[m].lie)\/call l[m].pt≠l[m].lie)->iE call l A=bn)/\(¬((G l[m].pt.toNat≠0/\G l[m].pt.toNat≠l[m].lie)\/call l[m].pt≠l[m].lie)->iE call (l.take (m+1)) A=bt (QX G l[m].pt.toNat l[m].lie)):=by
 constructor
 ·intro H;have e:=GF call (l.take m) (l.drop m) A;rw[Hi,h]at e;rw[e];show iE call (l.drop m) G=bn;rw[Pz a,iE,Np H]
 intro H;rw[Dc a,GF,h];show iE call [l[m]] G=_;rw[iE,Nm H,iE]
def FY {p:Pl}(h:gQ p st k=bn): ∀n,k<=n->gQ p st n=bn
 | 0,hn=>by
  obtain rfl:k=0:=ed
  exact h
 | n+1,hn=>by
  rcases Pw n k with h' | h'
  ·obtain rfl:k=n+1:=ed;exact h
  rw[gQ,FY h n h'];rfl
def z58 {p:Pl}{x:(av->aU) × (av->ar)}(h:gQ p st k=bt x) (H:k<st.lks.length) (a:iF (lC (cP p (p.R.getD k nE)) (st.lks.getD k nF)) x.1=bn):gQ p st st.lks=bn:=by
 refine FY (k:=k+1) ?_ _ H;rw[gQ,h];show qV p st k x=bn;unfold qV;rw[a];rfl
def z59 {p:Pl}{x:(av->aU) × (av->ar)}(h:gQ p st k=bt x) (H:k<st.lks.length) (a:iF (lC (cP p (p.R.getD k nE)) (st.lks.getD k nF)) x.1=bt G) (b:iE (iJ st.sws) (mG (cP p (p.R.getD k nE)) (st.lks.getD k nF)) x.2=bn):gQ p st st.lks=bn:=by
 refine FY (k:=k+1) ?_ _ H;rw[gQ,h];show qV p st k x=bn;unfold qV;rw[a];show(iE _ _ _).map _=bn;rw[b];rfl
def z6a {p:Pl}{x:(av->aU) × (av->ar)}{A:av->ar}(h:gQ p st k=bt x) (H:iF (lC (cP p (p.R.getD k nE)) (st.lks.getD k nF)) x.1=bt G) (a:iE (iJ st.sws) (mG (cP p (p.R.getD k nE)) (st.lks.getD k nF)) x.2=bt A):gQ p st (k+1)=bt (G,A):=by
 rw[gQ,h];show qV p st k x=_;unfold qV;rw[H];show(iE _ _ _).map _=_;rw[a];rfl
def mC (p:Pl) (st:St):Prop:=bS p/\yO p st
instance (p:Pl) (st:St):cG (mC p st):=by unfold mC;exact cx
def QM {p:Pl}(h:gQ p st st.lks=bn):ab (mC p st)=aW:=Mw fun h2=>by
 have:=h2.2.2;rw[h]at this;cases this
def z6b {p:Pl}(h1:bS p) (h2:jR p st){x:(av->aU) × (av->ar)}(h:gQ p st st.lks=bt x):ab (mC p st)=bl:=Ni ⟨h1,h2,by rw[h];rfl⟩
theorem z6c (p:Pl) (st:St) (s q gg b7 t sw lk:bw) (w:aj) (b6:bN w s q gg b7 p) (f1:p.Fit) (f3:fU w t sw lk st) (b8:st.fit):
  Calls prog 133 #[aT p s q gg b7,pV t sw lk] w (bY w (ab (mC p st))):=by
 have H3:=hI fun W c=>yN p s q gg b7 W (b6.below c) f1;have b9:=hI fun W c=>z5p p st s q gg b7 t sw lk W (b6.below c) f1 (f3.below c) b8;have j6:=hI fun W n c=>z3r p s q gg b7 n W (b6.below c) f1;obtain⟨a3,Z⟩: ∃a3:av->aq ar,a3=fun k=>lC (cP p (p.R.getD k nE)) (st.lks.getD k nF):=⟨_,rfl⟩;obtain⟨a4,a5⟩: ∃a4:av->aq dV,a4=fun k=>mG (cP p (p.R.getD k nE)) (st.lks.getD k nF):=⟨_,rfl⟩
 have j3:bG (bS p->jR p st-> ∀k (hk:k<st.lks.length) W,jb w W->Calls prog 221 #[aT p s q gg b7,cZ #[st.lks[k].id,cW .u8 st.lks[k].ph,st.lks[k].gone,st.lks[k].left],k] W (LY W (a3 k))):=fun b y k hk W c=>by
  have hle:=Fj y.2.2.1;have z:=((uL p).1 b).1;obtain⟨x,hx⟩:=BG b (Nl hk hle);have:=z5i p s q gg b7 k (Nl hk hle) st.lks[k] W (b6.below c) f1 z x hx;rw[<-TN p]at this;rw[Z]
  simpa [Na,hk,Nl hk hle]using this
 have c0:bG (bS p->jR p st-> ∀k (hk:k<st.lks.length) W,jb w W->Calls prog 222 #[aT p s q gg b7,cZ #[st.lks[k].id,cW .u8 st.lks[k].ph,st.lks[k].gone,st.lks[k].left],k] W (RC W (a4 k))):=fun b y k hk W c=>by
  have hle:=Fj y.2.2.1;have z:=((uL p).1 b).1;obtain⟨x,hx⟩:=BG b (Nl hk hle);have:=z5n p s q gg b7 k (Nl hk hle) st.lks[k] W (b6.below c) f1 z x hx;rw[<-IZ z (Nl hk hle) hx]at this;rw[a5]
  simpa [Na,hk,Nl hk hle]using this
 have c1:bG (bS p->jR p st-> ∀k,k<st.lks.length->(a3 k).length<=1000/\ ∀s∈a3 k,0<=s/\s<=99):=fun b y k hk=>by
  have hle:=Fj y.2.2.1;have z:=((uL p).1 b).1;have h1:=z5y z (Nl hk hle) st.lks[k];have h2:=z5x b (Nl hk hle) st.lks[k];rw[Z]
  simpa [Na,hk,Nl hk hle]using And.intro h1 h2
 have c2:bG (bS p->jR p st-> ∀k,k<st.lks.length->(a4 k).length<=1000/\ ∀a∈a4 k,(1<=a.pt/\a.pt<=99)/\ ∃i,∃j7:i<st.sws.length,dA (fun x=>ab (x.id=a.pt)) p.P=(i:ar)/\st.sws[i].call=iJ st.sws a.pt):=fun b y k hk=>by
  have hle:=Fj y.2.2.1;have a0:=Nl hk hle;have z:=((uL p).1 b).1;obtain⟨x,hx⟩:=BG b a0;have h1:=z5z (JD z a0 x) st.lks[k];rw[<-IZ z a0 hx]at h1;have e:a4 k=mG (cP p p.R[k]) st.lks[k]:=by rw[a5];simp[Na,hk,a0]
  rw[e];exact⟨h1,fun a m0=>⟨QS b a0 _ a m0,z57 y (z56 b a0 _ a m0)⟩⟩
 have e3:bG (∀k x,gQ p st k=bt x->k<st.lks.length->iF (a3 k) x.1=bn->ab (mC p st)=aW):=fun k x h1 h2 h3=>QM (z58 h1 h2 (by rw[Z]at h3;exact h3));have e4:bG (∀k x G,gQ p st k=bt x->k<st.lks.length->iF (a3 k) x.1=bt G->iE (iJ st.sws) (a4 k) x.2=bn->ab (mC p st)=aW):=fun k x G h1 h2 h3 h4=>QM (z59 h1 h2 (by rw[Z]at h3;exact h3) (by rw[a5]at h4;exact h4));have e5:bG (∀k x G A,gQ p st k=bt x->iF (a3 k) x.1=bt G->iE (iJ st.sws) (a4 k) x.2=bt A->gQ p st (k+1)=bt (G,A)):=fun k x G A h1 h3 h4=>z6a h1 (by rw[Z]at h3;exact h3) (by rw[a5]at h4;exact h4);have c3:bG (bS p->jR p st-> ∀x,gQ p st st.lks.length=bt x->ab (mC p st)=bl):=fun h1 h2 x h3=>z6b h1 h2 h3;have e6:bG (gQ p st 0=bt (fun _=>aW,fun _=>0)):=rfl;have c4:bG (¬bS p->ab (mC p st)=aW):=fun h=>Mw fun h2=>h h2.1;have c5:bG (¬jR p st->ab (mC p st)=aW):=fun h=>Mw fun h2=>h h2.2.1;clear Z a5;generalize ab (mC p st)=B at *;generalize iJ st.sws=j4 at *;generalize gQ p st=m1 at *;obtain⟨o8,k1,rfl,-⟩:=b6.S;obtain⟨o9,k2,rfl,-⟩:=b6.P;obtain⟨p2,k3,rfl,-⟩:=b6.G;obtain⟨p3,p4,rfl,-⟩:=b6.R;obtain⟨p5,d1,rfl,-⟩:=f3.tks;obtain⟨b2,d2,rfl,g6⟩:=f3.sws;obtain⟨b3,d3,rfl,g7⟩:=f3.lks;have j8:bG (∀W,jb w W->aB W 3 mR b2 d2 st.sws):=fun W c=>g6.below qG c;have f4:bG (∀W,jb w W->aB W 4 mS b3 d3 st.lks):=fun W c=>g7.below qF c;have LL:=b8.2.2;have p6:=b8.2.1;clear b6 f1 f3 b8 g6 g7;unfold aT pV at *;go_in;go_upto_region 1 with fail;generalize c6:cj _ _=W0;have R:=hI (eN c6)
 have H0:=hI (jB c6)
 have H1:=hI (jC c6)
 clear c6;have m2:bG (jb W0 W0):=Nb _ _;have j:=jm m2.o H0.o;have f:=jm m2.o H1.o;obtain⟨pp0,pp1,I9,Y7,pp4,Z6⟩:=dB (j);obtain⟨T,ss1,y0⟩:=fO (f);have lb:=Mt pp0;have a1:=Mt y0;clear j f;by_cases b:bS p
 ·rw[Ni b]at H3;by_cases y:jR p st
  ·rw[Ni y]at b9;have j9:=hI (j3.o b y);have f5:=hI (c0.o b y);have f6:=hI (c1.o b y);have f7:=hI (c2.o b y);have f8:=hI (c3.o b y);clear b y j3 c0 c1 c2 c3 c4 c5;go_wp2_with fail;refine(H3.o W0 R.o).mono ?_;rintro e W2 ⟨rfl,c⟩;have F:=hI c;have K:=jh R c;clear c pp0 pp1 I9 Y7 pp4 Z6 T ss1 y0 lb a1;have j:=jm F.o H0.o;have f:=jm F.o H1.o;obtain⟨pp0,pp1,I9,Y7,pp4,Z6⟩:=dB (j);obtain⟨T,ss1,y0⟩:=fO (f);have lb:=Mt pp0;have a1:=Mt y0;clear j f;go_wp2_with fail;refine(b9.o W2 K.o).mono ?_;rintro e v ⟨rfl,c⟩;have H2:=jh F c;clear c pp0 pp1 I9 Y7 pp4 Z6 T ss1 y0 lb a1 F K;go_wp2_with fail;have hb:aC ((v.alloc (cO zeroCells279 279)).alloc (cO zeroCells168 168)) v.heap.size 100 279 (fun _=>aW):=(aC.new v _ _ (by rw[wQ];simp) DE).below aR
   have ho:aM ((v.alloc (cO zeroCells279 279)).alloc (cO zeroCells168 168)) (v.heap.size+1) 100 168 (fun _=>0):=by
    have:=aM.new (v.alloc (cO zeroCells279 279)) zeroCells168 168 (n:=100) (by rw[zX];simp) JQ;rw[show(v.alloc (cO zeroCells279 279)).heap.size=v.heap.size+1 by simp]at this;exact this
   have f9:=hI hb;have g0:=hI ho;clear hb ho;have L0:=hI H2.o.size;go_wp2_with fail;go_loopg [7] st.lks.length (fun g i wr=> ∃(k:av) (H:av->aU) (A:av->ar),k<=st.lks.length/\g=st.lks.length-k/\i=cW dr k/\jb W0 wr/\aC wr v.heap.size 100 279 H/\aM wr (v.heap.size+1) 100 168 A/\m1 k=bt (H,A))
   ·exact⟨0,_,_,by omega,by omega,rfl,(H2.o.alloc H2.o.size _).alloc (by have:=H2.o.size;simp;omega) _,f9.o,g0.o,e6.o⟩
   obtain⟨k,H,A,hk,rfl,rfl,c,I,J,g1⟩:=hrel;have m3:=hI c;have d4:=hI I;have d5:=hI J;have H4:=hI g1;have HB:=jh R c;have j:=jm c H0.o;have f:=jm c H1.o;obtain⟨pp0,pp1,I9,Y7,pp4,Z6⟩:=dB (j);have ss1:=ji 1 f;have y0:=ji 2 f;have lb:=Mt pp0;have a1:=Mt y0;clear j f;clear c I J g1 f9 g0;by_cases G9:k<st.lks.length
   ·have hd:=bL G9;obtain⟨d6,d7,n0,n1,k0,a6,k4⟩:=(f4.o wr HB.o).at_ k G9;obtain rfl:n0=[cW dr st.lks[k].id,cW .u8 st.lks[k].ph,cW dr st.lks[k].gone,cW dr st.lks[k].left]:=k4;subst n1;have y1:jc wr d6 (d7+k * 4) st.lks[k].id:=a6 0 (by simp);have k5:jc wr d6 (d7+k * 4+1) (cW .u8 st.lks[k].ph):=a6 1 (by simp);have y2:jc wr d6 (d7+k * 4+2) st.lks[k].gone:=a6 2 (by simp);have y3:jc wr d6 (d7+k * 4+3) st.lks[k].left:=a6 3 (by simp);have k6:=Mt y1;clear a6 k0;have p7:=aQ k;have p8:=aN G9;go_upto_region 8 with fail
    go_still_tail 7,(by kernel_rfl)
    change wpList _ _ _ _ _ wr.drew;generalize g2:wr.drew=k7;have a7:jb wr k7:=(by rw[<-g2];exact(Nb _ _).drew);have g3:=jh HB a7;have d8:=jh m3 a7;have d9:=hI (d4.o.below a7);have H5:=hI (d5.o.below a7);have A7:=hI (j9.o k G9 k7 g3.o);obtain⟨n2,a2⟩:=f6.o k G9;have g4:=hI a2;have g5:=hI (e3.o k _ H4.o G9);have g8:bG (∀G,iF (a3 k) H=bt G->iE j4 (a4 k) A=bn->B=aW):=fun G h1 h2=>e4.o k _ G H4.o G9 h1 h2;have g9:bG (∀G f2,iF (a3 k) H=bt G->iE j4 (a4 k) A=bt f2->m1 (k+1)=bt (G,f2)):=fun G f2 h1 h2=>e5.o k _ G f2 H4.o h1 h2;have i0:=hI (f5.o k G9);obtain⟨n3,i1⟩:=f7.o k G9;have k8:=hI i1;clear g2 a7 a2 i1 pp0 pp1 I9 Y7 pp4 Z6 ss1 y0 lb a1 y1 k5 y2 y3 k6 H4 m3 HB d4 d5;generalize a3 k=L at *;generalize a4 k=LQ at *;go_wp2_with fail;refine A7.o.mono ?_;rintro e p9 ⟨n4,n5,rfl,a8,D⟩;have i2:=hI a8;have H6:=jh d8 D;have M:=hI (d9.o.below D);have N:=hI (H5.o.below D);have L2:=hI H5.o.lt;clear a8 D A7 g3 d8 d9 H5;go_wp2_with fail;go_loopg [9] L.length (fun g i c7=> ∃(m:av) (G:av->aU),m<=L.length/\g=L.length-m/\i=cW dr m/\jb W0 c7/\aC c7 v.heap.size 100 279 G/\aM c7 (v.heap.size+1) 100 168 A/\aA c7 k7.heap.size (js n4 L.length n5) L/\iF (L.take m) H=bt G)
    ·exact⟨0,H,by omega,by omega,rfl,H6.o,M.o,N.o,i2.o,rfl⟩
    obtain⟨m,G,n6,rfl,rfl,c,I,J,a8,i3⟩:=hrel;obtain⟨W1,rfl⟩: ∃W1:aj,W1=wr:=⟨_,rfl⟩;have E:=hI c;have l:=hI I;have u:=hI J;have U:=hI a8;have O:=hI i3;have Y:=jh R c;clear c I J a8 i3 M N i2 H6;by_cases o:m<L.length
    ·have e7:=bL o;obtain⟨g,off,rfl,x0⟩:=(aA.il U.o).cell m o;have m4:=Mt x0;have m5:=l.o.lt;have a2:=g4.o L[m] (Nn o);have p0:=a2.1;have p1:L[m]<100:=(by omega);have n7:=aQ m;have n8:=aN o;have v2:=l.o.cell (q:=L[m].toNat) (by omega);have v3:=l.o.frozen L[m].toNat;cases hmet:G L[m].toNat with
     | true=>
      rw[hmet]at v2;have HE:=hI (g5.o ((QO o O.o).1 hmet));clear hmet a2;go_wp2_with fail;go_ret;exact⟨by rw[HE.o];rfl,Y.o⟩
     | false=>
      rw[hmet]at v2;have V:=hI ((QO o O.o).2 hmet);have i4:bG (∀W',aC W' v.heap.size 100 279 G->aC (W'.setCell ⟨v.heap.size,L[m].toNat,bn⟩ (db bl)) v.heap.size 100 279 (yP G L[m].toNat)):=fun W' h=>h.set (q:=L[m].toNat) (by omega) bl;clear hmet a2;go_wp2_with fail;go_roundg (L.length-(m+1))
      ·go_light;exact⟨m+1,_,by omega,by omega,by go_num,E.o.setCell L0.o _,i4.o _ l.o,u.o.other (by simp),aV U.o (a:=⟨v.heap.size,_,bn⟩) (av.lt_of_succ_lt L2.o) _,V.o⟩
      go_light;omega
    have e7:=bZ o
    have m6:bG (iF L H=bt G):=by
     have:=O.o;rw[Sk (by omega)]at this;exact this
    have j:=jm E.o H0.o;have f:=jm E.o H1.o;obtain⟨pp0,pp1,I9,Y7,pp4,Z6⟩:=dB (j);have ss1:=ji 1 f;have y0:=ji 2 f;have lb:=Mt pp0;have a1:=Mt y0;clear j f;obtain⟨n9,o0,v0,k9,i5,P,i6⟩:=(f4.o W1 Y.o).at_ k G9;obtain rfl:v0=[cW dr st.lks[k].id,cW .u8 st.lks[k].ph,cW dr st.lks[k].gone,cW dr st.lks[k].left]:=i6;cases k9;have y1:jc W1 d6 (d7+k * 4) st.lks[k].id:=P 0 (by simp);have k5:jc W1 d6 (d7+k * 4+1) (cW .u8 st.lks[k].ph):=P 1 (by simp);have y2:jc W1 d6 (d7+k * 4+2) st.lks[k].gone:=P 2 (by simp);have y3:jc W1 d6 (d7+k * 4+3) st.lks[k].left:=P 3 (by simp);have k6:=Mt y1;clear P i5;go_upto_region 15 with fail
    go_still_tail 7,(by kernel_rfl)
    change wpList _ _ _ _ _ W1.drew;generalize i7:W1.drew=j5;have a9:jb W1 j5:=(by rw[<-i7];exact(Nb _ _).drew);have i8:=jh Y a9;have e0:=jh E a9;have e1:=hI (l.o.below a9);have H7:=hI (u.o.below a9);have A7:=hI (i0.o j5 i8.o);have l0:=hI (g8.o G m6.o);have l1:=hI (fun f2=>g9.o G f2 m6.o);clear i7 a9 pp0 pp1 I9 Y7 pp4 Z6 ss1 y0 lb a1 y1 k5 y2 y3 k6 E Y l u U O g5 g8 g9 i0 g4;go_wp2_with fail;refine A7.o.mono ?_;rintro e q0 ⟨m7,l2,rfl,a8,D⟩;have i2:=hI a8;have H6:=jh e0 D;have M:=hI (e1.o.below D);have N:=hI (H7.o.below D);have L1:=hI H7.o.lt;clear a8 D A7 i8 e0 e1 H7;go_wp2_with fail;go_loopg [11] LQ.length (fun g i c7=> ∃(m:av) (C:av->ar),m<=LQ.length/\g=LQ.length-m/\i=cW dr m/\jb W0 c7/\aC c7 v.heap.size 100 279 G/\aM c7 (v.heap.size+1) 100 168 C/\aG c7 j5.heap.size (js m7 LQ.length l2) LQ/\iE j4 (LQ.take m) A=bt C)
    ·exact⟨0,A,by omega,by omega,rfl,H6.o,M.o,N.o,i2.o,rfl⟩
    obtain⟨m,C,n6,rfl,rfl,c,I,J,a8,i3⟩:=hrel;obtain⟨W1,rfl⟩: ∃W1:aj,W1=wr:=⟨_,rfl⟩;have E:=hI c;have l:=hI I;have u:=hI J;have U:=hI a8;have O:=hI i3;clear c I J a8 i3 M N i2 H6;by_cases o:m<LQ.length
    ·have e7:=bL o
     have m8:aB W1 3 qH m7 l2 LQ:=by
      obtain⟨q1,q2,o1,h'⟩:=aG.sl U.o;cases o1;exact h'
     obtain⟨g,off,o2,rfl,l3,c8,l4⟩:=m8.at_ m o;obtain rfl:o2=[cW dr LQ[m].pt,cW dr LQ[m].lie,cW dr LQ[m].pl]:=l4;have x0:jc W1 g (off+m * 3) LQ[m].pt:=c8 0 (by simp);have x1:jc W1 g (off+m * 3+1) LQ[m].lie:=c8 1 (by simp);have x2:jc W1 g (off+m * 3+2) LQ[m].pl:=c8 2 (by simp);clear l3 c8 m8;have m4:=Mt x0;have n7:=aQ m;have n8:=aN o;obtain⟨⟨q3,q4⟩,i,j7,i9,j0⟩:=k8.o LQ[m] (Nn o);have p0:(0:ar)<=LQ[m].pt:=(by omega);have p1:LQ[m].pt<100:=(by omega);have q5:=aQ i;have q6:=aN j7;have l5:=hI i9;have l6:=hI j0;clear i9 j0;go_upto_region 20 with fail;generalize e8:cj _ _=e2;have b0:=jG e8;have H8:=jh E b0;have H9:=jh R H8.o;have hz:=jA e8;have HR1X:=hI (l.o.below b0);have HR2X:=hI (u.o.below b0);have HOX:bG (aG e2 j5.heap.size (jq g off LQ.length l2) LQ):=bU U.o b0;have z0:=ji 0 hz;have z1:=ji 1 hz;have j:=jm H8.o H0.o;have f:=jm H8.o H1.o;obtain⟨pp0,pp1,I9,Y7,pp4,Z6⟩:=dB (j);have ss1:=ji 1 f;have y0:=ji 2 f;have lb:=Mt pp0;have a1:=Mt y0;clear j f;obtain⟨o3,os,o4,l7,l8,j1,l9⟩:=(j8.o e2 H9.o).at_ i j7;obtain rfl:o4=[cW dr st.sws[i].id,cW dr st.sws[i].lie,cW dr st.sws[i].call]:=l9;subst l7;have w2:jc e2 o3 (os+i * 3+2) st.sws[i].call:=j1 2 (by simp);have t2:=HR2X.o.cell (q:=LQ[m].pt.toNat) (by omega);clear l8 j1 hz x0 x1 x2 m4 e8 b0 E l u U;have m9:=fun d os=>H9.o.trans ((Nr e2 d os).mono H9.o.size)
     have cH:=hI fun d os=>by
      have:=Ps (j6.o _ LQ[m].pt (m9 d os));rw[l5.o]at this;exact this
     have Z0:=Ng z0;have Z1:=Ng z1;have P0:=Ng pp0;have P1:=Ng pp1;have P2:=Ng I9;have P3:=Ng Y7;have P4:=Ng pp4;have P5:=Ng Z6;have S1:=Ng ss1;have X2:=Ng w2;have T2:=Ng t2;clear m9 z0 z1 pp0 pp1 I9 Y7 pp4 Z6 ss1 y0 w2 t2 lb a1;have b1:=hI fun h=>l0.o ((QN o O.o).1 h);have b4:=hI ((QN o O.o).2);have c9:=hI l6.o.symm;have X:=hI fun d os=>H8.o.trans ((Nr e2 d os).mono H8.o.size);have d0:=hI fun d os=>Nr e2 d os;have hpt:LQ[m].pt.toNat<100:=(by omega);by_cases h1:C LQ[m].pt.toNat=0
     ·obtain⟨t3,t4⟩:=jy h1;by_cases h3:st.sws[i].call=LQ[m].lie
      ·obtain⟨t0,t1⟩:=jy h3;have V:=hI (b4.o (by rw[c9.o];rintro(⟨k1,k2⟩ | k3);exact k1 h1;exact k3 h3))
       try clear h3
       try clear h2
       try clear h1
       refine Mz (by kernel_rfl) (by kernel_rfl) ?_
       repeat (go_big_quiet_step (first | (with_reducible exact cH.o _ _)))
       refine cl ?_;rintro _ ⟨⟨Q,osq⟩,rfl⟩;have z0:=Z0 Q osq;have z1:=Z1 Q osq;have hY:=d0.o Q osq;have e9:=hI (X.o Q osq);clear Z0 Z1 P0 P1 P2 P3 P4 P5 S1 X2 T2 cH X d0;generalize grow (cF e2 Q) osq=o5 at *;have b5:=hI (HR1X.o.below hY);have r:=hI (HR2X.o.below hY);have f0:=hI (bU HOX.o hY);have o6:=Mt z0;have v2:=r.o.cell (q:=LQ[m].pt.toNat) hpt;have v3:=r.o.frozen LQ[m].pt.toNat;have m5:=r.o.lt;clear hY;go_wp2_with fail;go_roundg (LQ.length-(m+1))
       ·go_light;exact⟨m+1,_,by omega,by omega,by go_num,e9.o.setCell (Fw L0.o) _,b5.o.other (by simp),r.o.set (q:=LQ[m].pt.toNat) hpt _,aV f0.o (a:=⟨v.heap.size+1,_,bn⟩) L1.o _,V.o⟩
       go_light;omega
      obtain⟨t0,t1⟩:=jn h3;have HE:=hI (b1.o (.inr (by rw[c9.o];exact h3)))
      try clear h3
      try clear h2
      try clear h1
      refine Mz (by kernel_rfl) (by kernel_rfl) ?_
      repeat (go_big_quiet_step (first | (with_reducible exact cH.o _ _)))
      refine cl ?_;rintro _ ⟨⟨Q,osq⟩,rfl⟩;go_wp2_with fail;go_ret;exact⟨by rw[HE.o];rfl,R.o.trans ((X.o Q osq).mono R.o.size)⟩
     obtain⟨t3,t4⟩:=jn h1;by_cases h2:C LQ[m].pt.toNat=LQ[m].lie
     ·obtain⟨t5,t6⟩:=jy h2;by_cases h3:st.sws[i].call=LQ[m].lie
      ·obtain⟨t0,t1⟩:=jy h3;have V:=hI (b4.o (by rw[c9.o];rintro(⟨k1,k2⟩ | k3);exact k2 h2;exact k3 h3))
       try clear h3
       try clear h2
       try clear h1
       refine Mz (by kernel_rfl) (by kernel_rfl) ?_
       repeat (go_big_quiet_step (first | (with_reducible exact cH.o _ _)))
       refine cl ?_;rintro _ ⟨⟨Q,osq⟩,rfl⟩;have z0:=Z0 Q osq;have z1:=Z1 Q osq;have hY:=d0.o Q osq;have e9:=hI (X.o Q osq);clear Z0 Z1 P0 P1 P2 P3 P4 P5 S1 X2 T2 cH X d0;generalize grow (cF e2 Q) osq=o5 at *;have b5:=hI (HR1X.o.below hY);have r:=hI (HR2X.o.below hY);have f0:=hI (bU HOX.o hY);have o6:=Mt z0;have v2:=r.o.cell (q:=LQ[m].pt.toNat) hpt;have v3:=r.o.frozen LQ[m].pt.toNat;have m5:=r.o.lt;clear hY;go_wp2_with fail;go_roundg (LQ.length-(m+1))
       ·go_light;exact⟨m+1,_,by omega,by omega,by go_num,e9.o.setCell (Fw L0.o) _,b5.o.other (by simp),r.o.set (q:=LQ[m].pt.toNat) hpt _,aV f0.o (a:=⟨v.heap.size+1,_,bn⟩) L1.o _,V.o⟩
       go_light;omega
      obtain⟨t0,t1⟩:=jn h3;have HE:=hI (b1.o (.inr (by rw[c9.o];exact h3)))
      try clear h3
      try clear h2
      try clear h1
      refine Mz (by kernel_rfl) (by kernel_rfl) ?_
      repeat (go_big_quiet_step (first | (with_reducible exact cH.o _ _)))
      refine cl ?_;rintro _ ⟨⟨Q,osq⟩,rfl⟩;go_wp2_with fail;go_ret;exact⟨by rw[HE.o];rfl,R.o.trans ((X.o Q osq).mono R.o.size)⟩
     obtain⟨t5,t6⟩:=jn h2;have HE:=hI (b1.o (.inl ⟨h1,h2⟩))
     try clear h3
     try clear h2
     try clear h1
     refine Mz (by kernel_rfl) (by kernel_rfl) ?_
     repeat (go_big_quiet_step (first | (with_reducible exact cH.o _ _)))
     refine cl ?_;rintro _ ⟨⟨Q,osq⟩,rfl⟩;go_wp2_with fail;go_ret;exact⟨by rw[HE.o];rfl,R.o.trans ((X.o Q osq).mono R.o.size)⟩
    have e7:=bZ o
    have V:bG (iE j4 LQ A=bt C):=by
     have:=O.o;rw[Sk (by omega)]at this;exact this
    have o7:=hI (l1.o C V.o);go_wp2_with fail;go_roundg (st.lks.length-(k+1))
    ·go_light;exact⟨k+1,G,C,by omega,by omega,by go_num,E.o,l.o,u.o,o7.o⟩
    go_light;omega
   obtain rfl:k=st.lks.length:=(by omega);have hd:=bZ G9;have j2:=hI (f8.o _ H4.o);go_wp2_with fail;go_ret;exact⟨by rw[j2.o];rfl,HB.o⟩
  rw[Mw y]at b9;have j2:=hI (c5.o y);clear b y j3 c0 c1 c2 c3 c4 c5 e6 e3 e4 e5;go_wp2_with fail;refine(H3.o W0 R.o).mono ?_;rintro e W2 ⟨rfl,c⟩;have F:=hI c;have K:=jh R c;clear c pp0 pp1 I9 Y7 pp4 Z6 T ss1 y0 lb a1;have j:=jm F.o H0.o;have f:=jm F.o H1.o;obtain⟨pp0,pp1,I9,Y7,pp4,Z6⟩:=dB (j);obtain⟨T,ss1,y0⟩:=fO (f);have lb:=Mt pp0;have a1:=Mt y0;clear j f;go_wp2_with fail;refine(b9.o W2 K.o).mono ?_;rintro e v ⟨rfl,c⟩;have H2:=jh K c;clear c pp0 pp1 I9 Y7 pp4 Z6 T ss1 y0 lb a1 F K;go_wp2_with fail;go_ret;exact⟨by rw[j2.o];rfl,H2.o⟩
 rw[Mw b]at H3;have j2:=hI (c4.o b);clear b j3 c0 c1 c2 c3 c4 c5 e6 e3 e4 e5;go_wp2_with fail;refine(H3.o W0 R.o).mono ?_;rintro e W2 ⟨rfl,c⟩;have K:=jh R c;clear c pp0 pp1 I9 Y7 pp4 Z6 T ss1 y0 lb a1;go_wp2_with fail;go_ret;exact⟨by rw[j2.o];rfl,K.o⟩
def z6d (p:Pl) (st:St):mX p st=if bS p then(if mC p st then 0 else 8)else 100:=by
 unfold mX;by_cases h:bS p
 ·rw[Np h,Np h];by_cases h2:nR p st
  ·rw[Np h2,Np (show mC p st from⟨h,(QR h).1 h2⟩)]
  rw[Nm h2,Nm (show¬mC p st from fun h3=>h2 ((QR h).2 h3.2))]
 rw[Nm h,Nm h]
def rG:St:=⟨[],[],[]⟩
def QL:rG.fit:=⟨eh,eh,eh⟩
def QK (W:aj):fU W (jN) (jN) (jN) rG:=⟨Sl.nil _ _ _,Sl.nil _ _ _,Sl.nil _ _ _⟩
def FX (x:Pl) (s q g r:bw) (w:aj) (hx:bN w s q g r x) (d:x.Fit):
  jW 86 #[aT x s q g r] w (bY w (ab (bS x))):=by
 have j:=hI fun W i=>LM x s q g r W (hx.below i) d;have HP:bG (((if bS x then(0:ar)else 100)==0)=ab (bS x)):=hI (by split<;>simp[*]);obtain⟨a1,a2,rfl,-⟩:=hx.S;obtain⟨a3,a4,rfl,-⟩:=hx.P;obtain⟨a5,a6,rfl,-⟩:=hx.G;obtain⟨a7,a8,rfl,-⟩:=hx.R;generalize(if bS x then(0:ar)else 100)=E at *;generalize ab (bS x)=B at *;unfold aT at *;go_in;go_upto_region 1 with fail;generalize b:cj _ _=W0;have K:=hI (jG b)
 have H:=jA b
 have C:=hI (fB.of fun W i=>j W (jo K i));have p0:=Ng ((Mu W0 _ 0 _ _ _ H).trans rfl);have p1:=Ng ((Mu W0 _ 1 _ _ _ H).trans rfl);have p2:=Ng ((Mu W0 _ 2 _ _ _ H).trans rfl);have p3:=Ng ((Mu W0 _ 3 _ _ _ H).trans rfl);have p4:=Ng ((Mu W0 _ 4 _ _ _ H).trans rfl);have p5:=Ng ((Mu W0 _ 5 _ _ _ H).trans rfl);refine rN ?_
 repeat (go_big_quiet_step (with_reducible exact C.o _ _))
 refine ey ?_;rintro _ ⟨⟨D,osq⟩,rfl⟩;refine ei ?_;exact⟨XU,K.trans ((Nr W0 D osq).mono K.size)⟩
def z6e (x:Hs):aU:=(ab ((x.key:ar)<=64)&&(ab (x.pl=bV)&&(ab (x.bk=bV)&&(ab (x.nx=bV)&&((x.high==0)&&(((x.buf:ar)==0)&&ab (x.st=rG)))))))
def QJ (x:Hs):aU:=(ab ((x.key:ar)<=64)&&(ab (0<x.key.length)&&(ab (bS x.pl)&&(ab (x.pl.ver<=x.high)&&(ab (x.high<=2147483647)&&(ab ((x.buf:ar)<=2048)&&((mX x.pl x.st==0)&&((ab (x.bk=bV) || (ab (bS x.bk)&&(x.bk.ver==x.pl.par)))&&(ab (x.nx=bV) || decide (bS x.nx))))))))))
def gD (x:Hs):aU:=bif x.halted then z6e x else QJ x
def QI (b0 b1 b2 b3 b B d:aU):(b0=aW)\/(b0=bl/\b1=aW)\/(b0=bl/\b1=bl/\b2=aW)\/(b0=bl/\b1=bl/\b2=bl/\b3=aW)\/(b0=bl/\b1=bl/\b2=bl/\b3=bl/\b=aW)\/(b0=bl/\b1=bl/\b2=bl/\b3=bl/\b=bl/\B=aW)\/(b0=bl/\b1=bl/\b2=bl/\b3=bl/\b=bl/\B=bl/\d=aW)\/(b0=bl/\b1=bl/\b2=bl/\b3=bl/\b=bl/\B=bl/\d=bl):=by
 cases b0
 ·simp
 cases b1
 ·simp
 cases b2
 ·simp
 cases b3
 ·simp
 cases b
 ·simp
 cases B
 ·simp
 cases d
 ·simp
 simp
def z6f (b0 b1 b2 b3 b B d n1 r E n2 g:aU):b0=aW\/(b0=bl/\b1=aW)\/(b0=bl/\b1=bl/\b2=aW)\/(b0=bl/\b1=bl/\b2=bl/\b3=aW)\/(b0=bl/\b1=bl/\b2=bl/\b3=bl/\b=aW)\/(b0=bl/\b1=bl/\b2=bl/\b3=bl/\b=bl/\B=aW)\/(b0=bl/\b1=bl/\b2=bl/\b3=bl/\b=bl/\B=bl/\d=aW)\/(b0=bl/\b1=bl/\b2=bl/\b3=bl/\b=bl/\B=bl/\d=bl/\n1=aW/\r=aW)\/(b0=bl/\b1=bl/\b2=bl/\b3=bl/\b=bl/\B=bl/\d=bl/\n1=aW/\r=bl/\E=aW)\/(b0=bl/\b1=bl/\b2=bl/\b3=bl/\b=bl/\B=bl/\d=bl/\n1=bl/\n2=bl)\/(b0=bl/\b1=bl/\b2=bl/\b3=bl/\b=bl/\B=bl/\d=bl/\n1=bl/\n2=aW/\g=bl)\/(b0=bl/\b1=bl/\b2=bl/\b3=bl/\b=bl/\B=bl/\d=bl/\n1=bl/\n2=aW/\g=aW)\/(b0=bl/\b1=bl/\b2=bl/\b3=bl/\b=bl/\B=bl/\d=bl/\n1=aW/\r=bl/\E=bl/\n2=bl)\/(b0=bl/\b1=bl/\b2=bl/\b3=bl/\b=bl/\B=bl/\d=bl/\n1=aW/\r=bl/\E=bl/\n2=aW/\g=bl)\/(b0=bl/\b1=bl/\b2=bl/\b3=bl/\b=bl/\B=bl/\d=bl/\n1=aW/\r=bl/\E=bl/\n2=aW/\g=aW):=by
 cases b0
 ·simp
 cases b1
 ·simp
 cases b2
 ·simp
 cases b3
 ·simp
 cases b
 ·simp
 cases B
 ·simp
 cases d
 ·simp
 cases n1<;>cases r<;>cases E<;>cases n2<;>cases g<;>simp
theorem QH (x:Hs) (a:av->ax bR) (c:av->av) (w:aj) (hx:dK w a c x) (E6:x.Fit):
  jW 31 #[cV a c x] w (uZ w (if gD x=bl then 0 else 8)):=by
 have U:bG (∀W,jb w W->dK W a c x):=fun W H=>hx.below H;have d:=hI E6;obtain⟨R,Q⟩: ∃R,(if gD x=bl then 0 else 8:ar)=R:=⟨_,rfl⟩;rw[Q];have HR:=hI Q;unfold cV;go_in;go_upto_region 1 with fail;generalize i:cj _ _=W0;have K0:=hI (jG i)
 have XV:=hI (jA i)
 have g:=hI fun W H=>U W (jo K0 H);obtain⟨x0,x1,x2,x3,x4,x5,x6,x7,x8,x9,X,j,k,n,o,p,q,r,s,u,y,A,C,D,E⟩:=nN XV;obtain⟨b0,t0⟩: ∃b,ab ((x.key:ar)<=64)=b:=⟨_,rfl⟩;cases hh:x.halted
 case true=>
  have HE:bG (gD x=(ab ((x.key:ar)<=64)&&(ab (x.pl=bV)&&(ab (x.bk=bV)&&(ab (x.nx=bV)&&((x.high==0)&&(((x.buf:ar)==0)&&ab (x.st=rG)))))))):=by show gD x=_;unfold gD;rw[hh];rfl
  go_upto_region 4 with fail;have F:=fB.of (v:=db (ab (x.pl=bV))) fun W H=>wI x.pl _ _ _ _ W (g W H).pl d.pl;unfold aT at F;have C2:=hI F;have G:=fB.of (v:=db (ab (x.bk=bV))) fun W H=>wI x.bk _ _ _ _ W (g W H).bk d.bk;unfold aT at G;have C3:=hI G;have I:=fB.of (v:=db (ab (x.nx=bV))) fun W H=>wI x.nx _ _ _ _ W (g W H).nx d.nx;unfold aT at I;have C5:=hI I;have J:=fB.of (v:=db (ab (x.st=rG))) fun W H=>z34 x.st rG _ _ _ (jN) (jN) (jN) W (g W H).st (QK W) d.st QL;have C7:=hI J;obtain⟨x0,x1,x2,x3,x4,x5,x6,x7,x8,x9,X,j,k,n,o,p,q,r,s,u,y,A,C,D,E⟩:=sU XV;obtain⟨K,T⟩: ∃b,(x.high==0)=b:=⟨_,rfl⟩;obtain⟨L,M⟩: ∃b,((x.buf:ar)==0)=b:=⟨_,rfl⟩;rw[t0,T,M]at HE;generalize ab (x.pl=bV)=b1 at *;generalize ab (x.bk=bV)=b2 at *;generalize ab (x.nx=bV)=b3 at *;generalize ab (x.st=rG)=N at *;generalize gD x=B at *;refine rN ?_;rcases QI b0 b1 b2 b3 K L N with rfl | ⟨rfl,rfl⟩ | ⟨rfl,rfl,rfl⟩ | ⟨rfl,rfl,rfl,rfl⟩ | ⟨rfl,rfl,rfl,rfl,rfl⟩ | ⟨rfl,rfl,rfl,rfl,rfl,rfl⟩ | ⟨rfl,rfl,rfl,rfl,rfl,rfl,rfl⟩ | ⟨rfl,rfl,rfl,rfl,rfl,rfl,rfl⟩
  all_goals
   repeat (go_big_quiet_step (first | (with_reducible exact C2.o _ _) | (with_reducible exact C3.o _ _) | (with_reducible exact C5.o _ _) | (with_reducible exact C7.o _ _)))
   refine cl ?_;rintro _ ⟨⟨dq,osq⟩,rfl⟩;go_wp2_with fail;go_ret;exact⟨by rw[<-HR.o,HE.o];rfl,K0.trans ((Nr W0 dq osq).mono K0.size)⟩
 case false=>
  have HE:bG (gD x=(ab ((x.key:ar)<=64)&&(ab (0<x.key.length)&&(ab (bS x.pl)&&(ab (x.pl.ver<=x.high)&&(ab (x.high<=2147483647)&&(ab ((x.buf:ar)<=2048)&&((mX x.pl x.st==0)&&((ab (x.bk=bV) || (ab (bS x.bk)&&(x.bk.ver==x.pl.par)))&&(ab (x.nx=bV) || decide (bS x.nx))))))))))):=by show gD x=_;unfold gD;rw[hh];rfl
  go_upto_region 5 with fail;have F:=fB.of (v:=db (ab (x.bk=bV))) fun W H=>wI x.bk _ _ _ _ W (g W H).bk d.bk;unfold aT at F;have C2:=hI F;have G:=fB.of (v:=db (ab (x.nx=bV))) fun W H=>wI x.nx _ _ _ _ W (g W H).nx d.nx;unfold aT at G;have C3:=hI G;have I:=fB.of (v:=db (ab (bS x.pl))) fun W H=>FX x.pl _ _ _ _ W (g W H).pl d.pl;unfold aT at I;have C5:=hI I;have J:=fB.of (v:=db (ab (bS x.bk))) fun W H=>FX x.bk _ _ _ _ W (g W H).bk d.bk;unfold aT at J;have C7:=hI J;have c5:=fB.of (v:=db (ab (bS x.nx))) fun W H=>FX x.nx _ _ _ _ W (g W H).nx d.nx;unfold aT at c5;have O:=hI c5;have c6:=fB.of (v:= jV (mX x.pl x.st)) fun W H=>z5t x.pl x.st _ _ _ _ _ _ _ W (g W H).pl d.pl (g W H).st d.st;unfold aT pV at c6;have P:=hI c6;obtain⟨x0,x1,x2,x3,x4,x5,x6,x7,x8,x9,X,j,k,n,o,p,q,r,s,u,y,A,C,D,E⟩:=sU XV;obtain⟨b1,t1⟩: ∃b,ab (0<x.key.length)=b:=⟨_,rfl⟩;obtain⟨b3,t3⟩: ∃b,ab (x.pl.ver<=x.high)=b:=⟨_,rfl⟩;obtain⟨K,T⟩: ∃b,ab (x.high<=2147483647)=b:=⟨_,rfl⟩;obtain⟨L,M⟩: ∃b,ab ((x.buf:ar)<=2048)=b:=⟨_,rfl⟩;obtain⟨N,t6⟩: ∃b,(mX x.pl x.st==0)=b:=⟨_,rfl⟩;obtain⟨e1,t7⟩: ∃b,(x.bk.ver==x.pl.par)=b:=⟨_,rfl⟩;rw[t0,t1,t3,T,M,t6,t7]at HE;generalize mX x.pl x.st=E0 at *;generalize ab (x.bk=bV)=n1 at *;generalize ab (x.nx=bV)=n2 at *;generalize ab (bS x.pl)=b2 at *;generalize ab (bS x.bk)=r1 at *;generalize ab (bS x.nx)=r2 at *;generalize gD x=B at *;refine rN ?_;simp only[aq.append_eq,Nz,Dd];rcases z6f b0 b1 b2 b3 K L N n1 r1 e1 n2 r2 with rfl | ⟨rfl,rfl⟩ | ⟨rfl,rfl,rfl⟩ | ⟨rfl,rfl,rfl,rfl⟩ | ⟨rfl,rfl,rfl,rfl,rfl⟩ | ⟨rfl,rfl,rfl,rfl,rfl,rfl⟩ | ⟨rfl,rfl,rfl,rfl,rfl,rfl,rfl⟩ | ⟨rfl,rfl,rfl,rfl,rfl,rfl,rfl,rfl,rfl⟩ | ⟨rfl,rfl,rfl,rfl,rfl,rfl,rfl,rfl,rfl,rfl⟩ | ⟨rfl,rfl,rfl,rfl,rfl,rfl,rfl,rfl,rfl⟩ | ⟨rfl,rfl,rfl,rfl,rfl,rfl,rfl,rfl,rfl,rfl⟩ | ⟨rfl,rfl,rfl,rfl,rfl,rfl,rfl,rfl,rfl,rfl⟩ | ⟨rfl,rfl,rfl,rfl,rfl,rfl,rfl,rfl,rfl,rfl,rfl⟩ | ⟨rfl,rfl,rfl,rfl,rfl,rfl,rfl,rfl,rfl,rfl,rfl,rfl⟩ | ⟨rfl,rfl,rfl,rfl,rfl,rfl,rfl,rfl,rfl,rfl,rfl,rfl⟩
  all_goals
   repeat (go_big_quiet_step (first | (with_reducible exact C2.o _ _) | (with_reducible exact C3.o _ _) | (with_reducible exact C5.o _ _) | (with_reducible exact C7.o _ _) | (with_reducible exact O.o _ _) | (with_reducible exact P.o _ _)))
   refine cl ?_;rintro _ ⟨⟨dq,osq⟩,rfl⟩;go_wp2_with fail;go_ret;exact⟨by rw[<-HR.o,HE.o];rfl,K0.trans ((Nr W0 dq osq).mono K0.size)⟩
def z6g (b0 b1 b2 b3 b B d g i:aU):(b0=aW)\/(b0=bl/\b1=aW)\/(b0=bl/\b1=bl/\b2=aW)\/(b0=bl/\b1=bl/\b2=bl/\b3=aW)\/(b0=bl/\b1=bl/\b2=bl/\b3=bl/\b=aW)\/(b0=bl/\b1=bl/\b2=bl/\b3=bl/\b=bl/\B=aW)\/(b0=bl/\b1=bl/\b2=bl/\b3=bl/\b=bl/\B=bl/\d=aW)\/(b0=bl/\b1=bl/\b2=bl/\b3=bl/\b=bl/\B=bl/\d=bl/\g=aW)\/(b0=bl/\b1=bl/\b2=bl/\b3=bl/\b=bl/\B=bl/\d=bl/\g=bl/\i=aW)\/(b0=bl/\b1=bl/\b2=bl/\b3=bl/\b=bl/\B=bl/\d=bl/\g=bl/\i=bl):=by
 cases b0
 ·simp
 cases b1
 ·simp
 cases b2
 ·simp
 cases b3
 ·simp
 cases b
 ·simp
 cases B
 ·simp
 cases d
 ·simp
 cases g
 ·simp
 cases i
 ·simp
 simp
def z6h (n1 r E:aU):n1=bl\/(n1=aW/\r=bl/\E=bl)\/(n1=aW/\r=aW)\/(n1=aW/\r=bl/\E=aW):=by
 cases n1<;>cases r<;>cases E<;>simp
def z6i (n2 r:aU):n2=bl\/(n2=aW/\r=bl)\/(n2=aW/\r=aW):=by
 cases n2<;>cases r<;>simp
def z6j (p:Pl) (st:St):(mX p st==0)=ab (mC p st):=by
 rw[z6d];by_cases h:bS p
 ·rw[Np h];by_cases h2:mC p st
  ·rw[Np h2,Ni h2];rfl
  rw[Nm h2,Mw h2];rfl
 rw[Nm h,Mw (fun k=>h k.1)];rfl
def z6k (x:St):ab (x=rG)=(((x.tks:ar)==0)&&(((x.sws:ar)==0)&&((x.lks:ar)==0))):=by
 rw[Dh];simp only[Dj,Dt,Da];constructor
 ·rintro rfl;exact⟨rfl,rfl,rfl⟩
 rintro⟨h1,h2,h3⟩;exact DR (Dm ed) (Dm ed) (Dm ed)
def cQ:(prog.info? 35).map (·.size)=bt 25:=by kernel_rfl
def sD {w:aj}{A:Act}{o:Oper}{K:Act->Prop}{a:av->ax bR}{c:av->av}(H:jk w g (aE a c x) 35) (p:Operand) (h:o.op= .load 35 p) (hx:A.eval p=cY (bt ⟨g,0,bn⟩))
  (b:K (A.put o.dst (cZ (aE a c x)))):o.quiet prog A (fun W=> ∃p:Regrown,W=grow (cF w p.d) p.os) K:=
 JM 35 p h g hx (aE a c x) (fun W ⟨p,e⟩=>by
  subst e
  exact⟨35,(0,0),((Nr w p.d p.os).block _ (aD H)).trans H⟩) _ underlying35 rfl cQ b
theorem QG (x:Hs) (a:av->ax bR) (c:av->av) (w:aj) (hx:dK w a c x) (E6:x.Fit):
  jW 65 #[cV a c x] w (bY w (gD x)):=by
 have a1:bG (∀W,jb w W->dK W a c x):=fun W d=>hx.below d;have G:=hI E6;unfold cV;go_in;go_upto_region 1 with fail;generalize L:cj _ _=W0;have K:=hI (jG L)
 have j:=hI (jA L)
 have I:=hI fun W d=>a1 W (jo K d);obtain⟨b0,t0⟩: ∃b,ab ((x.key:ar)<=64)=b:=⟨_,rfl⟩;have H1:bG (∀V,jb W0 V->fB _ _ V (db (ab (x.pl=bV)))):=fun V g=>fB.of fun W d=>DQ x.pl _ _ _ _ W (I W (jt g d)).pl G.pl;have H2:bG (∀V,jb W0 V->fB _ _ V (db (ab (x.bk=bV)))):=fun V g=>fB.of fun W d=>DQ x.bk _ _ _ _ W (I W (jt g d)).bk G.bk;have H3:bG (∀V,jb W0 V->fB _ _ V (db (ab (x.nx=bV)))):=fun V g=>fB.of fun W d=>DQ x.nx _ _ _ _ W (I W (jt g d)).nx G.nx;have H4:bG (∀V,jb W0 V->fB _ _ V (db (ab (bS x.pl)))):=fun V g=>fB.of fun W d=>yN x.pl _ _ _ _ W (I W (jt g d)).pl G.pl;have H5:bG (∀V,jb W0 V->fB _ _ V (db (ab (bS x.bk)))):=fun V g=>fB.of fun W d=>yN x.bk _ _ _ _ W (I W (jt g d)).bk G.bk;have H6:bG (∀V,jb W0 V->fB _ _ V (db (ab (bS x.nx)))):=fun V g=>fB.of fun W d=>yN x.nx _ _ _ _ W (I W (jt g d)).nx G.nx;have H7:bG (∀V,jb W0 V->fB _ _ V (db (ab (mC x.pl x.st)))):=fun V g=>fB.of fun W d=>z6c x.pl x.st _ _ _ _ _ _ _ W (I W (jt g d)).pl G.pl (I W (jt g d)).st G.st;have H:jb W0 W0:=Nb _ _;obtain⟨P,Q,T,U,Y,Z,x6,x7,x8,x9,X,n,o,p,q,r,s,u,v,y,A,C,D,E,F⟩:=nN j;cases hh:x.halted
 case true=>
  have HE:bG (gD x=(ab ((x.key:ar)<=64)&&(ab (x.pl=bV)&&(ab (x.bk=bV)&&(ab (x.nx=bV)&&((x.high==0)&&(((x.buf:ar)==0)&&ab (x.st=rG)))))))):=by show gD x=_;unfold gD;rw[hh];rfl
  rw[z6k]at HE;go_upto_region 2 with fail;have XV:=jm H j;obtain⟨P,Q,T,U,Y,Z,x6,x7,x8,x9,X,n,o,p,q,r,s,u,v,y,A,C,D,E,F⟩:=sU XV;have k1:=H1 W0 H;unfold aT at k1;have C1:=hI k1;have M:=H2 W0 H;unfold aT at M;have C2:=hI M;have N:=H3 W0 H;unfold aT at N;have C3:=hI N;obtain⟨b4,t4⟩: ∃b,(x.high==0)=b:=⟨_,rfl⟩;obtain⟨b5,t5⟩: ∃b,((x.buf:ar)==0)=b:=⟨_,rfl⟩;obtain⟨b6,t6⟩: ∃b,((x.st.tks:ar)==0)=b:=⟨_,rfl⟩;obtain⟨b7,t7⟩: ∃b,((x.st.sws:ar)==0)=b:=⟨_,rfl⟩;obtain⟨b8,t8⟩: ∃b,((x.st.lks:ar)==0)=b:=⟨_,rfl⟩;rw[t0,t4,t5,t6,t7,t8]at HE;generalize ab (x.pl=bV)=b1 at *;generalize ab (x.bk=bV)=b2 at *;generalize ab (x.nx=bV)=b3 at *;generalize gD x=B at *;rcases z6g b0 b1 b2 b3 b4 b5 b6 b7 b8 with rfl | ⟨rfl,rfl⟩ | ⟨rfl,rfl,rfl⟩ | ⟨rfl,rfl,rfl,rfl⟩ | ⟨rfl,rfl,rfl,rfl,rfl⟩ | ⟨rfl,rfl,rfl,rfl,rfl,rfl⟩ | ⟨rfl,rfl,rfl,rfl,rfl,rfl,rfl⟩ | ⟨rfl,rfl,rfl,rfl,rfl,rfl,rfl,rfl⟩ | ⟨rfl,rfl,rfl,rfl,rfl,rfl,rfl,rfl,rfl⟩ | ⟨rfl,rfl,rfl,rfl,rfl,rfl,rfl,rfl,rfl⟩
  all_goals
   refine rN ?_
   repeat (go_big_quiet_step (first | (with_reducible exact C1.o _ _) | (with_reducible exact C2.o _ _) | (with_reducible exact C3.o _ _)))
   refine cl ?_;rintro _ ⟨⟨J,osq⟩,rfl⟩;go_wp2_with fail;go_ret;exact⟨by rw[HE.o];rfl,K.trans ((Nr W0 J osq).mono K.size)⟩
 case false=>
  have HE:bG (gD x=(ab ((x.key:ar)<=64)&&(ab (0<x.key.length)&&(ab (bS x.pl)&&(ab (x.pl.ver<=x.high)&&(ab (x.high<=2147483647)&&(ab ((x.buf:ar)<=2048)&&((mX x.pl x.st==0)&&((ab (x.bk=bV) || (ab (bS x.bk)&&(x.bk.ver==x.pl.par)))&&(ab (x.nx=bV) || decide (bS x.nx))))))))))):=by show gD x=_;unfold gD;rw[hh];rfl
  rw[z6j]at HE;go_upto_region 3 with fail;obtain⟨b1,t1⟩: ∃b,ab (0<x.key.length)=b:=⟨_,rfl⟩;obtain⟨b3,t3⟩: ∃b,ab (x.pl.ver<=x.high)=b:=⟨_,rfl⟩;obtain⟨b4,t4⟩: ∃b,ab (x.high<=2147483647)=b:=⟨_,rfl⟩;obtain⟨b5,t5⟩: ∃b,ab ((x.buf:ar)<=2048)=b:=⟨_,rfl⟩;obtain⟨e1,t7⟩: ∃b,(x.bk.ver==x.pl.par)=b:=⟨_,rfl⟩;have s0:ab ((64:ar)<(x.key:ar))= !b0:=by rw[<-t0,<-Hx,Ss];omega
  have s1:ab ((x.key:ar)<1)= !b1:=by rw[<-t1,<-Hx,Ss];omega
  have s3:ab (x.high<x.pl.ver)= !b3:=by rw[<-t3,<-Hx,Ss];omega
  have s4:ab ((2147483647:ar)<x.high)= !b4:=by rw[<-t4,<-Hx,Ss];omega
  have s5:ab ((2048:ar)<(x.buf:ar))= !b5:=by rw[<-t5,<-Hx,Ss];omega
  have s7:(x.bk.ver != x.pl.par)= !e1:=by rw[<-t7];rfl
  rw[t0,t1,t3,t4,t5,t7]at HE;generalize ab (x.bk=bV)=n1 at *;generalize ab (x.nx=bV)=n2 at *;generalize ab (bS x.pl)=b2 at *;generalize ab (bS x.bk)=r1 at *;generalize ab (bS x.nx)=r2 at *;generalize ab (mC x.pl x.st)=b6 at *;generalize gD x=B at *;have XV:=jm H j;obtain⟨P,Q,T,U,Y,Z,x6,x7,x8,x9,X,n,o,p,q,r,s,u,v,y,A,C,D,E,F⟩:=sU XV;have k4:=H4 W0 H;unfold aT at k4;have cN:=hI k4;have k7:=H7 W0 H;unfold aT pV at k7;have cS:=hI k7;refine rN ?_;rcases QI b1 b0 b2 b3 b4 b6 b5 with rfl | ⟨rfl,rfl⟩ | ⟨rfl,rfl,rfl⟩ | ⟨rfl,rfl,rfl,rfl⟩ | ⟨rfl,rfl,rfl,rfl,rfl⟩ | ⟨rfl,rfl,rfl,rfl,rfl,rfl⟩ | ⟨rfl,rfl,rfl,rfl,rfl,rfl,rfl⟩ | ⟨rfl,rfl,rfl,rfl,rfl,rfl,rfl⟩
  rotate_left 7
  ·repeat (go_big_quiet_step (first | (with_reducible exact cN.o _ _) | (with_reducible exact cS.o _ _)))
   refine cl ?_;rintro _ ⟨⟨J,osq⟩,rfl⟩;have k:=Nr W0 J osq;generalize grow (cF W0 J) osq=W1 at *;go_upto_region 5 with fail;have XV:=jm k j;obtain⟨P,Q,T,U,Y,Z,x6,x7,x8,x9,X,n,o,p,q,r,s,u,v,y,A,C,D,E,F⟩:=sU XV;have M:=H2 W1 k;unfold aT at M;have C2:=hI M;have k5:=H5 W1 k;unfold aT at k5;have C5:=hI k5;refine rN ?_;rcases z6h n1 r1 e1 with rfl | ⟨rfl,rfl,rfl⟩ | ⟨rfl,rfl⟩ | ⟨rfl,rfl,rfl⟩
   all_goals
    repeat (go_big_quiet_step (first | (with_reducible exact C2.o _ _) | (with_reducible exact C5.o _ _)))
    refine cl ?_;rintro _ ⟨⟨a0,O⟩,rfl⟩;have i:=k.trans ((Nr W1 a0 O).mono k.size);generalize grow (cF W1 a0) O=W2 at *
   rotate_left 2
   iterate 2
    ·go_wp2_with fail;go_ret;exact⟨by rw[HE.o];rfl,jo K i⟩
   all_goals
    go_upto_region 7 with fail;have XV:=jm i j;obtain⟨P,Q,T,U,Y,Z,x6,x7,x8,x9,X,n,o,p,q,r,s,u,v,y,A,C,D,E,F⟩:=sU XV;have N:=H3 W2 i;unfold aT at N;have C3:=hI N;have k6:=H6 W2 i;unfold aT at k6;have C6:=hI k6;refine rN ?_;rcases z6i n2 r2 with rfl | ⟨rfl,rfl⟩ | ⟨rfl,rfl⟩
    all_goals
     repeat (go_big_quiet_step (first | (with_reducible exact C3.o _ _) | (with_reducible exact C6.o _ _)))
     refine cl ?_;rintro _ ⟨⟨a2,o0⟩,rfl⟩;go_wp2_with fail;go_ret;exact⟨by rw[HE.o];rfl,K.trans ((i.trans ((Nr W2 a2 o0).mono i.size)).mono K.size)⟩
  all_goals
   repeat (go_big_quiet_step (first | (with_reducible exact cN.o _ _) | (with_reducible exact cS.o _ _)))
   refine cl ?_;rintro _ ⟨⟨J,osq⟩,rfl⟩;go_wp2_with fail;go_ret;exact⟨by rw[HE.o];simp,K.trans ((Nr W0 J osq).mono K.size)⟩
def up {α:Type}(f:av->α) (i:av) (v:α):av->α:=fun j=>if j=i then v else f j
def bA {α:Type}(f:av->α) (i:av) (v0 v1 v2 v3:α):av->α:=up (up (up (up f i v0) (i+1) v1) (i+2) v2) (i+3) v3
section
variable (a:av->ax bR) (c:av->av) (x:Hs) (b0 b1 b2 b3:ax bR) (d0 d1 d2 d3:av)
def fQ:(aE a c x).all (·.oneCell')=bl:=by unfold aE;simp[bw.oneCell']
end
def mB (w:aj) (x:Hs) (e:Ending) (w':aj):Prop:= ∃a c,e=cL (cV a c x)/\dK (bK (old w) w') a c x/\jb w w'
def aK:Hs:=⟨[],bV,bV,0,rG,[],bV,aW⟩
def nA:av->ax bR:=fun _=>bn
def nC:av->av:=fun _=>0
def iX:aY dG:=fun _ _ _ _ _ h=>h
def z6m:aY nX:=fun _ _ _ _ _ h=>h
def z6n:aY mR:=fun _ _ _ _ _ h=>h
def z6o:aY mS:=fun _ _ _ _ _ h=>h
def fU.ext {w:aj}{t s l:bw}{x:St}(h:fU w t s l x) (he:eD w W):fU W t s l x:=⟨h.tks.ext z6m he,h.sws.ext z6n he,h.lks.ext z6o he⟩
def dK.ext {w:aj}{a:av->ax bR}{c:av->av}(h:dK w a c x) (he:eD w W):dK W a c x:=
 ⟨h.key.ext iX he,h.pl.ext he,h.bk.ext he,h.st.ext he,h.buf.ext iX he,h.nx.ext he⟩
def BF {a:ax bR}{l:aq ar}(h:W.ownsRow B 5 1 (js a l c) l (l.flatMap dR))(H: ∀k,B<=k->S k=aW):aB (bK S W) 1 dG a c l:=by
 obtain⟨A,C,e,h'⟩:=kK (f:=dR) (R:=dG) (kU h H) (fun _ _=>rfl) (fun _ _=>rfl);cases e;exact h'
def bH.off {t s l:bw}{x:St}(h:bH W B t s l x)(H: ∀k,B<=k->S k=aW):fU (bK S W) t s l x:=
 bH.stM (N:=B) ⟨kU h.tks H,kU h.sws H,kU h.lks H⟩
def uA {m:av}(h:n<=m): ∀k,m<=k->old n k=aW:=fun k H=>ZG
def dC (h:k<n):old n k=bl:=by unfold old;simp[h]
section
variable {α:Type}{t e:bT}{sz by_:av}{z:bw}{f:α->aq bw}{R:aj->aq bw->α->Prop}{w:aj}{a:ax bR}{cap:av}{l:aq α}
def tZ (ty:bT) (n:prog.underlying t=bt (.slice e)) (d:(prog.info? e).map (fun i=>(i.zero,i.size,i.bytes))=bt (bt z,sz,by_)) (o:z.cells.size=sz) (g:0<sz)
  (H: ∀x,(f x).length=sz) (k: ∀x,∀u∈f x,u.oneCell'=bl) (B: ∀w v x,R w v x->v=f x) (hl:aB w sz R a cap l) (G:l.length<=maxLen) (D:l.length * by_<=140737488355328):
  ∃A C W,(Builtin.append_ #[t,t] ty #[jN,js a l cap]).run prog w= .ok (js A l C) W/\W.ownsRow w e sz (js A l C) l (l.flatMap f)/\jb w W:=by
 obtain⟨i0,s,p,q,r⟩:=Se d;by_cases h0:l=[]
 ·subst h0;refine⟨bn,0,w,?_,Nw _ _ _ _,Nb _ _⟩;cases a<;>simp[Builtin.append_,Fk n,sizeOf,typeInfo,s,Builtin.lenOf,Builtin.firstCells,loadCells,loadCellsFrom]
 refine Ey fun b off _ e0=>?_;cases e0
 obtain⟨v',W,E,h1,h2,-⟩:=run_append_own_at (P:=prog) w w t ty e i0 z sz by_ n s p q r o g (jN) 0 [] (Nw _ _ _ _) ⟨b,off,bn⟩ l cap (l.flatMap f) (pC _ sz l (fun x _=>H x)) (fun j u hj=>by
  rw[Fn]
  exact mg (f:=f) hl (fun x _=>H x) (fun v x h=>B _ v x h) g j u hj) (fun u n=>by
  obtain⟨y,-,F⟩:=Su.1 n
  exact k y u F) ed (by rw[Pa];exact D) ep
 rw[Pa,Dd]at h1;obtain⟨A,C,rfl⟩:=iG h1;exact⟨A,C,W,E,h1,dT (Nw w w e sz) ep ep h2⟩
end
section
variable {w:aj}{a:ax bR}{cap:av}(ty:bT)
def nL (t e:bT) (sz:av) (ty:bT) (w:aj) (a:ax bR) (n cap:av) (xs:aq bw):Prop:=
 ∃a' c' w',(Builtin.append_ #[t,t] ty #[jN,js a n cap]).run prog w= .ok (js a' n c') w'/\w'.ownsRow w e sz (js a' n c') n xs/\jb w w'
def z6p {l:aq Jn}(hl:aB w 2 fI a cap l) (H:l.length<=8796093022208):nL 78 133 2 ty w a l cap (l.flatMap nG):=
 tZ ty underlying78 AB rfl eh (fun _=>rfl) UO (fun _ _ _ h=>h) hl Oq ed
def z6q {l:aq Pt}(hl:aB w 2 iA a cap l) (H:l.length<=1000):nL 24 143 2 ty w a l cap (l.flatMap oO):=
 tZ ty underlying24 CO rfl eh (fun _=>rfl) IQ (fun _ _ _ h=>h) hl Oq ed
def z6r {l:aq Sg}(hl:aB w 3 gZ a cap l) (H:l.length<=1000):nL 25 145 3 ty w a l cap (l.flatMap oM):=
 tZ ty underlying25 CN rfl eh (fun _=>rfl) IP (fun _ _ _ h=>h) hl Oq ed
def FU {l:aq ar}(hl:aB w 1 dG a cap l) (H:l.length<=10000):nL 22 5 1 ty w a l cap (l.flatMap dR):=
 tZ ty underlying22 nD rfl eh (fun _=>rfl) yW (fun _ _ _ h=>h) hl Oq ed
def z6s {l:aq Tk}(hl:aB w 2 nX a cap l) (H:l.length<=1000):nL 29 106 2 ty w a l cap (l.flatMap pT):=
 tZ ty underlying29 WP rfl eh (fun _=>rfl) tq (fun _ _ _ h=>h) hl Oq ed
def z6t {l:aq Sw}(hl:aB w 3 mR a cap l) (H:l.length<=1000):nL 30 108 3 ty w a l cap (l.flatMap pU):=
 tZ ty underlying30 UQ rfl eh (fun _=>rfl) tp (fun _ _ _ h=>h) hl Oq ed
def z6u {l:aq Lk}(hl:aB w 4 mS a cap l) (H:l.length<=1000):nL 31 99 4 ty w a l cap (l.flatMap pW):=
 tZ ty underlying31 UP rfl eh (fun _=>rfl) th (fun _ _ _ h=>h) hl Oq ed
end
def vV {sz:av}{w:aj}{rest:aq Oper}{o:Oper}{a:Act}(H:o.guard=bn) (s x:Operand)
  (b:o.op= .call {callee:= .builtin .append,args:=#[s,x],argTypes:=#[t,t]}) (d:a.eval s= jN) (hx:a.eval x=cJ a0 n cap) (g:nL t e sz o.type w a0 n cap xs)
  (h: ∀A C W,W.ownsRow w e sz (js A n C) n xs->jb w W->wpList prog ops Q rest (a.put o.dst (js A n C)) W):wpList prog ops Q (o::rest) a w:=by
 obtain⟨A,C,W,h1,h2,h3⟩:=g;exact Go.Lib.wpList_append_run w H s x t t b _ _ d hx _ _ h1 (h A C W h2 h3)
def FT {sz:av}{w:aj}{i:av}{o:Oper}{a:Act}{K:Act->aj->Prop}(h:ops[i]? =bt o) (H:o.guard=bn) (s x:Operand)
  (b:o.op= .call {callee:= .builtin .append,args:=#[s,x],argTypes:=#[t,t]}) (d:a.eval s= jN) (hx:a.eval x=cJ a0 n cap) (g:nL t e sz o.type w a0 n cap xs)
  (j: ∀A C W,W.ownsRow w e sz (js A n C) n xs->jb w W->K (a.put o.dst (js A n C)) W):wpOp prog ops Q i K a w:=by
 obtain⟨A,C,W,h1,h2,h3⟩:=g;exact zQ h H s x t b _ _ _ W d hx h1 (j A C W h2 h3)
def z6v (s:aF) (y:ax bR) (Y:av) (w:aj) (h:aB w 2 fI y Y s.ends) (r:s.ends.length<=8796093022208):
  jW 131 #[cZ #[s.id,s.pt,js y s.ends Y]] w fun e q=> ∃u d,e=cL (cZ #[s.id,s.pt,js u s.ends d])/\q.ownsRow w 133 2 (js u s.ends d) s.ends (s.ends.flatMap nG)/\jb w q:=by
 have A:bG (∀W ty,jb w W->nL 78 133 2 ty W y s.ends Y (s.ends.flatMap nG)):=fun W ty j=>z6p ty (h.below lB j) r;go_in;go_upto_region 1 with fail;generalize k:cj (cj _ _) _=W0;have F:=hI (wZ k)
 have x2:jc W0 w 2 (js y s.ends Y):=jr (F.row 0 _ rfl);have l0:w.heap.size<W0.heap.size:=F.lt (i:=0) ee;go_upto_region 3 with(at_builtin;refine vV rfl _ _ rfl rfl rfl (A _ _ F.bel) ?_;intro u d n H j;have o:=hI (F.below j);have X:jc n w 2 (js y s.ends Y):=jr (o.row 0 _ rfl);have f2:n.frozen? ⟨w,2,bn⟩=aW:=(by have:=o.row 0 _ rfl;simp[aj.frozen?,show n.heap[w.heap.size]? =_ from this]));refine On fun p b=>?_;have g:bG (Fr w [(#[s.id,s.pt,js u s.ends d],80),(#[jV 0,jV 0,jN],80)] p):=by show Fr _ _ _;rw[<-b];exact o.set 0 rfl 2 _
 have O2:bG (p.ownsRow (w+2) 133 2 (js u s.ends d) s.ends (s.ends.flatMap nG)):=by show aj.ownsRow _ _ _ _ _ _ _;rw[<-b];exact aV (bW H F.sz) ee _
 go_step;refine Dx rfl 80 (dk 1) rfl w rfl 80 _ (0,0) _ (g.row 0 _ rfl) underlying80 rfl ef ?_;simp[cq];refine bP rfl 80 (dk 2) (dk 9) rfl (w+1) #[s.id,s.pt,js u s.ends d] _ 80 rfl rfl (g.row 1 _ rfl) ef rfl Qj ?_;have F3:bG (Fr w [(#[s.id,s.pt,js u s.ends d],80),(#[s.id,s.pt,js u s.ends d],80)] (p.setRow (w+1) #[s.id,s.pt,js u s.ends d])):=g.setRow 1 rfl _;have O3:=mK (C:=#[s.id,s.pt,js u s.ends d]) O2 (g.row 1 _ rfl) eh;generalize aj.setRow _ _ _=W3 at *;refine Vf ?_;refine Nh (v:=cZ #[s.id,s.pt,js u s.ends d]) (Pb rfl _ _ (w+1) 80 _ (0,0) _ rfl (F3.row 1 _ rfl) underlying80 rfl ef) rfl ?_;exact⟨u,d,rfl,bW O3 ed,F3.bel⟩
def cM (w:aj) (base:av) (v:bw) (l:aq ar):Prop:=w.ownsRow base 5 1 v l (l.flatMap dR)
def nK {rest:aq Oper}{o:Oper}{a:Act}(k:o.guard=bn) (s x:Operand) (t e T:bT) (z:bw) (size b:av)
  (G:o.op= .call {callee:= .builtin .append,args:=#[s,x],argTypes:=#[t,t]}) (I:prog.underlying t=bt (.slice e)) (p:(prog.info? e).map (fun i=>(i.zero,i.size,i.bytes))=bt (bt z,size,b))
  (q:z.cells.size=size) (r:0<size) (y:b<=1000) (base:av) (v:bw) (n:av) (xs:aq bw) (J:a.eval s=v) (H:W.ownsRow base e size v n xs) (L:n<=100000) (A:base<=W.heap.size)
  (news:aq bw) (hx:a.eval x=cJ (bt ⟨W,0,bn⟩) 1 1) (hl:news.length=size) (h1: ∀u∈news,u.oneCell'=bl)
  (h: ∀(E F:av) d,d.ownsRow base e size (jq E 0 (n+1) F) (n+1) (xs++news)->(W.alloc (cO news.toArray T)).grownBy d v.ownBlock->wpList prog ops Q rest (a.put o.dst (jq E 0 (n+1) F)) d):
  wpList prog ops Q (o::rest) a (W.alloc (cO news.toArray T)):=by
 obtain⟨i0,p,B,C,D⟩:=Se p;refine wpList_append_own_at _ k s x t G base e i0 z size b I p B C D q r v n xs J (H.alloc _) ⟨W,0,bn⟩ 1 1 news hx (by rw[hl,av.one_mul]) ?_ h1 Oq ?_ em ?_
 ·intro j u hj;refine Ro fun _=>?_
  simpa using hj
 ·have:(n+1) * b<=100001 * 1000:=Io ed y
  omega
 intro v' d h2 h3 _ _;rcases h2.2 with⟨_,h0⟩ | ⟨g,cap,cur,rfl,_⟩
 ·omega
 exact h g cap d h2 h3
def tY (x:ar): ∀u∈[bw.int .u8 x],u.oneCell'=bl:=by simp[bw.oneCell']
structure WN (N:aq ar) (w:aj) (r:aq ar) (W:aj) (b:ax bR) (d:av) (L:aq ar):Prop where
 eq:L++r=N
 bel:jb w W
 own:W.ownsRow w 3 1 (js b L d) L (L.map (cW dr))
def WN.low {N:aq ar}{w:aj}{r:aq ar}{L:aq ar}(h:WN N w r W b d L) (H:jb W W'):WN N w r W' b d L:=⟨h.eq,jt h.bel H,bU h.own H⟩
def WN.put {N:aq ar}{w:aj}{r:aq ar}{L:aq ar}(h:WN N w r W b d L) (o:Obj):WN N w r (W.alloc o) b d L:=h.low aR
def pJ (W:aj) (l:aq ar) (T:bT):IL (W.alloc (cO (l.map (bw.int dr)).toArray T)) (bt ⟨W,0,bn⟩) l l:=
 ⟨rfl,fun i H=>⟨_,0,rfl,by
  rw[Pa,Mu _ _ i _ _ _ (Nc W _)]
  simp[H]⟩⟩
def nY {w:aj}{N r l:aq ar}{rest:aq Oper}{o:Oper}{a:Act}{L:aq ar}(n:N.length<=100000) (H:o.guard=bn) (s x:Operand)
  (i:o.op= .call {callee:= .builtin .append,args:=#[s,x],argTypes:=#[54,54]}) (j:a.eval s=cJ b L d) (h:WN N w (l++r) V b d L)
  (a0:ax bR) (cap:av) (hx:a.eval x=cJ a0 l cap) (hl:IL V a0 l l)
  (k: ∀B D e c,WN N w r c B D e->dS (fun t=>t==3) V c->wpList prog ops Q rest (a.put o.dst (js B e D)) c):wpList prog ops Q (o::rest) a V:=by
 have f:L.length+l.length<=100000:=by have:=Tc aq.length h.eq;simp at this;omega
 refine sW H s x i w _ L j h.own a0 cap l hx hl ed h.bel.size fun A C c h1 h2=> ?_;exact k A C (L++l) c ⟨by rw[Dk];exact h.eq,h.bel.trans (dT h.own ep h.bel.size h2),h1⟩ (uT h.own rfl h2)
def vT {o:Obj}{cs:aL bw}{f:av × av}(H:dS (fun t=>t==3) (W.alloc o) V) (a:(t==3)=aW) (h:W.heap[g]? =bt (cO cs t f)):V.heap[g]? =bt (cO cs t f):=H _ _ _ _ ((Nv _ _ (aD h)).trans h) a
def z7b (r:Rt) (R:aq ar):fT r++R=[r.id,r.E,r.X,(r.A:ar)]++(r.A++([(r.O:ar)]++(r.O++([(r.fl:ar)]++((r.fl.drop 0).flatMap kC++([r.T]++R)))))):=by simp[fT,cE,IS]
def vS {α:Type}(f:α->aq ar) (l:aq α) (k:av) (h:k<l.length) (T:aq ar):(l.drop k).flatMap f++T=f l[k]++((l.drop (k+1)).flatMap f++T):=by rw[Pz h,Sb,Dk]
def WN.next {N:aq ar}{w:aj}{r r':aq ar}{L:aq ar}(h:WN N w r W b d L) (e:r=r'):WN N w r' W b d L:=e ▸ h
def gX {a:bR}{v:bw}(H:jb W W') (h:W.cell? a=bt v):W'.cell? a=bt v:=(H.cell (Mt h)).trans h
theorem z7c (p:Pl) (s q gg e4:bw) (w:aj) (b1:bN w s q gg e4 p) (X:p.Fit) (u:(gJ p).length<=100000):
  jW 342 #[aT p s q gg e4] w fun e e5=> ∃v,e=cL v/\aA e5 w v (gJ p)/\jb w e5:=by
 obtain⟨T3,a0⟩: ∃T,T=cE fT p.R:=⟨_,rfl⟩;obtain⟨T2,a1⟩: ∃T,T=cE fM p.G++T3:=⟨_,rfl⟩;obtain⟨F,a2⟩: ∃T,T=cE dN p.P++T2:=⟨_,rfl⟩;obtain⟨N,a3⟩: ∃N,N=gJ p:=⟨_,rfl⟩;rw[<-a3]at u ⊢;have d3:bG ([p.ver,p.par,(p.S:ar)]++((p.S.drop 0).flatMap eX++F)=N):=by rw[a3,a2,a1,a0];rfl
 have c6:bG (([]:aq aF).flatMap eX++F=[(p.P:ar)]++((p.P.drop 0).flatMap dN++T2)):=a2;have d4:bG (([]:aq Pt).flatMap dN++T2=[(p.G:ar)]++((p.G.drop 0).flatMap fM++T3)):=a1;have c7:bG (([]:aq Sg).flatMap fM++T3=[(p.R:ar)]++((p.R.drop 0).flatMap fT++[])):=by show _=_;rw[Sh];exact a0
 clear a3 a2 a1 a0;obtain⟨e6,k1,rfl,h1⟩:=b1.S;obtain⟨e7,k2,rfl,h2⟩:=b1.P;obtain⟨e8,k3,rfl,h3⟩:=b1.G;obtain⟨e9,k4,rfl,h4⟩:=b1.R;have f9:=X.S;have g1:=X.P;have g2:=X.G;have g3:=X.R;have f0:=hI X.ends;have f1:=hI X.rt;unfold aT;go_in;go_upto_region 1 with fail;generalize a4:cj _ _=W0;have K0:=hI (jG a4)
 have B:=hI (jA a4)
 have b2:bG (∀W,jb W0 W->jc W w 0 p.ver/\jc W w 1 p.par/\jc W w 2 (js e6 p.S k1)/\jc W w 3 (js e7 p.P k2)/\jc W w 4 (js e8 p.G k3)/\jc W w 5 (js e9 p.R k4)):=fun W a9=>
  ⟨gX a9 ((Mu W0 _ 0 _ _ _ B.o).trans rfl),gX a9 ((Mu W0 _ 1 _ _ _ B.o).trans rfl),gX a9 ((Mu W0 _ 2 _ _ _ B.o).trans rfl),gX a9 ((Mu W0 _ 3 _ _ _ B.o).trans rfl),gX a9 ((Mu W0 _ 4 _ _ _ B.o).trans rfl),gX a9 ((Mu W0 _ 5 _ _ _ B.o).trans rfl)⟩
 have f2:=hI (h1.below gN K0.o);have f3:=hI (h2.below lT K0.o);have f4:=hI (h3.below lA K0.o);have f5:=hI (h4.below lS K0.o);clear b1 X h1 h2 h3 h4 a4 B;obtain⟨p3,p4,p0,-,-,-⟩:=b2.o W0 Qy;go_upto_region 2 with fail
 have n:WN N W0 ((p.S.drop 0).flatMap eX++F) (W0.alloc (cO #[p.ver,p.par,p.S.length] 3)) (bt ⟨W0,0,bn⟩) 3 [p.ver,p.par,(p.S:ar)]:=
  ⟨d3.o,aR,Hb (base:=W0.heap.size) (size:=1) (e:=3) W0 #[p.ver,p.par,p.S.length] 3 ep eh rfl⟩
 have H6:=hI n;generalize cj _ _=W1 at *;clear n p3 p4 p0;go_wp2_with fail;go_loopg [3,4] p.S.length (fun g v i wr=> ∃(k:av) (L:aq ar) (b:ax bR) (d:av),k<=p.S.length/\g=p.S.length-k/\v=cJ b L d/\i= jV k/\WN N W0 ((p.S.drop k).flatMap eX++F) wr b d L)
 ·exact⟨0,[p.ver,p.par,(p.S:ar)],_,3,ed,ed,rfl,rfl,H6.o⟩
 obtain⟨k,L,b,d,d5,rfl,rfl,rfl,hb⟩:=hrel;have n:=hI hb;obtain⟨-,-,p0,P,-,-⟩:=b2.o wr hb.bel;by_cases G9:k<p.S.length
 ·have hd:=bL G9;have y:=hI (vS eX p.S k G9 F);obtain⟨g0,off,c8,c9,rfl,x0,x1,x2,hj⟩:=f2.o.sec G9;replace x0:=gX hb.bel x0;replace x1:=gX hb.bel x1;replace x2:=gX hb.bel x2;have f6:=hI hj;refine Qb fun c0 c1=>?_;refine Qw fun l2=>?_;have g4:=f0.o k G9;clear hj hb;generalize p.S[k]=j at *;go_upto_region 6 with fail;obtain⟨G,a5⟩: ∃G,G=wr.heap.size:=⟨_,rfl⟩;rw[<-a5];have t:(wr.alloc (cO #[j.id,j.pt,js c8 j.ends c9] 80)).heap[G]? =bt (cO #[j.id,j.pt,js c8 j.ends c9] 80 (0,0)):=(by rw[a5];exact Nc _ _);have H1:=hI (n.o.put (cO #[j.id,j.pt,js c8 j.ends c9] 80));clear n a5 x0 x1 x2 p0 P l2;generalize cj _ _=d6 at *;have H7:=hI t;have I:=(Mu d6 _ 0 _ _ _ t).trans rfl;have J:=(Mu d6 _ 1 _ _ _ t).trans rfl;have H8:=hI (H1.o.next (r':=[j.id,j.pt]++((j.ends.drop 0).flatMap iR++((p.S.drop (k+1)).flatMap eX++F))) y.o);clear H1 y t;go_wp2_with (at_builtin;refine nY u rfl _ _ rfl rfl (H8.o.put _) _ 2 rfl (pJ _ [j.id,j.pt] _) ?_;intro A d2 o M H a);have E:=vT a rfl H7.o;go_loopg [3,6] j.ends.length (fun g v i wr=> ∃(e:av) (L:aq ar) (b:ax bR) (d:av),e<=j.ends.length/\g=j.ends.length-e/\v=cJ b L d/\i= jV e/\WN N W0 ((j.ends.drop e).flatMap iR++((p.S.drop (k+1)).flatMap eX++F)) wr b d L/\jk wr G #[j.id,j.pt,js c8 j.ends c9] 80)
  ·exact⟨0,o,_,_,ed,ed,rfl,rfl,H,E⟩
  obtain⟨e,L,b,d,he,rfl,rfl,rfl,hb,ho⟩:=hrel;refine Qa fun n d0=>?_;have Y:=(Mu wr _ 2 _ _ _ ho).trans rfl;clear hb ho;by_cases G9:e<j.ends.length
  ·have hd:=bL G9;have y:=hI (vS iR j.ends e G9 ((p.S.drop (k+1)).flatMap eX++F));have c0:=aQ e;have c1:=aN G9;obtain⟨d7,d8,rfl,z,Z⟩:=f6.o.jn G9;generalize j.ends[e]=x at *;go_upto_region 10 with fail;refine yM 13 ef Qd ef ?_;intro V C;have f:=hI ((n.o.low C).next (r':=[x.tt,x.en]++((j.ends.drop (e+1)).flatMap iR++((p.S.drop (k+1)).flatMap eX++F))) y.o);have H0:=hI ((jm C d0.o));replace Y:=gX C Y;replace z:=gX f.o.bel z;replace Z:=gX f.o.bel Z;have l0:=Mt z;refine Xj ?_
   repeat (go_big_quiet_step (fail))
   refine cl ?_;go_wp2_with (at_builtin;refine nY u rfl _ _ rfl rfl (f.o.put _) _ 2 rfl (pJ _ [x.tt,x.en] _) ?_;intro A d2 o M H a);have E:=vT a rfl H0.o;go_roundg (j.ends.length-(e+1))
   ·go_light;exact⟨e+1,o,A,d2,ed,ed,rfl,ej,H,E⟩
   go_light;omega
  obtain rfl:e=j.ends.length:=ed;have hd:=bZ G9;have f:=hI (n.o.next (r':=(p.S.drop (k+1)).flatMap eX++F) (by rw[Te];rfl));go_wp2_with fail;go_roundg (p.S.length-(k+1))
  ·go_light;exact⟨k+1,L,b,d,ed,ed,rfl,ej,f.o⟩
  go_light;omega
 obtain rfl:k=p.S.length:=ed;have hd:=bZ G9;have f:=hI (n.o.next (r':=[(p.P:ar)]++((p.P.drop 0).flatMap dN++T2)) (by rw[Te];exact c6.o));clear hb;go_wp2_with (at_builtin;refine nY u rfl _ _ rfl rfl (f.o.put _) _ 1 rfl (pJ _ [(p.P:ar)] _) ?_;intro A d2 o M H a);go_loopg [3,7] p.P.length (fun g v i wr=> ∃(k:av) (L:aq ar) (b:ax bR) (d:av),k<=p.P.length/\g=p.P.length-k/\v=cJ b L d/\i= jV k/\WN N W0 ((p.P.drop k).flatMap dN++T2) wr b d L)
 ·exact⟨0,o,_,_,ed,ed,rfl,rfl,H⟩
 clear n f H a;obtain⟨k,L,b,d,d5,rfl,rfl,rfl,hb⟩:=hrel;have n:=hI hb;obtain⟨-,-,-,P,p1,-⟩:=b2.o _ hb.bel;clear hb;by_cases G9:k<p.P.length
 ·have hd:=bL G9;have y:=hI (vS dN p.P k G9 T2);refine Qb fun c0 c1=>?_;obtain⟨d7,d8,rfl,z,Z⟩:=f3.o.pt G9;generalize p.P[k]=x at *;go_upto_region 15 with fail;refine yM 13 ef Qd ef ?_;intro V C;have f:=hI ((n.o.low C).next (r':=[x.id,x.sec]++((p.P.drop (k+1)).flatMap dN++T2)) y.o);replace P:=gX C P;replace z:=gX f.o.bel z;replace Z:=gX f.o.bel Z;have l0:=Mt z;refine Xj ?_
  repeat (go_big_quiet_step (fail))
  refine cl ?_;go_wp2_with (at_builtin;refine nY u rfl _ _ rfl rfl (f.o.put _) _ 2 rfl (pJ _ [x.id,x.sec] _) ?_;intro A d2 o M H a);go_roundg (p.P.length-(k+1))
  ·go_light;exact⟨k+1,o,A,d2,ed,ed,rfl,ej,H⟩
  go_light;omega
 obtain rfl:k=p.P.length:=ed;have hd:=bZ G9;have f:=hI (n.o.next (r':=[(p.G:ar)]++((p.G.drop 0).flatMap fM++T3)) (by rw[Te];exact d4.o));go_wp2_with (at_builtin;refine nY u rfl _ _ rfl rfl (f.o.put _) _ 1 rfl (pJ _ [(p.G:ar)] _) ?_;intro A d2 o M H a);go_loopg [3,8] p.G.length (fun g v i wr=> ∃(k:av) (L:aq ar) (b:ax bR) (d:av),k<=p.G.length/\g=p.G.length-k/\v=cJ b L d/\i= jV k/\WN N W0 ((p.G.drop k).flatMap fM++T3) wr b d L)
 ·exact⟨0,o,_,_,ed,ed,rfl,rfl,H⟩
 clear n f H a;obtain⟨k,L,b,d,d5,rfl,rfl,rfl,hb⟩:=hrel;have n:=hI hb;obtain⟨-,-,-,-,p1,p2⟩:=b2.o _ hb.bel;clear hb;by_cases G9:k<p.G.length
 ·have hd:=bL G9;have y:=hI (vS fM p.G k G9 T3);refine Qb fun c0 c1=>?_;obtain⟨d7,d8,rfl,z,Z,z2⟩:=f4.o.sg G9;generalize p.G[k]=x at *;go_upto_region 20 with fail;refine yM 19 ef Qd ef ?_;intro V C;have f:=hI ((n.o.low C).next (r':=[x.id,x.sec,x.en]++((p.G.drop (k+1)).flatMap fM++T3)) y.o);replace p1:=gX C p1;replace z:=gX f.o.bel z;replace Z:=gX f.o.bel Z;replace z2:=gX f.o.bel z2;have l0:=Mt z;refine Xj ?_
  repeat (go_big_quiet_step (fail))
  refine cl ?_;go_wp2_with (at_builtin;refine nY u rfl _ _ rfl rfl (f.o.put _) _ 3 rfl (pJ _ [x.id,x.sec,x.en] _) ?_;intro A d2 o M H a);go_roundg (p.G.length-(k+1))
  ·go_light;exact⟨k+1,o,A,d2,ed,ed,rfl,ej,H⟩
  go_light;omega
 obtain rfl:k=p.G.length:=ed;have hd:=bZ G9;have f:=hI (n.o.next (r':=[(p.R:ar)]++((p.R.drop 0).flatMap fT++[])) (by rw[Te];exact c7.o));go_wp2_with (at_builtin;refine nY u rfl _ _ rfl rfl (f.o.put _) _ 1 rfl (pJ _ [(p.R:ar)] _) ?_;intro A d2 o M H a);go_loopg [3,9] p.R.length (fun g v i wr=> ∃(k:av) (L:aq ar) (b:ax bR) (d:av),k<=p.R.length/\g=p.R.length-k/\v=cJ b L d/\i= jV k/\WN N W0 ((p.R.drop k).flatMap fT++[]) wr b d L)
 ·exact⟨0,o,_,_,ed,ed,rfl,rfl,H⟩
 clear n f H a;obtain⟨k,L,b,d,d5,rfl,rfl,rfl,hb⟩:=hrel;have n:=hI hb;obtain⟨-,-,-,-,-,p2⟩:=b2.o _ hb.bel;by_cases G9:k<p.R.length
 ·have hd:=bL G9;obtain⟨R,d9⟩: ∃R,R=(p.R.drop (k+1)).flatMap fT++[]:=⟨_,rfl⟩;have y:=hI (vS fT p.R k G9 []);rw[<-d9]at y;have H9:=hI d9;clear d9;refine Qb fun c0 c1=>?_;obtain⟨g0,off,g5,vo,g6,rfl,x0,x1,x2,x3,x4,x5,x6,O⟩:=f5.o.rt G9;obtain⟨v1,v2,v3,rfl,a6⟩:=O.A;obtain⟨v4,v5,v6,rfl,a7⟩:=O.O;obtain⟨v7,v8,rfl,b3⟩:=O.fl;obtain rfl:=a6.len;obtain rfl:=a7.len;have e0:=hI a6;have e1:=hI a7;have e2:=hI b3;have b4:=f1.o k G9;have g7:=b4.2.2;clear b4;replace x0:=gX hb.bel x0;replace x1:=gX hb.bel x1;replace x2:=gX hb.bel x2;replace x3:=gX hb.bel x3;replace x4:=gX hb.bel x4;replace x5:=gX hb.bel x5;replace x6:=gX hb.bel x6;refine Qw fun l2=>?_;clear hb a6 a7 b3 O;generalize p.R[k]=r at *;go_upto_region 26 with fail;obtain⟨G,a5⟩: ∃G,G=wr.heap.size:=⟨_,rfl⟩;rw[<-a5];obtain⟨r0,a8⟩: ∃c:aL bw,c=(#[r.id,r.E,r.X,js v1 r.A v3,js v4 r.O v6,js v7 r.fl v8,r.T]:aL bw):=⟨_,rfl⟩;have t:(wr.alloc (cO #[r.id,r.E,r.X,js v1 r.A v3,js v4 r.O v6,js v7 r.fl v8,r.T] 102)).heap[G]? =bt (cO r0 102 (0,0)):=(by rw[a5,a8];exact Nc _ _);have d3:=hI ((n.o.put (cO #[r.id,r.E,r.X,js v1 r.A v3,js v4 r.O v6,js v7 r.fl v8,r.T] 102)).next (y.o.trans (z7b r R)))
  have b0:bG (∀W:aj,jk W G r0 102->jc W G 0 r.id/\jc W G 1 r.E/\jc W G 2 r.X/\jc W G 3 (js v1 r.A v3)/\jc W G 4 (js v4 r.O v6)/\jc W G 5 (js v7 r.fl v8)/\jc W G 6 r.T):=by
   show∀W:aj,_;intro W h;rw[a8]at h;exact⟨(Mu W _ 0 _ _ _ h).trans rfl,(Mu W _ 1 _ _ _ h).trans rfl,(Mu W _ 2 _ _ _ h).trans rfl,(Mu W _ 3 _ _ _ h).trans rfl,(Mu W _ 4 _ _ _ h).trans rfl,(Mu W _ 5 _ _ _ h).trans rfl,(Mu W _ 6 _ _ _ h).trans rfl⟩
  clear n y a5 a8 x0 x1 x2 x3 x4 x5 x6 p2 l2;generalize cj _ _=d6 at *;have e3:=hI t;obtain⟨I,J,Y,Q,U,D,K⟩:=b0.o _ t;clear t;go_upto_region 27 with(at_builtin;refine nY u rfl _ _ rfl rfl (d3.o.put _) _ 4 rfl (pJ _ [r.id,r.E,r.X,(r.A:ar)] _) ?_;intro g8 d1 L1 V1 b5 b6);have H2:=hI (vT b6 rfl e3.o);have c6:=hI b5;clear b5 b6 I J Y Q U D K;obtain⟨I,J,Y,Q,U,D,K⟩:=b0.o _ H2.o;go_upto_region 28 with(at_builtin;refine nY u rfl _ _ rfl rfl c6.o _ _ rfl (e0.o.below c6.o.bel) ?_;intro A d2 o M H a);have H3:=hI (a _ _ _ _ H2.o rfl);have d4:=hI H;clear H a I J Y Q U D K;obtain⟨I,J,Y,Q,U,D,K⟩:=b0.o _ H3.o;go_upto_region 29 with(at_builtin;refine nY u rfl _ _ rfl rfl (d4.o.put _) _ 1 rfl (pJ _ [(r.O:ar)] _) ?_;intro g9 i0 L3 V3 b7 b8);have H4:=hI (vT b8 rfl H3.o);have c7:=hI b7;clear b7 b8 I J Y Q U D K;obtain⟨I,J,Y,Q,U,D,K⟩:=b0.o _ H4.o;go_upto_region 30 with(at_builtin;refine nY u rfl _ _ rfl rfl c7.o _ _ rfl (e1.o.below c7.o.bel) ?_;intro i1 i2 L4 V4 b9 c2);have H5:=hI (c2 _ _ _ _ H4.o rfl);have f7:=hI b9;clear b9 c2 I J Y Q U D K;obtain⟨I,J,Y,Q,U,D,K⟩:=b0.o _ H5.o;go_wp2_with (at_builtin;refine nY u rfl _ _ rfl rfl (f7.o.put _) _ 1 rfl (pJ _ [(r.fl:ar)] _) ?_;intro i3 i4 L5 V5 c3 c4);have c5:=vT c4 rfl H5.o;go_loopg [3,11] r.fl.length (fun g v i wr=> ∃(e:av) (L:aq ar) (b:ax bR) (d:av),e<=r.fl.length/\g=r.fl.length-e/\v=cJ b L d/\i= jV e/\WN N W0 ((r.fl.drop e).flatMap kC++([r.T]++R)) wr b d L/\jk wr G r0 102)
  ·exact⟨0,L5,_,_,ed,ed,rfl,rfl,c3,c5⟩
  obtain⟨e,L,b,d,he,rfl,rfl,rfl,hb,ho⟩:=hrel;refine Qa fun n d0=>?_;clear hb ho I J Y Q U D K c3 c4 c5;obtain⟨-,-,-,-,-,D,K⟩:=b0.o _ d0.o;by_cases G9:e<r.fl.length
  ·have hd:=bL G9;have y:=hI (vS kC r.fl e G9 ([r.T]++R));have c0:=aQ e;have c1:=aN G9;obtain⟨d7,d8,rfl,z,Z⟩:=e2.o.fl G9;generalize r.fl[e]=x at *;go_upto_region 34 with fail;refine yM 13 ef Qd ef ?_;intro V C;have f:=hI ((n.o.low C).next (r':=[x.pt,x.lie]++((r.fl.drop (e+1)).flatMap kC++([r.T]++R))) y.o);have H0:=hI ((jm C d0.o));replace D:=gX C D;replace z:=gX f.o.bel z;replace Z:=gX f.o.bel Z;have l0:=Mt z;refine Xj ?_
   repeat (go_big_quiet_step (fail))
   refine cl ?_;go_wp2_with (at_builtin;refine nY u rfl _ _ rfl rfl (f.o.put _) _ 2 rfl (pJ _ [x.pt,x.lie] _) ?_;intro A d2 o M H a);have E:=vT a rfl H0.o;go_roundg (r.fl.length-(e+1))
   ·go_light;exact⟨e+1,o,A,d2,ed,ed,rfl,ej,H,E⟩
   go_light;omega
  obtain rfl:e=r.fl.length:=ed;have hd:=bZ G9;have f:=hI (n.o.next (r':=[r.T]++R) (by rw[Te];rfl));go_wp2_with (at_builtin;refine nY u rfl _ _ rfl rfl (f.o.put _) _ 1 rfl (pJ _ [r.T] _) ?_;intro A d2 o M H a);go_roundg (p.R.length-(k+1))
  ·go_light;exact⟨k+1,o,A,d2,ed,ed,rfl,ej,H.next H9.o⟩
  go_light;omega
 obtain rfl:k=p.R.length:=ed;have hd:=bZ G9;have f8:=hI hb.eq;clear hb;refine ei ?_;refine⟨_,rfl,?_,?_⟩
 ·have e:L=N:=(by have:=f8.o;rw[Te]at this;simpa using this);rw[<-e];exact bW n.o.own K0.o.size
 exact jo K0 n.o.bel
def RZ: ∀(L:aq ar),(∀n∈L,eO n)->(bI L).length<=5 * L.length
 | [],_=>Pe _
 | n::L,h=>by
  have h1:=RZ L fun m H=>h m (Dy _ H);have h2:=uP (n:=n.toNat) (by have:=(h n Dq).2;omega);rw[show bI (n::L)=cD n.toNat++bI L from rfl,Mx,Du];omega
def BC (w:aj) (l:aq av) (e:Ending) (w':aj):Prop:= ∃v,e=cL v/\w'.ownsRow w 5 1 v l (eT l)/\jb w w'
def z7d (L:aq ar) (a:ax bR) (c:av) (w:aj) (hl:IL w a L L) (a0:L.length<=100000) (E: ∀n∈L,eO n):jW 280 #[js a L c] w (BC w (bI L)):=by
 have J:=hI hl
 have K:bG (∀k (h:k<L.length),∃m:av,L[k]=(m:ar)/\m<=2147483647/\bI (L.take (k+1))=bI (L.take k)++cD m):=fun k h=>by
  have h1:=E _ (Nn h);obtain⟨m,e⟩:=Ds h1.1;refine⟨m,e,by have:=h1.2;omega,?_⟩;rw[Fz,Nf h,bI,Dg,e];simp[bI]
 have M:bG (∀k,k<=L.length->(bI (L.take k)).length<=500000):=fun k h=>by
  have:=RZ (L.take k) fun n h=>E n (Tm h);rw[Dn]at this;omega
 have O:bG (L.take L=L):=Ph;go_in;go_wp2_with fail;go_loopg [3,4] L.length (fun g r i wr=> ∃(k:av) (B:ax bR) (d:av),k<=L.length/\g=L.length-k/\r=cJ B (bI (L.take k)).length d/\i= jV k/\jb w wr/\wr.ownsRow w 5 1 (js B (bI (L.take k)).length d) (bI (L.take k)).length (eT (bI (L.take k))))
 ·exact⟨0,bn,0,ed,ed,rfl,rfl,Nb _ _,Nw _ _ _ _⟩
 obtain⟨k,B,d,P,rfl,rfl,rfl,hb,ho⟩:=hrel;refine Qa fun H G=>?_;by_cases G9:k<L.length
 ·obtain⟨b,off,rfl,x0⟩:=(J.o.below hb).cell k G9;obtain⟨m,e,Q,U⟩:=K.o k G9;have HE2:=hI U;have X:=M.o k P;rw[e]at x0;refine Qw fun _=>?_;have hd:=bL G9;refine Qb fun _ c1=>?_;have Y:=uP (n:=m) ed;have s:=tL m;have t:=hI (wG m);have Z:bG (jW 370 #[jV (m:ar)] wr fun e I=> ∃v,e=cL v/\I.ownsRow wr 5 1 v (cD m).length (eT (cD m))/\jb wr I):=UH m wr ed;have u:=hb.size;generalize bI (L.take k)=F at *;generalize cD m=D at *;go_wp2_with (first | (go_at_call 370;refine Z.o.mono ?_;rintro e w1 ⟨v1,rfl,x,f⟩;obtain⟨g1,c1,rfl,y,-⟩:=CE x s t.o;have j:=hI (H.o.trans (f.mono u));have o:=hI (bU G.o f);have p:=j.o.size;have z:=hI y) | (at_builtin;refine IJ rfl _ _ rfl w (js B F d) F F rfl o.o _ D _ D rfl z.o Vy ed p ?_;intro v8 w8 q A;obtain⟨a8,c8,rfl⟩:=iG q))
  have C:=j.o.trans (dT o.o ep p A);go_roundg (L.length-(k+1))
  ·go_light;exact⟨k+1,a8,c8,ed,ed,YC,ej,C,by rw[HE2.o,Mx];exact q⟩
  go_light;omega
 obtain rfl:k=L.length:=ed;have hd:=bZ G9;refine ei ?_;have:=G.o;rw[O.o]at this ⊢;exact⟨_,rfl,this,H.o⟩
def RY {a:ax bR}{l:aq ar}(h:eP W (js a l c) l):IL W a l l:=by
 obtain⟨A,n,C,e,h⟩:=h;cases e;exact h
def z7e (p:Pl) (s q gg r:bw) (w:aj) (H:bN w s q gg r p) (t:p.Fit) (o:(gJ p).length<=100000) (hok: ∀n∈gJ p,eO n):
  jW 249 #[aT p s q gg r] w (BC w (dP p)):=by
 have u:=hI fun W x=>z7c p s q gg r W (H.below x) t o;have y:bG (∀W a c,IL W a (gJ p).length (gJ p)->jW 280 #[js a (gJ p).length c] W (BC W (dP p))):=fun W a c h=>z7d _ a c W h o hok;obtain⟨a1,k1,rfl,-⟩:=H.S;obtain⟨a2,k2,rfl,-⟩:=H.P;obtain⟨a3,k3,rfl,-⟩:=H.G;obtain⟨a4,k4,rfl,-⟩:=H.R;generalize gJ p=N at *;generalize dP p=T at *;unfold aT at *;go_in;go_upto_region 1 with fail;generalize b:cj _ _=W0;have K0:=hI (jG b)
 have hx:=jA b
 have P:=(Mu W0 _ 0 _ _ _ hx).trans rfl;have z:=(Mu W0 _ 1 _ _ _ hx).trans rfl;have A:=(Mu W0 _ 2 _ _ _ hx).trans rfl;have B:=(Mu W0 _ 3 _ _ _ hx).trans rfl;have C:=(Mu W0 _ 4 _ _ _ hx).trans rfl;have D:=(Mu W0 _ 5 _ _ _ hx).trans rfl;have l0:=aD hx;go_wp2_with (first | (go_at_call 342;refine(u.o _ K0.o).mono ?_;rintro e w1 ⟨v1,rfl,d,i⟩;obtain⟨F,G,rfl⟩:=iG d;have E:=hI (aA.ilv (l:=N) d);have f:=hI (jo K0 i)) | (go_at_call 280;refine(y.o _ _ _ (RY E.o)).mono ?_;rintro e w2 ⟨v2,rfl,j,k⟩))
 go_ret;exact⟨_,rfl,bW j f.o.size,jo f k⟩
def eY (N:av) (v:bw):av->aU:=fun b=>ab (b<N) || decide (v.ownBlock=bt b)
abbrev pY {α:Type}(W:aj) (N:av) (T:bT) (sz:av) (R:aj->aq bw->α->Prop) (v:bw) (l:aq α):Prop:=aJ W N T sz v (fun _=>R (bK (eY N v) W)) l
section
variable {α:Type}{W W':aj}{N T sz:av}{R:aj->aq bw->α->Prop}{v v':bw}{l:aq α}
def RX (W:aj) (N T sz:av) (R:aj->aq bw->α->Prop):pY W N T sz R (jN) ([]:aq α):=⟨[],Nw W N T sz,rfl,fun x h=>by simp at h,fun i h=>by simp at h⟩
def sQ (a:aY R) (h:pY W N T sz R v l) (H:jb W W'):pY W' N T sz R v l:=(aJ.below h H).imp fun _ b y k=>a _ _ _ _ (eV H) k
def BB (a:aY R) (h:pY W N T sz R v l)(H:aZ g W W') (b:g<N):pY W' N T sz R v l:=
 (aJ.only h H (fun e=>by obtain⟨xss,h1,-⟩:=h;obtain⟨c,q,hq⟩:=fD h1 e;omega)).imp fun _ d y k=>a _ _ _ _ (H.off (by unfold eY;simp[b])) k
def RU (h:pY W N T sz R v l){b:av}(H:W.heap.size<=b) (a:N<=b):eY N v b=aW:=by
 obtain⟨xss,h1,-⟩:=h;unfold eY;rw[Mw (p:=b<N) ed,Mw (p:=v.ownBlock=bt b) (fun e=>by obtain⟨c,q,hq⟩:=fD h1 e;have:=aD q;omega)];rfl
def RQ {z:bw}(ty:bT) (M:aY R) (h:pY W N T sz R v l) (Q:prog.underlying t=bt (.slice T)) (d:(prog.info? T).map (fun i=>(i.zero,i.size,i.bytes))=bt (bt z,sz,B))
  (C:z.cells.size=sz) (D:0<sz) (F:B<=1000) (a0:l.length<=1000) (O:N<=W.heap.size){b:av}{a:aq bw}{U:bT}(X:jk W b a.toArray U) (f:a.length=sz) (n: ∀u∈a,u.oneCell'=bl){x:α}(hx:R (bK (eY N v) W) a x):
  ∃A c w,(Builtin.append_ #[t,t] ty #[v,jq b 0 1 1]).run prog W= .ok (js A (l.length+1) c) w/\pY w N T sz R (js A (l.length+1) c) (l++[x])/\cB N W w:=by
 obtain⟨i0,G,I,J,K⟩:=Se d;obtain⟨xss,h1,h2,h3,h4⟩:=h;have o:(xss.length+1) * B<=140737488355328:=Nj (Io (by omega:xss.length+1<=1001) F) eh
 obtain⟨v1,w,Y,k1,k2,-,k⟩:=run_append_own_at (P:=prog) W N t ty T i0 z sz B Q G I J K C D v xss (xss.flatMap id) h1 ⟨b,0,bn⟩ 1 1 a (by rw[f,av.one_mul]) (fun j u hj=>by
  rw[oB,Mu _ _ j _ _ _ X]
  simpa using hj) n Oq o O
 obtain⟨A,c,rfl⟩:=iG k1
 have L:eD (bK (eY N v) W) (bK (eY N (js A (xss.length+1) c)) w):=fun p u e=>by
  obtain⟨q,x0⟩:=pL e;refine Qw fun H=>?_;unfold eY at q;simp only[Sd,Ns]at q
  have r:eY N (js A (xss.length+1) c) p.block=aW:=by
   unfold eY;refine Xu ?_;refine⟨q.1,fun E=> ?_⟩;rcases k with k | k
   ·rw[k]at E;exact q.2 E
   rw[k]at E
   injection E with E
   omega
  refine uC e r (fun h0=> ?_) (k2.block _ H (fun E=>q.2 E.symm));unfold eY at h0 ⊢;simp only[Gp,Dr]at h0 ⊢;rcases h0 with h0 | h0
  ·exact .inl h0
  rcases k with k | k
  ·rw[k]at h0;exact .inr h0
  rw[k]at h0
  injection h0 with h0
  omega
 rw[h2]at L;refine⟨A,c,w,by rw[<-h2];exact Y,?_,dT h1 ep O k2⟩;refine⟨xss++[a],by rw[Mx,Fb,<-h2];simpa using k1,by simp[h2],fun y s=> ?_,fun i G Z=> ?_⟩
 ·rcases Tx.1 s with s | s
  ·exact h3 y s
  rw[Tv.1 s];exact f
 show R _ _ _;by_cases H:i<xss.length
 ·rw[Sp H,Sp ed];exact M _ _ _ _ L (h4 i H ed)
 have e:i=xss.length:=(by simp at G;omega);subst e;rw[Sm ed,Sm ed];simp only[h2,Fi,aq.getElem_singleton];exact M _ _ _ _ L hx
end
structure Kp (g:av) (V W:aj):Prop where
 sz:V.heap.size<=W.heap.size
 blk: ∀k,k<V.heap.size->k≠g->W.heap[k]? =V.heap[k]?
section
variable {g:av}{V W W':aj}
def Kp.refl (g:av) (V:aj):Kp g V V:=⟨Mv _,fun _ _ _=>rfl⟩
def Kp.below (h:Kp g V W)(c:V.heap.size<=B) (H:cB B W W'):Kp g V W':=⟨Nj h.sz H.size,fun k a b=>(H.block k ed).trans (h.blk k a b)⟩
def Kp.onl (h:Kp g V W) (H:aZ g W W'):Kp g V W':=⟨by rw[H.size];exact h.sz,fun k b a=>(H.block k a).trans (h.blk k b a)⟩
def Kp.ext (h:Kp g V W)(a:S g=bl):eD (bK S V) (bK S W):=yR fun k b H=>h.blk k b (fun e=>by rw[e,a]at H;cases H)
def Kp.own (h:Kp g V W){T sz:av}{v:bw}(b:V.ownsRow B T sz v n xs) (d:g<B):W.ownsRow B T sz v n xs:=by
 refine⟨b.1,?_⟩;rcases b.2 with c | ⟨k,cap,cur,rfl,a,H,rest⟩
 ·exact .inl c
 exact .inr ⟨k,cap,cur,rfl,a,(h.blk k (aD H) ed).trans H,rest⟩
end
def Fr.low {w:aj}{L:aq (aL bw × bT)}(h:Fr w L W) (H:cB (w+L.length) W W'):Fr w L W':=
 ⟨h.bel.trans (H.mono ed),Nj h.sz H.size,fun i c a=>by
  have b:=(aq.getElem?_eq_some_iff.1 a).1
  exact(H.block _ ed).trans (h.row i c a)⟩
def RP {α:Type}{N T sz:av}{R:aj->aq bw->α->Prop}{v:bw}{l:aq α}(c:aY R) (h:pY W N T sz R v l) (j:n<=N) (d:eD (bK (eY N v) W) (bK (eY N v) W')) (e: ∀m xs,W.ownsRow N T sz v m xs->W'.ownsRow N T sz v m xs):Sl (bK (old n) W') sz R v l:=by
 obtain⟨xss,h1,h2,h3,h4⟩:=h;have H:eD (bK (eY N v) W') (bK (old n) W'):=vX fun k b=>by unfold eY at b;unfold old;simp at *;omega
 exact aJ.sl (R2:=R) (W:=bK (old n) W') ⟨xss,kU (e _ _ h1) (fun k b=>by unfold old;simp;omega),h2,h3,fun i f a=>c _ _ _ _ (d.trans H) (h4 i f a)⟩
def eL {P:Program}{f:Func}{p u:Tmp}{ty:bT}(h:f.results=#[.cell p ty,.tmp u]) (tmps:aL bw) (w:aj) (g:av) (t:bT) (cs:aL bw) (fr:av × av) (d:TypeDesc) (x:bw)
  (hi:tmps.getD p bE=cY (bt ⟨g,0,bn⟩)) (hx:tmps.getD u bE=x) (b:w.heap[g]? =bt (cO cs t fr))
  (c:P.underlying ty=bt d) (hd:(match d with | .struct _ | .array _ _=>bl | _=>aW)=bl) (e:(P.info? ty).map (·.size)=bt cs.size):
  (results f tmps).run P w= .ok (dw #[cZ cs,x]) w:=by
 have H:tmps[p]?.getD bE=cY (bt ⟨g,0,bn⟩):=Og
 have a:tmps[u]?.getD bE=x:=by simpa using hx
 simp[results,h,H,a,asAddr,Iq w g t ty cs fr d b c hd e]
