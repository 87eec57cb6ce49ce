/- Walks, laws. -/
import Derived.Test.YtbiehpjhhopjaaaGreatT16
set_option linter.all false
set_option maxRecDepth 100000
set_option maxHeartbeats 16000000
namespace Go.Proofs.YtbiehpjhhopjaaaGreat
open _root_ renaming Array->aL,Bool->aU,Bool.false->aW,Decidable.decide->ab,List->aq,Int->ar,Nat->av,Option->ax,Bool.true->bl,Option.none->bn,Option.some->bt,Decidable->cG,List.replicate->cr,absurd->cv,inferInstance->cx
open Go renaming World->aj,undef->bE,RowKit.Hid->bG,Addr->bR,TypeId->bT,Value->bw,RowKit.Below->cB,redrawn->cF,Value.slice->cJ,Ending.returned->cL,Obj.cells->cO,Value.int->cW,Value.pointer->cY,Value.agg->cZ,World.setCell->cd,World.alloc->cj,wpQuiet_nil->cl,Act.put->cq,IntKind.u32->dD,Value.bool->db,Operand.tmp->dk,IntKind.i64->dr,Value.tuple->dw
open Go.RowKit Go.Sort Go.Shelf Tryz
variable {x:Hs}{Q:Exit->Act->aj->Prop}{W w':aj}{ops:aL Oper}{b:aq ar}{md:Region.Mode}{ws:aq av}{L:aL aU}{K:Act->aj->Prop}{cap sz:av}
def wbo (i:av) (v:bw){P:Program}{l:aq Oper}{D:aj->Prop}{n:av}{a:Act}{w:aj}{N:Prop}{o:Oper}(hS:D w) (h:N)
  (ho:l[i]? =bt o:=by rfl) (hx: ∀W,(execOp a.eval o).run P W= .ok (.value v) W:=by(intro W;simp[go_sem]))
  (s:Bx N->eQ P md l.toArray Q (eG ws D) n (L.setIfInBounds i bl) (a.put o.dst v) w:=by(intro k;(conv=>arg 8;simp[cq]);exact k.o))
  (hg:Region.wanted o (yielded l.toArray a.tmps)=bl:=by kernel_rfl)
  (hB:qN md l.toArray ws L i=bl:=by kernel_rfl) (hQ: ∀(d:ax Tmp) v c a w,Q (.panic c) (a.put d v) w->Q (.panic c) a w:=by(intro d v c a w h;first | (cases d<;>exact h) | cases h.1)):eQ P md l.toArray Q (eG ws D) (n+1) L a w:=by
 replace ho:l.toArray[i]? =bt o:=by simpa using ho
 simp only[qN,Dt]at hB;obtain⟨⟨⟨⟨h1,h2⟩,h3⟩,h4⟩,h6⟩:=hB;have hcon:i∉ws:=by simpa using h4
 exact yU ho (Tp h1) (fun c a w=>hQ _ _ c a w) (fun L' w'=>vK hcon) (C:=fun _=>True) (fun _ _ _ _ _=>Py) n L a w (Fm ho h2) (vJ h6) (by simpa using h3) (.inl ⟨hg,fun w' _=>hx w'⟩) (fun _=>hS) (s ⟨h⟩)
def Lh {l:aq ar}(h: ∀b∈l,0<=b):strOfNums l=fR (l.map ar.toNat):=by
 unfold fR;rw[aq.map_map]
 congr 1
 conv=>lhs;rw[<-aq.map_id l]
 refine aq.map_congr_left fun b H=> ?_;have:=h b H;simp;omega
def Li (b:aq ar):(dx b).length=9+b.length:=by simp[dx,ve]
def Cx: ∀(l:aq (aq ar)),(∀b∈l,b.length<=200000)->(l.flatMap dx).length<=200009 * l.length
 | [],_=>ee
 | a::l,h=>by
  have h1:=h a PI;have h2:=Cx l fun b H=>h b (PN _ H);rw[SL,DN,Li,TA];omega
def Lj: ∀(l:aq Wr),(∀b∈l,b.data.length<=200000)->(l.flatMap ik).length<=200018 * l.length
 | [],_=>ee
 | a::l,h=>by
  have h1:=h a Dq;have h2:=Lj l fun b H=>h b (Dy _ H);rw[Sb,Mx,ik,Mx,ve,Li,Du];omega
def Ll {α β:Type}(f:α->aq β) (l:aq α){k:av}(h:k<l.length):(l.take (k+1)).flatMap f=(l.take k).flatMap f++f l[k]:=by
 rw[Dc h,Dg];simp
theorem Lm (x:wbm) (a:ax bR) (c:av) (b:ax bR) (d:av) (w:aj) (hx:ay w a c b d x) (hb:x.few) (ho:x.Byt):
  jW 178 #[cZ (ak a c b d x)] w fun e w'=>e=cL (.string (fR (rj x)))/\jb w w':=by
 refine Qa fun n Q=>?_;clear hb ho;unfold ak;go_enter func178,ntmps178;go_upto_region 1 with fail;generalize p:cj _ _=W0;have K0:=hI (jG p)
 have R:=hI (hx.below K0.o);have U:=hI (jA p)
 clear p hx;go_wp2_with fail;go_loopg [3,4] x.sc.length (fun g s i wr=> ∃(k:av),k<=x.sc.length/\g=x.sc.length-k/\s= .string (fR ((x.sc.take k).flatMap dx))/\i= jV k/\jb W0 wr)
 ·exact⟨0,ed,ed,rfl,rfl,Nb _ _⟩
 obtain⟨k,D,rfl,rfl,rfl,ho⟩:=hrel;have u:=jm ho U.o;have p0:=ji 0 u;have lp:=aD u;by_cases H:k<x.sc.length
 ·have hd:ab ((k:ar)<(x.sc:ar))=bl:=em;obtain⟨g,off,X,Z,rfl,pp0,Y⟩:=(R.o.below ho).S.sc H;have L:=Mt pp0;have hl:=n.o.ss k H;have a0:=n.o.n;have j:=Q.o.s _ (Nn H);have E:=hI fun W (h:jb wr W)=>(DU (Y.below fS h)).trans (by rw[Lh j.2])
  have F:((x.sc.take k).flatMap dx).length<=200009 * k:=by
   have:=Cx (x.sc.take k) fun b ho=>by
    obtain⟨i,v,rfl⟩:=No (Tm ho);exact n.o.ss i v
   rw[Dn,Gm D]at this;exact this
  have G:bG ((x.sc.take (k+1)).flatMap dx=((x.sc.take k).flatMap dx++da x.sc[k].length)++x.sc[k].map ar.toNat):=(by show _=_;rw[Ll _ _ H,Dk];rfl);have I:=hI fun W=>Ea (x.sc[k].length:ar) W ed ed;generalize x.sc[k]=B at *;generalize(x.sc.take k).flatMap dx=T at *;have e1:=ve (B:ar);have f: ∀W,(Op.stringOp .add (fR T) (fR (da B))).run prog W= .ok (.string (fR (T++da B))) W:=fun W=>xS W _ _ ed;have l: ∀W,(Op.stringOp .add (fR (T++da B)) (fR (B.map ar.toNat))).run prog W= .ok (.string (fR ((T++da B)++B.map ar.toNat))) W:=fun W=>xS W _ _ em;have c0:(0:ar)<=(k:ar):=ed;have c1:(k:ar)<(x.sc:ar):=ed;go_upto_region 5 with fail;refine zD [16] ?_;refine Vc fun V hV t0 t1=>?_;have t2:=fun t:Gw wr=>t.cel pp0;have t3:=fun t:Gw wr=>t.lt L;have t4:=fun t:Gw wr=>E.o t.w t.h;refine zB [0,1,2,3,4,5,9,10,11,12,13,14] hV ?_;refine aS 6 ef ?_;refine Oo fun K hK=>?_;refine ue ?_;clear hK K;refine aS 7 ef ?_;refine Oo fun K hK=>?_;refine vq (I.o V) fun V1 q=>?_;have D0:=jt hV q;refine Ob ?_;clear hK K;clear t0 t1 t2 t3 t4;have t5:=fun t:Gw wr=>f t.w;have t6:=fun t:Gw wr=>l t.w;refine zB [8,15] D0 ?_;refine pG [16] ef ee ?_;refine oS ?_;go_wp2_with fail;go_roundg (x.sc.length-(k+1))
  ·go_light;exact⟨k+1,ed,ed,by rw[G.o,Dk],ej,jt ho D0⟩
  go_light;omega
 obtain rfl:k=x.sc.length:=ed;have hd:ab ((x.sc:ar)<(x.sc:ar))=aW:=ee;rw[Ph]
 have F:=Cx x.sc fun b ho=>by
  obtain⟨i,v,rfl⟩:=No ho;exact n.o.ss i v
 have a0:=n.o.n;have a1:bG (rj x=(x.sc.flatMap dx++[124])++x.wt.flatMap ik):=(by show _=_;unfold rj;simp);generalize x.sc.flatMap dx=T at *;have f: ∀W,(Op.stringOp .add (fR T) ⟨#[124]⟩).run prog W= .ok (.string (fR (T++[124]))) W:=fun W=>xS W T [124] em;go_upto_region 7 with fail;go_wp2_with fail;clear f;have a2:(T++[124]).length<=200009 * x.sc.length+1:=em;generalize T++[124]=y at *;clear F hd p0 u lp;have J:=hI ho;clear ho;go_loopg [3,5] x.wt.length (fun g s i M=> ∃(k:av),k<=x.wt.length/\g=x.wt.length-k/\s= .string (fR (y++(x.wt.take k).flatMap ik))/\i= jV k/\jb W0 M)
 ·exact⟨0,ed,ed,ee,rfl,J.o⟩
 obtain⟨k,D,rfl,rfl,rfl,ho⟩:=hrel;have u:=jm ho U.o;have p0:=ji 1 u;have lp:=aD u;by_cases H:k<x.wt.length
 ·have hd:ab ((k:ar)<(x.wt:ar))=bl:=em;obtain⟨g,off,X,Z,rfl,pp0,y0,Y⟩:=(R.o.below ho).W.wr H;refine Om fun L _=>?_;have hl:=n.o.ww k H;have j:=Q.o.w _ (Nn H);have E:=hI fun W (h:jb wr W)=>(DU (Y.below fS h)).trans (by rw[Lh j.2.2])
  have F:((x.wt.take k).flatMap ik).length<=200018 * k:=by
   have:=Lj (x.wt.take k) fun b ho=>by
    obtain⟨i,v,rfl⟩:=No (Tm ho);exact n.o.ww i v
   rw[Dn,Gm D]at this;exact this
  have G:bG (y++(x.wt.take (k+1)).flatMap ik=(((y++(x.wt.take k).flatMap ik)++da x.wt[k].at_)++da x.wt[k].data.length)++x.wt[k].data.map ar.toNat):=(by show _=_;rw[Ll _ _ H];simp[ik,dx]);have N:=hI fun W=>Ea x.wt[k].at_ W j.1.1 j.1.2;have I:=hI fun W=>Ea (x.wt[k].data.length:ar) W ed ed;generalize x.wt[k].data=B at *;generalize x.wt[k].at_=A at *;have a3:(y++(x.wt.take k).flatMap ik).length<=200018 * 1000:=(by rw[Mx];omega);generalize y++(x.wt.take k).flatMap ik=T at *;have e0:=ve A;have e1:=ve (B:ar);have f: ∀W,(Op.stringOp .add (fR T) (fR (da A))).run prog W= .ok (.string (fR (T++da A))) W:=fun W=>xS W _ _ ed;have l: ∀W,(Op.stringOp .add (fR (T++da A)) (fR (da B))).run prog W= .ok (.string (fR ((T++da A)++da B))) W:=fun W=>xS W _ _ em;have z: ∀W,(Op.stringOp .add (fR ((T++da A)++da B)) (fR (B.map ar.toNat))).run prog W= .ok (.string (fR (((T++da A)++da B)++B.map ar.toNat))) W:=fun W=>xS W _ _ em;generalize C:fR (((T++da A)++da B)++B.map ar.toNat)=S3 at *;generalize fR ((T++da A)++da B)=S2 at *;generalize fR (T++da A)=S1 at *;have O:=hI C;clear C;have c0:(0:ar)<=(k:ar):=ed;have c1:(k:ar)<(x.wt:ar):=ed;go_upto_region 10 with fail;refine zD [26] ?_;refine Vc fun V hV _ _=>?_;have t2:=fun t:Gw wr=>t.cel pp0;have t3:=fun t:Gw wr=>t.lt L;have t4:=fun t:Gw wr=>E.o t.w t.h;have t5:=fun t:Gw wr=>t.cel y0;refine zB [0,1,2,3,4,5,6,9,10,11,12,13,14,18,19,20,21,22,23,24] hV ?_;refine wbo 15 (jV (B:ar)) hV ?_;refine aS 7 ef ?_;refine Oo fun K hK=>?_;refine vq (N.o V) fun V1 q=>?_;have D0:=jt hV q;refine Ob ?_;clear hK K;have t6:=fun t:Gw wr=>f t.w;refine zB [8] D0 ?_;refine aS 16 ef ?_;refine Oo fun K hK=>?_;refine vq (I.o V1) fun _ P=>?_;have r:=jt D0 P;refine hK _ _ (fun _=>r) ?_;clear hK K;have t7:=fun t:Gw wr=>l t.w;have t8:=fun t:Gw wr=>z t.w;refine zB [17,25] r ?_;refine pG [26] ef ee ?_;refine oS ?_;go_wp2_with fail;go_roundg (x.wt.length-(k+1))
  ·go_light;exact⟨k+1,ed,ed,by rw[G.o,O.o],ej,jt ho r⟩
  go_light;omega
 obtain rfl:k=x.wt.length:=ed;have hd:ab ((x.wt:ar)<(x.wt:ar))=aW:=ee;rw[Ph,<-a1.o];refine ei ?_;exact⟨rfl,jo K0 ho⟩
def vb (i:av){P:Program}{l:aq Oper}{D:aj->Prop}{n:av}{a:Act}{w:aj}{N:Prop}{o:Oper}(hS:D w) (h:N)
  (ho:l[i]? =bt o:=by rfl)
  (s:Bx N->eQ P md l.toArray Q (eG ws D) n (L.setIfInBounds i bl) (a.put o.dst bE) w:=by(intro k;(conv=>arg 8;simp[cq]);exact k.o))
  (hg:Region.wanted o (yielded l.toArray a.tmps)=aW:=by kernel_rfl)
  (hB:qN md l.toArray ws L i=bl:=by kernel_rfl) (hQ: ∀(d:ax Tmp) v c a w,Q (.panic c) (a.put d v) w->Q (.panic c) a w:=by(intro d v c a w h;first | (cases d<;>exact h) | cases h.1)):eQ P md l.toArray Q (eG ws D) (n+1) L a w:=by
 replace ho:l.toArray[i]? =bt o:=by simpa using ho
 simp only[qN,Dt]at hB;obtain⟨⟨⟨⟨h1,h2⟩,h3⟩,h4⟩,h6⟩:=hB;have hcon:i∉ws:=by simpa using h4
 exact yU ho (Tp h1) (fun c a w=>hQ _ _ c a w) (fun L' w'=>vK hcon) (C:=fun _=>True) (fun _ _ _ _ _=>Py) n L a w (Fm ho h2) (vJ h6) (by simpa using h3) (.inr ⟨hg,rfl⟩) (fun _=>hS) (s ⟨h⟩)
structure wbm.Ok (x:wbm):Prop where
 n:x.few
 s: ∀b∈x.sc,aO b
 w: ∀y∈x.wt,(-9223372036854775808<=y.at_/\y.at_<=9223372036854775807)/\aO y.data
def wbm.Ok.byt {x:wbm}(h:x.Ok):x.Byt:=
 ⟨fun b e=>⟨by obtain⟨i,H,rfl⟩:=No e;have:=h.n.ss i H;omega,fun c a=>(h.s b e c a).1⟩,fun y d=>⟨(h.w y d).1,by obtain⟨i,H,rfl⟩:=No d;have:=h.n.ww i H;omega,fun c a=>((h.w y d).2 c a).1⟩⟩
def Ln (n:ar): ∀b∈da n,b<256:=fun b H=>by
 rcases Dv.1 H with rfl | H
 ·omega
 obtain⟨z,hz,rfl⟩:=aq.mem_map.1 H;have:=Aa _ _ z hz;omega
def Lo (h:aO b): ∀c∈dx b,c<256:=fun c H=>by
 rcases Tx.1 H with H | H
 ·exact Ln _ c H
 obtain⟨z,hz,rfl⟩:=aq.mem_map.1 H;have:=h z hz;omega
def Lp {x:wbm}(h:x.Ok): ∀c∈rj x,c<256:=fun c H=>by
 rcases Tx.1 H with H | H
 ·obtain⟨b,a,H⟩:=Su.1 H;exact Lo (h.s b a) c H
 rcases Dv.1 H with rfl | H
 ·omega
 obtain⟨y,d,H⟩:=Su.1 H;rcases Tx.1 H with H | H
 ·exact Ln _ c H
 exact Lo (h.w y d).2 c H
def waJ {x y:wbm}(hx:x.Ok) (H:y.Ok):ab (x=y)=(((x.sc:ar)==(y.sc:ar))&&(((x.wt:ar)==(y.wt:ar))&&((fR (rj x)).toList==(fR (rj y)).toList))):=by
 rw[Dh];simp only[Dj,Dt,Da];constructor
 ·rintro rfl;exact⟨rfl,rfl,rfl⟩
 rintro⟨h1,h2,h3⟩;have h4:=(CH (fun i h=>Lp hx _ (Nn h)) (fun i h=>Lp H _ (Nn h))).1 (CG h3);exact(Ut hx.byt H.byt ed ed).1 h4
theorem waK (x y:wbm) (a:ax bR) (c:av) (b:ax bR) (d:av) (A:ax bR) (C:av) (n:ax bR) (D:av) (w:aj) (hx:ay w a c b d x) (u:ay w A C n D y) (k:x.Ok) (l:y.Ok):
  jW 106 #[cZ (ak a c b d x),cZ (ak A C n D y)] w (bY w (ab (x=y))):=by
 have v:bG (∀W,jb w W->ay W a c b d x/\ay W A C n D y):=fun W g=>⟨hx.below g,u.below g⟩;have i:bG (x.Ok/\y.Ok):=⟨k,l⟩;clear hx u k l;unfold ak;go_enter func106,ntmps106;go_upto_region 1 with fail;generalize o9:cj _ _=f;have p:bG (jb w f):=by refine Uy ?_;exact aR.alloc ee _
 have X:jk f w (ak a c b d x) 84:=by rw[<-o9];exact(Nv _ _ ee).trans (Nc _ _)
 have Y:jk f (w+1) (ak A C n D y) 84:=by rw[<-o9];exact Do _ _ _
 clear o9;have q:=hI fun W g=>v.o W (jo p g);have hb:=fun W (g:jb f W)=>Lm x _ _ _ _ W (q.o W g).1 i.o.1.n i.o.1.byt;have ho:=fun W (g:jb f W)=>Lm y _ _ _ _ W (q.o W g).2 i.o.2.n i.o.2.byt;have HE:=hI (waJ i.o.1 i.o.2);generalize fR (rj x)=S1 at *;generalize fR (rj y)=S2 at *;obtain⟨p0,p1⟩:=DY X;obtain⟨q0,q1⟩:=DY Y;have L:=aD X;have z:=aD Y;unfold ak at hb ho;obtain⟨b1,t1⟩: ∃b,((x.sc:ar)==(y.sc:ar))=b:=⟨_,rfl⟩;rw[t1]at HE;obtain⟨b2,t2⟩: ∃b,((x.wt:ar)==(y.wt:ar))=b:=⟨_,rfl⟩;rw[t2]at HE;obtain⟨b3,t3⟩: ∃b,(S1.toList==S2.toList)=b:=⟨_,rfl⟩;rw[t3]at HE;refine Qa fun C1 C2=>?_;clear hb ho X Y v q i;generalize ab (x=y)=B at *;refine zD [23] ?_;intro V H;have t4:=fun t:Gw f=>t.cel p0;have t5:=fun t:Gw f=>t.cel p1;have t6:=fun t:Gw f=>t.cel q0;have t7:=fun t:Gw f=>t.cel q1;have t8:=fun t:Gw f=>t.lt L;have t9:=fun t:Gw f=>t.lt z;refine zB [0,1,3,4] H ?_;refine wbo 2 (jV (x.sc:ar)) H ?_;refine wbo 5 (jV (y.sc:ar)) H ?_;refine zB [6,7] H ?_;by_cases h1:b1=aW
 ·obtain rfl:=h1;refine zB [8,9] H ?_;refine vb 10 H ?_;refine zB [11,12] H ?_;refine vb 13 H ?_;refine zB [14,15,16,17,19] H ?_;refine vb 18 H ?_;refine vb 20 H ?_;refine zB [21,22] H ?_;refine pG [23] ef ee ?_;refine oS ?_;refine ei ?_;exact⟨ew,jo p H⟩
 obtain rfl:b1=bl:=by simpa using h1
 clear h1;refine zB [8,9] H ?_;refine wbo 10 (jV (x.wt:ar)) H ?_;refine zB [11,12] H ?_;refine wbo 13 (jV (y.wt:ar)) H ?_;by_cases h2:b2=aW
 ·obtain rfl:=h2;refine zB [14,15,16,17,19] H ?_;refine vb 18 H ?_;refine vb 20 H ?_;refine zB [21,22] H ?_;refine pG [23] ef ee ?_;refine oS ?_;refine ei ?_;exact⟨ew,jo p H⟩
 obtain rfl:b2=bl:=(by simpa using h2);clear h2;refine zB [14,15,16,17,19] H ?_;clear t4 t5 t6 t7 t8 t9;refine aS 18 ef ?_;intro K hK;simp[wpOp,Region.wanted,yielded,go_sem];refine vq (C1.o V H) fun V1 r=>?_;have D0:=jt H r;refine Ob ?_;clear hK K;refine aS 20 ef ?_;intro K hK;simp[wpOp,Region.wanted,yielded,go_sem];refine vq (C2.o V1 D0) fun _ s=>?_;have j:=jt D0 s;refine hK _ _ (fun _=>j) ?_;clear hK K;refine zB [21,22] j ?_;refine pG [23] ef ee ?_;refine oS ?_;refine ei ?_;exact⟨ew,jo p j⟩
theorem We (x y:Hs) (a A:av->ax bR) (c C:av->av) (w:aj) (hx:dK w a c x) (l:dK w A C y) (i:x.Fit) (j:y.Fit):
  jW 21 #[cV a c x,cV A C y] w (bY w (ab (x=y))):=by
 refine MF fun t k=>?_;clear hx l i j;unfold cV;go_enter func21,ntmps21;go_upto_region 1 with fail;generalize o9:cj _ _=W0;have K:bG (jb w W0):=by refine Uy ?_;exact aR.alloc ee _
 have XV:=jB o9
 have Y0:=jC o9
 clear o9;have n:=hI fun W d=>t W (jo K d);have e2:=fB.of (v:=db (ab (x.pl=y.pl))) fun W d=>z35 x.pl y.pl _ _ _ _ _ _ _ _ W (n W d).1.pl (n W d).2.pl k.1.pl k.2.pl;unfold aT at e2;have e3:=fB.of (v:=db (ab (x.bk=y.bk))) fun W d=>z35 x.bk y.bk _ _ _ _ _ _ _ _ W (n W d).1.bk (n W d).2.bk k.1.bk k.2.bk;unfold aT at e3;have eA:=fB.of (v:=db (ab (x.nx=y.nx))) fun W d=>z35 x.nx y.nx _ _ _ _ _ _ _ _ W (n W d).1.nx (n W d).2.nx k.1.nx k.2.nx;unfold aT at eA;have eq:=fB.of (v:=db (ab (x.st=y.st))) fun W d=>z34 x.st y.st _ _ _ _ _ _ W (n W d).1.st (n W d).2.st k.1.st k.2.st;have e4:=fB.of (v:=db (ab (x.key=y.key))) fun W d=>Ai _ _ _ _ x.key y.key W (n W d).1.key (n W d).2.key k.1.kb k.2.kb;have eB:=fB.of (v:=db (ab (x.buf=y.buf))) fun W d=>Ai _ _ _ _ x.buf y.buf W (n W d).1.buf (n W d).2.buf k.1.bb k.2.bb
 have HE:bG (ab (x=y)=(ab (x.pl=y.pl)&&(ab (x.bk=y.bk)&&(ab (x.nx=y.nx)&&((x.high==y.high)&&((x.halted==y.halted)&&(ab (x.st=y.st)&&(ab (x.key=y.key)&&ab (x.buf=y.buf))))))))):=hI (by
  rw[Dh];simp only[Dj,Dt,Da,z39];constructor
  ·rintro⟨f,p,q,e,r,g,s,H⟩;exact⟨p,q,s,e,H,r,f,g⟩
  rintro⟨p,q,s,e,H,r,f,g⟩;exact⟨f,p,q,e,r,g,s,H⟩)
 generalize ab (x.pl=y.pl)=b1 at *;generalize ab (x.bk=y.bk)=b2 at *;generalize ab (x.nx=y.nx)=b3 at *;obtain⟨b4,t4⟩: ∃b,(x.high==y.high)=b:=⟨_,rfl⟩;rw[t4]at HE;obtain⟨b5,t5⟩: ∃b,(x.halted==y.halted)=b:=⟨_,rfl⟩;rw[t5]at HE;generalize ab (x.st=y.st)=b6 at *;generalize ab (x.key=y.key)=b7 at *;generalize ab (x.buf=y.buf)=b8 at *;refine Zo fun C2 C3 C5 C7 O P=>?_;refine Ei fun _ _ _ _ _ _ _ _ _ _ _ _ _ _ _ _ _ _ _ _ _ _ _ _ _=>?_;obtain⟨a2,a3,a4,a5,a6,a7,a8,a9,b0,b9,Y,U,V,Z,y0,y1,y2,y3,y4,y5,y6,y7,y8,y9,a0⟩:=sU Y0;clear e2 e3 eA eq e4 eB XV Y0 t n k;generalize ab (x=y)=B at *;rcases z4a b1 b2 b3 b4 b5 b6 b7 b8 with rfl | ⟨rfl,rfl⟩ | ⟨rfl,rfl,rfl⟩ | ⟨rfl,rfl,rfl,rfl⟩ | ⟨rfl,rfl,rfl,rfl,rfl⟩ | ⟨rfl,rfl,rfl,rfl,rfl,rfl⟩ | ⟨rfl,rfl,rfl,rfl,rfl,rfl,rfl⟩ | ⟨rfl,rfl,rfl,rfl,rfl,rfl,rfl,rfl⟩ | ⟨rfl,rfl,rfl,rfl,rfl,rfl,rfl,rfl⟩
 all_goals
  refine rN ?_
  repeat (go_big_quiet_step (first | (with_reducible exact C2.o _ _) | (with_reducible exact C3.o _ _) | (with_reducible exact C5.o _ _) | (with_reducible exact C7.o _ _) | (with_reducible exact O.o _ _) | (with_reducible exact P.o _ _)))
  refine cl ?_;rintro _ ⟨⟨a1,osq⟩,rfl⟩;refine ei ?_;exact⟨ew,K.trans ((Nr W0 a1 osq).mono K.size)⟩
structure Bo where
 h:Hs
 d:wbm
 g:ar
instance:DecidableEq Bo:=fun x y=>decidable_of_iff (x.h=y.h/\x.d=y.d/\x.g=y.g) ⟨fun h=>by cases x;cases y;simp_all,fun h=>by subst h;simp⟩
def bf (a:av->ax bR) (c:av->av) (x:Bo):aL bw:=#[js (a 0) x.h.key (c 0),
 jV x.h.pl.ver,
 jV x.h.pl.par,
 cJ (a 1) x.h.pl.S (c 1),
 cJ (a 2) x.h.pl.P (c 2),
 cJ (a 3) x.h.pl.G (c 3),
 cJ (a 4) x.h.pl.R (c 4),
 jV x.h.bk.ver,
 jV x.h.bk.par,
 cJ (a 5) x.h.bk.S (c 5),
 cJ (a 6) x.h.bk.P (c 6),
 cJ (a 7) x.h.bk.G (c 7),
 cJ (a 8) x.h.bk.R (c 8),
 jV x.h.high,
 cJ (a 9) x.h.st.tks (c 9),
 cJ (a 10) x.h.st.sws (c 10),
 cJ (a 11) x.h.st.lks (c 11),
 cJ (a 12) x.h.buf (c 12),
 jV x.h.nx.ver,
 jV x.h.nx.par,
 cJ (a 13) x.h.nx.S (c 13),
 cJ (a 14) x.h.nx.P (c 14),
 cJ (a 15) x.h.nx.G (c 15),
 cJ (a 16) x.h.nx.R (c 16),
 db x.h.halted,
 cJ (a 17) x.d.sc (c 17),
 cJ (a 18) x.d.wt (c 18),
 cW dD x.g]
structure dj (w:aj) (a:av->ax bR) (c:av->av) (x:Bo):Prop where
 h:dK w a c x.h
 d:ay w (a 17) (c 17) (a 18) (c 18) x.d
def dj.below {w:aj}{a:av->ax bR}{c:av->av}{x:Bo}(h:dj w a c x) (H:jb w w'):dj w' a c x:=⟨h.h.below H,h.d.below H⟩
def Jm {P:Program}(w:aj) (g off:av) (t ty:bT) (cs l:aL bw) (f:av × av) (d:TypeDesc) (c:w.heap[g]? =bt (cO cs t f)) (e: ∀(j:av) v,l[j]? =bt v->cs[off+j]? =bt v)
  (k:P.underlying ty=bt d) (hd:(match d with | .struct _ | .array _ _=>bl | _=>aW)=bl) (b:(P.info? ty).map (·.size)=bt l.size):
  (loadVar ty ⟨g,off,bn⟩).run P w= .ok (cZ l) w:=by
 have hl:=run_loadCells_list (P:=P) w ⟨g,off,bn⟩ l.toList (fun j v hi=>by
   have H:(⟨g,off,bn⟩:bR).add j=⟨g,off+j,bn⟩:=Yv;rw[H,Mu w g (off+j) cs t f c]
   exact e j v Og)
 cases hq:P.info? ty with
 | none=>simp[hq]at b
 | some i=>
  have n:i.size=l.size:=by simpa [hq]using b
  have a:(isAgg ty).run P w= .ok bl w:=by
   unfold isAgg;rw[Sn,Fk k w];cases d<;>simp_all
  simp only[aL.length_toList,aL.toArray_toList]at hl;simp[loadVar,Sn,a,sizeOf,typeInfo,hq,n,hl]
def Ch {P:Program}{o:Oper}{a:Act}{w:aj}(ty:bT) (x:Operand) (H:o.op= .load ty x)
  (g off:av) (hx:a.eval x=cY (bt ⟨g,off,bn⟩)) (t:bT) (cs l:aL bw) (f:av × av) (d:TypeDesc) (b:w.heap[g]? =bt (cO cs t f)) (c: ∀(j:av) v,l[j]? =bt v->cs[off+j]? =bt v)
  (e:P.underlying ty=bt d) (hd:(match d with | .struct _ | .array _ _=>bl | _=>aW)=bl) (i:(P.info? ty).map (·.size)=bt l.size)
  (h:K (a.put o.dst (cZ l)) w):o.wp P a w K Q:=by
 unfold Oper.wp execOp;simp only[H,hx,Instr.loadAt,Instr.sureAddr,Sn,Ty,So,Jm w g off t ty cs l f d b c e hd i];exact h
def Wf {P:Program}{rest:aq Oper}{o:Oper}{a:Act}{w:aj}(H:o.guard=bn) (ty:bT) (x:Operand) (b:o.op= .load ty x)
  (g off:av) (hx:a.eval x=cY (bt ⟨g,off,bn⟩)) (t:bT) (cs l:aL bw) (f:av × av) (d:TypeDesc) (c:w.heap[g]? =bt (cO cs t f)) (e: ∀(j:av) v,l[j]? =bt v->cs[off+j]? =bt v)
  (i:P.underlying ty=bt d) (hd:(match d with | .struct _ | .array _ _=>bl | _=>aW)=bl) (k:(P.info? ty).map (·.size)=bt l.size)
  (h:wpList P ops Q rest (a.put o.dst (cZ l)) w):wpList P ops Q (o::rest) a w:=
 Hl H fun _ n=>Ch ty x b g off hx t cs l f d c e i hd k (n _ _ h)
def Ci (a:av->ax bR) (c:av->av) (x:Bo):bf a c x=aE a c x.h++ak (a 17) (c 17) (a 18) (c 18) x.d++#[cW dD x.g]:=rfl
def ob (a:av->ax bR) (c:av->av) (x:Bo) (j:av) (v:bw) (h:(aE a c x.h)[j]? =bt v):(bf a c x)[0+j]? =bt v:=by
 obtain⟨hj,-⟩:=aL.getElem?_eq_some_iff.1 h;rw[Ci,Pa,aL.append_assoc,aL.getElem?_append_left hj];exact h
def qq (a:av->ax bR) (c:av->av) (x:Bo) (j:av) (v:bw) (h:(ak (a 17) (c 17) (a 18) (c 18) x.d)[j]? =bt v):(bf a c x)[25+j]? =bt v:=by
 obtain⟨hj,-⟩:=aL.getElem?_eq_some_iff.1 h;rw[Ci,aL.append_assoc,aL.getElem?_append_right (by rw[Ab];omega),Ab,show 25+j-25=j by omega,aL.getElem?_append_left hj];exact h
def Jo (x:Bo) (a:av->ax bR) (c:av->av) (w:aj) (hx:dj w a c x) (h1:x.h.Wide) (h2:x.d.Wide):
  jW 48 #[cZ (bf a c x)] w (wH w (x.h.Fit/\x.d.few)):=by
 have C1:=hI fun W (k:jb w W)=>yal x.h a c W (hx.h.below k) h1;have C2:=hI fun W (k:jb w W)=>war x.d _ _ _ _ W (hx.d.below k) h2;clear hx h1 h2;unfold cV at C1;have hb:=ob a c x;have ho:=qq a c x;refine ku fun n=>?_;have q:bG ((prog.info? 84).map (·.size)=bt (ak (a 17) (c 17) (a 18) (c 18) x.d).size):=by show _=_;kernel_rfl
 generalize aE a c x.h=p at *;generalize bf a c x=B at *;refine Qa fun l T7=>?_;clear hb ho;go_enter func48,ntmps48;go_upto_region 1 with fail;generalize H:cj _ _=W0;have K:=hI (jG H)
 have X0:=hI (jA H)
 clear H
 iterate 4 go_step
 refine Wf rfl 35 (dk 3) rfl w 0 rfl 87 B p (0,0) _ X0 l underlying35 rfl n ?_;simp[cq];unfold ak at C2;go_wp2_with fail;refine(C1 W0 K).mono ?_;refine qc fun W1 r1 f b=>?_;have d:=hI b;have F1:=hI f;have X1:=jm b X0;refine OA fun y0 y1=>?_;have y:=aD X1;clear b f X1;cases r1
 case true=>
  refine ei ?_;exact⟨bl,rfl,Vy,jo K d⟩
 go_wp2_with fail;refine(C2 W1 (jo K d)).mono ?_;refine qc fun _ r2 g i=>?_;have j:=hI (jo d i);have F2:=hI g;clear i g y0 y1 y;cases r2
 all_goals
  go_wp2_with fail;go_ret
  first
   | exact⟨bl,rfl,Vy,jo K j⟩
   | exact⟨aW,rfl,(fun _=>⟨F1 Py,F2 Py⟩),jo K j⟩
def gn {P:Program}{rest:aq Oper}{o:Oper}{a:Act}{w:aj}(ty:bT) (x:Operand) (b:o.op= .load ty x)
  (g off:av) (hx:a.eval x=cY (bt ⟨g,off,bn⟩)) (H:Region.wanted o (yielded ops a.tmps)=bl) (t:bT) (cs l:aL bw) (f:av × av) (d:TypeDesc) (c:w.heap[g]? =bt (cO cs t f)) (e: ∀(j:av) v,l[j]? =bt v->cs[off+j]? =bt v)
  (i:P.underlying ty=bt d) (hd:(match d with | .struct _ | .array _ _=>bl | _=>aW)=bl) (k:(P.info? ty).map (·.size)=bt l.size)
  (h:wpList P ops Q rest (a.put o.dst (cZ l)) w):wpList P ops Q (o::rest) a w:=
 wpList_step fun K n=>by rw[Np H];exact Ch ty x b g off hx t cs l f d c e i hd k (n _ _ h)
def xz (a:av->ax bR) (c:av->av) (x:Bo):(bf a c x)[27]? =bt (cW dD x.g):=rfl
structure Bo.Ok (x:Bo):Prop where
 h:x.h.Fit
 d:x.d.Ok
def Jr (x y:Bo):ab (x=y)=((x.g==y.g)&&(ab (x.h=y.h)&&ab (x.d=y.d))):=by
 rw[Dh];simp only[Dj,Dt,Da];constructor
 ·rintro rfl;exact⟨rfl,rfl,rfl⟩
 rintro⟨h1,h2,h3⟩;cases x;cases y;simp_all
def Jt (x y:Bo) (a a':av->ax bR) (c c':av->av) (w:aj) (hx:dj w a c x) (l:dj w a' c' y) (d:x.Ok) (f:y.Ok):
  jW 51 #[cZ (bf a c x),cZ (bf a' c' y)] w (bY w (ab (x=y))):=by
 have C1:=hI fun W (i:jb w W)=>BW x.h y.h a a' c c' W (hx.h.below i) (l.h.below i) d.h f.h;have C2:=hI fun W (i:jb w W)=>waK x.d y.d _ _ _ _ _ _ _ _ W (hx.d.below i) (l.d.below i) d.d f.d;have HE:=hI (Jr x y);clear hx l d f;unfold cV at C1;refine Oj fun Z5 T7=>?_;have j:=xz a c x;have HPH':=hI (ob a' c' y);have HPD':=hI (qq a' c' y);have b:=xz a' c' y;refine ku fun HI=>?_;have HI':bG ((prog.info? 35).map (·.size)=bt (aE a' c' y.h).size):=cQ;generalize aE a c x.h=HA at *;generalize bf a c x=BA at *;generalize aE a' c' y.h=HB at *;generalize bf a' c' y=BB at *;unfold ak at C2 T7 HPD';generalize ab (x=y)=B at *;generalize ab (x.h=y.h)=b1 at *;generalize ab (x.d=y.d)=b2 at *;go_enter func51,ntmps51;go_upto_region 1 with fail;generalize o9:cj _ _=W0;have K:bG (jb w W0):=by refine Uy ?_;exact aR.alloc ee _
 have X0:=hI (jB o9)
 have Y0:=hI (jC o9)
 clear o9;have p0:=(Mu _ _ _ _ _ _ X0).trans j;have q0:=(Mu _ _ _ _ _ _ Y0).trans b;have q:=aD X0;have r:=aD Y0;clear j b;cases hb0:(x.g==y.g)
 case false=>
  rw[hb0]at HE;refine ei ?_;exact⟨ew,K⟩
 rw[hb0]at HE;go_wp2_with (first | refine gn 35 (dk 11) rfl w 0 rfl rfl 87 BA HA (0,0) _ X0 Z5 underlying35 rfl HI ?_ | refine gn 35 (dk 13) rfl (w+1) 0 rfl rfl 87 BB HB (0,0) _ Y0 HPH' underlying35 rfl HI' ?_)
 refine(C1 W0 K).mono ?_;rintro e W1 ⟨rfl,H⟩;have g:=hI H;have X1:=jm H X0;have Y1:=jm H Y0;refine OA fun x5 x6=>?_;refine Ra fun y5 y6 L n=>?_;clear H X1 Y1 p0 q0 q r;cases b1
 case false=>
  refine ei ?_;exact⟨ew,jo K g⟩
 go_wp2_with fail;refine oG (C2 W1 (jo K g)) fun _ k=>?_;have p:=hI (jo g k);clear k x5 x6 y5 y6 L n;refine ei ?_;exact⟨ew,jo K p⟩
def Wi (x y:Wr):ab (x=y)=((x.at_==y.at_)&&ab (x.data=y.data)):=by
 rw[Dh];simp only[Dj,Dt,Da];constructor
 ·rintro rfl;exact⟨rfl,rfl⟩
 rintro⟨h1,h2⟩;cases x;cases y;simp_all
def Wl (x y:Wr) (a b:ax bR) (c d:av) (w:aj) (hx:aB w 1 dG a c x.data) (g:aB w 1 dG b d y.data) (h1:aO x.data) (h2:aO y.data):
  jW 197 #[cZ #[x.at_,js a x.data c],cZ #[y.at_,js b y.data d]] w (bY w (ab (x=y))):=by
 have HE:=hI (Wi x y);have C1:=hI fun W (h:jb w W)=>Ai a b c d x.data y.data W (hx.below fS h) (g.below fS h) h1 h2;clear hx g h1 h2;generalize ab (x=y)=B at *;generalize ab (x.data=y.data)=b1 at *;go_enter func197,ntmps197;go_upto_region 1 with fail;generalize o9:cj _ _=W0;have K:bG (jb w W0):=by refine Uy ?_;exact aR.alloc ee _
 have X:=jB o9
 have Y:=jC o9
 clear o9;obtain⟨x0,x1⟩:=DY X;obtain⟨y0,y1⟩:=DY Y;have l:=aD X;have L:=aD Y;clear X Y;cases hb:(x.at_==y.at_)
 case false=>
  rw[hb]at HE;refine ei ?_;exact⟨ew,K⟩
 rw[hb]at HE;go_wp2_with fail;refine oG (C1 W0 K) fun _ H=>?_;have f:=hI H;clear H x0 x1 y0 y1 l L;refine ei ?_;exact⟨ew,jo K f⟩
theorem Wm (a b:ax bR) (ca Q:av) (l m:aq Wr) (w:aj) (hl:aB w 2 du a ca l) (R:aB w 2 du b Q m) (h1:l.length<=1000) (h2:m.length<=1000) (hb: ∀i (h:i<l.length),aO l[i].data) (ho: ∀i (h:i<m.length),aO m[i].data):
  jW 198 #[js a l ca,js b m Q,.func (.func 197) #[] #[]] w (bY w (kO (fun x y=>ab (x=y)) l m)):=by
 have U:=hI fun W (H:jb w W)=>hl.below xO H;have V:=hI fun W (H:jb w W)=>R.below xO H;have F:=hI hb;have G:=hI ho;clear hb ho
 have HV1:bG (l.length≠m.length->kO (fun x y=>ab (x=y)) l m=aW):=fun h=>by
  cases hh:kO (fun x y=>ab (x=y)) l m with
  | false=>rfl
  | true=>exact cv (cA.1 hh).1 h
 have HV2:bG (l.length=m.length->(∀k (h:k<l.length) (h':k<m.length),(fun x y=>ab (x=y)) l[k] m[k]=bl)->kO (fun x y=>ab (x=y)) l m=bl):=fun h h3=>cA.2 ⟨h,h3⟩
 have I:bG (∀k (h:k<l.length) (h':k<m.length),(fun x y=>ab (x=y)) l[k] m[k]=aW->kO (fun x y=>ab (x=y)) l m=aW):=fun k h h' h3=>by
  cases hh:kO (fun x y=>ab (x=y)) l m with
  | false=>rfl
  | true=>exact cv (((cA.1 hh).2 k h h').symm.trans h3) eh
 clear hl R;generalize kO (fun x y=>ab (x=y)) l m=B at *;go_enter func198,ntmps198;by_cases N0:l.length=m.length
 ·have HLE:=hI N0;have td:((l:ar)==(m:ar))=bl:=by rw[Da];omega
  have Z:((l:ar) != (m:ar))=aW:=by rw[bne,td];rfl
  clear N0;go_wp2_with fail;go_loopg [17] l.length (fun g i wr=> ∃k:av,k<=l.length/\g=l.length-k/\i= jV k/\jb w wr/\ ∀j (h:j<l.length) (h':j<m.length),j<k->(fun x y=>ab (x=y)) l[j] m[j]=bl)
  ·exact⟨0,ed,ed,rfl,Nb _ _,fun j _ _ hj=>cv hj (Pm _)⟩
  obtain⟨k,a4,rfl,rfl,H,v⟩:=hrel;have E:=hI H;have j9:=hI v;clear H v;by_cases d:k<l.length
  ·have hd:ab ((k:ar)<(l:ar))=bl:=em;have s:k<m.length:=(by rw[<-HLE.o];exact d);obtain⟨g,off,X,K,rfl,pp0,x1,z⟩:=(U wr E).wr d;obtain⟨g2,T,Y,L,rfl,y0,y1,A⟩:=(V wr E).wr s;have M:=hI fun W (H:jb wr W)=>z.below fS H;have N:=hI fun W (H:jb wr W)=>A.below fS H;refine Om fun _ _=>?_;clear z A;have c0:(0:ar)<=(k:ar):=ed;have c1:(k:ar)<(l:ar):=ed;have c2:(k:ar)<(m:ar):=ed;go_upto_region 7 with fail;obtain⟨p,c⟩: ∃p,p=(wr.alloc (cO #[l[k].at_,js X l[k].data.length K] 237)).alloc (cO #[m[k].at_,js Y m[k].data.length L] 237):=⟨_,rfl⟩;rw[<-c];have t:jb wr p:=(by rw[c];exact aR.alloc ee _);have f:jk p wr #[l[k].at_,js X l[k].data.length K] 237:=(by rw[c];exact(Nv _ _ ee).trans (Nc _ _));have n:jk p (wr+1) #[m[k].at_,js Y m[k].data.length L] 237:=(by rw[c];exact Do _ _ _);have a0:=ji 0 f;have a1:=ji 1 f;have a2:=ji 0 n;have a3:=ji 1 n;have l0:=aD f;have l1:=aD n;have C:=jh E t;have q:=hI t;clear t f n c;have A7:=hI (Wl l[k] m[k] X Y K L p (M p q) (N p q) (F k d) (G k s));have r:=hI (I k d s)
   have D:bG ((fun x y=>ab (x=y)) l[k] m[k]=bl-> ∀j (h:j<l.length) (h':j<m.length),j<k+1->(fun x y=>ab (x=y)) l[j] m[j]=bl):=fun h j J O j3=>by
    by_cases P:j=k
    ·subst P;exact h
    exact j9 j J O ed
   simp only[]at r D;generalize ab (l[k]=m[k])=bk at *;cases bk with
   | true=>
    go_wp2_with fail;refine A7.mono ?_;rintro e W3 ⟨rfl,H⟩;have u:=jh C H;clear H A7;go_wp2_with fail;go_roundg (l.length-(k+1))
    ·go_light;exact⟨k+1,ed,ed,ej,u,D ee⟩
    go_light;omega
   | false=>
    have HE:=hI (r ee);go_wp2_with fail;refine A7.mono ?_;rintro e W3 ⟨rfl,H⟩;have u:=jh C H;clear H A7;refine ei ?_;exact⟨ew,u⟩
  obtain rfl:k=l.length:=ed;have hd:ab ((l:ar)<(l:ar))=aW:=ee;refine ZJ fun HE=>?_;refine ei ?_;exact⟨ew,E⟩
 have HE:=hI (HV1 N0);have td:((l:ar)==(m:ar))=aW:=by rw[Nd];omega
 have Z:((l:ar) != (m:ar))=bl:=by rw[bne,td];rfl
 clear N0;go_wp2_with fail;go_ret;exact⟨ew,Nb _ _⟩
theorem Ju (a b:ax bR) (ca E:av) (l m:aq (aq ar)) (w:aj) (hl:aB w 1 br a ca l) (F:aB w 1 br b E m) (h1:l.length<=1000) (h2:m.length<=1000) (hb: ∀i (h:i<l.length),aO l[i]) (ho: ∀i (h:i<m.length),aO m[i]):
  jW 199 #[js a l ca,js b m E,.func (.func 72) #[] #[]] w (bY w (kO (fun x y=>ab (x=y)) l m)):=by
 have G:=hI fun W (H:jb w W)=>hl.below xX H;have I:=hI fun W (H:jb w W)=>F.below xX H;have v:=hI hb;have z:=hI ho;clear hb ho
 have HV1:bG (l.length≠m.length->kO (fun x y=>ab (x=y)) l m=aW):=fun h=>by
  cases hh:kO (fun x y=>ab (x=y)) l m with
  | false=>rfl
  | true=>exact cv (cA.1 hh).1 h
 have HV2:bG (l.length=m.length->(∀k (h:k<l.length) (h':k<m.length),(fun x y=>ab (x=y)) l[k] m[k]=bl)->kO (fun x y=>ab (x=y)) l m=bl):=fun h h3=>cA.2 ⟨h,h3⟩
 have A:bG (∀k (h:k<l.length) (h':k<m.length),(fun x y=>ab (x=y)) l[k] m[k]=aW->kO (fun x y=>ab (x=y)) l m=aW):=fun k h h' h3=>by
  cases hh:kO (fun x y=>ab (x=y)) l m with
  | false=>rfl
  | true=>exact cv (((cA.1 hh).2 k h h').symm.trans h3) eh
 clear hl F;generalize kO (fun x y=>ab (x=y)) l m=B at *;go_enter func199,ntmps199;by_cases N0:l.length=m.length
 ·have HLE:=hI N0;have td:((l:ar)==(m:ar))=bl:=by rw[Da];omega
  have T:((l:ar) != (m:ar))=aW:=by rw[bne,td];rfl
  clear N0;go_wp2_with fail;go_loopg [17] l.length (fun g i wr=> ∃k:av,k<=l.length/\g=l.length-k/\i= jV k/\jb w wr/\ ∀j (h:j<l.length) (h':j<m.length),j<k->(fun x y=>ab (x=y)) l[j] m[j]=bl)
  ·exact⟨0,ed,ed,rfl,Nb _ _,fun j _ _ hj=>cv hj (Pm _)⟩
  obtain⟨k,M,rfl,rfl,H,p⟩:=hrel;have u:=hI H;have j9:=hI p;clear H p;by_cases c:k<l.length
  ·have hd:ab ((k:ar)<(l:ar))=bl:=em;have f:k<m.length:=(by rw[<-HLE.o];exact c);obtain⟨g,off,X,K,rfl,pp0,q⟩:=(G wr u).sc c;obtain⟨g2,O,Y,L,rfl,y0,r⟩:=(I wr u).sc f;refine Om fun _ _=>?_;have c0:(0:ar)<=(k:ar):=ed;have c1:(k:ar)<(l:ar):=ed;have c2:(k:ar)<(m:ar):=ed;have A7:=hI (Ai X Y K L l[k] m[k] wr q r (v k c) (z k f));have s:=u;clear q r;have d:=hI (A k c f)
   have t:bG ((fun x y=>ab (x=y)) l[k] m[k]=bl-> ∀j (h:j<l.length) (h':j<m.length),j<k+1->(fun x y=>ab (x=y)) l[j] m[j]=bl):=fun h j J C j3=>by
    by_cases D:j=k
    ·subst D;exact h
    exact j9 j J C ed
   simp only[]at d t;generalize ab (l[k]=m[k])=bk at *;cases bk with
   | true=>
    go_wp2_with fail;refine A7.mono ?_;rintro e W3 ⟨rfl,H⟩;have n:=jh s H;clear H A7;go_wp2_with fail;go_roundg (l.length-(k+1))
    ·go_light;exact⟨k+1,ed,ed,ej,n,t ee⟩
    go_light;omega
   | false=>
    have HE:=hI (d ee);go_wp2_with fail;refine A7.mono ?_;rintro e W3 ⟨rfl,H⟩;have n:=jh s H;clear H A7;refine ei ?_;exact⟨ew,n⟩
  obtain rfl:k=l.length:=ed;have hd:ab ((l:ar)<(l:ar))=aW:=ee;refine ZJ fun HE=>?_;refine ei ?_;exact⟨ew,u⟩
 have HE:=hI (HV1 N0);have td:((l:ar)==(m:ar))=aW:=by rw[Nd];omega
 have T:((l:ar) != (m:ar))=bl:=by rw[bne,td];rfl
 clear N0;go_wp2_with fail;go_ret;exact⟨ew,Nb _ _⟩
def Wn (x y:wbm):ab (x=y)=(ab (x.wt=y.wt)&&ab (x.sc=y.sc)):=by
 rw[Dh];simp only[Dj,Dt];constructor
 ·rintro rfl;exact⟨rfl,rfl⟩
 rintro⟨h1,h2⟩;cases x;cases y;simp_all
def Wo (x y:wbm) (a:ax bR) (c:av) (b:ax bR) (d:av) (a':ax bR) (c':av) (b':ax bR) (d':av) (w:aj) (hx:ay w a c b d x) (hy:ay w a' c' b' d' y) (hxf:x.Ok) (hyf:y.Ok):
  jW 111 #[cZ (ak a c b d x),cZ (ak a' c' b' d' y)] w (bY w (ab (x=y))):=by
 have C1:=hI fun W (h:jb w W)=>Wm b b' d d' x.wt y.wt W (hx.below h).W (hy.below h).W (by have:=hxf.n.n;omega) (by have:=hyf.n.n;omega) (fun i h=>(hxf.w _ (Nn h)).2) (fun i h=>(hyf.w _ (Nn h)).2);have C2:=hI fun W (h:jb w W)=>Ju a a' c c' x.sc y.sc W (hx.below h).S (hy.below h).S (by have:=hxf.n.n;omega) (by have:=hyf.n.n;omega) (fun i h=>hxf.s _ (Nn h)) (fun i h=>hyf.s _ (Nn h));simp only[UX]at C1 C2;have HE:=hI (Wn x y);clear hx hy hxf hyf;unfold ak;generalize ab (x=y)=B at *;generalize ab (x.wt=y.wt)=b1 at *;generalize ab (x.sc=y.sc)=b2 at *;go_enter func111,ntmps111;go_upto_region 2 with fail;generalize hW0:cj _ _=W0;have K0:bG (jb w W0):=by show cB _ _ _;rw[<-hW0];exact aR.alloc (by simp) _
 have X0:=jB hW0
 have Y0:=jC hW0
 clear hW0;have HX:=hI X0;have HY:=hI Y0;have x1:=ji 1 X0;have y1:=ji 1 Y0;have lx:=aD X0;have ly:=aD Y0;clear X0 Y0;go_wp2_with fail;refine(C1 W0 K0).mono ?_;rintro e W1 ⟨rfl,hb1⟩;have HB1:=hI hb1;have X1:=jm hb1 HX;have Y1:=jm hb1 HY;have x0:=ji 0 X1;have y0:=ji 0 Y1;have lx1:=aD X1;have ly1:=aD Y1;clear hb1 X1 Y1 x1 y1 lx ly;cases b1
 case false=>
  go_wp2_with fail;go_ret;exact⟨by rw[HE.o];rfl,jo K0 HB1⟩
 go_wp2_with fail;refine(C2 W1 (jo K0 HB1)).mono ?_;rintro e W2 ⟨rfl,hb2⟩;have HB2:=hI (jo HB1 hb2);clear hb2 x0 y0 lx1 ly1;go_wp2_with fail;go_ret;exact⟨by rw[HE.o];rfl,jo K0 HB2⟩
def Wp (x y:Bo) (a a':av->ax bR) (c c':av->av) (w:aj) (hx:dj w a c x) (l:dj w a' c' y) (d:x.Ok) (f:y.Ok):
  jW 54 #[cZ (bf a c x),cZ (bf a' c' y)] w (bY w (ab (x=y))):=by
 have C1:=hI fun W (i:jb w W)=>We x.h y.h a a' c c' W (hx.h.below i) (l.h.below i) d.h f.h;have C2:=hI fun W (i:jb w W)=>Wo x.d y.d _ _ _ _ _ _ _ _ W (hx.d.below i) (l.d.below i) d.d f.d;have HE:=hI (Jr x y);clear hx l d f;unfold cV at C1;refine Oj fun Z5 T7=>?_;have j:=xz a c x;have HPH':=hI (ob a' c' y);have HPD':=hI (qq a' c' y);have b:=xz a' c' y;refine ku fun HI=>?_;have HI':bG ((prog.info? 35).map (·.size)=bt (aE a' c' y.h).size):=cQ;generalize aE a c x.h=HA at *;generalize bf a c x=BA at *;generalize aE a' c' y.h=HB at *;generalize bf a' c' y=BB at *;unfold ak at C2 T7 HPD';generalize ab (x=y)=B at *;generalize ab (x.h=y.h)=b1 at *;generalize ab (x.d=y.d)=b2 at *;go_enter func54,ntmps54;go_upto_region 1 with fail;generalize o9:cj _ _=W0;have K:bG (jb w W0):=by refine Uy ?_;exact aR.alloc ee _
 have X0:=hI (jB o9)
 have Y0:=hI (jC o9)
 clear o9;have p0:=(Mu _ _ _ _ _ _ X0).trans j;have q0:=(Mu _ _ _ _ _ _ Y0).trans b;have q:=aD X0;have r:=aD Y0;clear j b;cases hb0:(x.g==y.g)
 case false=>
  rw[hb0]at HE;refine ei ?_;exact⟨ew,K⟩
 rw[hb0]at HE;go_wp2_with (first | refine gn 35 (dk 11) rfl w 0 rfl rfl 87 BA HA (0,0) _ X0 Z5 underlying35 rfl HI ?_ | refine gn 35 (dk 13) rfl (w+1) 0 rfl rfl 87 BB HB (0,0) _ Y0 HPH' underlying35 rfl HI' ?_)
 refine(C1 W0 K).mono ?_;rintro e W1 ⟨rfl,H⟩;have g:=hI H;have X1:=jm H X0;have Y1:=jm H Y0;refine OA fun x5 x6=>?_;refine Ra fun y5 y6 L n=>?_;clear H X1 Y1 p0 q0 q r;cases b1
 case false=>
  refine ei ?_;exact⟨ew,jo K g⟩
 go_wp2_with fail;refine oG (C2 W1 (jo K g)) fun _ k=>?_;have p:=hI (jo g k);clear k x5 x6 y5 y6 L n;refine ei ?_;exact⟨ew,jo K p⟩
def Bc (x:Bo):aU:=gD x.h&&(!x.h.halted&&(ab (ae x.d)&&((x.d.wt:ar)==0)))
def Wq (x:Bo) (a:av->ax bR) (c:av->av) (w:aj) (hx:dj w a c x) (h1:x.h.Fit) (h2:x.d.few):
  jW 174 #[cZ (bf a c x)] w (bY w (Bc x)):=by
 have C1:=hI fun W (i:jb w W)=>QG x.h a c W (hx.h.below i) h1;have C2:=hI fun W (i:jb w W)=>Bn x.d _ _ _ _ W (hx.d.below i) h2;have HE:bG (Bc x=(gD x.h&&(!x.h.halted&&(ab (ae x.d)&&((x.d.wt:ar)==0))))):=rfl;clear hx h1 h2;unfold cV at C1;refine Oj fun g T7=>?_;refine ku fun k=>?_;have hh:(aE a c x.h)[24]? =bt (db x.h.halted):=rfl;generalize Bc x=B at *;generalize gD x.h=b1 at *;generalize ab (ae x.d)=b3 at *;generalize aE a c x.h=n at *;generalize bf a c x=p at *;unfold ak at C2 T7;go_enter func174,ntmps174;go_upto_region 1 with fail;generalize b:cj _ _=W0;have K:=hI (jG b)
 have X0:=hI (jA b)
 clear b;go_wp2_with (refine gn 35 (dk 3) rfl w 0 rfl rfl 87 p n (0,0) _ X0 g underlying35 rfl k ?_);refine oG (C1 W0 K) fun W1 d=>?_;have H:=hI d;have X1:=jm d X0;have q:=hI X1;have x4:=(Mu _ _ _ _ _ _ X1).trans (by have:=g 24 _ hh;simpa using this);refine OA fun x5 x6=>?_;have l:=aD X1;clear d X1;cases b1
 case false=>
  refine ei ?_;exact⟨ew,jo K H⟩
 generalize x.h.halted=hl at *;cases hl
 case true=>
  refine ei ?_;exact⟨ew,jo K H⟩
 go_wp2_with fail;refine oG (C2 W1 (jo K H)) fun W2 f=>?_;have j:=hI (jo H f);have X:=jm f q;have y6:jc W2 w 26 (js (a 18) x.d.wt (c 18)):=(Mu _ _ _ _ _ _ X).trans (T7 1 _ rfl);have L:=aD X;clear f X x4 x5 x6 l;cases b3
 all_goals
  refine ei ?_;exact⟨ew,jo K j⟩
def Bd (h:gD x=bl) (hh:x.halted=aW):bS x.pl/\x.pl.ver<=x.high/\x.high<=2147483647/\mX x.pl x.st=0/\(x.bk=bV\/bS x.bk/\x.bk.ver=x.pl.par):=by
 unfold gD at h;rw[hh]at h;simp only[cond_false,QJ,Dt,Gp,Dj,Da]at h;exact⟨h.2.2.1,h.2.2.2.1,h.2.2.2.2.1,h.2.2.2.2.2.2.1,h.2.2.2.2.2.2.2.1⟩
def Ws (x:Hs) (a:av->ax bR) (c:av->av) (w:aj) (hx:dK w a c x) (P:x.Fit) (a0:gD x=bl) (hh:x.halted=aW):
  jW 190 #[cV a c x] w (uZ w 0):=by
 have a1:=hI fun W (z:jb w W)=>hx.below z;have Q:=hI P;obtain⟨k1,k2,k3,k4,k5⟩:=Bd a0 hh;clear hx P a0;unfold cV;go_enter func190,ntmps190;go_upto_region 1 with fail;generalize A:cj _ _=Y;have K0:=hI (jG A)
 have XV:=hI (jA A)
 clear A;have R:=hI fun W z=>a1 W (jo K0 z);have c1:=fB.of (v:=db (ab (x.bk=bV))) fun W z=>Lx x.bk _ _ _ _ W (R W z).bk Q.bk;have T:=fB.of (v:= jV (if bS x.bk then 0 else 100)) fun W z=>LM x.bk _ _ _ _ W (R W z).bk Q.bk;unfold aT at c1 T;have Z:=hI fun W z=>z5t x.pl x.st _ _ _ _ _ _ _ W (R W z).pl Q.pl (R W z).st Q.st;unfold aT pV at Z;rw[k4]at Z;refine Ei fun D E F G I J L M N O b d f g i j k l n p q r s t X=>?_;have t1:ab (x.high<x.pl.ver)=aW:=em
 have t2:ab ((2147483647:ar)<x.high)=aW:=em
 clear a1 R Q k1 k2 k3 k4;have cN:=hI c1
 have key: ∀(U:aU),ab (x.bk=bV)=U->(U=aW->(if bS x.bk then 0 else 100:ar)=0/\(x.bk.ver==x.pl.par)=bl):=fun U H h0=>by
  subst h0;rcases k5 with h | ⟨h,h'⟩
  ·rw[Ns]at H;exact cv h H
  exact⟨Np h,by rw[Da];exact h'⟩
 have K:=hI (key _ rfl);clear key c1 k5;generalize ab (x.bk=bV)=U at *;cases U
 case false=>
  obtain⟨t3,t4⟩:=K rfl;rw[t3]at T;have cS:=hI T;clear T K t3;refine rN ?_
  repeat (go_big_quiet_step (first | (with_reducible exact cN.o _ _) | (with_reducible exact cS.o _ _)))
  refine cl ?_;rintro _ ⟨⟨V,osq⟩,rfl⟩;have H:=Nr Y V osq;generalize grow (cF Y V) osq=W1 at *;have u:=hI H;have B:=jm H XV;clear H D E F G I J L M N O b d f g i j k l n p q r s t X;obtain⟨D,E,F,G,I,J,L,M,N,O,b,d,f,g,i,j,k,l,n,p,q,r,s,t,X⟩:=nN B;have lb:=aD B;clear B;rw[hh]at X;go_wp2_with fail;refine oG (Z W1 u) fun W2 y=>?_;have C:=hI (jo u y);clear y lb D E F G I J L M N O b d f g i j k l n p q r s t X;refine ei ?_;exact⟨rfl,jo K0 C⟩
 case true=>
  clear T K;refine rN ?_
  repeat (go_big_quiet_step (first | (with_reducible exact cN.o _ _)))
  refine ey ?_;rintro _ ⟨⟨V,osq⟩,rfl⟩;have H:=Nr Y V osq;generalize grow (cF Y V) osq=W1 at *;have u:=hI H;have B:=jm H XV;clear H D E F G I J L M N O b d f g i j k l n p q r s t X;obtain⟨D,E,F,G,I,J,L,M,N,O,b,d,f,g,i,j,k,l,n,p,q,r,s,t,X⟩:=nN B;have lb:=aD B;clear B;rw[hh]at X;go_wp2_with fail;refine oG (Z W1 u) fun _ y=>?_;have C:=hI (jo u y);clear y lb D E F G I J L M N O b d f g i j k l n p q r s t X;refine ei ?_;exact⟨rfl,jo K0 C⟩
def EB (x:Pl) (s q g r:bw) (w:aj) (hx:bN w s q g r x) (k:x.Fit) (n:bX x):
  jW 191 #[aT x s q g r] w fun e w'=> ∃a c,e=cL (dw #[js a (dP x).length c,jV 0])/\w'.ownsRow w 5 1 (js a (dP x).length c) (dP x).length (eT (dP x))/\jb w w':=by
 have C1:=hI fun W (p:jb w W)=>WG x s q g r W (hx.below p) k;have C2:=hI fun W (p:jb w W)=>zn x s q g r W (hx.below p) (wN n) (PF n);rw[Np n]at C1;obtain⟨a1,a2,rfl,-⟩:=hx.S;obtain⟨a3,a4,rfl,-⟩:=hx.P;obtain⟨a5,a6,rfl,-⟩:=hx.G;obtain⟨a7,a8,rfl,-⟩:=hx.R;clear hx k n;unfold aT at *;generalize dP x=T at *;go_enter func191,ntmps191;go_upto_region 1 with fail;generalize b:cj _ _=W0;have K0:=hI (jG b)
 have H:=jA b
 clear b;have y:=hI H
 have d: ∀W:aj,jk W w #[x.ver,x.par,js a1 x.S a2,js a3 x.P a4,js a5 x.G a6,js a7 x.R a8] 28->
   jc W w 0 x.ver/\jc W w 1 x.par/\jc W w 2 (js a1 x.S a2)/\jc W w 3 (js a3 x.P a4)/\jc W w 4 (js a5 x.G a6)/\jc W w 5 (js a7 x.R a8):=fun W h=>
  ⟨(Mu W _ 0 _ _ _ h).trans rfl,(Mu W _ 1 _ _ _ h).trans rfl,(Mu W _ 2 _ _ _ h).trans rfl,(Mu W _ 3 _ _ _ h).trans rfl,(Mu W _ 4 _ _ _ h).trans rfl,(Mu W _ 5 _ _ _ h).trans rfl⟩
 obtain⟨p0,p1,P,z,A,B⟩:=d _ H;have L:=aD H;have C:=hI d;clear H d;go_wp2_with fail;refine oG (C1 W0 K0) fun W1 f=>?_;have i:=hI (jo K0 f);have j:=jm f y;clear p0 p1 P z A B L f;obtain⟨p0,p1,P,z,A,B⟩:=C _ j;have L:=aD j;clear j;go_wp2_with fail;refine vr (C2 W1 i) fun _ a c E l=>?_;have F:=hI (bW E i.size);have D:=hI (jo i l);clear E l p0 p1 P z A B L;go_wp2_with fail;refine Nh (v:=dw #[js a T c,jV 0]) ((results_tmp2 (fn:=Tryz.f191) (t:=2) (u:=3) rfl _ _ _).trans rfl) rfl ?_;exact⟨a,c,rfl,F,D⟩
def EG: ∀(L:aq ar),∀i (h:i<(bI L).length),(bI L)[i]<256:=fun L i h=>by
 obtain⟨n,-,h'⟩:=Su.1 (Nn h);obtain⟨j,hj,e⟩:=No h';rw[<-e];exact wG _ _ _
def RB {w:aj}{base:av}{a:ax bR}{n:av}{xs:aq bw}(h:w.ownsRow base 5 1 (js a n cap) n xs):n<=cap:=by
 rcases h.2 with⟨e,e2⟩ | ⟨g,c,cur,e,_,_,H,_⟩
 ·cases e;exact Mv _
 cases e;exact H
def bD (l:aq av):aq av:=if l.length<=65536 then cD l++l else []
def By (l:aq av):ar:=if l.length<=65536 then 0 else 4
def Au (w:aj) (l:aq av) (e:Ending) (w':aj):Prop:=
 ∃a len cap,e=cL (dw #[js a len cap,jV (By l)])/\BL w' a len (bD l)/\(a=bn->cap=0)/\len<=cap/\jb w w'
def RH {w:aj}{l:aq av}(h: ¬l.length<=65536):Au w l (cL (dw #[jN,jV 4])) w:=
 ⟨bn,0,0,by rw[By,Nm h],by rw[bD,Nm h];exact BL.nil _,fun _=>rfl,Mv _,Nb _ _⟩
def RO {w:aj}{l:aq av}{v:bw}(h:l.length<=65536) (hl: ∀i (h:i<l.length),l[i]<256) (H:w'.ownsRow w 5 1 v ((cD l).length+l.length) (eT (cD l++l))) (b:jb w w'):
  Au w l (cL (dw #[v,jV 0])) w':=by
 obtain⟨a,cap,rfl,c,d⟩:=BL.of_own H (Vh (wG _) hl);exact⟨a,_,cap,by rw[By,Np h],by rw[bD,Np h];exact c,d,RB H,b⟩
def SD (a:ax bR) (len cap:av) (l:aq av) (w:aj) (hx:BL w a len l) (na:a=bn->cap=0) (s:len<=100000):jW 274 #[js a len cap] w (Au w l):=by
 have hl:=hx.len;by_cases i:65536<len
 ·have hd:ab ((65536:ar)<(len:ar))=bl:=by simp;omega
  have p:bG (Au w l (cL (dw #[jN,jV 4])) w):=RH ed;clear hl;go_enter func274,ntmps274;go_wp2_with fail
  go_ret2
  exact p
 have hd:ab ((65536:ar)<(len:ar))=aW:=by simp;omega
 refine uc fun q=>?_;have c:=hI hx.lt;have r:=hI hl;have h5:=uP (n:=len) ed;clear hl hx;go_enter func274,ntmps274;go_wp2_with fail;refine(z2z len _ ed).mono ?_;rintro e w1 ⟨v,rfl,H,d⟩;have j:=d.size;go_wp2_with (refine IJ rfl (dk 18) (dk 19) rfl w v _ (cD len) rfl H a len cap l rfl (q w1 d) na ed j ?_;intro v2 w2 b f)
 go_ret2
 have g:=d.grown f j (fun k e=>z20 H e (Mv _));obtain rfl:=r.o;exact RO ed c b g
def EJ (a:ax bR) (len cap:av) (l:aq av) (w:aj) (hx:BL w a len l) (na:a=bn->cap=0) (i:len<=100000):
  jW 278 #[js a len cap] w fun e w'=> ∃v,e=cL v/\w'.ownsRow w 5 1 v ((cD len).length+len) (eT (cD len++l))/\jb w w':=by
 refine uc fun g=>?_;have h5:=uP (n:=len) ed;clear hx;go_enter func278,ntmps278;go_wp2_with fail;refine(UH len _ ed).mono ?_;rintro e w1 ⟨v,rfl,H,c⟩;have f:=c.size;go_wp2_with (refine IJ rfl (dk 5) (dk 6) rfl w v _ (cD len) rfl H a len cap l rfl (g w1 c) na ed f ?_;intro v2 w2 b d);go_ret;exact⟨v2,rfl,b,c.grown d f (fun k e=>z20 H e (Mv _))⟩
def vg (W:aj) (a:ax bR) (P:aq (aq av)):Prop:= ∀i (h:i<P.length),∃b off ai ci,a=bt ⟨b,off,bn⟩/\jc W b (off+i) (js ai P[i].length ci)/\BL W ai P[i].length P[i]/\(ai=bn->ci=0)
def vg.below {w:aj}{a:ax bR}{P:aq (aq av)}(h:vg w a P) (H:jb w w'):vg w' a P:=fun i d=>by
 obtain⟨b,off,A,C,e,c,f,g⟩:=h i d;exact⟨b,off,A,C,e,(H.cell (Mt c)).trans c,f.below H,g⟩
def Ac (l:aq av):(bD l).length<=66000:=by
 unfold bD;split
 ·have:=uP (n:=l.length) ed;rw[Mx];omega
 exact Pe _
def Cb: ∀(P:aq (aq av)),(P.flatMap bD).length<=66000 * P.length
 | []=>ee
 | a::l=>by
  have h1:=Ac a;have h2:=Cb l;rw[SL,DN,TA];omega
theorem Vn (P:aq (aq av)) (L:aq ar) (a:ax bR) (c:av) (Y:ax bR) (a1:av) (w:aj) (hp:vg w a P) (hl:IL w Y L L) (b6:P.length<=2) (hq: ∀l∈P,l.length<=65536) (b7:L.length<=100000) (Z: ∀n∈L,eO n):
  jW 193 #[js a P c,js Y L a1] w (BC w (P.flatMap bD++bI L)):=by
 have a2:=hI hp;have a3:=hI hl;have a4:=hI hq;have E:=hI Z;clear hp hl hq Z;go_enter func193,ntmps193;go_wp2_with fail;go_loopg [4,15] P.length (fun g r i wr=> ∃(k:av) (B:ax bR) (d:av),k<=P.length/\g=P.length-k/\r=cJ B ((P.take k).flatMap bD).length d/\i= jV k/\jb w wr/\wr.ownsRow w 5 1 (js B ((P.take k).flatMap bD).length d) ((P.take k).flatMap bD).length (eT ((P.take k).flatMap bD)))
 ·exact⟨0,bn,0,ed,ed,rfl,rfl,Nb _ _,Nw _ _ _ _⟩
 obtain⟨k,B,d,M,rfl,rfl,rfl,hb,ho⟩:=hrel;refine Qa fun HB N=>?_;by_cases H:k<P.length
 ·obtain⟨b,off,a5,a6,rfl,X,y,z⟩:=(a2.below hb) k H;have a7:=Mt X;have hd:ab ((k:ar)<(P:ar))=bl:=em;have c0:(0:ar)<=(k:ar):=ed;have c1:(k:ar)<(P:ar):=ed;have hq:=a4 _ (Nn H);have K:=hI (SD a5 P[k].length a6 P[k] wr y z ed);have HE2:bG ((P.take (k+1)).flatMap bD=(P.take k).flatMap bD++bD P[k]):=(by show _=_;rw[Dc H,Dg];simp);have a8:((P.take k).flatMap bD).length<=66000 * k:=(by have:=Cb (P.take k);rw[Dn,Gm M]at this;exact this);have J1:=hb.size;have a9:=Ac P[k];clear hb ho y z;generalize(P.take k).flatMap bD=F at *;go_wp2_with (first | (go_at_call 274;refine K.mono ?_;rintro e w1 ⟨b8,A,c2,rfl,f,C,b0,M5⟩;have j:=hI eg;have p:=hI (bU N M5);have q:=j.size;have t:=hI f;have O:=hI C;have Q:=f.len;clear C M5 f) | (at_builtin;refine IJ rfl _ _ rfl w (js B F d) F F rfl p _ A _ _ rfl t O ed q ?_;intro v8 w8 s u;obtain⟨R,T,rfl⟩:=rR s))
  have v:=j.trans (dT p (Mv _) q u);subst Q;go_roundg (P.length-(k+1))
  ·go_light;exact⟨k+1,R,T,ed,ed,YC,ej,v,by rw[HE2.o,Mx];exact s⟩
  go_light;omega
 obtain rfl:k=P.length:=ed;have hd:ab ((P:ar)<(P:ar))=aW:=ee;rw[Ph]at N ⊢;have a8:=Cb P;generalize P.flatMap bD=F at *;clear hb ho;go_wp2_with fail
 have b1:bG (∀k (h:k<L.length),∃m:av,L[k]=(m:ar)/\m<=2147483647/\bI (L.take (k+1))=bI (L.take k)++cD m):=fun k h=>by
  exact RN
 have H0:bG (∀k,k<=L.length->(bI (L.take k)).length<=500000):=fun k h=>by
  have:=RZ (L.take k) fun n h=>E n (Tm h);rw[Dn]at this;omega
 clear hd;go_loopg [4,30] L.length (fun g r i W=> ∃(k:av) (B:ax bR) (d:av),k<=L.length/\g=L.length-k/\r=cJ B (F++bI (L.take k)).length d/\i= jV k/\jb w W/\W.ownsRow w 5 1 (js B (F++bI (L.take k)).length d) (F++bI (L.take k)).length (eT (F++bI (L.take k))))
 ·exact⟨0,B,d,ed,ed,by simp[bI],rfl,HB,by simpa [bI]using N.o⟩
 obtain⟨k,B,d,M,rfl,rfl,rfl,hb,ho⟩:=hrel;refine Qa fun I x=>?_;by_cases H:k<L.length
 ·obtain⟨b,off,rfl,X⟩:=(a3.below hb).cell k H;obtain⟨m,e,b2,a0⟩:=b1 k H;have HE2:bG (F++bI (L.take (k+1))=(F++bI (L.take k))++cD m):=(by show _=_;rw[a0,Dk]);have b3:=H0 k M;rw[e]at X;have a7:=Mt X;have hd:ab ((k:ar)<(L:ar))=bl:=em;have c0:(0:ar)<=(k:ar):=ed;have c1:(k:ar)<(L:ar):=ed;have b4:=uP (n:=m) ed;have U:=tL m;have V:=hI (wG m);have K:=hI (z2z m wr ed);unfold UI at K;have J1:=hb.size;have b5:(F++bI (L.take k)).length<=640000:=(by rw[Mx];omega);clear hb ho e a0;generalize F++bI (L.take k)=G at *;generalize cD m=D at *;go_wp2_with (first | (go_at_call 275;refine K.mono ?_;refine qc fun _ _ J M5=>?_;obtain⟨g1,c1,rfl,f,-⟩:=CE J U V;have j:=hI (I.trans (M5.mono J1));have p:=hI (bU x M5);have q:=j.size;have t:=hI f;clear J M5 f) | (at_builtin;refine IJ rfl _ _ rfl w (js B G d) G G rfl p _ D _ D rfl t Vy ed q ?_;intro v8 w8 s u;obtain⟨R,T,rfl⟩:=rR s))
  have v:=j.trans (dT p (Mv _) q u);go_roundg (L.length-(k+1))
  ·go_light;exact⟨k+1,R,T,ed,ed,YC,ej,v,by rw[HE2.o,Mx];exact s⟩
  go_light;omega
 obtain rfl:k=L.length:=ed;have hd:ab ((L:ar)<(L:ar))=aW:=ee;clear hb ho;rw[Ph]at x ⊢;refine ei ?_;exact⟨_,rfl,x,I⟩
def nn:cy.length=128:=aq.length_replicate
def be:ae ck:=⟨aq.length_replicate,by simp[ck],fun b H=>by rw[(aq.mem_replicate.1 H).2];exact nn,fun y a=>by cases a⟩
def ID {n:av}(h:n<32):(bF ck.sc ck.wt).getD n []=cy:=by
 show(cr 32 cy).getD n []=cy;rw[Na,aq.getElem?_replicate,Np h];rfl
def z4:aq ar:=[0,0,0,0]
def IE:(cy.drop 0).take 4=z4:=by decide
def Ja:(cy.drop 124).take 4=z4:=by decide
def Vu (a:ax bR) (c:av) (b:ax bR) (d:av) (w:aj) (hx:ay w a c b d ck):
  jW 266 #[cZ (ak a c b d ck),cW dD 0] w fun e w'=>e=cL (cW dD 1)/\jb w w':=by
 refine uc fun E=>?_;clear hx;have F:=hI fun W=>Bf 0 eh eh W;have s:=hI fun W=>Bf 1 eh eh W;have C:ak a c b d ck=(#[js a 32 c,js b 0 d]:aL bw):=rfl;rw[C];go_enter func266,ntmps266;go_upto_region 1 with fail;generalize f:cj _ _=t;have K0:=hI (jG f)
 have G:=hI (jA f)
 clear f;go_wp2_with (go_at_call 362;refine(F t).mono ?_;rintro e l ⟨rfl,I⟩;obtain rfl:t=l:=I.symm;simp only[bo]);go_loopg [6,7] 16 (fun g m i wr=> ∃(k:av),k<=16/\g=16-k/\m= jV 0/\i= jV k/\jb t wr)
 ·exact⟨0,ed,ed,rfl,rfl,Nb _ _⟩
 obtain⟨k,N,rfl,rfl,rfl,u⟩:=hrel;have v:=hI u;have bx:=jm u G;clear u;by_cases J:k<16
 ·have hd:ab ((k:ar)<16)=bl:=em;refine vF fun p0 p1 L=>?_;have y:=Ix ck a c b d (16+k) wr (E wr (jo K0 v)) be ed;rw[ID ed,C,show((16+k:av):ar)=16+(k:ar)by omega]at y;have K:=hI y;clear y bx;go_upto_region 7 with(go_at_call 363;refine K.mono ?_;rintro e l ⟨a1,c1,rfl,j,n⟩);have H:=fj j nn
  obtain⟨g1,rfl⟩: ∃g1,a1=bt ⟨g1,0,bn⟩:=by
   obtain⟨g,off,O,e,-⟩:=H.at_ 0 ex;subst e;rcases j.2 with⟨h,-⟩ | ⟨P,cap,cur,h,-⟩
   ·cases h
   cases h;exact⟨_,rfl⟩
  have D:128<=c1:=(by have:=H.le;rw[nn]at this;exact this);have Q:=iw H 0 4 ex;have z:=iw H 124 4 ex;rw[IE]at Q;rw[Ja]at z;have p:=hI fun W (h:jb l W)=>Bh z4 _ _ W (Q.below fS h) OS eh;have q:=hI fun W (h:jb l W)=>Bh z4 _ _ W (z.below fS h) OS eh;have M:de z4=0:=eh;simp only[show z4.length=4 from rfl,M,Pa,av.sub_zero]at p q;have A:=hI (jo v n);clear Q z H j n p0 p1 L;refine zD [7] ?_;intro V r;refine zB [0,1,2,4,5] r ?_;refine zK 3 r (fun W h=>p W h) ?_;refine zK 6 r (fun W h=>q W h) ?_;refine pG [7,8] ef ee ?_;refine oS ?_;go_wp2_with fail;go_roundg (16-(k+1))
  ·go_light;exact⟨k+1,ed,ed,rfl,ej,jo A r⟩
  go_light;omega
 obtain rfl:k=16:=ed;have hd:ab (((16:av):ar)<16)=aW:=eh;go_wp2_with (go_at_call 362;refine(s wr).mono ?_;rintro e l ⟨rfl,B⟩;obtain rfl:wr=l:=B.symm;simp only[bo]);go_ret;exact⟨rfl,jo K0 v⟩
def Cc:ck.few:=be.few
theorem Vz (a:ax bR) (c:av) (b:ax bR) (d:av) (w:aj) (hx:ay w a c b d ck):
  jW 171 #[cZ (ak a c b d ck),cW dD 0] w fun e w'=>e=cL (dw #[cW dD 1,jV 0])/\jb w w':=by
 refine uc fun T=>?_;have l:=fun W (h:jb w W)=>xA ck a c b d W (hx.below h) Cc;rw[Np be]at l;clear hx;have C:=hI fun W=>Ck 1 eh eh W;have P:ak a c b d ck=(#[js a 32 c,js b 0 d]:aL bw):=rfl;rw[P]at l ⊢;have U:=hI l;clear l;go_enter func171,ntmps171;go_upto_region 1 with fail;generalize n:cj _ _=D;have K:=hI (jG n)
 have bx:=hI (jA n)
 clear n;refine vF fun p0 p1 L=>?_;go_wp2_with (first | (go_at_call 107;refine oG (U D K) fun w1 H=>?_;have E:=hI H;clear H p0 p1 L) | (go_at_call 259;refine oG (C w1) fun w2 X=>?_;obtain rfl:w1=w2:=X.symm;simp only[bo]))
 go_loopg [7,25] 16 (fun g m i wr=> ∃(k:av),k<=16/\g=16-k/\m=cW .u64 1/\i= jV k/\jb D wr)
 ·exact⟨0,ed,ed,by first | rfl | go_num,rfl,E⟩
 obtain⟨k,a3,rfl,rfl,rfl,F⟩:=hrel;have G:=hI F;have I:=jm F bx;clear F;by_cases Y:k<16
 ·have hd:ab ((k:ar)<16)=bl:=em;obtain⟨p0,p1⟩:=DY I;have L:=aD I;have l:=EA ck a c b d (16+k) wr (T wr (jo K G)) be rfl ed;rw[show ck.sc.getD (16+k) []=cy from ID ed,P,show((16+k:av):ar)=16+(k:ar)by omega]at l;have Z:=hI l;clear l I;go_upto_region 9 with(go_at_call 260;refine Z.mono ?_;rintro e w3 ⟨a1,c1,rfl,r,H⟩);obtain⟨a4,c2,he,f⟩:=an _ _ _ _ dg r;rw[nn]at he;cases he
  obtain⟨g1,o1,rfl⟩: ∃g1 o1,a1=bt ⟨g1,o1,bn⟩:=by
   obtain⟨g,off,a5,e,-⟩:=f.at_ 0 ex;exact⟨g,off,e⟩
  have R:128<=c1:=(by have:=f.le;rw[nn]at this;exact this);have Q:=iw f 0 4 ex;have J:=iw f 124 4 ex;rw[IE]at Q;rw[Ja]at J;have s:=hI fun W (h:jb w3 W)=>Bj z4 _ _ W (Q.below fS h) OS eh;have y:=hI fun W (h:jb w3 W)=>Bj z4 _ _ W (J.below fS h) OS eh;have a0:de z4=0:=eh;simp only[show z4.length=4 from rfl,a0,Pk,av.sub_zero]at s y;have z:=hI (jo G H);clear Q J f r H p0 p1 L;refine zD [6] ?_;intro V q;refine zB [0,1,3,4,8] q ?_;refine zK 2 q (fun W h=>s W h) ?_;refine zK 5 q (fun W h=>y W h) ?_;refine pG [6,7] ef ee ?_;refine oS ?_;go_upto_region 10 with fail;refine Qq fun B p=>?_;have r5:=jA p;have R5:=hI r5;have M:bG (jb D B):=(by show cB _ _ _;rw[<-p];exact(jo z q).alloc (Nj z.size q.size) _);clear p r5;generalize V.heap.size=G5 at *;clear q;go_loopg [7,44] 2 (fun g m i N=> ∃(j:av),j<=2/\g=2-j/\m=cW .u64 1/\i= jV j/\N=B)
  ·exact⟨0,ed,ed,rfl,rfl,rfl⟩
  obtain⟨j,hj,rfl,rfl,rfl,A⟩:=hrel;obtain rfl:=A.symm;clear A;by_cases a2:j<2
  ·have O:ab ((j:ar)<2)=bl:=by simp;omega
   have x0:jc B G5 j (cW dD 0):=(Mu B _ j _ _ _ R5).trans (by
    rcases(show j=0\/j=1 by omega)with rfl | rfl<;>rfl)
   have a6:=aD R5;have c0:(0:ar)<=(j:ar):=ed;have c1:(j:ar)<2:=ed;go_wp2_with fail;go_roundg (2-(j+1))
   ·go_light;exact⟨j+1,ed,ed,rfl,ej,rfl⟩
   go_light;omega
  obtain rfl:j=2:=ed;have O:ab (((2:av):ar)<2)=aW:=eh;go_wp2_with fail;go_roundg (16-(k+1))
  ·go_light;exact⟨k+1,ed,ed,rfl,ej,M⟩
  go_light;omega
 obtain rfl:k=16:=ed;have hd:ab (((16:av):ar)<16)=aW:=eh;go_wp2_with fail;refine Nh (v:=dw #[cW dD 1,jV 0]) ((results_tmp2 (fn:=Tryz.f171) (t:=4) (u:=5) rfl _ _ _).trans rfl) rfl ?_;exact⟨rfl,jo K G⟩
def Cd {p:Pl}(h:bX p):(gJ p).length<=9000:=by
 have hok:=wN h;have H:=h.1.2.2.2.2.1;have d:=h.2.1.1.1.2;have e:=h.2.1.2.1.1.2;have g:=h.2.1.2.2.2;have j:=fun l=>sO iR 2 l fun _ _=>Mv _;have f:=fun l=>sO kC 2 l fun _ _=>Mv _;have i:=fun l=>sO dJ 1 l fun _ _=>Mv _;have h1:=sO eX 8 p.S fun s k=>by have:=PG (hok.shaped s k);have:=j s.ends;simp only[eX,Du];omega
 have h2:=sO dN 2 p.P fun _ _=>Mv _;have h3:=sO fM 3 p.G fun _ _=>Mv _
 have h4:=sO fT 500 p.R fun r hr=>by
  have h1:=hok.few r hr;exact Mi
 simp only[gJ,cE,Du,Mx];omega
def Bb {p:Pl}(h:bX p):(dP p).length<=65536:=by
 have h1:=RZ (gJ p) (wN h).num;have h2:=Cd h;show(bI (gJ p)).length<=_;omega
def dn (x:Hs):aq ar:=x.high::(x.st.sws.map (fun s=>s.call)++x.st.lks.flatMap fun l=>[l.ph,l.gone])
def im (x:Hs):aq (aq av):=[dP x.pl,if x.bk=bV then []else dP x.bk]
def cu (x:Hs):aq av:=(im x).flatMap bD++bI (dn x)
def Jd (l:Lk):aq ar:=[l.ph,l.gone]
def gd (x:Hs) (k:av):aq ar:=x.high::(x.st.sws.take k).map fun s=>s.call
def dy (x:Hs) (k:av):aq ar:=gd x x.st.sws++(x.st.lks.take k).flatMap Jd
def VA {k:av}(h:k<=x.st.sws.length):(gd x k).length=k+1:=by simp[gd,Gm h]
def Je {k:av}(h:k<x.st.sws.length):gd x (k+1)=gd x k++[x.st.sws[k].call]:=by
 unfold gd;rw[Dc h,Pr];rfl
def Ce (x:Hs):dy x 0=gd x x.st.sws:=by simp[dy]
def Cf {k:av}(h:k<x.st.lks.length):dy x (k+1)=dy x k++[x.st.lks[k].ph,x.st.lks[k].gone]:=by
 unfold dy;rw[Dc h,Dg,Dk];simp[Jd]
def Cg : ∀ {k:av},k<=x.st.lks.length->(dy x k).length=x.st.sws.length+1+2 * k
 | 0,_=>by rw[Ce,VA (Mv _)]
 | k+1,h=>by rw[Cf h,Mx,Cg ed];simp;omega
def Jf (x:Hs):dy x x.st.lks=dn x:=by
 unfold dy gd dn;rw[Ph,Ph];rfl
def Jg (h:gD x=bl) (hh:x.halted=aW):(∀n∈dn x,eO n)/\x.st.sws.length<=6/\x.st.lks.length<=16/\ ∀l∈x.st.lks,0<=l.ph/\l.ph<=4:=by
 obtain⟨k,k2,k3,K,k5⟩:=Bd h hh;have hok:=wN k.1;have c:=k.1.2.1.1.1.2;have d:=k.1.2.1.2.2.2
 have a:nR x.pl x.st:=by
  unfold mX at K;rw[Np k]at K;rcases Classical.em (nR x.pl x.st)with h | h
  ·exact h
  rw[Nm h]at K;cases K
 obtain⟨h1,h2,h3,h4,h5,h6⟩:=(z5o _ _).1 a.1;have e:=hok.num x.pl.ver (by simp[gJ])
 have hL: ∀l∈x.st.lks,(0<=l.ph/\l.ph<=4)/\eO l.gone:=fun l hl=>by
  obtain⟨i,b,rfl⟩:=aq.mem_iff_getElem.1 hl;have hr:i<x.pl.R.length:=ed
  have hp:=(h6 i b hr).2;have g:=(k.1.2.2 i hr hr).1.2.2.2;unfold kX at hp;unfold eO;rcases hp with h | h | h | h<;>omega
 refine⟨fun n H=> ?_,ed,ed,fun l hl=>(hL l hl).1⟩;unfold dn at H;rcases Dv.1 H with rfl | H
 ·have:=e.1;exact⟨ed,k3⟩
 rcases Tx.1 H with H | H
 ·obtain⟨s,f,rfl⟩:=aq.mem_map.1 H;obtain⟨i,b,rfl⟩:=aq.mem_iff_getElem.1 f;have:=(h5 i b ed).2.2;exact⟨ed,ed⟩
 obtain⟨l,hl,H⟩:=Su.1 H;have:=hL l hl;rcases Dv.1 H with rfl | H
 ·exact⟨ed,ed⟩
 rw[Tv]at H;subst H;exact this.2
def Jh {rest:aq Oper}{o:Oper}{a:Act}(b:o.guard=bn) (s x:Operand)
  (k:o.op= .call {callee:= .builtin .append,args:=#[s,x],argTypes:=#[54,54]}) (base:av) (v:bw) (n:av) (xs:aq ar) (l:a.eval s=v) (H:W.ownsRow base 3 1 v n (xs.map (cW dr))) (r:n<=100000) (c:base<=W.heap.size)
  (y z:ar) (hx:a.eval x=cJ (bt ⟨W,0,bn⟩) 2 2)
  (h: ∀(B C:av) w',w'.ownsRow base 3 1 (jq B 0 (n+2) C) (n+2) ((xs++[y,z]).map (cW dr))->(W.alloc (cO #[y,z] 3)).grownBy w' v.ownBlock->wpList prog ops Q rest (a.put o.dst (jq B 0 (n+2) C)) w'):
  wpList prog ops Q (o::rest) a (W.alloc (cO #[y,z] 3)):=by
 obtain⟨i0,p,d,e,f⟩:=Se rS;refine wpList_append_own_at _ b s x 54 k base 3 i0 _ 1 8 underlying54 p d e f rfl eh v n (xs.map (cW dr)) l (H.alloc _) ⟨W,0,bn⟩ 2 2 [jV y,jV z] hx rfl ?_ ?_ Oq ed em ?_
 ·intro j u hj;have q:(W.alloc (cO #[y,z] 3)).heap[W.heap.size]? =bt (cO #[y,z] 3 (0,0)):=Nc W _;rw[oB,Mu _ _ j _ _ _ q]
  simpa using hj
 ·intro u i;simp at i;rcases i with rfl | rfl<;>rfl
 intro v' w' h2 h3 _ _;rcases h2.2 with⟨_,h0⟩ | ⟨g,cap,cur,rfl,_⟩
 ·omega
 refine h g cap w' ?_ h3;rw[Pr];exact h2
def VZ (V:aj):Sem.run prog (Instr.makeSlice 81 (jV 2) (jV 2)) V= .ok (jq V 0 2 2) (V.alloc (cO #[jN,jN] 22)):=by kernel_rfl
def Ji {M:av}{a A:ax bR}{c C:av}{l1 l2:aq av}(hr:jk W M #[js a l1 c,js A l2 C] 22) (h1:BL W a l1 l1) (n1:a=bn->c=0) (h2:BL W A l2 l2) (n2:A=bn->C=0):vg W (bt ⟨M,0,bn⟩) [l1,l2]:=fun i H=>by
 rcases(show i=0\/i=1 by simp at H;omega)with rfl | rfl
 ·exact⟨M,0,a,c,rfl,(Mu _ _ _ _ _ _ hr).trans rfl,h1,n1⟩
 exact⟨M,0,A,C,rfl,(Mu _ _ _ _ _ _ hr).trans rfl,h2,n2⟩
def vh {base:av}{a:ax bR}{c:av}{l:aq av}(h:W.ownsRow base 5 1 (js a l c) l (eT l)) (hl: ∀i (h:i<l.length),l[i]<256):BL W a l l/\(a=bn->c=0):=by
 obtain⟨A,C,e,h1,h2⟩:=BL.of_own h hl;cases e;exact⟨h1,h2⟩
def Jj (W:aj) (n:ar):(W.alloc (cO #[n] 3)).ownsRow W 3 1 (jq W 0 1 1) 1 [jV n]:=
 ⟨rfl,.inr ⟨W,1,_,rfl,Mv _,Nc _ _,Mv _,eh,rfl,rfl⟩⟩
theorem Jl (x:Hs) (a:av->ax bR) (c:av->av) (w:aj) (hx:dK w a c x) (hxf:x.Fit) (hm:gD x=bl) (hh:x.halted=aW):
  jW 109 #[cV a c x] w fun e w'=> ∃a' c',e=cL (dw #[js a' (cu x).length c',cW dr 0])/\w'.ownsRow w 5 1 (js a' (cu x).length c') (cu x).length (eT (cu x))/\jb w w':=by
 have HX:=hI fun W (h:jb w W)=>hx.below h;obtain⟨k1,k2,k3,k4,k5⟩:=Bd hm hh;have C1:=hI fun W (h:jb w W)=>Ws x a c W (hx.below h) hxf hm hh;have C2:=hI fun W (h:jb w W)=>EB x.pl _ _ _ _ W (hx.below h).pl hxf.pl k1.1;have C3:=hI fun W (h:jb w W)=>Lx x.bk _ _ _ _ W (hx.below h).bk hxf.bk;have C4:=hI fun(hb: ¬x.bk=bV) W (h:jb w W)=>EB x.bk _ _ _ _ W (hx.below h).bk hxf.bk (by rcases k5 with h | h;exact cv h hb;exact h.1.1);unfold cV at C1 ⊢;unfold aT at C2 C3 C4;obtain⟨kn,ks,kl,kp⟩:=Jg hm hh;have HN:=hI kn;have HPh:=hI kp
 have HQ:bG ((im x).length=2/\ ∀l∈im x,l.length<=65536):=by
  refine⟨rfl,fun l hl=> ?_⟩;unfold im at hl;rcases Dv.1 hl with rfl | hl
  ·exact Bb k1.1
  rw[Tv]at hl;subst hl;split
  ·exact Pe _
  next hb=>rcases k5 with h | h;exact cv h hb;exact Bb h.1.1
 clear hx kn kp;go_enter func109,ntmps109;go_upto_region 1 with fail;generalize hW0:cj _ _=W0;have F0:=hI (jH hW0)
 clear hW0;go_step;refine Dx rfl 35 (dk 1) rfl w rfl 35 (aE a c x) (0,0) _ (F0.row 0 _ rfl) underlying35 rfl cQ ?_;simp[cq];go_upto_region 4 with(go_at_call 190;refine(C1 W0 F0.bel).mono ?_;rintro e W1 ⟨rfl,hb1⟩;have F1:=hI (F0.below hb1);clear hb1);have hmk:=VZ W1;go_upto_region 5 with fail;generalize hW2:cj _ _=W2;have r2:=jA hW2
 have b2:=jG hW2
 have hM:w.heap.size<W1.heap.size:=F1.lt (i:=0) (by simp);have F2:=hI (F1.below b2);have R2:=hI r2;clear hW2 r2 b2 hmk;generalize W1.heap.size=M at *;have hr2:jk W2 w (aE a c x) 35:=F2.row 0 _ rfl;obtain⟨x0,x1,x2,x3,x4,x5,x6,x7,x8,x9,x10,x11,x12,x13,x14,x15,x16,x17,x18,x19,x20,x21,x22,x23,x24⟩:=nN hr2;have lx:=aD hr2;have lm:=aD R2;clear hr2;go_upto_region 6 with(go_at_call 191;refine(C2 W2 F2.bel).mono ?_;rintro e W3 ⟨a3,c3,rfl,ho3,hb3⟩;have HO3:=hI ho3;have F3:=hI (F2.below hb3);have R3:=jm hb3 R2;have q0:=ji 0 R3;have qf:=fu R3 0;have ql:=aD R3;have HR3:=hI R3;clear x0 x1 x2 x3 x4 x5 x6 x7 x8 x9 x10 x11 x12 x13 x14 x15 x16 x17 x18 x19 x20 x21 x22 x23 x24 lx lm ho3 hb3 R3);have lm2:=aD R2;have hM2:w.heap.size≠M:=by omega
 have HO4:=hI (ownsRow_setCell_below (a:=⟨M,0,bn⟩) HO3 lm2 (js a3 (dP x.pl).length c3));have hr4:(W3.setCell ⟨M,0,bn⟩ (js a3 (dP x.pl).length c3)).heap[w.heap.size]? =bt (cO (aE a c x) 35 (0,0)):=(Ny W3 ⟨M,0,bn⟩ _ w hM2).trans (F3.row 0 _ rfl)
 have hm4:(W3.setCell ⟨M,0,bn⟩ (js a3 (dP x.pl).length c3)).heap[M]? =bt (cO #[js a3 (dP x.pl).length c3,cJ bn 0 0] 22 (0,0)):=by
  simp[cd,Nk,HR3.o]
 have k4:jb w (W3.setCell ⟨M,0,bn⟩ (js a3 (dP x.pl).length c3)):=F3.bel.setCell (by show w.heap.size<=M;omega) _;have K4:=hI k4;have HM4:=hI hm4;have HR4:=hI hr4;clear hm4 k4 q0 qf ql hM2;generalize cd _ _ _=W4 at *;obtain⟨B3,hB3⟩: ∃B3,B3=W2.heap.size:=⟨_,rfl⟩;rw[<-hB3]at HO4 lm2;clear hB3 HO3 HR3 F3 F2 R2;obtain⟨x0,x1,x2,x3,x4,x5,x6,x7,x8,x9,x10,x11,x12,x13,x14,x15,x16,x17,x18,x19,x20,x21,x22,x23,x24⟩:=nN hr4;have lx:=aD hr4;clear hr4;have BL3:=hI (vh HO4 (OX x.pl));rcases Classical.em (x.bk=bV)with hbk | hbk
 case' inl=>
  have hP:im x=[dP x.pl,[]]:=by unfold im;rw[Np hbk]
  simp only[hbk,decide_true]at C3;go_upto_region 8 with(go_at_call 192;refine(C3 W4 K4).mono ?_;rintro e W5 ⟨rfl,hb5⟩)
  have HPL:bG (vg W5 (bt ⟨M,0,bn⟩) (im x)):=by
   show vg _ _ _;rw[hP];exact Ji ((jm hb5 HM4)) (BL3.1.below hb5) BL3.2 (BL.nil _) fun _=>rfl
  have K5:=hI (jo K4 hb5);have HR5:=hI ((jm hb5 HR4));clear hb5 hP hbk x0 x1 x2 x3 x4 x5 x6 x7 x8 x9 x10 x11 x12 x13 x14 x15 x16 x17 x18 x19 x20 x21 x22 x23 x24 lx;obtain⟨W8,hW8⟩: ∃W8,W8=W5:=⟨_,rfl⟩;subst hW8;clear HR4 HM4 K4 BL3 HO4 lm2
 case' inr=>
  have hP:im x=[dP x.pl,dP x.bk]:=by unfold im;rw[Nm hbk]
  have C4':=hI (C4 hbk);simp only[hbk,decide_false]at C3;go_upto_region 7 with(go_at_call 192;refine(C3 W4 K4).mono ?_;rintro e W5 ⟨rfl,hb5⟩);have K5:=hI (jo K4 hb5);have hr5:=jm hb5 HR4;have HM5:=hI ((jm hb5 HM4));have HO5:=hI (bU HO4 hb5);have HR5:=hI hr5;clear hb5 hbk x0 x1 x2 x3 x4 x5 x6 x7 x8 x9 x10 x11 x12 x13 x14 x15 x16 x17 x18 x19 x20 x21 x22 x23 x24 lx C4;obtain⟨x0,x1,x2,x3,x4,x5,x6,x7,x8,x9,x10,x11,x12,x13,x14,x15,x16,x17,x18,x19,x20,x21,x22,x23,x24⟩:=nN hr5;have lx:=aD hr5;have lm5:=aD HM5;clear hr5;go_upto_region 8 with(go_at_call 191;refine(C4' W5 K5).mono ?_;rintro e W6 ⟨a6,c6,rfl,ho6,hb6⟩;have HO6:=hI ho6;have R6:=jm hb6 HM5;have q0:=ji 1 R6;have qf:=fu R6 1;have ql:=aD R6;have HR6:=hI R6;have HB6:=hI hb6;clear x0 x1 x2 x3 x4 x5 x6 x7 x8 x9 x10 x11 x12 x13 x14 x15 x16 x17 x18 x19 x20 x21 x22 x23 x24 lx ho6 hb6 R6);have lm6:=lm5;have hM2:w.heap.size≠M:=by omega
  have HO7:=hI (ownsRow_setCell_below (a:=⟨M,1,bn⟩) HO6 lm6 (js a6 (dP x.bk).length c6));have hr7:(W6.setCell ⟨M,1,bn⟩ (js a6 (dP x.bk).length c6)).heap[w.heap.size]? =bt (cO (aE a c x) 35 (0,0)):=(Ny W6 ⟨M,1,bn⟩ _ w hM2).trans ((jm HB6 HR5))
  have hm7:(W6.setCell ⟨M,1,bn⟩ (js a6 (dP x.bk).length c6)).heap[M]? =bt (cO #[js a3 (dP x.pl).length c3,js a6 (dP x.bk).length c6] 22 (0,0)):=by
   simp[cd,Nk,HR6.o]
  have k7:jb w (W6.setCell ⟨M,1,bn⟩ (js a6 (dP x.bk).length c6)):=(jo K5 HB6).setCell (by show w.heap.size<=M;omega) _;have HOA:=hI (ownsRow_setCell_below (a:=⟨M,1,bn⟩) (bU HO5 HB6) lm2 (js a6 (dP x.bk).length c6))
  have HPL:bG (vg (W6.setCell ⟨M,1,bn⟩ (js a6 (dP x.bk).length c6)) (bt ⟨M,0,bn⟩) (im x)):=by
   show vg _ _ _;rw[hP];have e1:=vh HOA (OX x.pl);have e2:=vh HO7 (OX x.bk);exact Ji hm7 e1.1 e1.2 e2.1 e2.2
  have K7:=hI k7;have HR7:=hI hr7;clear q0 qf ql hm7 k7 hr7 HOA HO7 hP HO5 HO6 HB6 HM5 HR6 K5 HR5 HR4 HM4 K4 BL3 HO4;have K5:=K7;have HR5:=HR7;clear K7 HR7;generalize cd _ _ _=W8 at *
 all_goals
  have hr8:=HR5.o;have x13:=ji 13 hr8;have lx:=aD hr8;clear hr8;go_upto_region 9 with fail;have ho:=Jj W8 x.high;have b9:jb W8 (W8.alloc (cO #[x.high] 3)):=aR;clear x13 lx;generalize cj _ _=W9 at *;have HO9:=hI ho;have B9:=hI b9;have hr9:=jm b9 HR5;clear ho b9;have x15:=ji 15 hr9;have lx:=aD hr9;clear hr9;go_wp2_with fail;clear x15 lx
 all_goals
  go_loopg [6,44] x.st.sws.length (fun g r i wr=> ∃(k:av) (b':ax bR) (d:av),k<=x.st.sws.length/\g=x.st.sws.length-k/\r=cJ b' (k+1) d/\i= jV k/\jb W8 wr/\wr.ownsRow W8 3 1 (js b' (k+1) d) (k+1) ((gd x k).map (cW dr)))
  ·exact⟨0,bt ⟨W8,0,bn⟩,1,by omega,by omega,rfl,rfl,B9,HO9⟩
  obtain⟨k,b',d,hk,rfl,rfl,rfl,hb,ho⟩:=hrel;have HB:=hI hb;have HO:=hI ho;clear ho;by_cases hlt:k<x.st.sws.length
  ·obtain⟨a',c',e,hs⟩:=(HX wr (jo K5 hb)).st.sws;cases e;obtain⟨g,off,vs,hae,hxl,hxc,hxr⟩:=hs.at_ k hlt;obtain rfl:vs=[cW dr x.st.sws[k].id,cW dr x.st.sws[k].lie,cW dr x.st.sws[k].call]:=hxr;have x0:=hxc 0 (by simp);have x1:=hxc 1 (by simp);have x2:=hxc 2 (by simp);simp only[Pk,Nu,Dl]at x0 x1 x2;have lx:=Mt x0;have hd:ab ((k:ar)<(x.st.sws:ar))=bl:=(by simp;omega);have c0:(0:ar)<=(k:ar):=(by omega);have c1:(k:ar)<(x.st.sws:ar):=(by omega);clear hxc hs hb;rw[hae];go_upto_region 12 with fail;have hb10:jb wr (wr.alloc (cO #[x.st.sws[k].id,x.st.sws[k].lie,x.st.sws[k].call] 108)):=aR;have z2:jc (wr.alloc (cO #[x.st.sws[k].id,x.st.sws[k].lie,x.st.sws[k].call] 108)) wr 2 x.st.sws[k].call:=(Mu _ _ _ _ _ _ (Nc _ _)).trans rfl;have lz:=aD (Nc wr (cO #[x.st.sws[k].id,x.st.sws[k].lie,x.st.sws[k].call] 108));generalize cj _ _=W10 at *;have HO10:=hI (bU HO hb10);have K10:=hI (jo HB hb10);have hw10:=K10.size;have hsw:=hxf.st.2.1;clear hb10 x0 x1 x2 lx;have HT:=hI (Je hlt);generalize x.st.sws[k].call=N at *;go_wp2_with (at_builtin;refine nK rfl _ _ 54 3 3 _ 1 8 rfl underlying54 rS rfl (by decide) (by decide) W8 (js b' (k+1) d) (k+1) _ rfl HO10 (by omega) hw10 [cW dr N] rfl rfl (JB N) ?_;intro b8 c8 w8 hown8 hgr8);have hB8:=(K10.alloc hw10 _).trans (dT (HO10.alloc _) (Mv _) (by simp;omega) hgr8)
   have ho8:w8.ownsRow W8 3 1 (jq b8 0 (k+1+1) c8) (k+1+1) ((gd x (k+1)).map (cW dr)):=by
    rw[HT.o,Pr];exact hown8
   rw[<-hae];go_roundg (x.st.sws.length-(k+1))
   ·go_light;exact⟨k+1,bt ⟨b8,0,bn⟩,c8,by omega,by omega,rfl,by go_num,hB8,ho8⟩
   go_light;omega
  obtain rfl:k=x.st.sws.length:=(by omega);have hd:ab ((x.st.sws:ar)<(x.st.sws:ar))=aW:=(by simp);have hr10:=jm hb HR5;have x16:=ji 16 hr10;have lx:=aD hr10;clear hr10 hb;go_wp2_with fail;clear x16 lx;go_loopg [6,58] x.st.lks.length (fun g r i wr2=> ∃(k:av) (b':ax bR) (d:av),k<=x.st.lks.length/\g=x.st.lks.length-k/\r=cJ b' (x.st.sws.length+1+2 * k) d/\i= jV k/\jb W8 wr2/\wr2.ownsRow W8 3 1 (js b' (x.st.sws.length+1+2 * k) d) (x.st.sws.length+1+2 * k) ((dy x k).map (cW dr)))
  ·exact⟨0,b',d,by omega,by omega,rfl,rfl,HB,by rw[Ce];exact HO⟩
  obtain⟨k,b',d,hk,rfl,rfl,rfl,hb,ho⟩:=hrel;have HB2:=hI hb;have HO2:=hI ho;clear ho HB HO hd;by_cases hlt:k<x.st.lks.length
  ·obtain⟨a',c',e,hs⟩:=(HX wr (jo K5 hb)).st.lks;cases e;obtain⟨g,off,vs,hae,hxl,hxc,hxr⟩:=hs.at_ k hlt;obtain rfl:vs=[cW dr x.st.lks[k].id,cW .u8 x.st.lks[k].ph,cW dr x.st.lks[k].gone,cW dr x.st.lks[k].left]:=hxr;have x0:=hxc 0 (by simp);have x1:=hxc 1 (by simp);have x2:=hxc 2 (by simp);have x3:=hxc 3 (by simp);simp only[Pk,Nu,Dl]at x0 x1 x2 x3;have lx:=Mt x0;have hd:ab ((k:ar)<(x.st.lks:ar))=bl:=(by simp;omega);have c0:(0:ar)<=(k:ar):=(by omega);have c1:(k:ar)<(x.st.lks:ar):=(by omega);clear hxc hs hb;rw[hae];go_upto_region 17 with fail;have hb10:jb wr (wr.alloc (cO #[x.st.lks[k].id,cW .u8 x.st.lks[k].ph,x.st.lks[k].gone,x.st.lks[k].left] 99)):=aR;have z1:jc (wr.alloc (cO #[x.st.lks[k].id,cW .u8 x.st.lks[k].ph,x.st.lks[k].gone,x.st.lks[k].left] 99)) wr 1 (cW .u8 x.st.lks[k].ph):=(Mu _ _ _ _ _ _ (Nc _ _)).trans rfl;have z2:jc (wr.alloc (cO #[x.st.lks[k].id,cW .u8 x.st.lks[k].ph,x.st.lks[k].gone,x.st.lks[k].left] 99)) wr 2 x.st.lks[k].gone:=(Mu _ _ _ _ _ _ (Nc _ _)).trans rfl;have lz:=aD (Nc wr (cO #[x.st.lks[k].id,cW .u8 x.st.lks[k].ph,x.st.lks[k].gone,x.st.lks[k].left] 99));generalize cj _ _=W10 at *;have HO10:=hI (bU HO2 hb10);have K10:=hI (jo HB2 hb10);have hw10:=K10.size;have hph:=HPh _ (Nn hlt);clear hb10 x0 x1 x2 x3 lx;have HT:=hI (Cf hlt);generalize x.st.lks[k].ph=N at *;generalize x.st.lks[k].gone=G2 at *;go_wp2_with (at_builtin;refine Jh rfl _ _ rfl W8 (js b' (x.st.sws.length+1+2 * k) d) (x.st.sws.length+1+2 * k) (dy x k) rfl HO10 (by omega) hw10 N G2 rfl ?_;intro b8 c8 w8 hown8 hgr8);have hB8:=(K10.alloc hw10 _).trans (dT (HO10.alloc _) (Mv _) (by simp;omega) hgr8)
   have ho8:w8.ownsRow W8 3 1 (jq b8 0 (x.st.sws.length+1+2 * (k+1)) c8) (x.st.sws.length+1+2 * (k+1)) ((dy x (k+1)).map (cW dr)):=by
    rw[HT.o];exact hown8
   rw[<-hae];go_roundg (x.st.lks.length-(k+1))
   ·go_light;exact⟨k+1,bt ⟨b8,0,bn⟩,c8,by omega,by omega,rfl,by go_num,hB8,ho8⟩
   go_light;omega
  obtain rfl:k=x.st.lks.length:=(by omega);have hd:ab ((x.st.lks:ar)<(x.st.lks:ar))=aW:=(by simp);have hl:=Jf x;have hll:=Cg (x:=x) (Mv x.st.lks);rw[hl]at HO2 hll;clear hl;rw[<-hll]at HO2 ⊢;have HIL:=BI (show aA wr W8 (js b' (dn x).length d) (dn x)from HO2) rfl;have HC:=hI (Vn (im x) (dn x) (bt ⟨M,0,bn⟩) 2 b' d wr (HPL.below hb) HIL (by rw[HQ.o.1];decide) HQ.2 (by omega) HN);rw[HQ.o.1]at HC;unfold BC at HC;rw[show(im x).flatMap bD++bI (dn x)=cu x from rfl]at HC;clear hb hll;go_wp2_with (go_at_call 193;refine HC.mono ?_;rintro e w9 ⟨v9,rfl,ho9,hb9⟩;obtain⟨a9,c9,rfl⟩:=rR ho9);refine Nh (v:=dw #[js a9 (cu x).length c9,cW dr 0]) ((results_tmp2 (fn:=Tryz.f109) (t:=2) (u:=3) rfl _ _ _).trans rfl) rfl ?_;have h1:=Nj K5.size HB2.size;exact⟨a9,c9,rfl,bW ho9 h1,(jo K5 HB2).trans (hb9.mono h1)⟩
def Al {l:aq av}(h:l.length<=65536):bD l=cD l++l:=Np h
def Lf:bD []=[0]:=by kernel_rfl
def waE (W:aj):BL (W.alloc (cO #[cW .u8 0] 5)) (bt ⟨W,0,bn⟩) 1 (bD []):=by
 rw[Lf];exact(vh (a:=bt ⟨W,0,bn⟩) (c:=1) (l:=[0]) ⟨rfl,.inr ⟨W,1,_,rfl,Mv _,Nc _ _,Mv _,eh,rfl,rfl⟩⟩ ee).1
def Cw {l:aq av}(h: ∀i (h:i<l.length),l[i]<256): ∀i (h:i<(bD l).length),(bD l)[i]<256:=by
 have c: ∀b∈bD l,b<256:=by
  unfold bD;split
  ·intro b H;rcases Tx.1 H with H | H
   ·obtain⟨i,a,rfl⟩:=aq.mem_iff_getElem.1 H;exact wG _ i a
   obtain⟨i,a,rfl⟩:=aq.mem_iff_getElem.1 H;exact h i a
  intro b H;cases H
 exact fun i a=>c _ (Nn a)
theorem Lg (x:Hs) (a:av->ax bR) (c:av->av) (w:aj) (hx:dK w a c x) (hxf:x.Fit) (hm:gD x=bl) (hh:x.halted=aW):
  jW 196 #[cV a c x] w fun e w'=> ∃a' c',e=cL (js a' (cu x).length c')/\w'.ownsRow w 5 1 (js a' (cu x).length c') (cu x).length (eT (cu x))/\jb w w':=by
 have HX:=hI fun W (h:jb w W)=>hx.below h;obtain⟨k1,k2,k3,k4,k5⟩:=Bd hm hh;obtain⟨kn,ks,kl,kp⟩:=Jg hm hh
 have hB:bG (cu x=(bD (dP x.pl)++bD (if x.bk=bV then []else dP x.bk))++bI (dn x)):=by
  show _=_;unfold cu im;simp
 have C2:=hI fun W (h:jb w W)=>z7e x.pl _ _ _ _ W (hx.below h).pl hxf.pl (by have:=Cd k1.1;omega) (wN k1.1).num;have C3:=hI fun W (h:jb w W)=>wbj x.bk _ _ _ _ W (hx.below h).bk hxf.bk;have C4:=hI fun(hb: ¬x.bk=bV) W (h:jb w W)=>z7e x.bk _ _ _ _ W (hx.below h).bk hxf.bk (by rcases k5 with h | h;exact cv h hb;have:=Cd h.1.1;omega) (by rcases k5 with h | h;exact cv h hb;exact(wN h.1.1).num);have hL1:=Bb k1.1;have hL2:bG (¬x.bk=bV->(dP x.bk).length<=65536):=fun hb=>by rcases k5 with h | h;exact cv h hb;exact Bb h.1.1
 have HN:=hI kn;have HPh:=hI kp;have HT1:=hI (OX x.pl);have HT2:=hI (OX x.bk);unfold cV;unfold aT at C2 C3 C4;unfold BC at C2 C4;clear hx kn kp;go_enter func196,ntmps196;go_upto_region 1 with fail;generalize hW0:cj _ _=W0;have F0:=hI (jH hW0)
 clear hW0;have hr0:jk W0 w (aE a c x) 35:=F0.o.row 0 _ rfl;obtain⟨x0,x1,x2,x3,x4,x5,x6,x7,x8,x9,x10,x11,x12,x13,x14,x15,x16,x17,x18,x19,x20,x21,x22,x23,x24⟩:=nN hr0;clear hr0;have lx:w.heap.size<W0.heap.size:=F0.o.lt (i:=0) (by simp);go_upto_region 2 with(first | (go_at_call 249;refine(C2.o W0 F0.o.bel).mono ?_;rintro e W1 ⟨v1,rfl,ho1,hb1⟩;obtain⟨a1,c1,rfl⟩:=rR ho1;have F1:=hI (F0.o.below hb1);have HO1:=hI (vh ho1 HT1.o);clear hb1 ho1) | (go_at_call 278;refine(EJ a1 _ c1 (dP x.pl) W1 HO1.o.1 HO1.o.2 (by omega)).mono ?_;rintro e W2 ⟨v2,rfl,ho2,hb2⟩;obtain⟨a2,c2,rfl⟩:=rR ho2;have F2:=hI (F1.o.below hb2);have HO2:=hI ho2;have HB2:=hI hb2;clear hb2 ho2))
 have hB1:w.heap.size<W1.heap.size:=F1.o.lt (i:=0) (by simp);have hn1:(cD (dP x.pl).length).length+(dP x.pl).length=(bD (dP x.pl)).length:=by rw[Al hL1,Mx]
 have HW1:=hI (Ac (dP x.pl));rw[<-Al hL1]at HO2;rw[hn1]at HO2 ⊢;have HPn:=hI (Al hL1);generalize bD (dP x.pl)=L1 at *;have hr2:jk W2 w (aE a c x) 35:=F2.o.row 0 _ rfl;clear x0 x1 x2 x3 x4 x5 x6 x7 x8 x9 x10 x11 x12 x13 x14 x15 x16 x17 x18 x19 x20 x21 x22 x23 x24 lx hn1 HPn HO1 F0;obtain⟨x0,x1,x2,x3,x4,x5,x6,x7,x8,x9,x10,x11,x12,x13,x14,x15,x16,x17,x18,x19,x20,x21,x22,x23,x24⟩:=nN hr2;have lx:=aD hr2;clear hr2;rcases Classical.em (x.bk=bV)with hbk | hbk
 case' inl=>
  simp only[hbk,decide_true]at C3;rw[Np hbk]at hB;go_upto_region 3 with(go_at_call 279;refine(C3.o W2 F2.o.bel).mono ?_;rintro e W5 ⟨rfl,hb5⟩;have HB5:=hI (jo HB2 hb5);have F5:=hI (F2.o.below hb5);have HO5:=hI (bU HO2.o hb5);clear hb5);clear x0 x1 x2 x3 x4 x5 x6 x7 x8 x9 x10 x11 x12 x13 x14 x15 x16 x17 x18 x19 x20 x21 x22 x23 x24 lx;have hw5:=HB5.o.size;have HW2:=hI (Ac []);go_upto_region 5 with(at_builtin;refine IJ rfl _ _ rfl W1 (js a2 L1 c2) L1 L1 rfl (HO5.o.alloc _) (bt ⟨W5,0,bn⟩) 1 1 (bD []) rfl (waE W5) (fun h=>by cases h) (by have:=HW1.o;omega) (by simp;omega) ?_;intro v8 W8 ho8 hg8;obtain⟨a8,c8,rfl⟩:=rR ho8);have HB8:=hI ((HB5.o.alloc hw5 _).trans (dT (HO5.o.alloc _) (Mv _) (by simp;omega) hg8));have h1:L1.length+1=(L1++bD []).length:=by rw[Mx,Lf];rfl
  rw[h1]at ho8 ⊢;have HO8:=hI ho8;have HWL:=hI (show(L1++bD []).length<=132000 by rw[Mx];have:=HW1.o;have:=HW2.o;omega);generalize L1++bD []=L at *;clear ho8 hg8 HO5 HB5 F5 HO2 HB2 F2 h1 HW2 hw5 C2 C4
 case' inr=>
  simp only[hbk,decide_false]at C3;rw[Nm hbk]at hB;go_upto_region 4 with(go_at_call 279;refine(C3.o W2 F2.o.bel).mono ?_;rintro e W5 ⟨rfl,hb5⟩;have HB5:=hI (jo HB2 hb5);have F5:=hI (F2.o.below hb5);have HO5:=hI (bU HO2.o hb5);clear hb5);have hr5:jk W5 w (aE a c x) 35:=F5.o.row 0 _ rfl;clear x0 x1 x2 x3 x4 x5 x6 x7 x8 x9 x10 x11 x12 x13 x14 x15 x16 x17 x18 x19 x20 x21 x22 x23 x24 lx;obtain⟨x0,x1,x2,x3,x4,x5,x6,x7,x8,x9,x10,x11,x12,x13,x14,x15,x16,x17,x18,x19,x20,x21,x22,x23,x24⟩:=nN hr5;have lx:=aD hr5;clear hr5;have HC4:=hI (C4.o hbk);have hL3:=hL2.o hbk;have HW2:=hI (Ac (dP x.bk));have hn2:(cD (dP x.bk).length).length+(dP x.bk).length=(bD (dP x.bk)).length:=by rw[Al hL3,Mx]
  have HPn:=hI (Al hL3);have HT3:=hI HT2.o;go_upto_region 5 with(first | (go_at_call 249;refine(HC4.o W5 F5.o.bel).mono ?_;rintro e W6 ⟨v1,rfl,ho1,hb1⟩;obtain⟨a6,c6,rfl⟩:=rR ho1;have F6:=hI (F5.o.below hb1);have HO6:=hI (vh ho1 HT2.o);have HA6:=hI (bU HO5.o hb1);have HB6:=hI (jo HB5 hb1);clear hb1 ho1 x0 x1 x2 x3 x4 x5 x6 x7 x8 x9 x10 x11 x12 x13 x14 x15 x16 x17 x18 x19 x20 x21 x22 x23 x24 lx) | (go_at_call 278;refine(EJ a6 _ c6 (dP x.bk) W6 HO6.o.1 HO6.o.2 (by omega)).mono ?_;rintro e W7 ⟨v2,rfl,ho2,hb2⟩;obtain⟨a7,c7,rfl⟩:=rR ho2;have F7:=hI (F6.o.below hb2);rw[<-HPn.o]at ho2;rw[hn2]at ho2 ⊢;have HO7:=hI (vh ho2 (Cw HT3.o));have HA7:=hI (bU HA6.o hb2);have HB7:=hI (jo HB6 hb2);have hw7:=HB7.o.size;clear hb2 ho2) | (at_builtin;refine IJ rfl _ _ rfl W1 (js a2 L1 c2) L1 L1 rfl HA7.o a7 (bD (dP x.bk)).length c7 (bD (dP x.bk)) rfl HO7.o.1 HO7.o.2 (by have:=HW1.o;have:=HW2.o;omega) hw7 ?_;intro v8 W8 ho8 hg8;obtain⟨a8,c8,rfl⟩:=rR ho8))
  have HB8:=hI (HB7.o.trans (dT HA7.o (Mv _) hw7 hg8));have h1:L1.length+(bD (dP x.bk)).length=(L1++bD (dP x.bk)).length:=by rw[Mx]
  rw[h1]at ho8 ⊢;have HO8:=hI ho8;have HWL:=hI (show(L1++bD (dP x.bk)).length<=132000 by rw[Mx];have:=HW1.o;have:=HW2.o;omega);generalize L1++bD (dP x.bk)=L at *;clear ho8 hg8 HA7 HO7 HB7 F7 HA6 HO6 HB6 F6 HO5 HB5 F5 HO2 HB2 F2 h1 hL3 HW2 hn2 HPn HT3 hw7 C2 C4 HC4
 all_goals
  have hb8:=De hB1;have F8:=hI (F1.o.below HB8.o);have hr8:jk W8 w (aE a c x) 35:=F8.o.row 0 _ rfl;have HR8:=hI hr8;have x13:=ji 13 hr8;have lx:=aD hr8;clear hr8 HT1 HT2 hL1 hL2 F1;go_upto_region 6 with fail;have ho:=Jj W8 x.high;have b9:jb W8 (W8.alloc (cO #[x.high] 3)):=aR;clear x13 lx;generalize cj _ _=W9 at *;have HO9:=hI ho;have B9:=hI b9;clear ho b9;go_upto_region 7 with fail;go_loopg [4,5] x.st.sws.length (fun g r i wr=> ∃(k:av) (b':ax bR) (d:av),k<=x.st.sws.length/\g=x.st.sws.length-k/\r=cJ b' (k+1) d/\i= jV k/\jb W8 wr/\wr.ownsRow W8 3 1 (js b' (k+1) d) (k+1) ((gd x k).map (cW dr)))
  ·exact⟨0,bt ⟨W8,0,bn⟩,1,by omega,by omega,rfl,rfl,B9.o,HO9.o⟩
  obtain⟨k,b',d,hk,rfl,rfl,rfl,hb,ho⟩:=hrel;have HB:=hI hb;have HO:=hI ho;clear ho;have hrr:=jm hb HR8.o;have y15:=ji 15 hrr;have y16:=ji 16 hrr;have ly:=aD hrr;clear hrr;by_cases hlt:k<x.st.sws.length
  ·obtain⟨a',c',e,hs⟩:=(HX.o wr (jt F8.o.bel hb)).st.sws;cases e;obtain⟨g,off,vs,hae,hxl,hxc,hxr⟩:=hs.at_ k hlt;obtain rfl:vs=[cW dr x.st.sws[k].id,cW dr x.st.sws[k].lie,cW dr x.st.sws[k].call]:=hxr;have x2:=hxc 2 (by simp);simp only[Pk,Nu,Dl]at x2;have lx:=Mt x2;have hd:ab ((k:ar)<(x.st.sws:ar))=bl:=(by simp;omega);have c0:(0:ar)<=(k:ar):=(by omega);have c1:(k:ar)<(x.st.sws:ar):=(by omega);have hw8:=hb.size;clear hxc hs hb;rw[hae]at y15;have HT:=hI (Je hlt);generalize x.st.sws[k].call=N at *;go_wp2_with (at_builtin;refine nK rfl _ _ 54 3 3 _ 1 8 rfl underlying54 rS rfl (by decide) (by decide) W8 (js b' (k+1) d) (k+1) _ rfl HO.o (by omega) hw8 [cW dr N] rfl rfl (JB N) ?_;intro b8 c8 w8 hown8 hgr8);have hB8:=(HB.o.alloc hw8 _).trans (dT (HO.o.alloc _) (Mv _) (by simp;omega) hgr8)
   have ho8:w8.ownsRow W8 3 1 (jq b8 0 (k+1+1) c8) (k+1+1) ((gd x (k+1)).map (cW dr)):=by
    rw[HT.o,Pr];exact hown8
   go_roundg (x.st.sws.length-(k+1))
   ·go_light;exact⟨k+1,bt ⟨b8,0,bn⟩,c8,by omega,by omega,rfl,by go_num,hB8,ho8⟩
   go_light;omega
  obtain rfl:k=x.st.sws.length:=(by omega);have hd:ab ((x.st.sws:ar)<(x.st.sws:ar))=aW:=(by simp);clear hb;go_upto_region 11 with fail;clear y15 y16 ly;go_loopg [4,6] x.st.lks.length (fun g r i wr2=> ∃(k:av) (b':ax bR) (d:av),k<=x.st.lks.length/\g=x.st.lks.length-k/\r=cJ b' (x.st.sws.length+1+2 * k) d/\i= jV k/\jb W8 wr2/\wr2.ownsRow W8 3 1 (js b' (x.st.sws.length+1+2 * k) d) (x.st.sws.length+1+2 * k) ((dy x k).map (cW dr)))
  ·exact⟨0,b',d,by omega,by omega,rfl,rfl,HB.o,by rw[Ce];exact HO.o⟩
  obtain⟨k,b',d,hk,rfl,rfl,rfl,hb,ho⟩:=hrel;have HB2:=hI hb;have HO2:=hI ho;clear ho HB HO hd;have hrr:=jm hb HR8.o;have y16:=ji 16 hrr;have ly:=aD hrr;clear hrr;by_cases hlt:k<x.st.lks.length
  ·obtain⟨a',c',e,hs⟩:=(HX.o wr (jt F8.o.bel hb)).st.lks;cases e;obtain⟨g,off,vs,hae,hxl,hxc,hxr⟩:=hs.at_ k hlt;obtain rfl:vs=[cW dr x.st.lks[k].id,cW .u8 x.st.lks[k].ph,cW dr x.st.lks[k].gone,cW dr x.st.lks[k].left]:=hxr;have x1:=hxc 1 (by simp);have x2:=hxc 2 (by simp);simp only[Pk,Nu,Dl]at x1 x2;have lx:=Mt x1;have hd:ab ((k:ar)<(x.st.lks:ar))=bl:=(by simp;omega);have c0:(0:ar)<=(k:ar):=(by omega);have c1:(k:ar)<(x.st.lks:ar):=(by omega);clear hxc hs hb;rw[hae]at y16;have hph:=HPh.o _ (Nn hlt);have HT:=hI (Cf hlt);generalize x.st.lks[k].ph=N at *;generalize x.st.lks[k].gone=G2 at *;go_upto_region 13 with fail;refine zD [17] ?_;intro V hV;have t0:=fun t:Gw wr=>t.cel y16;have t1:=fun t:Gw wr=>t.cel x1;have t2:=fun t:Gw wr=>t.cel x2;have t3:=fun t:Gw wr=>t.lt ly;have t4:=fun t:Gw wr=>t.lt lx;refine zB [0,1,2,3,4,5,6,7,8,9,10,11,12,13,14,15] hV ?_;clear t0 t1 t2 t3 t4 y16 x1 x2 ly lx;refine aS 16 (by kernel_rfl) ?_;intro K hK;simp[wpOp,go_sem];refine .inl (hK _ _ (fun _=>hV.alloc hV.size _) ?_);clear hK K;have HBV:=hI (jo HB2 hV);have HOV:=hI (bU HO2.o hV);have hwV:=HBV.o.size;clear hV;refine pG [17,18] (by kernel_rfl) (by simp) ?_;simp only[eE,Db,aq.getElem?_cons_zero,Nt,ax.toList_some,Nz,Dd];go_wp2_with (at_builtin;refine Jh rfl _ _ rfl W8 (js b' (x.st.sws.length+1+2 * k) d) (x.st.sws.length+1+2 * k) (dy x k) rfl HOV.o (by omega) hwV N G2 rfl ?_;intro b8 c8 w8 hown8 hgr8);have hB8:=(HBV.o.alloc hwV _).trans (dT (HOV.o.alloc _) (Mv _) (by simp;omega) hgr8)
   have ho8:w8.ownsRow W8 3 1 (jq b8 0 (x.st.sws.length+1+2 * (k+1)) c8) (x.st.sws.length+1+2 * (k+1)) ((dy x (k+1)).map (cW dr)):=by
    rw[HT.o];exact hown8
   go_roundg (x.st.lks.length-(k+1))
   ·go_light;exact⟨k+1,bt ⟨b8,0,bn⟩,c8,by omega,by omega,rfl,by go_num,hB8,ho8⟩
   go_light;omega
  obtain rfl:k=x.st.lks.length:=(by omega);have hd:ab ((x.st.lks:ar)<(x.st.lks:ar))=aW:=(by simp);have hl:=Jf x;have hll:=Cg (x:=x) (Mv x.st.lks);rw[hl]at HO2 hll;clear hl;rw[<-hll]at HO2 ⊢;have HIL:=BI (show aA wr W8 (js b' (dn x).length d) (dn x)from HO2.o) rfl;have HC:=hI (z7d (dn x) b' d wr HIL (by omega) HN.o);have HF5:=hI (RZ _ HN.o);have HFB:=hI (EG (dn x));have HKN:=hI (show(dn x).length<=1000 by omega);unfold BC at HC;have HOL:=hI (bU HO8.o hb);clear hb hll;generalize bI (dn x)=FB at *;go_wp2_with (first | (go_at_call 280;refine HC.o.mono ?_;rintro e w9 ⟨v9,rfl,ho9,hb9⟩;obtain⟨a9,c9,rfl⟩:=rR ho9;have HO9':=hI (vh ho9 HFB.o);have HOM:=hI (bU HOL.o hb9);have HB9:=hI (jo HB2 hb9);have hw9:=Nj HB8.o.size HB9.o.size;clear ho9 hb9) | (at_builtin;refine IJ rfl _ _ rfl W1 (js a8 L c8) L L rfl HOM.o a9 FB c9 FB rfl HO9'.o.1 HO9'.o.2 (by have:=HWL.o;have:=HF5.o;have:=HKN.o;omega) hw9 ?_;intro v10 W10 ho10 hg10;obtain⟨a10,c10,rfl⟩:=rR ho10))
  have h1:L.length+FB.length=(cu x).length:=(by rw[hB,Mx]);rw[<-hB,h1]at ho10;rw[h1];have hb10:=dT HOM.o (Mv _) hw9 hg10;go_ret;exact⟨a10,c10,rfl,bW ho10 hb8,(jt F8.o.bel HB9.o).trans (hb10.mono hb8)⟩
theorem waF (x:wbm) (a:ax bR) (c:av) (b:ax bR) (d:av) (g:ar) (t:aq ar) (T:ax bR) (p:av) (w:aj) (hx:ay (jQ cn w) a c b d x) (ho:ae x) (P:aB w 1 dG T p t) (Q:aO t) (R:t.length<=1882) (c6:0<g) (q:g<4294967296) (c7:x.wt.length<=200):
  jW 172 #[cZ (ak a c b d x),cZ #[cW dD g,js T t p]] w fun e w'=> ∃U X Z a0,e=cL (dw #[cZ (ak U X Z a0 (bv x (bo g) (bm g (bu g t)))),jV 0])/\ay (jQ cn w') U X Z a0 (bv x (bo g) (bm g (bu g t)))/\jb w w':=by
 have H0:=hI fun W (h:jb w W)=>Lw g t T p W (P.below fS h) Q R ed q;have G:=hI fun W (h:jb w W)=>xA x a c b d W ((hx.same (dS.of_below h)).ext dg) ho.few;rw[Np ho]at G;have I:=wg g t;have hb:=As g (bu g t);have a9:(bm g (bu g t)).length<=16:=by rw[bm,Pn,Gy];unfold ii;omega
 generalize bm g (bu g t)=S at *;refine Qa fun J _=>?_;have hz:0<=bo g/\bo g<=16:=by unfold bo;omega
 have HSlot:=hI fun W=>Ck g ed q W;generalize bo g=z at *
 have r:bG (∀k,k<=S.length->ae (bv x z (S.take k))/\(bv x z (S.take k)).wt.length<=255):=fun k E=>by
  refine⟨Bv ho _ hz.1 Kk Kk fun y b0=>hb y (Tm b0),?_⟩;simp[bv];omega
 have a1:=hI hx;have b1:ab ((1882:ar)<(t:ar))=aW:=em
 have b4:(g==0)=aW:=Ov
 clear P Q I hb ho hx;unfold ak at G ⊢;go_enter func172,ntmps172;go_upto_region 1 with fail;have F0:bG (Fr w [(#[js a x.sc c,js b x.wt d],84),(#[cW dD g,js T t p],161),(#[jN,jN],84)] (((w.alloc (cO #[js a x.sc c,js b x.wt d] 84)).alloc (cO #[cW dD g,js T t p] 161)).alloc (cO #[jN,jN] 84))):=(((Fr.start w).alloc rfl _ _).alloc ee _ _).alloc ee _ _;generalize cj _ _=W0 at *;have s:=hI fun W (h:jb W0 W)=>H0.o W (jt F0.o.bel h);go_upto_region 2 with(first | (refine Dx rfl 84 (dk 2) rfl w rfl 84 _ (0,0) _ (F0.o.row 0 _ rfl) underlying84 rfl ef ?_;simp[cq]) | (go_at_call 107;refine oG (G.o W0 F0.o.bel) fun W1 M5=>?_;refine vn fun F1=>?_;have HC:=hI (s.o W1 M5);clear M5))
 have q0:=ji 0 (F1.o.row 1 _ rfl);have q1:=ji 1 (F1.o.row 1 _ rfl);have b5:=F1.o.lt (i:=1) ee;go_upto_region 9 with fail;clear q0 q1 b5;go_upto_region 10 with(first | (refine Dx rfl 161 (dk 3) rfl (w+1) rfl 161 _ (0,0) _ (F1.o.row 1 _ rfl) underlying161 rfl ef ?_;simp[cq]) | (go_at_call 262;refine HC.o.mono ?_;rintro e W2 ⟨c9,d0,rfl,h1,M5⟩;have F2:=hI (F1.o.below M5);have b6:=hI h1;clear h1 M5))
 have u:=hI (a1.o.same (dS.of_below F2.o.bel));clear F0 F1 H0 s HC a1;go_loopg [30] S.length (fun gg i wr=> ∃(k:av) (a2:ax bR) (c2:av) (b2:ax bR) (d2:av),k<=S.length/\gg=S.length-k/\i= jV k/\Fr w [(ak a2 c2 b2 d2 (bv x z (S.take k)),84),(#[cW dD g,js T t p],161),(#[jN,jN],84)] wr/\ay (jQ cn wr) a2 c2 b2 d2 (bv x z (S.take k))/\dS cn W2 wr)
 ·exact⟨0,a,c,b,d,ed,ed,rfl,by rw[aq.take_zero,Aq];exact F2.o,by rw[aq.take_zero,Aq];exact u.o,fun k cs t f E R=>E⟩
 obtain⟨k,a2,c2,b2,d2,E,rfl,rfl,hF,a4,a5⟩:=hrel;have F:=hI hF;have HD:=hI a4;have HSm:=hI a5;clear hF a4 a5 F2 u;by_cases A:k<S.length
 ·have hd:ab ((k:ar)<(S:ar))=bl:=em;have HL:bG ((S.take k).length=k/\S.take (k+1)=S.take k++[S[k]]):=⟨Kk,(It A).symm⟩;have n:=hI (r.o k E);refine NM fun L=>?_;generalize bv x z (S.take k)=Y at *;obtain⟨d1,os,b7,b8,rfl,M,y1⟩:=(aB.ext an b6.o HSm.o.ext).sc A;have N:=hI (aB.ext (fun _ _ _ _ _ h=>h) y1 dg);have H:S[k].length=128:=J.o _ (Nn _);rw[H]at M;have z1:=dg _ _ M;obtain⟨p0,p1⟩:=DY (g:=w.heap.size) (F.o.row 0 _ rfl);have z0:=ji 0 (F.o.row 1 _ rfl);have lp:w.heap.size<wr.heap.size:=F.o.lt (i:=0) ee;have lz:=F.o.lt (i:=1) ee;have l0:=Mt z1;have c0:(0:ar)<=(k:ar):=ed;have c1:(k:ar)<(S:ar):=ed;have b9:=hz.1;have c4:=hz.2;have a6:(k:ar)<=16:=ed;have c5:=hI H;clear M y1 H;go_upto_region 12 with fail;refine zD [11] ?_;refine OI fun V hV t0 t1 t2 t4 t5=>?_;refine zB [0,1,2,4,6] hV ?_;clear t0 t1 t2 t4 t5 p0 p1 z0 z1 lp lz l0;refine ZP fun F1 S1=>?_;obtain⟨zn,B⟩:=Ds (a:=z+(k:ar)) ed;have O:=Rn Y a2 c2 b2 d2 zn S[k] b7 b8 V ((HD.o.same (dS.of_below hV)).ext dg) n.o.1 (N.o.below fS hV) c5.o ed (by have:=n.o.2;omega);rw[<-B]at O;clear B;refine aS 7 ef ?_;refine Oo fun K hK=>?_;refine .inl (O.mono ?_);clear O;rintro e V1 ⟨a3,c3,b3,d3,rfl,h3,P9⟩;simp[go_sem];have D0:=jt hV P9;refine Ob ?_;refine zB [8,9] D0 ?_;refine tO 10 ef Qd (fun _=>D0) ?_;intro K hK o a8;simp at a8;subst a8;refine Qo ?_;refine MH fun F2 S2 H3=>?_;rw[<-L.o]at H3;rw[<-L.o];clear hK K hV D0 h3 P9 F1 S1 F HSm HD L n;obtain⟨Y2,j⟩: ∃Y2,Y2=bv x z (S.take (k+1)):=⟨_,rfl⟩;rw[<-j]at H3;rw[<-j];have D:=hI j;clear j;refine pG [11,12] ef ee ?_
  refine oS ?_;go_upto_region 15 with(refine bP rfl 84 (dk 2) (dk 44) rfl w (ak a3 c3 b3 d3 Y2) _ 84 rfl rfl (F2.o.row 0 _ rfl) ef rfl uE ?_);have hr0:jk V1 w _ 84:=F2.o.row 0 _ rfl;refine ZW fun F3 H4 S4=>?_;go_wp2_with fail;go_roundg (S.length-(k+1))
  ·go_light;exact⟨k+1,a3,c3,b3,d3,ed,ed,ej,by rw[<-D.o];exact F3.o,by rw[<-D.o];exact H4.o,S4.o⟩
  go_light;omega
 obtain rfl:k=S.length:=ed;have hd:ab ((S:ar)<(S:ar))=aW:=ee;rw[Ph]at F HD;go_upto_region 16 with fail;go_wp2_with (first | (refine Dx rfl 84 (dk 2) rfl w rfl 84 _ (0,0) _ (F.o.row 0 _ rfl) underlying84 rfl ef ?_;simp[cq]) | (refine bP rfl 84 (dk 4) (dk 51) rfl (w+2) (ak a2 c2 b2 d2 (bv x z S)) _ 84 rfl rfl (F.o.row 2 _ rfl) ef rfl uE ?_))
 have hr2:jk wr (w+2) _ 84:=F.o.row 2 _ rfl;have F3:=hI (F.o.setRow 2 rfl (ak a2 c2 b2 d2 (bv x z S)));refine Nh (v:=dw #[cZ (ak a2 c2 b2 d2 (bv x z S)),jV 0]) (eL rfl _ _ (w+2) 84 _ (0,0) _ _ rfl rfl (F3.o.row 2 _ rfl) underlying84 rfl ef) rfl ?_;exact EN
def waG (x:wbm) (a:ax bR) (c:av) (b:ax bR) (d:av) (g:ar) (t:aq ar) (T:ax bR) (f:av) (w:aj) (hx:ay w a c b d x) (hf:ae x) (n: ¬t.length<=1882) (p:0<g):
  jW 172 #[cZ (ak a c b d x),cZ #[cW dD g,js T t f]] w fun e w'=>e=cL (dw #[cZ #[jN,jN],jV 3])/\jb w w':=by
 refine jI fun H=>?_;rw[Np hf]at H;have j:ab ((1882:ar)<(t:ar))=bl:=em
 have k:(g==0)=aW:=Ov
 clear hx hf;unfold ak at H ⊢;go_enter func172,ntmps172;go_upto_region 1 with fail;have F0:bG (Fr w [(#[js a x.sc c,js b x.wt d],84),(#[cW dD g,js T t f],161),(#[jN,jN],84)] (((w.alloc (cO #[js a x.sc c,js b x.wt d] 84)).alloc (cO #[cW dD g,js T t f] 161)).alloc (cO #[jN,jN] 84))):=(((Fr.start w).alloc rfl _ _).alloc ee _ _).alloc ee _ _;generalize cj _ _=W0 at *;go_upto_region 2 with(first | (refine Dx rfl 84 (dk 2) rfl w rfl 84 _ (0,0) _ (F0.o.row 0 _ rfl) underlying84 rfl ef ?_;simp[cq]) | (go_at_call 107;refine oG (H.o W0 F0.o.bel) fun _ M5=>?_;refine vn fun F1=>?_;clear M5))
 have q0:=ji 0 (F1.o.row 1 _ rfl);have q1:=ji 1 (F1.o.row 1 _ rfl);have l:=F1.o.lt (i:=1) ee;go_upto_region 8 with fail;clear q0 q1 l;go_wp2_with (refine bP rfl 84 (dk 4) (dk 25) rfl (w+2) #[jN,jN] _ 84 rfl rfl (F1.o.row 2 _ rfl) ef rfl Qj ?_);have F3:=hI (F1.o.setRow 2 rfl #[jN,jN]);refine Nh (v:=dw #[cZ #[jN,jN],jV 3]) (eL rfl _ _ (w+2) 84 _ (0,0) _ _ rfl rfl (F3.o.row 2 _ rfl) underlying84 rfl ef) rfl ?_;exact⟨rfl,F3.o.bel⟩
theorem waH (x:wbm) (a:ax bR) (c:av) (b:ax bR) (d:av) (g:ar) (t:aq ar) (T:ax bR) (f:av) (w:aj) (hx:ay (jQ cn w) a c b d x) (l:ae x) (n:aB w 1 dG T f t) (p:aO t) (s:t.length<=1882) (O:0<g) (j:g<4294967296) (P:x.wt.length<=200):
  jW 176 #[cZ (ak a c b d x),cZ #[cW dD g,js T t f]] w fun e w'=> ∃A C B D,e=cL (dw #[cZ (ak A C B D (bv x (bo g) (bm g (bu g t)))),jV 0])/\ay (jQ cn w') A C B D (bv x (bo g) (bm g (bu g t)))/\jb w w':=by
 have z:=hI fun W (h:jb w W)=>Cv g t T f W (n.below fS h) p s ed j;have q:=hI fun W (h:jb w W)=>Bn x a c b d W ((hx.same (dS.of_below h)).ext dg) l.few;have u:=hI fun W (h:jb w W)=>PD x a c b d g t T f W (hx.same (dS.of_below h)) l (n.below fS h) p s ed j ed;rw[Ni l]at q
 have E:(bm g (bu g t)).length<=16:=by
  have G:=wg g t;rw[bm,Pn,Gy];unfold ii;omega
 generalize bm g (bu g t)=S at *;have I:ab ((1882:ar)<(t:ar))=aW:=em
 have J:(g==0)=aW:=Ov
 have M:ab ((256:ar)<(x.wt:ar)+(S:ar))=aW:=em
 clear n p l hx;have y:ak a c b d x=(#[js a x.sc c,js b x.wt d]:aL bw):=rfl;rw[y]at q u ⊢;clear y;go_enter func176,ntmps176;go_upto_region 1 with fail;have F0:bG (Fr w [(#[js a x.sc c,js b x.wt d],84),(#[cW dD g,js T t f],161),(#[jN,jN],84)] (((w.alloc (cO #[js a x.sc c,js b x.wt d] 84)).alloc (cO #[cW dD g,js T t f] 161)).alloc (cO #[jN,jN] 84))):=(((Fr.start w).alloc rfl _ _).alloc ee _ _).alloc ee _ _;generalize cj _ _=N at *;go_upto_region 3 with(first | (refine Dx rfl 84 (dk 2) rfl w rfl 84 _ (0,0) _ (F0.o.row 0 _ rfl) underlying84 rfl ef ?_;simp[cq]) | (go_at_call 194;refine oG (q.o N F0.o.bel) fun W0 M5=>?_;refine vn fun F1=>?_;clear M5))
 have q0:=ji 0 (F1.o.row 1 _ rfl);have p0:=ji 1 (F1.o.row 1 _ rfl);have p1:jc W0 w 1 (js b x.wt d):=jr (F1.o.row 0 _ rfl);have lp:=F1.o.lt (i:=1) ee;have L:w.heap.size<W0.heap.size:=F1.o.lt (i:=0) ee;go_upto_region 7 with fail;refine zD [6] ?_;intro V H;have t0:=fun t:Gw W0=>t.cel q0;refine vM fun t1 t2 t3=>?_;have t4:=fun t:Gw W0=>t.lt L;refine zB [0,1,3] H ?_;refine wbo 2 (jV (x.wt:ar)) H ?_;clear t0 t1 t2 t3 t4 q0 p0 p1 lp L;refine aS 4 ef ?_;refine Oo fun K hK=>?_;refine um (z.o V (jt F1.o.bel H)) fun V1 _ _ h1 M5=>?_;have D0:=jt H M5;refine Ob ?_;refine wbo 5 (jV (S:ar)) D0 ?_;have F:=hI ((F1.o.below H).below M5);clear hK K H D0 h1 M5 F1;refine pG [6,7] ef ee ?_;refine oS ?_;go_upto_region 9 with fail;go_wp2_with (first | (refine Dx rfl 84 (dk 2) rfl w rfl 84 _ (0,0) _ (F.o.row 0 _ rfl) underlying84 rfl ef ?_;simp[cq]) | (refine Dx rfl 161 (dk 3) rfl (w+1) rfl 161 _ (0,0) _ (F.o.row 1 _ rfl) underlying161 rfl ef ?_;simp[cq]) | (go_at_call 268;refine(u.o V1 F.o.bel).mono ?_;rintro e V2 ⟨a2,c2,b2,d2,rfl,h2,k⟩;have r:=hI (F.o.below k);have HD:=hI h2;clear h2 k) | (refine bP rfl 84 (dk 4) (dk 30) rfl (w+2) (ak a2 c2 b2 d2 (bv x (bo g) S)) _ 84 rfl rfl (r.o.row 2 _ rfl) ef rfl uE ?_))
 have hr2:jk V2 (w+2) _ 84:=r.o.row 2 _ rfl;have F3:=hI (r.o.setRow 2 rfl (ak a2 c2 b2 d2 (bv x (bo g) S)));refine Nh (v:=dw #[cZ (ak a2 c2 b2 d2 (bv x (bo g) S)),jV 0]) (eL rfl _ _ (w+2) 84 _ (0,0) _ _ rfl rfl (F3.o.row 2 _ rfl) underlying84 rfl ef) rfl ?_;exact EN
def waI (x:wbm) (a:ax bR) (c:av) (b:ax bR) (d:av) (g:ar) (t:aq ar) (T:ax bR) (f:av) (w:aj) (hx:ay w a c b d x) (H:ae x) (n: ¬t.length<=1882) (p:0<g):
  jW 176 #[cZ (ak a c b d x),cZ #[cW dD g,js T t f]] w fun e w'=>e=cL (dw #[cZ #[jN,jN],jV 3])/\jb w w':=by
 have j:=hI fun W (h:jb w W)=>Bn x a c b d W (hx.below h) H.few;rw[Ni H]at j;have k:ab ((1882:ar)<(t:ar))=bl:=em
 have l:(g==0)=aW:=Ov
 clear hx H;unfold ak at j ⊢;go_enter func176,ntmps176;go_upto_region 1 with fail;have F0:bG (Fr w [(#[js a x.sc c,js b x.wt d],84),(#[cW dD g,js T t f],161),(#[jN,jN],84)] (((w.alloc (cO #[js a x.sc c,js b x.wt d] 84)).alloc (cO #[cW dD g,js T t f] 161)).alloc (cO #[jN,jN] 84))):=(((Fr.start w).alloc rfl _ _).alloc ee _ _).alloc ee _ _;generalize cj _ _=W0 at *;go_upto_region 3 with(first | (refine Dx rfl 84 (dk 2) rfl w rfl 84 _ (0,0) _ (F0.o.row 0 _ rfl) underlying84 rfl ef ?_;simp[cq]) | (go_at_call 194;refine oG (j.o W0 F0.o.bel) fun _ M5=>?_;refine vn fun F1=>?_;clear M5))
 have q0:=ji 0 (F1.o.row 1 _ rfl);have q1:=ji 1 (F1.o.row 1 _ rfl);have L:=F1.o.lt (i:=1) ee;go_upto_region 6 with fail;clear q0 q1 L;go_wp2_with (refine bP rfl 84 (dk 4) (dk 18) rfl (w+2) #[jN,jN] _ 84 rfl rfl (F1.o.row 2 _ rfl) ef rfl Qj ?_);have F3:=hI (F1.o.setRow 2 rfl #[jN,jN]);refine Nh (v:=dw #[cZ #[jN,jN],jV 3]) (eL rfl _ _ (w+2) 84 _ (0,0) _ _ rfl rfl (F3.o.row 2 _ rfl) underlying84 rfl ef) rfl ?_;exact⟨rfl,F3.o.bel⟩
structure iy where
 gen:ar
 text:aq ar
def ig (S:aq (aq ar)) (s n:av):aq ar:=(aq.range n).flatMap fun i=>((S.getD (s+i) []).drop 6).take 118
def Bq (S:aq (aq ar)) (s n:av):ig S s (n+1)=ig S s n++((S.getD (s+n) []).drop 6).take 118:=by
 unfold ig;rw[Hh,Dg];simp
structure ct (S:aq (aq ar)):Prop where
 n:S.length=32
 all: ∀b∈S,b.length=128
 byt: ∀b∈S,aO b
def ct.len {S:aq (aq ar)}(h:ct S){i:av}(H:i<32):(S.getD i []).length=128:=by
 rw[iu (by rw[h.n];exact H)];exact h.all _ (Nn _)
def ct.ok {S:aq (aq ar)}(h:ct S){i:av}(H:i<32):aO (S.getD i []):=by
 rw[iu (by rw[h.n];exact H)];exact h.byt _ (Nn _)
def Am {S:aq (aq ar)}(h:ct S) (s:av): ∀n,s+n<=32->(ig S s n).length=118 * n
 | 0,_=>rfl
 | n+1,hn=>by
  rw[Bq,Mx,Am h s n ed,Dn,Po,h.len ed];omega
def xY {S:aq (aq ar)}(h:ct S) (s:av): ∀n,s+n<=32->aO (ig S s n)
 | 0,_=>fun b H=>by cases H
 | n+1,hn=>fun b H=>by
  rw[Bq]at H;rcases Tx.1 H with H | H
  ·exact xY h s n ed b H
  exact h.ok (i:=s+n) ed b (Gh (Tm H))
def fh (S:aq (aq ar)) (s:av):ar:=(S.getD s []).getD 5 0
def fk (S:aq (aq ar)) (s:av):ar:=de ((S.getD s []).take 4)
def xZ (S:aq (aq ar)) (s:av):ar:=de (((ig S s (fh S s).toNat).drop 4).take 2)
def gm (S:aq (aq ar)) (s:av):aq ar:=((ig S s (fh S s).toNat).drop 6).take (xZ S s).toNat
def bg (S:aq (aq ar)) (s:av):Prop:=
 (1<=fh S s/\fh S s<=16)/\(fk S s≠0/\bo (fk S s)=s)/\xZ S s<=118 * fh S s-6/\bm (fk S s) (bu (fk S s) (gm S s))=(S.drop s).take (fh S s).toNat
instance (S:aq (aq ar)) (s:av):cG (bg S s):=by unfold bg;exact cx
def xD (S:aq (aq ar)) (s:av):iy:=⟨fk S s,gm S s⟩
def ir (S:aq (aq ar)):aq iy:=
 if bg S 0 then(if bg S 16 then(if fk S 0<fk S 16 then [xD S 16,xD S 0]else [xD S 0,xD S 16])else [xD S 0])else(if bg S 16 then [xD S 16]else [])
def wbn (S:aq (aq ar)) (s:av):iy:=if bg S s then xD S s else⟨0,[]⟩
def dl (t:bT):aU:=t==161
def xQ (w:aj) (S:aq (aq ar)) (s:av) (e:Ending) (w':aj):Prop:=
 ∃ta tc,e=cL (dw #[cZ #[cW dD (wbn S s).gen,js ta (wbn S s).text.length tc],db (ab (bg S s))])/\aB (jQ dl w') 1 dG ta tc (wbn S s).text/\jb w w'
def iv {w:aj}{S:aq (aq ar)}{s:av}(h: ¬bg S s) (H:jb w w'):xQ w S s (cL (dw #[cZ #[cW dD 0,jN],db aW])) w':=by
 refine⟨bn,0,?_,?_,H⟩
 ·unfold wbn;rw[Nm h,Mw h];rfl
 unfold wbn;rw[Nm h];exact⟨Mv _,fun _=>rfl,fun i a=>by cases a⟩
def Lb {w:aj}{S:aq (aq ar)}{s:av}{t:ax bR}{T:av}(h:bg S s) (H:aB (jQ dl w') 1 dG t T (gm S s)) (a:jb w w'):xQ w S s (cL (dw #[cZ #[cW dD (fk S s),js t (gm S s).length T],db bl])) w':=by
 refine⟨t,T,?_,?_,a⟩
 ·unfold wbn;rw[Np h,Ni h];rfl
 unfold wbn;rw[Np h];exact H
def xC {l:aq ar}(h:aO l):Be l:=fun b H=>by have:=h b H;omega
def aO.sub {l:aq ar}(h:aO l) (p m:av):aO ((l.drop p).take m):=fun b H=>h b (Gh (Tm H))
def iq {l:aq ar}{p m:av}(h:p+m<=l.length):((l.drop p).take m).length=m:=by rw[Dn,Po];omega
def Lc {w:aj}(base:av) (A:ax bR) (cap:av) (l:aq ar) (hl:aB w 1 dG A cap l) (s:l.length<=1000000) (H:base<=w.heap.size) (ty:bT):
  ∃a c w',(Builtin.append_ #[22,22] ty #[jN,js A l cap]).run prog w= .ok (js a l c) w'/\w'.ownsRow base 5 1 (js a l c) l (l.flatMap dR)/\jb w w':=by
 obtain⟨i0,n,d,f,g⟩:=Se nD;by_cases h0:l=[]
 ·subst h0;refine⟨bn,0,w,?_,Nw _ _ _ _,Nb _ _⟩;cases A<;>simp[Builtin.append_,Fk underlying22,sizeOf,typeInfo,n,Builtin.lenOf,Builtin.firstCells,loadCells,loadCellsFrom]
 obtain⟨b,off,rfl,-⟩:=hl.by (aq.length_pos_iff.2 h0)
 have i: ∀j u,(l.map (bw.int .u8))[j]? =bt u->w.cell? (bR.add ⟨b,off,bn⟩ j)=bt u:=by
  intro j u hj;rw[Pp,ax.map_eq_some_iff]at hj;obtain⟨y,p,rfl⟩:=hj;obtain⟨k,rfl⟩:=aq.getElem?_eq_some_iff.1 p;obtain⟨B,O,e,q⟩:=hl.by k;cases e;rw[Fn];exact q
 obtain⟨v',w',hr,h1,h2,_,_⟩:=run_append_own_at (P:=prog) w base 22 ty 5 i0 _ 1 1 underlying22 n d f g rfl eh (jN) 0 [] (Nw _ _ _ _) ⟨b,off,bn⟩ l cap (l.map (cW .u8)) ee i (fun u r=>by obtain⟨y,-,rfl⟩:=aq.mem_map.1 r;rfl) Oq ed H;rw[Pa]at h1;obtain⟨a,c,rfl⟩:=rR h1;exact⟨a,c,w',hr,by rw[xF];exact h1,dT (Nw w w 5 1) (Mv _) (Mv _) h2⟩
def aO.cat {a:aq ar}(H:aO a) (c:aO b):aO (a++b):=fun x hx=>(Tx.1 hx).elim (H x) (c x)
def Ct {g:ar}{t:aq ar}(h:aO t):aO (bu g t):=(dz _ _).cat ((dz _ _).cat h)
def Cu {g:ar}(h:aO b) (c:ii b<=255): ∀y∈bm g b,aO y:=fun y a=>by
 obtain⟨i,H,rfl⟩:=aq.mem_map.1 a;have H:=aq.mem_range.1 H;refine((((dz 4 g).cat ?_).cat (h.sub _ _)).cat ?_).cat (dz 4 g)
 ·intro x hx;simp at hx;rcases hx with rfl | rfl<;>omega
 intro x hx;rw[(aq.mem_replicate.1 hx).2];decide
theorem wau (x:wbm) (a:ax bR) (c:av) (b:ax bR) (d s:av) (w:aj) (hx:ay w a c b d x) (i3:ae x) (i4:x.wt=[]) (hok:ct x.sc) (k8:s<=16):
  jW 277 #[cZ (ak a c b d x),jV (s:ar)] w (xQ w x.sc s):=by
 have b5:=hI fun(k:av) (b6:k<32) W (h:jb w W)=>Ix x a c b d k W (hx.below h) i3 b6;rw[show bF x.sc x.wt=x.sc by rw[i4];rfl]at b5;unfold ak at b5 ⊢;generalize x.wt.length=j1 at *;obtain⟨S,i5⟩: ∃S,S=x.sc:=⟨_,rfl⟩;rw[<-i5]at b5 hok ⊢;have J:=hI hok;clear hx i3 i4 i5 hok;have HL:=hI J.o.n;have HFL:=hI (J.o.len (show s<32 by omega));have H4:=hI (J.o.ok (show s<32 by omega));go_enter func277,ntmps277;go_upto_region 1 with fail;generalize G7:cj _ _=i6;have F0:bG (Fr w [(#[js a S c,js b j1 d],84),(#[cW dD 0,jN],161)] i6):=by refine vv ?_;exact((Fr.start w).alloc rfl _ _).alloc ee _ _
 clear G7;have HC:=hI (b5.o s ed i6 F0.o.bel);go_upto_region 2 with(first | (refine Dx rfl 84 (dk 2) rfl w rfl 84 _ (0,0) _ (F0.o.row 0 _ rfl) underlying84 rfl ef ?_;simp[cq]) | (go_at_call 363;refine vy fun W0 _ j2 h1 M5=>?_;refine vn fun F3=>?_;have H5:=hI (fj h1 HFL.o);clear h1 M5))
 clear HC F0;have e8:fh S s=(S.getD s [])[5]' vz:=by unfold fh;rw[Na,Nf vz];rfl
 obtain⟨l0,o5,rfl,x5⟩:=H5.o.by (i:=5) vz;rw[<-e8]at x5;have e9:0<=fh S s/\fh S s<=255:=by rw[e8];exact H4.o _ (Nn _)
 have a6:bG (bg S s->1<=fh S s/\fh S s<=16):=fun h=>h.1;have i7:128<=j2:=by have:=H5.o.le;rw[HFL.o]at this;exact this
 obtain⟨N,f0⟩:=Ds e9.1;have e5:=hI f0;rw[f0]at x5 e9 a6;clear e8 f0;have l5:=Mt x5;have l1:(0:ar)<=5:=eh
 have j3:(5:ar)<128:=eh
 go_upto_region 3 with fail;clear x5 l5;rcases(show¬(1<=N/\N<=16)\/(1<=N/\N<=16)from(Classical.em _).symm)with c0 | q
 ·have Q4:bG (¬bg S s):=fun h=>c0 (by have:=a6.o h;omega);by_cases h1:N<1
  ·have a7:ab ((N:ar)<1)=bl:=em;go_upto_region 4 with fail;go_wp2_with (refine bP rfl 161 (dk 4) (dk 28) rfl (w+1) #[cW dD 0,jN] _ 161 rfl rfl (F3.o.row 1 _ rfl) ef rfl Qj ?_);have F9:=hI (F3.o.setRow 1 rfl #[cW dD 0,jN]);refine Nh (v:=dw #[cZ #[cW dD 0,jN],db aW]) (eL rfl _ _ (w+1) 161 _ (0,0) _ _ rfl rfl (F9.o.row 1 _ rfl) underlying161 rfl ef) rfl ?_;exact vu
  have a7:ab ((N:ar)<1)=aW:=em;have L:ab ((16:ar)<(N:ar))=bl:=em;go_upto_region 4 with fail;go_wp2_with (refine bP rfl 161 (dk 4) (dk 28) rfl (w+1) #[cW dD 0,jN] _ 161 rfl rfl (F3.o.row 1 _ rfl) ef rfl Qj ?_);have F9:=hI (F3.o.setRow 1 rfl #[cW dD 0,jN]);refine Nh (v:=dw #[cZ #[cW dD 0,jN],db aW]) (eL rfl _ _ (w+1) 161 _ (0,0) _ _ rfl rfl (F9.o.row 1 _ rfl) underlying161 rfl ef) rfl ?_;exact vu
 have a7:ab ((N:ar)<1)=aW:=em
 have L:ab ((16:ar)<(N:ar))=aW:=em
 have j4:=q.1;have j5:=q.2;clear q a6 e9;go_wp2_with fail;clear a7 L;go_loopg [8,9] N (fun gg r i wr=> ∃(k:av) (c1:ax bR) (c2:av),k<=N/\gg=N-k/\r=cJ c1 (118 * k) c2/\i= jV k/\jb W0 wr/\wr.ownsRow W0 5 1 (js c1 (118 * k) c2) (118 * k) ((ig S s k).flatMap dR))
 ·exact⟨0,bn,0,ed,ed,rfl,rfl,Nb _ _,Nw _ _ _ _⟩
 obtain⟨k,c1,c2,b6,rfl,rfl,rfl,hb,ho⟩:=hrel;refine Qa fun f1 c3=>?_;have F2:=hI (F3.o.below hb);clear hb ho;by_cases a8:k<N
 ·have hd:ab ((k:ar)<(N:ar))=bl:=em;have H6:=hI (b5.o (s+k) ed wr F2.o.bel);rw[ar.natCast_add]at H6;have H0:=hI (J.o.len (show s+k<32 by omega));have H1:=hI (J.o.ok (show s+k<32 by omega));have f2:(s:ar)<=16/\(k:ar)<=16:=ed;have j6:=f1.o.size;go_upto_region 10 with(first | (refine Dx rfl 84 (dk 2) rfl w rfl 84 _ (0,0) _ (F2.o.row 0 _ rfl) underlying84 rfl ef ?_;simp[cq]) | (go_at_call 363;refine H6.o.mono ?_;rintro e W2 ⟨j7,i8,rfl,h2,H⟩;have H2:=hI (fj h2 H0.o);have c4:=hI (jo f1 H);have c5:=hI (bU c3.o H);clear h2 H))
  obtain⟨g2,o2,rfl,-⟩:=H2.o.by (i:=0) (by rw[H0.o];decide);have j8:128<=i8:=(by have:=H2.o.le;rw[H0.o]at this;exact this);have k0:=hI (iw H2.o 6 118 (by rw[H0.o];decide));have c6:=c4.o.size;have b7:=hI (Bq S s k);have f3:=hI (H1.o.sub 6 118);have f4:=hI (iq (l:=S.getD (s+k) []) (p:=6) (m:=118) (by rw[H0.o];decide));have A:=hI (xY J.o s k ed);have o7:=hI (Am J.o s k ed);generalize((S.getD (s+k) []).drop 6).take 118=P at *;generalize ig S s k=R at *;clear H6 H2 c3;go_wp2_with (at_builtin;refine rm (118 * k) 118 (118 * (k+1)) rfl _ _ rfl W0 (js c1 (118 * k) c2) R rfl A.o c5.o o7.o _ _ P rfl f4.o k0.o f3.o ed ed c6 ?_;intro k1 k2 w8 f5 f6);have f7:=c4.o.trans (dT c5.o (Mv _) c6 f6);go_roundg (N-(k+1))
  ·go_light;exact⟨k+1,k1,k2,ed,ed,rfl,ej,f7,by rw[b7.o];exact f5⟩
  go_light;omega
 obtain rfl:k=N:=ed;have hd:ab ((k:ar)<(k:ar))=aW:=by simp
 obtain⟨i9,rfl⟩: ∃i9,c1=bt ⟨i9,0,bn⟩:=by
  rcases c3.o.2 with⟨_,h0⟩ | ⟨g,cap,cur,h,_⟩
  ·omega
  cases h;exact⟨_,rfl⟩
 have o7:=hI (Am J.o s k ed);have A:=hI (xY J.o s k ed);have b7:=hI (fj c3.o o7.o);have f8:118 * k<=c2:=(by have:=b7.o.le;rw[o7.o]at this;exact this);have c7:=hI (Bh _ _ _ wr (iw b7.o 4 2 Ko) (xC (A.o.sub 4 2)) (by rw[iq Ko];decide));rw[iq Ko]at c7;have hz:=xJ _ (xC (A.o.sub 4 2));rw[iq Ko]at hz;have c8:bG (xZ S s=de (((ig S s k).drop 4).take 2)):=(by show _=_;unfold xZ;rw[e5.o];rfl);obtain⟨M,e6⟩:=Ds hz.1;rw[e6]at c7 c8 hz;have H3:bG (gm S s=((ig S s k).drop 6).take M):=(by show _=_;unfold gm;rw[e5.o,c8.o];rfl);have k3:(M:ar)<65536:=hz.2;clear e6 hz c3;simp only[Pa]at c7;go_upto_region 12 with(go_at_call 364;refine c7.o.mono ?_;rintro e W3 ⟨rfl,c9⟩;obtain rfl:wr=W3:=c9.symm);clear c7;by_cases d0:(M:ar)<=118 * (k:ar)-6
 case neg=>
  have L:ab (118 * (k:ar)-6<(M:ar))=bl:=em
  have Q4:bG (¬bg S s):=fun h=>by
   have h1:=h.2.2.1;rw[e5.o,c8.o]at h1;exact d0 h1
  have d1:((118 * k:av):ar)=118 * (k:ar):=ed;go_upto_region 13 with fail;go_wp2_with (refine bP rfl 161 (dk 4) (dk 51) rfl (w+1) #[cW dD 0,jN] _ 161 rfl rfl (F2.o.row 1 _ rfl) ef rfl Qj ?_);have F9:=hI (F2.o.setRow 1 rfl #[cW dD 0,jN]);refine Nh (v:=dw #[cZ #[cW dD 0,jN],db aW]) (eL rfl _ _ (w+1) 161 _ (0,0) _ _ rfl rfl (F9.o.row 1 _ rfl) underlying161 rfl ef) rfl ?_;exact vu
 have L:ab (118 * (k:ar)-6<(M:ar))=aW:=em;have d1:((118 * k:av):ar)=118 * (k:ar):=ed;go_upto_region 14 with fail;have d2:=hI (H5.o.below fS f1.o);have B:=hI fun W (h:jb wr W)=>Bh _ _ _ W ((iw d2.o 0 4 vz).below fS h) (xC (H4.o.sub 0 4)) (by rw[iq vz];decide);have O:=xJ _ (xC (H4.o.sub 0 4));rw[iq vz]at B O;have d3:bG (fk S s=de (((S.getD s []).drop 0).take 4)):=by show _=_;rw[aq.drop_zero];rfl
 have Q:bG (bg S s↔(fk S s≠0/\bo (fk S s)=(s:ar))/\bm (fk S s) (bu (fk S s) (gm S s))=(S.drop s).take k):=by
  show _↔_;unfold bg;rw[e5.o,c8.o,Sc];constructor
  ·exact fun h=>⟨h.2.1,h.2.2.2⟩
  exact fun h=>⟨⟨ed,ed⟩,h.1,d0,h.2⟩
 have U:=hI (iw b7.o 6 M Ko);rw[<-H3.o]at U;have HRL:bG ((gm S s).length=M):=(by show _=_;rw[H3.o,iq Ko]);have H7:bG (aO (gm S s)):=(by show aO _;rw[H3.o];exact A.o.sub 6 M);obtain⟨G,b8⟩: ∃G,G=fk S s:=⟨_,rfl⟩;obtain⟨T,b9⟩: ∃T,T=gm S s:=⟨_,rfl⟩;rw[<-d3.o,<-b8]at B O;rw[<-b8,<-b9]at Q;rw[<-b9]at U HRL H7;have f9:=hI b8;have g0:=hI b9;have d4:=O.1;have d5:G<4294967296:=O.2;have G9:M<=1882:=ed;simp only[Pk,av.sub_zero]at B;clear b8 b9 O d3 H3 c8 c9 L d1 hd A b7 o7 d2;go_cut [12]from 52 to 62 (fun v g1=> ∃gp ta tc,v=cY (bt ⟨gp,0,bn⟩)/\jb wr g1/\wr.heap.size<=gp/\jk g1 gp #[cW dD G,js ta M tc] 161/\aB (jQ dl g1) 1 dG ta tc T)
 case first=>
  refine zD [11] ?_;intro V I;refine zB [0,1,4,5,6,7] I ?_;refine zK 2 I (fun W h=>B.o W h) ?_;refine tO 3 ef Qd (fun _=>I) ?_;intro K hK o ho;simp at ho;subst ho;refine Qo ?_;have d6:=hI (U.o.below fS I);clear B U;refine sP 8 10 ef ?_ ?_
  ·intro K hK;obtain⟨ta,tc,W1,hr,u,hb⟩:=Lc V _ _ T d6.o (by rw[HRL.o];omega) (Mv _) 22;rw[HRL.o]at hr u;refine zQ ev rfl _ _ 22 rfl _ _ _ _ rfl rfl hr ?_;have D0:=jt I hb;refine Ob ?_;clear hK K hr
   conv=>arg 8;simp[cq]
   refine tO 9 ef Qd (fun _=>D0) ?_;intro K hK o ho;simp at ho;subst ho;refine Qo ?_;refine aS 10 ef ?_;refine Oo fun K hK=>?_;refine .inl ?_;refine ul fun gp f=>?_;have C:=hI f;clear f;generalize a9:cj W1 _=V2;have H:=jG a9;have G2:jk V2 gp #[cW dD 0,jN] 161:=(by rw[<-a9,C.o];exact Nc _ _);have D:=jt D0 H;refine hK _ _ (fun _=>D) ?_;have HT2:=hI (fj (zH (M:=dl) (bU u H) rfl) HRL.o);have HV2:=hI D;have hgp:wr.heap.size<=gp:=(by rw[C.o];exact D0.size);clear hK K a9 hb H u;refine pG [11] ef ee ?_;refine oS ?_;go_wp2_with (refine bP rfl 161 (dk 12) (dk 61) rfl gp #[cW dD G,js ta M tc] _ 161 rfl rfl G2 ef rfl Qj ?_);go_meet
   case rel=>
    have ho:aZ gp V2 (V2.setRow gp #[cW dD G,js ta M tc]):=⟨rfl,rfl,rfl,Qx,fun k b6=>Nq _ _ _ _ b6⟩;exact MT
  refine Oo fun K hK=>?_;refine .inl ?_;obtain⟨gp,f⟩: ∃gp,gp=V.heap.size:=⟨_,rfl⟩;rw[<-f];have C:=hI f;clear f;generalize a9:cj V _=W1;have H:=jG a9;have G1:jk W1 gp #[cW dD 0,jN] 161:=(by rw[<-a9,C.o];exact Nc _ _);have D0:=jt I H;refine Ob ?_;clear hK K a9;refine aS 8 ef ?_;intro K hK;obtain⟨ta,tc,V2,hr,u,hb⟩:=Lc W1 _ _ T (d6.o.below fS H) (by rw[HRL.o];omega) (Mv _) 22;rw[HRL.o]at hr u;refine zQ ev rfl _ _ 22 rfl _ _ _ _ rfl rfl hr ?_;have D:=jt D0 hb;refine hK _ _ (fun _=>D) ?_;clear hK K hr
  conv=>arg 8;simp[cq]
  refine tO 9 ef Qd (fun _=>D) ?_;intro K hK o ho;simp at ho;subst ho;refine Qo ?_;have G2:=jm hb G1;have HT2:=hI (fj (zH (M:=dl) u rfl) HRL.o);have HV2:=hI D;have hgp:wr.heap.size<=gp:=(by rw[C.o];exact I.size);clear hb H u G1;refine pG [11] ef ee ?_;refine oS ?_;go_wp2_with (refine bP rfl 161 (dk 12) (dk 61) rfl gp #[cW dD G,js ta M tc] _ 161 rfl rfl G2 ef rfl Qj ?_);go_meet
  case rel=>
   have ho:aZ gp V2 (V2.setRow gp #[cW dD G,js ta M tc]):=⟨rfl,rfl,rfl,Qx,fun k b6=>Nq _ _ _ _ b6⟩;exact MT
 case rest=>
  obtain⟨gp,ta,tc,rfl,d7,hgp,X,d8⟩:=hcut;have F1:=hI (F2.o.below d7);have R0:=hI X;have HTA:=hI d8;have q0:=ji 0 R0;have k4:=aD X;have C:bG (w+1<gp):=(by have:=F2.o.lt (i:=1) ee;show _<_;omega);have H8:=hI fun W=>Bf G d4 d5 W;clear d7 hgp X d8 B U F2;by_cases he:G=0
  ·have d9:(G==0)=bl:=Xv;have Q4:bG (¬bg S s):=fun h=>(Q.o.1 h).1.1 he;clear he;go_upto_region 16 with fail;go_wp2_with (refine bP rfl 161 (dk 4) (dk 72) rfl (w+1) #[cW dD 0,jN] _ 161 rfl rfl (F1.o.row 1 _ rfl) ef rfl Qj ?_);have F9:=hI (F1.o.setRow 1 rfl #[cW dD 0,jN]);refine Nh (v:=dw #[cZ #[cW dD 0,jN],db aW]) (eL rfl _ _ (w+1) 161 _ (0,0) _ _ rfl rfl (F9.o.row 1 _ rfl) underlying161 rfl ef) rfl ?_;exact vu
  have d9:(G==0)=aW:=Ui;by_cases hsl:bo G=(s:ar)
  case neg=>
   have Y:(bo G != (s:ar))=bl:=et;have a0:(bo G==(s:ar))=aW:=(by rw[Nd];exact hsl);have Q4:bG (¬bg S s):=fun h=>hsl (Q.o.1 h).1.2;clear hsl he;generalize bo G=z at *;go_upto_region 16 with(go_at_call 362;refine oG (H8.o wc) fun W5 b0=>?_;obtain rfl:wc=W5:=b0.symm);go_wp2_with (refine bP rfl 161 (dk 4) (dk 72) rfl (w+1) #[cW dD 0,jN] _ 161 rfl rfl (F1.o.row 1 _ rfl) ef rfl Qj ?_);have F9:=hI (F1.o.setRow 1 rfl #[cW dD 0,jN]);refine Nh (v:=dw #[cZ #[cW dD 0,jN],db aW]) (eL rfl _ _ (w+1) 161 _ (0,0) _ _ rfl rfl (F9.o.row 1 _ rfl) underlying161 rfl ef) rfl ?_;exact vu
  have Y:(bo G != (s:ar))=aW:=et;have a0:(bo G==(s:ar))=bl:=(by rw[Da];exact hsl);have H9:=hI (Q.o.trans ⟨fun h=>h.2,fun h=>⟨⟨he,hsl⟩,h⟩⟩);have b1:=hI (Cv G T ta tc wc (HTA.o.ext iX dg) H7.o Ox d4 d5);rw[HRL.o]at b1;have g3:=hI (As G (bu G T));have g4:=hI (Cu (g:=G) (Ct (g:=G) H7.o) (by unfold ii;rw[wg,HRL.o];omega));clear hsl he Q;generalize bo G=z at *;go_upto_region 17 with(go_at_call 362;refine oG (H8.o wc) fun W5 b0=>?_;obtain rfl:wc=W5:=b0.symm);clear q0 k4 d9 Y a0 H8;generalize bm G (bu G T)=Z at *;go_upto_region 18 with(first | (refine Dx rfl 161 (dk 12) rfl gp rfl 161 _ (0,0) _ R0.o underlying161 rfl ef ?_;simp[cq]) | (go_at_call 267;refine b1.o.mono ?_;rintro e W5 ⟨l2,l3,rfl,hz,O8⟩;have F5:=hI (F1.o.below O8);have R5:=hI ((jm O8 R0.o));have g5:=hI Xs;have g6:=hI (hz.ext an dg);clear hz O8))
  clear b1 R0 HTA F1;have a2:((S.drop s).take k).length=k:=(by rw[Dn,Po,HL.o];omega);by_cases a1:Z.length=k
  case neg=>
   have Y:((Z:ar) != (k:ar))=bl:=(by simp[bne];omega);have a0:((Z:ar)==(k:ar))=aW:=Ov;have Q4:bG (¬bg S s):=fun h=>a1 (by rw[H9.o.1 h];exact a2);clear a1 a2;go_upto_region 19 with fail;go_wp2_with (refine bP rfl 161 (dk 4) (dk 79) rfl (w+1) #[cW dD 0,jN] _ 161 rfl rfl (F5.o.row 1 _ rfl) ef rfl Qj ?_);have F9:=hI (F5.o.setRow 1 rfl #[cW dD 0,jN]);refine Nh (v:=dw #[cZ #[cW dD 0,jN],db aW]) (eL rfl _ _ (w+1) 161 _ (0,0) _ _ rfl rfl (F9.o.row 1 _ rfl) underlying161 rfl ef) rfl ?_;exact vu
  have Y:((Z:ar) != (k:ar))=aW:=(by simp[bne];omega);have a0:((Z:ar)==(k:ar))=bl:=Ve;have g7:=hI a1
  have e0:bG (bg S s↔ ∀i,i<k->Z.getD i []=S.getD (s+i) []):=by
   refine H9.o.trans ⟨fun h i j0=> ?_,fun h=>Sf (by rw[a2,a1]) fun i h1 h2=> ?_⟩
   ·rw[h,Na,aq.getElem?_take,Np j0,aq.getElem?_drop,Na]
   have:=h i ed;rw[iu h1,iu Qm]at this;rw[this,Tn,Ga]
  clear a1 a2 H9;go_upto_region 21 with fail;clear Y a0;go_loopg [14] k (fun gg i wr=> ∃j:av,j<=k/\gg=k-j/\i= jV j/\jb W5 wr/\ ∀i,i<j->Z.getD i []=S.getD (s+i) [])
  ·exact⟨0,ed,ed,rfl,Nb _ _,fun i h=>by omega⟩
  obtain⟨j,hj,rfl,rfl,hb,a5⟩:=hrel;have E:=hI hb;have e1:=hI a5;clear hb a5;by_cases a8:j<k
  ·have hd:ab ((j:ar)<(k:ar))=bl:=em;have F6:=hI (F5.o.below E.o);have a3:j<Z.length:=(by rw[g7.o];exact a8);obtain⟨l4,oz,l6,l7,rfl,z0,z1⟩:=(g6.o.below xX E.o).sc a3;have y:=g3.o _ (Nn a3);rw[y]at z0;have b2:=hI fun W (h:jb wr W)=>DU (z1.below fS h);rw[y]at b2;have g8:=hI (g4.o _ (Nn a3));obtain⟨p0,p1⟩:=DY (g:=w.heap.size) (F6.o.row 0 _ rfl);have lp:w.heap.size<wr.heap.size:=F6.o.lt (i:=0) ee;have lz:=Mt z0;have H6:=hI fun W (h:jb wr W)=>b5.o (s+j) ed W (jt F6.o.bel h);rw[ar.natCast_add]at H6;have H0:=hI (J.o.len (show s+j<32 by omega));have H1:=hI (J.o.ok (show s+j<32 by omega));have e2:bG (Z.getD j []=Z[j]):=iu a3;have b3:=hI (UB g8.o H1.o);have f2:(s:ar)<=16/\(j:ar)<=16:=ed;have k5:(0:ar)<=(j:ar):=ed;have k6:(j:ar)<(k:ar):=ed;clear z1 y;generalize Z[j]=Zj at *;obtain⟨e7,b4⟩: ∃e7,e7=S.getD (s+j) []:=⟨_,rfl⟩;rw[<-b4]at H6 H0 H1 b3;have e3:=hI b4;clear b4;go_upto_region 23 with fail;refine zD [11] ?_;refine OI fun V I t0 t1 t2 t3 t4=>?_;have t5:=fun t:Gw wr=>b2.o t.w t.h;refine zB [0,1,2,3,4,5,6,7,8] I ?_;clear t0 t1 t2 t3 t4 t5 p0 p1 z0 lp lz;refine aS 9 ef ?_;refine Oo fun K hK=>?_;refine um (H6.o V I) fun _ _ _ h2 H=>?_;have D0:=jt I H;have cc:=DU (fj h2 H0.o);rw[H0.o]at cc;refine Ob ?_;have e4:=hI (jo E D0);clear hK K I h2 H;refine aS 10 ef ?_;intro K hK;refine Vo ?_;refine .inl (hK _ _ (fun _=>D0) ?_);clear hK K D0 cc;have a4:=b3.o;clear b3 b2;generalize strOfNums Zj=SA at *;generalize strOfNums e7=SB at *;refine pG [11] ef ee ?_;refine oS ?_;by_cases F:Zj=e7
   ·have g9:(SA.toList==SB.toList)=bl:=(by rw[a4];exact Ni F);have i0:=hI F;clear a4 F;go_wp2_with fail;go_roundg (k-(j+1))
    ·go_light;refine⟨j+1,ed,ed,ej,e4.o,fun i j0=> ?_⟩;rcases Pw i j with h | h
     ·exact e1.o i h
     obtain rfl:i=j:=ed;rw[e2.o,i0.o,e3.o]
    go_light;omega
   have g9:(SA.toList==SB.toList)=aW:=by rw[a4];exact Mw F
   have Q4:bG (¬bg S s):=fun h=>F (by
    have:=e0.o.1 h j a8;rw[e2.o,<-e3.o]at this
    exact this)
   have F7:=hI (F5.o.below e4.o);clear a4 F;go_upto_region 24 with fail;go_wp2_with (refine bP rfl 161 (dk 4) (dk 97) rfl (w+1) #[cW dD 0,jN] _ 161 rfl rfl (F7.o.row 1 _ rfl) ef rfl Qj ?_);have F9:=hI (F7.o.setRow 1 rfl #[cW dD 0,jN]);refine Nh (v:=dw #[cZ #[cW dD 0,jN],db aW]) (eL rfl _ _ (w+1) 161 _ (0,0) _ _ rfl rfl (F9.o.row 1 _ rfl) underlying161 rfl ef) rfl ?_;exact vu
  obtain rfl:j=k:=ed;have hd:ab ((j:ar)<(j:ar))=aW:=ee;have F6:=hI (F5.o.below E.o);have R6:=hI ((jm E.o R5.o));have i1:=hI (g5.o.ext iX (dS.of_below E.o).ext);have k7:=hI (e0.o.2 e1.o);go_upto_region 25 with fail;go_wp2_with (first | (refine Dx rfl 161 (dk 12) rfl gp rfl 161 _ (0,0) _ R6.o underlying161 rfl ef ?_;simp[cq]) | (refine bP rfl 161 (dk 4) (dk 98) rfl (w+1) #[cW dD G,js ta M tc] _ 161 rfl rfl (F6.o.row 1 _ rfl) ef rfl Qj ?_))
  have F9:=hI (F6.o.setRow 1 rfl #[cW dD G,js ta M tc]);have i2:jk wr (w+1) _ 161:=F6.o.row 1 _ rfl;refine Nh (v:=dw #[cZ #[cW dD G,js ta M tc],db bl]) (eL rfl _ _ (w+1) 161 _ (0,0) _ _ rfl rfl (F9.o.row 1 _ rfl) underlying161 rfl ef) rfl ?_;have b9:=g0.o;have b8:=f9.o;have e6:=HRL.o;subst b8 e6 b9;exact Lb k7.o (i1.o.ext iX (xT i2 rfl).ext) F9.o.bel
def aB.takeN {α:Type}{w:aj}{R:aj->aq bw->α->Prop}{a:ax bR}{l:aq α}(h:aB w sz R a cap l) (n:av):aB w sz R a cap (l.take n):=
 ⟨by rw[Dn];have:=h.le;omega,h.nil,fun i b=>by
  have H:i<l.length:=by rw[Dn]at b;omega
  have:=h.at_ i H;rw[Tn]
  exact this⟩
theorem wav (x:wbm) (a:ax bR) (c:av) (b:ax bR) (d s:av) (w:aj) (hx:ay w a c b d x) (j0:ae x) (j1:x.wt=[]) (hok:ct x.sc) (m7:s<=16):
  jW 189 #[cZ (ak a c b d x),jV (s:ar)] w (xQ w x.sc s):=by
 have f3:=hI fun(k:av) (c1:k<32) W (h:jb w W)=>EA x a c b d k W (hx.below h) j0 j1 c1;unfold ak at f3 ⊢;generalize x.wt.length=f4 at *;obtain⟨S,j2⟩: ∃S,S=x.sc:=⟨_,rfl⟩;rw[<-j2]at f3 hok ⊢;have O:=hI hok;clear hx j0 j1 j2 hok;have HL:=hI O.o.n;have HFL:=hI (O.o.len (show s<32 by omega));have H3:=hI (O.o.ok (show s<32 by omega));have u:bG (∀k,k<=16->((S.drop s).take k).length=k):=fun k c1=>by rw[DL,PR,HL.o];omega
 have c2:bG (∀k,k<16->(S.drop s).take (k+1)=(S.drop s).take k++[S.getD (s+k) []]):=fun k c1=>by
  rw[NZ (by rw[PR,HL.o];omega),Sz,Pg,PM (by rw[HL.o];omega)];rfl
 go_enter func189,ntmps189;go_upto_region 1 with fail;generalize G7:cj _ _=W2;have F4:bG (Fr w [(#[js a S c,js b f4 d],84),(#[cW dD 0,jN],161)] W2):=by refine vv ?_;exact((Fr.start w).alloc rfl _ _).alloc ee _ _
 clear G7;go_wp2_with fail;go_loopg [6,15] 16 (fun gg r i wr=> ∃(k:av) (Q:ax bR) (b7:av) (xss:aq (aq bw)),k<=16/\gg=16-k/\r=cJ Q k b7/\i= jV k/\jb W2 wr/\cR MD wr W2 22 1 br (js Q k b7) ((S.drop s).take k) xss)
 ·exact⟨0,bn,0,[],ed,ed,rfl,rfl,Nb _ _,cR.nil⟩
 obtain⟨k,Q,b7,xss,c1,rfl,rfl,rfl,hb,ho⟩:=hrel;refine Qa fun j3 b8=>?_;have F2:=hI (F4.o.below hb);have HRL:bG (xss.length=k):=by show _=_;rw[ho.len,u.o k c1]
 clear hb ho;by_cases a2:k<16
 ·have hd:ab ((k:ar)<16)=bl:=em;have HC:=hI (f3.o (s+k) ed wr F2.o.bel);rw[ar.natCast_add]at HC;have j6:(s:ar)<=16/\(k:ar)<=16:=ed;have j7:=j3.o.size;go_upto_region 6 with(first | (refine Dx rfl 84 (dk 2) rfl w rfl 84 _ (0,0) _ (F2.o.row 0 _ rfl) underlying84 rfl ef ?_;simp[cq]) | (go_at_call 260;refine vy fun C j8 j9 h2 a3=>?_;have k0:=hI h2;have c3:=hI (jo j3 a3);have D:=hI (b8.o.below an a3);clear h2 a3))
  have U:=c3.o.size;have a5:=hI (c2.o k a2);generalize S.getD (s+k) []=P at *;generalize aq.take k (S.drop s)=Q0 at *;clear HC b8;go_wp2_with (at_builtin;refine nK rfl _ _ 81 22 22 _ 1 24 rfl underlying81 qx rfl eh eh W2 (js Q k b7) k _ rfl (HRL.o ▸ D.o.own) ed U [cJ j8 128 j9] rfl rfl (zv _ _ _) ?_;intro k1 f5 w8 G9 a1);have a6:=(c3.o.alloc U _).trans (dT (D.o.own.alloc _) (Mv _) em a1);have c5:=(D.o.below an aR).app an rfl rfl (an _ _ _ _ (dS.of_below ((Nb C C).alloc (Mv _) _)).ext k0.o) Ox a1;rw[<-a5.o]at c5;go_roundg (16-(k+1))
  ·go_light;exact⟨k+1,bt ⟨k1,0,bn⟩,f5,_,ed,ed,rfl,ej,a6,c5⟩
  go_light;omega
 obtain rfl:k=16:=ed;have hd:ab (((16:av):ar)<16)=aW:=eh;have hq:=u.o 16 (Mv _);have f6:=hI (c2.o 0 eh);have k2:bG (∀n,n<=16->((S.drop s).take 16).take n=(S.drop s).take n):=fun n k3=>by rw[aq.take_take,Gm k3]
 obtain⟨W1,f7⟩: ∃W1,W1=wr:=⟨_,rfl⟩;subst f7
 have a7:((S.drop s).take 16)[0]'(by rw[hq];decide)=S.getD s []:=by
  rw[DP,Sz,Pg,PM (by rw[HL.o];omega)];rfl
 obtain⟨m8,o6,m9,n0,k4,he,y0,a8⟩:=Ew b8.o (n:=0) (by rw[hq];decide);rw[hq]at he;cases he;rw[a7,HFL.o]at y0;rw[a7]at a8;obtain⟨k5,k6,he,f8⟩:=an _ _ _ _ dg a8;rw[HFL.o]at he;cases he;have X:=hI f8
 have k7:16<=b7:=by
  obtain⟨_,_,e,h⟩:=b8.o.sl an
  injection e with e1 e8 e9
  have:=h.le;rw[hq]at this;omega
 clear a8 a7;simp only[Pk]at y0;have f9:fh S s=(S.getD s [])[5]' vz:=(by unfold fh;rw[Pg,PM vz];rfl);obtain⟨n1,o5,rfl,pp0⟩:=X.o.by (i:=5) vz;rw[<-f9]at pp0;have g0:0<=fh S s/\fh S s<=255:=(by rw[f9];exact H3.o _ (PK _));have a9:bG (bg S s->1<=fh S s/\fh S s<=16):=fun h=>h.1;have j4:128<=k4:=(by have:=X.o.le;rw[HFL.o]at this;exact this);obtain⟨N,g1⟩:=Ds g0.1;have f0:=hI g1;rw[g1]at pp0 g0 a9;clear f9 g1;refine Om fun l5 l0=>?_;have k8:(0:ar)<=5:=eh;have k9:(5:ar)<128:=eh;have E:=hI fun W (h:jb W1 W)=>Bj _ _ _ W ((iw X.o 0 4 vz).below fS h) (xC (H3.o.sub 0 4)) (by rw[iq vz];decide);have F:=xJ _ (xC (H3.o.sub 0 4));rw[iq vz]at E F;have y:bG (fk S s=de (((S.getD s []).drop 0).take 4)):=(by show _=_;rw[aq.drop_zero];rfl);obtain⟨G,c6⟩: ∃G,G=fk S s:=⟨_,rfl⟩;rw[<-y.o,<-c6]at E F;have Y:=hI c6;have c7:=F.1;have c8:G<4294967296:=F.2;simp only[Pk,av.sub_zero]at E;clear c6 F y f6 hq;go_upto_region 9 with fail;have I:jk W1 (w+1) #[cW dD 0,jN] 161:=F2.o.row 1 _ rfl;have p0:=ji 0 I;have qf:=fu I 0;have g3:=aD I;have D:=hI (b8.o.setCell (o:=0) an I rfl eh (cW dD G));have F3:bG (Fr w [(#[js a S c,js b f4 d],84),(#[cW dD G,jN],161)] (W1.setCell ⟨w+1,0,bn⟩ (cW dD G))):=F2.o.set 1 rfl 0 (cW dD G);go_upto_region 10 with(go_at_call 261;refine oG (E.o W1 (Nb _ _)) fun C U=>?_;obtain rfl:W1=C:=U.symm);clear y0 pp0 l5 l0 p0 qf g3 I b8 E X;generalize cd _ _ _=C at *;have p0:=ji 0 (F3.o.row 1 _ rfl);have lp:=F3.o.lt (i:=1) ee;have H0:=hI fun W=>Ck G c7 c8 W;rcases(show¬(1<=N/\N<=16)\/(1<=N/\N<=16)from(Classical.em _).symm)with c9 | f
 ·have Q4:bG (¬bg S s):=fun h=>c9 (by have:=a9.o h;omega);by_cases h1:N<1
  ·have b0:ab ((N:ar)<1)=bl:=em;go_upto_region 11 with fail;go_wp2_with (refine bP rfl 161 (dk 4) (dk 61) rfl (w+1) #[cW dD 0,jN] _ 161 rfl rfl (F3.o.row 1 _ rfl) ef rfl Qj ?_);have F9:=hI (F3.o.setRow 1 rfl #[cW dD 0,jN]);refine Nh (v:=dw #[cZ #[cW dD 0,jN],db aW]) (eL rfl _ _ (w+1) 161 _ (0,0) _ _ rfl rfl (F9.o.row 1 _ rfl) underlying161 rfl ef) rfl ?_;exact vu
  have b0:ab ((N:ar)<1)=aW:=em;have J:ab ((16:ar)<(N:ar))=bl:=em;go_upto_region 11 with fail;go_wp2_with (refine bP rfl 161 (dk 4) (dk 61) rfl (w+1) #[cW dD 0,jN] _ 161 rfl rfl (F3.o.row 1 _ rfl) ef rfl Qj ?_);have F9:=hI (F3.o.setRow 1 rfl #[cW dD 0,jN]);refine Nh (v:=dw #[cZ #[cW dD 0,jN],db aW]) (eL rfl _ _ (w+1) 161 _ (0,0) _ _ rfl rfl (F9.o.row 1 _ rfl) underlying161 rfl ef) rfl ?_;exact vu
 have b0:ab ((N:ar)<1)=aW:=em;have J:ab ((16:ar)<(N:ar))=aW:=em;have l1:=f.1;have l2:=f.2;clear f g0
 have H4:bG (bg S s->G≠0/\bo G=(s:ar)):=by
  intro h;rw[Y.o];exact h.2.1
 by_cases q:G=0
 ·have d0:(G==0)=bl:=(by rw[Da];exact q);have Q4:bG (¬bg S s):=fun h=>(H4.o h).1 q;clear q;go_upto_region 11 with fail;go_wp2_with (refine bP rfl 161 (dk 4) (dk 61) rfl (w+1) #[cW dD 0,jN] _ 161 rfl rfl (F3.o.row 1 _ rfl) ef rfl Qj ?_);have F9:=hI (F3.o.setRow 1 rfl #[cW dD 0,jN]);refine Nh (v:=dw #[cZ #[cW dD 0,jN],db aW]) (eL rfl _ _ (w+1) 161 _ (0,0) _ _ rfl rfl (F9.o.row 1 _ rfl) underlying161 rfl ef) rfl ?_;exact vu
 have d0:(G==0)=aW:=(by rw[Nd];exact q);by_cases hsl:bo G=(s:ar)
 case neg=>
  have b1:(bo G != (s:ar))=bl:=et;have b2:(bo G==(s:ar))=aW:=(by rw[Nd];exact hsl);have Q4:bG (¬bg S s):=fun h=>hsl (H4.o h).2;clear hsl q;generalize bo G=z at *;go_upto_region 11 with(go_at_call 259;refine oG (H0.o C) fun W0 b3=>?_;obtain rfl:C=W0:=b3.symm);go_wp2_with (refine bP rfl 161 (dk 4) (dk 61) rfl (w+1) #[cW dD 0,jN] _ 161 rfl rfl (F3.o.row 1 _ rfl) ef rfl Qj ?_);have F9:=hI (F3.o.setRow 1 rfl #[cW dD 0,jN]);refine Nh (v:=dw #[cZ #[cW dD 0,jN],db aW]) (eL rfl _ _ (w+1) 161 _ (0,0) _ _ rfl rfl (F9.o.row 1 _ rfl) underlying161 rfl ef) rfl ?_;exact vu
 have b1:(bo G != (s:ar))=aW:=et;have b2:(bo G==(s:ar))=bl:=(by rw[Da];exact hsl);have y:=hI (show G≠0/\bo G=(s:ar)from⟨q,hsl⟩);clear hsl q H4 a9;obtain⟨z,b4⟩: ∃z,z=bo G:=⟨_,rfl⟩;rw[<-b4]at y b1 b2 H0;have g4:=hI b4;clear b4;go_upto_region 13 with(go_at_call 259;refine(H0.o C).mono ?_;rintro e W0 ⟨rfl,b3⟩;obtain rfl:C=W0:=b3.symm);clear p0 lp d0 b1 b2 H0 b0 J
 have l3:bG (∀j,j<N-> ∀h:j<((S.drop s).take 16).length,((S.drop s).take 16)[j]=S.getD (s+j) []):=fun j hj h=>by
  rw[DP,Sz,Pg,PM (by rw[HL.o];omega)];rfl
 have l4:(0:ar)<=(N:ar):=ed;have l6:(N:ar)<=(b7:ar):=ed;go_wp2_with fail;go_loopg [11,66] N (fun gg r i wr=> ∃(j:av) (Q:ax bR) (d2:av),j<=N/\gg=N-j/\r=cJ Q (118 * j) d2/\i= jV j/\jb C wr/\wr.ownsRow C 5 1 (js Q (118 * j) d2) (118 * j) ((ig S s j).flatMap dR))
 ·exact⟨0,bn,0,ed,ed,rfl,rfl,Nb _ _,Nw _ _ _ _⟩
 obtain⟨j,Q,d2,hj,rfl,rfl,rfl,hb,ho⟩:=hrel;refine Qa fun d1 L=>?_;have F0:=hI (F3.o.below hb);have d3:=hI (D.o.below an hb);clear hb ho;have hq:=u.o 16 (Mv _);by_cases a2:j<N
 ·have hd:ab ((j:ar)<(N:ar))=bl:=em;obtain⟨_,_,e,d4⟩:=d3.o.sl an
  injection e with e1 e8 e9
  subst e9;obtain⟨n2,oz,n3,l7,e,z0,z1⟩:=d4.sc (i:=j) (by rw[hq];omega);rw[e]at e1;cases e1;have d5:=hI (O.o.len (show s+j<32 by omega));have g5:=hI (O.o.ok (show s+j<32 by omega));rw[l3.o j a2 (by rw[hq];omega)]at z0 z1;rw[d5.o]at z0;obtain⟨g2,o2,rfl,-⟩:=z1.by (i:=0) (by rw[d5.o];decide);have l8:128<=l7:=(by have:=z1.le;rw[d5.o]at this;exact this);have n4:=Mt z0;have l9:=hI (iw z1 6 118 (by rw[d5.o];decide));have d6:=d1.o.size;have b9:=hI (Bq S s j);have g6:=hI (g5.o.sub 6 118);have g7:=hI (iq (l:=S.getD (s+j) []) (p:=6) (m:=118) (by rw[d5.o];decide));have A:=hI (xY O.o s j ed);have o7:=hI (Am O.o s j ed);generalize((S.getD (s+j) []).drop 6).take 118=P at *;generalize ig S s j=R at *;have m0:(0:ar)<=(j:ar):=ed;have m1:(j:ar)<(N:ar):=ed;clear e e8 d4 z1 hq;go_wp2_with (at_builtin;refine rm (118 * j) 118 (118 * (j+1)) rfl _ _ rfl C (js Q (118 * j) d2) R rfl A.o L.o o7.o _ _ P rfl g7.o l9.o g6.o ed ed d6 ?_;intro m2 f5 w8 g8 g9);have a6:=d1.o.trans (dT L.o (Mv _) d6 g9);go_roundg (N-(j+1))
  ·go_light;exact⟨j+1,m2,f5,ed,ed,rfl,ej,a6,by rw[b9.o];exact g8⟩
  go_light;omega
 obtain rfl:j=N:=ed;have hd:ab ((j:ar)<(j:ar))=aW:=by simp
 obtain⟨j5,rfl⟩: ∃j5,Q=bt ⟨j5,0,bn⟩:=by
  rcases L.o.2 with⟨_,h0⟩ | ⟨g,cap,cur,h,_⟩
  ·omega
  cases h;exact⟨_,rfl⟩
 have o7:=hI (Am O.o s j ed);have A:=hI (xY O.o s j ed);have b9:=hI (fj L.o o7.o);have i0:118 * j<=d2:=(by have:=b9.o.le;rw[o7.o]at this;exact this);have d7:=hI (Bj _ _ _ wr (iw b9.o 4 2 Ko) (xC (A.o.sub 4 2)) (by rw[iq Ko];decide));rw[iq Ko]at d7;have hz:=xJ _ (xC (A.o.sub 4 2));rw[iq Ko]at hz;have d8:bG (xZ S s=de (((ig S s j).drop 4).take 2)):=(by show _=_;unfold xZ;rw[f0.o];rfl);obtain⟨M,f1⟩:=Ds hz.1;rw[f1]at d7 d8 hz;have H1:bG (gm S s=((ig S s j).drop 6).take M):=(by show _=_;unfold gm;rw[f0.o,d8.o];rfl);have m3:(M:ar)<65536:=hz.2;clear f1 hz L;simp only[Pa]at d7;go_upto_region 19 with(go_at_call 261;refine d7.o.mono ?_;rintro e W3 ⟨rfl,i1⟩;obtain rfl:wr=W3:=i1.symm);clear d7;have i2:((118 * j:av):ar)=118 * (j:ar):=ed;by_cases d9:(M:ar)<=118 * (j:ar)-6
 case neg=>
  have J:ab (118 * (j:ar)-6<(M:ar))=bl:=em
  have Q4:bG (¬bg S s):=fun h=>by
   have h1:=h.2.2.1;rw[f0.o,d8.o]at h1;exact d9 h1
  go_upto_region 20 with fail;go_wp2_with (refine bP rfl 161 (dk 4) (dk 84) rfl (w+1) #[cW dD 0,jN] _ 161 rfl rfl (F0.o.row 1 _ rfl) ef rfl Qj ?_);have F9:=hI (F0.o.setRow 1 rfl #[cW dD 0,jN]);refine Nh (v:=dw #[cZ #[cW dD 0,jN],db aW]) (eL rfl _ _ (w+1) 161 _ (0,0) _ _ rfl rfl (F9.o.row 1 _ rfl) underlying161 rfl ef) rfl ?_;exact vu
 have J:ab (118 * (j:ar)-6<(M:ar))=aW:=em
 have H5:bG (bg S s↔bm (fk S s) (bu (fk S s) (gm S s))=(S.drop s).take j):=by
  show _↔_;unfold bg;rw[f0.o,d8.o,Sc,<-Y.o];constructor
  ·exact fun h=>h.2.2.2
  exact fun h=>⟨⟨ed,ed⟩,⟨y.o.1,by have:=y.o.2;have:=g4.o;omega⟩,d9,h⟩
 have H2:=hI (iw b9.o 6 M Ko);rw[<-H1.o]at H2;have H:bG ((gm S s).length=M):=(by show _=_;rw[H1.o,iq Ko]);have H6:bG (aO (gm S s)):=(by show aO _;rw[H1.o];exact A.o.sub 6 M);obtain⟨T,c0⟩: ∃T,T=gm S s:=⟨_,rfl⟩;rw[<-Y.o,<-c0]at H5;rw[<-c0]at H2 H H6;have i3:=hI c0;have a0:M<=1882:=ed;clear c0 H1 d8 hd A b9 o7;have H7:=hI (UN _ _ T wr H2.o (by rw[H.o];omega));rw[H.o]at H7;go_upto_region 21 with fail;have e0:=F0.o.lt (i:=1) ee;go_upto_region 22 with(go_at_call 60;refine H7.o.mono ?_;refine qc fun W4 _ b5 M5=>?_;obtain⟨a4,c4,rfl⟩:=rR b5;have F5:=hI (F0.o.below M5);have e2:=hI (d3.o.below an M5);have e3:=hI b5;have I:jk W4 (w+1) #[cW dD G,jN] 161:=F5.o.row 1 _ rfl;have p1:=ji 1 I;have qf:=fu I 1;have g3:=aD I;clear b5 M5);have F1:bG (Fr w [(#[js a S c,js b f4 d],84),(#[cW dD G,js a4 M c4],161)] (W4.setCell ⟨w+1,1,bn⟩ (js a4 M c4))):=F5.o.set 1 rfl 1 (js a4 M c4);have e4:=hI (e2.o.setCell (o:=1) an I rfl eh (js a4 M c4));have e5:=hI (ownsRow_setCell_below (a:=⟨w+1,1,bn⟩) e3.o e0 (js a4 M c4));clear p1 qf g3 I e3 e2 F5 H7 H2 e0;generalize cd _ _ _=W0 at *;have H8:=hI (fj (zH (M:=dl) e5.o rfl) H.o);have H9:=hI fun W (h:jb W0 W)=>Lw G T a4 c4 W ((H8.o.ext iX dg).below fS h) H6.o (by rw[H.o];exact a0) c7 c8;rw[H.o]at H9;have i4:=hI (Cu (g:=G) (Ct (g:=G) H6.o) (by unfold ii;rw[wg,H.o];omega));have i5:(bm G (bu G T)).length<=1000:=(by rw[bm,TG,Fo];unfold ii;rw[wg,H.o];omega);generalize bm G (bu G T)=Z at *;refine kI fun p0 p1=>?_;have lp:=F1.o.lt (i:=1) ee;clear e5 J i2 hq;refine zD [5] ?_;intro V f2;refine vM fun t0 t1 t2=>?_;refine zB [0,2,3,4] f2 ?_;clear t0 t1 t2 p0 p1 lp;refine aS 1 ef ?_;refine Oo fun K hK=>?_;refine um (H9.o V f2) fun V1 m4 m5 h7 e6=>?_;have D0:=jt f2 e6;refine Ob ?_;have F7:=hI (F1.o.below D0);have HTA:=hI (H8.o.ext iX (dS.of_below D0).ext);have i6:=hI (e4.o.below an D0);have i7:=hI (h7.ext an dg)
 clear hK K f2 D0 h7 e6 F1 H8 e4 H9;obtain⟨_,_,e,e7⟩:=i6.o.sl an
 injection e with e1 e8 e9
 subst e1 e9;have b6:=e7.takeN j;rw[k2.o j ed]at b6
 have a5:=hI (Ju m4 _ m5 _ Z ((S.drop s).take j) V1 i7.o b6 i5 (by rw[u.o j ed];omega) (fun i h=>i4.o _ (PK h)) (fun i h=>by
  have n5:i<j:=(by rw[u.o j ed]at h;exact h);have:=O.o.ok (show s+i<32 by omega);rw[iu Qm]at this;rw[DP,Sz]
  exact this))
 rw[u.o j ed,UX]at a5;clear e8 e7 b6;refine pG [5,6] ef ee ?_;refine kk ?_;by_cases B:Z=(S.drop s).take j
 ·rw[Ni B]at a5;have m6:=hI (H5.o.2 B);clear B;go_upto_region 24 with(go_at_call 199;refine a5.o.mono ?_;rintro e V2 ⟨rfl,O8⟩;have F8:=hI (F7.o.below O8);have i8:=hI Xs;clear O8);go_wp2_with (first | (refine Dx rfl 161 (dk 4) rfl (w+1) rfl 161 _ (0,0) _ (F8.o.row 1 _ rfl) underlying161 rfl ef ?_;simp[cq]) | (refine bP rfl 161 (dk 4) (dk 99) rfl (w+1) #[cW dD G,js a4 M c4] _ 161 rfl rfl (F8.o.row 1 _ rfl) ef rfl Qj ?_))
  have F9:=hI (F8.o.setRow 1 rfl #[cW dD G,js a4 M c4]);have i9:jk V2 (w+1) _ 161:=F8.o.row 1 _ rfl;refine Nh (v:=dw #[cZ #[cW dD G,js a4 M c4],db bl]) (eL rfl _ _ (w+1) 161 _ (0,0) _ _ rfl rfl (F9.o.row 1 _ rfl) underlying161 rfl ef) rfl ?_;have c0:=i3.o;have c6:=Y.o;have f1:=H.o;subst c6 f1 c0;exact Lb m6.o (i8.o.ext iX (xT i9 rfl).ext) F9.o.bel
 rw[Mw B]at a5;have Q4:bG (¬bg S s):=fun h=>B (H5.o.1 h);clear B;go_upto_region 23 with(go_at_call 199;refine a5.o.mono ?_;rintro e V2 ⟨rfl,O8⟩;have F8:=hI (F7.o.below O8);clear O8);go_wp2_with (refine bP rfl 161 (dk 4) (dk 98) rfl (w+1) #[cW dD 0,jN] _ 161 rfl rfl (F8.o.row 1 _ rfl) ef rfl Qj ?_);have F9:=hI (F8.o.setRow 1 rfl #[cW dD 0,jN]);refine Nh (v:=dw #[cZ #[cW dD 0,jN],db aW]) (eL rfl _ _ (w+1) 161 _ (0,0) _ _ rfl rfl (F9.o.row 1 _ rfl) underlying161 rfl ef) rfl ?_;exact vu
def fw (w:aj) (vs:aq bw) (r:iy):Prop:= ∃a c,vs=[cW dD r.gen,cJ a r.text c]/\aB w 1 dG a c r.text
def ag:aY fw:=fun w w' v x he h=>by
 obtain⟨a,c,e,h⟩:=h;exact⟨a,c,e,h.ext iX he⟩
def Ae:(prog.info? 161).map (fun i=>(i.zero,i.size,i.bytes))=bt (bt (cZ #[cW dD 0,jN]),2,32):=by kernel_rfl
def Af (n:ar) (a:ax bR) (m c:av): ∀u∈[bw.int dD n,bw.slice a m c],u.oneCell'=bl:=by
 intro u H;rcases Dv.1 H with rfl | H
 ·rfl
 rw[Tv]at H;subst H;rfl
def Jx (w:aj) (L:aq iy) (e:Ending) (w':aj):Prop:= ∃a c,e=cL (js a L c)/\aB w' 2 fw a c L/\jb w w'
def YG (W:aj) (x y:iy) (a b:ax bR) (c d:av) (h1:aB W 1 dG a c x.text) (h2:aB W 1 dG b d y.text):
  aB (W.alloc (cO #[cW dD x.gen,js a x.text c,cW dD y.gen,js b y.text d] 161)) 2 fw (bt ⟨W,0,bn⟩) 2 [x,y]:=by
 have H:jb W (W.alloc (cO #[cW dD x.gen,js a x.text c,cW dD y.gen,js b y.text d] 161)):=aR;have hr:=Nc W (cO #[cW dD x.gen,js a x.text c,cW dD y.gen,js b y.text d] 161);refine⟨Mv _,Vy,fun i e=> ?_⟩;rcases(show i=0\/i=1 by simp at e;omega)with rfl | rfl
 ·refine⟨W,0,[cW dD x.gen,cJ a x.text c],rfl,rfl,fun j hj=> ?_,a,c,rfl,h1.below fS H⟩;rcases(show j=0\/j=1 by simp at hj;omega)with rfl | rfl
  ·exact VE
  exact VE
 refine⟨W,0,[cW dD y.gen,cJ b y.text d],rfl,rfl,fun j hj=> ?_,b,d,rfl,h2.below fS H⟩;rcases(show j=0\/j=1 by simp at hj;omega)with rfl | rfl
 ·exact VE
 exact VE
def Jy (S:aq (aq ar)):ir S=if bg S 0 then(if bg S 16 then(if(wbn S 0).gen<(wbn S 16).gen then [wbn S 16,wbn S 0]else [wbn S 0,wbn S 16])else [wbn S 0])else(if bg S 16 then [wbn S 16]else []):=by
 unfold ir wbn;by_cases p0:bg S 0
 ·by_cases p1:bg S 16
  ·simp only[Np p0,Np p1];rfl
  simp only[Np p0,Nm p1]
 by_cases p1:bg S 16
 ·simp only[Nm p0,Np p1]
 simp only[Nm p0,Nm p1]
def cR.slA {α:Type}{M:bT->aU}{base n c:av}{T:bT}{R:aj->aq bw->α->Prop}{a:ax bR}{l:aq α}{xss:aq (aq bw)}(h:cR M W base T sz R (js a n c) l xss) (H:aY R):aB W sz R a c l:=by
 obtain⟨_,_,e,h⟩:=h.sl H
 injection e with e1 e2 e3
 subst e1 e3;exact h
def Ag {w:aj}{B:av}{v:bw}{L:aq iy}{xss:aq (aq bw)}{r:iy}{t:ax bR}{c:av}(h:cR dl W B 161 2 fw v L xss) (H:aB (jQ dl W) 1 dG t c r.text){v':bw}(a:w.ownsRow B 161 2 v' (xss.length+1) (xss.flatMap id++[cW dD r.gen,cJ t r.text c])) (b:(W.alloc (cO #[cW dD r.gen,js t r.text c] 161)).grownBy w v.ownBlock):cR dl w B 161 2 fw v' (L++[r]) (xss++[[cW dD r.gen,cJ t r.text c]]):=
 (h.below ag aR).app ag rfl rfl ⟨t,c,rfl,H.ext iX (dS.of_below ((Nb W W).alloc (Mv _) _)).ext⟩ a b
theorem YI (x:wbm) (a:ax bR) (c:av) (b:ax bR) (d:av) (w:aj) (hx:ay w a c b d x) (a0:ae x) (a1:x.wt=[]) (hok:ct x.sc):
  jW 195 #[cZ (ak a c b d x)] w (Jx w (ir x.sc)):=by
 have Z:=hI fun(s:av) (a4:s<=16) W (h:jb w W)=>wau x a c b d s W (hx.below h) a0 a1 hok a4;clear hx a0 a1 hok;unfold ak at Z ⊢;generalize x.wt.length=a5 at *;generalize x.sc=S at *;go_enter func195,ntmps195;go_upto_region 1 with fail;generalize L:cj _ _=W0;have F0:=hI (jH L)
 clear L;have HC:=hI (Z.o 0 eh W0 F0.o.bel);unfold xQ at HC;go_upto_region 2 with(first | (refine Dx rfl 84 (dk 1) rfl w rfl 84 _ (0,0) _ (F0.o.row 0 _ rfl) underlying84 rfl ef ?_;simp[cq]) | (go_at_call 277;refine vy fun W1 T F h1 M5=>?_;refine vn fun F1=>?_;have t:=hI h1;clear h1 M5) | (refine bP rfl 161 (dk 3) (dk 11) rfl W1 #[cW dD (wbn S 0).gen,js T (wbn S 0).text.length F] _ 161 rfl rfl (Nc _ _) ef rfl Qj ?_;rw[QY]))
 obtain⟨r,u⟩: ∃r,r=wbn S 0:=⟨_,rfl⟩;obtain⟨R,v⟩: ∃R,R=wbn S 16:=⟨_,rfl⟩;rw[<-u]at t ⊢
 have j:bG (ir S=if bg S 0 then(if bg S 16 then(if r.gen<R.gen then [R,r]else [r,R])else [r])else(if bg S 16 then [R]else [])):=by
  show _=_;rw[u,v];exact Jy S
 clear u;have M:=hI v;clear v;refine ul fun g3 hg7=>?_;refine Qq fun W2 hW2=>?_;have F2:=hI (show Fr w [(#[js a S c,js b a5 d],84)] W2 by rw[<-hW2];exact F1.o.below aR);have R3:bG (jk W2 g3 #[cW dD r.gen,js T r.text F] 161):=uz
 have N:=hI (show aB (jQ dl W2) 1 dG T F r.text by rw[<-hW2];exact t.o.ext iX (dS.of_below ((Nb W1 W1).alloc (Mv _) _)).ext);clear hW2 hg7 t F1 F0 HC;have n:=hI (Z.o 16 eh W2 F2.o.bel);unfold xQ at n;rw[<-M.o]at n;clear M Z;go_upto_region 3 with(first | (refine Dx rfl 84 (dk 1) rfl w rfl 84 _ (0,0) _ (F2.o.row 0 _ rfl) underlying84 rfl ef ?_;simp[cq]) | (go_at_call 277;refine n.o.mono ?_;rintro e W3 ⟨O,P,rfl,h1,M5⟩;have F3:=hI (F2.o.below M5);have Q:=hI (N.o.ext iX (dS.of_below M5).ext);have U:=hI h1;have V:=hI ((jm M5 R3.o));clear h1 M5) | (refine bP rfl 161 (dk 5) (dk 16) rfl W3 #[cW dD R.gen,js O R.text P] _ 161 rfl rfl (Nc _ _) ef rfl Qj ?_;rw[QY]))
 obtain⟨G,y⟩: ∃G,G=W3.heap.size:=⟨_,rfl⟩;rw[<-y];refine Qq fun W4 z=>?_;have l:=jG z
 have I:=hI (F3.o.below l);have X:bG (jk W4 G #[cW dD R.gen,js O R.text P] 161):=by show _=_;rw[<-z,y];exact Nc _ _
 have Y:=hI ((jm l V.o));have A:=hI (Q.o.ext iX (dS.of_below l).ext);have B:=hI (U.o.ext iX (dS.of_below l).ext);clear z y l Q U F3 V R3 N F2 n;have p:=I.o.bel.size;by_cases p0:bg S 0
 ·rw[Np p0]at j;rw[Ni p0];by_cases p1:bg S 16
  ·rw[Np p1]at j;rw[Ni p1];have x0:=ji 0 Y;have y0:=ji 0 X;have a2:=aD Y.o;have a3:=aD X.o;clear p0 p1;by_cases k:r.gen<R.gen
   ·have hd:=jT k;rw[Np k]at j;clear k;go_upto_region 4 with fail;clear x0 y0 a2 a3;go_wp2_with (first | (refine Dx rfl 161 (dk 5) rfl G rfl 161 _ (0,0) _ X.o underlying161 rfl ef ?_;simp[cq]) | (refine Dx rfl 161 (dk 3) rfl g3 rfl 161 _ (0,0) _ Y.o underlying161 rfl ef ?_;simp[cq]))
    have h2:=YG W4 R r O T P F (B.o.ext iX dg) (A.o.ext iX dg);go_ret;rw[j.o];exact⟨_,_,rfl,h2,I.o.bel.alloc p _⟩
   have hd:=jU k;rw[Nm k]at j;clear k;go_upto_region 7 with fail;clear x0 y0 a2 a3;have HN:bG (cR dl W4 W4 161 2 fw (jN) ([]:aq iy) []):=cR.nil;go_upto_region 9 with(first | (refine Dx rfl 161 (dk 3) rfl g3 rfl 161 _ (0,0) _ Y.o underlying161 rfl ef ?_;simp[cq]) | (at_builtin;refine nK rfl _ _ 155 161 161 _ 2 32 rfl underlying155 Ae rfl eh eh W4 (jN) 0 _ rfl HN.o.own eh (Mv W4) [cW dD r.gen,cJ T r.text F] rfl rfl (Af _ _ _ _) ?_;intro J K C H E8))
   have g:bG (cR dl C W4 161 2 fw (jq J 0 (0+1) K) [r] _):=Ag HN.o A.o H E8;have f:=hI (((Nb W4 W4).alloc (Mv _) _ |>.mono (Mv W4)).trans (dT (HN.o.own.alloc _) (Mv _) (by have:=(Mv W4);simp<;>omega) E8));have R8:=hI ((jm f.o X.o));have H0:=hI (B.o.ext iX (dS.of_below f.o).ext);have D:=f.o.size;clear H E8;go_upto_region 10 with(first | (refine Dx rfl 161 (dk 5) rfl G rfl 161 _ (0,0) _ R8.o underlying161 rfl ef ?_;simp[cq]) | (at_builtin;refine nK rfl _ _ 155 161 161 _ 2 32 rfl underlying155 Ae rfl eh eh W4 (jq J 0 1 K) 1 _ rfl g.o.own eh D [cW dD R.gen,cJ O R.text P] rfl rfl (Af _ _ _ _) ?_;intro b9 d9 w9 E q))
   have H1:bG (cR dl w9 W4 161 2 fw (jq b9 0 (1+1) d9) [r,R] _):=Ag g.o H0.o E q;have H2:=hI (((Nb C C).alloc (Mv _) _ |>.mono D).trans (dT (g.o.own.alloc _) (Mv _) (by have:=D;simp<;>omega) q));refine ei ?_;rw[j.o];exact⟨_,_,rfl,H1.o.slA ag,I.o.bel.trans ((f.o.trans H2.o).mono p)⟩
  rw[Nm p1]at j;rw[Mw p1];clear p0 p1;go_upto_region 7 with fail;have HN:bG (cR dl W4 W4 161 2 fw (jN) ([]:aq iy) []):=cR.nil;go_upto_region 8 with(first | (refine Dx rfl 161 (dk 3) rfl g3 rfl 161 _ (0,0) _ Y.o underlying161 rfl ef ?_;simp[cq]) | (at_builtin;refine nK rfl _ _ 155 161 161 _ 2 32 rfl underlying155 Ae rfl eh eh W4 (jN) 0 _ rfl HN.o.own eh (Mv W4) [cW dD r.gen,cJ T r.text F] rfl rfl (Af _ _ _ _) ?_;intro J K C H E8))
  have g:bG (cR dl C W4 161 2 fw (jq J 0 (0+1) K) [r] _):=Ag HN.o A.o H E8;have f:=hI (((Nb W4 W4).alloc (Mv _) _ |>.mono (Mv W4)).trans (dT (HN.o.own.alloc _) (Mv _) (by have:=(Mv W4);simp<;>omega) E8));go_wp2_with fail;go_ret;rw[j.o];exact⟨_,_,rfl,g.o.slA ag,I.o.bel.trans (f.o.mono p)⟩
 rw[Nm p0]at j;rw[Mw p0];by_cases p1:bg S 16
 ·rw[Np p1]at j;rw[Ni p1];clear p0 p1;go_upto_region 9 with fail;have HN:bG (cR dl W4 W4 161 2 fw (jN) ([]:aq iy) []):=cR.nil;go_upto_region 10 with(first | (refine Dx rfl 161 (dk 5) rfl G rfl 161 _ (0,0) _ X.o underlying161 rfl ef ?_;simp[cq]) | (at_builtin;refine nK rfl _ _ 155 161 161 _ 2 32 rfl underlying155 Ae rfl eh eh W4 (jN) 0 _ rfl HN.o.own eh (Mv W4) [cW dD R.gen,cJ O R.text P] rfl rfl (Af _ _ _ _) ?_;intro J K C H E8))
  have g:bG (cR dl C W4 161 2 fw (jq J 0 (0+1) K) [R] _):=Ag HN.o B.o H E8;have f:=hI (((Nb W4 W4).alloc (Mv _) _ |>.mono (Mv W4)).trans (dT (HN.o.own.alloc _) (Mv _) (by have:=(Mv W4);simp<;>omega) E8));go_wp2_with fail;go_ret;rw[j.o];exact⟨_,_,rfl,g.o.slA ag,I.o.bel.trans (f.o.mono p)⟩
 rw[Nm p1]at j;rw[Mw p1];clear p0 p1;refine ei ?_;rw[j.o];exact⟨_,_,rfl,⟨Mv _,fun _=>rfl,fun i a6=>by cases a6⟩,I.o.bel⟩
def fi (S:aq (aq ar)):av->aq iy
 | 0=>[]
 | k+1=>fi S k++if bg S (16 * k)then [wbn S (16 * k)]else []
def Jz (S:aq (aq ar)): ∀k,(fi S k).length<=k
 | 0=>Mv _
 | k+1=>by
  have:=Jz S k;unfold fi;rw[Mx];split<;>simp<;>omega
def YN (S:aq (aq ar)):fi S 2=(if bg S 0 then [wbn S 0]else [])++if bg S 16 then [wbn S 16]else []:=by
 simp[fi]
theorem YO (x:wbm) (a:ax bR) (c:av) (b:ax bR) (d:av) (w:aj) (hx:ay w a c b d x) (hf:ae x) (b9:x.wt=[]) (hok:ct x.sc):
  jW 108 #[cZ (ak a c b d x)] w fun e w'=> ∃c0 c1,e=cL (dw #[js c0 (ir x.sc).length c1,jV 0])/\aB w' 2 fw c0 c1 (ir x.sc)/\jb w w':=by
 have H9:=hI fun(s:av) (c3:s<=16) W (h:jb w W)=>wav x a c b d s W (hx.below h) hf b9 hok c3;refine jI fun a5=>?_;rw[Np hf]at a5;clear hx hf b9 hok;unfold ak at H9 a5 ⊢;generalize x.wt.length=c4 at *;generalize x.sc=S at *;go_enter func108,ntmps108;go_upto_region 1 with fail;generalize a1:cj _ _=W0;have F0:=hI (jH a1)
 clear a1;go_upto_region 4 with(first | (refine Dx rfl 84 (dk 1) rfl w rfl 84 _ (0,0) _ (F0.o.row 0 _ rfl) underlying84 rfl ef ?_;simp[cq]) | (go_at_call 107;refine oG (a5.o W0 F0.o.bel) fun W1 M5=>?_;refine vn fun F1=>?_;clear M5))
 go_wp2_with fail;refine ul fun G A=>?_;refine Qq fun N M=>?_;have F2:=hI (show Fr w [(#[js a S c,js b c4 d],84)] N by rw[<-M];exact F1.o.below aR);have R0:bG (jk N G #[jV 0,jV 16] 3):=by show _=_;rw[<-M,A];exact Nc _ _
 clear M A F1 F0 a5;go_loopg [2,16] 2 (fun gg r i wr=> ∃(k:av) (O:ax bR) (d':av) (xss:aq (aq bw)),k<=2/\gg=2-k/\r=cJ O (fi S k).length d'/\i= jV k/\jb N wr/\cR dl wr N 161 2 fw (js O (fi S k).length d') (fi S k) xss)
 ·exact⟨0,bn,0,[],ed,ed,rfl,rfl,Nb _ _,cR.nil⟩
 obtain⟨k,O,d',xss,a6,rfl,rfl,rfl,hb,ho⟩:=hrel;refine Qa fun a7 n=>?_;have F3:=hI (F2.o.below hb);have HRL:=hI ho.len;have a8:=Jz S k;clear hb ho;by_cases c5:k<2
 ·have hd:ab ((k:ar)<2)=bl:=em;have HC:=hI (H9.o (16 * k) ed wr F3.o.bel);unfold xQ at HC;have P:=jm a7.o R0.o
  have X:jc wr G k (jV ((16 * k:av):ar)):=(Mu wr _ k _ _ _ P).trans (by
   rcases(show k=0\/k=1 by omega)with rfl | rfl<;>rfl)
  have Q:=aD P;have C:(0:ar)<=(k:ar):=ed;have B:(k:ar)<2:=ed;have a2:bG (fi S (k+1)=fi S k++if bg S (16 * k)then [wbn S (16 * k)]else []):=rfl;clear P;generalize wbn S (16 * k)=r at *;go_upto_region 7 with fail;clear X Q;go_upto_region 8 with(first | (refine Dx rfl 84 (dk 1) rfl w rfl 84 _ (0,0) _ (F3.o.row 0 _ rfl) underlying84 rfl ef ?_;simp[cq]) | (go_at_call 189;refine HC.o.mono ?_;rintro e W4 ⟨I,Y,rfl,h1,M5⟩;have HTA:=hI h1;have H2:=hI (jo a7 M5);have H3:=hI (n.o.below ag M5);clear h1 M5) | (refine bP rfl 161 (dk 7) (dk 24) rfl W4 #[cW dD r.gen,js I r.text Y] _ 161 rfl rfl (Nc _ _) ef rfl Qj ?_;rw[QY]))
  obtain⟨g7,hg7⟩: ∃g7,g7=W4.heap.size:=⟨_,rfl⟩;rw[<-hg7];refine Qq fun W5 hW2=>?_;have O8:=jG hW2;have R7:bG (jk W5 g7 #[cW dD r.gen,js I r.text Y] 161):=uz;have H6:=hI Xs;have Z:=hI (jo H2 O8);have H0:=hI (H3.o.below ag O8);have a3:=Z.o.size;clear hW2 hg7 O8 HTA H2 H3 n HC a7 F3;by_cases p:bg S (16 * k)
  ·rw[Np p]at a2;rw[Ni p];clear p;refine Vg ?_;have H4:=hI (HRL.o ▸ H0.o.own);go_wp2_with (first | (refine Dx rfl 161 (dk 7) rfl g7 rfl 161 _ (0,0) _ R7.o underlying161 rfl ef ?_;simp[cq]) | (at_builtin;refine nK rfl _ _ 155 161 161 _ 2 32 rfl underlying155 Ae rfl eh eh N (js O (fi S k).length d') (fi S k).length _ rfl H4.o ed a3 [cW dD r.gen,cJ I r.text Y] rfl rfl (Af _ _ _ _) ?_;intro c6 c8 w8 G9 J))
   have a9:=(Z.o.alloc a3 _).trans (dT (H4.o.alloc _) (Mv _) em J);have q:=Ag H0.o H6.o Ox J;rw[<-a2.o]at q;have b0:(fi S k).length+1=(fi S (k+1)).length:=(by rw[a2.o,DN];rfl);rw[b0]at q ⊢;go_roundg (2-(k+1))
   ·go_light;exact⟨k+1,bt ⟨c6,0,bn⟩,c8,_,ed,ed,rfl,ej,a9,q⟩
   go_light;omega
  rw[Nm p,aq.append_nil]at a2;rw[Mw p];clear p;have q:=H0.o;rw[<-a2.o]at q ⊢;go_wp2_with fail;go_roundg (2-(k+1))
  ·go_light;exact⟨k+1,O,d',_,ed,ed,rfl,ej,Z.o,q⟩
  go_light;omega
 obtain rfl:k=2:=ed;have hd:ab (((2:av):ar)<2)=aW:=eh;have HWL:=hI (Jy S);have y:=YN S;have H1:=hI (jt F2.o.bel a7.o);go_upto_region 11 with fail;clear hd;by_cases p0:bg S 0/\bg S 16
 ·rw[Np p0.1,Np p0.2]at y HWL;generalize wbn S 0=R at *;generalize wbn S 16=f at *;rw[y]at n HRL ⊢;clear y p0 a8
  obtain⟨g,rfl,b1⟩: ∃g,O=bt ⟨g,0,bn⟩/\N.heap.size<=g:=by
   rcases n.o.own.2 with⟨_,h0⟩ | ⟨g,cap,cur,h,b2,_⟩
   ·rw[HRL.o]at h0;cases h0
   injection h with h1 h2 h3;exact⟨g,h1,b2⟩
  obtain⟨v0,v1,rfl⟩: ∃v0 v1,xss=[v0,v1]:=by
   match xss,HRL.o with
   | [u,v],_=>exact⟨u,v,rfl⟩
  obtain⟨D,C,rfl,c7⟩:fw (jQ dl wr) v0 R:=n.o.rd 0 ee ee;obtain⟨E,B,rfl,c9⟩:fw (jQ dl wr) v1 f:=n.o.rd 1 ee ee;have X:jc wr g 0 (cW dD R.gen):=(by have:=n.o.own.cells (g:=g) rfl 0 (cW dD R.gen) rfl;rwa [oB]at this);have y0:jc wr g 2 (cW dD f.gen):=(by have:=n.o.own.cells (g:=g) rfl 2 (cW dD f.gen) rfl;rwa [oB]at this);have Q:=Mt X;have d1:bG (([R]++[f]).length=2):=rfl;rw[d1.o]at n ⊢;have d0:2<=d':=(n.o.slA ag).le;refine zD [13] ?_;intro V l;have I:=fun t:Gw wr=>t.cel X;have t1:=fun t:Gw wr=>t.cel y0;have t2:=fun t:Gw wr=>t.lt Q;by_cases j:R.gen<f.gen
  ·have b3:=jT j;rw[Np j]at HWL;clear j;refine zB [0] l ?_;refine wbo 1 (jV 2) l ?_;refine zB [2,3,4,5,6,7,8,9,10,11,12] l ?_;clear I t1 t2;refine pG [13] ef ee ?_;refine kk ?_;have H:=hI (n.o.below ag l);refine Va ?_;have m0:=c7.ext iX (dS.of_below l).ext;have m1:=c9.ext iX (dS.of_below l).ext;have z:=jo H1 l;have H7:=hI (Nj F2.o.bel.size b1);clear X y0 Q l n;have X:jc V g 0 (cW dD R.gen):=(by have:=H.o.own.cells (g:=g) rfl 0 (cW dD R.gen) rfl;rwa [oB]at this);have x1:jc V g 1 (js D R.text C):=(by have:=H.o.own.cells (g:=g) rfl 1 (js D R.text C) rfl;rwa [oB]at this);have y0:jc V g 2 (cW dD f.gen):=(by have:=H.o.own.cells (g:=g) rfl 2 (cW dD f.gen) rfl;rwa [oB]at this);have y1:jc V g 3 (js E f.text B):=(by have:=H.o.own.cells (g:=g) rfl 3 (js E f.text B) rfl;rwa [oB]at this);have Q:=Mt X;refine zD [8] ?_;intro U hV;have I:=fun t:Gw V=>t.cel X;have t1:=fun t:Gw V=>t.cel x1;have t2:=fun t:Gw V=>t.cel y0;have t3:=fun t:Gw V=>t.cel y1;have t4:=fun t:Gw V=>t.lt Q;refine uJ ?_;clear I t1 t2 t3 t4;refine pG [8,9,10,11] ef ee ?_;refine kk ?_;have F:=H.o.below ag hV;have b4:=jt z hV;have m2:=hI (m0.ext iX (dS.of_below hV).ext);have m3:=hI (m1.ext iX (dS.of_below hV).ext);have h1:=hI (Ke F.own (o:=0) (k:=2) ee);have a0:=SN [cW dD f.gen,cJ E f.text B] 0 _ U F.own ee;have h2:=hI (Ke a0 (o:=2) (k:=2) (by simp[rM]));have H8:=hI (SN [cW dD R.gen,cJ D R.text C] 2 _ _ a0 (by simp[rM]));have H5:=hI (aZ.trans (aZ.cells g [cW dD f.gen,cJ E f.text B] 0 U) (aZ.cells g [cW dD R.gen,cJ D R.text C] 2 _))
   obtain⟨c2,b5⟩: ∃c2,jk U g c2 161:=by
    rcases F.own.2 with⟨h,_⟩ | ⟨d5,cap,cur,h,_,b2,_⟩
    ·cases h
    injection h with h1 h2 h3;cases h1;exact⟨cur,b2⟩
   clear X x1 y0 y1 Q hV a0 F z m0 m1 H;go_upto_region 13 with(first | (refine Hl rfl fun K b6=>wp_store_mid 161 _ _ rfl g 0 #[cW dD f.gen,js E f.text B] rfl rfl h1.o ef Qj (b6 _ _ ?_)) | (refine Hl rfl fun K b6=>wp_store_mid 161 _ _ rfl g 2 #[cW dD R.gen,js D R.text C] rfl rfl h2.o ef Qj (b6 _ _ ?_)))
   have a4:dS dl U ((U.setCells g 0 [cW dD f.gen,cJ E f.text B]).setCells g 2 [cW dD R.gen,cJ D R.text C]):=fun k cs T d6 a6 d2=>by
    by_cases e:k=g
    ·subst e;rw[b5]at a6;cases a6;cases d2
    exact(H5.o.block k e).trans a6
   have b7:cR dl ((U.setCells g 0 [cW dD f.gen,cJ E f.text B]).setCells g 2 [cW dD R.gen,cJ D R.text C]) N 161 2 fw (jq g 0 2 d') [f,R] [[cW dD f.gen,cJ E f.text B],[cW dD R.gen,cJ D R.text C]]:=
    ⟨H8.o,rfl,ee,fun i h1 h2=>by
     rcases(show i=0\/i=1 by simp at h1;omega)with rfl | rfl
     ·exact⟨E,B,rfl,m3.o.ext iX a4.ext⟩
     exact⟨D,C,rfl,m2.o.ext iX a4.ext⟩⟩
   have b8:=H5.o.below b4 H7.o;simp only[cq];refine Ms ?_;exact⟨_,_,rfl,b7.slA ag,b8⟩
  have b3:=jU j;rw[Nm j]at HWL;clear j;refine zB [0] l ?_;refine wbo 1 (jV 2) l ?_;refine zB [2,3,4,5,6,7,8,9,10,11,12] l ?_;clear I t1 t2;refine pG [13] ef ee ?_;refine kk ?_;have H:=hI (n.o.below ag l);have z:=jo H1 l;refine Ms ?_;exact⟨_,_,rfl,H.o.slA ag,z⟩
 have d3:(((fi S 2).length:ar)==2)=aW:=by
  rw[Nd,y];by_cases h0:bg S 0
  ·by_cases h1:bg S 16
   ·exact cv ⟨h0,h1⟩ p0
   rw[Np h0,Nm h1];simp
  by_cases h1:bg S 16
  ·rw[Nm h0,Np h1];simp
  rw[Nm h0,Nm h1];simp
 have d4:bG (ir S=fi S 2):=by
  show _=_;rw[HWL.o,y];by_cases h0:bg S 0
  ·by_cases h1:bg S 16
   ·exact cv ⟨h0,h1⟩ p0
   simp[h0,h1]
  by_cases h1:bg S 16
  ·simp[h0,h1]
  simp[h0,h1]
 clear y p0 HWL;generalize fi S 2=L at *;refine zD [13] ?_;intro V l;refine zB [0] l ?_;refine wbo 1 (jV (L:ar)) l ?_;refine zB [2,3,4,5,6,7,8,9,10,11,12] l ?_;refine pG [13] ef ee ?_;refine kk ?_;have H:=hI (n.o.below ag l);have z:=jo H1 l;go_wp2_with fail;refine Nh (v:=dw #[js O L d',jV 0]) ((results_tmp2 (fn:=Tryz.f108) (t:=2) (u:=3) rfl _ _ _).trans rfl) rfl ?_;rw[d4.o];exact⟨_,_,rfl,H.o.slA ag,z⟩
def YS {P:Program}{i:av}{o:Oper}{a:Act}{w:aj}(h:ops[i]? =bt o) (H:Region.wanted o (yielded ops a.tmps)=bl) (ty:bT) (x:Operand) (b:o.op= .load ty x)
  (g off:av) (hx:a.eval x=cY (bt ⟨g,off,bn⟩)) (t:bT) (cs l:aL bw) (f:av × av) (d:TypeDesc) (c:w.heap[g]? =bt (cO cs t f)) (e: ∀(j:av) v,l[j]? =bt v->cs[off+j]? =bt v)
  (k:P.underlying ty=bt d) (hd:(match d with | .struct _ | .array _ _=>bl | _=>aW)=bl) (n:(P.info? ty).map (·.size)=bt l.size)
  (p:K (a.put o.dst (cZ l)) w):wpOp P ops Q i K a w:=by
 unfold wpOp;rw[h];simp only[H,Hq];exact .inl (Ch ty x b g off hx t cs l f d c e k hd n p)
def bq (x:Hs):aq ar:=(cu x).map ar.ofNat
def JE (h:gD x=bl) (hh:x.halted=aW): ∀i (h:i<(cu x).length),(cu x)[i]<256:=by
 have c: ∀b∈cu x,b<256:=fun b H=>by
  unfold cu im at H;rcases Tx.1 H with H | H
  ·simp only[Sb,aq.flatMap_nil,Sh]at H;rcases Tx.1 H with H | H
   ·obtain⟨i,a,rfl⟩:=aq.mem_iff_getElem.1 H;exact Cw (OX x.pl) i a
   obtain⟨i,a,rfl⟩:=aq.mem_iff_getElem.1 H;refine Cw (fun j hj=> ?_) i a;split at hj
   ·cases hj
   next d=>simp only[Nm d];exact OX x.bk j hj
  obtain⟨i,a,rfl⟩:=aq.mem_iff_getElem.1 H;exact EG _ i a
 exact fun i a=>c _ (Nn a)
def Ah (h:gD x=bl) (hh:x.halted=aW):aO (bq x):=fun b H=>by
 obtain⟨n,a,rfl⟩:=aq.mem_map.1 H;obtain⟨i,c,rfl⟩:=aq.mem_iff_getElem.1 a;have:=JE h hh i c;exact⟨Hy _,by show((cu x)[i]:ar)<=255;omega⟩
def xL (x:Bo):aU:=match ir x.d.sc with
 | []=>aW
 | r::_=>(r.gen==x.g)&&ab (r.text=bq x.h)
def vi (x:Bo):aU:=gD x.h&&(ab (ae x.d)&&(ab (x.d.wt.length=0)&&(bif x.h.halted then x.g==0 else xL x)))
def JW {S:aq (aq ar)}(h:ct S): ∀r∈ir S,aO r.text:=by
 have H: ∀s,s<=16->bg S s->aO (xD S s).text:=fun s d a b c=>by
  have h1:=a.1;exact xY h s (fh S s).toNat ed b (Gh (Tm c))
 intro r hr;unfold ir at hr;split at hr
 ·next p0=>
  split at hr
  ·next p1=>
   split at hr<;>simp at hr<;>rcases hr with rfl | rfl
   ·exact H 16 eh p1
   ·exact H 0 eh p0
   ·exact H 0 eh p0
   exact H 16 eh p1
  simp at hr;subst hr;exact H 0 eh p0
 next p0=>
 split at hr
 ·next p1=>simp at hr;subst hr;exact H 16 eh p1
 cases hr
theorem YT (x:Bo) (a:av->ax bR) (c:av->av) (w:aj) (hx:dj w a c x) (hf:x.Ok):
  jW 110 #[cZ (bf a c x)] w (bY w (vi x)):=by
 have N:=hI fun W (i:jb w W)=>QG x.h a c W (hx.h.below i) hf.h;have O:=hI fun W (i:jb w W)=>Bn x.d _ _ _ _ W (hx.d.below i) hf.d.n;have P:=hI fun(H:ae x.d) (b1:x.d.wt=[]) W (i:jb w W)=>YI x.d _ _ _ _ W (hx.d.below i) H b1 ⟨H.1,H.2.2.1,hf.d.s⟩;have Q:=hI fun(H:gD x.h=bl) (hh:x.h.halted=aW) W (i:jb w W)=>Lg x.h a c W (hx.h.below i) hf.h H hh;refine ZI fun a2 D HF E=>?_
 clear hx hf;unfold cV at N Q;refine Oj fun Z5 T7=>?_;have HPG:=hI (xz a c x);refine ku fun a3=>?_;have hh:(aE a c x.h)[24]? =bt (db x.h.halted):=rfl;generalize vi x=B at *;generalize xL x=R at *;generalize aE a c x.h=a4 at *;generalize bf a c x=a5 at *;unfold ak at O P T7;go_enter func110,ntmps110;go_upto_region 1 with fail;generalize j:cj _ _=W3;have KO:=hI (jG j)
 have X0:=hI (jA j)
 clear j;go_wp2_with (refine gn 35 (dk 4) rfl w 0 rfl rfl 87 a5 a4 (0,0) _ X0.o Z5.o underlying35 rfl a3.o ?_);refine oG (N.o W3 KO.o) fun W1 M5=>?_;refine Yt fun L9 F XX x5 x6 T=>?_;clear M5 F;obtain⟨U,M5⟩: ∃U,U=gD x.h:=⟨_,rfl⟩;rw[<-M5]at HF ⊢;have Y:=hI M5;clear M5;cases U
 case false=>
  refine ei ?_;exact YE
 go_wp2_with fail;refine oG (O.o W1 (jo KO L9.o)) fun W2 I3=>?_;have b:=hI (jo L9 I3);refine ZR fun X XY y4 y5 y6 y7 Z=>?_;clear I3 X x5 x6 T;obtain⟨b2,I3⟩: ∃b2,b2=ab (ae x.d):=⟨_,rfl⟩;rw[<-I3]at HF ⊢;have b3:=hI I3;clear I3;cases b2
 case false=>
  refine ei ?_;exact⟨by rw[HF.o];rfl,jo KO b.o⟩
 obtain⟨n,g⟩: ∃n,n=x.d.wt.length:=⟨_,rfl⟩;rw[<-g]at HF y6;have a6:=hI g;clear g;by_cases h0:n=0
 case neg=>
  have hd:ab ((0:ar)<(n:ar))=bl:=em
  have hp:0<n:=ed
  rw[Mw h0]at HF;clear h0;refine ei ?_;exact⟨by rw[HF.o];rfl,jo KO b.o⟩
 subst h0;obtain⟨hl,k⟩: ∃hl,hl=x.h.halted:=⟨_,rfl⟩;rw[<-k]at HF y4;have H4:=hI k;clear k hh;cases hl
 case true=>
  generalize x.g=G at *;go_wp2_with fail;go_ret;exact⟨by rw[HF.o];rfl,jo KO b.o⟩
 have H:=Ib b3.o.symm;have HC:=hI (P.o H (Dm a6.o.symm) W2 (jo KO b.o));have C6:=hI (Q.o Y.o.symm H4.o.symm);have H0:=hI (a2.o Y.o.symm H4.o.symm);have l:=hI (D.o H);rw[<-a6.o]at HC;unfold Jx at HC;obtain⟨L,hL⟩: ∃L,L=ir x.d.sc:=⟨_,rfl⟩;rw[<-hL]at HC E l;obtain⟨G,p⟩: ∃G,G=x.g:=⟨_,rfl⟩;rw[<-p]at y7 E;have HV:=hI p;clear hL p H P Q a2 D N O;go_upto_region 5 with fail;clear y4;go_upto_region 6 with(go_at_call 195;refine HC.o.mono ?_;rintro e W0 ⟨b7,c3,rfl,h3,q⟩;have s:=hI h3;have u:=hI (jo b q);have X3:=hI ((jm q XY.o));clear h3 q);clear y5 y6 y7 Z HC XX XY;have z7:jc W0 w 27 (cW dD G):=(Mu _ _ _ _ _ _ X3.o).trans (HPG.o.trans Oi);have a7:=aD X3.o;cases L with
 | nil=>
  refine zD [24] ?_;intro V D0;refine zB [0] D0 ?_;refine wbo 1 (jV 0) D0 ?_;refine zB [2,3,4,5,6,7,8,9,10,11,12,13,14,15,16,17,18,19] D0 ?_;refine vb 20 D0 ?_;refine zB [21,22,23] D0 ?_;refine pG [24] ef ee ?_;refine oS ?_;have d:=KO.o.trans ((jo u D0).mono KO.o.size);refine ei ?_;exact⟨by rw[HF.o,E.o];rfl,d⟩
 | cons r b4=>
  obtain⟨b8,c0,c1,e,a0,a1,c2,c4,rfl,v⟩:=s.o.at_ 0 (av.succ_pos _);cases e;have p0:=a1 0 ee;have p1:=a1 1 ee;simp only[Nu,Dl,av.zero_mul,Pk]at p0 p1 v;have lp:=Mt p0;obtain⟨n,g⟩: ∃n,n=(r::b4).length:=⟨_,rfl⟩;have a8:n<=c3:=by rw[g];exact s.o.le
  have b5:0<n:=by rw[g];exact av.succ_pos _
  rw[<-g];have b6:ab ((0:ar)<(n:ar))=bl:=em
  have H1:=hI v;have H2:=hI (l.o r Dq);have f:bG (R=((r.gen==G)&&ab (r.text=bq x.h))):=E.o;clear a1 a0 v g s l E;have H3:bG (fR (cu x.h)=strOfNums (bq x.h)):=rfl;generalize bq x.h=a9 at *;refine zD [24] ?_;intro V D0;refine vM fun t0 t1 t2=>?_;have t3:=fun t:Gw W0=>t.cel z7;have t4:=fun t:Gw W0=>t.lt a7;by_cases he:r.gen=G
  case neg=>
   have y:(r.gen==G)=aW:=Ui;rw[y]at f;clear he;refine zB [0] D0 ?_;refine wbo 1 (jV (n:ar)) D0 ?_;refine zB [2,3,4,5,6,7,8,9,10,11,12,13,14,15,16,17,18,19] D0 ?_;refine vb 20 D0 ?_;refine zB [21,22,23] D0 ?_;refine pG [24] ef ee ?_;refine oS ?_;have d:=KO.o.trans ((jo u D0).mono KO.o.size);refine ei ?_;exact⟨by rw[HF.o,f.o];rfl,d⟩
  have y:(r.gen==G)=bl:=Xv
  rw[y]at f;clear he;have I:=hI fun W (h:jb W0 W)=>DU (H1.o.below fS h);have t5:=fun t:Gw W0=>I.o t.w t.h;have z:=UB H2.o H0.o;have J:=hI z;clear z;refine zB [0] D0 ?_;refine wbo 1 (jV (n:ar)) D0 ?_;refine zB [2,3,4,5,6,7,8,9,10,11,12,13,14,15,16,17,18] D0 ?_;clear t0 t1 t2 t3 t4 t5 p0 p1 lp z7 a7;have b0:=jm D0 X3.o;refine aS 19 ef ?_;intro K hK;refine YS rfl ef 35 (dk 48) rfl w 0 rfl 87 a5 a4 (0,0) _ b0 Z5.o underlying35 rfl a3.o ?_;refine Ob ?_;clear hK K b0;refine aS 20 ef ?_;refine Oo fun K hK=>?_;have A:=KO.o.trans ((jo u D0).mono KO.o.size);refine um (C6.o V A) fun _ _ c6 M C=>?_;have hV:=jt D0 C;have d:=hI (jt A C);have cc:=(vh M (JE Y.o.symm H4.o.symm)).1.str c6;rw[H3.o]at cc;refine hK _ _ (fun _=>hV) ?_;clear hK K D0 M C A;generalize(cu x.h).length=n6 at *;refine aS 21 ef ?_;intro K hK;refine Vo ?_;refine ue ?_;clear hK K cc;have z:=J.o;clear J I;generalize strOfNums r.text=SA at *;generalize strOfNums a9=SB at *;generalize ab (r.text=a9)=b9 at *;refine zB [22,23] hV ?_;refine pG [24] ef ee ?_;refine oS ?_;refine ei ?_;exact⟨by rw[HF.o,f.o];rfl,d.o⟩
def YU (x:Bo) (a:av->ax bR) (c:av->av) (w:aj) (hx:dj w a c x) (g:x.Ok):
  jW 53 #[cZ (bf a c x)] w (uZ w (if vi x=bl then 0 else 8)):=by
 have C1:=hI fun W (i:jb w W)=>YT x a c W (hx.below i) g;clear hx g;have b:(prog.info? 87).map (·.size)=bt (bf a c x).size:=by kernel_rfl
 generalize vi x=B at *;generalize bf a c x=j at *;have k:=hI b;clear b;go_enter func53,ntmps53;go_upto_region 1 with fail;generalize H:cj _ _=W0;have K0:=hI (jG H)
 have X0:=hI (jA H)
 clear H;cases B
 all_goals
  go_wp2_with (first | (refine Dx rfl 87 (dk 1) rfl w rfl 87 j (0,0) _ X0.o underlying87 rfl k.o ?_;simp[cq]) | (go_at_call 110;refine(C1.o W0 K0.o).mono ?_;rintro e W1 ⟨rfl,d⟩;have f:=hI (jo K0 d);clear d))
  go_ret;exact⟨rfl,f.o⟩
def YX {base:av}{a:ax bR}{c:av}(h:W.ownsRow base 5 1 (js a (cu x).length c) (cu x).length (eT (cu x))):aB W 1 dG a c (bq x):=by
 refine fj (base:=base) (n:=(cu x).length) ?_ (by unfold bq;rw[Pn]);rw[xF,bq,aq.map_map];exact h
def xM (x:Hs):(bq x).length=(cu x).length:=by unfold bq;rw[Pn]
theorem YZ (x:Bo) (a:av->ax bR) (c:av->av) (w:aj) (hx:dj w a c x) (hf:x.Ok):
  jW 52 #[cZ (bf a c x)] w (uZ w (if vi x=bl then 0 else 8)):=by
 have C:=hI fun W (l:jb w W)=>Iy x.h a c W (hx.h.below l) hf.h;have D:=hI fun W (l:jb w W)=>xA x.d _ _ _ _ W (hx.d.below l) hf.d.n;have Y:=hI fun(H:ae x.d) (b5:x.d.wt=[]) W (l:jb w W)=>YO x.d _ _ _ _ W (hx.d.below l) H b5 ⟨H.1,H.2.2.1,hf.d.s⟩;have Z:=hI fun(H:gD x.h=bl) (hh:x.h.halted=aW) W (l:jb w W)=>Jl x.h a c W (hx.h.below l) hf.h H hh;refine ZI fun a5 F H5 G=>?_
 obtain⟨E,p⟩: ∃E:ar,E=if vi x=bl then 0 else 8:=⟨_,rfl⟩;rw[<-p];have HF:=hI p;clear hx hf p;unfold cV at C Z;refine Oj fun Z5 T7=>?_;have HPG:=hI (xz a c x);refine ku fun U=>?_;have hh:(aE a c x.h)[24]? =bt (db x.h.halted):=rfl;rw[H5.o]at HF;clear H5;generalize xL x=R at *;generalize aE a c x.h=a0 at *;generalize bf a c x=a1 at *;unfold ak at D Y T7;go_enter func52,ntmps52;go_upto_region 1 with fail;generalize q:cj _ _=W3;have KO:=hI (jG q)
 have X0:=hI (jA q)
 clear q;obtain⟨b1,M5⟩: ∃b1,b1=gD x.h:=⟨_,rfl⟩;rw[<-M5]at HF C;have a6:=hI M5;clear M5;obtain⟨b2,I3⟩: ∃b2,b2=ab (ae x.d):=⟨_,rfl⟩;rw[<-I3]at HF;have a7:=hI I3;clear I3;cases b1
 case false=>
  simp only[Dw,if_false]at C;go_wp2_with (refine gn 35 (dk 7) rfl w 0 rfl rfl 87 a1 a0 (0,0) _ X0.o Z5.o underlying35 rfl U.o ?_);refine oG (C.o W3 KO.o) fun W1 M5=>?_;refine ei ?_;exact⟨by rw[HF.o];rfl,jo KO M5⟩
 simp only[Hq]at C;go_wp2_with (refine gn 35 (dk 7) rfl w 0 rfl rfl 87 a1 a0 (0,0) _ X0.o Z5.o underlying35 rfl U.o ?_);refine oG (C.o W3 KO.o) fun W1 M5=>?_;refine Yt fun i I XX x5 x6 l0=>?_;clear M5 I;cases b2
 case false=>
  have H:=of_decide_eq_false a7.o.symm;rw[Nm H]at D;clear H;go_wp2_with fail;refine oG (D.o W1 (jo KO i.o)) fun W2 I3=>?_;refine ei ?_;exact⟨by rw[HF.o];rfl,KO.o.trans ((jo i I3).mono KO.o.size)⟩
 have H:=Ib a7.o.symm;rw[Np H]at D;have a8:=hI H;clear H;go_wp2_with fail;refine oG (D.o W1 (jo KO i.o)) fun W2 I3=>?_;have L9:=hI (jo i I3);refine ZR fun X XY y4 y5 y6 y7 l1=>?_;clear I3 X x5 x6 l0;obtain⟨n,k⟩: ∃n,n=x.d.wt.length:=⟨_,rfl⟩;rw[<-k]at HF y6;have a9:=hI k;clear k;by_cases h0:n=0
 case neg=>
  have hd:ab ((0:ar)<(n:ar))=bl:=em
  have hp:0<n:=ed
  rw[Mw h0]at HF;clear h0;refine ei ?_;exact YE
 subst h0;obtain⟨hl,s⟩: ∃hl,hl=x.h.halted:=⟨_,rfl⟩;rw[<-s]at HF y4;have b0:=hI s;clear s hh;cases hl
 case true=>
  have HE:bG (E=if(x.g==0)=bl then 0 else 8):=HF.o;clear HF;by_cases he:x.g=0
  ·have b:(x.g==0)=bl:=Xv;have u:(x.g != 0)=aW:=(by simp[bne,he]);rw[b,Np rfl]at HE;clear he;generalize x.g=g at *;refine ei ?_;exact⟨ew,jo KO L9.o⟩
  have b:(x.g==0)=aW:=Ui;have u:(x.g != 0)=bl:=(by simp[bne,he]);rw[b]at HE;clear he;generalize x.g=g at *;refine ei ?_;exact⟨ew,jo KO L9.o⟩
 have HE:bG (E=if R=bl then 0 else 8):=HF.o;have HC:=hI (Y.o a8.o (Dm a9.o.symm) W2 (jo KO L9.o));have C6:=hI (Z.o a6.o.symm b0.o.symm);have H0:=hI (a5.o a6.o.symm b0.o.symm);have v:=hI (F.o a8.o);rw[<-a9.o]at HC;obtain⟨L,hL⟩: ∃L,L=ir x.d.sc:=⟨_,rfl⟩;rw[<-hL]at HC G v;obtain⟨g,he⟩: ∃g,g=x.g:=⟨_,rfl⟩;rw[<-he]at y7 G;have HV:=hI he;clear hL he Y Z a5 F C D HF;go_upto_region 7 with fail;clear y4;go_upto_region 8 with(go_at_call 108;refine HC.o.mono ?_;rintro e b6 ⟨c6,c3,rfl,h3,y⟩;have J:=hI h3;have H1:=hI (jo L9 y);have X3:=hI ((jm y XY.o));clear h3 y);clear y5 y6 y7 l1 HC XX XY;have M:=jo KO H1.o;have N:=hI M;clear M;go_upto_region 9 with(first | (refine gn 35 (dk 37) rfl w 0 rfl rfl 87 a1 a0 (0,0) _ X3.o Z5.o underlying35 rfl U.o ?_) | (go_at_call 109;refine vr (C6.o b6 N.o) fun W0 b7 c4 O j=>?_;have H2:=hI (YX O);have z:=hI (jo N j);have A:=hI (J.o.below ag.keeps j);have X4:=hI ((jm j X3.o));clear O j))
 have z7:jc W0 w 27 (cW dD g):=(Mu _ _ _ _ _ _ X4.o).trans (HPG.o.trans Oi);have b3:=aD X4.o;have P:=hI (xM x.h);rw[<-P.o];generalize bq x.h=a2 at *;clear P C6 J X3 HPG HV T7 Z5 U;cases L with
 | nil=>
  refine zD [28] ?_;intro V hV;refine uJ ?_;refine wbo 8 (jV 0) hV ?_;refine Xl ?_;refine vb 26 hV ?_;refine zB [27] hV ?_;refine pG [28] ef ee ?_;refine oS ?_;have d:=jo z hV;rw[G.o]at HE;refine ei ?_;exact⟨ew,d⟩
 | cons r b8=>
  obtain⟨c7,c8,c9,e,a3,a4,c0,c1,rfl,B⟩:=A.o.at_ 0 (av.succ_pos _);cases e;have p0:=a4 0 ee;have p1:=a4 1 ee;simp only[Nu,Dl,av.zero_mul,Pk]at p0 p1 B;have lp:=Mt p0;obtain⟨n,k⟩: ∃n,n=(r::b8).length:=⟨_,rfl⟩;have b4:n<=c3:=by rw[k];exact A.o.le
  have c2:0<n:=by rw[k];exact av.succ_pos _
  rw[<-k];have c5:((n:ar)==0)=aW:=Ov
  have H3:=hI B;have H4:=hI (v.o r Dq);have Q:bG (R=((r.gen==g)&&ab (r.text=a2))):=G.o;clear a4 a3 B k A v G;have f:=hI HE.o;rw[Q.o]at f;clear HE Q;refine zD [28] ?_;intro V hV;refine vM fun t0 t1 t2=>?_;have t3:=fun t:Gw W0=>t.cel z7;have t4:=fun t:Gw W0=>t.lt b3;by_cases hsl:r.gen=g
  case neg=>
   have b:(r.gen==g)=aW:=(by rw[Nd];exact hsl);have u:(r.gen != g)=bl:=et;rw[b]at f;clear hsl;refine uJ ?_;refine wbo 8 (jV (n:ar)) hV ?_;refine Xl ?_;refine vb 26 hV ?_;refine zB [27] hV ?_;refine pG [28] ef ee ?_;refine oS ?_;have d:=jo z hV;refine ei ?_;exact⟨by rw[f.o];rfl,d⟩
  have b:(r.gen==g)=bl:=by rw[Da];exact hsl
  have u:(r.gen != g)=aW:=et
  rw[b]at f;clear hsl;refine uJ ?_;refine wbo 8 (jV (n:ar)) hV ?_;refine Xl ?_;clear t0 t1 t2 t3 t4 p0 p1 lp z7 b3;have T:=Ai c0 b7 c1 c4 r.text a2 V (H3.o.below fS hV) (H2.o.below fS hV) H4.o H0.o;generalize ab (r.text=a2)=b9 at *;refine aS 26 ef ?_;refine Oo fun K hK=>?_;refine .inl (T.mono ?_);clear T;rintro e V1 ⟨rfl,M5⟩;simp[go_sem];have D0:=jt hV M5;refine Ob ?_;clear hK K hV M5;have d:=jo z D0;refine zB [27] D0 ?_;refine pG [28] ef ee ?_;refine oS ?_;cases b9
  all_goals
   refine ei ?_;exact⟨by rw[f.o];rfl,d⟩
