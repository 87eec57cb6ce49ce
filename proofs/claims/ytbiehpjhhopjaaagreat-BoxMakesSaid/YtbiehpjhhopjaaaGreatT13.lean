/- Walks, laws. -/
import Derived.Laws.CopyOwn
import Derived.Test.YtbiehpjhhopjaaaGreatT10
set_option linter.all false
set_option maxRecDepth 100000
set_option maxHeartbeats 16000000
namespace Go.Proofs.YtbiehpjhhopjaaaGreat
open _root_ renaming Array->aL,Bool.false->aW,Decidable.decide->ab,List->aq,Int->ar,Nat->av,Option->ax,Bool.true->bl,Option.none->bn,Option.some->bt
open Go renaming World->aj,RowKit.Hid->bG,Addr->bR,TypeId->bT,Value->bw,RowKit.Below->cB,Ending.returned->cL,Obj.cells->cO,Value.int->cW,Value.agg->cZ,World.alloc->cj,wpQuiet_nil->cl,Value.bool->db,IntKind.i64->dr
open Go.RowKit Go.Sort Tryz
variable {U V W W' w:aj}{N c k sz:av}{F L key l:aq ar}{a:Act}{Q:Exit->Act->aj->Prop}{ops:aL Oper}{xs:aq bw}{Z cur:aL bw}{e:bT}{K:Act->aj->Prop}
def oJ (N T:av) (bs:aq av) (ns:aq ar) (w:aj) (e:Ending) (w':aj):Prop:=(∃v,e=cL v)/\Tf N T w w'/\eC N T (bs++bI ns) w'
def rE {T:av}{g:av}(H:g≠T) (h:jk W g (l.map (bw.int dr)).toArray 3): ∀W',Tf N T W W'->IL W' (bt ⟨g,0,bn⟩) l l:=fun W' a=>
 ⟨rfl,fun i b=>⟨g,0,rfl,by
  rw[Pa,Mu _ _ _ _ _ _ (a.keep g _ _ _ H eh h)]
  simp[b]⟩⟩
def tP (f:FuncId){α:Type}(A:α->bw) (F:α->aq ar):Prop:= ∀(N T:av) (x:α) (bs:aq av) (w:aj),N<=T->eC N T bs w->(∀n∈F x,eO n)->bs.length<=99000->jW f #[A x,jp T 0] w (oJ N T bs (F x) w)
def EL {f:FuncId}{α:Type}{A:α->bw}{F:α->aq ar}(m:av) (hF: ∀x,(F x).length=m) (hm:m<=1000) (s:(∀x,(F x).length=m)->m<=1000->tP f A F:=by
 intro hF hm N T x bs w hN hT hn hb;have C:=hI fun W a c (h1:eC N T bs W) h2=>rF N T _ bs a c W hN h1 h2 hn (by rw[hF];omega);have HT:=hI hT;have HL:=hI hT.lt;have HN:=hI (av.le_trans hN (av.le_of_lt hT.lt));clear hn hT hN hF hm
 (first | go_in | go_in | go_in | go_in)
 go_wp2_with (go_at_call 324;generalize hW:cj _ _=W1;have b1:jb w W1:=(by rw[<-hW];first | exact aR | exact aR.alloc (by simp) _);refine(C W1 _ _ (HT.below b1) (rE (by have:=HL.o;omega) (by rw[<-hW];first | exact heap_alloc_new _ _ | exact heap_alloc2_new _ _ _))).mono ?_;clear hW;rintro e W2 ⟨⟨v,rfl⟩,hf2,ht2⟩;have HF:=hI ((Tf.of_below HN b1).trans hf2);have HT2:=hI ht2;clear hf2 ht2)
 go_end0
 exact⟨⟨_,rfl⟩,HF,HT2⟩):tP f A F:=s hF hm
def z7z:tP 323 (cW dr) dJ:=EL 1 (fun _=>rfl) eh
def z70:tP 328 (fun x=> cZ #[x.id,x.sec]) dN:=EL 2 (fun _=>rfl) eh
def z71:tP 330 (fun x=> cZ #[x.id,x.sec,x.en]) fM:=EL 3 (fun _=>rfl) eh
def z72:tP 335 (fun x=> cZ #[x.pt,x.lie]) kC:=EL 2 (fun _=>rfl) eh
def EI {α:Type}(f:α->aq ar) (l:aq α){B:av}(b:aq av) (a:l.length<=1000) (hn: ∀x∈l,∀n∈f x,eO n) (c:b.length+5 * (cE f l).length<=B):
  ∃F:av->aq av,(∀k,(F k).length<=B)/\(∀k (hk:k<l.length),F k++bI (f l[k])=F (k+1))/\b++bI (dJ l)=F 0/\F l=b++bI (cE f l):=by
 refine⟨fun k=>b++(bI (dJ l)++bI ((l.take k).flatMap f)),fun k=> ?_,fun k hk=> ?_,by simp[bI],by simp only[];rw[Ph];simp[bI,cE,dJ]⟩
 ·have h1:=qM ((l.take k).flatMap f) fun n h=>by exact Me
  have h2:((l.take k).flatMap f).length<=(l.flatMap f).length:=by
   conv=>rhs;rw[<-Hi k l,Dg,Mx]
   omega
  have h3:=qM (dJ l) (by intro n h;simp[dJ]at h;subst h;exact⟨ed,ed⟩);simp only[dJ,Du,Tl,Mx,cE]at h3 c ⊢;omega
 simp only[];exact Rs
def PH (N T:av) (l:aq ar) (a:ax bR) (c:av) (B:aq av) (w:aj) (hN:N<=T) (hT:eC N T B w) (w0:aj) (d:N=w0.heap.size) (f:cB N w0 w) (hl:IL w0 a l l) (q: ∀x∈l,∀n∈dJ x,eO n) (j:l.length<=1000) (A:B.length+5 * (cE dJ l).length<=99000):
  jW 333 #[jp T 0,js a l c,.func (.func 323) #[] #[jp T 0]] w (oJ N T B (cE dJ l) w):=by
 have C:=hI fun W a (h1:eC N T B W) h2=>rF N T (dJ l) B a 1 W hN h1 h2 (by intro n h;simp[dJ]at h;subst h;exact⟨ed,ed⟩) (by simp[dJ];omega);obtain⟨F,hb,ho,h0,D⟩:=EI dJ l B j q A;refine Qa fun G I=>?_;have H0:=hI h0;have HE:=hI D;have r:=hI fun k (E:k<l.length) W (h1:eC N T (F k) W)=>z7z N T l[k] (F k) W hN h1 (q _ (Nn E)) (G k);have J:=hI hT;have HL:=hI hT.lt;have s:=hI hl;have HB0:=hI f;have HN0:=hI d;have K:=hI Eu;clear q hT hN hl hb ho h0 D A f d;go_in;go_wp2_with (go_at_call 324;generalize hW:cj _ _=W1;have t:=jG hW;have il:=rE (N:=N) (T:=T) (W:=W1) (g:=w.heap.size) (l:=dJ l) Qm Un;clear hW;refine(C W1 _ (J.below t) il).mono ?_;rintro e W2 ⟨⟨v,rfl⟩,hO2,hw2⟩;have L:=hI ((Tf.of_below K t).trans hO2);rw[H0.o]at hw2;have H:=hI hw2;clear hO2 hw2 il t);go_loopg [7,15] l.length (fun g v7 i wr=> ∃k:av,k<=l.length/\g=l.length-k/\i= jV k/\Tf N T w wr/\eC N T (F k) wr)
 ·exact⟨0,ed,ed,rfl,L,H⟩
 obtain⟨k,E,rfl,rfl,hfr,o⟩:=hrel;have HFR:=hI hfr;have HTX:=hI o;by_cases G9:k<l.length
 ·have hd:=bL G9;refine Qb fun _ _=>?_;have M:=hI (r k G9);have u:=hI (I k G9);obtain⟨b,off,rfl,hc⟩:=s.cell k G9;have p:jb w0 wr:=Yp;have x0:=(p.cell Uj).trans hc;refine Qw fun _=>?_;clear hc hfr o p;generalize l[k]=y at *;go_wp2_with fail;have HO13:=HFR;refine(M wr HTX).mono ?_;rintro e W2 ⟨⟨v,rfl⟩,hO2,hw2⟩;rw[u.o]at hw2;refine Uc fun z H=>?_;clear hO2 hw2;go_wp2_with fail;go_roundg (l.length-(k+1))
  ·go_light;exact⟨k+1,ed,ed,ej,z,H⟩
  go_light;omega
 obtain rfl:k=l.length:=ed;have hd:=bZ G9;go_wp2_with fail
 go_end0
 exact Xm
def AG (f g:FuncId) (sz:av){α:Type}(R:aj->aq bw->α->Prop) (F:α->aq ar):Prop:= ∀(N T:av) (l:aq α) (a:ax bR) (c:av) (bs:aq av) (w:aj),N<=T->eC N T bs w-> ∀w0:aj,N=w0.heap.size->cB N w0 w->aB w0 sz R a c l->(∀x∈l,∀n∈F x,eO n)->l.length<=1000->bs.length+5 * (cE F l).length<=99000->
  jW f #[jp T 0,js a l c,.func (.func g) #[] #[jp T 0]] w (oJ N T bs (cE F l) w)
theorem MJ {f g:FuncId}{α:Type}{R:aj->aq bw->α->Prop}{F:α->aq ar}{A:α->bw}(h:tP g A F) (s:tP g A F->AG f g sz R F:=by
 intro CL N T l a c bs w hN hT w0 hN0 hb0 hl hn hlen hm;have C:=hI fun W a (h1:eC N T bs W) h2=>rF N T (dJ l) bs a 1 W hN h1 h2 (by intro n h;simp[dJ]at h;subst h;exact⟨by omega,by omega⟩) (by simp[dJ];omega);obtain⟨F,hB,hS,h0,hE⟩:=EI _ l bs hlen hn hm;have HB:=hI hB;have HS:=hI hS;have H0:=hI h0;have HE:=hI hE;have HCL:=hI fun k (hk:k<l.length) W (h1:eC N T (F k) W)=>CL N T l[k] (F k) W hN h1 (hn _ (aq.getElem_mem hk)) (HB k);have HT:=hI hT;have HL:=hI hT.lt;have HLL:=hI hl;have HB0:=hI hb0;have HN0:=hI hN0;have HN:=hI (av.le_trans hN (av.le_of_lt hT.lt));clear CL hn hT hN hl hB hS h0 hE hm hb0 hN0
 (first | go_in | go_in | go_in)
 go_wp2_with (go_at_call 324;generalize hW:cj _ _=W1;have b1:jb w W1:=(by rw[<-hW];exact aR);have il:=rE (N:=N) (T:=T) (W:=W1) (g:=w.heap.size) (l:=dJ l) (by have:=HL.o;omega) (by rw[<-hW];exact heap_alloc_new _ _);clear hW;refine(C W1 _ (HT.below b1) il).mono ?_;rintro e W2 ⟨⟨v,rfl⟩,hf2,ht2⟩;have HF:=hI ((Tf.of_below HN b1).trans hf2);rw[H0.o]at ht2;have HT2:=hI ht2;clear hf2 ht2 il b1);go_loopg [7,15] l.length (fun g v7 i wr=> ∃k:av,k<=l.length/\g=l.length-k/\i= jV k/\Tf N T w wr/\eC N T (F k) wr)
 ·exact⟨0,by omega,by omega,rfl,HF,HT2⟩
 obtain⟨k,hk,rfl,rfl,hfr,htx⟩:=hrel;have HFR:=hI hfr;have HTX:=hI htx;by_cases hlt:k<l.length
 ·have hd:ab ((k:ar)<(l:ar))=bl:=(by simp;omega);have c0:(0:ar)<=(k:ar):=(by omega);have c1:(k:ar)<(l:ar):=(by omega);have HC:=hI (HCL k hlt);have HSS:=hI (HS k hlt);obtain⟨b,off,vs,rfl,hvl,hvc,hvr⟩:=HLL.at_ k hlt;have hbw:jb w0 wr:=(by rw[<-HN0.o];exact HB0.trans hfr.bel);cases hvr;have X:=fun i hi=>(hbw.cell (block_lt_of_cell (hvc i hi))).trans (hvc i hi);have x0:=X 0 (by simp);have x1:=X 1 (by simp)
  try have x2:=X 2 (av.le_refl 3)
  clear X;simp only[av.add_zero,av.mul_one,aq.getElem_cons_zero,aq.getElem_cons_succ]at *;have lx:=block_lt_of_cell x0;clear hvc hvl hfr htx hbw;generalize l[k]=y at *;go_wp2_with fail;generalize hW:cj _ _=W1;have b1:jb wr W1:=(by rw[<-hW];exact aR);have HF1:=hI (HFR.trans (Tf.of_below (av.le_trans HN HFR.bel.size) b1));clear hW;refine(HC W1 (HTX.below b1)).mono ?_;rintro e W2 ⟨⟨v,rfl⟩,hf2,ht2⟩;rw[HSS.o]at ht2;have HF2:=hI (HF1.trans hf2);have HT2:=hI ht2;clear hf2 ht2;go_wp2_with fail;go_roundg (l.length-(k+1))
  ·go_light;exact⟨k+1,by omega,by omega,by go_num,HF2,HT2⟩
  go_light;omega
 obtain rfl:k=l.length:=(by omega);have hd:ab ((l:ar)<(l:ar))=aW:=(by simp);go_wp2_with fail
 go_end0
 exact⟨⟨_,rfl⟩,HFR,by rw[<-HE.o];exact HTX⟩):AG f g sz R F:=s h
def z73:AG 327 328 2 iA dN:=MJ z70
def z74:AG 329 330 3 gZ fM:=MJ z71
def z75:AG 334 335 2 lZ kC:=MJ z72
theorem z76 (N T:av) (x:aF) (a0:ax bR) (a1:av) (B:aq av) (w:aj) (hN:N<=T) (hT:eC N T B w) (w0:aj) (r:N=w0.heap.size) (s:cB N w0 w) (hj:aB w0 2 fI a0 a1 x.ends) (D: ∀n∈eX x,eO n) (a2:x.ends.length<=900) (a4:B.length<=90000):
  jW 326 #[cZ #[x.id,x.pt,js a0 x.ends a1],jp T 0] w (oJ N T B (eX x) w):=by
 have o: ∀n∈dN ⟨x.id,x.pt⟩,eO n:=fun n h=>D n (by simp only[dN,eX,Dv,Pf,Ta]at h ⊢;rcases h with rfl | rfl<;>simp);have hn:=fun j hj n h=>D n (by simp only[eX,Dv,Su];exact .inr (.inr ⟨j,hj,h⟩));have C:=hI fun W a (h1:eC N T B W) h2=>rF N T (dN ⟨x.id,x.pt⟩) B a 2 W hN h1 h2 o (by simp[dN];omega);have t:=fun k=>qM ((x.ends.take k).flatMap iR) fun n h=>by exact Me
 have u: ∀k,((x.ends.take k).flatMap iR).length<=1800:=fun k=>by
  have: ∀l:aq Jn,(l.flatMap iR).length=2 * l.length:=fun l=>by induction l with | nil=>rfl | cons j l a6=>simp[iR]at a6 ⊢;omega
  rw[this,Dn];omega
 have G:bG (∀k,(B++(bI (dN ⟨x.id,x.pt⟩)++bI ((x.ends.take k).flatMap iR))).length<=99010):=fun k=>by
  have h1:=t k;have h2:=u k;have h3:=qM (dN ⟨x.id,x.pt⟩) o;simp only[dN,Du,Tl,Mx]at h3 ⊢;omega
 have I:bG (∀k (hk:k<x.ends.length),B++(bI (dN ⟨x.id,x.pt⟩)++bI ((x.ends.take k).flatMap iR))++bI (iR x.ends[k])=B++(bI (dN ⟨x.id,x.pt⟩)++bI ((x.ends.take (k+1)).flatMap iR))):=fun k hk=>by
  exact Rs
 have J:bG (B++bI (dN ⟨x.id,x.pt⟩)=B++(bI (dN ⟨x.id,x.pt⟩)++bI ((x.ends.take 0).flatMap iR))):=by show _=_;simp[bI]
 have HE:bG (B++(bI (dN ⟨x.id,x.pt⟩)++bI ((x.ends.take x.ends).flatMap iR))=B++bI (eX x)):=by show _=_;rw[Ph];simp[bI,eX,dN]
 obtain⟨F,hF⟩: ∃F:av->aq av,F=fun k=>B++(bI (dN ⟨x.id,x.pt⟩)++bI ((x.ends.take k).flatMap iR)):=⟨_,rfl⟩;replace G:bG (∀k,(F k).length<=99010):=by rw[hF];exact G
 replace I:bG (∀k (hk:k<x.ends.length),F k++bI (iR x.ends[k])=F (k+1)):=by rw[hF];exact I
 replace J:bG (B++bI (dN ⟨x.id,x.pt⟩)=F 0):=by rw[hF];exact J
 replace HE:bG (F x.ends=B++bI (eX x)):=by rw[hF];exact HE
 have K:=hI fun k (hk:k<x.ends.length) W a (h1:eC N T (F k) W) h2=>rF N T (iR (x.ends[k]'hk)) (F k) a 2 W hN h1 h2 (hn _ (Nn hk)) (by have:=G k;simp[iR];omega);have a7:=hI hT;have HL:=hI hT.lt;have L:=hI hj;have M:=hI s;have O:=hI r;have a3:=hI Eu;clear D hT hN hj t u hF a4 s r o hn;obtain⟨a8,a9,X⟩:=x;dsimp only at *;go_in;go_upto_region 2 with(go_at_call 324;refine Qq fun z hW=>?_;have p:=eN hW;have il:=rE (N:=N) (T:=T) (W:=z) (g:=w.heap.size+1) (l:=dN ⟨a8,a9⟩) Qm Zq;have A:=jB hW;clear hW;refine(C z _ (a7.below p) il).mono ?_;rintro e W2 ⟨⟨v,rfl⟩,c,H⟩;have f:=c.keep _ _ _ _ Qm eh A;have b0:=hI ((Tf.of_below a3 p).trans c);rw[J.o]at H;have P:=hI H;clear c H il p);have x0:=ji 2 f;refine Qw fun b1=>?_;clear f A;go_wp2_with fail;go_loopg [4,14] X.length (fun g v4 i wr=> ∃k:av,k<=X.length/\g=X.length-k/\i= jV k/\Tf N T w wr/\eC N T (F k) wr)
 ·exact⟨0,ed,ed,rfl,b0,P⟩
 obtain⟨k,hk,rfl,rfl,hb,ho⟩:=hrel;refine Qa fun HFR HTX=>?_;by_cases G9:k<X.length
 ·have hd:=bL G9;refine Qb fun _ _=>?_;have b2:=hI (K k G9);have Q:=hI (I k G9);obtain⟨b,off,b6,rfl,R,d,U⟩:=L.at_ k G9;have q:jb w0 wr:=(by rw[<-O.o];exact M.trans hb.bel);cases U;have x1:=(q.cell (Mt (d 0 ee))).trans (d 0 ee);have b3:=(q.cell (Mt (d 1 ee))).trans (d 1 ee);simp only[Pk,Nu,Dl]at x1 b3;have l0:=Mt x1;have V:=hI ho.lt;clear d R hb ho q x0 b1;generalize X[k]=y at *;obtain⟨b4,b5⟩:=y;dsimp only at *;go_wp2_with (go_at_call 324;generalize hW:cj _ _=z;have p:=eN hW;have il:=rE (N:=N) (T:=T) (W:=z) (g:=wr.heap.size+1) (l:=iR ⟨b4,b5⟩) (by have:=V.o;omega) Zq;clear hW;refine(b2 z _ (HTX.below p) il).mono ?_;rintro e W3 ⟨⟨v3,rfl⟩,c,H⟩;have Y:=hI ((HFR.trans (Tf.of_below (Nj a3 HFR.bel.size) p)).trans c);rw[Q.o]at H;have Z:=hI H;clear c H il p);go_roundg (X.length-(k+1))
  ·go_light;exact⟨k+1,ed,ed,ej,Y,Z⟩
  go_light;omega
 obtain rfl:k=X.length:=ed;have hd:=bZ G9;go_wp2_with fail
 go_end0
 exact Xm
def z77 (N T:av) (l:aq aF) (a:ax bR) (c:av) (B:aq av) (w:aj) (hN:N<=T) (hT:eC N T B w) (w0:aj) (j:N=w0.heap.size) (r:cB N w0 w) (hl:aB w0 3 cU a c l) (z: ∀x∈l,∀n∈eX x,eO n) (s:l.length<=1000) (f: ∀x∈l,x.ends.length<=900) (P:B.length+5 * (cE eX l).length<=90000):
  jW 325 #[jp T 0,js a l c,.func (.func 326) #[] #[jp T 0]] w (oJ N T B (cE eX l) w):=by
 have C:=hI fun W a (h1:eC N T B W) h2=>rF N T (dJ l) B a 1 W hN h1 h2 (by intro n h;simp[dJ]at h;subst h;exact⟨ed,ed⟩) (by simp[dJ];omega);obtain⟨F,hb,ho,h0,Q⟩:=EI eX l B s z P;refine Qa fun U V=>?_;have H0:=hI h0;have HE:=hI Q;have A:=hI fun k (D:k<l.length) W (h1:eC N T (F k) W) E G (p:aB w0 2 fI E G l[k].ends) (I:cB N w0 W)=>z76 N T l[k] E G (F k) W hN h1 w0 j I p (z _ (Nn D)) (f _ (Nn D)) (U k);have X:=hI hT;have HL:=hI hT.lt;have J:=hI hl;have HB0:=hI r;have HN0:=hI j;have R:=hI Eu;clear z hT hN hl hb ho h0 Q P r j f;go_in;go_wp2_with (go_at_call 324;generalize hW:cj _ _=u;have q:=jG hW;have il:=rE (N:=N) (T:=T) (W:=u) (g:=w.heap.size) (l:=dJ l) Qm Un;clear hW;refine(C u _ (X.below q) il).mono ?_;rintro e W2 ⟨⟨v,rfl⟩,hO2,hw2⟩;have Y:=hI ((Tf.of_below R q).trans hO2);rw[H0.o]at hw2;have o:=hI hw2;clear hO2 hw2 il q);go_loopg [7,15] l.length (fun g v7 i wr=> ∃k:av,k<=l.length/\g=l.length-k/\i= jV k/\Tf N T w wr/\eC N T (F k) wr)
 ·exact⟨0,ed,ed,rfl,Y,o⟩
 obtain⟨k,D,rfl,rfl,hfr,t⟩:=hrel;have HFR:=hI hfr;have HTX:=hI t;by_cases G9:k<l.length
 ·have hd:=bL G9;refine Qb fun _ _=>?_;have Z:=hI (A k G9);have K:=hI (V k G9);obtain⟨b,off,a1,rfl,L,H,M⟩:=J.at_ k G9;have d:jb w0 wr:=Yp;obtain⟨e0,rfl,p⟩:=M;obtain⟨E,G,rfl,p⟩:=p;have a0:=hI p;clear p;have x0:=(d.cell (Mt (H 0 ee))).trans (H 0 ee);have x1:=(d.cell (Mt (H 1 ee))).trans (H 1 ee);have x2:=(d.cell (Mt (H 2 ee))).trans (H 2 ee);simp only[Pk,Tb,Nu,Dl]at x0 x1 x2;refine Qw fun _=>?_;clear H L hfr t d;generalize l[k]=y at *;go_wp2_with fail;refine Qq fun u hW=>?_;have q:=jG hW;have HO13:=hI (HFR.trans (Tf.of_below (Nj R HFR.bel.size) q));clear hW;refine(Z u (HTX.below q) _ _ a0 (HB0.trans HO13.bel)).mono ?_;rintro e W2 ⟨⟨v,rfl⟩,hO2,hw2⟩;rw[K.o]at hw2;refine Uc fun O o=>?_;clear hO2 hw2;go_wp2_with fail;go_roundg (l.length-(k+1))
  ·go_light;exact⟨k+1,ed,ed,ej,O,o⟩
  go_light;omega
 obtain rfl:k=l.length:=ed;have hd:=bZ G9;go_wp2_with fail
 go_end0
 exact Xm
def mW (T NF:av) (W:aj):Prop:=jk W NF #[.func (.func 323) #[] #[jp T 0]] 390
theorem z78 (N T C:av) (x:Rt) (a1 a2 a3:ax bR) (pc a9 a4:av) (t:aq av) (w:aj) (hN:N<=T) (hT:eC N T t w) (w0:aj) (q:N=w0.heap.size) (hb:cB N w0 w) (b0:IL w0 a1 x.A x.A) (b1:IL w0 a2 x.O x.O) (hO2:aB w0 2 lZ a3 a4 x.fl)
  (H: ∀n∈fT x,eO n) (c:x.A.length<=99/\x.O.length<=99/\x.fl.length<=99) (ho:C≠T) (Q:mW T C w) (b5:t.length<=90000):
  jW 332 #[cZ #[x.id,x.E,x.X,js a1 x.A pc,js a2 x.O a9,js a3 x.fl a4,x.T],jp T 0,jp C 0] w (oJ N T t (fT x) w):=by
 have a5:(∀n∈fM ⟨x.id,x.E,x.X⟩,eO n)/\(∀n∈x.A,eO n)/\(∀n∈x.O,eO n)/\(∀y∈x.fl,∀n∈kC y,eO n)/\eO x.T:=by
  simp only[fT,Dv,Tx,cE,Su,dJ,Pf,Ta]at H;refine⟨fun n h=> ?_,fun n h=>H n (.inr (.inr (.inr (.inl (.inr ⟨n,h,rfl⟩))))),fun n h=>H n (.inr (.inr (.inr (.inr (.inl (.inr ⟨n,h,rfl⟩)))))),fun y r n h=>H n (.inr (.inr (.inr (.inr (.inr (.inl (.inr ⟨y,r,h⟩))))))),H _ (.inr (.inr (.inr (.inr (.inr (.inr rfl))))))⟩;simp only[fM,Dv,Pf,Ta]at h;rcases h with rfl | rfl | rfl
  ·exact H _ (.inl rfl)
  ·exact H _ (.inr (.inl rfl))
  exact H _ (.inr (.inr (.inl rfl)))
 obtain⟨D,E,F,G,R⟩:=a5;have hz2: ∀l:aq ar,(cE dJ l).length=l.length+1:=fun l=>by simp[cE,show l.flatMap dJ=l from by rw[show dJ=fun x=>[id x]from rfl,<-Td,aq.map_id]]
 have I: ∀l:aq Fl,(cE kC l).length=2 * l.length+1:=fun l=>by
  have:(l.flatMap kC).length=2 * l.length:=by induction l with | nil=>rfl | cons j l b6=>simp[kC]at b6 ⊢;omega
  simp[cE,this]
 have J: ∀l:aq ar,(∀n∈l,eO n)->l.length<=99-> ∀n∈cE dJ l,eO n:=fun l h hl n H=>by
  simp only[cE,Dv,Su,dJ,Pf,Ta]at H;rcases H with rfl | ⟨y,r,rfl⟩
  ·exact⟨ed,ed⟩
  exact h _ r
 have U: ∀n∈cE kC x.fl,eO n:=fun n H=>by
  simp only[cE,Dv,Su]at H;rcases H with rfl | ⟨y,r,h⟩
  ·exact⟨ed,ed⟩
  exact G y r n h
 have L1:=qM (fM ⟨x.id,x.E,x.X⟩) D;have L2:=qM _ (J _ E c.1);have L3:=qM _ (J _ F c.2.1);have L4:=qM _ U;rw[hz2]at L2 L3;rw[I]at L4;have L0:(bI (fM ⟨x.id,x.E,x.X⟩)).length<=15:=L1;have HE:bG (t++bI (fM ⟨x.id,x.E,x.X⟩)++bI (cE dJ x.A)++bI (cE dJ x.O)++bI (cE kC x.fl)++bI (dJ x.T)=t++bI (fT x)):=by show _=_;simp[bI,fT,fM,dJ]
 have C1:=hI fun W a (h1:eC N T t W) h2=>rF N T (fM ⟨x.id,x.E,x.X⟩) t a 3 W hN h1 h2 D (by simp[fM];omega);obtain⟨B1,K⟩: ∃B,B=t++bI (fM ⟨x.id,x.E,x.X⟩):=⟨_,rfl⟩;have l1:=Tc aq.length K;rw[Mx]at l1;rw[<-K]at HE C1;have C2:=hI fun W (h1:eC N T B1 W) (V:cB N w0 W)=>PH N T x.A a1 pc B1 W hN h1 w0 q V b0 (fun y r n h=>by simp[dJ]at h;subst h;exact E _ r) ed XY;obtain⟨B2,L⟩: ∃B,B=B1++bI (cE dJ x.A):=⟨_,rfl⟩;have l2:=Tc aq.length L;rw[Mx]at l2;unfold oJ at C2;rw[<-L]at HE C2;have C3:=hI fun W (h1:eC N T B2 W) (V:cB N w0 W)=>PH N T x.O a2 a9 B2 W hN h1 w0 q V b1 (fun y r n h=>by simp[dJ]at h;subst h;exact F _ r) ed XY;obtain⟨B3,M⟩: ∃B,B=B2++bI (cE dJ x.O):=⟨_,rfl⟩;have b2:=Tc aq.length M;rw[Mx]at b2;unfold oJ at C3;rw[<-M]at HE C3;have C4:=hI fun W (h1:eC N T B3 W) (V:cB N w0 W)=>z75 N T x.fl a3 a4 B3 W hN h1 w0 q V hO2 G ed (by rw[I];omega);obtain⟨B4,O⟩: ∃B,B=B3++bI (cE kC x.fl):=⟨_,rfl⟩;have b3:=Tc aq.length O;rw[Mx]at b3;unfold oJ at C4;rw[<-O]at HE C4;have C5:=hI fun W a (h1:eC N T B4 W) h2=>rF N T (dJ x.T) B4 a 1 W hN h1 h2 (by intro n h;simp[dJ]at h;subst h;exact R) (by simp[dJ];omega);have b7:=hI hT;have HL:=hI hT.lt;refine Qa fun P s=>?_;have H2:=hI Q;have b4:=hI Eu;clear H D E F G R hz2 I J U L1 L0 L2 L3 L4 K L M O l1 l2 b2 b3 hT hN b0 b1 hO2 b5 hb q c ho Q;obtain⟨b8,x1,x2,x4,x5,x6,x3⟩:=x;dsimp only at *;go_in;go_upto_region 2 with(go_at_call 324;refine Qq fun W1 hW=>?_;have u:=eN hW;have il:=rE (N:=N) (T:=T) (W:=W1) (g:=w.heap.size+1) (l:=fM ⟨b8,x1,x2⟩) Qm Zq;have X:=jB hW;clear hW;refine(C1 W1 _ (b7.below u) il).mono ?_;rintro e W2 ⟨⟨v,rfl⟩,b,d⟩;have f:mW T C W2:=b.keep _ _ _ _ s eh ((jm u H2));have i:=b.keep _ _ _ _ Qm eh X;have HO13:=hI ((Tf.of_below b4 u).trans b);have H3:=hI d;clear b d il u X);have x0:=ji 3 i;refine Qw fun l0=>?_;have n2:=ji 0 f
 have H4:=hI i;have H5:=hI f;clear i f;go_upto_region 3 with(go_at_call 333;refine Eh (C2 W2 H3 (P.trans HO13.bel)) fun W3 _ hO2 hw2=>?_;have k:mW T C W3:=hO2.keep _ _ _ _ s eh H5;have o:=hO2.keep _ _ _ _ Qm eh H4;refine Uc fun Y H6=>?_;clear hO2 hw2 x0 l0 n2);have y3:=ji 4 o;have l3:=Mt y3;have n3:=ji 0 k;have H7:=hI o;have H8:=hI k;clear o k;go_upto_region 4 with(go_at_call 333;refine Eh (C3 W3 H6 (P.trans Y.bel)) fun W4 _ hO2 hw2=>?_;have z:mW T C W4:=hO2.keep _ _ _ _ s eh H8;have p:=hO2.keep _ _ _ _ Qm eh H7;have Z:=hI (Y.trans hO2);have H9:=hI hw2;clear hO2 hw2 y3 l3 n3);have y4:=ji 5 p;have l4:=Mt y4;have a6:=hI p;have a7:=hI z;clear p z;go_upto_region 5 with(go_at_call 334;refine Eh (C4 W4 H9 (P.trans Z.bel)) fun W5 _ hO2 hw2=>?_;have a0:mW T C W5:=hO2.keep _ _ _ _ s eh a7;have A:=hO2.keep _ _ _ _ Qm eh a6;have H0:=hI (Z.trans hO2);have H1:=hI hw2;clear hO2 hw2 y4 l4);have y5:=ji 6 A;have l5:=Mt y5;have a8:=hI H1.o.lt;clear A a0;go_wp2_with (go_at_call 324;generalize hW:cj _ _=W0;have u:=jG hW;have il:=rE (N:=N) (T:=T) (W:=W0) (g:=W5.heap.size) (l:=dJ x3) (by have:=a8.o;omega) Un;clear hW;refine(C5 W0 _ (H1.below u) il).mono ?_;rintro e W6 ⟨⟨v6,rfl⟩,b,d⟩;have HFR:=hI ((H0.trans (Tf.of_below (Nj b4 H0.bel.size) u)).trans b);have HTX:=hI d;clear b d il u y5 l5)
 go_end0
 exact Xm
theorem z79 (N T:av) (l:aq Rt) (a:ax bR) (c:av) (B:aq av) (w:aj) (hN:N<=T) (hT:eC N T B w) (w0:aj) (j:N=w0.heap.size) (u:cB N w0 w) (hl:aB w0 7 fH a c l) (K: ∀x∈l,∀n∈fT x,eO n) (z:l.length<=1000) (f: ∀x∈l,x.A.length<=99/\x.O.length<=99/\x.fl.length<=99) (s:av) (o:s≠T) (A:mW T s w) (a1:B.length+5 * (cE fT l).length<=90000):
  jW 331 #[jp T 0,js a l c,.func (.func 332) #[] #[jp T 0,jp s 0]] w (oJ N T B (cE fT l) w):=by
 have C:=hI fun W a (h1:eC N T B W) h2=>rF N T (dJ l) B a 1 W hN h1 h2 (by intro n h;simp[dJ]at h;subst h;exact⟨ed,ed⟩) (by simp[dJ];omega);obtain⟨F,hb,ho,h0,a2⟩:=EI fT l B z K a1;refine Qa fun a5 a6=>?_;have a7:=hI h0;have HE:=hI a2;have L:=hI fun k (M:k<l.length) W (h1:eC N T (F k) W) P pc O a3 Q R (a8:IL w0 P l[k].A.length l[k].A) (a9:IL w0 O l[k].O.length l[k].O) (b0:aB w0 2 lZ Q R l[k].fl) (U:cB N w0 W) (V:mW T s W)=>z78 N T s l[k] P O Q pc a3 R (F k) W hN h1 w0 j U a8 a9 b0 (K _ (Nn M)) (f _ (Nn M)) o V (a5 k);have D:bG (∀W,Tf N T w W->mW T s W):=fun W h=>h.keep _ _ _ _ o eh A;have b1:=hI hT;have HL:=hI hT.lt;have X:=hI hl;have HB0:=hI u;have HN0:=hI j;have a4:=hI Eu;clear K hT hN hl hb ho h0 a2 a1 u j f o A;go_in;go_wp2_with (go_at_call 324;generalize hW:cj _ _=E;have t:=jG hW;have il:=rE (N:=N) (T:=T) (W:=E) (g:=w.heap.size) (l:=dJ l) Qm Un;clear hW;refine(C E _ (b1.below t) il).mono ?_;rintro e W2 ⟨⟨v,rfl⟩,hO2,hw2⟩;have b2:=hI ((Tf.of_below a4 t).trans hO2);rw[a7.o]at hw2;have p:=hI hw2;clear hO2 hw2 il t);go_loopg [7,15] l.length (fun g v7 i wr=> ∃k:av,k<=l.length/\g=l.length-k/\i= jV k/\Tf N T w wr/\eC N T (F k) wr)
 ·exact⟨0,ed,ed,rfl,b2,p⟩
 obtain⟨k,M,rfl,rfl,hfr,G⟩:=hrel;have HFR:=hI hfr;have HTX:=hI G;by_cases G9:k<l.length
 ·have hd:=bL G9;refine Qb fun _ _=>?_;have b3:=hI (L k G9);have Y:=hI (a6 k G9);obtain⟨b,off,b6,rfl,Z,H,a0⟩:=X.at_ k G9;have d:jb w0 wr:=Yp;obtain⟨p0,o0,f0,rfl,J⟩:=a0;obtain⟨P,pl,pc,rfl,q⟩:=J.A;obtain⟨O,b7,a3,rfl,r⟩:=J.O;obtain⟨Q,R,rfl,I⟩:=J.fl;obtain rfl:=q.len;obtain rfl:=r.len;have b4:=hI q;have b5:=hI r;have H0:=hI I;clear J q r I;have x0:=(d.cell (Mt (H 0 ee))).trans (H 0 ee);have x1:=(d.cell (Mt (H 1 ee))).trans (H 1 ee);have x2:=(d.cell (Mt (H 2 ee))).trans (H 2 ee);have x3:=(d.cell (Mt (H 3 ee))).trans (H 3 ee);have x4:=(d.cell (Mt (H 4 ee))).trans (H 4 ee);have x5:=(d.cell (Mt (H 5 ee))).trans (H 5 ee);have x6:=(d.cell (Mt (H 6 ee))).trans (H 6 ee);simp only[Pk,Tb,Nu,Dl]at x0 x1 x2 x3 x4 x5 x6;refine Qw fun _=>?_;clear H Z hfr G d;generalize l[k]=y at *;go_wp2_with fail;refine Qq fun E hW=>?_;have t:=jG hW;have HO13:=hI (HFR.trans (Tf.of_below (Nj a4 HFR.bel.size) t));clear hW;refine(b3 E (HTX.below t) _ _ _ _ _ _ b4 b5 H0 (HB0.trans HO13.bel) (D E HO13)).mono ?_;rintro e W2 ⟨⟨v,rfl⟩,hO2,hw2⟩;rw[Y.o]at hw2;refine Uc fun H1 p=>?_;clear hO2 hw2;go_wp2_with fail;go_roundg (l.length-(k+1))
  ·go_light;exact⟨k+1,ed,ed,ej,H1,p⟩
  go_light;omega
 obtain rfl:k=l.length:=ed;have hd:=bZ G9;go_wp2_with fail
 go_end0
 exact Xm
def PG {s:aF}(h:s.Shaped):s.ends.length<=3:=by rcases h with⟨-,h⟩ | ⟨-,-,h⟩<;>omega
theorem zn (p:Pl) (s q g r:bw) (w:aj) (c4:bN w s q g r p) (hok:IT p) (L:(gJ p).length<=17000):
  jW 242 #[aT p s q g r] w fun e b0=> ∃a c,e=cL (js a (dP p).length c)/\b0.ownsRow w 5 1 (js a (dP p).length c) (dP p).length (eT (dP p))/\jb w b0:=by
 obtain⟨⟨b2,b3,rfl,b4⟩,⟨b5,b6,rfl,hq⟩,⟨b7,b8,rfl,b9⟩,⟨ra,c0,rfl,c1⟩⟩:=c4;have j:=hok.num;simp only[gJ,Dv,Tx,cE,Su]at j
 have o: ∀n∈dN ⟨p.ver,p.par⟩,eO n:=fun n h=>by
  simp only[dN,Dv,Pf,Ta]at h;rcases h with rfl | rfl
  ·exact j _ (.inl rfl)
  exact j _ (.inr (.inl rfl))
 have t:=fun x hx n h=>j n (.inr (.inr (.inl (.inr ⟨x,hx,h⟩))));have u:=fun x hx n h=>j n (.inr (.inr (.inr (.inl (.inr ⟨x,hx,h⟩)))));have z:=fun x hx n h=>j n (.inr (.inr (.inr (.inr (.inl (.inr ⟨x,hx,h⟩))))));have M:=fun x hx n h=>j n (.inr (.inr (.inr (.inr (.inr (.inr ⟨x,hx,h⟩))))));have a1:(gJ p).length=2+(cE eX p.S).length+(cE dN p.P).length+(cE fM p.G).length+(cE fT p.R).length:=by simp[gJ];omega
 have b: ∀ {α:Type}(f:α->aq ar) (l:aq α),l.length<=99->(∀x∈l,∀n∈f x,eO n)->(bI (cE f l)).length<=5 * (cE f l).length:=fun f l hl h=>qM _ fun n j=>by
  simp only[cE,Dv,Su]at j;rcases j with rfl | ⟨y,c5,h'⟩
  ·exact⟨ed,ed⟩
  exact h y c5 n h'
 have L1:(bI (dN ⟨p.ver,p.par⟩)).length<=10:=qM (dN ⟨p.ver,p.par⟩) o;have L2:=b _ _ hok.S t;have L3:=b _ _ hok.P u;have L4:=b _ _ hok.G z;have O:bG (bI (dN ⟨p.ver,p.par⟩)++bI (cE eX p.S)++bI (cE dN p.P)++bI (cE fM p.G)++bI (cE fT p.R)=dP p):=by show _=_;simp[bI,dP,gJ,dN]
 obtain⟨N,K⟩: ∃N,N=w.heap.size:=⟨_,rfl⟩;have c6:=hI K;have d:N<=N+1:=av.le_succ _;have C1:=hI fun W a (h1:eC N (N+1) [] W) h2=>rF N (N+1) (dN ⟨p.ver,p.par⟩) [] a 2 W d h1 h2 o (by simp[dN]);rw[Dd]at C1;obtain⟨B1,P⟩: ∃B,B=bI (dN ⟨p.ver,p.par⟩):=⟨_,rfl⟩;rw[<-P]at O C1 L1;have C2:=hI fun W (h1:eC N (N+1) B1 W) (A:cB N w W)=>z77 N (N+1) p.S b2 b3 B1 W d h1 w K A b4 t (by have:=hok.S;omega) (fun x hx=>by have:=PG (hok.shaped x hx);omega) ed;obtain⟨B2,C⟩: ∃B,B=B1++bI (cE eX p.S):=⟨_,rfl⟩;have l2:=Tc aq.length C;rw[Mx]at l2;unfold oJ at C2;rw[<-C]at O C2;have C3:=hI fun W (h1:eC N (N+1) B2 W) (A:cB N w W)=>z73 N (N+1) p.P b5 b6 B2 W d h1 w K A hq u (by have:=hok.P;omega) ed;obtain⟨B3,D⟩: ∃B,B=B2++bI (cE dN p.P):=⟨_,rfl⟩;have c2:=Tc aq.length D;rw[Mx]at c2;unfold oJ at C3;rw[<-D]at O C3;have C4:=hI fun W (h1:eC N (N+1) B3 W) (A:cB N w W)=>z74 N (N+1) p.G b7 b8 B3 W d h1 w K A b9 z (by have:=hok.G;omega) ed;obtain⟨B4,E⟩: ∃B,B=B3++bI (cE fM p.G):=⟨_,rfl⟩;have c3:=Tc aq.length E;rw[Mx]at c3;unfold oJ at C4;rw[<-E]at O C4;have C5:=hI fun W (h1:eC N (N+1) B4 W) (A:cB N w W) (a2:mW (N+1) (N+2) W)=>z79 N (N+1) p.R ra c0 B4 W d h1 w K A c1 M (by have:=hok.R;omega) hok.few (N+2) ed a2 ed;unfold oJ at C5;rw[O.o]at C5;generalize dP p=d7 at *;clear j o t u z M a1 b L1 L2 L3 L4 l2 c2 c3 P C D E b4 hq b9 c1 hok L K d;obtain⟨c7,c8,c9,d0,d1,pr⟩:=p;dsimp only[aT]at *;go_in;go_upto_region 2 with fail;generalize i5:cj (cj _ _) _=W0;have K0:=hI (eN i5)
 have X0:=hI (jB i5)
 have T0:bG (Boxed W0 (w+1) 312 (jN)):=by show Boxed _ _ _ _;rw[<-i5];exact Do _ _ _
 have S0:bG (W0.heap.size=w.heap.size+2):=Xy
 clear i5;go_upto_region 3 with fail;generalize F:cj _ _=G;have k:=jG F
 have I:mW (w+1) W0 G:=by rw[mW,<-F];exact Ud
 rw[S0.o]at I k ⊢;clear F;have i:=hI (K0.trans (k.mono ed));have H:=(k.block _ ed).trans X0;have Q:Boxed G (w+1) 312 (jN):=(k.block _ ed).trans T0;have d2:bG (Tf w (w+1) G G):=Tf.refl _ _ _;have R:bG (eC w (w+1) [] G):=⟨_,Q,Nw _ _ _ _⟩;have H5:=hI I;clear I k Q K0 X0 T0 S0;obtain rfl:=c6.o;have x0:=ji 0 H;have y1:=ji 1 H;refine Qw fun l0=>?_;have H6:=hI H;clear H;go_upto_region 4 with(go_at_call 324;refine Qq fun W hW=>?_;have b1:jb G W:=(by rw[<-hW];exact aR);have il:=rE (N:=w.heap.size) (T:=w.heap.size+1) (W:=W) (g:=G.heap.size) (l:=dN ⟨c7,c8⟩) (by have:=R.lt;omega) Un;clear hW;refine(C1 W _ (R.below b1) il).mono ?_;rintro e W2 ⟨⟨v,rfl⟩,U,V⟩;have HO13:=hI ((Tf.of_below i.size b1).trans U);have H7:=hI V;have X:=hI (HO13.keep _ _ _ _ ed eh H6);have H8:bG (mW (w+1) (w+2) W2):=HO13.keep _ _ _ _ ed eh H5;clear U V il b1 x0 y1 l0);have y2:jc W2 w 2 (js b2 c9 b3):=jr X;have l1:=Mt y2;go_upto_region 5 with(go_at_call 325;refine Eh (C2 W2 H7 (i.trans HO13.bel)) fun W3 _ hO2 hw2=>?_;refine Uc fun Y H9=>?_;have Z:=hI (hO2.keep _ _ _ _ ed eh X);have a3:bG (mW (w+1) (w+2) W3):=hO2.keep _ _ _ _ ed eh H8;clear hO2 hw2 y2 l1);have y3:jc W3 w 3 (js b5 d0 b6):=jr Z;have l3:=Mt y3;go_upto_region 6 with(go_at_call 327;refine Eh (C3 W3 H9 (i.trans Y.bel)) fun W4 _ hO2 hw2=>?_;have H0:=hI (Y.trans hO2);have a4:=hI hw2;have H1:=hI (hO2.keep _ _ _ _ ed eh Z);have a5:bG (mW (w+1) (w+2) W4):=hO2.keep _ _ _ _ ed eh a3;clear hO2 hw2 y3 l3);have y4:jc W4 w 4 (js b7 d1 b8):=jr H1;have l4:=Mt y4;go_upto_region 7 with(go_at_call 329;refine Eh (C4 W4 a4 (i.trans H0.bel)) fun W5 _ hO2 hw2=>?_;have H2:=hI (H0.trans hO2);have a6:=hI hw2;have H3:=hI (hO2.keep _ _ _ _ ed eh H1);have H4:bG (mW (w+1) (w+2) W5):=hO2.keep _ _ _ _ ed eh a5;clear hO2 hw2 y4 l4);have y5:jc W5 w 5 (js ra pr c0):=jr H3;have l5:=Mt y5
 go_upto_region 8 with(go_at_call 331;refine Eh (C5 W5 a6 (i.trans H2.bel) H4) fun W6 _ hO2 hw2=>?_;have a7:=hI (H2.trans hO2);have a8:=hI hw2;have d3:=hI (hO2.keep _ _ _ _ ed eh H3);have d4:bG (mW (w+1) (w+2) W6):=hO2.keep _ _ _ _ ed eh H4;clear hO2 hw2 y5 l5);obtain⟨v7,a0,J⟩:=a8.o;obtain⟨d5,d6,rfl⟩:=RK J;have y7:=a0.cell;have a9:=hI J;clear J a0;refine ei ?_;exact⟨d5,d6,rfl,a9,i.trans a7.bel⟩
def sO {α:Type}(f:α->aq ar) (b:av): ∀(l:aq α),(∀x∈l,(f x).length<=b)->(l.flatMap f).length<=b * l.length
 | [],_=>ee
 | x::l,h=>by
  rw[Sb,Mx,Du,av.mul_succ];have:=sO f b l fun y H=>h y (Dy _ H);have:=h x Dq;omega
def PF {p:Pl}(h:bX p):(gJ p).length<=17000:=by
 have hok:=wN h;have H:=h.1.2.2.2.2.1;have d:=h.2.1.1.1.2;have e:=h.2.1.2.1.1.2;have g:=h.2.1.2.2.2;have j:=fun l=>sO iR 2 l fun _ _=>Mv _;have f:=fun l=>sO kC 2 l fun _ _=>Mv _;have i:=fun l=>sO dJ 1 l fun _ _=>Mv _;have h1:=sO eX 8 p.S fun s k=>by have:=PG (hok.shaped s k);have:=j s.ends;simp only[eX,Du];omega
 have h2:=sO dN 2 p.P fun _ _=>Mv _;have h3:=sO fM 3 p.G fun _ _=>Mv _
 have h4:=sO fT 500 p.R fun r n=>by
  have h1:=hok.few r n;have h2:=i r.A;have h3:=i r.O;have h4:=f r.fl;obtain⟨a,b,c⟩:=h1;simp only[fT,cE,Du,Mx,Tl];omega
 simp only[gJ,cE,Du,Mx];omega
def OX (p:Pl): ∀i (h:i<(dP p).length),(dP p)[i]<256:=fun i h=>by
 have H:=Nn h;generalize(dP p)[i]=x at H ⊢;rw[dP,bI]at H;obtain⟨n,-,a⟩:=Su.1 H;obtain⟨j,hj,e⟩:=No a;have:=wG n.toNat j hj;omega
def yab (g off j:av):(⟨g,off,bn⟩:bR).add j=⟨g,off+j,bn⟩:=by unfold bR.add;split<;>simp_all
theorem BW (x y:Hs) (a A:av->ax bR) (c C:av->av) (w:aj) (hx:dK w a c x) (l:dK w A C y) (i:x.Fit) (j:y.Fit):
  jW 18 #[cV a c x,cV A C y] w (bY w (ab (x=y))):=by
 have n:bG (∀W,jb w W->dK W a c x/\dK W A C y):=fun W H=>⟨hx.below H,l.below H⟩;have e:bG (x.Fit/\y.Fit):=⟨i,j⟩;clear hx l i j;unfold cV;go_in;go_upto_region 1 with fail;generalize g:cj _ _=W0;have K:=hI (eN g)
 have XV:=jB g
 have Y0:=jC g
 clear g;have f:=hI fun W H=>n W (jo K H);have q1:=fun(d:av) (os:aL Obj)=>DU (f _ (Nr W0 d os)).1.key;have r1:=fun(d:av) (os:aL Obj)=>DU (f _ (Nr W0 d os)).2.key;have t1:=UB e.1.kb e.2.kb;have hb:=fB.of (v:=db (ab (x.pl=y.pl))) fun W H=>IA x.pl y.pl _ _ _ _ _ _ _ _ W (f W H).1.pl (f W H).2.pl e.1.pl e.2.pl;unfold aT at hb;have ho:=fB.of (v:=db (ab (x.bk=y.bk))) fun W H=>IA x.bk y.bk _ _ _ _ _ _ _ _ W (f W H).1.bk (f W H).2.bk e.1.bk e.2.bk;unfold aT at ho;have c5:=fB.of (v:=db (ab (x.st=y.st))) fun W H=>yaj x.st y.st _ _ _ _ _ _ W (f W H).1.st (f W H).2.st e.1.st e.2.st;have q6:=fun(d:av) (os:aL Obj)=>DU (f _ (Nr W0 d os)).1.buf;have r6:=fun(d:av) (os:aL Obj)=>DU (f _ (Nr W0 d os)).2.buf;have t6:=UB e.1.bb e.2.bb;have k:=fB.of (v:=db (ab (x.nx=y.nx))) fun W H=>IA x.nx y.nx _ _ _ _ _ _ _ _ W (f W H).1.nx (f W H).2.nx e.1.nx e.2.nx;unfold aT at k
 have HE:bG (ab (x=y)=(ab (x.key=y.key)&&(ab (x.pl=y.pl)&&(ab (x.bk=y.bk)&&((x.high==y.high)&&(ab (x.st=y.st)&&(ab (x.buf=y.buf)&&(ab (x.nx=y.nx)&&(x.halted==y.halted))))))))):=hI (by
  rw[Dh]
  simp only[Dj,Dt,Da,z39])
 generalize ab (x.key=y.key)=b1 at *;generalize Go.strOfNums x.key=S0 at *;generalize Go.strOfNums y.key=T0 at *;generalize ab (x.pl=y.pl)=b2 at *;generalize ab (x.bk=y.bk)=b3 at *;obtain⟨b4,t4⟩: ∃b,(x.high==y.high)=b:=⟨_,rfl⟩;rw[t4]at HE;generalize ab (x.st=y.st)=b5 at *;generalize ab (x.buf=y.buf)=b6 at *;generalize Go.strOfNums x.buf=S5 at *;generalize Go.strOfNums y.buf=T5 at *;generalize ab (x.nx=y.nx)=b7 at *;obtain⟨b8,t8⟩: ∃b,(x.halted==y.halted)=b:=⟨_,rfl⟩;rw[t8]at HE;refine Qa fun C2 C3=>?_;have C5:=hI c5;have C7:=hI k;refine Ei fun _ _ _ _ _ _ _ _ _ _ _ _ _ _ _ _ _ _ _ _ _ _ _ _ _=>?_;obtain⟨a1,a2,a3,y3,y4,y5,y6,y7,y8,y9,Y,L,M,N,O,P,Q,R,T,U,V,Z,y0,y1,y2⟩:=sU Y0;clear hb ho c5 k XV Y0 n f e;generalize ab (x=y)=B at *;rcases z4a b1 b2 b3 b4 b5 b6 b7 b8 with rfl | ⟨rfl,rfl⟩ | ⟨rfl,rfl,rfl⟩ | ⟨rfl,rfl,rfl,rfl⟩ | ⟨rfl,rfl,rfl,rfl,rfl⟩ | ⟨rfl,rfl,rfl,rfl,rfl,rfl⟩ | ⟨rfl,rfl,rfl,rfl,rfl,rfl,rfl⟩ | ⟨rfl,rfl,rfl,rfl,rfl,rfl,rfl,rfl⟩ | ⟨rfl,rfl,rfl,rfl,rfl,rfl,rfl,rfl⟩
 all_goals
  refine rN ?_
  repeat (go_big_quiet_step (first | (with_reducible exact C2.o _ _) | (with_reducible exact C3.o _ _) | (with_reducible exact C5.o _ _) | (with_reducible exact C7.o _ _)))
  refine cl ?_;rintro _ ⟨⟨a0,osq⟩,rfl⟩;refine ei ?_;exact⟨ew,K.trans ((Nr W0 a0 osq).mono K.size)⟩
def wH (w:aj) (R:Prop) (e:Ending) (w':aj):Prop:= ∃b,e=cL (db b)/\(b=aW->R)/\jb w w'
def yak (t s l:bw) (x:St) (w:aj) (hx:fU w t s l x):jW 34 #[cZ #[t,s,l]] w (wH w x.fit):=by
 obtain⟨a1,c1,rfl,-⟩:=hx.tks;obtain⟨a2,c2,rfl,-⟩:=hx.sws;obtain⟨a3,c3,rfl,-⟩:=hx.lks;clear hx;have H:bG (x.tks.length<=200->x.sws.length<=200->x.lks.length<=200->x.fit):=fun h1 h2 h3=>⟨ed,ed,ed⟩;go_in;go_wp2_with fail
 all_goals
  go_ret;refine⟨_,rfl,fun h=> ?_,aR⟩;simp at h<;>exact H ed ed ed
def Pl.few (x:Pl):Prop:=x.S.length<=100/\x.P.length<=100/\x.G.length<=100/\x.R.length<=100
def Pl.Wide (x:Pl):Prop:=(∀i (h:i<x.S.length),x.S[i].ends.length<=8796093022208)/\ ∀i (h:i<x.R.length),x.R[i].fit
theorem ET (x:Pl) (s q g r:bw) (w:aj) (hx:bN w s q g r x) (b:x.Wide):
  jW 12 #[aT x s q g r] w (wH w x.few):=by
 obtain⟨a4,a5,rfl,m1⟩:=hx.S;obtain⟨b7,b8,rfl,-⟩:=hx.P;obtain⟨b9,c2,rfl,-⟩:=hx.G;obtain⟨a7,a8,rfl,m7⟩:=hx.R;have z:bG (∀W,jb w W->aB W 3 cU a4 a5 x.S):=fun W c=>m1.below gN c;have A:bG (∀W,jb w W->aB W 7 fH a7 a8 x.R):=fun W c=>m7.below lS c;have C:bG (∀i (h:i<x.S.length),x.S[i].ends.length<=20000000000000):=fun i h=>by have:=b.1 i h;omega
 have D:bG (∀i (h:i<x.R.length),x.R[i].A.length<=20000000000000/\x.R[i].O.length<=20000000000000/\x.R[i].fl.length<=20000000000000):=fun i h=>by have:=b.2 i h;unfold Rt.fit at this;omega
 clear hx b m1 m7;unfold aT;go_in;go_upto_region 1 with fail;generalize d:cj _ _=W0;have K:=hI (jG d)
 have o:=hI (jA d)
 clear d;have a6:bG (jb W0 W0):=Nb _ _;have B:=jm a6 o;obtain⟨P,E,F,G,I,J⟩:=dB B;have a9:=aD B;clear B;by_cases e:x.S.length<=100
 ·have T:ab ((100:ar)<(x.S:ar))=aW:=by simp;omega
  have HL:=hI e;by_cases f:x.P.length<=100
  ·have L:ab ((100:ar)<(x.P:ar))=aW:=(by simp;omega);have M:=hI f;by_cases j:x.G.length<=100
   ·have O:ab ((100:ar)<(x.G:ar))=aW:=(by simp;omega);have Q:=hI j;by_cases p:x.R.length<=100
    ·have R:ab ((100:ar)<(x.R:ar))=aW:=em;have t:=hI p;clear e f j;go_wp2_with fail;go_loopg [3,4] x.S.length (fun g n i wr=> ∃(k:av) (v:ar),k<=x.S.length/\g=x.S.length-k/\n= jV v/\i= jV k/\0<=v/\v<=1000 * k/\wr=W0)
     ·exact⟨0,0,ed,ed,rfl,rfl,ed,ed,rfl⟩
     obtain⟨k,v,a2,rfl,rfl,rfl,u,y,a3⟩:=hrel;obtain rfl:=a3.symm;clear a3;by_cases G9:k<x.S.length
     ·have hd:=bL G9;have U:=HL.o;obtain⟨g,off,c3,c4,rfl,y0,y1,x0,-⟩:=(z W0 K).sec G9;have b0:=C k G9;refine Qw fun b1=>?_;refine Qb fun c0 c1=>?_;clear y0 y1;generalize x.S[k].ends.length=n1 at *;by_cases V:(n1:ar)<=1000
      ·go_wp2_with fail;go_roundg (x.S.length-(k+1))
       ·go_light;exact⟨k+1,v+n1,ed,ed,ej,ej,ed,ed,rfl⟩
       go_light;omega
      go_wp2_with fail;go_roundg (x.S.length-(k+1))
      ·go_light;exact⟨k+1,v+1000,ed,ed,ej,ej,ed,ed,rfl⟩
      go_light;omega

     ·obtain rfl:k=x.S.length:=ed;have hd:=bZ G9;have b2:v<=100000:=Qm;have H:bG (jb W0 W0):=Nb _ _;have b3:=t.o;clear a2 y;go_wp2_with fail;go_loopg [3,5] x.R.length (fun g n i wr=> ∃(k:av) (v:ar),k<=x.R.length/\g=x.R.length-k/\n= jV v/\i= jV k/\0<=v/\v<=100000+3000 * k/\jb W0 wr)
      ·exact⟨0,v,ed,ed,rfl,rfl,u,ed,H⟩
      obtain⟨k,v,a2,rfl,rfl,rfl,u,y,c⟩:=hrel;have H:=hI c;have X:=jh K c;clear c;have B:=jm H o;obtain⟨P,E,F,G,I,J⟩:=dB B;have a9:=aD B;clear B;by_cases G9:k<x.R.length
      ·have hd:=bL G9;obtain⟨g,off,up,c5,c6,rfl,Y,Z,a0,y3,y4,y5,y6,a⟩:=(A wr X).rt G9;obtain⟨p1,p2,rfl,-⟩:=a.A.at_;obtain⟨o1,o2,rfl,-⟩:=a.O.at_;obtain⟨f1,f2,rfl,-⟩:=a.fl;have b1:=Mt y3;have b4:=D k G9;refine Qb fun _ _=>?_;clear a Y Z a0 y6;generalize x.R[k].A.length=n1 at *;generalize x.R[k].O.length=n2 at *;generalize x.R[k].fl.length=N at *;go_upto_region 11 with fail;by_cases V:(n1:ar)<=1000
       ·by_cases a1:(n2:ar)<=1000
        ·by_cases l:(N:ar)<=1000
         ·go_quiet (fail);go_wp2_with fail;go_roundg (x.R.length-(k+1))
          ·go_light;exact⟨k+1,v+(n1:ar)+(n2:ar)+(N:ar),ed,ed,ej,ej,ed,ed,dM H _⟩
          go_light;omega
         go_quiet (fail);go_wp2_with fail;go_roundg (x.R.length-(k+1))
         ·go_light;exact⟨k+1,v+(n1:ar)+(n2:ar)+1000,ed,ed,ej,ej,ed,ed,dM H _⟩
         go_light;omega
        by_cases l:(N:ar)<=1000
        ·go_quiet (fail);go_wp2_with fail;go_roundg (x.R.length-(k+1))
         ·go_light;exact⟨k+1,v+(n1:ar)+1000+(N:ar),ed,ed,ej,ej,ed,ed,dM H _⟩
         go_light;omega
        go_quiet (fail);go_wp2_with fail;go_roundg (x.R.length-(k+1))
        ·go_light;exact⟨k+1,v+(n1:ar)+1000+1000,ed,ed,ej,ej,ed,ed,dM H _⟩
        go_light;omega
       by_cases a1:(n2:ar)<=1000
       ·by_cases l:(N:ar)<=1000
        ·go_quiet (fail);go_wp2_with fail;go_roundg (x.R.length-(k+1))
         ·go_light;exact⟨k+1,v+1000+(n2:ar)+(N:ar),ed,ed,ej,ej,ed,ed,dM H _⟩
         go_light;omega
        go_quiet (fail);go_wp2_with fail;go_roundg (x.R.length-(k+1))
        ·go_light;exact⟨k+1,v+1000+(n2:ar)+1000,ed,ed,ej,ej,ed,ed,dM H _⟩
        go_light;omega
       by_cases l:(N:ar)<=1000
       ·go_quiet (fail);go_wp2_with fail;go_roundg (x.R.length-(k+1))
        ·go_light;exact⟨k+1,v+1000+1000+(N:ar),ed,ed,ej,ej,ed,ed,dM H _⟩
        go_light;omega
       go_quiet (fail);go_wp2_with fail;go_roundg (x.R.length-(k+1))
       ·go_light;exact⟨k+1,v+1000+1000+1000,ed,ed,ej,ej,ed,ed,dM H _⟩
       go_light;omega

      ·obtain rfl:k=x.R.length:=ed;have hd:=bZ G9;have b5:bG x.few:=⟨HL,M,Q,t⟩;by_cases c7:v<=1000
       ·have b6:ab ((1000:ar)<v)=aW:=em;refine ei ?_;exact⟨aW,rfl,fun _=>b5,X⟩
       have b6:ab ((1000:ar)<v)=bl:=em;go_wp2_with fail;go_ret;exact⟨bl,rfl,Vy,X⟩
    ·have R:ab ((100:ar)<(x.R:ar))=bl:=em;clear p;refine ei ?_;exact⟨bl,rfl,Vy,K⟩
   ·have O:ab ((100:ar)<(x.G:ar))=bl:=em;clear j;refine ei ?_;exact⟨bl,rfl,Vy,K⟩
  ·have L:ab ((100:ar)<(x.P:ar))=bl:=em;clear f;refine ei ?_;exact⟨bl,rfl,Vy,K⟩
 ·have T:ab ((100:ar)<(x.S:ar))=bl:=by simp;omega
  clear e;refine ei ?_;exact⟨bl,rfl,Vy,K⟩
structure Hs.Wide (x:Hs):Prop where
 pl:x.pl.Wide
 bk:x.bk.Wide
 nx:x.nx.Wide
 kb:aO x.key
 bb:aO x.buf
def Pl.Wide.fit {x:Pl}(h:x.Wide) (k:x.few):x.Fit:=⟨by have:=k.1;omega,h.1,by have:=k.2.1;omega,by have:=k.2.2.1;omega,by have:=k.2.2.2;omega,h.2⟩
theorem yal (x:Hs) (a:av->ax bR) (c:av->av) (w:aj) (hx:dK w a c x) (H:x.Wide):
  jW 11 #[cV a c x] w (wH w x.Fit):=by
 have Z:bG (∀W,jb w W->jW 12 #[cZ #[x.pl.ver,x.pl.par,js (a 1) x.pl.S (c 1),js (a 2) x.pl.P (c 2),js (a 3) x.pl.G (c 3),js (a 4) x.pl.R (c 4)]] W (wH W x.pl.few)):=fun W hb=>ET x.pl _ _ _ _ W (hx.below hb).pl H.pl;have R:bG (∀W,jb w W->jW 12 #[cZ #[x.bk.ver,x.bk.par,js (a 5) x.bk.S (c 5),js (a 6) x.bk.P (c 6),js (a 7) x.bk.G (c 7),js (a 8) x.bk.R (c 8)]] W (wH W x.bk.few)):=fun W hb=>ET x.bk _ _ _ _ W (hx.below hb).bk H.bk;have T:bG (∀W,jb w W->jW 12 #[cZ #[x.nx.ver,x.nx.par,js (a 13) x.nx.S (c 13),js (a 14) x.nx.P (c 14),js (a 15) x.nx.G (c 15),js (a 16) x.nx.R (c 16)]] W (wH W x.nx.few)):=fun W hb=>ET x.nx _ _ _ _ W (hx.below hb).nx H.nx;have U:=hI fun W hb=>yak _ _ _ x.st W (hx.below hb).st;have t:=hI H;clear hx H;unfold cV;go_in;go_upto_region 1 with fail;generalize z:cj _ _=W0;have y:=hI (jG z)
 have A:=hI (jA z)
 clear z;have N:bG (∀W,jb W0 W->jk W w (aE a c x) 35):=fun W hb=>(jm hb A);obtain⟨B,C,D,E,F,G,I,J,L,M,X,b,d,f,g,i,j,k,l,n,o,p,q,r,s⟩:=nN A;have lb:=aD A;by_cases a0:x.key.length<=1000
 ·have t0:ab ((1000:ar)<(x.key:ar))=aW:=by simp;omega
  by_cases V:x.buf.length<=5000
  ·have t1:ab ((5000:ar)<(x.buf:ar))=aW:=(by simp;omega);go_wp2_with fail;refine(Z W0 y).mono ?_;rintro e W1 ⟨r1,rfl,ho,hb⟩;have K:=hI hb;have F1:=hI ho;clear hb ho B C D E F G I J L M X b d f g i j k l n o p q r s lb;obtain⟨B,C,D,E,F,G,I,J,L,M,X,b,d,f,g,i,j,k,l,n,o,p,q,r,s⟩:=nN (N _ K);have lb:=aD (N _ K);cases r1
   case true=>
    go_wp2_with fail;go_ret;exact⟨bl,rfl,(fun h=>by cases h),jo y K⟩
   go_wp2_with fail;refine(R W1 (jo y K)).mono ?_;rintro e W2 ⟨r2,rfl,O,hb⟩;have u:=jh K hb;have F2:=hI O;clear hb O B C D E F G I J L M X b d f g i j k l n o p q r s lb;obtain⟨B,C,D,E,F,G,I,J,L,M,X,b,d,f,g,i,j,k,l,n,o,p,q,r,s⟩:=nN (N _ u);have lb:=aD (N _ u);cases r2
   case true=>
    go_wp2_with fail;go_ret;exact⟨bl,rfl,(fun h=>by cases h),jo y u⟩
   go_wp2_with fail;refine(T W2 (jo y u)).mono ?_;rintro e W3 ⟨r3,rfl,P,hb⟩;have v:=jh u hb;have F3:=hI P;clear hb P B C D E F G I J L M X b d f g i j k l n o p q r s lb;obtain⟨B,C,D,E,F,G,I,J,L,M,X,b,d,f,g,i,j,k,l,n,o,p,q,r,s⟩:=nN (N _ v);have lb:=aD (N _ v);cases r3
   case true=>
    go_wp2_with fail;go_ret;exact⟨bl,rfl,(fun h=>by cases h),jo y v⟩
   go_wp2_with fail;refine(U W3 (jo y v)).mono ?_;rintro e W4 ⟨r4,rfl,Q,hb⟩;have Y:=jh v hb;have F4:=hI Q;clear hb Q B C D E F G I J L M X b d f g i j k l n o p q r s lb;go_wp2_with fail;go_ret;exact⟨r4,rfl,(fun h=>⟨t.pl.fit (F1 Py),t.bk.fit (F2 Py),t.nx.fit (F3 Py),F4 h,a0,V,t.kb,t.bb⟩),jo y Y⟩
  have t1:ab ((5000:ar)<(x.buf:ar))=bl:=(by simp;omega);go_wp2_with fail;go_ret;exact⟨bl,rfl,(fun h=>by cases h),y⟩
 have t0:ab ((1000:ar)<(x.key:ar))=bl:=by simp;omega
 go_wp2_with fail;go_ret;exact⟨bl,rfl,(fun h=>by cases h),y⟩
