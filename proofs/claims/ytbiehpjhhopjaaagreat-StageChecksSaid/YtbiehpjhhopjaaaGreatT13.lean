/- Walks and plain laws for the statement. -/
import Derived.Test.YtbiehpjhhopjaaaGreatT12
import Derived.Test.YtbiehpjhhopjaaaGreatT11
import Derived.Laws.CopyOwn
import Derived.Test.YtbiehpjhhopjaaaGreatT10
set_option linter.all false
set_option maxRecDepth 100000
set_option maxHeartbeats 16000000
namespace Go.Proofs.YtbiehpjhhopjaaaGreat
open Go.RowKit Go.Sort Tryz
variable {U V W W' w:World}{N c k sz:Nat}{F L key l:List Int}{a:Act}{Q:Exit->Act->World->Prop}{ops:Array Oper}{xs:List Value}{Z cur:Array Value}{e:TypeId}{K:Act->World->Prop}
def oJ (N T:Nat) (bs:List Nat) (ns:List Int) (w:World) (e:Ending) (w':World):Prop:=(∃v,e= .returned v)/\Tf N T w w'/\eC N T (bs++bI ns) w'
def rE {T:Nat}{g:Nat}(H:g≠T) (h:jk W g (l.map (Value.int .i64)).toArray 3): ∀W',Tf N T W W'->IL W' (some ⟨g,0,none⟩) l l:=fun W' a=>
 ⟨rfl,fun i b=>⟨g,0,rfl,by
  rw[Pa,Mu _ _ _ _ _ _ (a.keep g _ _ _ H eh h)]
  simp[b]⟩⟩
def tP (f:FuncId){α:Type}(A:α->Value) (F:α->List Int):Prop:= ∀(N T:Nat) (x:α) (bs:List Nat) (w:World),N<=T->eC N T bs w->(∀n∈F x,eO n)->bs.length<=99000->jW f #[A x,jp T 0] w (oJ N T bs (F x) w)
def EL {f:FuncId}{α:Type}{A:α->Value}{F:α->List Int}(m:Nat) (hF: ∀x,(F x).length=m) (hm:m<=1000) (s:(∀x,(F x).length=m)->m<=1000->tP f A F:=by
 intro hF hm N T x bs w hN hT hn hb;have C:=hI fun W a c (h1:eC N T bs W) h2=>rF N T _ bs a c W hN h1 h2 hn (by rw[hF];omega);have HT:=hI hT;have HL:=hI hT.lt;have HN:=hI (Nat.le_trans hN (Nat.le_of_lt hT.lt));clear hn hT hN hF hm
 (first | go_in | go_in | go_in | go_in)
 go_wp2_with (go_at_call 324;generalize hW:World.alloc _ _=W1;have b1:jb w W1:=(by rw[<-hW];first | exact aR | exact aR.alloc (by simp) _);refine(C W1 _ _ (HT.below b1) (rE (by have:=HL.o;omega) (by rw[<-hW];first | exact heap_alloc_new _ _ | exact heap_alloc2_new _ _ _))).mono ?_;clear hW;rintro e W2 ⟨⟨v,rfl⟩,hf2,ht2⟩;have HF:=hI ((Tf.of_below HN b1).trans hf2);have HT2:=hI ht2;clear hf2 ht2)
 go_end0
 exact⟨⟨_,rfl⟩,HF,HT2⟩):tP f A F:=s hF hm
def z7z:tP 323 (.int .i64) dJ:=EL 1 (fun _=>rfl) eh
def z70:tP 328 (fun x=> .agg #[x.id,x.sec]) dN:=EL 2 (fun _=>rfl) eh
def z71:tP 330 (fun x=> .agg #[x.id,x.sec,x.en]) fM:=EL 3 (fun _=>rfl) eh
def z72:tP 335 (fun x=> .agg #[x.pt,x.lie]) kC:=EL 2 (fun _=>rfl) eh
def EI {α:Type}(f:α->List Int) (l:List α){B:Nat}(b:List Nat) (a:l.length<=1000) (hn: ∀x∈l,∀n∈f x,eO n) (c:b.length+5 * (cE f l).length<=B):
  ∃F:Nat->List Nat,(∀k,(F k).length<=B)/\(∀k (hk:k<l.length),F k++bI (f l[k])=F (k+1))/\b++bI (dJ l)=F 0/\F l=b++bI (cE f l):=by
 refine⟨fun k=>b++(bI (dJ l)++bI ((l.take k).flatMap f)),fun k=> ?_,fun k hk=> ?_,by simp[bI],by simp only[];rw[Ph];simp[bI,cE,dJ]⟩
 ·have h1:=qM ((l.take k).flatMap f) fun n h=>by exact Me
  have h2:((l.take k).flatMap f).length<=(l.flatMap f).length:=by
   conv=>rhs;rw[<-Hi k l,Dg,Mx]
   omega
  have h3:=qM (dJ l) (by intro n h;simp[dJ]at h;subst h;exact⟨ed,ed⟩);simp only[dJ,Du,Tl,Mx,cE]at h3 c ⊢;omega
 simp only[];exact Rs
def PH (N T:Nat) (l:List Int) (a:Option Addr) (c:Nat) (B:List Nat) (w:World) (hN:N<=T) (hT:eC N T B w) (w0:World) (d:N=w0.heap.size) (f:Below N w0 w) (hl:IL w0 a l l) (q: ∀x∈l,∀n∈dJ x,eO n) (j:l.length<=1000) (A:B.length+5 * (cE dJ l).length<=99000):
  jW 333 #[jp T 0,js a l c,.func (.func 323) #[] #[jp T 0]] w (oJ N T B (cE dJ l) w):=by
 have C:=hI fun W a (h1:eC N T B W) h2=>rF N T (dJ l) B a 1 W hN h1 h2 (by intro n h;simp[dJ]at h;subst h;exact⟨ed,ed⟩) (by simp[dJ];omega);obtain⟨F,hb,ho,h0,D⟩:=EI dJ l B j q A;refine Qa fun G I=>?_;have H0:=hI h0;have HE:=hI D;have r:=hI fun k (E:k<l.length) W (h1:eC N T (F k) W)=>z7z N T l[k] (F k) W hN h1 (q _ (Nn E)) (G k);have J:=hI hT;have HL:=hI hT.lt;have s:=hI hl;have HB0:=hI f;have HN0:=hI d;have K:=hI Eu;clear q hT hN hl hb ho h0 D A f d;go_in;go_wp2_with (go_at_call 324;generalize hW:World.alloc _ _=W1;have t:=jG hW;have il:=rE (N:=N) (T:=T) (W:=W1) (g:=w.heap.size) (l:=dJ l) Qm Un;clear hW;refine(C W1 _ (J.below t) il).mono ?_;rintro e W2 ⟨⟨v,rfl⟩,hO2,hw2⟩;have L:=hI ((Tf.of_below K t).trans hO2);rw[H0.o]at hw2;have H:=hI hw2;clear hO2 hw2 il t);go_loopg [7,15] l.length (fun g v7 i wr=> ∃k:Nat,k<=l.length/\g=l.length-k/\i= jV k/\Tf N T w wr/\eC N T (F k) wr)
 ·exact⟨0,ed,ed,rfl,L,H⟩
 obtain⟨k,E,rfl,rfl,hfr,o⟩:=hrel;have HFR:=hI hfr;have HTX:=hI o;by_cases G9:k<l.length
 ·have hd:=bL G9;refine Qb fun _ _=>?_;have M:=hI (r k G9);have u:=hI (I k G9);obtain⟨b,off,rfl,hc⟩:=s.cell k G9;have p:jb w0 wr:=Yp;have x0:=(p.cell Uj).trans hc;refine Qw fun _=>?_;clear hc hfr o p;generalize l[k]=y at *;go_wp2_with fail;have HO13:=HFR;refine(M wr HTX).mono ?_;rintro e W2 ⟨⟨v,rfl⟩,hO2,hw2⟩;rw[u.o]at hw2;refine Uc fun z H=>?_;clear hO2 hw2;go_wp2_with fail;go_roundg (l.length-(k+1))
  ·go_light;exact⟨k+1,ed,ed,ej,z,H⟩
  go_light;omega
 obtain rfl:k=l.length:=ed;have hd:=bZ G9;go_wp2_with fail
 go_end0
 exact Xm
def AG (f g:FuncId) (sz:Nat){α:Type}(R:World->List Value->α->Prop) (F:α->List Int):Prop:= ∀(N T:Nat) (l:List α) (a:Option Addr) (c:Nat) (bs:List Nat) (w:World),N<=T->eC N T bs w-> ∀w0:World,N=w0.heap.size->Below N w0 w->aB w0 sz R a c l->(∀x∈l,∀n∈F x,eO n)->l.length<=1000->bs.length+5 * (cE F l).length<=99000->
  jW f #[jp T 0,js a l c,.func (.func g) #[] #[jp T 0]] w (oJ N T bs (cE F l) w)
theorem MJ {f g:FuncId}{α:Type}{R:World->List Value->α->Prop}{F:α->List Int}{A:α->Value}(h:tP g A F) (s:tP g A F->AG f g sz R F:=by
 intro CL N T l a c bs w hN hT w0 hN0 hb0 hl hn hlen hm;have C:=hI fun W a (h1:eC N T bs W) h2=>rF N T (dJ l) bs a 1 W hN h1 h2 (by intro n h;simp[dJ]at h;subst h;exact⟨by omega,by omega⟩) (by simp[dJ];omega);obtain⟨F,hB,hS,h0,hE⟩:=EI _ l bs hlen hn hm;have HB:=hI hB;have HS:=hI hS;have H0:=hI h0;have HE:=hI hE;have HCL:=hI fun k (hk:k<l.length) W (h1:eC N T (F k) W)=>CL N T l[k] (F k) W hN h1 (hn _ (List.getElem_mem hk)) (HB k);have HT:=hI hT;have HL:=hI hT.lt;have HLL:=hI hl;have HB0:=hI hb0;have HN0:=hI hN0;have HN:=hI (Nat.le_trans hN (Nat.le_of_lt hT.lt));clear CL hn hT hN hl hB hS h0 hE hm hb0 hN0
 (first | go_in | go_in | go_in)
 go_wp2_with (go_at_call 324;generalize hW:World.alloc _ _=W1;have b1:jb w W1:=(by rw[<-hW];exact aR);have il:=rE (N:=N) (T:=T) (W:=W1) (g:=w.heap.size) (l:=dJ l) (by have:=HL.o;omega) (by rw[<-hW];exact heap_alloc_new _ _);clear hW;refine(C W1 _ (HT.below b1) il).mono ?_;rintro e W2 ⟨⟨v,rfl⟩,hf2,ht2⟩;have HF:=hI ((Tf.of_below HN b1).trans hf2);rw[H0.o]at ht2;have HT2:=hI ht2;clear hf2 ht2 il b1);go_loopg [7,15] l.length (fun g v7 i wr=> ∃k:Nat,k<=l.length/\g=l.length-k/\i= jV k/\Tf N T w wr/\eC N T (F k) wr)
 ·exact⟨0,by omega,by omega,rfl,HF,HT2⟩
 obtain⟨k,hk,rfl,rfl,hfr,htx⟩:=hrel;have HFR:=hI hfr;have HTX:=hI htx;by_cases hlt:k<l.length
 ·have hd:decide ((k:Int)<(l:Int))=true:=(by simp;omega);have c0:(0:Int)<=(k:Int):=(by omega);have c1:(k:Int)<(l:Int):=(by omega);have HC:=hI (HCL k hlt);have HSS:=hI (HS k hlt);obtain⟨b,off,vs,rfl,hvl,hvc,hvr⟩:=HLL.at_ k hlt;have hbw:jb w0 wr:=(by rw[<-HN0.o];exact HB0.trans hfr.bel);cases hvr;have X:=fun i hi=>(hbw.cell (block_lt_of_cell (hvc i hi))).trans (hvc i hi);have x0:=X 0 (by simp);have x1:=X 1 (by simp)
  try have x2:=X 2 (Nat.le_refl 3)
  clear X;simp only[Nat.add_zero,Nat.mul_one,List.getElem_cons_zero,List.getElem_cons_succ]at *;have lx:=block_lt_of_cell x0;clear hvc hvl hfr htx hbw;generalize l[k]=y at *;go_wp2_with fail;generalize hW:World.alloc _ _=W1;have b1:jb wr W1:=(by rw[<-hW];exact aR);have HF1:=hI (HFR.trans (Tf.of_below (Nat.le_trans HN HFR.bel.size) b1));clear hW;refine(HC W1 (HTX.below b1)).mono ?_;rintro e W2 ⟨⟨v,rfl⟩,hf2,ht2⟩;rw[HSS.o]at ht2;have HF2:=hI (HF1.trans hf2);have HT2:=hI ht2;clear hf2 ht2;go_wp2_with fail;go_roundg (l.length-(k+1))
  ·go_light;exact⟨k+1,by omega,by omega,by go_num,HF2,HT2⟩
  go_light;omega
 obtain rfl:k=l.length:=(by omega);have hd:decide ((l:Int)<(l:Int))=false:=(by simp);go_wp2_with fail
 go_end0
 exact⟨⟨_,rfl⟩,HFR,by rw[<-HE.o];exact HTX⟩):AG f g sz R F:=s h
def z73:AG 327 328 2 iA dN:=MJ z70
def z74:AG 329 330 3 gZ fM:=MJ z71
def z75:AG 334 335 2 lZ kC:=MJ z72
theorem z76 (N T:Nat) (x:aF) (a0:Option Addr) (a1:Nat) (B:List Nat) (w:World) (hN:N<=T) (hT:eC N T B w) (w0:World) (r:N=w0.heap.size) (s:Below N w0 w) (hj:aB w0 2 fI a0 a1 x.ends) (D: ∀n∈eX x,eO n) (a2:x.ends.length<=900) (a4:B.length<=90000):
  jW 326 #[.agg #[x.id,x.pt,js a0 x.ends a1],jp T 0] w (oJ N T B (eX x) w):=by
 have o: ∀n∈dN ⟨x.id,x.pt⟩,eO n:=fun n h=>D n (by simp only[dN,eX,Dv,Pf,Ta]at h ⊢;rcases h with rfl | rfl<;>simp);have hn:=fun j hj n h=>D n (by simp only[eX,Dv,Su];exact .inr (.inr ⟨j,hj,h⟩));have C:=hI fun W a (h1:eC N T B W) h2=>rF N T (dN ⟨x.id,x.pt⟩) B a 2 W hN h1 h2 o (by simp[dN];omega);have t:=fun k=>qM ((x.ends.take k).flatMap iR) fun n h=>by exact Me
 have u: ∀k,((x.ends.take k).flatMap iR).length<=1800:=fun k=>by
  have: ∀l:List Jn,(l.flatMap iR).length=2 * l.length:=fun l=>by induction l with | nil=>rfl | cons j l a6=>simp[iR]at a6 ⊢;omega
  rw[this,Dn];omega
 have G:Hid (∀k,(B++(bI (dN ⟨x.id,x.pt⟩)++bI ((x.ends.take k).flatMap iR))).length<=99010):=fun k=>by
  have h1:=t k;have h2:=u k;have h3:=qM (dN ⟨x.id,x.pt⟩) o;simp only[dN,Du,Tl,Mx]at h3 ⊢;omega
 have I:Hid (∀k (hk:k<x.ends.length),B++(bI (dN ⟨x.id,x.pt⟩)++bI ((x.ends.take k).flatMap iR))++bI (iR x.ends[k])=B++(bI (dN ⟨x.id,x.pt⟩)++bI ((x.ends.take (k+1)).flatMap iR))):=fun k hk=>by
  exact Rs
 have J:Hid (B++bI (dN ⟨x.id,x.pt⟩)=B++(bI (dN ⟨x.id,x.pt⟩)++bI ((x.ends.take 0).flatMap iR))):=by show _=_;simp[bI]
 have HE:Hid (B++(bI (dN ⟨x.id,x.pt⟩)++bI ((x.ends.take x.ends).flatMap iR))=B++bI (eX x)):=by show _=_;rw[Ph];simp[bI,eX,dN]
 obtain⟨F,hF⟩: ∃F:Nat->List Nat,F=fun k=>B++(bI (dN ⟨x.id,x.pt⟩)++bI ((x.ends.take k).flatMap iR)):=⟨_,rfl⟩;replace G:Hid (∀k,(F k).length<=99010):=by rw[hF];exact G
 replace I:Hid (∀k (hk:k<x.ends.length),F k++bI (iR x.ends[k])=F (k+1)):=by rw[hF];exact I
 replace J:Hid (B++bI (dN ⟨x.id,x.pt⟩)=F 0):=by rw[hF];exact J
 replace HE:Hid (F x.ends=B++bI (eX x)):=by rw[hF];exact HE
 have K:=hI fun k (hk:k<x.ends.length) W a (h1:eC N T (F k) W) h2=>rF N T (iR (x.ends[k]'hk)) (F k) a 2 W hN h1 h2 (hn _ (Nn hk)) (by have:=G k;simp[iR];omega);have a7:=hI hT;have HL:=hI hT.lt;have L:=hI hj;have M:=hI s;have O:=hI r;have a3:=hI Eu;clear D hT hN hj t u hF a4 s r o hn;obtain⟨a8,a9,X⟩:=x;dsimp only at *;go_in;go_upto_region 2 with(go_at_call 324;refine Qq fun z hW=>?_;have p:=eN hW;have il:=rE (N:=N) (T:=T) (W:=z) (g:=w.heap.size+1) (l:=dN ⟨a8,a9⟩) Qm Zq;have A:=jB hW;clear hW;refine(C z _ (a7.below p) il).mono ?_;rintro e W2 ⟨⟨v,rfl⟩,c,H⟩;have f:=c.keep _ _ _ _ Qm eh A;have b0:=hI ((Tf.of_below a3 p).trans c);rw[J.o]at H;have P:=hI H;clear c H il p);have x0:=ji 2 f;refine Qw fun b1=>?_;clear f A;go_wp2_with fail;go_loopg [4,14] X.length (fun g v4 i wr=> ∃k:Nat,k<=X.length/\g=X.length-k/\i= jV k/\Tf N T w wr/\eC N T (F k) wr)
 ·exact⟨0,ed,ed,rfl,b0,P⟩
 obtain⟨k,hk,rfl,rfl,hb,ho⟩:=hrel;refine Qa fun HFR HTX=>?_;by_cases G9:k<X.length
 ·have hd:=bL G9;refine Qb fun _ _=>?_;have b2:=hI (K k G9);have Q:=hI (I k G9);obtain⟨b,off,b6,rfl,R,d,U⟩:=L.at_ k G9;have q:jb w0 wr:=(by rw[<-O.o];exact M.trans hb.bel);cases U;have x1:=(q.cell (Mt (d 0 ee))).trans (d 0 ee);have b3:=(q.cell (Mt (d 1 ee))).trans (d 1 ee);simp only[Pk,Nu,Dl]at x1 b3;have l0:=Mt x1;have V:=hI ho.lt;clear d R hb ho q x0 b1;generalize X[k]=y at *;obtain⟨b4,b5⟩:=y;dsimp only at *;go_wp2_with (go_at_call 324;generalize hW:World.alloc _ _=z;have p:=eN hW;have il:=rE (N:=N) (T:=T) (W:=z) (g:=wr.heap.size+1) (l:=iR ⟨b4,b5⟩) (by have:=V.o;omega) Zq;clear hW;refine(b2 z _ (HTX.below p) il).mono ?_;rintro e W3 ⟨⟨v3,rfl⟩,c,H⟩;have Y:=hI ((HFR.trans (Tf.of_below (Nj a3 HFR.bel.size) p)).trans c);rw[Q.o]at H;have Z:=hI H;clear c H il p);go_roundg (X.length-(k+1))
  ·go_light;exact⟨k+1,ed,ed,ej,Y,Z⟩
  go_light;omega
 obtain rfl:k=X.length:=ed;have hd:=bZ G9;go_wp2_with fail
 go_end0
 exact Xm
def z77 (N T:Nat) (l:List aF) (a:Option Addr) (c:Nat) (B:List Nat) (w:World) (hN:N<=T) (hT:eC N T B w) (w0:World) (j:N=w0.heap.size) (r:Below N w0 w) (hl:aB w0 3 cU a c l) (z: ∀x∈l,∀n∈eX x,eO n) (s:l.length<=1000) (f: ∀x∈l,x.ends.length<=900) (P:B.length+5 * (cE eX l).length<=90000):
  jW 325 #[jp T 0,js a l c,.func (.func 326) #[] #[jp T 0]] w (oJ N T B (cE eX l) w):=by
 have C:=hI fun W a (h1:eC N T B W) h2=>rF N T (dJ l) B a 1 W hN h1 h2 (by intro n h;simp[dJ]at h;subst h;exact⟨ed,ed⟩) (by simp[dJ];omega);obtain⟨F,hb,ho,h0,Q⟩:=EI eX l B s z P;refine Qa fun U V=>?_;have H0:=hI h0;have HE:=hI Q;have A:=hI fun k (D:k<l.length) W (h1:eC N T (F k) W) E G (p:aB w0 2 fI E G l[k].ends) (I:Below N w0 W)=>z76 N T l[k] E G (F k) W hN h1 w0 j I p (z _ (Nn D)) (f _ (Nn D)) (U k);have X:=hI hT;have HL:=hI hT.lt;have J:=hI hl;have HB0:=hI r;have HN0:=hI j;have R:=hI Eu;clear z hT hN hl hb ho h0 Q P r j f;go_in;go_wp2_with (go_at_call 324;generalize hW:World.alloc _ _=u;have q:=jG hW;have il:=rE (N:=N) (T:=T) (W:=u) (g:=w.heap.size) (l:=dJ l) Qm Un;clear hW;refine(C u _ (X.below q) il).mono ?_;rintro e W2 ⟨⟨v,rfl⟩,hO2,hw2⟩;have Y:=hI ((Tf.of_below R q).trans hO2);rw[H0.o]at hw2;have o:=hI hw2;clear hO2 hw2 il q);go_loopg [7,15] l.length (fun g v7 i wr=> ∃k:Nat,k<=l.length/\g=l.length-k/\i= jV k/\Tf N T w wr/\eC N T (F k) wr)
 ·exact⟨0,ed,ed,rfl,Y,o⟩
 obtain⟨k,D,rfl,rfl,hfr,t⟩:=hrel;have HFR:=hI hfr;have HTX:=hI t;by_cases G9:k<l.length
 ·have hd:=bL G9;refine Qb fun _ _=>?_;have Z:=hI (A k G9);have K:=hI (V k G9);obtain⟨b,off,a1,rfl,L,H,M⟩:=J.at_ k G9;have d:jb w0 wr:=Yp;obtain⟨e0,rfl,p⟩:=M;obtain⟨E,G,rfl,p⟩:=p;have a0:=hI p;clear p;have x0:=(d.cell (Mt (H 0 ee))).trans (H 0 ee);have x1:=(d.cell (Mt (H 1 ee))).trans (H 1 ee);have x2:=(d.cell (Mt (H 2 ee))).trans (H 2 ee);simp only[Pk,Tb,Nu,Dl]at x0 x1 x2;refine Qw fun _=>?_;clear H L hfr t d;generalize l[k]=y at *;go_wp2_with fail;refine Qq fun u hW=>?_;have q:=jG hW;have HO13:=hI (HFR.trans (Tf.of_below (Nj R HFR.bel.size) q));clear hW;refine(Z u (HTX.below q) _ _ a0 (HB0.trans HO13.bel)).mono ?_;rintro e W2 ⟨⟨v,rfl⟩,hO2,hw2⟩;rw[K.o]at hw2;refine Uc fun O o=>?_;clear hO2 hw2;go_wp2_with fail;go_roundg (l.length-(k+1))
  ·go_light;exact⟨k+1,ed,ed,ej,O,o⟩
  go_light;omega
 obtain rfl:k=l.length:=ed;have hd:=bZ G9;go_wp2_with fail
 go_end0
 exact Xm
def mW (T NF:Nat) (W:World):Prop:=jk W NF #[.func (.func 323) #[] #[jp T 0]] 390
theorem z78 (N T C:Nat) (x:Rt) (a1 a2 a3:Option Addr) (pc a9 a4:Nat) (t:List Nat) (w:World) (hN:N<=T) (hT:eC N T t w) (w0:World) (q:N=w0.heap.size) (hb:Below N w0 w) (b0:IL w0 a1 x.A x.A) (b1:IL w0 a2 x.O x.O) (hO2:aB w0 2 lZ a3 a4 x.fl)
  (H: ∀n∈fT x,eO n) (c:x.A.length<=99/\x.O.length<=99/\x.fl.length<=99) (ho:C≠T) (Q:mW T C w) (b5:t.length<=90000):
  jW 332 #[.agg #[x.id,x.E,x.X,js a1 x.A pc,js a2 x.O a9,js a3 x.fl a4,x.T],jp T 0,jp C 0] w (oJ N T t (fT x) w):=by
 have a5:(∀n∈fM ⟨x.id,x.E,x.X⟩,eO n)/\(∀n∈x.A,eO n)/\(∀n∈x.O,eO n)/\(∀y∈x.fl,∀n∈kC y,eO n)/\eO x.T:=by
  simp only[fT,Dv,Tx,cE,Su,dJ,Pf,Ta]at H;refine⟨fun n h=> ?_,fun n h=>H n (.inr (.inr (.inr (.inl (.inr ⟨n,h,rfl⟩))))),fun n h=>H n (.inr (.inr (.inr (.inr (.inl (.inr ⟨n,h,rfl⟩)))))),fun y r n h=>H n (.inr (.inr (.inr (.inr (.inr (.inl (.inr ⟨y,r,h⟩))))))),H _ (.inr (.inr (.inr (.inr (.inr (.inr rfl))))))⟩;simp only[fM,Dv,Pf,Ta]at h;rcases h with rfl | rfl | rfl
  ·exact H _ (.inl rfl)
  ·exact H _ (.inr (.inl rfl))
  exact H _ (.inr (.inr (.inl rfl)))
 obtain⟨D,E,F,G,R⟩:=a5;have hz2: ∀l:List Int,(cE dJ l).length=l.length+1:=fun l=>by simp[cE,show l.flatMap dJ=l from by rw[show dJ=fun x=>[id x]from rfl,<-Td,List.map_id]]
 have I: ∀l:List Fl,(cE kC l).length=2 * l.length+1:=fun l=>by
  have:(l.flatMap kC).length=2 * l.length:=by induction l with | nil=>rfl | cons j l b6=>simp[kC]at b6 ⊢;omega
  simp[cE,this]
 have J: ∀l:List Int,(∀n∈l,eO n)->l.length<=99-> ∀n∈cE dJ l,eO n:=fun l h hl n H=>by
  simp only[cE,Dv,Su,dJ,Pf,Ta]at H;rcases H with rfl | ⟨y,r,rfl⟩
  ·exact⟨ed,ed⟩
  exact h _ r
 have U: ∀n∈cE kC x.fl,eO n:=fun n H=>by
  simp only[cE,Dv,Su]at H;rcases H with rfl | ⟨y,r,h⟩
  ·exact⟨ed,ed⟩
  exact G y r n h
 have L1:=qM (fM ⟨x.id,x.E,x.X⟩) D;have L2:=qM _ (J _ E c.1);have L3:=qM _ (J _ F c.2.1);have L4:=qM _ U;rw[hz2]at L2 L3;rw[I]at L4;have L0:(bI (fM ⟨x.id,x.E,x.X⟩)).length<=15:=L1;have HE:Hid (t++bI (fM ⟨x.id,x.E,x.X⟩)++bI (cE dJ x.A)++bI (cE dJ x.O)++bI (cE kC x.fl)++bI (dJ x.T)=t++bI (fT x)):=by show _=_;simp[bI,fT,fM,dJ]
 have C1:=hI fun W a (h1:eC N T t W) h2=>rF N T (fM ⟨x.id,x.E,x.X⟩) t a 3 W hN h1 h2 D (by simp[fM];omega);obtain⟨B1,K⟩: ∃B,B=t++bI (fM ⟨x.id,x.E,x.X⟩):=⟨_,rfl⟩;have l1:=Tc List.length K;rw[Mx]at l1;rw[<-K]at HE C1;have C2:=hI fun W (h1:eC N T B1 W) (V:Below N w0 W)=>PH N T x.A a1 pc B1 W hN h1 w0 q V b0 (fun y r n h=>by simp[dJ]at h;subst h;exact E _ r) ed XY;obtain⟨B2,L⟩: ∃B,B=B1++bI (cE dJ x.A):=⟨_,rfl⟩;have l2:=Tc List.length L;rw[Mx]at l2;unfold oJ at C2;rw[<-L]at HE C2;have C3:=hI fun W (h1:eC N T B2 W) (V:Below N w0 W)=>PH N T x.O a2 a9 B2 W hN h1 w0 q V b1 (fun y r n h=>by simp[dJ]at h;subst h;exact F _ r) ed XY;obtain⟨B3,M⟩: ∃B,B=B2++bI (cE dJ x.O):=⟨_,rfl⟩;have b2:=Tc List.length M;rw[Mx]at b2;unfold oJ at C3;rw[<-M]at HE C3;have C4:=hI fun W (h1:eC N T B3 W) (V:Below N w0 W)=>z75 N T x.fl a3 a4 B3 W hN h1 w0 q V hO2 G ed (by rw[I];omega);obtain⟨B4,O⟩: ∃B,B=B3++bI (cE kC x.fl):=⟨_,rfl⟩;have b3:=Tc List.length O;rw[Mx]at b3;unfold oJ at C4;rw[<-O]at HE C4;have C5:=hI fun W a (h1:eC N T B4 W) h2=>rF N T (dJ x.T) B4 a 1 W hN h1 h2 (by intro n h;simp[dJ]at h;subst h;exact R) (by simp[dJ];omega);have b7:=hI hT;have HL:=hI hT.lt;refine Qa fun P s=>?_;have H2:=hI Q;have b4:=hI Eu;clear H D E F G R hz2 I J U L1 L0 L2 L3 L4 K L M O l1 l2 b2 b3 hT hN b0 b1 hO2 b5 hb q c ho Q;obtain⟨b8,x1,x2,x4,x5,x6,x3⟩:=x;dsimp only at *;go_in;go_upto_region 2 with(go_at_call 324;refine Qq fun W1 hW=>?_;have u:=eN hW;have il:=rE (N:=N) (T:=T) (W:=W1) (g:=w.heap.size+1) (l:=fM ⟨b8,x1,x2⟩) Qm Zq;have X:=jB hW;clear hW;refine(C1 W1 _ (b7.below u) il).mono ?_;rintro e W2 ⟨⟨v,rfl⟩,b,d⟩;have f:mW T C W2:=b.keep _ _ _ _ s eh ((jm u H2));have i:=b.keep _ _ _ _ Qm eh X;have HO13:=hI ((Tf.of_below b4 u).trans b);have H3:=hI d;clear b d il u X);have x0:=ji 3 i;refine Qw fun l0=>?_;have n2:=ji 0 f
 have H4:=hI i;have H5:=hI f;clear i f;go_upto_region 3 with(go_at_call 333;refine Eh (C2 W2 H3 (P.trans HO13.bel)) fun W3 _ hO2 hw2=>?_;have k:mW T C W3:=hO2.keep _ _ _ _ s eh H5;have o:=hO2.keep _ _ _ _ Qm eh H4;refine Uc fun Y H6=>?_;clear hO2 hw2 x0 l0 n2);have y3:=ji 4 o;have l3:=Mt y3;have n3:=ji 0 k;have H7:=hI o;have H8:=hI k;clear o k;go_upto_region 4 with(go_at_call 333;refine Eh (C3 W3 H6 (P.trans Y.bel)) fun W4 _ hO2 hw2=>?_;have z:mW T C W4:=hO2.keep _ _ _ _ s eh H8;have p:=hO2.keep _ _ _ _ Qm eh H7;have Z:=hI (Y.trans hO2);have H9:=hI hw2;clear hO2 hw2 y3 l3 n3);have y4:=ji 5 p;have l4:=Mt y4;have a6:=hI p;have a7:=hI z;clear p z;go_upto_region 5 with(go_at_call 334;refine Eh (C4 W4 H9 (P.trans Z.bel)) fun W5 _ hO2 hw2=>?_;have a0:mW T C W5:=hO2.keep _ _ _ _ s eh a7;have A:=hO2.keep _ _ _ _ Qm eh a6;have H0:=hI (Z.trans hO2);have H1:=hI hw2;clear hO2 hw2 y4 l4);have y5:=ji 6 A;have l5:=Mt y5;have a8:=hI H1.o.lt;clear A a0;go_wp2_with (go_at_call 324;generalize hW:World.alloc _ _=W0;have u:=jG hW;have il:=rE (N:=N) (T:=T) (W:=W0) (g:=W5.heap.size) (l:=dJ x3) (by have:=a8.o;omega) Un;clear hW;refine(C5 W0 _ (H1.below u) il).mono ?_;rintro e W6 ⟨⟨v6,rfl⟩,b,d⟩;have HFR:=hI ((H0.trans (Tf.of_below (Nj b4 H0.bel.size) u)).trans b);have HTX:=hI d;clear b d il u y5 l5)
 go_end0
 exact Xm
theorem z79 (N T:Nat) (l:List Rt) (a:Option Addr) (c:Nat) (B:List Nat) (w:World) (hN:N<=T) (hT:eC N T B w) (w0:World) (j:N=w0.heap.size) (u:Below N w0 w) (hl:aB w0 7 fH a c l) (K: ∀x∈l,∀n∈fT x,eO n) (z:l.length<=1000) (f: ∀x∈l,x.A.length<=99/\x.O.length<=99/\x.fl.length<=99) (s:Nat) (o:s≠T) (A:mW T s w) (a1:B.length+5 * (cE fT l).length<=90000):
  jW 331 #[jp T 0,js a l c,.func (.func 332) #[] #[jp T 0,jp s 0]] w (oJ N T B (cE fT l) w):=by
 have C:=hI fun W a (h1:eC N T B W) h2=>rF N T (dJ l) B a 1 W hN h1 h2 (by intro n h;simp[dJ]at h;subst h;exact⟨ed,ed⟩) (by simp[dJ];omega);obtain⟨F,hb,ho,h0,a2⟩:=EI fT l B z K a1;refine Qa fun a5 a6=>?_;have a7:=hI h0;have HE:=hI a2;have L:=hI fun k (M:k<l.length) W (h1:eC N T (F k) W) P pc O a3 Q R (a8:IL w0 P l[k].A.length l[k].A) (a9:IL w0 O l[k].O.length l[k].O) (b0:aB w0 2 lZ Q R l[k].fl) (U:Below N w0 W) (V:mW T s W)=>z78 N T s l[k] P O Q pc a3 R (F k) W hN h1 w0 j U a8 a9 b0 (K _ (Nn M)) (f _ (Nn M)) o V (a5 k);have D:Hid (∀W,Tf N T w W->mW T s W):=fun W h=>h.keep _ _ _ _ o eh A;have b1:=hI hT;have HL:=hI hT.lt;have X:=hI hl;have HB0:=hI u;have HN0:=hI j;have a4:=hI Eu;clear K hT hN hl hb ho h0 a2 a1 u j f o A;go_in;go_wp2_with (go_at_call 324;generalize hW:World.alloc _ _=E;have t:=jG hW;have il:=rE (N:=N) (T:=T) (W:=E) (g:=w.heap.size) (l:=dJ l) Qm Un;clear hW;refine(C E _ (b1.below t) il).mono ?_;rintro e W2 ⟨⟨v,rfl⟩,hO2,hw2⟩;have b2:=hI ((Tf.of_below a4 t).trans hO2);rw[a7.o]at hw2;have p:=hI hw2;clear hO2 hw2 il t);go_loopg [7,15] l.length (fun g v7 i wr=> ∃k:Nat,k<=l.length/\g=l.length-k/\i= jV k/\Tf N T w wr/\eC N T (F k) wr)
 ·exact⟨0,ed,ed,rfl,b2,p⟩
 obtain⟨k,M,rfl,rfl,hfr,G⟩:=hrel;have HFR:=hI hfr;have HTX:=hI G;by_cases G9:k<l.length
 ·have hd:=bL G9;refine Qb fun _ _=>?_;have b3:=hI (L k G9);have Y:=hI (a6 k G9);obtain⟨b,off,b6,rfl,Z,H,a0⟩:=X.at_ k G9;have d:jb w0 wr:=Yp;obtain⟨p0,o0,f0,rfl,J⟩:=a0;obtain⟨P,pl,pc,rfl,q⟩:=J.A;obtain⟨O,b7,a3,rfl,r⟩:=J.O;obtain⟨Q,R,rfl,I⟩:=J.fl;obtain rfl:=q.len;obtain rfl:=r.len;have b4:=hI q;have b5:=hI r;have H0:=hI I;clear J q r I;have x0:=(d.cell (Mt (H 0 ee))).trans (H 0 ee);have x1:=(d.cell (Mt (H 1 ee))).trans (H 1 ee);have x2:=(d.cell (Mt (H 2 ee))).trans (H 2 ee);have x3:=(d.cell (Mt (H 3 ee))).trans (H 3 ee);have x4:=(d.cell (Mt (H 4 ee))).trans (H 4 ee);have x5:=(d.cell (Mt (H 5 ee))).trans (H 5 ee);have x6:=(d.cell (Mt (H 6 ee))).trans (H 6 ee);simp only[Pk,Tb,Nu,Dl]at x0 x1 x2 x3 x4 x5 x6;refine Qw fun _=>?_;clear H Z hfr G d;generalize l[k]=y at *;go_wp2_with fail;refine Qq fun E hW=>?_;have t:=jG hW;have HO13:=hI (HFR.trans (Tf.of_below (Nj a4 HFR.bel.size) t));clear hW;refine(b3 E (HTX.below t) _ _ _ _ _ _ b4 b5 H0 (HB0.trans HO13.bel) (D E HO13)).mono ?_;rintro e W2 ⟨⟨v,rfl⟩,hO2,hw2⟩;rw[Y.o]at hw2;refine Uc fun H1 p=>?_;clear hO2 hw2;go_wp2_with fail;go_roundg (l.length-(k+1))
  ·go_light;exact⟨k+1,ed,ed,ej,H1,p⟩
  go_light;omega
 obtain rfl:k=l.length:=ed;have hd:=bZ G9;go_wp2_with fail
 go_end0
 exact Xm
def PG {s:aF}(h:s.Shaped):s.ends.length<=3:=by rcases h with⟨-,h⟩ | ⟨-,-,h⟩<;>omega
theorem zn (p:Pl) (s q g r:Value) (w:World) (c4:bN w s q g r p) (hok:IT p) (L:(gJ p).length<=17000):
  jW 242 #[aT p s q g r] w fun e b0=> ∃a c,e= .returned (js a (dP p).length c)/\b0.ownsRow w 5 1 (js a (dP p).length c) (dP p).length (eT (dP p))/\jb w b0:=by
 obtain⟨⟨b2,b3,rfl,b4⟩,⟨b5,b6,rfl,hq⟩,⟨b7,b8,rfl,b9⟩,⟨ra,c0,rfl,c1⟩⟩:=c4;have j:=hok.num;simp only[gJ,Dv,Tx,cE,Su]at j
 have o: ∀n∈dN ⟨p.ver,p.par⟩,eO n:=fun n h=>by
  simp only[dN,Dv,Pf,Ta]at h;rcases h with rfl | rfl
  ·exact j _ (.inl rfl)
  exact j _ (.inr (.inl rfl))
 have t:=fun x hx n h=>j n (.inr (.inr (.inl (.inr ⟨x,hx,h⟩))));have u:=fun x hx n h=>j n (.inr (.inr (.inr (.inl (.inr ⟨x,hx,h⟩)))));have z:=fun x hx n h=>j n (.inr (.inr (.inr (.inr (.inl (.inr ⟨x,hx,h⟩))))));have M:=fun x hx n h=>j n (.inr (.inr (.inr (.inr (.inr (.inr ⟨x,hx,h⟩))))));have a1:(gJ p).length=2+(cE eX p.S).length+(cE dN p.P).length+(cE fM p.G).length+(cE fT p.R).length:=by simp[gJ];omega
 have b: ∀ {α:Type}(f:α->List Int) (l:List α),l.length<=99->(∀x∈l,∀n∈f x,eO n)->(bI (cE f l)).length<=5 * (cE f l).length:=fun f l hl h=>qM _ fun n j=>by
  simp only[cE,Dv,Su]at j;rcases j with rfl | ⟨y,c5,h'⟩
  ·exact⟨ed,ed⟩
  exact h y c5 n h'
 have L1:(bI (dN ⟨p.ver,p.par⟩)).length<=10:=qM (dN ⟨p.ver,p.par⟩) o;have L2:=b _ _ hok.S t;have L3:=b _ _ hok.P u;have L4:=b _ _ hok.G z;have O:Hid (bI (dN ⟨p.ver,p.par⟩)++bI (cE eX p.S)++bI (cE dN p.P)++bI (cE fM p.G)++bI (cE fT p.R)=dP p):=by show _=_;simp[bI,dP,gJ,dN]
 obtain⟨N,K⟩: ∃N,N=w.heap.size:=⟨_,rfl⟩;have c6:=hI K;have d:N<=N+1:=Nat.le_succ _;have C1:=hI fun W a (h1:eC N (N+1) [] W) h2=>rF N (N+1) (dN ⟨p.ver,p.par⟩) [] a 2 W d h1 h2 o (by simp[dN]);rw[Dd]at C1;obtain⟨B1,P⟩: ∃B,B=bI (dN ⟨p.ver,p.par⟩):=⟨_,rfl⟩;rw[<-P]at O C1 L1;have C2:=hI fun W (h1:eC N (N+1) B1 W) (A:Below N w W)=>z77 N (N+1) p.S b2 b3 B1 W d h1 w K A b4 t (by have:=hok.S;omega) (fun x hx=>by have:=PG (hok.shaped x hx);omega) ed;obtain⟨B2,C⟩: ∃B,B=B1++bI (cE eX p.S):=⟨_,rfl⟩;have l2:=Tc List.length C;rw[Mx]at l2;unfold oJ at C2;rw[<-C]at O C2;have C3:=hI fun W (h1:eC N (N+1) B2 W) (A:Below N w W)=>z73 N (N+1) p.P b5 b6 B2 W d h1 w K A hq u (by have:=hok.P;omega) ed;obtain⟨B3,D⟩: ∃B,B=B2++bI (cE dN p.P):=⟨_,rfl⟩;have c2:=Tc List.length D;rw[Mx]at c2;unfold oJ at C3;rw[<-D]at O C3;have C4:=hI fun W (h1:eC N (N+1) B3 W) (A:Below N w W)=>z74 N (N+1) p.G b7 b8 B3 W d h1 w K A b9 z (by have:=hok.G;omega) ed;obtain⟨B4,E⟩: ∃B,B=B3++bI (cE fM p.G):=⟨_,rfl⟩;have c3:=Tc List.length E;rw[Mx]at c3;unfold oJ at C4;rw[<-E]at O C4;have C5:=hI fun W (h1:eC N (N+1) B4 W) (A:Below N w W) (a2:mW (N+1) (N+2) W)=>z79 N (N+1) p.R ra c0 B4 W d h1 w K A c1 M (by have:=hok.R;omega) hok.few (N+2) ed a2 ed;unfold oJ at C5;rw[O.o]at C5;generalize dP p=d7 at *;clear j o t u z M a1 b L1 L2 L3 L4 l2 c2 c3 P C D E b4 hq b9 c1 hok L K d;obtain⟨c7,c8,c9,d0,d1,pr⟩:=p;dsimp only[aT]at *;go_in;go_upto_region 2 with fail;generalize i5:World.alloc (World.alloc _ _) _=W0;have K0:=hI (eN i5)
 have X0:=hI (jB i5)
 have T0:Hid (Boxed W0 (w+1) 312 (jN)):=by show Boxed _ _ _ _;rw[<-i5];exact Do _ _ _
 have S0:Hid (W0.heap.size=w.heap.size+2):=Xy
 clear i5;go_upto_region 3 with fail;generalize F:World.alloc _ _=G;have k:=jG F
 have I:mW (w+1) W0 G:=by rw[mW,<-F];exact Ud
 rw[S0.o]at I k ⊢;clear F;have i:=hI (K0.trans (k.mono ed));have H:=(k.block _ ed).trans X0;have Q:Boxed G (w+1) 312 (jN):=(k.block _ ed).trans T0;have d2:Hid (Tf w (w+1) G G):=Tf.refl _ _ _;have R:Hid (eC w (w+1) [] G):=⟨_,Q,Nw _ _ _ _⟩;have H5:=hI I;clear I k Q K0 X0 T0 S0;obtain rfl:=c6.o;have x0:=ji 0 H;have y1:=ji 1 H;refine Qw fun l0=>?_;have H6:=hI H;clear H;go_upto_region 4 with(go_at_call 324;refine Qq fun W hW=>?_;have b1:jb G W:=(by rw[<-hW];exact aR);have il:=rE (N:=w.heap.size) (T:=w.heap.size+1) (W:=W) (g:=G.heap.size) (l:=dN ⟨c7,c8⟩) (by have:=R.lt;omega) Un;clear hW;refine(C1 W _ (R.below b1) il).mono ?_;rintro e W2 ⟨⟨v,rfl⟩,U,V⟩;have HO13:=hI ((Tf.of_below i.size b1).trans U);have H7:=hI V;have X:=hI (HO13.keep _ _ _ _ ed eh H6);have H8:Hid (mW (w+1) (w+2) W2):=HO13.keep _ _ _ _ ed eh H5;clear U V il b1 x0 y1 l0);have y2:jc W2 w 2 (js b2 c9 b3):=jr X;have l1:=Mt y2;go_upto_region 5 with(go_at_call 325;refine Eh (C2 W2 H7 (i.trans HO13.bel)) fun W3 _ hO2 hw2=>?_;refine Uc fun Y H9=>?_;have Z:=hI (hO2.keep _ _ _ _ ed eh X);have a3:Hid (mW (w+1) (w+2) W3):=hO2.keep _ _ _ _ ed eh H8;clear hO2 hw2 y2 l1);have y3:jc W3 w 3 (js b5 d0 b6):=jr Z;have l3:=Mt y3;go_upto_region 6 with(go_at_call 327;refine Eh (C3 W3 H9 (i.trans Y.bel)) fun W4 _ hO2 hw2=>?_;have H0:=hI (Y.trans hO2);have a4:=hI hw2;have H1:=hI (hO2.keep _ _ _ _ ed eh Z);have a5:Hid (mW (w+1) (w+2) W4):=hO2.keep _ _ _ _ ed eh a3;clear hO2 hw2 y3 l3);have y4:jc W4 w 4 (js b7 d1 b8):=jr H1;have l4:=Mt y4;go_upto_region 7 with(go_at_call 329;refine Eh (C4 W4 a4 (i.trans H0.bel)) fun W5 _ hO2 hw2=>?_;have H2:=hI (H0.trans hO2);have a6:=hI hw2;have H3:=hI (hO2.keep _ _ _ _ ed eh H1);have H4:Hid (mW (w+1) (w+2) W5):=hO2.keep _ _ _ _ ed eh a5;clear hO2 hw2 y4 l4);have y5:jc W5 w 5 (js ra pr c0):=jr H3;have l5:=Mt y5
 go_upto_region 8 with(go_at_call 331;refine Eh (C5 W5 a6 (i.trans H2.bel) H4) fun W6 _ hO2 hw2=>?_;have a7:=hI (H2.trans hO2);have a8:=hI hw2;have d3:=hI (hO2.keep _ _ _ _ ed eh H3);have d4:Hid (mW (w+1) (w+2) W6):=hO2.keep _ _ _ _ ed eh H4;clear hO2 hw2 y5 l5);obtain⟨v7,a0,J⟩:=a8.o;obtain⟨d5,d6,rfl⟩:=RK J;have y7:=a0.cell;have a9:=hI J;clear J a0;refine ei ?_;exact⟨d5,d6,rfl,a9,i.trans a7.bel⟩
def sO {α:Type}(f:α->List Int) (b:Nat): ∀(l:List α),(∀x∈l,(f x).length<=b)->(l.flatMap f).length<=b * l.length
 | [],_=>ee
 | x::l,h=>by
  rw[Sb,Mx,Du,Nat.mul_succ];have:=sO f b l fun y H=>h y (Dy _ H);have:=h x Dq;omega
def PF {p:Pl}(h:bX p):(gJ p).length<=17000:=by
 have hok:=wN h;have H:=h.1.2.2.2.2.1;have d:=h.2.1.1.1.2;have e:=h.2.1.2.1.1.2;have g:=h.2.1.2.2.2;have j:=fun l=>sO iR 2 l fun _ _=>Mv _;have f:=fun l=>sO kC 2 l fun _ _=>Mv _;have i:=fun l=>sO dJ 1 l fun _ _=>Mv _;have h1:=sO eX 8 p.S fun s k=>by have:=PG (hok.shaped s k);have:=j s.ends;simp only[eX,Du];omega
 have h2:=sO dN 2 p.P fun _ _=>Mv _;have h3:=sO fM 3 p.G fun _ _=>Mv _
 have h4:=sO fT 500 p.R fun r n=>by
  have h1:=hok.few r n;have h2:=i r.A;have h3:=i r.O;have h4:=f r.fl;obtain⟨a,b,c⟩:=h1;simp only[fT,cE,Du,Mx,Tl];omega
 simp only[gJ,cE,Du,Mx];omega
def PB {α:Type}(one:RS->α × RS) (Q:α->Prop) (h: ∀s,Q (one s).1): ∀n s,∀x∈(iI one n s).1,Q x
 | 0,_,x,hx=>by cases hx
 | n+1,s,x,hx=>by
  rw[iI]at hx;rcases Dv.1 hx with rfl | hx
  ·exact h s
  exact PB one Q h n _ x hx
def vR {α:Type}(l:List Nat) (one:RS->α × RS) (Q:α->Prop) (h: ∀s,Q (one s).1) (s:RS):(aW l one s).1.length<=99/\ ∀x∈(aW l one s).1,Q x:=by
 have hl: ∀n s,(iI one n s).1.length=n:=fun n=>by
  induction n with
  | zero=>intro s;rfl
  | succ n i=>intro s;rw[iI,Du,i]
 unfold aW;dsimp only;split
 ·exact⟨by rw[hl];omega,PB one Q h _ _⟩
 exact⟨ee,fun x hx=>by cases hx⟩
def OY (l:List Nat) (s:RS):(wY l s).1.Fit:=by
 have S:=fun s=>vR l (cG l) (fun x=>x.ends.length<=3) (fun s=>by unfold cG;dsimp only;split<;>simp) s;have P:=fun s=>vR l (vF l) (fun _=>True) (fun _=>Py) s;have G:=fun s=>vR l (pD l) (fun _=>True) (fun _=>Py) s;have I:=fun s=>(vR l (nx l) (fun _=>True) (fun _=>Py) s).1;have F:=fun s=>(vR l (vG l) (fun _=>True) (fun _=>Py) s).1;have R:=fun s=>vR l (eS l) (fun x=>x.A.length<=99/\x.O.length<=99/\x.fl.length<=99) (fun s=>by unfold eS;exact⟨I _,I _,F _⟩) s;unfold wY;refine⟨Nj (S _).1 eh,fun i h=> ?_,Nj (P _).1 eh,Nj (G _).1 eh,Nj (R _).1 eh,fun i h=> ?_⟩
 ·have:=(S _).2 _ (Nn h);omega
 obtain⟨h1,h2,h3⟩:=(R _).2 _ (Nn h);exact⟨ed,ed,ed⟩
def AY {l:List Nat}{p:Pl}(h:bX p) (H:dP p=l):wY l (0,false)=(p,(l.length,false)):=by
 rw[<-H];exact z2a (wN h)
def zm (a:Option Addr) (n c:Nat) (w:World):Sem.run prog (convert 312 9 (js a n c)) w=Sem.run prog (convert 22 9 (js a n c)) w:=by
 rw[Fs w 312 9 5 _ _ _ underlying312 underlying5 underlying9,Fs w 22 9 5 _ _ _ underlying22 underlying5 underlying9]
def dI.base {n:Nat}{v:List Value}{x:aF}(H:n<=N) (h:dI N W v x):dI n W v x:=by
 obtain⟨a,c,h1,h2⟩:=h;exact⟨a,c,h1,bW h2 H⟩
def iS.base {n:Nat}{v:List Value}{x:Rt}(H:n<=N) (h:iS N W v x):iS n W v x:=by
 obtain⟨p,pc,o,O,f,F,h1,h2,h3,h4⟩:=h;exact⟨p,pc,o,O,f,F,h1,bW h2 H,bW h3 H,bW h4 H⟩
def aU.base {α:Type}{O o:World->List Value->α->Prop}{n:Nat}{T:TypeId}{v:Value}{l:List α}{xss:List (List Value)}(h:aU O W N T sz v l xss) (H:n<=N) (a: ∀V x,O W V x->o W V x):aU o W n T sz v l xss:=
 ⟨bW h.own H,h.len,h.sz,fun i h1 h2=>a _ _ (h.el i h1 h2)⟩
def dI.set {g o:Nat}{v:List Value}{x:aF}{cs:Array Value}(u:Value) (H:jk W g cs 28) (h:dI N W v x):dI N (W.setCell ⟨g,o,none⟩ u) v x:=by
 obtain⟨a,c,h1,h2⟩:=h;exact⟨a,c,h1,kI u h2 H eh⟩
def iS.set {g o:Nat}{v:List Value}{x:Rt}{cs:Array Value}(u:Value) (H:jk W g cs 28) (h:iS N W v x):iS N (W.setCell ⟨g,o,none⟩ u) v x:=by
 obtain⟨p,pc,O,a,f,F,h1,h2,h3,h4⟩:=h;exact⟨p,pc,O,a,f,F,h1,kI u h2 H eh,kI u h3 H eh,kI u h4 H eh⟩
def dI.setRow {g:Nat}{v:List Value}{x:aF}(C:Array Value) (H:jk W g Z 28) (h:dI N W v x):dI N (W.setRow g C) v x:=by
 obtain⟨a,c,h1,h2⟩:=h;exact⟨a,c,h1,mK h2 H eh⟩
def iS.setRow {g:Nat}{v:List Value}{x:Rt}(C:Array Value) (H:jk W g Z 28) (h:iS N W v x):iS N (W.setRow g C) v x:=by
 obtain⟨p,pc,o,O,f,F,h1,h2,h3,h4⟩:=h;exact⟨p,pc,o,O,f,F,h1,mK h2 H eh,mK h3 H eh,mK h4 H eh⟩
def aU.setRow {α:Type}{O:World->List Value->α->Prop}{g:Nat}{T:TypeId}{v:Value}{l:List α}{xss:List (List Value)}(h:aU O W N T sz v l xss) (C:Array Value) (H:jk W g Z 28) (a:28≠T) (b: ∀V x,O W V x->O (W.setRow g C) V x):aU O (W.setRow g C) N T sz v l xss:=
 ⟨mK h.own H a,h.len,h.sz,fun i h1 h2=>b _ _ (h.el i h1 h2)⟩
def aU.offS {v:Value}{l:List aF}{xss:List (List Value)}{S:Nat->Bool}(h:aU (dI N) W N 80 3 v l xss) (H: ∀k,N<=k->S k=false):Sl (bK S W) 3 cU v l:=
 aU.sl (O:=dI N) (W:=bK S W) ⟨kU h.own H,h.len,h.sz,fun i h1 h2=>by obtain⟨a,c,e,b⟩:=h.el i h1 h2;exact⟨a,c,e,kU b H⟩⟩ (fun V x h=>h.rd)
def aU.offT {v:Value}{l:List Rt}{xss:List (List Value)}{S:Nat->Bool}(h:aU (iS N) W N 102 7 v l xss) (H: ∀k,N<=k->S k=false):Sl (bK S W) 7 fH v l:=
 aU.sl (O:=iS N) (W:=bK S W) ⟨kU h.own H,h.len,h.sz,fun i h1 h2=>by obtain⟨p,pc,o,a,f,F,e,o1,o2,o3⟩:=h.el i h1 h2;exact⟨p,pc,o,a,f,F,e,kU o1 H,kU o2 H,kU o3 H⟩⟩ (fun V x h=>h.rd)
def OX (p:Pl): ∀i (h:i<(dP p).length),(dP p)[i]<256:=fun i h=>by
 have H:=Nn h;generalize(dP p)[i]=x at H ⊢;rw[dP,bI]at H;obtain⟨n,-,a⟩:=Su.1 H;obtain⟨j,hj,e⟩:=No a;have:=wG n.toNat j hj;omega
def aU.set {α:Type}{O:World->List Value->α->Prop}{g o:Nat}{T:TypeId}{v:Value}{l:List α}{xss:List (List Value)}{cs:Array Value}(u:Value) (h:aU O W N T sz v l xss) (H:jk W g cs 28) (a:28≠T) (b: ∀V x,O W V x->O (W.setCell ⟨g,o,none⟩ u) V x):aU O (W.setCell ⟨g,o,none⟩ u) N T sz v l xss:=
 ⟨kI u h.own H a,h.len,h.sz,fun i h1 h2=>b _ _ (h.el i h1 h2)⟩
def sE:Value:= .agg #[jV 0,jV 0,jN,jN,jN,jN]
def AX (w:World) (l:List Nat) (e:Ending) (w':World):Prop:=
 jb w w'/\((∃p a1 c1 a2 c2 a3 c3 a4 c4,bX p/\dP p=l/\e= .returned (.tuple #[aT p (js a1 p.S c1) (js a2 p.P c2) (js a3 p.G c3) (js a4 p.R c4),jV 0])/\bN (bK (old w) w') (js a1 p.S c1) (js a2 p.P c2) (js a3 p.G c3) (js a4 p.R c4) p)\/
  ((∀p,bX p->dP p≠l)/\e= .returned (.tuple #[sE,jV 8])))
theorem zk (l:List Nat) (ba:Option Addr) (bc:Nat) (w:World) (b0:BL w ba l.length l) (a7:l.length<=bc) (a8:l.length<=100000):Calls prog 157 #[js ba l.length bc] w (AX w l):=by
 obtain⟨e1,d0⟩: ∃e1,e1=w.heap.size:=⟨_,rfl⟩;go_in;go_upto_region 1 with fail;generalize i5:World.alloc (World.alloc _ _) _=W0;have K0:=hI (eN i5)
 have X0:Hid (Boxed W0 w.heap.size 22 (js ba l.length bc)):=by show Boxed _ _ _ _;rw[<-i5];exact(Nv _ _ ee).trans Oa
 have e5:=hI (jC i5)
 have S0:Hid (W0.heap.size=w.heap.size+2):=Xy
 clear i5;go_upto_region 2 with fail;generalize hW:World.alloc (World.alloc _ _) _=W1;have B1:=eN hW
 have hb:Boxed W1 W0.heap.size 3 (.int .i64 0):=by rw[<-hW];exact(Nv _ _ (by simp)).trans Oa
 have ho:Boxed W1 (W0.heap.size+1) 4 (.bool false):=Zq
 have S1:W1.heap.size=W0.heap.size+2:=Qc
 have K1:=hI (jo K0 B1);have X1:Boxed W1 w.heap.size 22 (js ba l.length bc):=(B1.block _ X0.lt).trans X0;have R1:=jm B1 e5;clear hW;obtain⟨A,e6⟩: ∃A,A=W0.heap.size:=⟨_,rfl⟩;obtain⟨D,e7⟩: ∃D,D=W0.heap.size+1:=⟨_,rfl⟩;rw[<-e7]at ho ⊢;rw[<-e6]at hb ⊢;have e8:Hid (A=w.heap.size+2/\D=w.heap.size+3/\W1.heap.size=w.heap.size+4):=by have:=S0.o;exact⟨ed,ed,ed⟩
 refine Qa fun H0 H1=>?_;have H2:=hI X1;have H3:=hI R1;clear hb ho X1 R1 B1 S1 e6 e7 K0 X0 e5 S0;go_upto_region 3 with fail;generalize a5:World.alloc _ _=B;have B2:=jG a5
 have R0:Boxed B W1.heap.size 299 (.func (.func 228) #[] #[jp w.heap.size 0,jp A 0,jp D 0]):=by rw[<-a5];exact Ud
 have S2:B.heap.size=W1.heap.size+1:=by rw[<-a5];simp
 clear a5;refine Kb fun RD b6=>?_;rw[<-b6]at R0 ⊢;have HL:Hid (A=w.heap.size+2/\D=w.heap.size+3/\RD=w.heap.size+4/\B.heap.size=w.heap.size+5):=by have:=e8.o;exact⟨ed,ed,ed,ed⟩
 have M00:Hid (eU w w.heap.size A D RD ba bc l (0,false) B):=⟨(B2.block _ H2.lt).trans H2,(B2.block _ H0.lt).trans H0,(B2.block _ H1.lt).trans H1,R0,jo K1 B2,Pe _⟩;have F00:Hid (Fx A D B B):=Fx.refl _ _ _;have Q00:=hI (jm B2 H3);have n8:Hid ((w.heap.size+1)≠A/\(w.heap.size+1)≠D/\(w.heap.size+1)≠w.heap.size/\(w.heap.size+1)≠RD/\w.heap.size<=B.heap.size):=by have:=HL.o;exact⟨ed,ed,ed,ed,ed⟩
 have b1:qO w w.heap.size A D RD ba bc l:=⟨b0,a7,a8,Qm,Qm,Qm,Qm,Qm,Qm,Qm⟩;have z:=hI (OY l (0,false));have E:=hI fun P (h:bX P) (f5:dP P=l)=>AY h f5;have a9:=wY.eq_1 l (0,false);have C1:=hI (oK w w.heap.size A D RD ba bc l b1 (0,false));generalize nx l (0,false)=X1 at *;obtain⟨n1,s1⟩:=X1;dsimp only at a9 C1;have C2:=hI (oK w w.heap.size A D RD ba bc l b1 s1);generalize nx l s1=X2 at *;obtain⟨n2,s2⟩:=X2;dsimp only at a9 C2;have C3:=hI fun J h1 h2=>z7w w w.heap.size A D RD ba bc l b1 J h1 h2 s2;generalize aW l (cG l) s2=X3 at *;obtain⟨ps,s3⟩:=X3;dsimp only at a9 C3;have C4:=hI (z7s w w.heap.size A D RD ba bc l b1 s3);generalize aW l (vF l) s3=X4 at *;obtain⟨pq,s4⟩:=X4;dsimp only at a9 C4;have C5:=hI (z7t w w.heap.size A D RD ba bc l b1 s4);generalize aW l (pD l) s4=X5 at *;obtain⟨pg,s5⟩:=X5;dsimp only at a9 C5;have C6:=hI (z7y w w.heap.size A D RD ba bc l b1 s5);generalize aW l (eS l) s5=X6 at *;obtain⟨pr,s6⟩:=X6;dsimp only at a9 C6;rw[a9]at z E;have H4:=hI b0;clear a9 B2 R0 S2 b6 e8 H0 H1 H2 H3 K1 b1 b0 a7 a8 d0;refine FN (fun g=>{tmps:=#[.slice ba l.length bc,.pointer (some ⟨w.heap.size,0,none⟩),.pointer (some ⟨w.heap.size+1,0,none⟩),.int .i64 0,.pointer (some ⟨A,0,none⟩),.pointer (some ⟨D,0,none⟩),.pointer (some ⟨RD,0,none⟩),.pointer (some ⟨g,0,none⟩),undef,.func (.func 228) #[] #[jp w.heap.size 0,jp A 0,jp D 0],.agg #[.func (.func 228) #[] #[jp w.heap.size 0,jp A 0,jp D 0]],.pointer (some ⟨RD,0,none⟩),.func (.func 228) #[] #[jp w.heap.size 0,jp A 0,jp D 0],.int .i64 n1,.pointer (some ⟨RD,0,none⟩),.func (.func 228) #[] #[jp w.heap.size 0,jp A 0,jp D 0],.int .i64 n2,.agg #[n1,n2,.slice none 0 0,.slice none 0 0,.slice none 0 0,.slice none 0 0],undef,undef,undef,undef,undef,undef,undef,undef,undef,undef,undef,undef,undef,undef,undef,undef,undef,undef,undef,undef,undef,undef,undef,undef,undef,undef,undef,undef,undef,undef,undef,undef,undef,undef,undef,undef,undef,undef,undef],defers:=[]}) (fun g W=>Fx A D B W/\eU w w.heap.size A D RD ba bc l s2 W/\jk W g #[n1,n2,.slice none 0 0,.slice none 0 0,.slice none 0 0,.slice none 0 0] 28/\jk W (w.heap.size+1) #[.int .i64 0,.int .i64 0,.slice none 0 0,.slice none 0 0,.slice none 0 0,.slice none 0 0] 28/\(w.heap.size+1)<g/\B.heap.size<=g) ?h2 ?h1
 case h1=>
  refine iH [8] (fun W=>jc W RD 0 (.func (.func 228) #[] #[jp w.heap.size 0,jp A 0,jp D 0])) ef ?_;intro V0 b7 j4;refine Ys fun N F0 Q0=>?_;have b:=N.rd.cell;clear b7 j4;have t1: ∀t:aX (fun W=>jc W RD 0 (.func (.func 228) #[] #[jp w.heap.size 0,jp A 0,jp D 0])),jc t.w RD 0 (.func (.func 228) #[] #[jp w.heap.size 0,jp A 0,jp D 0]):=fun t=>t.h;have f6: ∀t:aX (fun W=>jc W RD 0 (.func (.func 228) #[] #[jp w.heap.size 0,jp A 0,jp D 0])),RD<t.w.heap.size:=fun t=>Mt t.h;refine zB [0,3,1,4] b ?_;clear t1 f6;refine sP 2 7 ef ?_ ?_
  ·refine Oy (C1 V0 N) fun K hK O hf j ho I=>?_;refine Xs fun X Y=>?_;clear hK K hf j b N F0 Q0;refine sP 5 7 ef ?_ ?_
   ·refine Oy (C2 O I) fun K hK Z hf j eB M=>?_;have Q:=hI (X.trans hf);have T:=hI (hf.row n8.1 n8.2.1 Y);clear hK K hf j ho I X Y;refine zB [6] eB ?_;refine aS 7 ef ?_;intro K hK;refine Ot ?_;obtain⟨g,hg⟩: ∃g,g=Z.heap.size:=⟨_,rfl⟩;rw[<-hg];generalize hV:World.alloc Z _=V3;have i:jb Z V3:=Ub;have G:Hid (jk V3 g #[.int .i64 0,.int .i64 0,.slice none 0 0,.slice none 0 0,.slice none 0 0,.slice none 0 0] 28):=Um;have M3:=hI (M.below i);have D0:=M3.rd.cell;refine Ob ?_;have F3:=hI (Q.trans (Fx.of_below i));have Q3:=hI ((jm i T));have HG:Hid (B.heap.size<=g):=(by show _<=_;rw[hg];exact Q.size);have q:Hid ((w.heap.size+1)<g/\g≠A/\g≠D/\g≠w.heap.size/\g≠RD):=⟨by rw[hg];exact aD T,by have:=M.at_.lt;omega,by have:=M.bad.lt;omega,by have:=M.box.lt;omega,by have:=M.rd.lt;omega⟩;clear hK K i hV hg eB M Q T;refine aS 8 ef ?_;intro K hK;refine kG (o:=⟨none,.store 28 (.tmp 7) (.tmp 17),_,_,_,none⟩) rfl rfl 28 (.tmp 7) (.tmp 17) rfl g #[n1,n2,.slice none 0 0,.slice none 0 0,.slice none 0 0,.slice none 0 0] rfl rfl 28 _ G ef rfl Qj ?_;refine hK _ _ (fun h=>absurd h eh) ?_;refine eI ef ?_ _;refine⟨rfl,g,by simp[Act.put],?_⟩;exact⟨F3.setRow HG _,M3.setRow q.2.2.2.1.symm q.o.2.1.symm q.o.2.2.1.symm q.o.2.2.2.2.symm (Nj n8.2.2.2.2 HG) _,Dp _ _ _ _ _ _ G,(Nq _ _ _ _ (by have:=q.1;omega)).trans Q3,q.1,HG⟩
   intro K hK;refine Ot ?_;obtain⟨g,hg⟩: ∃g,g=O.heap.size:=⟨_,rfl⟩;rw[<-hg];generalize hV:World.alloc O _=Z;have i:jb O Z:=Ub;have G2:Hid (jk Z g #[.int .i64 0,.int .i64 0,.slice none 0 0,.slice none 0 0,.slice none 0 0,.slice none 0 0] 28):=Um;have M:=hI (I.below i);have eB:=M.rd.cell;refine hK _ _ (fun _=>eB) ?_;have Q:=hI (X.trans (Fx.of_below i));have T:=hI ((jm i Y));have HG:Hid (B.heap.size<=g):=(by show _<=_;rw[hg];exact X.size);have q:Hid ((w.heap.size+1)<g/\g≠A/\g≠D/\g≠w.heap.size/\g≠RD):=⟨by rw[hg];exact aD Y,by have:=I.at_.lt;omega,by have:=I.bad.lt;omega,by have:=I.box.lt;omega,by have:=I.rd.lt;omega⟩;clear hK K i hV hg ho I X Y;refine aS 5 ef ?_;refine Oy (C2 Z M) fun K hK V3 hf j D0 M3=>?_;have F3:=hI (Q.trans hf);have Q3:=hI (hf.row n8.1 n8.2.1 T);have G:=hI (hf.row q.2.1 q.2.2.1 G2);clear hK K hf j eB M Q T G2;refine zB [6] D0 ?_;refine aS 8 ef ?_;intro K hK;refine kG (o:=⟨none,.store 28 (.tmp 7) (.tmp 17),_,_,_,none⟩) rfl rfl 28 (.tmp 7) (.tmp 17) rfl g #[n1,n2,.slice none 0 0,.slice none 0 0,.slice none 0 0,.slice none 0 0] rfl rfl 28 _ G ef rfl Qj ?_;refine hK _ _ (fun h=>absurd h eh) ?_;refine eI ef ?_ _;refine⟨rfl,g,by simp[Act.put],?_⟩;exact⟨F3.setRow HG _,M3.setRow q.2.2.2.1.symm q.o.2.1.symm q.o.2.2.1.symm q.o.2.2.2.2.symm (Nj n8.2.2.2.2 HG) _,Dp _ _ _ _ _ _ G,(Nq _ _ _ _ (by have:=q.1;omega)).trans Q3,q.1,HG⟩
  intro K hK;refine Ot ?_;obtain⟨g,hg⟩: ∃g,g=V0.heap.size:=⟨_,rfl⟩;rw[<-hg];generalize hV:World.alloc V0 _=O;have i:jb V0 O:=Ub;have G1:Hid (jk O g #[.int .i64 0,.int .i64 0,.slice none 0 0,.slice none 0 0,.slice none 0 0,.slice none 0 0] 28):=Um;have I:=hI (N.below i);have ho:=I.rd.cell;refine hK _ _ (fun _=>ho) ?_;have X:=hI (F0.trans (Fx.of_below i));have Y:=hI ((jm i Q0));have HG:Hid (B.heap.size<=g):=(by show _<=_;rw[hg];exact F0.size);have q:Hid ((w.heap.size+1)<g/\g≠A/\g≠D/\g≠w.heap.size/\g≠RD):=⟨by rw[hg];exact aD Q0,by have:=N.at_.lt;omega,by have:=N.bad.lt;omega,by have:=N.box.lt;omega,by have:=N.rd.lt;omega⟩;clear hK K i hV hg b N F0 Q0;refine aS 2 ef ?_;refine Oy (C1 O I) fun K hK Z hf j eB M=>?_;have Q:=hI (X.trans hf);have T:=hI (hf.row n8.1 n8.2.1 Y);have G2:=hI (hf.row q.2.1 q.2.2.1 G1);clear hK K hf j ho I X Y G1;refine aS 5 ef ?_;refine Oy (C2 Z M) fun K hK V3 hf j D0 M3=>?_;have F3:=hI (Q.trans hf);have Q3:=hI (hf.row n8.1 n8.2.1 T);have G:=hI (hf.row q.2.1 q.2.2.1 G2);clear hK K hf j eB M Q T G2;refine zB [6] D0 ?_;refine aS 8 ef ?_;intro K hK;refine kG (o:=⟨none,.store 28 (.tmp 7) (.tmp 17),_,_,_,none⟩) rfl rfl 28 (.tmp 7) (.tmp 17) rfl g #[n1,n2,.slice none 0 0,.slice none 0 0,.slice none 0 0,.slice none 0 0] rfl rfl 28 _ G ef rfl Qj ?_;refine hK _ _ (fun h=>absurd h eh) ?_;refine eI ef ?_ _;refine⟨rfl,g,by simp[Act.put],?_⟩;exact⟨F3.setRow HG _,M3.setRow q.2.2.2.1.symm q.o.2.1.symm q.o.2.2.1.symm q.o.2.2.2.2.symm (Nj n8.2.2.2.2 HG) _,Dp _ _ _ _ _ _ G,(Nq _ _ _ _ (by have:=q.1;omega)).trans Q3,q.1,HG⟩
 case h2=>
  rintro g W ⟨hf,j,hg,hq,b8,b9⟩;have HG:=hI b9;have U:Hid (g≠A/\g≠D/\g≠w.heap.size/\g≠RD/\w.heap.size+1<g):=by have:=HL.o;exact⟨ed,ed,ed,ed,b8⟩
  have HAW:Hid (A<B.heap.size/\D<B.heap.size/\w.heap.size<B.heap.size/\RD<B.heap.size):=by have:=HL.o;exact⟨ed,ed,ed,ed⟩
  have e9:=hI hf;have MW:=hI j;have f0:=hI hg;have f1:=hI hq;clear hf j hg hq b8 b9 M00 F00 Q00 C1 C2;go_upto_region 5 with fail;generalize b2:World.alloc _ _=V0;have i:=jG b2
  have b3:Boxed V0 W.heap.size 300 (.func (.func 230) #[] #[jp RD 0]):=by rw[<-b2];exact Ud
  clear b2;obtain⟨J,f2⟩: ∃J,J=W.heap.size:=⟨_,rfl⟩;rw[<-f2]at b3 ⊢;have J0:=hI b3;have f3:Hid (J≠A/\J≠D):=by have:=MW.at_.lt;have:=MW.bad.lt;exact⟨ed,ed⟩
  have F0:=hI (e9.trans (Fx.of_below i));have N:=hI (MW.below i);have G0:=hI ((jm i f0));have Q0:=hI ((jm i f1));clear i f2 b3 e9 MW f0 f1;have x0:=N.rd.cell;refine Qw fun b4=>?_;go_upto_region 6 with(go_at_call 231;refine(C3 J f3.1 f3.2 V0 N J0).mono ?_;rintro e O ⟨a1,c1,xss,rfl,hf,j,H⟩;have I:=hI j;have S1:=hI (H.base F0.size (fun V x h=>h.base F0.size));refine Xs fun X Y=>?_;have G1:=hI (hf.row U.1 U.2.1 G0);clear hf j H x0 b4 N F0 Q0 G0;have c9:=(Mu _ _ 2 _ _ _ G1).trans rfl;have fz:=qU G1 2);have S2:=hI (S1.set (o:=2) (js a1 ps.length c1) G1 eh (fun V x h=>h.set _ G1));have G2:Hid ((O.setCell ⟨g,2,none⟩ (js a1 ps.length c1)).heap[g]? =some (.cells #[n1,n2,js a1 ps.length c1,.slice none 0 0,.slice none 0 0,.slice none 0 0] 28 (0,0))):=qT _ G1;have Q:=hI (X.setCell HG 2 (js a1 ps.length c1));have n:Below g O (O.setCell ⟨g,2,none⟩ (js a1 ps.length c1)):=(Nb _ _).setCell (p:=⟨g,2,none⟩) ep _;have M:=hI (I.belowN n Qp Qp Qp Qp Qp);have T:=hI ((n.block _ U.2.2.2.2).trans Y);clear c9 fz n I X Y G1 S1 J0;generalize World.setCell O _ _=Z at *;have x0:=M.rd.cell;refine Qw fun b4=>?_;go_upto_region 7 with(go_at_call 233;refine(C4 Z M).mono ?_;rintro e V3 ⟨a2,c2,rfl,hf,j,H⟩;have M3:=hI j;have P3:=hI (bW H Q.size);have S3:=hI (S2.fx (W:=V3) (fun V x h=>h.fy HAW.1 HAW.2.1 hf.fy) HAW.1 HAW.2.1 hf);have F3:=hI (Q.trans hf);have Q3:=hI (hf.row n8.1 n8.2.1 T);have G:=hI (hf.row U.1 U.2.1 G2);clear hf j H x0 b4 M Q T G2 S2;have c9:=(Mu _ _ 3 _ _ _ G).trans rfl;have fz:=qU G 3);have S4:=hI (S3.set (o:=3) (js a2 pq.length c2) G eh (fun V x h=>h.set _ G));have P4:=hI (kI (o:=3) (js a2 pq.length c2) P3 G eh);have G4:Hid ((V3.setCell ⟨g,3,none⟩ (js a2 pq.length c2)).heap[g]? =some (.cells #[n1,n2,js a1 ps.length c1,js a2 pq.length c2,.slice none 0 0,.slice none 0 0] 28 (0,0))):=qT _ G;have F4:=hI (F3.setCell HG 3 (js a2 pq.length c2));have n:Below g V3 (V3.setCell ⟨g,3,none⟩ (js a2 pq.length c2)):=(Nb _ _).setCell (p:=⟨g,3,none⟩) ep _;have M4:=hI (M3.belowN n Qp Qp Qp Qp Qp)
  have Q4:=hI ((n.block _ U.2.2.2.2).trans Q3);clear c9 fz n M3 F3 Q3 G S3 P3;generalize World.setCell V3 _ _=V4 at *;have x0:=M4.rd.cell;refine Qw fun b4=>?_;go_upto_region 8 with(go_at_call 235;refine(C5 V4 M4).mono ?_;rintro e V5 ⟨a3,c3,rfl,hf,j,H⟩;have M5:=hI j;have I5:=hI (bW H F4.size);have S5:=hI (S4.fx (W:=V5) (fun V x h=>h.fy HAW.1 HAW.2.1 hf.fy) HAW.1 HAW.2.1 hf);have P5:=hI (pR P4 HAW.1 HAW.2.1 hf);have F5:=hI (F4.trans hf);have Q5:=hI (hf.row n8.1 n8.2.1 Q4);have G5:=hI (hf.row U.1 U.2.1 G4);clear hf j H x0 b4 M4 F4 Q4 G4 S4 P4;have c9:=(Mu _ _ 4 _ _ _ G5).trans rfl;have fz:=qU G5 4);have S6:=hI (S5.set (o:=4) (js a3 pg.length c3) G5 eh (fun V x h=>h.set _ G5));have P6:=hI (kI (o:=4) (js a3 pg.length c3) P5 G5 eh);have I6:=hI (kI (o:=4) (js a3 pg.length c3) I5 G5 eh);have G6:Hid ((V5.setCell ⟨g,4,none⟩ (js a3 pg.length c3)).heap[g]? =some (.cells #[n1,n2,js a1 ps.length c1,js a2 pq.length c2,js a3 pg.length c3,.slice none 0 0] 28 (0,0))):=qT _ G5;have F6:=hI (F5.setCell HG 4 (js a3 pg.length c3));have n:Below g V5 (V5.setCell ⟨g,4,none⟩ (js a3 pg.length c3)):=(Nb _ _).setCell (p:=⟨g,4,none⟩) ep _;have M6:=hI (M5.belowN n Qp Qp Qp Qp Qp);have Q6:=hI ((n.block _ U.2.2.2.2).trans Q5);clear c9 fz n M5 F5 Q5 G5 S5 P5 I5;generalize World.setCell V5 _ _=V6 at *;have x0:=M6.rd.cell;refine Qw fun b4=>?_;go_upto_region 9 with(go_at_call 237;refine(C6 V6 M6).mono ?_;rintro e V7 ⟨a4,c4,y3,rfl,hf,j,H⟩;have M7:=hI j;have T7:=hI (H.base F6.size (fun V x h=>h.base F6.size));have S7:=hI (S6.fx (W:=V7) (fun V x h=>h.fy HAW.1 HAW.2.1 hf.fy) HAW.1 HAW.2.1 hf);have P7:=hI (pR P6 HAW.1 HAW.2.1 hf);have I7:=hI (pR I6 HAW.1 HAW.2.1 hf);have F7:=hI (F6.trans hf);have Q7:=hI (hf.row n8.1 n8.2.1 Q6);have G7:=hI (hf.row U.1 U.2.1 G6);clear hf j H x0 b4 M6 F6 Q6 G6 S6 P6 I6;have c9:=(Mu _ _ 5 _ _ _ G7).trans rfl;have fz:=qU G7 5);have S8:=hI (S7.set (o:=5) (js a4 pr.length c4) G7 eh (fun V x h=>h.set _ G7));have P8:=hI (kI (o:=5) (js a4 pr.length c4) P7 G7 eh);have I8:=hI (kI (o:=5) (js a4 pr.length c4) I7 G7 eh);have T8:=hI (T7.set (o:=5) (js a4 pr.length c4) G7 eh (fun V x h=>h.set _ G7))
  have G8:Hid ((V7.setCell ⟨g,5,none⟩ (js a4 pr.length c4)).heap[g]? =some (.cells #[n1,n2,js a1 ps.length c1,js a2 pq.length c2,js a3 pg.length c3,js a4 pr.length c4] 28 (0,0))):=qT _ G7;have F8:=hI (F7.setCell HG 5 (js a4 pr.length c4));have n:Below g V7 (V7.setCell ⟨g,5,none⟩ (js a4 pr.length c4)):=(Nb _ _).setCell (p:=⟨g,5,none⟩) ep _;have R:=hI (M7.belowN n Qp Qp Qp Qp Qp);have Q8:=hI ((n.block _ U.2.2.2.2).trans Q7);clear c9 fz n M7 F7 Q7 G7 S7 P7 I7 T7;generalize World.setCell V7 _ _=V8 at *;have b5:Hid (bN V8 (js a1 ps.length c1) (js a2 pq.length c2) (js a3 pg.length c3) (js a4 pr.length c4) ⟨n1,n2,ps,pq,pg,pr⟩):=⟨S8.sl (fun V x h=>h.rd),kK (f:=oO) P8 (fun _ _=>rfl) fun _ _=>rfl,kK (f:=oM) I8 (fun _ _=>rfl) fun _ _=>rfl,T8.sl (fun V x h=>h.rd)⟩;obtain⟨f4,bb⟩:=s6;have x0:=R.bad.cell;have y0:=R.bad.lt;have x1:=R.at_.cell;have y1:=R.at_.lt;have x2:=R.box.cell;have y2:=R.box.lt;dsimp only at x0 x1 x2;by_cases hi:bb=true
  ·subst hi;have j9:Hid (∀P,bX P->dP P≠l):=fun P h1 h2=>by have:=E P h1 h2;cases this
   clear E z b5 C3 C4 C5 C6;refine Vg ?_;go_quiet (fail);generalize a0:World.drewN _ _=VD;have c0:jb V8 VD:=(by rw[<-a0];exact dM Qy _);have QD:=jm c0 Q8;have e4:=R.below c0;clear a0 x0 y0 x1 y1 x2 y2;go_wp2_with (refine bP rfl 28 (.tmp 2) (.tmp 55) rfl (w.heap.size+1) #[.int .i64 0,.int .i64 0,.slice none 0 0,.slice none 0 0,.slice none 0 0,.slice none 0 0] _ 28 rfl rfl QD ef rfl Qj ?_);refine Mj fun r=>?_;have bE:jb w (VD.setRow (w.heap.size+1) #[.int .i64 0,.int .i64 0,.slice none 0 0,.slice none 0 0,.slice none 0 0,.slice none 0 0]):=e4.bel.trans ⟨rfl,rfl,rfl,Qx,fun k c5=>Nq _ _ _ _ ed⟩;generalize World.setRow _ _ _=c7 at *;refine Nh (v:= .tuple #[sE,.int .i64 8]) (eL (p:=2) (u:=3) rfl _ _ (w.heap.size+1) 28 #[.int .i64 0,.int .i64 0,.slice none 0 0,.slice none 0 0,.slice none 0 0,.slice none 0 0] (0,0) _ _ rfl rfl r underlying28 rfl ef) rfl ?_;exact Zk
  obtain rfl:bb=false:=Og;by_cases hq:f4=l.length
  ·subst hq;have d1:(((l.length:Nat):Int) != (l.length:Int))=false:=ee;have K8:=hI R.bel;have c8:=hI fun W (i:jb V8 W)=>WG ⟨n1,n2,ps,pq,pg,pr⟩ (js a1 ps.length c1) (js a2 pq.length c2) (js a3 pg.length c3) (js a4 pr.length c4) W (b5.below i) z;unfold aT at c8;clear C3 C4 C5 C6;by_cases L:bX ⟨n1,n2,ps,pq,pg,pr⟩
   ·have d2:=hI fun W (i:jb V8 W)=>zn ⟨n1,n2,ps,pq,pg,pr⟩ (js a1 ps.length c1) (js a2 pq.length c2) (js a3 pg.length c3) (js a4 pr.length c4) W (b5.below i) (wN L) (PF L);unfold aT at d2;have HCL:Hid (∀W,jb V8 W->Sem.run prog (convert 22 9 (js ba l.length bc)) W= .ok (.string (fR l)) W):=fun W i=>(H4.below (jt R.bel i)).str bc;have a6:=OX ⟨n1,n2,ps,pq,pg,pr⟩
    have H5:Hid (∀W base a c,World.ownsRow W base 5 1 (js a (dP ⟨n1,n2,ps,pq,pg,pr⟩).length c) (dP ⟨n1,n2,ps,pq,pg,pr⟩).length (eT (dP ⟨n1,n2,ps,pq,pg,pr⟩))->Sem.run prog (convert 312 9 (js a (dP ⟨n1,n2,ps,pq,pg,pr⟩).length c)) W= .ok (.string (fR (dP ⟨n1,n2,ps,pq,pg,pr⟩))) W):=fun W base a c H=>by
     obtain⟨i2,i3,e,h1,-⟩:=BL.of_own H a6;cases e;rw[zm];exact h1.str _
    by_cases hR:dP ⟨n1,n2,ps,pq,pg,pr⟩=l
    ·have d3:((fR (dP ⟨n1,n2,ps,pq,pg,pr⟩)).toList==(fR l).toList)=true:=Eg;generalize c6:dP ⟨n1,n2,ps,pq,pg,pr⟩=d4 at *;have H6:=hI c6;clear c6;generalize fR d4=f7 at *;generalize fR l=SL at *;clear b5 E z a6;refine Vg ?_;refine iH [] (fun W=>jb V8 W) ef ?_;refine ZM fun U0 b t0 u0 t1 u1 t2 u2 y u3 g0 g1 g2 g3 g4 g5=>?_;refine eH 0 ef Qd b Qs ?_;intro _;intro K hK o H;simp at H;subst H;refine Qo ?_;refine eH 1 ef Qd b Qs ?_;intro _;intro K hK o H;simp at H;subst H;refine Qo ?_;refine eH 2 ef Qd b Qs ?_;intro _;intro K hK o H;simp at H;subst H;refine Qo ?_
     refine eH 3 ef Qd b Qs ?_;intro _;intro K hK o H;simp at H;subst H;refine Qo ?_;refine aS 4 ef ?_;intro K hK;refine Ot ?_;refine hK _ _ (fun _=>b) ?_;clear hK K;refine eH 5 ef Qd b Qs ?_;intro _;intro K hK o H;simp at H;subst H;refine Qo ?_;refine eH 6 ef Qd b Qs ?_;intro _;intro K hK o H;simp at H;subst H;refine Qo ?_;refine eH 7 ef Qd b Qs ?_;intro _;intro K hK o H;simp at H;subst H;refine Qo ?_;refine eH 8 ef Qd b Qs ?_;intro _;intro K hK o H;simp at H;subst H;refine Qo ?_;refine aS 9 ef ?_;refine Oe (c8 U0 b) fun K hK=>?_;refine Qe fun U1 i=>?_;rw[Np L];simp[go_sem];have ho:=jt b i;refine hK _ _ (fun _=>ho) ?_;clear hK K i b;refine eH 10 ef Qd ho Qs ?_;intro _;intro K hK o H;simp at H;subst H;refine Qo ?_;refine eH 11 ef Qd ho Qs ?_;intro _;intro K hK o H;simp at H;subst H;refine Qo ?_;refine eH 12 ef Qd ho Qs ?_;intro _;intro K hK o H;simp at H;subst H;refine Qo ?_;refine eH 13 ef Qd ho Qs ?_;intro _;intro K hK o H;simp at H;subst H;refine Qo ?_;refine eH 16 ef Qd ho Qs ?_;intro _;intro K hK o H;simp at H;subst H;refine Qo ?_;refine Mh fun d5=>?_;refine eH 17 ef Qd ho Qs ?_;intro _;intro K hK o H;simp at H;subst H;refine Qo ?_;refine aS 14 ef ?_;refine Oe (d2 U1 ho) fun K hK=>?_;refine Ou fun U2 f8 c9 H i=>?_;simp[go_sem];have eB:=jt ho i;refine hK _ _ (fun _=>eB) ?_;have cc:=H5 U2 _ _ _ H
     clear hK K i ho d5 H t0 u0 t1 u1 t2 u2 u3 g0 g1 g2 g3 g4 g5;refine aS 15 ef ?_;intro K hK;refine Vo ?_;refine .inl ?_;refine hK _ _ (fun _=>eB) ?_;clear hK K cc;refine eH 18 ef Qd eB Qs ?_;intro _;intro K hK o H;simp at H;subst H;refine Qo ?_;refine zB [19] eB ?_;refine eI ef ?_ _;clear x0 y0 x1 y1 x2 y2 y;have QD:=jm eB Q8;have e4:=R.below eB;have f9:=hI ((jm eB G8));replace QD:=hI QD;have e2:aU (dI B.heap.size) U2 B.heap.size 80 3 (js a1 ps.length c1) ps xss:=S8.fx (fun V x h=>h.fy HAW.1 HAW.2.1 (Fx.of_below eB).fy) HAW.1 HAW.2.1 (Fx.of_below eB);have e3:aU (iS B.heap.size) U2 B.heap.size 102 7 (js a4 pr.length c4) pr y3:=T8.fx (fun V x h=>h.fy HAW.1 HAW.2.1 (Fx.of_below eB).fy) HAW.1 HAW.2.1 (Fx.of_below eB);have eA:=bU P8 eB;have eq:=bU I8 eB;refine Zo fun d6 d7 d8 d9 e0 _=>?_;clear e2 e3 eA eq e4 eB;go_upto_region 11 with fail;go_step;refine Dx rfl 28 (.tmp 7) rfl g rfl 28 #[n1,n2,js a1 ps.length c1,js a2 pq.length c2,js a3 pg.length c3,js a4 pr.length c4] (0,0) _ f9 underlying28 rfl ef ?_;simp[Act.put];refine bP rfl 28 (.tmp 2) (.tmp 56) rfl (w.heap.size+1) #[n1,n2,js a1 ps.length c1,js a2 pq.length c2,js a3 pg.length c3,js a4 pr.length c4] _ 28 rfl rfl QD ef rfl Qj ?_;have r:=Dp U2 (w.heap.size+1) _ #[n1,n2,js a1 ps.length c1,js a2 pq.length c2,js a3 pg.length c3,js a4 pr.length c4] _ _ QD;have bE:jb w (U2.setRow (w.heap.size+1) #[n1,n2,js a1 ps.length c1,js a2 pq.length c2,js a3 pg.length c3,js a4 pr.length c4]):=e0.bel.trans ⟨rfl,rfl,rfl,Qx,fun k c5=>Nq _ _ _ _ ed⟩;have g7:Below B.heap.size U2 (U2.setRow (w.heap.size+1) #[n1,n2,js a1 ps.length c1,js a2 pq.length c2,js a3 pg.length c3,js a4 pr.length c4])->True:=fun _=>Py;have g8:=d6.setRow #[n1,n2,js a1 ps.length c1,js a2 pq.length c2,js a3 pg.length c3,js a4 pr.length c4] QD eh (fun V x h=>h.setRow _ QD);have g9:=d7.setRow #[n1,n2,js a1 ps.length c1,js a2 pq.length c2,js a3 pg.length c3,js a4 pr.length c4] QD eh (fun V x h=>h.setRow _ QD);have i0:=mK (C:=#[n1,n2,js a1 ps.length c1,js a2 pq.length c2,js a3 pg.length c3,js a4 pr.length c4]) d8 QD eh
     have i1:=mK (C:=#[n1,n2,js a1 ps.length c1,js a2 pq.length c2,js a3 pg.length c3,js a4 pr.length c4]) d9 QD eh;clear g7;generalize World.setRow _ _ _=c7 at *;refine Vf ?_;refine Nh (v:= .tuple #[aT ⟨n1,n2,ps,pq,pg,pr⟩ (js a1 ps.length c1) (js a2 pq.length c2) (js a3 pg.length c3) (js a4 pr.length c4),.int .i64 0]) (eL (p:=2) (u:=3) rfl _ _ (w.heap.size+1) 28 #[n1,n2,js a1 ps.length c1,js a2 pq.length c2,js a3 pg.length c3,js a4 pr.length c4] (0,0) _ _ rfl rfl r underlying28 rfl ef) rfl ?_;have H: ∀k,B.heap.size<=k->old w.heap.size k=false:=fun k c5=>by have:=HL.o;simp[old];omega
     exact⟨bE,.inl ⟨⟨n1,n2,ps,pq,pg,pr⟩,a1,c1,a2,c2,a3,c3,a4,c4,L,H6.trans hR,rfl,g8.offS H,kK (f:=oO) (kU i0 H) (fun _ _=>rfl) fun _ _=>rfl,kK (f:=oM) (kU i1 H) (fun _ _=>rfl) fun _ _=>rfl,g9.offT H⟩⟩
    have j9:Hid (∀P,bX P->dP P≠l):=fun P h1 h2=>by have:=E P h1 h2;cases this;exact hR h2
    have d3:((fR (dP ⟨n1,n2,ps,pq,pg,pr⟩)).toList==(fR l).toList)=false:=by
     rw[Nd];intro e;exact hR ((CH a6 H4.lt).1 (CG e))
    generalize dP ⟨n1,n2,ps,pq,pg,pr⟩=d4 at *;generalize fR d4=f7 at *;generalize fR l=SL at *;clear b5 E z a6 hR;refine Vg ?_;refine iH [] (fun W=>jb V8 W) ef ?_;refine ZM fun U0 b t0 u0 t1 u1 t2 u2 y u3 g0 g1 g2 g3 g4 g5=>?_;refine eH 0 ef Qd b Qs ?_;intro _;intro K hK o H;simp at H;subst H;refine Qo ?_;refine eH 1 ef Qd b Qs ?_;intro _;intro K hK o H;simp at H;subst H;refine Qo ?_;refine eH 2 ef Qd b Qs ?_;intro _;intro K hK o H;simp at H;subst H;refine Qo ?_
    refine eH 3 ef Qd b Qs ?_;intro _;intro K hK o H;simp at H;subst H;refine Qo ?_;refine aS 4 ef ?_;intro K hK;refine Ot ?_;refine hK _ _ (fun _=>b) ?_;clear hK K;refine eH 5 ef Qd b Qs ?_;intro _;intro K hK o H;simp at H;subst H;refine Qo ?_;refine eH 6 ef Qd b Qs ?_;intro _;intro K hK o H;simp at H;subst H;refine Qo ?_;refine eH 7 ef Qd b Qs ?_;intro _;intro K hK o H;simp at H;subst H;refine Qo ?_;refine eH 8 ef Qd b Qs ?_;intro _;intro K hK o H;simp at H;subst H;refine Qo ?_;refine aS 9 ef ?_;refine Oe (c8 U0 b) fun K hK=>?_;refine Qe fun U1 i=>?_;rw[Np L];simp[go_sem];have ho:=jt b i;refine hK _ _ (fun _=>ho) ?_;clear hK K i b;refine eH 10 ef Qd ho Qs ?_;intro _;intro K hK o H;simp at H;subst H;refine Qo ?_;refine eH 11 ef Qd ho Qs ?_;intro _;intro K hK o H;simp at H;subst H;refine Qo ?_;refine eH 12 ef Qd ho Qs ?_;intro _;intro K hK o H;simp at H;subst H;refine Qo ?_;refine eH 13 ef Qd ho Qs ?_;intro _;intro K hK o H;simp at H;subst H;refine Qo ?_;refine eH 16 ef Qd ho Qs ?_;intro _;intro K hK o H;simp at H;subst H;refine Qo ?_;refine Mh fun d5=>?_;refine eH 17 ef Qd ho Qs ?_;intro _;intro K hK o H;simp at H;subst H;refine Qo ?_;refine aS 14 ef ?_;refine Oe (d2 U1 ho) fun K hK=>?_;refine Ou fun U2 _ _ H i=>?_;simp[go_sem];have eB:=jt ho i;refine hK _ _ (fun _=>eB) ?_;have cc:=H5 U2 _ _ _ H
    clear hK K i ho d5 H t0 u0 t1 u1 t2 u2 u3 g0 g1 g2 g3 g4 g5;refine aS 15 ef ?_;intro K hK;refine Vo ?_;refine .inl ?_;refine hK _ _ (fun _=>eB) ?_;clear hK K cc;refine eH 18 ef Qd eB Qs ?_;intro _;intro K hK o H;simp at H;subst H;refine Qo ?_;refine zB [19] eB ?_;refine eI ef ?_ _;clear x0 y0 x1 y1 x2 y2 y;have QD:=jm eB Q8;have e4:=R.below eB;go_wp2_with (refine bP rfl 28 (.tmp 2) (.tmp 55) rfl (w.heap.size+1) #[.int .i64 0,.int .i64 0,.slice none 0 0,.slice none 0 0,.slice none 0 0,.slice none 0 0] _ 28 rfl rfl QD ef rfl Qj ?_);have r:=Dp U2 (w.heap.size+1) _ #[.int .i64 0,.int .i64 0,.slice none 0 0,.slice none 0 0,.slice none 0 0,.slice none 0 0] _ _ QD;have bE:jb w (U2.setRow (w.heap.size+1) #[.int .i64 0,.int .i64 0,.slice none 0 0,.slice none 0 0,.slice none 0 0,.slice none 0 0]):=e4.bel.trans ⟨rfl,rfl,rfl,Qx,fun k c5=>Nq _ _ _ _ ed⟩;generalize World.setRow _ _ _=c7 at *;refine Nh (v:= .tuple #[sE,.int .i64 8]) (eL (p:=2) (u:=3) rfl _ _ (w.heap.size+1) 28 #[.int .i64 0,.int .i64 0,.slice none 0 0,.slice none 0 0,.slice none 0 0,.slice none 0 0] (0,0) _ _ rfl rfl r underlying28 rfl ef) rfl ?_;exact Zk
   have j9:Hid (∀P,bX P->dP P≠l):=fun P h1 h2=>by have:=E P h1 h2;cases this;exact L h1
   clear b5 E z;refine Vg ?_;refine iH [] (fun W=>jb V8 W) ef ?_;refine ZM fun U0 b _ _ _ _ _ _ y _ _ _ _ _ _ _=>?_;refine eH 0 ef Qd b Qs ?_;intro _;intro K hK o H;simp at H;subst H;refine Qo ?_;refine eH 1 ef Qd b Qs ?_;intro _;intro K hK o H;simp at H;subst H;refine Qo ?_;refine eH 2 ef Qd b Qs ?_;intro _;intro K hK o H;simp at H;subst H;refine Qo ?_;refine eH 3 ef Qd b Qs ?_;intro _;intro K hK o H;simp at H;subst H;refine Qo ?_;refine aS 4 ef ?_;intro K hK;refine Ot ?_
   refine hK _ _ (fun _=>b) ?_;clear hK K;refine eH 5 ef Qd b Qs ?_;intro _;intro K hK o H;simp at H;subst H;refine Qo ?_;refine eH 6 ef Qd b Qs ?_;intro _;intro K hK o H;simp at H;subst H;refine Qo ?_;refine eH 7 ef Qd b Qs ?_;intro _;intro K hK o H;simp at H;subst H;refine Qo ?_;refine eH 8 ef Qd b Qs ?_;intro _;intro K hK o H;simp at H;subst H;refine Qo ?_;refine aS 9 ef ?_;refine Oe (c8 U0 b) fun K hK=>?_;refine Qe fun U1 i=>?_;rw[Nm L];simp[go_sem];have ho:=jt b i;refine hK _ _ (fun _=>ho) ?_;clear hK K i b;refine eH 10 ef Qd ho Qs ?_;intro _;intro K hK o H;simp at H;subst H;refine Qo ?_;refine eH 11 ef Qd ho Qs ?_;intro _;intro K hK o H;simp at H;subst H;refine Qo ?_;refine eH 12 ef Qd ho Qs ?_;intro _;intro K hK o H;simp at H;subst H;refine Qo ?_;refine sR 13 rfl ef Qd ho rfl ?_
   conv=>arg 8;simp[Act.put]
   refine sR 16 rfl ef Qd ho rfl ?_
   conv=>arg 8;simp[Act.put]
   refine sR 17 rfl ef Qd ho rfl ?_
   conv=>arg 8;simp[Act.put]
   refine sR 14 rfl ef Qd ho rfl ?_
   conv=>arg 8;simp[Act.put]
   refine sR 15 rfl ef Qd ho rfl ?_
   conv=>arg 8;simp[Act.put]
   refine sR 18 rfl ef Qd ho rfl ?_
   conv=>arg 8;simp[Act.put]
   refine zB [19] ho ?_;refine eI ef ?_ _;clear x0 y0 x1 y1 x2 y2 y;have QD:=jm ho Q8;have e4:=R.below ho;go_wp2_with (refine bP rfl 28 (.tmp 2) (.tmp 55) rfl (w.heap.size+1) #[.int .i64 0,.int .i64 0,.slice none 0 0,.slice none 0 0,.slice none 0 0,.slice none 0 0] _ 28 rfl rfl QD ef rfl Qj ?_);have r:=Dp U1 (w.heap.size+1) _ #[.int .i64 0,.int .i64 0,.slice none 0 0,.slice none 0 0,.slice none 0 0,.slice none 0 0] _ _ QD;have bE:jb w (U1.setRow (w.heap.size+1) #[.int .i64 0,.int .i64 0,.slice none 0 0,.slice none 0 0,.slice none 0 0,.slice none 0 0]):=e4.bel.trans ⟨rfl,rfl,rfl,Qx,fun k c5=>Nq _ _ _ _ ed⟩;generalize World.setRow _ _ _=c7 at *;refine Nh (v:= .tuple #[sE,.int .i64 8]) (eL (p:=2) (u:=3) rfl _ _ (w.heap.size+1) 28 #[.int .i64 0,.int .i64 0,.slice none 0 0,.slice none 0 0,.slice none 0 0,.slice none 0 0] (0,0) _ _ rfl rfl r underlying28 rfl ef) rfl ?_;exact Zk
  have j9:Hid (∀P,bX P->dP P≠l):=fun P h1 h2=>by have:=E P h1 h2;cases this;exact hq rfl
  have d1:((f4:Int) != (l.length:Int))=true:=em;clear E z b5 C3 C4 C5 C6;refine Vg ?_;go_quiet (fail);generalize a0:World.drewN _ _=VD;have c0:jb V8 VD:=(by rw[<-a0];exact dM Qy _);have QD:=jm c0 Q8;have e4:=R.below c0;clear a0 x0 y0 x1 y1 x2 y2;go_wp2_with (refine bP rfl 28 (.tmp 2) (.tmp 55) rfl (w.heap.size+1) #[.int .i64 0,.int .i64 0,.slice none 0 0,.slice none 0 0,.slice none 0 0,.slice none 0 0] _ 28 rfl rfl QD ef rfl Qj ?_);refine Mj fun r=>?_;have bE:jb w (VD.setRow (w.heap.size+1) #[.int .i64 0,.int .i64 0,.slice none 0 0,.slice none 0 0,.slice none 0 0,.slice none 0 0]):=e4.bel.trans ⟨rfl,rfl,rfl,Qx,fun k c5=>Nq _ _ _ _ ed⟩;generalize World.setRow _ _ _=c7 at *;refine Nh (v:= .tuple #[sE,.int .i64 8]) (eL (p:=2) (u:=3) rfl _ _ (w.heap.size+1) 28 #[.int .i64 0,.int .i64 0,.slice none 0 0,.slice none 0 0,.slice none 0 0,.slice none 0 0] (0,0) _ _ rfl rfl r underlying28 rfl ef) rfl ?_;exact Zk
def Kn (N:Nat) (T:TypeId) (V W:World):Prop:= ∀k cs t f,N<=k->t≠T->V.heap[k]? =some (.cells cs t f)->W.heap[k]? =some (.cells cs t f)
section
variable {w V W:World}{N:Nat}{T:TypeId}
def Kn.trans (h:Kn N T U V) (k:Kn N T V W):Kn N T U W:=fun i cs t f h1 h2 h3=>k i cs t f h1 h2 (h i cs t f h1 h2 h3)
def Kn.low (H:jb V W):Kn N T V W:=fun k cs t f _ _ h=>(H.block k (aD h)).trans h
def Kn.set {g:Nat}(H:g<N) (o:Nat) (u:Value):Kn N T V (V.setCell ⟨g,o,none⟩ u):=fun k cs t f a _ h=>(Ny V ⟨g,o,none⟩ u k em).trans h
def Kn.grown {base n:Nat}{v:Value}{o:Obj}(h:V.ownsRow base T sz v n xs) (a:(V.alloc o).grownBy W v.ownBlock):Kn N T V W:=fun k cs t f _ b H=>by
 refine(a.block k (by simp;have:=aD H;omega) (fun e=> ?_)).trans ((Nv _ _ (aD H)).trans H);obtain⟨c,q,-⟩:=fD h e.symm;rw[H]at q
 injection q with q
 injection q with _ q
 exact b q
def oS {n:Nat}{v:Value}(h:V.ownsRow N e sz v n xs) (he:e≠T) (b:Kn N T V W):W.ownsRow N e sz v n xs:=by
 refine⟨h.1,?_⟩;rcases h.2 with c | ⟨k,cap,cur,rfl,H,a,rest⟩
 ·exact .inl c
 exact .inr ⟨k,cap,cur,rfl,H,b _ _ _ _ H he a,rest⟩
def dI.kn {b:List Value}{x:aF}(H:Kn N T V W) (d:133≠T) (h:dI N V b x):dI N W b x:=by
 obtain⟨a,c,e,f⟩:=h;exact⟨a,c,e,oS f d H⟩
def iS.kn {a:List Value}{x:Rt}(H:Kn N T V W) (h3:3≠T) (h7:207≠T) (h:iS N V a x):iS N W a x:=by
 obtain⟨p,pc,o,O,f,F,e,o1,o2,o3⟩:=h;exact⟨p,pc,o,O,f,F,e,oS o1 h3 H,oS o2 h3 H,oS o3 h7 H⟩
def aU.kn {α:Type}{O:World->List Value->α->Prop}{v:Value}{l:List α}{xss:List (List Value)}(h:aU O V N e sz v l xss) (he:e≠T) (H:Kn N T V W) (b: ∀a x,O V a x->O W a x):aU O W N e sz v l xss:=
 ⟨oS h.own he H,h.len,h.sz,fun i h1 h2=>b _ _ (h.el i h1 h2)⟩
structure PU (w W:World) (n0 n1:Int) (s q g r:Value) (A:List aF) (B:List Pt) (C:List Sg) (D:List Rt) (xss tss:List (List Value)):Prop where
 fr:Fr w [(#[n0,n1,s,q,g,r],28)] W
 S:aU (dI (w+1)) W (w+1) 80 3 s A xss
 P:W.ownsRow (w+1) 143 2 q B (B.flatMap oO)
 G:W.ownsRow (w+1) 145 3 g C (C.flatMap oM)
 R:aU (iS (w+1)) W (w+1) 102 7 r D tss
variable {n0 n1:Int}{s q g r v:Value}{A:List aF}{B:List Pt}{C:List Sg}{D:List Rt}{xss tss:List (List Value)}
def PU.low (h:PU w V n0 n1 s q g r A B C D xss tss) (H:jb V W):PU w W n0 n1 s q g r A B C D xss tss:=
 ⟨h.fr.below H,h.S.kn (T:=0) eh (Kn.low H) (fun _ _ k=>k.kn (T:=0) (Kn.low H) eh),bU h.P H,bU h.G H,h.R.kn (T:=0) eh (Kn.low H) (fun _ _ k=>k.kn (T:=0) (Kn.low H) eh eh)⟩
structure Pg (w W:World) (o:Nat) (v:Value):Prop where
 cell:jc W w o v
 lt:w.heap.size<W.heap.size
 fz: ∀o,W.frozen? ⟨w,o,none⟩=false
def Pg.of {L:Array Value}(h:Fr w [(L,28)] W){o:Nat}{v:Value}(a:L[o]? =some v):Pg w W o v:=by
 have H:=h.row 0 _ rfl;exact⟨(Mu W _ o _ _ _ H).trans a,aD H,fun o=>by simp[World.frozen?]at *;simp[H]⟩
def PU.grow (h:PU w V n0 n1 s q g r A B C D xss tss){n:Nat}{u:Value}{o:Obj}(a:V.ownsRow (w+1) T sz u n xs) (b:(V.alloc o).grownBy W u.ownBlock):Fr w [(#[n0,n1,s,q,g,r],28)] W/\Kn (w+1) T V W:=by
 have H:jb V (V.alloc o):=(Nb _ _).alloc ep o;exact⟨(h.fr.below H).low (dT (bU a H) ep (by have:=(h.fr.below H).sz;simpa using this) b),Kn.grown a b⟩
def PU.addSec (h:PU w V n0 n1 s q g r A B C D xss tss){o:Obj}{a:List Value}{x:aF}(c:(V.alloc o).grownBy W s.ownBlock) (d:W.ownsRow (w+1) 80 3 v (A.length+1) (xss.flatMap id++a)) (hx:dI (w+1) V a x) (hl:a.length=3):
  Pg w W 2 s/\PU w (W.setCell ⟨w,2,none⟩ v) n0 n1 v q g r (A++[x]) B C D (xss++[a]) tss:=by
 obtain⟨b,e⟩:=h.grow h.S.own c;have f:Kn (w+1) 80 W (W.setCell ⟨w,2,none⟩ v):=Kn.set ed 2 v;have H:=e.trans f;exact⟨Pg.of b rfl,b.set 0 rfl 2 v,h.S.app (fun _ _ k=>k.kn H eh) hl hx (aV d ee v),oS h.P eh H,oS h.G eh H,h.R.kn eh H (fun _ _ k=>k.kn H eh eh)⟩
def PU.addPt (h:PU w V n0 n1 s q g r A B C D xss tss){o:Obj}{x:Pt}(b:(V.alloc o).grownBy W q.ownBlock) (c:W.ownsRow (w+1) 143 2 v (B.length+1) (B.flatMap oO++oO x)):
  Pg w W 3 q/\PU w (W.setCell ⟨w,3,none⟩ v) n0 n1 s v g r A (B++[x]) C D xss tss:=by
 obtain⟨a,d⟩:=h.grow h.P b;have e:Kn (w+1) 143 W (W.setCell ⟨w,3,none⟩ v):=Kn.set ed 3 v;have H:=d.trans e;exact⟨Pg.of a rfl,a.set 0 rfl 3 v,h.S.kn eh H (fun _ _ k=>k.kn H eh),by rw[Mx,Dg];simpa using aV c ee v,oS h.G eh H,h.R.kn eh H (fun _ _ k=>k.kn H eh eh)⟩
def PU.addSg (h:PU w V n0 n1 s q g r A B C D xss tss){o:Obj}{x:Sg}(b:(V.alloc o).grownBy W g.ownBlock) (c:W.ownsRow (w+1) 145 3 v (C.length+1) (C.flatMap oM++oM x)):
  Pg w W 4 g/\PU w (W.setCell ⟨w,4,none⟩ v) n0 n1 s q v r A B (C++[x]) D xss tss:=by
 obtain⟨a,d⟩:=h.grow h.G b;have e:Kn (w+1) 145 W (W.setCell ⟨w,4,none⟩ v):=Kn.set ed 4 v;have H:=d.trans e;exact⟨Pg.of a rfl,a.set 0 rfl 4 v,h.S.kn eh H (fun _ _ k=>k.kn H eh),oS h.P eh H,by rw[Mx,Dg];simpa using aV c ee v,h.R.kn eh H (fun _ _ k=>k.kn H eh eh)⟩
def PU.addRt (h:PU w V n0 n1 s q g r A B C D xss tss){o:Obj}{a:List Value}{x:Rt}(c:(V.alloc o).grownBy W r.ownBlock) (d:W.ownsRow (w+1) 102 7 v (D.length+1) (tss.flatMap id++a)) (hx:iS (w+1) V a x) (hl:a.length=7):
  Pg w W 5 r/\PU w (W.setCell ⟨w,5,none⟩ v) n0 n1 s q g v A B C (D++[x]) xss (tss++[a]):=by
 obtain⟨b,e⟩:=h.grow h.R.own c;have f:Kn (w+1) 102 W (W.setCell ⟨w,5,none⟩ v):=Kn.set ed 5 v;have H:=e.trans f;exact⟨Pg.of b rfl,b.set 0 rfl 5 v,h.S.kn eh H (fun _ _ k=>k.kn H eh),oS h.P eh H,oS h.G eh H,h.R.app (fun _ _ k=>k.kn H eh eh) hl hx (aV d ee v)⟩
end
abbrev cW:Array Value:=#[jV 0,jV 0,jN,jN,jN,jN]
def AW {k M pos n:Nat}{m:Int}(H:(M:Int)=m\/M=0/\m<0): ∃D:Bool,(D=true->k<M/\pos<n)/\(D=false-> ¬(k<M/\pos<n))/\
  ((decide ((k:Int)<m)=false/\D=false)\/(decide ((k:Int)<m)=true/\decide ((pos:Int)<(n:Int))=false/\ ¬pos<n/\D=false)\/(decide ((k:Int)<m)=true/\decide ((pos:Int)<(n:Int))=true/\pos<n/\D=true)):=by
 refine⟨decide (k<M/\pos<n),fun h=>Ib h,fun h=>of_decide_eq_false h,?_⟩;by_cases h1:k<M
 ·have d1:decide ((k:Int)<m)=true:=by simp;omega
  by_cases h2:pos<n
  ·exact .inr (.inr ⟨d1,em,h2,by simp[h1,h2]⟩)
  exact .inr (.inl ⟨d1,em,h2,by simp[h2]⟩)
 exact .inl ⟨em,by simp[h1]⟩
def gW (m:Int):((m.toNat:Nat):Int)=m\/m.toNat=0/\m<0:=by omega
def iD {c:Array Value}{T:TypeId}(h:Fr w [(c,T)] W):jk W w c T:=h.row 0 _ rfl
def sH (L:List Int) (p e:Nat):List Jn:=(List.range e).map fun j=>sG L (p+2+2 * j)
def FI (L:List Int) (p e:Nat):(sH L p e).length=e:=by simp[sH]
def zi (L:List Int) (p e:Nat):sH L p (e+1)=sH L p e++[sG L (p+2+2 * e)]:=by simp[sH,Hh]
def zh (L:List Int) (p:Nat): ∃m,((0<num L (p+1)/\m=3)\/(¬0<num L (p+1)/\m=2))/\pM L p=(⟨num L p,num L (p+1),sH L p m⟩,p+2+2 * m):=by
 by_cases h:0<num L (p+1)
 ·exact⟨3,.inl ⟨h,rfl⟩,by rw[pM,Np h];rfl⟩
 exact⟨2,.inr ⟨h,rfl⟩,by rw[pM,Nm h];rfl⟩
def OT (L:List Int) (p:Nat) (M:Int):(mM L p M).length<=L.length-p:=by simp[mM];omega
def OS (L:List Int) (n:Nat): ∀k p,(eF n (lF L) k p).1.length+p<=(eF n (lF L) k p).2/\(eF n (lF L) k p).2<=max p (n+1)
 | 0,p=>by simp[eF];omega
 | k+1,p=>by
  rw[eF];split
  ·have:=OS L n k (p+2);show(_::_).length+p<=(eF n (lF L) k (p+2)).2/\(eF n (lF L) k (p+2)).2<=_;rw[Du];show(eF n (lF L) k (p+2)).1.length+1+p<=_/\_;omega
  simp;omega
def zg {p:Nat}(h:p<L.length):p+7<=(lX L p).2/\(lX L p).2<=L.length+8/\(lX L p).1.A.length<=L.length/\(lX L p).1.O.length<=L.length/\(lX L p).1.fl.length<=L.length+8:=by
 have h1:=OT L (p+4) (num L (p+3));generalize H:mM L (p+4) (num L (p+3))=a at h1;have h2:=OT L (p+4+a.length+1) (num L (p+4+a.length));generalize d:mM L (p+4+a.length+1) (num L (p+4+a.length))=b at h2;have h3:=OS L L (num L (p+4+a.length+1+b.length)).toNat (p+4+a.length+1+b.length+1)
 have e:lX L p=(⟨num L p,num L (p+1),num L (p+2),a,b,(eF L (lF L) (num L (p+4+a.length+1+b.length)).toNat (p+4+a.length+1+b.length+1)).1,num L (eF L (lF L) (num L (p+4+a.length+1+b.length)).toNat (p+4+a.length+1+b.length+1)).2⟩,(eF L (lF L) (num L (p+4+a.length+1+b.length)).toNat (p+4+a.length+1+b.length+1)).2+1):=by
  subst d H;rfl
 rw[e];generalize eF L (lF L) (num L (p+4+a.length+1+b.length)).toNat (p+4+a.length+1+b.length+1)=c at h3;dsimp only;omega
def ze {a:Option Addr}{p:Nat}{r:Rt}{nx:Nat}(hl:IL w a L L) (H:L.length<=5000) (d:p<=20000) (i:lX L p=(r,nx)):jW 248 #[js a L c,p] w fun e b=> ∃P pc o O f F,e= .returned (.tuple #[.agg #[r.id,r.E,r.X,js P r.A pc,js o r.O O,js f r.fl F,r.T],jV (nx:Int)])/\iS w b [jV r.id,jV r.E,jV r.X,.slice P r.A pc,.slice o r.O O,.slice f r.fl F,jV r.T] r/\jb w b:=by
 refine(z7h L a c p w hl H d).mono ?_;rw[i];rintro e b ⟨v3,v4,v5,rfl,o3,o4,o5,j⟩;obtain⟨P,pc,rfl⟩:=iG o3;obtain⟨o,O,rfl⟩:=iG o4;obtain⟨f,F,rfl⟩:=iG o5;have e: ∀l:List Int,l.flatMap iC=l.map (Value.int .i64):=fun l=>Mn
 exact⟨P,pc,o,O,f,F,rfl,⟨P,pc,o,O,f,F,rfl,by rw[e];exact o3,by rw[e];exact o4,o5⟩,j⟩
def zd {x y:Int}{v v':Value}{n:Nat}{o:Obj}(hF:Fr w [(#[x,y,v],80)] V) (c:V.ownsRow (w+1) 133 2 v n xs) (d:(V.alloc o).grownBy W v.ownBlock):
  jc W w 2 v/\w.heap.size<W.heap.size/\(∀o,W.frozen? ⟨w,o,none⟩=false)/\Fr w [(#[x,y,v'],80)] (W.setCell ⟨w,2,none⟩ v'):=by
 have H:jb V (V.alloc o):=(Nb _ _).alloc ep o;have b:=(hF.below H).low (dT (bU c H) ep (by have:=(hF.below H).sz;simpa using this) d);have a:=b.row 0 _ rfl;exact⟨(Mu W _ 2 _ _ _ a).trans rfl,aD a,fun o=>by simp[World.frozen?]at *;simp[a],b.set 0 rfl 2 v'⟩
theorem za (l:List Nat) (ba:Option Addr) (bc:Nat) (w:World) (e6:BL w ba l.length l) (g0:l.length<=bc) (c1:l.length<=2048):Calls prog 159 #[js ba l.length bc] w (AX w l):=by
 have k9:=hI fun W X=>z64 l ba bc W (e6.below X) g0 (by omega);have H9:=hI e6;clear e6;go_in;go_upto_region 1 with fail;generalize hZ:World.alloc _ _=W0;have Z0:Hid (Fr w [(cW,28)] W0):=by show Fr _ _ _;rw[<-hZ];exact(Fr.start w).alloc rfl cW 28
 clear hZ
 iterate 6 go_step
 go_at_call 246;refine(k9 _ Z0.bel).mono ?_;rintro e w1 ⟨X,⟨v,L,rfl,b4,hl,g1⟩ | ⟨rfl,g1⟩⟩
 rotate_left
 ·have Z1:=hI (Z0.below X);have l1:=hI g1;clear X g1 Z0 k9;go_upto_region 3 with fail
  iterate 4 go_step
  refine bP rfl 28 (.tmp 2) (.tmp 25) rfl w.heap.size cW cW 28 rfl rfl (Z1.row 0 _ rfl) (by kernel_rfl) rfl (by simp[Value.oneCell']) ?_;have Z2:=hI (Z1.setRow 0 rfl cW);clear Z1;generalize World.setRow _ _ _=l3 at *;simp[Act.put];go_wp2_with fail;refine Nh (v:= .tuple #[.agg cW,.int .i64 8]) (eL rfl _ _ w.heap.size 28 _ (0,0) _ _ rfl rfl (Z2.row 0 _ rfl) underlying28 rfl (by kernel_rfl)) rfl ?_;exact⟨Z2.bel,.inr ⟨fun p b9 k3=>l1 (gJ p) (wN b9).num k3.symm,rfl⟩⟩
 have Z1:=hI (Z0.below X);obtain⟨a,c,rfl⟩:=iG b4;have e7:=RY (aA.ilv b4);have b3:=hI (RN L a c w1 e7);have g2:=hI fun W (q7:jb w1 W) (p:Nat) (r:Rt) (nx:Nat) (b9:p<=20000) (f8:lX L p=(r,nx))=>ze (c:=c) (e7.below q7) (by omega) b9 f8;have l4:=hI g1;have g3:L.length<=2048:=by omega
 have g9:=hI (jt Z0.bel X);obtain⟨n,l6⟩: ∃n,n=L.length:=⟨_,rfl⟩;have f9:=hI l6;rw[<-l6]at b3 g2 g3 ⊢;obtain⟨n0,hb⟩: ∃x,x=num L 0:=⟨_,rfl⟩;obtain⟨n1,ho⟩: ∃x,x=num L 1:=⟨_,rfl⟩;obtain⟨k4,n9⟩: ∃x,x=num L 2:=⟨_,rfl⟩;obtain⟨g4,e8⟩: ∃M,M=k4.toNat:=⟨_,rfl⟩;obtain⟨q8,g5⟩: ∃P,P=eF n (pM L) g4 3:=⟨_,rfl⟩;have o0:=hI hb;have o1:=hI ho;have o2:=hI n9;have l7:=hI e8;have g6:=hI g5;have q2:(g4:Int)=k4\/g4=0/\k4<0:=by rw[e8];exact gW k4
 have q9:=hI q2;clear g1 hl X b4 e7 Z0 l6 hb ho n9 e8 g5 k9 q2;go_upto_region 5 with(go_at_call 247;(first | refine(b3 _ 0 o0 _ (by omega) _ (Nb _ _)).mono ?_ | refine(b3 _ 1 o1 _ (by omega) _ (Nb _ _)).mono ?_);rintro e w2 ⟨rfl,rfl⟩)
 generalize a0:World.alloc _ _=V2
 have o3:Hid (PU w1 V2 n0 n1 (.slice none 0 0) (.slice none 0 0) (.slice none 0 0) (.slice none 0 0) [] [] [] [] [] []):=by
  show PU _ _ _ _ _ _ _ _ _ _ _ _ _ _;rw[<-a0];exact⟨(Fr.start w1).alloc rfl _ 28,aU.nil,Nw _ _ _ _,Nw _ _ _ _,aU.nil⟩
 clear a0;go_wp2_with fail;go_loopg [7,8] (n-3) (fun g i7 i8 wr=> ∃(k pos:Nat) (A:List aF) (b:Option Addr) (d:Nat) (xss:List (List Value)),g=n-pos/\i7= .int .i64 pos/\i8= .int .i64 k/\(pos<=2060/\k<=pos/\6 * A.length<=pos)/\q8=(A++(eF n (pM L) (g4-k) pos).1,(eF n (pM L) (g4-k) pos).2)/\(∀x∈A,x.ends.length<=3)/\PU w1 wr n0 n1 (js b A.length d) (.slice none 0 0) (.slice none 0 0) (.slice none 0 0) A [] [] [] xss [])
 ·exact⟨0,3,[],none,0,[],by omega,rfl,rfl,⟨by omega,by omega,by simp⟩,g6,by simp,o3⟩
 clear o3;obtain⟨wo,rfl⟩: ∃wo:World,wo=wr:=⟨_,rfl⟩;obtain⟨k,pos,A,b,d,xss,rfl,rfl,rfl,⟨d3,d4,l8⟩,c2,o4,c3⟩:=hrel;have b5:=hI c2;have o5:=hI o4;have S:=hI c3;clear c2 o4 c3;obtain⟨D,G,I,t0⟩:=AW (k:=k) (pos:=pos) (n:=n) q9;go_upto_region 7 with fail;go_cut [40]from 31 to 40 (fun v wc=>v= .bool D/\wc=wo)
 case first=>
  clear G I
  rcases t0 with⟨hd,a8⟩ | ⟨hd,b6,hz,a8⟩ | ⟨hd,b6,hz,a8⟩<;>(
   go_wp2_with (go_at_call 247;refine(b3 _ 2 o2 _ (by omega) _ S.fr.bel).mono ?_;rintro e w2 ⟨rfl,rfl⟩);go_meet
   case rel=>exact⟨by rw[a8],rfl⟩)
 case rest=>
  obtain⟨rfl,a2⟩:=hcut;obtain rfl:=a2.symm;clear a2 t0;cases D with
  | true=>
   obtain⟨a9,b2⟩:=G rfl;have H0:=hI (yL b5 a9 b2);obtain⟨m,c1,e9⟩:=zh L pos;obtain⟨x,hx⟩: ∃x,x=num L pos:=⟨_,rfl⟩;obtain⟨y,k5⟩: ∃y,y=num L (pos+1):=⟨_,rfl⟩;rw[<-hx,<-k5]at e9;rw[<-k5]at c1;have r1:=hI hx;have r2:=hI k5;have l9:=hI e9;have m3:m<=3:=(by omega);have r3:2<=m:=(by omega);clear hx k5 e9 G I;go_upto_region 10 with(go_at_call 247;(first | refine(b3 _ pos r1 _ (by omega) _ S.fr.bel).mono ?_ | refine(b3 _ (pos+1) r2 _ (by omega) _ S.fr.bel).mono ?_);rintro e w2 ⟨rfl,rfl⟩)
   generalize b8:World.alloc _ _=W5
   have F0:=hI (jH b8)
   clear b8;have z1:=(Mu W5 _ 1 _ _ _ (iD F0)).trans rfl;go_upto_region 11 with fail;go_cut [53]from 51 to 53 (fun v wc=>v= .bool (decide (0<y))/\wc=W5)
   case first=>
    go_wp2_with fail;go_meet
    case rel=>exact⟨rfl,rfl⟩
   case rest=>
    obtain⟨rfl,a2⟩:=hcut;obtain rfl:=a2.symm;clear a2 z1;go_step;go_cut [10]from 51 to 53 (fun v wc=>v= .int .i64 m/\wc=W5)
    case first=>
     rcases c1 with⟨hd,rfl⟩ | ⟨hd,rfl⟩<;>(
      go_wp2_with fail;go_meet
      case rel=>exact⟨rfl,rfl⟩)
    case rest=>
     obtain⟨rfl,a2⟩:=hcut;obtain rfl:=a2.symm;clear a2 c1;go_wp2_with fail;go_loopg [7,11] m (fun g i7 m4 wr=> ∃(e q:Nat) (d7:Option Addr) (d8:Nat),q=pos+2+2 * e/\e<=m/\g=m-e/\i7= .int .i64 q/\m4= .int .i64 e/\Fr wo [(#[x,y,js d7 e d8],80)] wr/\wr.ownsRow (wo.heap.size+1) 133 2 (js d7 e d8) e ((sH L pos e).flatMap nG))
     ·exact⟨0,pos+2,none,0,by omega,by omega,by omega,by go_num,rfl,F0,Nw _ _ _ _⟩
     clear F0;obtain⟨e,q,d7,d8,hq,he,rfl,rfl,rfl,hF,b4⟩:=hrel;have F:=hI hF;have O:=hI b4;have c0:=hI (S.low hF.bel);have r0:=iD hF;have y2:=(Mu wr _ 2 _ _ _ r0).trans rfl;have l0:=aD r0;have r4:q<=9000:=(by omega);have Q:=hI hq;clear hF b4 hq;by_cases d9:e<m
     ·have hd:=bL d9;clear r0;go_upto_region 17 with fail;refine pK [11] [0,1,2,3,5,6,7] (by kernel_rfl) (fun d _ _ _ _ h=>by cases d<;>exact h) (by kernel_rfl) ?_;intro V D0 k6;have t5:=fun t:Gw wr=>t.cel y2;have l5:=fun t:Gw wr=>t.lt l0;simp only[eE,Db,List.getElem?_cons_zero,Nt,Option.toList_some,Nz,Dd]
      repeat (go_big_quiet_step (fail))
      refine wpQuiet_nil ?_;have o6:=hI (F.below D0);have OV:=hI (bU O D0);have SV:=hI (c0.low D0);obtain⟨u,o7⟩: ∃u,u=num L q:=⟨_,rfl⟩;obtain⟨v,a8⟩: ∃v,v=num L (q+1):=⟨_,rfl⟩;have o8:=hI o7;have o9:=hI a8;clear o7 a8;refine aS 4 (by kernel_rfl) ?_;intro K hK;simp[wpOp,go_sem];refine .inl ((b3 _ q o8 _ (by omega) _ SV.fr.bel).mono ?_);rintro e d5 ⟨rfl,rfl⟩;simp[go_sem];refine hK _ _ (fun _=>D0) ?_;clear hK K;refine aS 8 (by kernel_rfl) ?_;intro K hK;simp[wpOp,go_sem];refine .inl ((b3 _ (q+1) o9 _ (by omega) _ SV.fr.bel).mono ?_);rintro e d5 ⟨rfl,rfl⟩;simp[go_sem];refine hK _ _ (fun _=>D0) ?_;clear hK K;refine zB [9] D0 ?_;refine aS 10 (by kernel_rfl) ?_;intro K hK;simp[wpOp,go_sem];refine .inl (hK _ _ (fun _=>D0.alloc D0.size _) ?_);clear hK K;refine pG [11,12,13] (by kernel_rfl) (by simp) ?_;have a5:wo.heap.size+1<=V.heap.size:=o6.sz;simp only[eE,Db,List.getElem?_cons_zero,Nt,Option.toList_some,Nz,Dd];clear y2 l0 t5 l5;go_wp2_with (at_builtin;refine nK rfl _ _ 78 133 _ _ 2 16 rfl underlying78 AB rfl (by decide) (by decide) (wo.heap.size+1) (js d7 e d8) e _ rfl OV (by omega) a5 [.int .i64 u,.int .i64 v] rfl rfl (uR u v) ?_;intro c9 d2 w8 H E;obtain⟨y2,l0,fz,g7⟩:=zd (v':= .slice (some ⟨c9,0,none⟩) (e+1) d2) o6 OV E;have F9:=hI g7;have O9:=hI (aV H (a:=⟨wo.heap.size,2,none⟩) (by simp) (jq c9 0 (e+1) d2));clear g7 H E);go_roundg (m-(e+1))
      ·go_light;exact⟨e+1,q+2,_,_,by have:=Q.o;omega,by omega,by omega,by go_num,by go_num,F9,by have h:=O9.o;rw[o8.o,o9.o]at h;rw[zi,Dg,<-Q.o];exact h⟩
      go_light;omega
     obtain rfl:e=m:=(by omega);have hd:=bZ d9;have y0:=(Mu wr _ 0 _ _ _ r0).trans rfl;have y1:=(Mu wr _ 1 _ _ _ r0).trans rfl;have r5:=(Mu wr _ 2 _ _ _ (iD c0.fr)).trans rfl;have l2:=aD (iD c0.fr);have a5:w1.heap.size+1<=wr.heap.size:=c0.fr.sz;have r6:w1.heap.size+1<=wo.heap.size:=S.fr.sz;have f0:Hid (dI (w1.heap.size+1) wr [.int .i64 x,.int .i64 y,.slice d7 e d8] ⟨x,y,sH L pos e⟩):=⟨d7,d8,by rw[FI],by rw[FI];exact bW O (by omega)⟩;clear r0;go_wp2_with (at_builtin;refine nK rfl _ _ 23 80 _ _ 3 40 rfl underlying23 CM rfl (by decide) (by decide) (w1.heap.size+1) (js b A.length d) A.length _ rfl c0.S.own (by omega) a5 [.int .i64 x,.int .i64 y,.slice d7 e d8] rfl rfl (by simp[Value.oneCell']) ?_;intro c9 d2 w8 H E;obtain⟨a6,a1⟩:=c0.addSec (v:= .slice (some ⟨c9,0,none⟩) (A.length+1) d2) E H f0 rfl;have S9:=hI a1;have y2:=a6.cell;have l0:=a6.lt;have fz:=a6.fz;clear a1 a6 H E);go_roundg (n-(pos+2+2 * e))
     ·go_light;refine⟨k+1,q,A++[⟨x,y,sH L pos e⟩],_,_,xss++[[.int .i64 x,.int .i64 y,.slice d7 e d8]],by have:=Q.o;omega,rfl,by go_num,⟨by have:=Q.o;omega,by have:=Q.o;omega,by have:=Q.o;rw[Mx];simp;omega⟩,?_,?_,by rw[Mx];exact S9⟩
      ·have h:=H0.o;rw[l9.o,<-Q.o]at h;exact h
      intro z hz;rcases Tx.1 hz with hz | hz
      ·exact o5 z hz
      rw[Tv.1 hz,FI];exact m3
     go_light;omega
  | false=>
   have l1:=hI (yK b5 (I rfl));clear b5 G I;obtain⟨m0,e0⟩: ∃x,x=num L pos:=⟨_,rfl⟩;obtain⟨M0,c4⟩: ∃M,M=m0.toNat:=⟨_,rfl⟩;obtain⟨P0,e1⟩: ∃P,P=eF n (tR L) M0 (pos+1):=⟨_,rfl⟩;have E0:=hI e0;have g8:=hI c4;have H6:=hI e1;have Q0:Hid ((M0:Int)=m0\/M0=0/\m0<0):=(by show _\/_;rw[c4];exact gW m0);clear e0 c4 e1;go_wp2_with (go_at_call 247;refine(b3 _ pos E0 _ (by omega) _ S.fr.bel).mono ?_;rintro e w2 ⟨rfl,rfl⟩);go_loopg [7,13] (n-(pos+1)) (fun g i7 i8 wr=> ∃(k o:Nat) (B:List Pt) (Y:Option Addr) (Z:Nat),g=n-o/\i7= .int .i64 o/\i8= .int .i64 k/\(o<=2062/\k<=o/\2 * B.length<=o)/\P0=(B++(eF n (tR L) (M0-k) o).1,(eF n (tR L) (M0-k) o).2)/\PU w1 wr n0 n1 (js b A.length d) (js Y B.length Z) (.slice none 0 0) (.slice none 0 0) A B [] [] xss [])
   ·exact⟨0,pos+1,[],none,0,by omega,by go_num,rfl,⟨by omega,by omega,by simp⟩,H6,S⟩
   clear S;obtain⟨wo,rfl⟩: ∃wo:World,wo=wr:=⟨_,rfl⟩;obtain⟨k,o,B,Y,Z,rfl,rfl,rfl,⟨d3,d4,m5⟩,c2,c3⟩:=hrel;have b5:=hI c2;have S0:=hI c3;clear c2 c3;obtain⟨D9,G,I,t0⟩:=AW (k:=k) (pos:=o) (n:=n) Q0;go_upto_region 23 with fail;go_cut [95]from 87 to 95 (fun v wc=>v= .bool D9/\wc=wo)
   case first=>
    clear G I
    rcases t0 with⟨hd,a8⟩ | ⟨hd,b6,hz,a8⟩ | ⟨hd,b6,hz,a8⟩<;>(
     go_wp2_with fail;go_meet
     case rel=>exact⟨by rw[a8],rfl⟩)
   case rest=>
    obtain⟨rfl,a2⟩:=hcut;obtain rfl:=a2.symm;clear a2 t0;cases D9 with
    | true=>
     obtain⟨a9,b2⟩:=G rfl;have H0:=hI (yL b5 a9 b2);clear G I;have y2:=(Mu wo _ 3 _ _ _ (iD S0.fr)).trans rfl;have l0:=aD (iD S0.fr);go_upto_region 25 with fail;refine pK [11] [0,1,2,3,5,6,7] (by kernel_rfl) (fun d _ _ _ _ h=>by cases d<;>exact h) (by kernel_rfl) ?_;intro V D0 k6;have t5:=fun t:Gw wo=>t.cel y2;have l5:=fun t:Gw wo=>t.lt l0;simp only[eE,Db,List.getElem?_cons_zero,Nt,Option.toList_some,Nz,Dd]
     repeat (go_big_quiet_step (fail))
     refine wpQuiet_nil ?_;have SV:=hI (S0.low D0);obtain⟨u1,c5⟩: ∃x,x=num L o:=⟨_,rfl⟩;have H2:=hI c5;clear c5;obtain⟨u2,c6⟩: ∃x,x=num L (o+1):=⟨_,rfl⟩;have H3:=hI c6;clear c6;refine aS 4 (by kernel_rfl) ?_;intro K hK;simp[wpOp,go_sem];refine .inl ((b3 _ o H2 _ (by omega) _ SV.fr.bel).mono ?_);rintro e d5 ⟨rfl,rfl⟩;simp[go_sem];refine hK _ _ (fun _=>D0) ?_;clear hK K;refine aS 8 (by kernel_rfl) ?_;intro K hK;simp[wpOp,go_sem];refine .inl ((b3 _ (o+1) H3 _ (by omega) _ SV.fr.bel).mono ?_);rintro e d5 ⟨rfl,rfl⟩;simp[go_sem];refine hK _ _ (fun _=>D0) ?_;clear hK K;refine zB [9] D0 ?_;refine aS 10 (by kernel_rfl) ?_;intro K hK;simp[wpOp,go_sem];refine .inl (hK _ _ (fun _=>D0.alloc D0.size _) ?_);clear hK K;refine pG [11,12,13] (by kernel_rfl) (by simp) ?_;have a5:w1.heap.size+1<=V.heap.size:=SV.fr.sz;simp only[eE,Db,List.getElem?_cons_zero,Nt,Option.toList_some,Nz,Dd];clear y2 l0 t5 l5;go_wp2_with (at_builtin;refine nK rfl _ _ 24 143 _ _ 2 16 rfl underlying24 CO rfl (by decide) (by decide) (w1.heap.size+1) (js Y B.length Z) B.length _ rfl SV.P (by omega) a5 [.int .i64 u1,.int .i64 u2] rfl rfl (uR u1 u2) ?_;intro c9 d2 w8 H E;obtain⟨a6,a1⟩:=SV.addPt (v:= .slice (some ⟨c9,0,none⟩) (B.length+1) d2) (x:=⟨u1,u2⟩) E H;have S9:=hI a1;have y2:=a6.cell;have l0:=a6.lt;have fz:=a6.fz;clear a1 a6 H E);go_roundg (n-(o+2))
     ·go_light;exact⟨k+1,o+2,B++[⟨u1,u2⟩],_,_,by omega,by go_num,by go_num,⟨by omega,by omega,by rw[Mx];simp;omega⟩,by have h:=H0.o;rw[H2.o,H3.o];exact h,by rw[Mx];exact S9⟩
     go_light;omega
    | false=>
     have i0:=hI (yK b5 (I rfl));clear b5 G I;obtain⟨m1,e2⟩: ∃x,x=num L o:=⟨_,rfl⟩;obtain⟨M1,c7⟩: ∃M,M=m1.toNat:=⟨_,rfl⟩;obtain⟨P1,e3⟩: ∃P,P=eF n (tQ L) M1 (o+1):=⟨_,rfl⟩;have E1:=hI e2;have i1:=hI c7;have H7:=hI e3;have Q1:Hid ((M1:Int)=m1\/M1=0/\m1<0):=(by show _\/_;rw[c7];exact gW m1);clear e2 c7 e3;go_wp2_with (go_at_call 247;refine(b3 _ o E1 _ (by omega) _ S0.fr.bel).mono ?_;rintro e w2 ⟨rfl,rfl⟩);go_loopg [7,14] (n-(o+1)) (fun g i7 i8 wr=> ∃(k j:Nat) (C:List Sg) (b0:Option Addr) (d0:Nat),g=n-j/\i7= .int .i64 j/\i8= .int .i64 k/\(j<=2064/\k<=j/\3 * C.length<=j)/\P1=(C++(eF n (tQ L) (M1-k) j).1,(eF n (tQ L) (M1-k) j).2)/\PU w1 wr n0 n1 (js b A.length d) (js Y B.length Z) (js b0 C.length d0) (.slice none 0 0) A B C [] xss [])
     ·exact⟨0,o+1,[],none,0,by omega,by go_num,rfl,⟨by omega,by omega,by simp⟩,H7,S0⟩
     clear S0;obtain⟨wo,rfl⟩: ∃wo:World,wo=wr:=⟨_,rfl⟩;obtain⟨k,j,C,b0,d0,rfl,rfl,rfl,⟨d3,d4,m6⟩,c2,c3⟩:=hrel;have b5:=hI c2;have S1:=hI c3;clear c2 c3;obtain⟨D9,G,I,t0⟩:=AW (k:=k) (pos:=j) (n:=n) Q1;go_upto_region 30 with fail;go_cut [126]from 118 to 126 (fun v wc=>v= .bool D9/\wc=wo)
     case first=>
      clear G I
      rcases t0 with⟨hd,a8⟩ | ⟨hd,b6,hz,a8⟩ | ⟨hd,b6,hz,a8⟩<;>(
       go_wp2_with fail;go_meet
       case rel=>exact⟨by rw[a8],rfl⟩)
     case rest=>
      obtain⟨rfl,a2⟩:=hcut;obtain rfl:=a2.symm;clear a2 t0;cases D9 with
      | true=>
       obtain⟨a9,b2⟩:=G rfl;have H0:=hI (yL b5 a9 b2);clear G I;have y2:=(Mu wo _ 4 _ _ _ (iD S1.fr)).trans rfl;have l0:=aD (iD S1.fr);go_upto_region 32 with fail;refine pK [15] [0,1,2,3,5,6,7,9,10,11] (by kernel_rfl) (fun d _ _ _ _ h=>by cases d<;>exact h) (by kernel_rfl) ?_;intro V D0 k6;have t5:=fun t:Gw wo=>t.cel y2;have l5:=fun t:Gw wo=>t.lt l0;simp only[eE,Db,List.getElem?_cons_zero,Nt,Option.toList_some,Nz,Dd]
       repeat (go_big_quiet_step (fail))
       refine wpQuiet_nil ?_;have SV:=hI (S1.low D0);obtain⟨u1,c5⟩: ∃x,x=num L j:=⟨_,rfl⟩;have H2:=hI c5;clear c5;obtain⟨u2,c6⟩: ∃x,x=num L (j+1):=⟨_,rfl⟩;have H3:=hI c6;clear c6;obtain⟨u3,i2⟩: ∃x,x=num L (j+2):=⟨_,rfl⟩;have i3:=hI i2;clear i2;refine aS 4 (by kernel_rfl) ?_;intro K hK;simp[wpOp,go_sem];refine .inl ((b3 _ j H2 _ (by omega) _ SV.fr.bel).mono ?_);rintro e d5 ⟨rfl,rfl⟩;simp[go_sem];refine hK _ _ (fun _=>D0) ?_;clear hK K;refine aS 8 (by kernel_rfl) ?_;intro K hK;simp[wpOp,go_sem];refine .inl ((b3 _ (j+1) H3 _ (by omega) _ SV.fr.bel).mono ?_);rintro e d5 ⟨rfl,rfl⟩;simp[go_sem];refine hK _ _ (fun _=>D0) ?_;clear hK K;refine aS 12 (by kernel_rfl) ?_;intro K hK;simp[wpOp,go_sem];refine .inl ((b3 _ (j+2) i3 _ (by omega) _ SV.fr.bel).mono ?_);rintro e d5 ⟨rfl,rfl⟩;simp[go_sem];refine hK _ _ (fun _=>D0) ?_;clear hK K;refine zB [13] D0 ?_;refine aS 14 (by kernel_rfl) ?_;intro K hK;simp[wpOp,go_sem];refine .inl (hK _ _ (fun _=>D0.alloc D0.size _) ?_);clear hK K;refine pG [15,16,17] (by kernel_rfl) (by simp) ?_;have a5:w1.heap.size+1<=V.heap.size:=SV.fr.sz;simp only[eE,Db,List.getElem?_cons_zero,Nt,Option.toList_some,Nz,Dd];clear y2 l0 t5 l5;go_wp2_with (at_builtin;refine nK rfl _ _ 25 145 _ _ 3 24 rfl underlying25 CN rfl (by decide) (by decide) (w1.heap.size+1) (js b0 C.length d0) C.length _ rfl SV.G (by omega) a5 [.int .i64 u1,.int .i64 u2,.int .i64 u3] rfl rfl (uN u1 u2 u3) ?_;intro c9 d2 w8 H E;obtain⟨a6,a1⟩:=SV.addSg (v:= .slice (some ⟨c9,0,none⟩) (C.length+1) d2) (x:=⟨u1,u2,u3⟩) E H;have S9:=hI a1;have y2:=a6.cell;have l0:=a6.lt;have fz:=a6.fz;clear a1 a6 H E);go_roundg (n-(j+3))
       ·go_light;exact⟨k+1,j+3,C++[⟨u1,u2,u3⟩],_,_,by omega,by go_num,by go_num,⟨by omega,by omega,by rw[Mx];simp;omega⟩,by have h:=H0.o;rw[H2.o,H3.o,i3.o];exact h,by rw[Mx];exact S9⟩
       go_light;omega
      | false=>
       have i4:=hI (yK b5 (I rfl));clear b5 G I;obtain⟨m2,e4⟩: ∃x,x=num L j:=⟨_,rfl⟩;obtain⟨M2,c8⟩: ∃M,M=m2.toNat:=⟨_,rfl⟩;obtain⟨P2,e5⟩: ∃P,P=eF n (lX L) M2 (j+1):=⟨_,rfl⟩;have E2:=hI e4;have i5:=hI c8;have H8:=hI e5;have Q2:Hid ((M2:Int)=m2\/M2=0/\m2<0):=(by show _\/_;rw[c8];exact gW m2);clear e4 c8 e5;go_wp2_with (go_at_call 247;refine(b3 _ j E2 _ (by omega) _ S1.fr.bel).mono ?_;rintro e w2 ⟨rfl,rfl⟩);go_loopg [7,15] (n-(j+1)) (fun g i7 i8 wr=> ∃(k U:Nat) (D:List Rt) (b1:Option Addr) (d1:Nat) (tss:List (List Value)),g=n-U/\i7= .int .i64 U/\i8= .int .i64 k/\(U<=2066/\k<=U/\7 * D.length<=U)/\P2=(D++(eF n (lX L) (M2-k) U).1,(eF n (lX L) (M2-k) U).2)/\(∀z∈D,z.A.length<=5000/\z.O.length<=5000/\z.fl.length<=5000)/\PU w1 wr n0 n1 (js b A.length d) (js Y B.length Z) (js b0 C.length d0) (js b1 D.length d1) A B C D xss tss)
       ·exact⟨0,j+1,[],none,0,[],by omega,by go_num,rfl,⟨by omega,by omega,by simp⟩,H8,by simp,S1⟩
       clear S1;obtain⟨wo,rfl⟩: ∃wo:World,wo=wr:=⟨_,rfl⟩;obtain⟨k,U,D,b1,d1,tss,rfl,rfl,rfl,⟨d3,d4,m7⟩,c2,i6,c3⟩:=hrel;have b5:=hI c2;have J:=hI c3;have i9:=hI i6;clear c2 c3 i6;obtain⟨D9,G,I,t0⟩:=AW (k:=k) (pos:=U) (n:=n) Q2;go_upto_region 37 with fail;go_cut [161]from 153 to 161 (fun v wc=>v= .bool D9/\wc=wo)
       case first=>
        clear G I
        rcases t0 with⟨hd,a8⟩ | ⟨hd,b6,hz,a8⟩ | ⟨hd,b6,hz,a8⟩<;>(
         go_wp2_with fail;go_meet
         case rel=>exact⟨by rw[a8],rfl⟩)
       case rest=>
        obtain⟨rfl,a2⟩:=hcut;obtain rfl:=a2.symm;clear a2 t0;cases D9 with
        | true=>
         obtain⟨a9,b2⟩:=G rfl;have H0:=hI (yL b5 a9 b2);clear G I;have f1:=zg (L:=L) (p:=U) (by rw[<-f9.o];exact b2);rw[<-f9.o]at f1;obtain⟨⟨r,nx⟩,f8⟩: ∃R,R=lX L U:=⟨_,rfl⟩;rw[<-f8]at f1;obtain⟨m8,m9,j0,j1,j2⟩:=f1;have r7:=hI (g2 wo J.fr.bel U r nx (by omega) f8.symm);rw[<-f8]at H0;have n2:Hid (r.A.length<=5000/\r.O.length<=5000/\r.fl.length<=5000):=⟨by dsimp only at j0;omega,by dsimp only at j1;omega,by dsimp only at j2;omega⟩;dsimp only at m8 m9;clear j0 j1 j2 f8;go_upto_region 40 with(go_at_call 248;refine r7.mono ?_;rintro e w2 ⟨p0,pc,p1,p2,p3,p4,rfl,b4,X⟩;have S2:=hI (J.low X);have r8:=hI b4;have n3:=X.size;clear b4 X);generalize b8:World.alloc _ _=W5;have f2:=jG b8;have hya:=jA b8;have c0:=hI (S2.low f2);have j3:w1.heap.size+1<=wo.heap.size:=J.fr.sz;have f0:=hI (iS.kn (T:=0) (Kn.low f2) (by decide) (by decide) (r8.base j3));have z0:=(Mu W5 _ 0 _ _ _ hya).trans rfl;have z1:=(Mu W5 _ 1 _ _ _ hya).trans rfl;have z2:=(Mu W5 _ 2 _ _ _ hya).trans rfl;have z3:=(Mu W5 _ 3 _ _ _ hya).trans rfl;have z4:=(Mu W5 _ 4 _ _ _ hya).trans rfl;have z5:=(Mu W5 _ 5 _ _ _ hya).trans rfl;have z6:=(Mu W5 _ 6 _ _ _ hya).trans rfl;have s1:=aD hya;have r5:=(Mu W5 _ 5 _ _ _ (iD c0.fr)).trans rfl;have l2:=aD (iD c0.fr);have a5:w1.heap.size+1<=W5.heap.size:=c0.fr.sz;clear b8 f2 hya n3 j3;go_wp2_with (at_builtin;refine nK rfl _ _ 26 102 _ _ 7 104 rfl underlying26 CJ rfl (by decide) (by decide) (w1.heap.size+1) (js b1 D.length d1) D.length _ rfl c0.R.own (by omega) a5 [.int .i64 r.id,.int .i64 r.E,.int .i64 r.X,.slice p0 r.A.length pc,.slice p1 r.O.length p2,.slice p3 r.fl.length p4,.int .i64 r.T] rfl rfl (by simp[Value.oneCell']) ?_;intro c9 d2 w8 H E;obtain⟨a6,a1⟩:=c0.addRt (v:= .slice (some ⟨c9,0,none⟩) (D.length+1) d2) E H f0 rfl;have S9:=hI a1;have y2:=a6.cell;have l0:=a6.lt;have fz:=a6.fz;clear a1 a6 H E);go_roundg (n-nx)
         ·go_light;refine⟨k+1,nx,D++[r],_,_,tss++[[.int .i64 r.id,.int .i64 r.E,.int .i64 r.X,.slice p0 r.A.length pc,.slice p1 r.O.length p2,.slice p3 r.fl.length p4,.int .i64 r.T]],by omega,rfl,by go_num,⟨by omega,by omega,by rw[Mx];simp;omega⟩,H0,?_,by rw[Mx];exact S9⟩;intro z hz;rcases Tx.1 hz with hz | hz
          ·exact i9 z hz
          rw[Tv.1 hz];exact n2
         go_light;omega
        | false=>
         have j4:=hI (yK b5 (I rfl));clear b5 G I;have p5:nO L (pM L) 2=(A,pos):=(by rw[nO,<-o2.o,<-l7.o,<-f9.o,<-g6.o,l1.o]);have p6:nO L (tR L) pos=(B,o):=(by rw[nO,<-E0.o,<-g8.o,<-f9.o,<-H6.o,i0.o]);have p7:nO L (tQ L) o=(C,j):=(by rw[nO,<-E1.o,<-i1.o,<-f9.o,<-H7.o,i4.o]);have p8:nO L (lX L) j=(D,U):=(by rw[nO,<-E2.o,<-i5.o,<-f9.o,<-H8.o,j4.o]);obtain⟨p,b9⟩: ∃p:Pl,p=⟨n0,n1,A,B,C,D⟩:=⟨_,rfl⟩;have j5:EN L=p:=by rw[b9,o0.o,o1.o];unfold EN;simp only[p5,p6,p7,p8]
         have f3:Hid (∀b7,bX b7->dP b7=l->b7=p):=fun b7 h1 h2=>by
          have h3:=wN h1;rw[<-j5,l4.o (gJ b7) h3.num h2.symm];exact(z2h h3.shaped).symm
         have n4:=hI (jo g9 J.fr.bel)
         have f4:Hid (∀W,Kn (w1.heap.size+1) 0 wo W->bN (bK (old w.heap.size) W) (js b A.length d) (js Y B.length Z) (js b0 C.length d0) (js b1 D.length d1) p):=fun W a9=>by
          have h:=J.o;have a2: ∀k,w1.heap.size+1<=k->old w.heap.size k=false:=uA (Nj g9.size (Nat.le_succ _));rw[b9];exact⟨(h.S.kn (by decide) a9 fun _ _ h=>h.kn a9 (by decide)).offS a2,kK (f:=oO) (kU (oS h.P (by decide) a9) a2) (fun _ _=>rfl) (fun _ _=>rfl),kK (f:=oM) (kU (oS h.G (by decide) a9) a2) (fun _ _=>rfl) (fun _ _=>rfl),(h.R.kn (by decide) a9 fun _ _ h=>h.kn a9 (by decide) (by decide)).offT a2⟩
         have H1:Hid (p.S.length<=1000/\(∀i (h:i<p.S.length),p.S[i].ends.length<=8796093022208)/\p.P.length<=100000/\p.G.length<=1000/\p.R.length<=1000/\ ∀i (h:i<p.R.length),p.R[i].fit):=by
          show _/\_;rw[b9];exact⟨by dsimp only;omega,fun i h=>Nj (o5 _ (Nn _)) (by decide),by dsimp only;omega,by dsimp only;omega,by dsimp only;omega,fun i h=>by have:=i9 _ (Nn h);exact⟨by omega,by omega,by omega⟩⟩
         have H4:Hid (∀W,jb wo W->Calls prog 129 #[.agg #[n0,n1,js b A.length d,js Y B.length Z,js b0 C.length d0,js b1 D.length d1]] W (bY W (decide (bX p)))):=fun W X=>by
          have:=mr p _ _ _ _ W ((f4 W (Kn.low X)).ext (mZ _ _)) H1;rw[b9]at this ⊢;exact this
         have f5:Hid (bX p-> ∀W,jb wo W->Calls prog 249 #[.agg #[n0,n1,js b A.length d,js Y B.length Z,js b0 C.length d0,js b1 D.length d1]] W (BC W (dP p))):=fun c1 W X=>by
          have h3:=PF c1;have:=z7e p _ _ _ _ W ((f4 W (Kn.low X)).ext (mZ _ _)) ⟨H1.1,H1.2.1,by have:=c1.2.1.1.1.2;omega,H1.2.2.2.1,H1.2.2.2.2.1,H1.2.2.2.2.2⟩ (by omega) (wN c1).num;rw[b9]at this ⊢;exact this
         have f6:Hid (∀W,jb wo W->Sem.run prog (convert 22 9 (js ba l.length bc)) W= .ok (.string (fR l)) W):=fun W X=>(H9.below (jo n4 X)).str bc;have d6:=OX p
         have H5:Hid (∀W base a c,World.ownsRow W base 5 1 (js a (dP p).length c) (dP p).length (eT (dP p))->Sem.run prog (convert 22 9 (js a (dP p).length c)) W= .ok (.string (fR (dP p))) W):=fun W base a c b4=>by
          obtain⟨s2,s3,e,h1,-⟩:=BL.of_own b4 d6;cases e;exact h1.str _
         have q0:=(Mu wo _ 0 _ _ _ (iD J.fr)).trans rfl;have q1:=(Mu wo _ 1 _ _ _ (iD J.fr)).trans rfl;have q2:=(Mu wo _ 2 _ _ _ (iD J.fr)).trans rfl;have q3:=(Mu wo _ 3 _ _ _ (iD J.fr)).trans rfl;have q4:=(Mu wo _ 4 _ _ _ (iD J.fr)).trans rfl;have q5:=(Mu wo _ 5 _ _ _ (iD J.fr)).trans rfl;have j6:=aD (iD J.fr);clear p5 p6 p7 p8 j5 d3 d4 l8 m5 m6 m7 g3;by_cases a4:bX p
         ·have j7:=jT a4;rw[j7]at H4;clear j7;obtain⟨T,n5⟩: ∃T,T=dP p:=⟨_,rfl⟩;rw[<-n5]at H5 f5;have HRL:=hI n5;have p9:=hI a4;have n6:=hI b9;have q6:=fun t:Gw wo=>f6 _ t.h;have G9:=hI d6;have n7:=hI H9.o.lt;clear n5 b9 a4 d6 H1 H9;generalize j8:fR T=j9 at H5;generalize k0:fR l=k1 at f6 q6;have HST:=hI j8;have HSL:=hI k0;clear j8 k0;go_upto_region 42 with fail;refine pK [] [0] (by kernel_rfl) (fun d _ _ _ _ h=>by cases d<;>exact h) (by kernel_rfl) ?_;intro V D0 k6;have k7:=fun t:Gw wo=>t.cel q0;have t1:=fun t:Gw wo=>t.cel q1;have t2:=fun t:Gw wo=>t.cel q2;have t3:=fun t:Gw wo=>t.cel q3;have t4:=fun t:Gw wo=>t.cel q4;have t5:=fun t:Gw wo=>t.cel q5;have k8:=fun t:Gw wo=>t.lt j6;simp only[eE,Db,List.getElem?_cons_zero,Nt,Option.toList_some,Nz,Dd]
          repeat (go_big_quiet_step (fail))
          refine wpQuiet_nil ?_;refine aS 1 (by kernel_rfl) ?_;intro K hK;simp[wpOp,go_sem];refine .inl ((H4 V D0).mono ?_);rintro e d5 ⟨rfl,X⟩;simp[go_sem];have a3:=jt D0 X;refine hK _ _ (fun _=>a3) ?_;clear hK K X;refine pH (C:=fun a7=> ∃t:Gw wo,a7=t.w) (fun d _ _ _ _ h=>by cases d<;>exact h) (fun a7 h=>⟨⟨a7,h⟩,rfl⟩) [2,3,4,7,8] (by kernel_rfl) a3 (by simp) ?_;simp only[eE,Db,List.getElem?_cons_zero,Nt,Option.toList_some,Nz,Dd]
          repeat (go_big_quiet_step (fail))
          refine wpQuiet_nil ?_;refine aS 5 (by kernel_rfl) ?_;intro K hK;simp[wpOp,go_sem];refine .inl ((f5 p9 d5 a3).mono ?_);rintro e V2 ⟨v,rfl,b4,X⟩;obtain⟨r9,s0,rfl⟩:=iG b4;simp[go_sem];have a0:=jt a3 X;refine hK _ _ (fun _=>a0) ?_;clear hK K X;have cc:=H5 V2 _ r9 s0 b4;refine aS 6 (by kernel_rfl) ?_;intro K hK;simp[wpOp,go_sem,cc];refine .inl (hK _ _ (fun _=>a0) ?_);clear hK K;clear q6 cc b4;by_cases htx:T=l
          ·have td:(j9.toList==k1.toList)=true:=(by rw[<-HST.o,<-HSL.o,htx];simp);have k2:(j9.toList != k1.toList)=false:=(by rw[<-HST.o,<-HSL.o,htx];simp);refine pH (C:=fun a7=> ∃t:Gw wo,a7=t.w) (fun d _ _ _ _ h=>by cases d<;>exact h) (fun a7 h=>⟨⟨a7,h⟩,rfl⟩) [9,10] (by kernel_rfl) a0 (by simp) ?_;simp only[eE,Db,List.getElem?_cons_zero,Nt,Option.toList_some,Nz,Dd]
           repeat (go_big_quiet_step (fail))
           refine wpQuiet_nil ?_;refine eI (by kernel_rfl) ?_ _;have Z9:=hI (Z1.below (jt J.fr.bel a0));have S9:=hI (J.low a0);clear k7 t1 t2 t3 t4 t5 k8 q0 q1 q2 q3 q4 q5 j6 td k2;go_upto_region 44 with fail;go_step;refine Dx rfl 28 (.tmp 6) rfl w1.heap.size rfl 28 _ (0,0) _ (iD S9.fr) underlying28 rfl (by kernel_rfl) ?_;simp[Act.put];refine bP rfl 28 (.tmp 2) (.tmp 189) rfl w.heap.size #[n0,n1,js b A.length d,js Y B.length Z,js b0 C.length d0,js b1 D.length d1] cW 28 rfl rfl (Z9.row 0 _ rfl) (by kernel_rfl) rfl (by simp[Value.oneCell']) ?_;have Z2:=hI (Z9.setRow 0 rfl #[n0,n1,js b A.length d,js Y B.length Z,js b0 C.length d0,js b1 D.length d1]);have a9:Kn (w1.heap.size+1) 0 wo (V2.setRow w.heap.size #[n0,n1,js b A.length d,js Y B.length Z,js b0 C.length d0,js b1 D.length d1]):=(Kn.low a0).trans fun k cs t f h1 _ h3=>(Nq _ _ _ _ (by have:=g9.size;omega)).trans h3;have n8:=hI (f4 _ a9);clear Z9 S9 a9;generalize World.setRow _ _ _=l3 at *;simp[Act.put];go_wp2_with fail;refine Nh (v:= .tuple #[.agg #[n0,n1,js b A.length d,js Y B.length Z,js b0 C.length d0,js b1 D.length d1],.int .i64 0]) (eL rfl _ _ w.heap.size 28 _ (0,0) _ _ rfl rfl (Z2.row 0 _ rfl) underlying28 rfl (by kernel_rfl)) rfl ?_;have e:=n6.o;have hz:=n8.o;have c1:=p9.o;have k3:=HRL.symm.trans htx;rw[e]at hz c1 k3;exact⟨Z2.bel,.inl ⟨⟨n0,n1,A,B,C,D⟩,_,_,_,_,_,_,_,_,c1,k3,rfl,hz⟩⟩
          have hse: ¬j9=k1:=fun h=>htx ((CH (by rw[HRL.o];exact G9) n7).1 (by rw[HST.o,HSL.o];exact h));have td:(j9.toList==k1.toList)=false:=(by rw[Nd];intro h;apply hse;rw[<-HST.o,<-HSL.o]at h ⊢;exact CG h);have k2:(j9.toList != k1.toList)=true:=(by rw[bne,td];rfl);have f7:Hid (∀b7,bX b7->dP b7≠l):=fun b7 h1 h2=>htx (by rw[HRL.o,<-f3.o b7 h1 h2];exact h2);refine pH (C:=fun a7=> ∃t:Gw wo,a7=t.w) (fun d _ _ _ _ h=>by cases d<;>exact h) (fun a7 h=>⟨⟨a7,h⟩,rfl⟩) [9,10] (by kernel_rfl) a0 (by simp) ?_;simp only[eE,Db,List.getElem?_cons_zero,Nt,Option.toList_some,Nz,Dd]
          repeat (go_big_quiet_step (fail))
          refine wpQuiet_nil ?_;refine eI (by kernel_rfl) ?_ _;have Z9:=hI (Z1.below (jt J.fr.bel a0));clear k7 t1 t2 t3 t4 t5 k8 q0 q1 q2 q3 q4 q5 j6;go_upto_region 43 with fail
          iterate 4 go_step
          refine bP rfl 28 (.tmp 2) (.tmp 188) rfl w.heap.size cW cW 28 rfl rfl (Z9.row 0 _ rfl) (by kernel_rfl) rfl (by simp[Value.oneCell']) ?_;have Z2:=hI (Z9.setRow 0 rfl cW);clear Z9;generalize World.setRow _ _ _=l3 at *;simp[Act.put];go_wp2_with fail;refine Nh (v:= .tuple #[.agg cW,.int .i64 8]) (eL rfl _ _ w.heap.size 28 _ (0,0) _ _ rfl rfl (Z2.row 0 _ rfl) underlying28 rfl (by kernel_rfl)) rfl ?_;exact⟨Z2.bel,.inr ⟨f7,rfl⟩⟩
         have j7:=jU a4;have f7:Hid (∀b7,bX b7->dP b7≠l):=fun b7 h1 h2=>a4 (f3 b7 h1 h2 ▸ h1);rw[j7]at H4;clear b9 a4 j7 d6 H5 f6 f5 f3 H1;go_upto_region 42 with fail;refine pK [] [0] (by kernel_rfl) (fun d _ _ _ _ h=>by cases d<;>exact h) (by kernel_rfl) ?_;intro V D0 k6;have k7:=fun t:Gw wo=>t.cel q0;have t1:=fun t:Gw wo=>t.cel q1;have t2:=fun t:Gw wo=>t.cel q2;have t3:=fun t:Gw wo=>t.cel q3;have t4:=fun t:Gw wo=>t.cel q4;have t5:=fun t:Gw wo=>t.cel q5;have k8:=fun t:Gw wo=>t.lt j6;simp only[eE,Db,List.getElem?_cons_zero,Nt,Option.toList_some,Nz,Dd]
         repeat (go_big_quiet_step (fail))
         refine wpQuiet_nil ?_;refine aS 1 (by kernel_rfl) ?_;intro K hK;simp[wpOp,go_sem];refine .inl ((H4 V D0).mono ?_);rintro e d5 ⟨rfl,X⟩;simp[go_sem];have a3:=jt D0 X;refine hK _ _ (fun _=>a3) ?_;clear hK K X;refine pH (C:=fun a7=> ∃t:Gw wo,a7=t.w) (fun d _ _ _ _ h=>by cases d<;>exact h) (fun a7 h=>⟨⟨a7,h⟩,rfl⟩) [2,3,4,7,8] (by kernel_rfl) a3 (by simp) ?_;simp only[eE,Db,List.getElem?_cons_zero,Nt,Option.toList_some,Nz,Dd]
         repeat (go_big_quiet_step (fail))
         refine wpQuiet_nil ?_;refine sR 5 rfl (by kernel_rfl) (fun d _ _ _ _ h=>by cases d<;>exact h) a3 rfl ?_
         conv=>arg 8;simp[Act.put]
         refine pH (C:=fun a7=> ∃t:Gw wo,a7=t.w) (fun d _ _ _ _ h=>by cases d<;>exact h) (fun a7 h=>⟨⟨a7,h⟩,rfl⟩) [6,9,10] (by kernel_rfl) a3 (by simp) ?_;simp only[eE,Db,List.getElem?_cons_zero,Nt,Option.toList_some,Nz,Dd]
         repeat (go_big_quiet_step (fail))
         refine wpQuiet_nil ?_;refine eI (by kernel_rfl) ?_ _;have Z9:=hI (Z1.below (jt J.fr.bel a3));clear k7 t1 t2 t3 t4 t5 k8 q0 q1 q2 q3 q4 q5 j6;go_upto_region 43 with fail
         iterate 4 go_step
         refine bP rfl 28 (.tmp 2) (.tmp 188) rfl w.heap.size cW cW 28 rfl rfl (Z9.row 0 _ rfl) (by kernel_rfl) rfl (by simp[Value.oneCell']) ?_;have Z2:=hI (Z9.setRow 0 rfl cW);clear Z9;generalize World.setRow _ _ _=l3 at *;simp[Act.put];go_wp2_with fail;refine Nh (v:= .tuple #[.agg cW,.int .i64 8]) (eL rfl _ _ w.heap.size 28 _ (0,0) _ _ rfl rfl (Z2.row 0 _ rfl) underlying28 rfl (by kernel_rfl)) rfl ?_;exact⟨Z2.bel,.inr ⟨f7,rfl⟩⟩
section
attribute [local go_sem] Oper.semAt_some
open Go.RowKit Go.Sort Tryz
set_option maxHeartbeats 16000000
def PX {P:Program}(w:World) (g off:Nat) (ty:TypeId) (cs:Array Value) (n:Nat) (e:TypeId) (c: ∀(j:Nat) (v:Value),cs.toList[j]? =some v->jc w g (off+j) v)
  (d:P.underlying ty=some (.array n e)) (b:(P.info? ty).map (·.size)=some cs.size):
  (loadVar ty ⟨g,off,none⟩).run P w= .ok (.agg cs) w:=by
 have hl:=run_loadCells_list (P:=P) w ⟨g,off,none⟩ cs.toList (fun j v f=>by
   have H:(⟨g,off,none⟩:Addr).add j=⟨g,off+j,none⟩:=Yv;rw[H]
   exact c j v f)
 cases hq:P.info? ty with
 | none=>simp[hq]at b
 | some i=>
  have k:i.size=cs.size:=by simpa [hq]using b
  have a:(isAgg ty).run P w= .ok true w:=by
   unfold isAgg;rw[Sn,Fk d w];simp
  simp only[Array.length_toList,Array.toArray_toList]at hl;simp[loadVar,Sn,a,sizeOf,typeInfo,hq,k,hl]
def PW {o:Oper}(ty:TypeId) (x:Operand) (H:o.op= .load ty x)
  (g off:Nat) (hx:a.eval x= .pointer (some ⟨g,off,none⟩)) (cs:Array Value) (n:Nat) (e:TypeId) (b: ∀(j:Nat) (v:Value),cs.toList[j]? =some v->jc w g (off+j) v)
  (c:prog.underlying ty=some (.array n e)) (d:(prog.info? ty).map (·.size)=some cs.size) (f:K (a.put o.dst (.agg cs)) w):o.wp prog a w K Q:=by
 unfold Oper.wp execOp;simp only[H,hx,Instr.loadAt,Instr.sureAddr,Sn,Ty,So,PX w g off ty cs n e b c d];exact f
def ul {i:Nat}{o:Oper}(h:ops[i]? =some o) (hgd:o.guard=none) (ty:TypeId) (x:Operand) (H:o.op= .load ty x)
  (g off:Nat) (hx:a.eval x= .pointer (some ⟨g,off,none⟩)) (cs:Array Value) (n:Nat) (e:TypeId) (b: ∀(j:Nat) (v:Value),cs.toList[j]? =some v->jc w g (off+j) v)
  (c:prog.underlying ty=some (.array n e)) (d:(prog.info? ty).map (·.size)=some cs.size) (f:K (a.put o.dst (.agg cs)) w):wpOp prog ops Q i K a w:=by
 unfold wpOp;rw[h];have k:Region.wanted o (yielded ops a.tmps)=true:=by simp[Region.wanted,hgd]
 simp only[k,Hq];exact .inl (PW ty x H g off hx cs n e b c d f)
def uk {rest:List Oper}{o:Oper}(H:o.guard=none) (ty:TypeId) (x:Operand) (b:o.op= .load ty x)
  (g off:Nat) (hx:a.eval x= .pointer (some ⟨g,off,none⟩)) (cs:Array Value) (n:Nat) (e:TypeId) (c: ∀(j:Nat) (v:Value),cs.toList[j]? =some v->jc w g (off+j) v)
  (d:prog.underlying ty=some (.array n e)) (f:(prog.info? ty).map (·.size)=some cs.size) (h:wpList prog ops Q rest (a.put o.dst (.agg cs)) w):wpList prog ops Q (o::rest) a w:=
 Hl H fun _ i=>PW ty x b g off hx cs n e c d f (i _ _ h)
def ui (A:Array Value) (k:Nat) (v:Value) (a:k<8) (H:A[k]? =some v) (w:World):(Instr.index 381 (.agg A) (jV k)).run prog w= .ok v w:=by
 have h1:(0:Int)<=(k:Int)/\(k:Int)<8:=ed
 have h2:(prog.info? 85).map (·.size)=some 1:=ef
 have h3:prog.underlying 85=some (.int .u32):=ef
 simp[Instr.index,go_sem,h1,H];omega
def PS {P:Program}(t n e:Nat) (a:Option Addr) (l c:Nat) (w:World) (H:P.underlying t=some (.array n e)) (h: ¬l<n):(Instr.arrayAt t (js a l c)).run P w= .ok (.pointer a) w:=by
 unfold Instr.arrayAt;simp[Sn,Fk H w,h]
def uh (a:Option Addr) (n c:Nat) (w:World):
  jW 318 #[js a n c,jV 64] w fun e W=>e= .returned (.func (.func 385) #[] #[jp w 0,jp (w+1) 0])/\W=(w.alloc (.cells #[js a n c] 22)).alloc (.cells #[jV 64] 3):=by
 go_in
 go_wp2
 go_ret;exact⟨rfl,rfl⟩
structure nH (w:World) (G TB NB g c N:Nat) (cur:Array Value) (F:List Int) (k:Nat) (W:World):Prop where
 b:jb w W
 h:jk W G (bT (kQ F k)) 381
 z:jk W w (kR oL 0) 217
 t:jk W TB #[jq g 0 (64 * N) c] 22
 n:jk W NB #[jV 64] 3
 f:jk W g cur 5
def nH.keep {G T n g:Nat}(h:nH w G T n g c N cur F k W) (a:jb w W') (H: ∀(x:Nat) (cs:Array Value) (t:TypeId),jk W x cs t->jk W' x cs t):nH w G T n g c N cur F k W':=
 ⟨a,H _ _ _ h.h,H _ _ _ h.z,H _ _ _ h.t,H _ _ _ h.n,H _ _ _ h.f⟩
def nH.below {G T n g:Nat}(h:nH w G T n g c N cur F k W) (H:jb W W'):nH w G T n g c N cur F k W':=
 h.keep (jt h.b H) fun x cs t hx=>(jm H hx)
def nH.put {G T n g:Nat}(h:nH w G T n g c N cur F k W){l:Nat}{o:Obj}(o':Obj) (hl:w.heap.size<=l) (H:W.heap[l]? =some o) (a:o.isCells=false):nH w G T n g c N cur F k (W.putObj l o'):=
 h.keep (h.b.grown (grownBy_putObj' _ _ _) h.b.size (fun j e=>by cases e;exact hl)) fun x cs t hx=>(World.putObj_heap_other (by rintro rfl;rw[H]at hx;cases hx;cases a)).trans hx
def nH.next {G T n g:Nat}(h:nH w G T n g c N cur F k W) (b:w.heap.size<=G):nH w G T n g c N cur F (k+1) (W.setRow G (bT (kQ F (k+1)))):=by
 have H: ∀ {x:Nat}{cs:Array Value}{t:TypeId},t≠381->jk W x cs t->(W.setRow G (bT (kQ F (k+1)))).heap[x]? =some (.cells cs t (0,0)):=fun a hx=>by
  refine(Nq _ _ _ _ ?_).trans hx;rintro rfl;rw[h.h]at hx;exact a (Tq (Pq hx)).2.1.symm
 exact⟨h.b.trans ⟨rfl,rfl,rfl,Qx,fun j hj=>Nq _ _ _ _ ed⟩,Dp W G _ _ _ _ h.h,H eh h.z,H eh h.t,H eh h.n,H eh h.f⟩
structure RSm (W0:World) (X Y:V8) (sl pt:Value) (LA:Array Value) (f:Nat->Bool) (G:Nat) (s13 s14 s15 s16 s17:Value) (W:World):Prop where
 pre:f 5=false->jb W0 W
 fin:f 5=true-> ∃V,jb W0 V/\W=V.setRow G (bT Y)
 h0:f 0=true->s13= .agg (bT X)
 h1:f 1=true->s14=sl
 h2:f 2=true->s15=pt
 h3:f 3=true->s16= .agg LA
 h4:f 4=true->s17= .agg (bT Y)
 q5:f 5=true->f 0=true/\f 1=true/\f 2=true/\f 3=true/\f 4=true
theorem ug (b:List Int) (a:Option Addr) (c:Nat) (w:World) (hl:aB w 1 dG a c b) (d2:aO b) (g3:b.length<=6000):
  jW 226 #[js a b c] w fun e g4=>e= .returned (.agg (bC (kA b)))/\jb w g4:=by
 have I:=hI fun W (s:jb w W)=>uz b a c W (hl.below fS s) g3;refine callsIn_wide.1 (callsIn_of_wp_marks (n:=3) func226 rfl Py ?_ rfl);simp only[ntmps226,Gv,Du,Tl,Nat.reduceAdd,Nat.reduceSub,Gk,Gj,Gx,Gq,Dd,Nz];refine wpIn_wide.2 ?_;go_upto_region 1 with fail;generalize b4:World.alloc _ _=W0;have K0:=hI (jG b4)
 have R0:Hid (jk W0 w (kR oL 0) 217):=by show _=_;rw[<-b4,FH];exact Ud
 go_upto_region 2 with(first | (go_at_call 317;refine(vl _).mono ?_;refine Qe fun W2 a3=>?_) | (refine bP rfl 381 (.tmp 3) (.tmp 8) rfl W2 (bT oL) _ 381 rfl rfl Oa Vp (by rw[iO];rfl) (sT _) ?_;rw[World.setRow_alloc_new];simp[Act.put]))
 refine Qq fun W3 o9=>?_;have R3:=hI (jA o9)
 have g9:Hid (jb W0 W3):=by refine Uy ?_;exact a3.alloc a3.size _
 have g6:=hI a3.size;generalize W2.heap.size=G at *;go_upto_region 3 with(first | (go_at_call 319;refine(I W3 (jo K0 g9)).mono ?_;refine Ou fun W4 g7 M d3 O=>?_) | (go_at_call 318;refine(uh _ _ _ _).mono ?_;rintro e W5 ⟨rfl,rfl⟩))
 generalize P:World.alloc (World.alloc _ _) _=W5;obtain⟨N,d1⟩:=OQ b;have H5:=hI (OP d2)
 have d4:(iB b).length<=6200:=by
  rw[iB,Mx,vQ,qS];unfold nJ;omega
 have g8:0<(iB b).length:=by
  rw[iB,Mx,vQ,qS];omega
 have H0:Hid (bC (kA b)=bC (oH (kQ (iB b) N) 32)):=by show _=_;rw[kA,d1,Nat.mul_div_cancel_left _ eh]
 have b5:=d3;unfold cM at b5;generalize iB b=F at *
 obtain⟨g,cur,rfl,k7,b6,a0,b7,ho,hb⟩: ∃g cur,g7=some ⟨g,0,none⟩/\W3.heap.size<=g/\jk W4 g cur 5/\F.length<=M/\M<=maxLen/\cur.size=M/\cur.toList.take F=F.flatMap dR:=by
  rcases b5.2 with⟨h,h2⟩ | ⟨g,cap,cur,h,h1,h2,h3,h4,h5,h6⟩
  ·omega
  cases h;exact⟨g,cur,rfl,h1,h2,h3,h4,ed,by simpa using h6⟩
 refine Qa fun H1 _=>?_;have d5:=aD R3;have d6:=aD R0;have i1:=O.size
 have I5:Hid (nH w G W4 (W4+1) g M N cur F 0 W5):=by
  show nH _ _ _ _ _ _ _ _ _ _ _;have a1: ∀x o,W4.heap[x]? =some o->W5.heap[x]? =some o:=fun x o hx=>by rw[<-P];exact(Nv _ _ (by have:=aD hx;simp;omega)).trans ((Nv _ _ (aD hx)).trans hx)
  refine⟨?_,a1 _ _ ((O.block _ d5).trans R3),a1 _ _ ((O.block _ Uo).trans ((g9.block _ d6).trans R0)),?_,?_,a1 _ _ b6⟩
  ·have d7:=(jo K0 g9).trans (O.mono Uo);rw[<-P];exact(d7.alloc d7.size _).alloc (by have:=d7.size;simp;omega) _
  ·rw[<-P,<-d1];exact(Nv _ _ ee).trans Oa
  rw[<-P];exact Do _ _ _
 have b8:Hid (w.heap.size<=G):=by show _<=_;have:=g6.o;omega
 rw[d1]at a0 d4 H1 ⊢;have i2:=hI d1;generalize i3:W4.heap.size=T at *;refine wpIn_wide.1 (um T (T+1) g 0 M N ed a0 (by unfold maxLen at b7;omega) rfl rfl (nH w G T (T+1) g M N cur F) ?_ ?_ ?_ ?_ (fun k=>{tmps:=#[js a b c,undef,jp w 0,jp G 0,jq g (64 * k) 64 64,undef,undef,undef,.agg (bT oL),js a b c,jq g 0 (64 * N) M,.func (.func 385) #[] #[jp T 0,jp (T+1) 0],jq g (64 * k) 64 64,undef,undef,undef,undef,undef,undef,undef,undef,undef,undef,undef,undef,undef,undef,undef,undef,undef],defers:=[]}) ?_ ?_ ?_)
 ·intro k W h;exact⟨by simp[World.cell?,h.t],by simp[World.cell?,h.n]⟩
 ·intro k W n h;exact h.below ⟨rfl,rfl,rfl,Mv _,fun _ _=>rfl⟩
 ·intro k W l o o' hl i4 r h;exact h.put o' (Nj I5.b.size hl) i4 r
 ·intro o o';exact(I5.below ((Nb _ _).alloc ep o)).below ((Nb _ (W5.alloc o)).alloc ep o')
 ·intro l k W K i5;simp only[Pa]
  gi_wp2
  exact i5
 ·intro l k W i6 b9;have b3:=hI b9
  gi_upto_region 4 with fail
  obtain⟨L,a4⟩: ∃L,L=(F.drop (64 * k)).take 64:=⟨_,rfl⟩;have a5:L.length=64:=by rw[a4,Dn,Po,i2.o];omega
  have d8:aO L:=fun x hx=>H5 x (Gh (Tm (a4 ▸ hx)));have i7:Hid (kQ F (k+1)=qX (kQ F k) (kW L 0)):=by show _=_;rw[a4,zw];rfl
  have i8:Hid (∀(j:Nat) (v:Value),(bC L).toList[j]? =some v->cur[64 * k+j]? =some v):=by
   show∀(j:Nat) (v:Value),_;intro j v hv;simp only[bC,Pp,Option.map_eq_some_iff]at hv;obtain⟨x,hx,d9⟩:=hv;have hj:j<64:=(by rw[<-a5];exact(List.getElem?_eq_some_iff.1 hx).1);have i9:L[j]? =F[64 * k+j]? :=(by rw[a4,Fo hj,List.getElem?_drop]);have f7:(bC F)[64 * k+j]? =some v:=(by simp[bC,<-i9,hx,d9]);rw[FD,<-H1.o,Fo ed]at f7
   simpa using f7
  have H6:Hid ((bC L).size=64):=by show _=_;rw[fP,a5]
  have f8:=hI fun V=>uu (kQ F k) L a5 d8 V;rw[<-i7.o]at f8;have j0:=b3.b.size;have a6:=hI b3.h;have e0:=hI b3.f
  have H7:Hid (∀V,jb W V->IK W5 (nH w G T (T+1) g M N cur F (k+1)) W .normal {tmps:=#[],defers:=[]} (V.setRow G (bT (kQ F (k+1))))):=by
   show∀V,_->_;intro V c0;refine⟨⟨by have:=c0.size;simp[World.setRow];omega,fun x o j1 a7 e1=> ?_⟩,(b3.below c0).next b8⟩;refine(Nq _ _ _ _ ?_).trans ((jm c0 a7));rintro rfl;rw[a6.o]at a7;cases a7;cases e1
  generalize k8:kQ F k=X at *;generalize j2:kQ F (k+1)=Y at *;generalize bC L=LA at *;refine uq l 1 (by rintro⟨_,_,h⟩;exact h) ef ef (fun f e2 W9=> ∃z s14 A B s17:Value,e2={tmps:=#[js a b c,undef,jp w 0,jp G 0,jq g (64 * k) 64 64,undef,undef,undef,.agg (bT oL),js a b c,jq g 0 (64 * N) M,.func (.func 385) #[] #[jp T 0,jp (T+1) 0],jq g (64 * k) 64 64,z,s14,A,B,s17,undef,undef,undef,undef,undef,undef,undef,undef,undef,undef,undef,undef],defers:=[]}/\RSm W X Y (jq g (64 * k) 64 64) (jp g (64 * k)) LA f G z s14 A B s17 W9) ?_ ?_ ?_
  ·exact⟨_,_,_,_,_,rfl,{pre:=fun _=>⟨rfl,rfl,rfl,Mv _,fun _ _=>rfl⟩,fin:=by simp,h0:=by simp,h1:=by simp,h2:=by simp,h3:=by simp,h4:=by simp,q5:=by simp}⟩
  ·intro i o r f e2 W9 a8 hd T4;obtain⟨z,s14,A,B,s17,rfl,q⟩:=a8;rcases i with _ | _ | _ | _ | _ | _ | i
   ·have t:=r;simp at t;subst t;have h5:f 5=false:=by cases h:f 5 with | false=>rfl | true=>exact absurd ((q.q5 h).1) Vm
    have s:=q.pre h5;refine OA r rfl (.tmp 3) rfl G rfl 381 (bT X) (0,0) ((jm s a6)) Vp ?_;exact⟨_,_,_,_,_,rfl,{q with h0:=fun _=>rfl,q5:=fun k=>by simp[h5]at k}⟩
   ·simp at r;subst r;have h5:f 5=false:=by cases h:f 5 with | false=>rfl | true=>exact absurd ((q.q5 h).2.1) Vm
    refine Ot ?_;exact⟨z,.slice (some ⟨g,64 * k,none⟩) 64 64,A,B,s17,ee,{q with h1:=fun _=>rfl,q5:=fun k=>by simp[h5]at k}⟩
   ·simp at r;subst r;have h5:f 5=false:=by cases h:f 5 with | false=>rfl | true=>exact absurd ((q.q5 h).2.2.1) Vm
    obtain rfl:=q.h1 (hd ⟨1,.data⟩ ee ev);simp[wpOp,go_sem,Instr.arrayAt];refine .inl ?_;exact⟨z,.slice (some ⟨g,64 * k,none⟩) 64 64,.pointer (some ⟨g,64 * k,none⟩),B,s17,ee,{q with h2:=fun _=>rfl,q5:=fun k=>by simp[h5]at k}⟩
   ·have t:=r;simp at t;subst t;have h5:f 5=false:=by cases h:f 5 with | false=>rfl | true=>exact absurd ((q.q5 h).2.2.2.1) Vm
    have s:=q.pre h5;obtain rfl:=q.h2 (hd ⟨2,.data⟩ ee ev);have a9:=jm s e0;refine ul r rfl 291 (.tmp 15) rfl g (64 * k) rfl LA _ _ (fun j v hv=>by rw[Mu _ _ _ _ _ _ a9];exact i8 j v hv) underlying291 (by rw[H6.o];kernel_rfl) ?_;exact⟨_,_,_,_,_,rfl,{q with h3:=fun _=>rfl,q5:=fun k=>by simp[h5]at k}⟩
   ·simp at r;subst r;have h5:f 5=false:=by cases h:f 5 with | false=>rfl | true=>exact absurd ((q.q5 h).2.2.2.2) Vm
    have s:=q.pre h5;obtain rfl:=q.h0 (hd ⟨0,.data⟩ ee ev);obtain rfl:=q.h3 (hd ⟨3,.data⟩ ee ev);simp[wpOp,go_sem];refine .inl ((f8 W9).mono ?_);refine Qe fun V e3=>?_;simp[go_sem];exact⟨.agg (bT X),s14,A,.agg LA,.agg (bT Y),ee,{q with pre:=fun _=>jt s e3,fin:=fun k=>by simp[h5]at k,h4:=fun _=>rfl,q5:=fun k=>by simp[h5]at k}⟩
   ·have t:=r;simp at t;subst t;have s:=q.pre T4;have f9:=hd ⟨4,.data⟩ ee ev;obtain rfl:=q.h4 f9;have a9:=jm s a6;refine kG r rfl 381 (.tmp 3) (.tmp 17) rfl G (bT Y) rfl rfl 381 _ a9 Vp (by rw[iO,iO]) (sT _) ?_;exact⟨_,_,_,_,_,rfl,{q with pre:=fun k=>by simp at k,fin:=fun _=>⟨_,s,rfl⟩,q5:=fun _=>⟨hd ⟨0,.phase⟩ ee ev,hd ⟨1,.phase⟩ ee ev,hd ⟨2,.phase⟩ ee ev,hd ⟨3,.phase⟩ ee ev,f9⟩}⟩
   simp at r
  intro f e2 W9 a8 c1;obtain⟨z,s14,A,B,s17,rfl,q⟩:=a8;obtain⟨V,c0,rfl⟩:=q.fin (c1 5 ee);exact H7 V c0
 intro D W j3 b9 b0;have a1:=b9.h;have hz:=b9.z;have H2:=hI b9.b;have H8:Hid (w.heap.size<=D):=Nj I5.b.size j3;generalize kQ F N=H at *;obtain⟨u,b1⟩: ∃u:Nat->List Int,u=fun k=>((cZ H).take k).flatMap fun x=>gH x.toNat 4:=⟨_,rfl⟩;have HE:Hid (u 0=[]):=by show _=_;rw[b1];rfl
 have H3:Hid (u 8=oH H 32):=by show _=_;rw[b1,zu];rfl
 have H4:Hid (∀k,k<8->u (k+1)=u k++gH ((cZ H).getD k 0).toNat 4):=by
  show∀k,_->_;intro k a2;have c2:k<(cZ H).length:=a2;have e:(cZ H).take (k+1)=(cZ H).take k++[(cZ H)[k]]:=(by rw[Fz,Nf c2];rfl);rw[b1];show List.flatMap _ ((cZ H).take (k+1))=_;rw[e,Dg,Na,Nf c2];simp
 have I:Hid (∀k,k<=8->(u k).length=4 * k):=by
  show∀k,_->_;intro k a2
  induction k with
  | zero=>rw[HE.o];rfl
  | succ k j4=>rw[H4.o k a2,Mx,j4 ed,qS];omega
 have j5:Hid (∀k,k<8->(bT H)[k]? =some (.int .u32 ((cZ H).getD k 0).toNat)):=by
  show∀k,_->_;intro k a2;simp[bT,eJ,Na,show k<(cZ H).length from a2]
 have H9:Hid ((bT H).size=8):=iO H;have e4:Hid (W.ownsRow W 5 1 (jN) 0 []):=Nw _ _ _ _;have e5:Hid (jb W W):=Nb _ _;go_wp2_with (refine Dx rfl 381 (.tmp 3) rfl G rfl 381 (bT H) (0,0) _ a1 underlying381 rfl Vp ?_;simp[Act.put]);generalize c3:W.heap.size=Q at *;have R:Hid (w.heap.size<=Q/\G<Q/\Q<=W.heap.size/\D<Q):=by rw[<-c3];exact⟨H2.size,aD a1,Mv _,aD b0⟩
 clear c3;have k9:=hI a1;have j6:=hI hz;have e6:=hI b0;clear a1 hz b0;go_loopg [5,19] 8 (fun g v i wr=> ∃(k:Nat) (c4:Option Addr) (d:Nat),k<=8/\g=8-k/\i= jV k/\v= .slice c4 (u k).length d/\Below Q W wr/\wr.ownsRow Q 5 1 (js c4 (u k).length d) (u k).length ((u k).flatMap dR))
 ·exact⟨0,none,0,Pe _,rfl,rfl,ew,e5,by rw[HE.o];exact e4⟩
 obtain⟨k,c4,d,a2,rfl,rfl,rfl,s,r⟩:=hrel;have e7:Q<=wr.heap.size:=Nj R.2.2.1 s.size;have j7:=hI s;by_cases E:k<8
 ·have hd:decide ((k:Int)<8)=true:=em;have hx:=j5 k E;have j8:(k:Int)<8:=ed;have j9:=H9.o;have b3:=hI (H4 k E);have HLT:=hI E;have c5:=I k a2;have c6:=I (k+1) E;have k0:((cZ H).getD k 0).toNat<4294967296:=((cZ H).getD k 0).isLt;generalize((cZ H).getD k 0).toNat=y at *;have k1:(y:Int) % 18446744073709551616=(y:Int):=ed;have k2:(y:Int)<4294967296:=ed;have g0:=hI (OB Q (u k) c4 d y 4 wr r e7 ed eh ed);rw[<-b3.o,show(u k).length+4=(u (k+1)).length by omega]at g0;generalize c7:u (k+1)=F2 at *;have HRL:=hI c7;clear c7;have k3:=hI c6;have k4:=hI c5;generalize e8:(u k).length=q1 at *;have g1:=ui _ k _ E hx wr;generalize bT H=l0 at *;clear hx s E r a2 c5 c6 e8 k0;go_wp2_with (go_at_call 321;refine g0.mono ?_;rintro e V ⟨k5,k6,rfl,e9,f0⟩);have G9:=hI e9;have f1:Hid (Below Q W V):=j7.trans f0;go_roundg (8-(k+1))
  ·have:=HLT.o;go_light;exact⟨k+1,k5,k6,ed,rfl,ej,by rw[HRL.o],f1,Ox⟩
  exact Vx
 obtain rfl:k=8:=ed;have hd:decide (((8:Nat):Int)<8)=false:=eh;have hl8:=I 8 (Mv 8);rw[H3.o]at r hl8;obtain⟨L,a4⟩: ∃L,L=oH H 32:=⟨_,rfl⟩;rw[H3.o,<-a4];rw[<-a4]at r hl8 H0
 obtain⟨g5,C,rfl,c8,b2⟩: ∃g5 C,c4=some ⟨g5,0,none⟩/\C.toList.take 32=L.flatMap dR/\jk wr g5 C 5:=by
  rcases r.2 with⟨-,h⟩ | ⟨g,cap,cur,h,h1,h2,h3,h4,h5,h6⟩
  ·omega
  cases h;exact⟨g,cur,rfl,by rw[hl8]at h6;simpa using h6,h2⟩
 have f2:Hid (∀(j:Nat) (v:Value),(bC L).toList[j]? =some v->C[j]? =some v):=by
  show∀(j:Nat) (v:Value),_;intro j v hv;have hj:j<32:=Mi;rw[Ge,FD,<-c8,Fo hj]at hv
  simpa using hv
 have U:=(s.block _ (Nat.lt_of_le_of_lt b8 R.2.1)).trans j6;have f3:Hid (jb w wr):=H2.trans (s.mono R.1);have J:wr.heap[D]? =some (.deferred (some [])):=(s.block _ R.2.2.2).trans e6;rw[hl8];have Z:Hid ((bC L).size=32):=(by show _=_;rw[fP,hl8]);have f4:=hI (pX L);have g2:=PS 217 32 5 (some ⟨g5,0,none⟩) 32 d wr underlying217 eh;generalize bC L=LA at *;go_wp2_with (first | (refine uk rfl 217 (.tmp 28) rfl g5 0 rfl LA _ _ (fun j v hv=>by rw[Pa,Mu _ _ _ _ _ _ b2];exact f2 j v hv) underlying217 (by rw[Z.o];kernel_rfl) ?_;simp[Act.put]) | (refine bP rfl 217 (.tmp 2) (.tmp 29) rfl w LA _ 217 rfl rfl U (by rw[Z.o];kernel_rfl) (by rw[Z.o,vP]) f4 ?_))
 have c9:w.heap.size≠D:=(by rintro h;rw[h]at U;rw[U]at J;cases J);have f5:(wr.setRow w LA).heap[D]? =some (.deferred (some [])):=(Nq _ _ _ _ (fun h=>c9 h.symm)).trans J;have f6:=Dp wr w _ LA _ _ U;have d0:jb w (wr.setRow w LA):=f3.trans ⟨rfl,rfl,rfl,Qx,fun i l1=>Nq _ _ _ _ ed⟩;simp only[Act.put];refine⟨ee,.inl ⟨_,_,rfl,run_takeDeferred f5,?_⟩⟩;refine⟨_,Pb (p:=2) (ty:=217) rfl _ _ w 217 LA (0,0) _ rfl ((World.putObj_heap_other c9).trans f6) underlying217 rfl (by rw[Z.o];kernel_rfl),by rw[H0.o],d0.grown (grownBy_putObj' _ _ _) d0.size (fun k e=>by cases e;exact H8)⟩
end
def lQ (f g:Nat->Int) (n i:Nat):List Int:=(List.range n).map fun j=>if j<i then f j else g j
def AQ (f g:Nat->Int) (n i:Nat):(lQ f g n i).length=n:=by simp[lQ]
def ue (f g:Nat->Int) (n i:Nat) (h:i<n):(bC (lQ f g n i))[i]? =some (.int .u8 (g i)):=by simp[bC,lQ,h]
def ud (f g:Nat->Int) (n i:Nat) (h:i<n):(bC (lQ f g n i)).setIfInBounds i (.int .u8 (f i))=bC (lQ f g n (i+1)):=by
 apply Ip;apply Fd;intro j;simp only[bC,lQ,Fh,If,Pp,Pn,Gy];by_cases hj:j<n
 ·rw[List.getElem?_range hj];by_cases e:i=j
  ·subst e;simp[hj]
  have:(j<i)↔(j<i+1):=ed;simp[e,this]
 have e:i≠j:=by omega
 simp[e,show(List.range n)[j]? =none from by simp;omega]
theorem uc (K b:List Int) (y:Int) (L:Nat) (a:Option Addr) (c:Nat) (w:World) (I:K.length=64) (a7:aO K) (d:jk w L (bC K) 291) (hl:aB w 1 dG a c b) (k:aO b) (b8:b.length<=5900):
  jW 225 #[.int .u8 y,js a b c,jp L 0] w fun e a8=>e= .returned (.agg (bC (kA (K.map (fun x=>bits .xor .u8 x y)++b))))/\jb w a8:=by
 refine Ka fun a9=>?_;obtain⟨f,a3⟩: ∃f:Nat->Int,f=fun j=>bits .xor .u8 (K.getD j 0) y:=⟨_,rfl⟩;obtain⟨g,a4⟩: ∃g:Nat->Int,g=fun j=>K.getD j 0:=⟨_,rfl⟩
 have N:Hid (bC K=bC (lQ f g 64 0)):=by
  show _=_
  congr 1
  apply Fd;intro j;by_cases hj:j<64
  ·simp[lQ,a4,Na,I,hj]
  simp[lQ,I,hj]
 have l:Hid (lQ f g 64 64=K.map fun x=>bits .xor .u8 x y):=by
  show _=_;apply Fd;intro j;by_cases hj:j<64
  ·simp[lQ,a3,Na,I,hj]
  simp[lQ,I,hj]
 have b0:Hid (∀j,bits .xor .u8 (g j) y=f j):=by show∀j,_;intro j;rw[a3,a4]
 have O:Hid (aO (lQ f g 64 64)):=by
  show aO _;rw[l.o];intro x hx;obtain⟨z,-,rfl⟩:=List.mem_map.1 hx;exact OJ z y
 rw[N.o]at d;rw[<-l.o];go_in;go_upto_region 1 with fail;generalize n:World.alloc _ _=W0;have K0:=hI (jG n)
 have R0:Hid (jk W0 w (bC AF) 217):=by show _=_;rw[<-n,AS];exact Ud
 have r:=jm K0 d;have H3:=hI r;go_upto_region 2 with(first | (refine Dx rfl 291 (.tmp 2) rfl L rfl 291 (bC (lQ f g 64 0)) (0,0) _ r underlying291 rfl (by rw[fP,AQ];kernel_rfl) ?_;simp[Act.put]) | (refine bP rfl 291 (.tmp 6) (.tmp 8) rfl W0 (bC (lQ f g 64 0)) _ 291 rfl rfl Oa (by rw[fP,AQ];kernel_rfl) (by rw[fP,AQ];rfl) (pX _) ?_;rw[World.setRow_alloc_new];simp[Act.put]))
 refine Qq fun _ s=>?_;have R3:=hI (jA s)
 have B3:=hI (jG s)
 have b1:=hI (aD R0);generalize b2:W0.heap.size=G at *;have HGE:=hI b2;go_wp2_with fail;go_loopg [9] 64 (fun q i wr=> ∃j:Nat,j<=64/\q=64-j/\i= jV j/\Below G W0 wr/\jk wr G (bC (lQ f g 64 j)) 291)
 ·exact⟨0,Pe _,rfl,rfl,B3,R3⟩
 obtain⟨j,hj,rfl,rfl,hb,ho⟩:=hrel;refine Qa fun P t=>?_;by_cases H:j<64
 ·have hd:decide ((j:Int)<64)=true:=em;have b9:=(Mu wr G j _ _ _ ho).trans (ue f g 64 j H);have fz:=uE ho j;have HV:=hI (ud f g 64 j H);have hx:=b0 j;have b3:(j:Int)<64:=ed;generalize g j=c0 at *;generalize f j=a5 at *;have HLT:=hI H;go_wp2_with fail;have Q:=P.setCell (p:=⟨G,j,none⟩) ep (.int .u8 a5);have R:=(uD (o:=j) (u:= .int .u8 a5) t).trans Oi;go_roundg (64-(j+1))
  ·have:=HLT.o;go_light;exact⟨j+1,ed,rfl,ej,Q,R⟩
  exact Vx
 obtain rfl:j=64:=ed;have hd:decide (((64:Nat):Int)<64)=false:=eh;have A:=hI (K0.trans Yt);have b4:=hI ((hb.block _ b1).trans R0);obtain⟨M,J⟩: ∃M,M=lQ f g 64 64:=⟨_,rfl⟩;have T:M.length=64:=(by rw[J,AQ]);have U:Hid (aB wr 1 dG (some ⟨G,0,none⟩) 64 M):=OF ed (by rw[J];exact t);have X:=hI (a9 wr A);rw[<-J]at O;have b5:=hI J;have HGP:=hI T;go_upto_region 7 with fail
 iterate 10 go_step
 generalize hA:World.alloc wr _=W5;have B5:=jG hA;have R5:jk W5 wr #[jq G 0 M 64,js a b c] 22:=Yi;have Y:=jh A B5;have Z:=hI (jm B5 b4);have a6:=hI (ux wr (some ⟨G,0,none⟩) a 64 c M b W5 (Mu _ _ 0 _ _ _ R5) (Mu _ _ 1 _ _ _ R5) (U.below fS B5) (X.below fS B5) O k (by rw[HGP.o];decide) ed);have B:Hid ((M++b).length<=6000):=(by show _<=_;rw[Mx,HGP.o];omega);have C:=hI (O.app k);rw[b5.o]at a6 B C;generalize a0:lQ f g 64 64++b=a1 at *;have H0:=hI a0;go_wp2_with (first | (go_at_call 227;refine a6.mono ?_;refine Ou fun V b6 c6 a2 D=>?_;have H4:=hI (jo Y D);have H1:=hI ((jm D Z));have b7:=hI (ug a1 b6 c6 V (cM.sl a2) C B)) | (go_at_call 226;refine b7.mono ?_;refine Qe fun _ E=>?_;have F:=jm E H1;have H2:=hI (jo H4 E)) | (refine bP rfl 217 (.tmp 5) (.tmp 23) rfl w (bC (kA a1)) _ 217 rfl rfl F (by rw[fP,oG];kernel_rfl) (by rw[fP,fP,oG];rfl) (pX _) ?_))
 refine Nh (v:= .agg (bC (kA a1))) (Pb (p:=5) (ty:=217) rfl _ _ w 217 _ (0,0) _ rfl (Dp _ _ _ _ _ _ F) underlying217 rfl (by rw[fP,oG];kernel_rfl)) rfl ?_;exact⟨by rw[H0.o],H2.trans ⟨rfl,rfl,rfl,Qx,fun i c1=>Nq _ _ _ _ ed⟩⟩
def AP (x:BitVec 8):BitVec.ofInt 8 (x.toNat:Int)=x:=by
 apply Fc;simp
def PR (x:BitVec 8):IntKind.u8.wrap (x.toNat:Int)=(x.toNat:Int):=by
 have:=x.isLt;exact Zp
def ua (a b:BitVec 8):bits .xor .u8 (a.toNat:Int) (b.toNat:Int)=((a ^^^ b).toNat:Int):=by
 show IntKind.u8.wrap (((BitVec.ofInt 8 (a.toNat:Int) ^^^ BitVec.ofInt 8 (b.toNat:Int)).toNat:Nat):Int)=_;rw[AP,AP,PR]
def wt (a b:BitVec 8):bits .or .u8 (a.toNat:Int) (b.toNat:Int)=((a ||| b).toNat:Int):=by
 show IntKind.u8.wrap (((BitVec.ofInt 8 (a.toNat:Int) ||| BitVec.ofInt 8 (b.toNat:Int)).toNat:Nat):Int)=_;rw[AP,AP,PR]
def or0 (u v:BitVec 8):u ||| v=0↔u=0/\v=0:=BitVec.or_eq_zero_iff
def wl (u v:BitVec 8):u ^^^ v=0↔u=v:=BitVec.xor_eq_zero_iff
def PQ (h:aO l) (i:Nat) (H:i<l.length): ∃x:BitVec 8,l[i]=(x.toNat:Int):=by
 have:=h _ (Nn H);exact⟨BitVec.ofNat 8 l[i].toNat,em⟩
def wh (A:Array Value) (k:Nat) (v:Value) (a:k<32) (H:A[k]? =some v) (w:World):(Instr.index 217 (.agg A) (jV k)).run prog w= .ok v w:=by
 have h1:(0:Int)<=(k:Int)/\(k:Int)<32:=ed
 have h2:(prog.info? 5).map (·.size)=some 1:=ef
 have h3:prog.underlying 5=some (.int .u8):=ef
 simp[Instr.index,go_sem,h1,H];omega
def we (A B:List Int) (w:World) (hb:A.length=32) (ho:B.length=32) (b:aO A) (c:aO B):
  jW 156 #[.agg (bC A),.agg (bC B)] w fun e W=>e= .returned (.bool (decide (A=B)))/\jb w W:=by
 refine Qa fun HRL a=>?_;have d:=hI b;have f:=hI c;go_in;go_upto_region 1 with fail;generalize H:World.alloc (World.alloc _ _) _=W0;have K0:=hI (eN H)
 have RA:=jB H
 have R:=hI (jC H)
 go_wp2_with (refine Dx rfl 217 (.tmp 2) rfl w rfl 217 (bC A) (0,0) _ RA underlying217 rfl (by rw[fP,HRL.o];kernel_rfl) ?_;simp[Act.put]);go_loopg [5,9] 32 (fun q v i wr=> ∃(j:Nat) (x:BitVec 8),j<=32/\q=32-j/\i= jV j/\v= .int .u8 (x.toNat:Int)/\(x=0↔A.take j=B.take j)/\wr=W0)
 ·exact⟨0,0,Pe _,rfl,rfl,rfl,ee,rfl⟩
 obtain⟨j,x,hj,rfl,rfl,rfl,hx,n⟩:=hrel;obtain rfl:=n.symm;have s:=hI hx;by_cases G9:j<32
 ·have hd:decide ((j:Int)<32)=true:=em;obtain⟨p,k⟩:=PQ d j Ox;obtain⟨q,hq⟩:=PQ f j (by rw[a.o];exact G9);have E:(bC A)[j]? =some (.int .u8 (p.toNat:Int)):=(by simp[bC,HRL.o,G9,k]);have o:(bC B)[j]? =some (.int .u8 (q.toNat:Int)):=(by simp[bC,a.o,G9,hq]);have l:=wh _ j _ G9 E W0;have C:=(Mu W0 (w+1) j _ _ _ R).trans o;have r:(j:Int)<32:=ed;have t:=ua p q;have u:=wt x (p ^^^ q)
  have g:Hid (x ||| (p ^^^ q)=0↔A.take (j+1)=B.take (j+1)):=by
   show _↔_;rw[Fz,Fz,Nf Ox,Nf (by rw[a.o];exact G9),k,hq,or0,wl,hx];constructor
   ·rintro⟨h1,h2⟩;rw[h1,h2]
   intro h;have h2:=List.append_inj' h rfl;refine⟨h2.1,?_⟩;have h3:=h2.2;simp at h3;exact Fc (Int.ofNat.inj h3)
  have HLT:=hI G9;generalize bC A=V at *;generalize(p ^^^ q)=pq at *;generalize(x ||| pq)=xpq at *;go_wp2_with fail;go_roundg (32-(j+1))
  ·have:=HLT.o;go_light;exact⟨j+1,xpq,ed,rfl,ej,rfl,g,rfl⟩
  exact Vx
 obtain rfl:j=32:=ed;have hd:decide (((32:Nat):Int)<32)=false:=by decide
 have he:((x.toNat:Int)==0)=decide (A=B):=by
  rw[Sk (by rw[HRL.o];exact Mv _),Sk (by rw[a.o];exact Mv _)]at hx;rw[Dh];simp only[Da,Dr,<-hx];constructor
  ·intro h;apply Fc;simp;omega
  intro h;rw[h];rfl
 go_wp2_with fail;go_ret;exact⟨rfl,K0⟩
def lI (key b:List Int) (p:Pl):Prop:=32<=b.length/\pI key (b.take (b.length-32))=b.drop (b.length-32)/\bX p/\dP p=(b.take (b.length-32)).map Int.toNat
def jI (key b:List Int):Int:=if b.length<32 then 8 else if pI key (b.take (b.length-32))=b.drop (b.length-32)then 8 else 120
def DV (w:World) (key b:List Int) (e:Ending) (w':World):Prop:=
 jb w w'/\((∃p a1 c1 a2 c2 a3 c3 a4 c4,lI key b p/\e= .returned (.tuple #[aT p (js a1 p.S c1) (js a2 p.P c2) (js a3 p.G c3) (js a4 p.R c4),jV 0])/\bN (bK (old w) w') (js a1 p.S c1) (js a2 p.P c2) (js a3 p.G c3) (js a4 p.R c4) p)\/
  ((∀p,¬lI key b p)/\e= .returned (.tuple #[sE,jV (jI key b)])))
def vz {b:List Int}{p q:Pl}(H:lI key b p) (hq:lI key b q):p=q:=by
 have h1:=AY H.2.2.1 H.2.2.2;have h2:=AY hq.2.2.1 hq.2.2.2;rw[h1]at h2
 injection h2
def AO {a:Option Addr}(h:aB w 1 dG a c l) (n:Nat) (d:n<=l.length):aB w 1 dG a c (l.take n):=
 ⟨by rw[Dn];have:=h.le;omega,h.nil,fun i H=>by
  rw[Dn]at H;obtain⟨b,off,v,e,h1,h2,h3⟩:=h.at_ i ed
  exact⟨b,off,v,e,h1,h2,by rw[Tn];exact h3⟩⟩
def vy {g off len:Nat}{l:List Nat}(h:BL w (some ⟨g,off,none⟩) len l) (n:Nat) (c:n<=len):BL w (some ⟨g,off+n,none⟩) (len-n) (l.drop n):=
 ⟨by rw[Po,h.len],fun i H=>by rw[Ga];exact h.lt _ _,fun i H=>by
  rw[Po]at H;obtain⟨b,o,e,a⟩:=h.cell (n+i) ed;cases e;refine⟨g,off+n,rfl,?_⟩;rw[Ga,show off+n+i=off+(n+i)by omega]
  exact a⟩
def AN (h:aO l) (n:Nat):aO (l.take n):=fun x hx=>h x (Tm hx)
def PO (h:aO l) (n:Nat):aO (l.drop n):=fun x hx=>h x (Gh hx)
def PN {n m:Nat}(C:Array Value) (H:m<n):eD (bK (old n) W) (bK (old m) (W.setRow m C)):=fun a v e=>by
 obtain⟨h1,h2⟩:=pL e;unfold old at h1;simp only[Ns]at h1;exact uC e ZG (fun h0=>by unfold old at h0 ⊢;simp at h0 ⊢;omega) (Nq _ _ _ _ ed)
def PM: ∀ {a b:List Int},aO a->aO b->a.map Int.toNat=b.map Int.toNat->a=b
 | [],[],_,_,_=>rfl
 | [],y::b,_,_,h=>by simp at h
 | x::a,[],_,_,h=>by simp at h
 | x::a,y::b,ha,hb,h=>by
  simp only[Hu,Il]at h;have h1:=ha x Dq;have h2:=hb y Dq;rw[PM (fun z hz=>ha z (Dy _ hz)) (fun z hz=>hb z (Dy _ hz)) h.2,show x=y by omega]
def EZ (h:aO l): ∀i (H:i<(l.map Int.toNat).length),(l.map Int.toNat)[i]<256:=fun i H=>by
 have:=h _ (Nn (by simpa using H:i<l.length));simp;omega
theorem vv (key b:List Int) (K ba:Option Addr) (J bc:Nat) (w:World) (a8:aB w 1 dG K J key) (b0:key.length<=64) (hl:aB w 1 dG ba bc b) (a:aO b) (L:b.length<=2048):
  jW 84 #[js K key J,js ba b bc] w (DV w key b):=by
 by_cases r:b.length<32
 ·have hd:decide ((64:Int)<(key:Int))=false:=by simp;omega
  have k:decide ((2048:Int)<(b:Int))=false:=em
  have l:decide ((b:Int)<32)=true:=em
  have HR:Hid (jI key b=8/\ ∀p,¬lI key b p):=⟨by rw[jI,Np r],fun p h=>by have:=h.1;omega⟩
  go_in;go_upto_region 1 with fail;generalize hZ:World.alloc _ _=I;have z:Hid (Fr w [(cW,28)] I):=by show Fr _ _ _;rw[<-hZ];exact(Fr.start w).alloc rfl cW 28
  go_upto_region 4 with fail
  iterate 4 go_step
  refine bP rfl 28 (.tmp 4) (.tmp 20) rfl w cW cW 28 rfl rfl (z.row 0 _ rfl) ef rfl Qj ?_;have s:=hI (z.setRow 0 rfl cW);clear z;generalize World.setRow _ _ _=b1 at *;refine Vf ?_;refine Nh (v:= .tuple #[.agg cW,jV 8]) (eL rfl _ _ w 28 _ (0,0) _ _ rfl rfl (s.row 0 _ rfl) underlying28 rfl ef) rfl ?_;exact⟨s.bel,.inr ⟨HR.2,by rw[HR.o.1];rfl⟩⟩
 obtain⟨n,M⟩: ∃n,b.length=n+32:=⟨b.length-32,ed⟩;have N:b.length-32=n:=by omega
 obtain⟨T,hb⟩: ∃T,T=pI key (b.take n):=⟨_,rfl⟩;obtain⟨S,ho⟩: ∃S,S=b.drop n:=⟨_,rfl⟩;obtain⟨g,off,c0,rfl,-,-,-⟩:=hl.at_ 0 ed;have c:(b.take n).length=n:=Kk
 have b2:=hI fun W f=>by
  have:=vm key (b.take n) K (some ⟨g,off,none⟩) J bc W (a8.below fS f) ed (AO (hl.below fS f) n ed) (AN a n) ed;rw[c,<-hb]at this;exact this
 have b3:Hid (∀W,jb w W->jW 159 #[jq g off n bc] W (AX W ((b.take n).map Int.toNat))):=fun W f=>by
  have h:=AT (AO (hl.below fS f) n ed) (AN a n);have hx:((b.take n).map Int.toNat).length=n:=(by rw[Pn,c]);have:=za ((b.take n).map Int.toNat) (some ⟨g,off,none⟩) bc W (by rw[hx];rw[c]at h;exact h) (by have:=hl.le;omega) ed;exact jv
 have o:T.length=32:=by rw[hb];exact oG _
 have j:aO T:=by rw[hb];exact AU _
 have O:S.length=32:=by rw[ho,Po];omega
 have u:aO S:=by rw[ho];exact PO a n
 have b4:Hid (∀W,jb w W->Sem.run prog (convert 22 9 (jq g (off+n) 32 (bc-n))) W= .ok (.string (fR (S.map Int.toNat))) W):=fun W f=>by
  have h:=vy (AT (hl.below fS f) a) n ed;rw[<-List.map_drop,<-ho,show b.length-n=32 by omega]at h;exact h.str _
 have b5:Hid (∀W x,jk W x (bC T) 217->Sem.run prog (convert 22 9 (jq x 0 32 32)) W= .ok (.string (fR (T.map Int.toNat))) W):=fun W x h=>by
  refine BL.str ⟨by rw[Pn,o],(EZ j),fun i hi=>⟨x,0,rfl,?_⟩⟩ 32;rw[Pa,Mu W x i _ _ _ h];have y:i<T.length:=Og;have:=j _ (Nn y);simp[bC,y];omega
 have P:=hl.le;have hd:decide ((64:Int)<(key:Int))=false:=em
 have k:decide ((2048:Int)<(b:Int))=false:=em
 have l:decide ((b:Int)<32)=false:=em
 refine Qa fun Q R=>?_;have A:=hI j;have B:=hI u;have HTL:=hI o;have HL:=hI M;clear a8 hl hb ho j u o O N c;rw[M]at L P ⊢;clear M k l r;have k:decide ((2048:Int)<(n:Int)+32)=false:=em
 have l:decide ((n:Int)+32<32)=false:=em
 go_in;go_upto_region 1 with fail;generalize hZ:World.alloc _ _=I;have z:Hid (Fr w [(cW,28)] I):=by show Fr _ _ _;rw[<-hZ];exact(Fr.start w).alloc rfl cW 28
 clear hZ;go_upto_region 6 with fail;have b6:(n:Int)<=(bc:Int):=ed
 go_upto_region 7 with(first | (go_at_call 158;refine(b2 I z.bel).mono ?_;rintro e W1 ⟨rfl,C⟩;have s:=hI (z.below C);clear C) | (refine bP rfl 217 (.tmp 7) (.tmp 28) rfl W1 (bC T) _ 217 rfl rfl Oa Xw (by rw[fP,HTL.o];rfl) (pX _) ?_;rw[World.setRow_alloc_new]))
 have U:=hI (s.below ((Nb _ _).alloc ep (.cells (bC T) 217)));have H:=Nc W1 (.cells (bC T) 217);refine Kb fun G a9=>?_;rw[<-a9]at H ⊢;have X:=aD H;clear a9 s;simp only[Act.put];generalize World.alloc _ _=W3 at *;have Y:=fun t:Gw W3=>b5 t.w G ((t.h.block _ X).trans H);have t0:=fun t:Gw W3=>b4 t.w (jt U.bel t.h);generalize a0:fR (T.map Int.toNat)=D at Y;generalize a5:fR (S.map Int.toNat)=E at t0;have HST:=hI a0;have HSL:=hI a5;by_cases htx:T=S
 ·have td:(D.toList==E.toList)=true:=Yu;have a6:(D.toList != E.toList)=false:=Vl;have F:=hI htx;refine Vc ?_;refine pK [] [0,1,2,3,4,5,6] ef Qd ef ?_;intro V a7 b7;refine Oj ?_
  repeat (go_big_quiet_step (fail))
  refine wpQuiet_nil ?_;refine eI ef ?_ _;have Z:=hI (U.below a7);go_upto_region 9 with fail
  iterate 12 go_step
  go_at_call 159;refine(b3 V Z.bel).mono ?_
  have q:Hid (∀p,lI key b p↔bX p/\dP p=(b.take n).map Int.toNat):=fun p=>by
   rw[lI,HL.o,Tu,<-Q.o,<-R.o];exact⟨fun h=>h.2.2,fun h=>⟨ed,F,h⟩⟩
  have HE:Hid (jI key b=8):=by
   show _=_;rw[jI,Nm Qm,HL.o,Tu,<-Q.o,<-R.o,Np F.o]
  rintro e W5 ⟨f,⟨p,a1,c1,a2,c2,a3,c3,a4,c4,L,b8,rfl,b9⟩ | ⟨hno,rfl⟩⟩
  ·have Z5:=hI (Z.below f);have HP:=hI b9;have HM:=hI ((q p).2 ⟨L,b8⟩);have hov:Hid (w.heap.size<V.heap.size):=Z.sz;dsimp only[aT];go_wp2_with (refine bP rfl 28 (.tmp 4) (.tmp 41) rfl w #[p.ver,p.par,js a1 p.S c1,js a2 p.P c2,js a3 p.G c3,js a4 p.R c4] cW 28 rfl rfl (Z5.row 0 _ rfl) ef rfl Qj ?_);refine Nh (v:= .tuple #[.agg #[p.ver,p.par,js a1 p.S c1,js a2 p.P c2,js a3 p.G c3,js a4 p.R c4],jV 0]) (eL rfl _ _ w 28 _ (0,0) _ _ rfl rfl ((Z5.setRow 0 rfl #[p.ver,p.par,js a1 p.S c1,js a2 p.P c2,js a3 p.G c3,js a4 p.R c4]).row 0 _ rfl) underlying28 rfl ef) rfl ?_;exact YL
  have Z5:=hI (Z.below f);have H0:=hI hno;dsimp only[sE];go_wp2_with (refine bP rfl 28 (.tmp 4) (.tmp 41) rfl w cW cW 28 rfl rfl (Z5.row 0 _ rfl) ef rfl Qj ?_);refine Nh (v:= .tuple #[.agg cW,jV 8]) (eL rfl _ _ w 28 _ (0,0) _ _ rfl rfl ((Z5.setRow 0 rfl cW).row 0 _ rfl) underlying28 rfl ef) rfl ?_;exact⟨(Z5.setRow 0 rfl cW).bel,.inr ⟨fun p h=>H0 p ((q p).1 h).1 ((q p).1 h).2,ew⟩⟩
 have hse: ¬D=E:=fun h=>htx (PM A B ((CH (EZ A) (EZ B)).1 (by rw[HST.o,HSL.o];exact h)));have td:(D.toList==E.toList)=false:=Rp;have a6:(D.toList != E.toList)=true:=by rw[bne,td];rfl
 have HR:Hid (jI key b=120/\ ∀p,¬lI key b p):=by
  have e: ¬pI key (b.take (b.length-32))=b.drop (b.length-32):=(by rw[HL.o,Tu,<-Q.o,<-R.o];exact htx);exact⟨by rw[jI,Nm Qm,Nm e],fun p h=>e h.2.1⟩
 refine Vc ?_;refine pK [] [0,1,2,3,4,5,6] ef Qd ef ?_;intro V a7 b7;refine Oj ?_
 repeat (go_big_quiet_step (fail))
 refine wpQuiet_nil ?_;refine eI ef ?_ _;have Z:=hI (U.below a7);go_upto_region 8 with fail
 iterate 4 go_step
 refine bP rfl 28 (.tmp 4) (.tmp 36) rfl w cW cW 28 rfl rfl (Z.row 0 _ rfl) ef rfl Qj ?_;have Z5:=hI (Z.setRow 0 rfl cW);generalize World.setRow _ _ _=b1 at *;refine Vf ?_;refine Nh (v:= .tuple #[.agg cW,jV 120]) (eL rfl _ _ w 28 _ (0,0) _ _ rfl rfl (Z5.row 0 _ rfl) underlying28 rfl ef) rfl ?_;exact Yl
def vu:bC (List.replicate 64 0)=#[.int .u8 0,.int .u8 0,.int .u8 0,.int .u8 0,.int .u8 0,.int .u8 0,.int .u8 0,.int .u8 0,.int .u8 0,.int .u8 0,.int .u8 0,.int .u8 0,.int .u8 0,.int .u8 0,.int .u8 0,.int .u8 0,.int .u8 0,.int .u8 0,.int .u8 0,.int .u8 0,.int .u8 0,.int .u8 0,.int .u8 0,.int .u8 0,.int .u8 0,.int .u8 0,.int .u8 0,.int .u8 0,.int .u8 0,.int .u8 0,.int .u8 0,.int .u8 0,.int .u8 0,.int .u8 0,.int .u8 0,.int .u8 0,.int .u8 0,.int .u8 0,.int .u8 0,.int .u8 0,.int .u8 0,.int .u8 0,.int .u8 0,.int .u8 0,.int .u8 0,.int .u8 0,.int .u8 0,.int .u8 0,.int .u8 0,.int .u8 0,.int .u8 0,.int .u8 0,.int .u8 0,.int .u8 0,.int .u8 0,.int .u8 0,.int .u8 0,.int .u8 0,.int .u8 0,.int .u8 0,.int .u8 0,.int .u8 0,.int .u8 0,.int .u8 0]:=rfl
def qR (key:List Int):List Int:=key++List.replicate (64-key.length) 0
def NY (h:key.length<=64):(qR key).length=64:=by simp[qR];omega
def vt (h:aO key):aO (qR key):=by
 refine h.app fun x hx=> ?_;obtain rfl:=(List.mem_replicate.1 hx).2;decide
def NV (h:key.length<=64) (y:Int):(qR key).map (fun x=>bits .xor .u8 x y)=gT key y 64:=by
 apply Fd;intro j;by_cases hj:j<64
 ·have e:(qR key)[j]? =some (key.getD j 0):=by
   rw[Na];by_cases h2:j<key.length
   ·rw[qR,Pd h2,Nf h2];rfl
   rw[qR,Fg ed,List.getElem?_replicate_of_lt ed,Px ed];rfl
  rw[Pp,e,gT,Pp,List.getElem?_range hj];rfl
 rw[Px (by rw[Pn,NY h];omega),Px (by rw[BE];omega)]
def vr (h:key.length<=64):(splice (bC (List.replicate 64 0)).toList 0 (bC key).toList).toArray=bC (qR key):=by
 apply Ip;simp only[splice,bC,qR,List.take_zero,Dd,Pr,Pa,Pn]
 congr 1
 rw[<-List.map_drop,List.drop_replicate]
def yaa {a:Option Addr}(h:aB w 1 dG a c l) (h0:0<l.length): ∃g off,a=some ⟨g,off,none⟩/\ ∀(j:Nat) (v:Value),(bC l).toList[j]? =some v->jc w g (off+j) v:=by
 obtain⟨g,off,k,e,i,n,p⟩:=h.at_ 0 h0;refine⟨g,off,e,fun j v b=> ?_⟩;have hj:j<l.length:=by have:=(List.getElem?_eq_some_iff.1 b).1;simpa [bC]using this
 obtain⟨g2,o,V,e2,f,d,H⟩:=h.at_ j hj;rw[e]at e2;cases e2;have h1:=d 0 ed;have h2:v= .int .u8 l[j]:=by simp[bC,hj]at b;exact b.symm
 unfold dG at H;simp at h1;rw[h1,h2];simp[H]
def yab (g off j:Nat):(⟨g,off,none⟩:Addr).add j=⟨g,off+j,none⟩:=by unfold Addr.add;split<;>simp_all
theorem yac (key b:List Int) (K ba:Option Addr) (z bc:Nat) (w:World) (Q:aB w 1 dG K z key) (H:key.length<=64) (q:aO key) (hl:aB w 1 dG ba bc b) (A:aO b) (X:b.length<=5900):
  jW 155 #[js K key z,js ba b bc] w fun e Y=>e= .returned (.tuple #[.agg (bC (pI key b)),jV 0])/\jb w Y:=by
 have Z:=hI fun W (r:jb w W)=>Q.below fS r;refine Ka fun a0=>?_;have hd:decide (64<(key:Int))=false:=em
 have C:=hI (NY H);have D:=hI (vt q);have s:=hI (vr H);have E:=hI (NV H 54);have F:=hI (NV H 92);clear hl Q q;go_in;go_upto_region 1 with fail;generalize a:World.alloc _ _=W0;have I:=hI (jG a)
 have R:Hid (jk W0 w (bC AF) 217):=by show _=_;rw[<-a,AS];exact Ud
 clear a;go_upto_region 4 with fail;generalize c:World.alloc _ _=W1;have J:=hI (jG c)
 have r1:jk W1 W0 (bC (List.replicate 64 0)) 291:=by rw[<-c,vu];exact Ud
 have lg:=hI (aD R);have K1:=jh I J;have k1:=Z W1 K1;have t:=hI r1;clear c r1;generalize W0.heap.size=G at *;refine Vv ?_
 iterate 7 go_step
 refine wpList_copy_splice rfl (.tmp 13) (.tmp 14) 22 22 rfl 5 underlying22 ef (some ⟨G,0,none⟩) K 64 64 key z rfl rfl G 0 (bC (List.replicate 64 0)).toList 291 t (bC key).toList (by rw[show Nat.min key 64=key.length from Gm H];simp[bC]) (fun a2=>⟨rfl,by obtain⟨g,off,e,L⟩:=yaa k1 (by simpa [bC]using a2);exact⟨_,e,fun j v hi=>by rw[yab];exact L j v hi⟩⟩) (by simp[bC];omega) (fun v hi=>by simpa using Array.all_eq_true_iff_forall_mem.1 (pX key) v Og) G W0 J ep ?_;intro M d f;rw[s.o]at d;have K2:=hI (I.trans (f.mono Ed));have R2:=hI ((f.block _ lg).trans R);clear s f k1 t J K1 R I;have N:=hI (aD d);have O:=hI fun(y:Int) (l:List Int) (a1:Option Addr) (c1:Nat) W (r:jb M W) (L:aB W 1 dG a1 c1 l) (a3:aO l) (u:l.length<=5900)=>uc (qR key) l y G a1 c1 W C D ((r.block _ N).trans d) L a3 u;simp[Act.put];go_upto_region 6 with fail;have P:=hI (O 54 b ba bc M Qy (a0 M K2) A X);rw[E.o]at P;go_upto_region 7 with(first | (go_at_call 225;refine P.mono ?_;rintro e V ⟨rfl,k⟩) | (refine bP rfl 217 (.tmp 8) (.tmp 19) rfl V (bC (kA (gT key 54 64++b))) _ 217 rfl rfl Oa (by rw[fP,oG];kernel_rfl) (by rw[fP,oG];rfl) (pX _) ?_;rw[World.setRow_alloc_new];simp[Act.put]))
 generalize n:World.alloc V _=W3;have B:=k.alloc k.size (.cells (bC (kA (gT key 54 64++b))) 217);rw[n]at B;have U:=jA n
 have C2:=hI (O 92 (kA (gT key 54 64++b)) (some ⟨V,0,none⟩) 32 W3 B (OF (by rw[oG];decide) U) (AU _) (by rw[oG];decide));rw[F.o,oG,show kA (gT key 92 64++kA (gT key 54 64++b))=pI key b from rfl]at C2;have K3:=jh K2 B;have R3:=hI (jm B R2);have o:Hid ((pI key b).length=32):=oG _;clear n U B k P O;generalize kA (gT key 54 64++b)=L1 at *;generalize V.heap.size=a4 at *;generalize x:pI key b=T at *;have HV:=hI x;clear x;go_wp2_with (first | (go_at_call 225;refine C2.mono ?_;refine Qe fun _ p=>?_;have h4:=jm p R3;have K4:=hI (jo K3 p);clear p) | (refine bP rfl 217 (.tmp 4) (.tmp 22) rfl w (bC T) _ 217 rfl rfl h4 (by rw[fP,o.o];kernel_rfl) (by rw[fP,fP,o.o];rfl) (pX _) ?_;simp[Act.put]))
 refine Nh (v:= .tuple #[.agg (bC T),jV 0]) (eL rfl _ _ w 217 (bC T) (0,0) _ (jV 0) rfl rfl (Dp _ _ _ _ _ _ h4) underlying217 rfl (by rw[fP,o.o];kernel_rfl)) rfl ?_;exact⟨Oi,K4.trans ⟨rfl,rfl,rfl,Qx,fun i a5=>Nq _ _ _ _ ed⟩⟩
def yad {P:Program}{C:World->Prop}{o:Oper}{K:Act->Prop}(ty:TypeId) (x:Operand) (h:o.op= .load ty x) (g off:Nat) (hx:a.eval x= .pointer (some ⟨g,off,none⟩)) (cs:Array Value) (n:Nat) (e:TypeId)
  (H: ∀w,C w-> ∀(j:Nat) (v:Value),cs.toList[j]? =some v->jc w g (off+j) v) (b:P.underlying ty=some (.array n e)) (c:(P.info? ty).map (·.size)=some cs.size) (d:K (a.put o.dst (.agg cs))):o.quiet P a C K:=
 ⟨_,fun w f=>by
  unfold Oper.quietAt execOp;simp only[h,hx,Instr.loadAt,Instr.sureAddr,Sn,Ty,So,PX w g off ty cs n e (H w f) b c]
  exact⟨rfl,rfl⟩,d⟩
theorem yae (key b:List Int) (K ba:Option Addr) (E bc:Nat) (w:World) (F:aB w 1 dG K E key) (I:key.length<=64) (r:aO key) (hl:aB w 1 dG ba bc b) (f:aO b) (C:b.length<=2048):
  jW 81 #[js K key E,js ba b bc] w (DV w key b):=by
 by_cases s:b.length<32
 ·have hd:decide ((64:Int)<(key:Int))=false:=by simp;omega
  have J:decide ((2048:Int)<(b:Int))=false:=em
  have L:decide ((b:Int)-32<0)=true:=em
  have HR:Hid (jI key b=8/\ ∀p,¬lI key b p):=⟨by rw[jI,Np s],fun p h=>by have:=h.1;omega⟩;clear F hl f
  go_in;go_upto_region 1 with fail;generalize hZ:World.alloc _ _=D;have z:Hid (Fr w [(cW,28)] D):=by show Fr _ _ _;rw[<-hZ];exact(Fr.start w).alloc rfl cW 28
  clear hZ;go_upto_region 6 with fail
  iterate 4 go_step
  refine bP rfl 28 (.tmp 4) (.tmp 23) rfl w cW cW 28 rfl rfl (z.row 0 _ rfl) ef rfl Qj ?_;have Z5:=hI (z.setRow 0 rfl cW);clear z;generalize World.setRow _ _ _=a8 at *;refine Vf ?_;refine Nh (v:= .tuple #[.agg cW,jV 8]) (eL rfl _ _ w 28 _ (0,0) _ _ rfl rfl (Z5.row 0 _ rfl) underlying28 rfl ef) rfl ?_;exact Yl
 obtain⟨n,M⟩: ∃n,b.length=n+32:=⟨b.length-32,ed⟩;have N:b.length-32=n:=by omega
 obtain⟨T,hb⟩: ∃T,T=pI key (b.take n):=⟨_,rfl⟩;obtain⟨S,ho⟩: ∃S,S=b.drop n:=⟨_,rfl⟩;obtain⟨g,off,b3,rfl,-,-,-⟩:=hl.at_ 0 ed;have i:(b.take n).length=n:=Kk
 have a9:=hI fun W a=>by
  have:=yac key (b.take n) K (some ⟨g,off,none⟩) E bc W (F.below fS a) I r (AO (hl.below fS a) n ed) (AN f n) ed;rw[i,<-hb]at this;exact this
 have b0:Hid (∀W,jb w W->jW 157 #[jq g off n bc] W (AX W ((b.take n).map Int.toNat))):=fun W a=>by
  have h:=AT (AO (hl.below fS a) n ed) (AN f n);have hx:((b.take n).map Int.toNat).length=n:=(by rw[Pn,i]);have:=zk ((b.take n).map Int.toNat) (some ⟨g,off,none⟩) bc W (by rw[hx];rw[i]at h;exact h) (by have:=hl.le;omega) ed;exact jv
 have t:T.length=32:=by rw[hb];exact oG _
 have u:aO T:=by rw[hb];exact AU _
 have hl8:S.length=32:=by rw[ho,Po];omega
 have x:aO S:=by rw[ho];exact PO f n
 have b1:Hid (∀W,jb w W-> ∀(j:Nat) (v:Value),(bC S).toList[j]? =some v->jc W g (off+n+j) v):=fun W a j v hv=>by
  have hj:j<32:=Mi;obtain⟨g2,o2,v0,e2,h1,h2,h3⟩:=(hl.below fS a).at_ (n+j) ed;cases e2;cases h3;have h0:=h2 0 ee;simp only[Pk,Tb,Nu]at h0;rw[show off+n+j=off+(n+j)by omega,h0,<-hv,ho];simp[bC,show n+j<b.length by omega]
 have O:=hl.le;have hd:decide ((64:Int)<(key:Int))=false:=em
 refine Qa fun Q R=>?_;have U:=hI u;have X:=hI x;have HTL:=hI t;have y:=hI hl8;have HL:=hI M;clear F hl hb ho u x t hl8 N i r;rw[M]at C O ⊢;clear M s;have J:decide ((2048:Int)<(n:Int)+32)=false:=em
 have L:decide ((n:Int)<0)=false:=ee
 have b2:(n:Int)<=(bc:Int):=ed
 go_in;go_upto_region 1 with fail;generalize hZ:World.alloc _ _=D;have z:Hid (Fr w [(cW,28)] D):=by show Fr _ _ _;rw[<-hZ];exact(Fr.start w).alloc rfl cW 28
 clear hZ;go_upto_region 7 with fail;go_upto_region 8 with(first | (go_at_call 155;refine(a9 D z.bel).mono ?_;rintro e W1 ⟨rfl,A⟩;have Z2:=hI (z.below A);clear A) | (refine bP rfl 217 (.tmp 7) (.tmp 30) rfl W1 (bC T) _ 217 rfl rfl Oa Xw (by rw[fP,HTL.o];rfl) (pX _) ?_;rw[World.setRow_alloc_new]))
 have Z3:=hI (Z2.below ((Nb _ _).alloc ep (.cells (bC T) 217)));have c:=Nc W1 (.cells (bC T) 217);refine Kb fun G a0=>?_;rw[<-a0]at c ⊢;clear a0 Z2;generalize World.alloc _ _=W3 at *;have k:=hI c;clear c;go_upto_region 10 with fail;have Y:Hid ((prog.info? 217).map (·.size)=some (bC T).size):=by show _=_;rw[fP,HTL.o];exact sB
 have H0:Hid ((prog.info? 217).map (·.size)=some (bC S).size):=by show _=_;rw[fP,y.o];exact sB
 have o:=fun(d:Nat) (os:Array Obj)=>Ps (d:=d) (os:=os) (we T S (grow (redrawn W3 d) os) HTL y U X);have a5:=fun(d:Nat) (os:Array Obj)=>PS (P:=prog) 217 32 5 (some ⟨g,off+n,none⟩) 32 (bc-n) (grow (redrawn W3 d) os) underlying217 eh;refine Mz ef ef ?_;go_big_quiet_want;refine JM 217 (.tmp 7) rfl G rfl (bC T) (by rintro _ ⟨p,rfl⟩;exact⟨_,_,((Nr W3 p.d p.os).block _ (aD k)).trans k⟩) _ underlying217 rfl Y ?_;simp[Act.put];go_big_quiet_on
 iterate 4 (go_big_quiet_step (fail))
 go_big_quiet_want;refine yad 217 (.tmp 40) rfl g (off+n) rfl (bC S) 32 5 (by rintro _ ⟨p,rfl⟩;exact b1 _ (Z3.bel.trans ((Nr W3 p.d p.os).mono Z3.bel.size))) underlying217 H0 ?_;simp[Act.put];go_big_quiet_on;by_cases H:T=S
 ·have B:=hI H;rw[show decide (T=S)=true from Ni H]at o;clear H
  iterate 2 (go_big_quiet_step (exact o _ _))
  refine ey ?_;rintro V ⟨q,hq⟩;have Z:Hid (Fr w [(cW,28)] V):=Mp;clear hq o a5 Z3;go_upto_region 12 with fail
  iterate 12 go_step
  go_at_call 157;refine(b0 V Z.bel).mono ?_
  have l:Hid (∀p,lI key b p↔bX p/\dP p=(b.take n).map Int.toNat):=fun p=>by
   rw[lI,HL.o,Tu,<-Q.o,<-R.o];exact⟨fun h=>h.2.2,fun h=>⟨ed,B,h⟩⟩
  have HE:Hid (jI key b=8):=by
   show _=_;rw[jI,Nm Qm,HL.o,Tu,<-Q.o,<-R.o,Np B.o]
  rintro e W5 ⟨a,⟨p,a1,c1,a2,c2,a3,c3,a4,c4,C,a6,rfl,a7⟩ | ⟨hno,rfl⟩⟩
  ·have Z5:=hI (Z.below a);have HP:=hI a7;have HM:=hI ((l p).2 ⟨C,a6⟩);have hov:Hid (w.heap.size<V.heap.size):=Z.sz;clear a a7 C a6 Z;dsimp only[aT];go_wp2_with (refine bP rfl 28 (.tmp 4) (.tmp 49) rfl w #[p.ver,p.par,js a1 p.S c1,js a2 p.P c2,js a3 p.G c3,js a4 p.R c4] cW 28 rfl rfl (Z5.row 0 _ rfl) ef rfl Qj ?_);refine Nh (v:= .tuple #[.agg #[p.ver,p.par,js a1 p.S c1,js a2 p.P c2,js a3 p.G c3,js a4 p.R c4],jV 0]) (eL rfl _ _ w 28 _ (0,0) _ _ rfl rfl ((Z5.setRow 0 rfl #[p.ver,p.par,js a1 p.S c1,js a2 p.P c2,js a3 p.G c3,js a4 p.R c4]).row 0 _ rfl) underlying28 rfl ef) rfl ?_;exact YL
  have Z5:=hI (Z.below a);have H1:=hI hno;clear a hno Z;dsimp only[sE];go_wp2_with (refine bP rfl 28 (.tmp 4) (.tmp 49) rfl w cW cW 28 rfl rfl (Z5.row 0 _ rfl) ef rfl Qj ?_);refine Nh (v:= .tuple #[.agg cW,jV 8]) (eL rfl _ _ w 28 _ (0,0) _ _ rfl rfl ((Z5.setRow 0 rfl cW).row 0 _ rfl) underlying28 rfl ef) rfl ?_;exact⟨(Z5.setRow 0 rfl cW).bel,.inr ⟨fun p h=>H1 p ((l p).1 h).1 ((l p).1 h).2,ew⟩⟩
 have HR:Hid (jI key b=120/\ ∀p,¬lI key b p):=by
  have e: ¬pI key (b.take (b.length-32))=b.drop (b.length-32):=(by rw[HL.o,Tu,<-Q.o,<-R.o];exact H);exact⟨by rw[jI,Nm Qm,Nm e],fun p h=>e h.2.1⟩
 rw[show decide (T=S)=false from Mw H]at o;clear H
 iterate 2 (go_big_quiet_step (exact o _ _))
 refine ey ?_;rintro V ⟨q,hq⟩;have Z:Hid (Fr w [(cW,28)] V):=Mp;clear hq o a5 Z3;go_upto_region 11 with fail
 iterate 4 go_step
 refine bP rfl 28 (.tmp 4) (.tmp 44) rfl w cW cW 28 rfl rfl (Z.row 0 _ rfl) ef rfl Qj ?_;have Z5:=hI (Z.setRow 0 rfl cW);clear Z;generalize World.setRow _ _ _=a8 at *;refine Vf ?_;refine Nh (v:= .tuple #[.agg cW,jV 120]) (eL rfl _ _ w 28 _ (0,0) _ _ rfl rfl (Z5.row 0 _ rfl) underlying28 rfl ef) rfl ?_;exact Yl
theorem BW (x y:Hs) (a A:Nat->Option Addr) (c C:Nat->Nat) (w:World) (hx:dK w a c x) (l:dK w A C y) (i:x.Fit) (j:y.Fit):
  jW 18 #[cV a c x,cV A C y] w (bY w (decide (x=y))):=by
 have n:Hid (∀W,jb w W->dK W a c x/\dK W A C y):=fun W H=>⟨hx.below H,l.below H⟩;have e:Hid (x.Fit/\y.Fit):=⟨i,j⟩;clear hx l i j;unfold cV;go_in;go_upto_region 1 with fail;generalize g:World.alloc _ _=W0;have K:=hI (eN g)
 have XV:=jB g
 have Y0:=jC g
 clear g;have f:=hI fun W H=>n W (jo K H);have q1:=fun(d:Nat) (os:Array Obj)=>DU (f _ (Nr W0 d os)).1.key;have r1:=fun(d:Nat) (os:Array Obj)=>DU (f _ (Nr W0 d os)).2.key;have t1:=UB e.1.kb e.2.kb;have hb:=fB.of (v:= .bool (decide (x.pl=y.pl))) fun W H=>IA x.pl y.pl _ _ _ _ _ _ _ _ W (f W H).1.pl (f W H).2.pl e.1.pl e.2.pl;unfold aT at hb;have ho:=fB.of (v:= .bool (decide (x.bk=y.bk))) fun W H=>IA x.bk y.bk _ _ _ _ _ _ _ _ W (f W H).1.bk (f W H).2.bk e.1.bk e.2.bk;unfold aT at ho;have c5:=fB.of (v:= .bool (decide (x.st=y.st))) fun W H=>yaj x.st y.st _ _ _ _ _ _ W (f W H).1.st (f W H).2.st e.1.st e.2.st;have q6:=fun(d:Nat) (os:Array Obj)=>DU (f _ (Nr W0 d os)).1.buf;have r6:=fun(d:Nat) (os:Array Obj)=>DU (f _ (Nr W0 d os)).2.buf;have t6:=UB e.1.bb e.2.bb;have k:=fB.of (v:= .bool (decide (x.nx=y.nx))) fun W H=>IA x.nx y.nx _ _ _ _ _ _ _ _ W (f W H).1.nx (f W H).2.nx e.1.nx e.2.nx;unfold aT at k
 have HE:Hid (decide (x=y)=(decide (x.key=y.key)&&(decide (x.pl=y.pl)&&(decide (x.bk=y.bk)&&((x.high==y.high)&&(decide (x.st=y.st)&&(decide (x.buf=y.buf)&&(decide (x.nx=y.nx)&&(x.halted==y.halted))))))))):=hI (by
  rw[Dh]
  simp only[Dj,Dt,Da,z39])
 generalize decide (x.key=y.key)=b1 at *;generalize Go.strOfNums x.key=S0 at *;generalize Go.strOfNums y.key=T0 at *;generalize decide (x.pl=y.pl)=b2 at *;generalize decide (x.bk=y.bk)=b3 at *;obtain⟨b4,t4⟩: ∃b,(x.high==y.high)=b:=⟨_,rfl⟩;rw[t4]at HE;generalize decide (x.st=y.st)=b5 at *;generalize decide (x.buf=y.buf)=b6 at *;generalize Go.strOfNums x.buf=S5 at *;generalize Go.strOfNums y.buf=T5 at *;generalize decide (x.nx=y.nx)=b7 at *;obtain⟨b8,t8⟩: ∃b,(x.halted==y.halted)=b:=⟨_,rfl⟩;rw[t8]at HE;refine Qa fun C2 C3=>?_;have C5:=hI c5;have C7:=hI k;refine Ei fun _ _ _ _ _ _ _ _ _ _ _ _ _ _ _ _ _ _ _ _ _ _ _ _ _=>?_;obtain⟨a1,a2,a3,y3,y4,y5,y6,y7,y8,y9,Y,L,M,N,O,P,Q,R,T,U,V,Z,y0,y1,y2⟩:=sU Y0;clear hb ho c5 k XV Y0 n f e;generalize decide (x=y)=B at *;rcases z4a b1 b2 b3 b4 b5 b6 b7 b8 with rfl | ⟨rfl,rfl⟩ | ⟨rfl,rfl,rfl⟩ | ⟨rfl,rfl,rfl,rfl⟩ | ⟨rfl,rfl,rfl,rfl,rfl⟩ | ⟨rfl,rfl,rfl,rfl,rfl,rfl⟩ | ⟨rfl,rfl,rfl,rfl,rfl,rfl,rfl⟩ | ⟨rfl,rfl,rfl,rfl,rfl,rfl,rfl,rfl⟩ | ⟨rfl,rfl,rfl,rfl,rfl,rfl,rfl,rfl⟩
 all_goals
  refine rN ?_
  repeat (go_big_quiet_step (first | (with_reducible exact C2.o _ _) | (with_reducible exact C3.o _ _) | (with_reducible exact C5.o _ _) | (with_reducible exact C7.o _ _)))
  refine wpQuiet_nil ?_;rintro _ ⟨⟨a0,osq⟩,rfl⟩;refine ei ?_;exact⟨ew,K.trans ((Nr W0 a0 osq).mono K.size)⟩
def wH (w:World) (R:Prop) (e:Ending) (w':World):Prop:= ∃b,e= .returned (.bool b)/\(b=false->R)/\jb w w'
def yak (t s l:Value) (x:St) (w:World) (hx:fU w t s l x):jW 34 #[.agg #[t,s,l]] w (wH w x.fit):=by
 obtain⟨a1,c1,rfl,-⟩:=hx.tks;obtain⟨a2,c2,rfl,-⟩:=hx.sws;obtain⟨a3,c3,rfl,-⟩:=hx.lks;clear hx;have H:Hid (x.tks.length<=200->x.sws.length<=200->x.lks.length<=200->x.fit):=fun h1 h2 h3=>⟨ed,ed,ed⟩;go_in;go_wp2_with fail
 all_goals
  go_ret;refine⟨_,rfl,fun h=> ?_,aR⟩;simp at h<;>exact H ed ed ed
def Pl.few (x:Pl):Prop:=x.S.length<=100/\x.P.length<=100/\x.G.length<=100/\x.R.length<=100
def Pl.Wide (x:Pl):Prop:=(∀i (h:i<x.S.length),x.S[i].ends.length<=8796093022208)/\ ∀i (h:i<x.R.length),x.R[i].fit
theorem ET (x:Pl) (s q g r:Value) (w:World) (hx:bN w s q g r x) (b:x.Wide):
  jW 12 #[aT x s q g r] w (wH w x.few):=by
 obtain⟨a4,a5,rfl,m1⟩:=hx.S;obtain⟨b7,b8,rfl,-⟩:=hx.P;obtain⟨b9,c2,rfl,-⟩:=hx.G;obtain⟨a7,a8,rfl,m7⟩:=hx.R;have z:Hid (∀W,jb w W->aB W 3 cU a4 a5 x.S):=fun W c=>m1.below gN c;have A:Hid (∀W,jb w W->aB W 7 fH a7 a8 x.R):=fun W c=>m7.below lS c;have C:Hid (∀i (h:i<x.S.length),x.S[i].ends.length<=20000000000000):=fun i h=>by have:=b.1 i h;omega
 have D:Hid (∀i (h:i<x.R.length),x.R[i].A.length<=20000000000000/\x.R[i].O.length<=20000000000000/\x.R[i].fl.length<=20000000000000):=fun i h=>by have:=b.2 i h;unfold Rt.fit at this;omega
 clear hx b m1 m7;unfold aT;go_in;go_upto_region 1 with fail;generalize d:World.alloc _ _=W0;have K:=hI (jG d)
 have o:=hI (jA d)
 clear d;have a6:Hid (jb W0 W0):=Nb _ _;have B:=jm a6 o;obtain⟨P,E,F,G,I,J⟩:=dB B;have a9:=aD B;clear B;by_cases e:x.S.length<=100
 ·have T:decide ((100:Int)<(x.S:Int))=false:=by simp;omega
  have HL:=hI e;by_cases f:x.P.length<=100
  ·have L:decide ((100:Int)<(x.P:Int))=false:=(by simp;omega);have M:=hI f;by_cases j:x.G.length<=100
   ·have O:decide ((100:Int)<(x.G:Int))=false:=(by simp;omega);have Q:=hI j;by_cases p:x.R.length<=100
    ·have R:decide ((100:Int)<(x.R:Int))=false:=em;have t:=hI p;clear e f j;go_wp2_with fail;go_loopg [3,4] x.S.length (fun g n i wr=> ∃(k:Nat) (v:Int),k<=x.S.length/\g=x.S.length-k/\n= jV v/\i= jV k/\0<=v/\v<=1000 * k/\wr=W0)
     ·exact⟨0,0,ed,ed,rfl,rfl,ed,ed,rfl⟩
     obtain⟨k,v,a2,rfl,rfl,rfl,u,y,a3⟩:=hrel;obtain rfl:=a3.symm;clear a3;by_cases G9:k<x.S.length
     ·have hd:=bL G9;have U:=HL.o;obtain⟨g,off,c3,c4,rfl,y0,y1,x0,-⟩:=(z W0 K).sec G9;have b0:=C k G9;refine Qw fun b1=>?_;refine Qb fun c0 c1=>?_;clear y0 y1;generalize x.S[k].ends.length=n1 at *;by_cases V:(n1:Int)<=1000
      ·go_wp2_with fail;go_roundg (x.S.length-(k+1))
       ·go_light;exact⟨k+1,v+n1,ed,ed,ej,ej,ed,ed,rfl⟩
       go_light;omega
      go_wp2_with fail;go_roundg (x.S.length-(k+1))
      ·go_light;exact⟨k+1,v+1000,ed,ed,ej,ej,ed,ed,rfl⟩
      go_light;omega

     ·obtain rfl:k=x.S.length:=ed;have hd:=bZ G9;have b2:v<=100000:=Qm;have H:Hid (jb W0 W0):=Nb _ _;have b3:=t.o;clear a2 y;go_wp2_with fail;go_loopg [3,5] x.R.length (fun g n i wr=> ∃(k:Nat) (v:Int),k<=x.R.length/\g=x.R.length-k/\n= jV v/\i= jV k/\0<=v/\v<=100000+3000 * k/\jb W0 wr)
      ·exact⟨0,v,ed,ed,rfl,rfl,u,ed,H⟩
      obtain⟨k,v,a2,rfl,rfl,rfl,u,y,c⟩:=hrel;have H:=hI c;have X:=jh K c;clear c;have B:=jm H o;obtain⟨P,E,F,G,I,J⟩:=dB B;have a9:=aD B;clear B;by_cases G9:k<x.R.length
      ·have hd:=bL G9;obtain⟨g,off,up,c5,c6,rfl,Y,Z,a0,y3,y4,y5,y6,a⟩:=(A wr X).rt G9;obtain⟨p1,p2,rfl,-⟩:=a.A.at_;obtain⟨o1,o2,rfl,-⟩:=a.O.at_;obtain⟨f1,f2,rfl,-⟩:=a.fl;have b1:=Mt y3;have b4:=D k G9;refine Qb fun _ _=>?_;clear a Y Z a0 y6;generalize x.R[k].A.length=n1 at *;generalize x.R[k].O.length=n2 at *;generalize x.R[k].fl.length=N at *;go_upto_region 11 with fail;by_cases V:(n1:Int)<=1000
       ·by_cases a1:(n2:Int)<=1000
        ·by_cases l:(N:Int)<=1000
         ·go_quiet (fail);go_wp2_with fail;go_roundg (x.R.length-(k+1))
          ·go_light;exact⟨k+1,v+(n1:Int)+(n2:Int)+(N:Int),ed,ed,ej,ej,ed,ed,dM H _⟩
          go_light;omega
         go_quiet (fail);go_wp2_with fail;go_roundg (x.R.length-(k+1))
         ·go_light;exact⟨k+1,v+(n1:Int)+(n2:Int)+1000,ed,ed,ej,ej,ed,ed,dM H _⟩
         go_light;omega
        by_cases l:(N:Int)<=1000
        ·go_quiet (fail);go_wp2_with fail;go_roundg (x.R.length-(k+1))
         ·go_light;exact⟨k+1,v+(n1:Int)+1000+(N:Int),ed,ed,ej,ej,ed,ed,dM H _⟩
         go_light;omega
        go_quiet (fail);go_wp2_with fail;go_roundg (x.R.length-(k+1))
        ·go_light;exact⟨k+1,v+(n1:Int)+1000+1000,ed,ed,ej,ej,ed,ed,dM H _⟩
        go_light;omega
       by_cases a1:(n2:Int)<=1000
       ·by_cases l:(N:Int)<=1000
        ·go_quiet (fail);go_wp2_with fail;go_roundg (x.R.length-(k+1))
         ·go_light;exact⟨k+1,v+1000+(n2:Int)+(N:Int),ed,ed,ej,ej,ed,ed,dM H _⟩
         go_light;omega
        go_quiet (fail);go_wp2_with fail;go_roundg (x.R.length-(k+1))
        ·go_light;exact⟨k+1,v+1000+(n2:Int)+1000,ed,ed,ej,ej,ed,ed,dM H _⟩
        go_light;omega
       by_cases l:(N:Int)<=1000
       ·go_quiet (fail);go_wp2_with fail;go_roundg (x.R.length-(k+1))
        ·go_light;exact⟨k+1,v+1000+1000+(N:Int),ed,ed,ej,ej,ed,ed,dM H _⟩
        go_light;omega
       go_quiet (fail);go_wp2_with fail;go_roundg (x.R.length-(k+1))
       ·go_light;exact⟨k+1,v+1000+1000+1000,ed,ed,ej,ej,ed,ed,dM H _⟩
       go_light;omega

      ·obtain rfl:k=x.R.length:=ed;have hd:=bZ G9;have b5:Hid x.few:=⟨HL,M,Q,t⟩;by_cases c7:v<=1000
       ·have b6:decide ((1000:Int)<v)=false:=em;refine ei ?_;exact⟨false,rfl,fun _=>b5,X⟩
       have b6:decide ((1000:Int)<v)=true:=em;go_wp2_with fail;go_ret;exact⟨true,rfl,Vy,X⟩
    ·have R:decide ((100:Int)<(x.R:Int))=true:=em;clear p;refine ei ?_;exact⟨true,rfl,Vy,K⟩
   ·have O:decide ((100:Int)<(x.G:Int))=true:=em;clear j;refine ei ?_;exact⟨true,rfl,Vy,K⟩
  ·have L:decide ((100:Int)<(x.P:Int))=true:=em;clear f;refine ei ?_;exact⟨true,rfl,Vy,K⟩
 ·have T:decide ((100:Int)<(x.S:Int))=true:=by simp;omega
  clear e;refine ei ?_;exact⟨true,rfl,Vy,K⟩
structure Hs.Wide (x:Hs):Prop where
 pl:x.pl.Wide
 bk:x.bk.Wide
 nx:x.nx.Wide
 kb:aO x.key
 bb:aO x.buf
def Pl.Wide.fit {x:Pl}(h:x.Wide) (k:x.few):x.Fit:=⟨by have:=k.1;omega,h.1,by have:=k.2.1;omega,by have:=k.2.2.1;omega,by have:=k.2.2.2;omega,h.2⟩
theorem yal (x:Hs) (a:Nat->Option Addr) (c:Nat->Nat) (w:World) (hx:dK w a c x) (H:x.Wide):
  jW 11 #[cV a c x] w (wH w x.Fit):=by
 have Z:Hid (∀W,jb w W->jW 12 #[.agg #[x.pl.ver,x.pl.par,js (a 1) x.pl.S (c 1),js (a 2) x.pl.P (c 2),js (a 3) x.pl.G (c 3),js (a 4) x.pl.R (c 4)]] W (wH W x.pl.few)):=fun W hb=>ET x.pl _ _ _ _ W (hx.below hb).pl H.pl;have R:Hid (∀W,jb w W->jW 12 #[.agg #[x.bk.ver,x.bk.par,js (a 5) x.bk.S (c 5),js (a 6) x.bk.P (c 6),js (a 7) x.bk.G (c 7),js (a 8) x.bk.R (c 8)]] W (wH W x.bk.few)):=fun W hb=>ET x.bk _ _ _ _ W (hx.below hb).bk H.bk;have T:Hid (∀W,jb w W->jW 12 #[.agg #[x.nx.ver,x.nx.par,js (a 13) x.nx.S (c 13),js (a 14) x.nx.P (c 14),js (a 15) x.nx.G (c 15),js (a 16) x.nx.R (c 16)]] W (wH W x.nx.few)):=fun W hb=>ET x.nx _ _ _ _ W (hx.below hb).nx H.nx;have U:=hI fun W hb=>yak _ _ _ x.st W (hx.below hb).st;have t:=hI H;clear hx H;unfold cV;go_in;go_upto_region 1 with fail;generalize z:World.alloc _ _=W0;have y:=hI (jG z)
 have A:=hI (jA z)
 clear z;have N:Hid (∀W,jb W0 W->jk W w (aE a c x) 35):=fun W hb=>(jm hb A);obtain⟨B,C,D,E,F,G,I,J,L,M,X,b,d,f,g,i,j,k,l,n,o,p,q,r,s⟩:=nN A;have lb:=aD A;by_cases a0:x.key.length<=1000
 ·have t0:decide ((1000:Int)<(x.key:Int))=false:=by simp;omega
  by_cases V:x.buf.length<=5000
  ·have t1:decide ((5000:Int)<(x.buf:Int))=false:=(by simp;omega);go_wp2_with fail;refine(Z W0 y).mono ?_;rintro e W1 ⟨r1,rfl,ho,hb⟩;have K:=hI hb;have F1:=hI ho;clear hb ho B C D E F G I J L M X b d f g i j k l n o p q r s lb;obtain⟨B,C,D,E,F,G,I,J,L,M,X,b,d,f,g,i,j,k,l,n,o,p,q,r,s⟩:=nN (N _ K);have lb:=aD (N _ K);cases r1
   case true=>
    go_wp2_with fail;go_ret;exact⟨true,rfl,(fun h=>by cases h),jo y K⟩
   go_wp2_with fail;refine(R W1 (jo y K)).mono ?_;rintro e W2 ⟨r2,rfl,O,hb⟩;have u:=jh K hb;have F2:=hI O;clear hb O B C D E F G I J L M X b d f g i j k l n o p q r s lb;obtain⟨B,C,D,E,F,G,I,J,L,M,X,b,d,f,g,i,j,k,l,n,o,p,q,r,s⟩:=nN (N _ u);have lb:=aD (N _ u);cases r2
   case true=>
    go_wp2_with fail;go_ret;exact⟨true,rfl,(fun h=>by cases h),jo y u⟩
   go_wp2_with fail;refine(T W2 (jo y u)).mono ?_;rintro e W3 ⟨r3,rfl,P,hb⟩;have v:=jh u hb;have F3:=hI P;clear hb P B C D E F G I J L M X b d f g i j k l n o p q r s lb;obtain⟨B,C,D,E,F,G,I,J,L,M,X,b,d,f,g,i,j,k,l,n,o,p,q,r,s⟩:=nN (N _ v);have lb:=aD (N _ v);cases r3
   case true=>
    go_wp2_with fail;go_ret;exact⟨true,rfl,(fun h=>by cases h),jo y v⟩
   go_wp2_with fail;refine(U W3 (jo y v)).mono ?_;rintro e W4 ⟨r4,rfl,Q,hb⟩;have Y:=jh v hb;have F4:=hI Q;clear hb Q B C D E F G I J L M X b d f g i j k l n o p q r s lb;go_wp2_with fail;go_ret;exact⟨r4,rfl,(fun h=>⟨t.pl.fit (F1 Py),t.bk.fit (F2 Py),t.nx.fit (F3 Py),F4 h,a0,V,t.kb,t.bb⟩),jo y Y⟩
  have t1:decide ((5000:Int)<(x.buf:Int))=true:=(by simp;omega);go_wp2_with fail;go_ret;exact⟨true,rfl,(fun h=>by cases h),y⟩
 have t0:decide ((1000:Int)<(x.key:Int))=true:=by simp;omega
 go_wp2_with fail;go_ret;exact⟨true,rfl,(fun h=>by cases h),y⟩
def gP {rest:List Oper}{o:Oper}{A:Act}{g:Nat}{a:Nat->Option Addr}{c:Nat->Nat}{x:Hs}(H:Region.wanted o (yielded ops A.tmps)=true) (p:Operand) (b:o.op= .load 35 p) (hx:A.eval p= .pointer (some ⟨g,0,none⟩))
  (d:jk w g (aE a c x) 35) (h:wpList prog ops Q rest (A.put o.dst (.agg (aE a c x))) w):wpList prog ops Q (o::rest) A w:=by
 unfold wpList;rw[Np H];exact .inl (Ha 35 p b g hx 35 (aE a c x) (0,0) _ d underlying35 rfl cQ h)
def sM:aK.Fit:=⟨wK,wK,wK,QL,eh,eh,fun x h=>(nomatch h),fun x h=>(nomatch h)⟩
def dH (x:Hs):Int:=if gD x=true then(if x.halted=true then 300 else 0)else 8
def fJ (x:Hs) (p:Pl):Int:=if p.par≠x.pl.ver then 270 else if p.ver<=x.high then 271 else 0
def vM (w:World) (y:Hs × Int) (e:Ending) (w':World):Prop:= ∃a c,e= .returned (.tuple #[cV a c y.1,y.2])/\dK (bK (old w) w') a c y.1/\jb w w'
def sA {P:Program}{rest:List Oper}{o:Oper}(H:o.guard=none) (ty:TypeId) (x y:Operand) (c:o.op= .store ty x y)
  (b off:Nat) (cells:Array Value) (hx:a.eval x= .pointer (some ⟨b,off,none⟩)) (d:a.eval y= .agg cells) (e:w.there b off cells.size) (f:(P.info? ty).map (·.size)=some cells.size) (h1:cells.all (·.oneCell')=true)
  (h:wpList P ops Q rest (a.put o.dst undef) (w.setCells b off cells.toList)):wpList P ops Q (o::rest) a w:=
 Hl H fun _ g=>wp_store_mid ty x y c b off cells hx d e f h1 (g _ _ h)
def ES (x:Hs) (a:Nat->Option Addr) (c:Nat->Nat) (w:World) (hx:dK w a c x) (d:x.Fit):
  jW 79 #[cV a c x] w fun e g=>e= .returned (jV (dH x))/\jb w g:=by
 have H:Hid (∀W,jb w W->jW 65 #[.agg (aE a c x)] W (bY W (gD x))):=fun W b=>QG x a c W (hx.below b) d;clear hx d;unfold cV;go_in;go_upto_region 1 with fail;generalize f:World.alloc _ _=W0;have F:=hI (jH f)
 clear f;go_step;refine gP rfl (.tmp 1) rfl rfl (iD F) ?_;simp[Act.put];cases hm:gD x
 case true=>
  have HE:Hid (dH x=if x.halted=true then 300 else 0):=by show dH x=_;unfold dH;rw[Np hm]
  rw[hm]at H;clear hm;go_wp2_with fail;refine(H W0 F.bel).mono ?_;rintro e W1 ⟨rfl,b⟩;replace F:=hI (F.below b);have X:=ji 24 (iD F);have lb:=aD (iD F);clear b;generalize x.halted=h at *;cases h
  all_goals (
   go_wp2_with fail;go_ret
   exact⟨ew,F.bel⟩)
 case false=>
  have HE:Hid (dH x=8):=by show dH x=_;unfold dH;rw[Nm (by rw[hm];decide)]
  rw[hm]at H;clear hm;go_wp2_with fail;refine(H W0 F.bel).mono ?_;rintro e W1 ⟨rfl,b⟩;replace F:=hI (F.below b);clear b;refine ei ?_;exact⟨ew,F.bel⟩
def yam (x:Hs) (a:Nat->Option Addr) (c:Nat->Nat) (p:Pl) (s q g r:Value) (w:World):
  jW 85 #[cV a c x,aT p s q g r] w fun e W=>e= .returned (jV (fJ x p))/\jb w W:=by
 unfold cV aT;go_in;go_upto_region 1 with fail;generalize H:World.alloc (World.alloc _ _) _=W0;have F:=hI (wZ H)
 have x1:jc W0 w 1 x.pl.ver:=jr (F.row 0 _ rfl);have X:jc W0 w 13 x.high:=jr (F.row 0 _ rfl);have y0:=ji 0 (F.row 1 _ rfl);have y1:=ji 1 (F.row 1 _ rfl);have l0:w.heap.size<W0.heap.size:=F.lt (i:=0) ee;have l1:w.heap.size+1<W0.heap.size:=F.lt (i:=1) ee;clear H;by_cases h1:p.par=x.pl.ver
 ·have d1:(p.par != x.pl.ver)=false:=by simp[h1]
  by_cases h2:p.ver<=x.high
  ·have d2:decide (p.ver<=x.high)=true:=Ni h2;have HE:Hid (fJ x p=271):=(by show fJ x p=_;unfold fJ;rw[Nm (by simp[h1]),Np h2]);clear h1;refine ei ?_;exact⟨ew,F.bel⟩
  have d2:decide (p.ver<=x.high)=false:=Mw h2;have HE:Hid (fJ x p=0):=(by show fJ x p=_;unfold fJ;rw[Nm (by simp[h1]),Nm h2]);clear h1;go_wp2_with fail;go_ret;exact⟨ew,F.bel⟩
 have d1:(p.par != x.pl.ver)=true:=by simp[h1]
 have HE:Hid (fJ x p=270):=by show fJ x p=_;unfold fJ;rw[Np h1]
 refine ei ?_;exact⟨ew,F.bel⟩
def cY (a:Nat->Option Addr) (c:Nat->Nat) (x:Hs) (e:Int):Array Value:=(aE a c x).push (jV e)
def BU {g:Nat}{a:Nat->Option Addr}{c:Nat->Nat}{x:Hs}{e:Int}(h:jk W g (cY a c x e) 124):jc W g 25 e/\g<W.heap.size/\ ∀o,W.frozen? ⟨g,o,none⟩=false:=
 ⟨(Mu W g 25 _ _ _ h).trans rfl,aD h,fun o=>by simp[World.frozen?,h]⟩
def NS:(prog.info? 222).map (·.size)=some 2:=by kernel_rfl
def yan {P:Program}(w:World) (g off:Nat) (ty:TypeId) (cs:Array Value){F:_}(c: ∀(j:Nat) (v:Value),cs.toList[j]? =some v->jc w g (off+j) v)
  (d:P.underlying ty=some (.struct F)) (b:(P.info? ty).map (·.size)=some cs.size):
  (loadVar ty ⟨g,off,none⟩).run P w= .ok (.agg cs) w:=by
 have hl:=run_loadCells_list (P:=P) w ⟨g,off,none⟩ cs.toList (fun j v e=>by
   have H:(⟨g,off,none⟩:Addr).add j=⟨g,off+j,none⟩:=Yv;rw[H]
   exact c j v e)
 cases hq:P.info? ty with
 | none=>simp[hq]at b
 | some i=>
  have f:i.size=cs.size:=by simpa [hq]using b
  have a:(isAgg ty).run P w= .ok true w:=by
   unfold isAgg;rw[Sn,Fk d w];simp
  simp only[Array.length_toList,Array.toArray_toList]at hl;simp[loadVar,Sn,a,sizeOf,typeInfo,hq,f,hl]
def ER {rest:List Oper}{o:Oper}(H:o.guard=none) (ty:TypeId) (x:Operand) (b:o.op= .load ty x)
  (g off:Nat) (hx:a.eval x= .pointer (some ⟨g,off,none⟩)) (cs:Array Value){F:_}(c: ∀(j:Nat) (v:Value),cs.toList[j]? =some v->jc w g (off+j) v)
  (d:prog.underlying ty=some (.struct F)) (e:(prog.info? ty).map (·.size)=some cs.size) (h:wpList prog ops Q rest (a.put o.dst (.agg cs)) w):wpList prog ops Q (o::rest) a w:=
 Hl H fun _ f=>by
  unfold Oper.wp execOp;simp only[b,hx,Instr.loadAt,Instr.sureAddr,Sn,Ty,So,yan w g off ty cs c d e];exact f _ _ h
def yao {g:Nat}{a:Nat->Option Addr}{c:Nat->Nat}{x:Hs}{e:Int}(h:jk W g (cY a c x e) 124): ∀(j:Nat) (v:Value),(aE a c x).toList[j]? =some v->jc W g (0+j) v:=fun j v H=>by
 rw[Pa,Mu W g j _ _ _ h,<-H,cY];have hj:=(List.getElem?_eq_some_iff.1 H).1;rw[Hg (by simpa using hj)];simp at hj ⊢
def mV (e:Int) (b:Bool) (f:Int):Int:=if e=0/\b=true then f else e
def BT (g:Nat) (a:Nat->Option Addr) (c:Nat->Nat) (x:Hs) (e f:Int) (b:Bool) (w:World) (h:jk w g (cY a c x e) 124):
  jW 77 #[jp g 0,.bool b,f] w fun en W=>en= .returned (.bool (mV e b f != 0))/\jk W g (cY a c x (mV e b f)) 124/\aZ g w W:=by
 obtain⟨C,l,fz⟩:=BU h;have H:=hI h;clear h;by_cases h0:e=0
 ·subst h0;cases b
  ·go_in;refine ei ?_;exact⟨rfl,H,⟨rfl,rfl,rfl,rfl,fun _ _=>rfl⟩⟩
  have d:Hid (mV 0 true f=f):=(by simp[mV,Hid]);go_in;refine ei ?_;rw[d.o];exact⟨rfl,qW H,aZ.set w ⟨g,25,none⟩ _⟩
 have d0:(e==0)=false:=by simp[h0]
 have d1:(e != 0)=true:=by simp[h0]
 have d:Hid (mV e b f=e):=by show mV e b f=e;rw[mV,Nm (fun h=>h0 h.1)]
 go_in;refine ei ?_;rw[d.o];exact⟨by simp[h0],H,⟨rfl,rfl,rfl,rfl,fun _ _=>rfl⟩⟩
theorem yap (g:Nat) (a:Nat->Option Addr) (c:Nat->Nat) (x:Hs) (e:Int) (w:World) (h:jk w g (cY a c x e) 124):
  jW 78 #[jp g 0] w fun en b=>en= .returned (.tuple #[if e=0 then cV a c x else cV nA nC aK,e])/\jb w b:=by
 obtain⟨R,H⟩: ∃R,R=if e=0 then cV a c x else cV nA nC aK:=⟨_,rfl⟩;rw[<-H];have f:=hI H;clear H;have s:=hI h;go_in;go_upto_region 1 with fail;generalize i:World.alloc _ _=W0;have F:Hid (Fr w [(aE nA nC aK,35)] W0):=by show Fr _ _ _;rw[<-i];exact(Fr.start w).alloc rfl _ 35
 have r:=jm F.bel h;clear i h;obtain⟨j,L,fz⟩:=BU r;have R0:=hI r;clear r fz;by_cases h0:e=0
 ·have l:Hid (R= .agg (aE a c x)):=by show R=_;rw[f.o,Np h0];rfl
  subst h0;go_upto_region 3 with fail
  iterate 10 go_step
  refine ER rfl 35 (.tmp 16) rfl g 0 rfl (aE a c x) (yao R0) underlying35 cQ ?_;simp only[Act.put];go_wp2_with (refine bP rfl 35 (.tmp 2) (.tmp 17) rfl w (aE a c x) _ 35 rfl rfl (iD F) cQ rfl (fQ _ _ _) ?_);refine Nh (v:= .tuple #[.agg (aE a c x),jV 0]) (eL rfl _ _ w 35 _ (0,0) _ _ rfl rfl (iD (F.setRow 0 rfl (aE a c x))) underlying35 rfl cQ) rfl ?_;rw[l.o];exact⟨rfl,(F.setRow 0 rfl (aE a c x)).bel⟩
 have d1:(e != 0)=true:=by simp[h0]
 have l:Hid (R= .agg (aE nA nC aK)):=by show R=_;rw[f.o,Nm h0];rfl
 have u:=aD s;go_upto_region 2 with fail;refine iH [] (fun W=>jc W g 25 e/\g<W.heap.size) ef ?_;intro V _ n;have D:jc V g 25 e/\g<V.heap.size:=⟨(n.cell L).trans j,Nl L n.size⟩;have N:Nonempty (aX (fun W=>jc W g 25 e/\g<W.heap.size)):=⟨⟨V,D⟩⟩;have t5:=fun t:aX (fun W=>jc W g 25 e/\g<W.heap.size)=>t.h.1;have l5:=fun t:aX (fun W=>jc W g 25 e/\g<W.heap.size)=>t.h.2;refine pH (C:=fun b=> ∃t:aX (fun W=>jc W g 25 e/\g<W.heap.size),b=t.w) Qd Ky [0,1,2,3,4] ef D ee ?_;refine Oj ?_
 repeat (go_big_quiet_step (fail))
 refine wpQuiet_nil ?_;have p:=hI (F.below n);clear t5 l5 j;refine aS 5 ef ?_;intro K hK;refine kG (o:=⟨none,.store 35 (.tmp 2) (.tmp 9),_,_,_,none⟩) rfl rfl 35 (.tmp 2) (.tmp 9) rfl w (aE nA nC aK) rfl rfl 35 _ (iD p) cQ rfl (fQ _ _ _) ?_;have q:aZ w V (V.setRow w (aE nA nC aK)):=⟨rfl,rfl,rfl,Qx,fun k y=>Nq _ _ _ _ y⟩;have D0:jc (V.setRow w (aE nA nC aK)) g 25 e/\g<(V.setRow w (aE nA nC aK)).heap.size:=⟨(Pj (q.block g ed)).trans D.1,by rw[q.size];exact D.2⟩;refine Ob ?_;clear hK K
 conv=>arg 8;simp[Act.put]
 refine zB [6] D0 ?_;refine eI ef ?_ _;go_wp2_with fail;refine Nh (v:= .tuple #[.agg (aE nA nC aK),e]) (eL rfl _ _ w 35 _ (0,0) _ _ rfl rfl (iD (p.setRow 0 rfl (aE nA nC aK))) underlying35 rfl cQ) rfl ?_;rw[l.o];exact⟨rfl,(p.setRow 0 rfl (aE nA nC aK)).bel⟩
structure Kq (g:Nat) (V W:World):Prop where
 bel:Below g V W
 blk: ∀k,k<V.heap.size->k≠g->W.heap[k]? =V.heap[k]?
def Kq.refl (g:Nat) (V:World):Kq g V V:=⟨Nb _ _,fun _ _ _=>rfl⟩
def Kq.trans {g:Nat}(h:Kq g U V) (k:Kq g V W):Kq g U W:=⟨h.bel.trans k.bel,fun i H a=>(k.blk i (Nl H h.bel.size) a).trans (h.blk i H a)⟩
def Kq.low {g:Nat}(a:g<=V.heap.size) (H:jb V W):Kq g V W:=⟨H.mono a,fun k b _=>H.block k b⟩
def Kq.onl {g:Nat}(h:aZ g V W):Kq g V W:=⟨h.below Qy ep,fun k _ H=>h.block k H⟩
def rZ (x:Hs) (p:Pl) (e:Int):Nat->Int
 | 0=>e
 | 1=>mV e (p.par != x.pl.ver) 270
 | _=>mV (mV e (p.par != x.pl.ver) 270) (decide (p.ver<=x.high)) 271
theorem NQ (g:Nat) (a:Nat->Option Addr) (c:Nat->Nat) (x:Hs) (e:Int) (p:Pl) (s q gg r:Value) (w:World) (h:jk w g (cY a c x e) 124):
  jW 82 #[jp g 0,aT p s q gg r] w fun en o=>en= .returned (.bool (rZ x p e 2==0))/\jk o g (cY a c x (rZ x p e 2)) 124/\Kq g w o:=by
 have E:=aD h;unfold aT;go_in;go_upto_region 1 with fail;generalize H:World.alloc _ _=W0;have u:=jG H
 have z:=jA H
 have K0:=hI (Kq.low (g:=g) ed u);have R:=(u.block _ E).trans h;have R0:=hI R;have v1:=ji 1 R;have y:=ji 13 R;have Q:=ji 0 z;have A:=ji 1 z;have lg:=aD R;have Y:=aD z;clear H u z R h;refine pK [19] [0,1,2,3,4,5,6,7,8,9,10,11,12,13,14,15,16,17,18,21] ef Qd ef ?_;intro V B a3;have t1:=fun t:Gw W0=>t.cel v1;have t2:=fun t:Gw W0=>t.cel y;have t3:=fun t:Gw W0=>t.cel Q;have t4:=fun t:Gw W0=>t.cel A;have l1:=fun t:Gw W0=>t.lt lg;have l2:=fun t:Gw W0=>t.lt Y;refine Oj ?_
 repeat (go_big_quiet_step (fail))
 refine wpQuiet_nil ?_;refine pG [19,20] ef (by simp) ?_;refine Oj ?_;have F:=hI (K0.trans (Kq.low Ed B));have Z:=hI ((B.block _ lg).trans R0);clear t1 t2 t3 t4 l1 l2 v1 y Q A Y K0 R0 a3;go_wp2_with fail;have G:w.heap.size<=V.heap.size:=by have:=F.bel.size;have:=B.size;omega
 obtain⟨N,ho⟩: ∃N,N=V.heap.size:=⟨_,rfl⟩;have a0:Hid (Kq g w (V.alloc (Obj.cells #[.bool (p.par != x.pl.ver),jV 270,.bool (decide (p.ver<=x.high)),jV 271] 222))):=F.trans (Kq.low ed aR);have RA:Hid ((V.alloc (Obj.cells #[.bool (p.par != x.pl.ver),jV 270,.bool (decide (p.ver<=x.high)),jV 271] 222)).heap[g]? =some (.cells (cY a c x e) 124 (0,0))):=(Nv _ _ ed).trans Z;have a1:Hid ((V.alloc (Obj.cells #[.bool (p.par != x.pl.ver),jV 270,.bool (decide (p.ver<=x.high)),jV 271] 222)).heap[N]? =some (.cells #[.bool (p.par != x.pl.ver),jV 270,.bool (decide (p.ver<=x.high)),jV 271] 222 (0,0))):=by rw[ho];exact Ud
 rw[<-ho]at G ⊢;generalize I:World.alloc _ _=a8 at *;clear I ho F Z B lg;clear V;go_loopg [28] 2 (fun a4 i wr=> ∃k:Nat,k<=2/\a4=2-k/\i= jV k/\Kq g w wr/\jk wr g (cY a c x (rZ x p e k)) 124/\jk wr N #[.bool (p.par != x.pl.ver),jV 270,.bool (decide (p.ver<=x.high)),jV 271] 222)
 ·exact⟨0,ed,rfl,rfl,a0,RA,a1⟩
 clear a0 RA a1;obtain⟨k,a9,rfl,rfl,hb,D,ho⟩:=hrel;refine Qa fun K _=>?_;have E8:=aD D;have J:=aD ho;have M:=(Mu wr N 0 _ _ _ ho).trans rfl;have L:=(Mu wr N 1 _ _ _ ho).trans rfl;have O:=(Mu wr N 2 _ _ _ ho).trans rfl;have P:=(Mu wr N 3 _ _ _ ho).trans rfl
 have l:Hid (∀b f,k<2->rZ x p e (k+1)=mV (rZ x p e k) b f-> ∀W,Kq g wr W->jk W g (cY a c x (rZ x p e k)) 124->jW 77 #[jp g 0,.bool b,jV f] W fun en o=>(∃bb,en= .returned (.bool bb))/\Kq g w o/\jk o g (cY a c x (rZ x p e (k+1))) 124/\jk o N #[.bool (p.par != x.pl.ver),jV 270,.bool (decide (p.ver<=x.high)),jV 271] 222):=by
  intro b f _ a5 W a2 a6;refine(BT g a c x _ f b W a6).mono ?_;rintro en o ⟨rfl,h2,h3⟩;rw[a5];exact⟨⟨_,rfl⟩,(K.trans a2).trans (Kq.onl h3),h2,((a2.trans (Kq.onl h3)).blk N J ed).trans ho⟩
 have RR:=hI D;have C:=(BU D).1;clear hb D ho;obtain rfl | rfl | rfl:k=0\/k=1\/k=2:=ed
 ·go_upto_region 3 with fail
  iterate 4 go_step
  refine ER rfl 222 (.tmp 30) rfl N 0 rfl #[.bool (p.par != x.pl.ver),jV 270] (fun j v h=>by match j,h with | 0,h=>exact h ▸ M | 1,h=>exact h ▸ L | n+2,h=>simp at h) underlying222 NS ?_;simp only[Act.put];refine Vv ?_;refine Qq fun W1 hW=>?_;have g9:jb wr W1:=(by rw[<-hW];exact aR);have hn:jk W1 wr #[.bool (p.par != x.pl.ver),jV 270] 222:=Un;refine Re fun T R1 Q A a7=>?_;clear hW g9 hn M L O P C;go_wp2_with (go_at_call 77;refine(l _ _ ed rfl W1 T R1).mono ?_;rintro en W2 ⟨⟨bb,rfl⟩,U,X,n2⟩);go_roundg 1
  ·go_light;exact⟨1,ed,ed,rfl,U,X,n2⟩
  go_light;omega
 ·go_upto_region 3 with fail
  iterate 4 go_step
  refine ER rfl 222 (.tmp 30) rfl N 2 rfl #[.bool (decide (p.ver<=x.high)),jV 271] (fun j v h=>by match j,h with | 0,h=>exact h ▸ O | 1,h=>exact h ▸ P | n+2,h=>simp at h) underlying222 NS ?_;simp only[Act.put];refine Vv ?_;refine Qq fun W1 hW=>?_;have g9:jb wr W1:=(by rw[<-hW];exact aR);have hn:jk W1 wr #[.bool (decide (p.ver<=x.high)),jV 271] 222:=Un;refine Re fun T R1 _ _ _=>?_;clear hW g9 hn M L O P C;go_wp2_with (go_at_call 77;refine(l _ _ ed rfl W1 T R1).mono ?_;rintro en W2 ⟨⟨bb,rfl⟩,U,X,n2⟩);go_roundg 0
  ·go_light;exact⟨2,ed,ed,rfl,U,X,n2⟩
  go_light;omega
 refine ei ?_;exact⟨rfl,RR,K⟩
end Go.Proofs.YtbiehpjhhopjaaaGreat
