/- Walks, laws. -/
import Derived.Test.YtbiehpjhhopjaaaGreatT1
import Derived.Deep.CutBlock
import Derived.Deep.WholeRow
import Derived.StillTailTactics
import Derived.Lib.SliceRun
import Derived.Lib.AppendZeros
import Derived.Laws.AppendOwnNone
set_option linter.all false
set_option maxRecDepth 100000
set_option maxHeartbeats 16000000
namespace Go.Proofs.YtbiehpjhhopjaaaGreat
open _root_ renaming Array->aL,Bool->aU,Bool.false->aW,Decidable.decide->ab,List->aq,Int->ar,Nat->av,Option->ax,Bool.true->bl,Option.none->bn,Option.some->bt,Decidable->cG,absurd->cv,inferInstance->cx
open Go renaming World->aj,undef->bE,RowKit.Hid->bG,Addr->bR,TypeId->bT,Value->bw,RowKit.Below->cB,redrawn->cF,Value.slice->cJ,Ending.returned->cL,Obj.cells->cO,Value.int->cW,Value.pointer->cY,Value.agg->cZ,World.setCell->cd,World.alloc->cj,wpQuiet_nil->cl,Act.put->cq,Value.bool->db,Operand.tmp->dk,IntKind.i64->dr,Value.tuple->dw
open Go.RowKit Go.Sort Tryz
variable {g k m:av}{W W' b w:aj}{a:Act}{o:Oper}{P:Program}{ops:aL Oper}{Q:Exit->Act->aj->Prop}{gg r s va vo:bw}{n:ar}
def ma:mD 416:=fun args w=>Uu
def ll (x:Sg) (n:ar) (g:av) (w:aj) (hn:jc w g 0 n):
  jW 416 #[cZ #[x.id,x.sec,x.en],jp g 0] w (bY w (ab (x.id=n))):=by
 have H:bG (∀b,(b=bl↔x.id=n)->b=ab (x.id=n)):=fun b hb=>Kx
 generalize ab (x.id=n)=B at *;go_in;go_wp2_with fail;generalize hW:w.alloc (cO #[x.id,x.sec,x.en] 145)=W;have hbW:=jG hW
 have K:=hI hbW;have cH:bG (∀d os,jW 414 #[cZ #[x.id,x.sec,x.en]] (grow (cF W d) os) fun e a=>e=cL ↑x.id/\ ∃p:Regrown,a=grow (cF W p.d) p.os):=fun d os=>Ps (KH x.id x.sec x.en _);refine Rf fun _ _ _=>?_;have z2:=Ng (show jc W w 2 x.en by rw[<-hW];simp);clear hW hbW hn;refine Mz ef ef ?_
 repeat (go_big_quiet_step (first | (with_reducible exact cH.o _ _)))
 refine cl ?_;rintro _ ⟨⟨D,osq⟩,rfl⟩;refine ei ?_;exact⟨aH (H _ ee),K.trans ((Nr W D osq).mono K.size)⟩
theorem lh (a:ax bR) (cap:av) (l:aq Sg) (n:ar) (w:aj) (hl:aB w 3 gZ a cap l) (C:l.length<=1000):
  jW 380 #[js a l cap,n] w fun e d=>e=cL (dw #[cZ #[jV (dW Sg.id ⟨0,0,0⟩ l n).id,jV (dW Sg.id ⟨0,0,0⟩ l n).sec,jV (dW Sg.id ⟨0,0,0⟩ l n).en],db (dX Sg.id l n)])/\jb w d:=by
 have j:bG (∀d,jb w d->aB d 3 gZ a cap l):=fun d H=>hl.below lA H;clear hl;rcases kF (fun x:Sg=>ab (x.id=n)) l with⟨h1,h2⟩ | ⟨k,o,h1,h2,h3⟩
 ·obtain⟨E,f⟩:=MC (z:=⟨0,0,0⟩) h2;rw[E,f];have p:=hI h1;clear E f h1 h2;go_in;go_wp2_with fail;generalize hW:(w.alloc _).alloc _=W;have hbW:=eN hW
  have hn:jc W w 0 n:=by rw[<-hW];simp
  have hz:W.heap.size=w.heap.size+2:=Qc
  refine Mk fun K q=>?_;have Y:=hI (show jc W (w+1) 0 (jV 0) by rw[<-hW];simp);have F:=hI (show W.frozen? ⟨w+1,0,bn⟩=aW by rw[<-hW];simp);have y:=hI (show jc W (w+1) 1 (jV 0) by rw[<-hW];simp);have r:=hI (show W.frozen? ⟨w+1,1,bn⟩=aW by rw[<-hW];simp);have s:=hI (show jc W (w+1) 2 (jV 0) by rw[<-hW];simp);have t:=hI (show W.frozen? ⟨w+1,2,bn⟩=aW by rw[<-hW];simp);clear hW hbW;refine(mb 416 #[jp w 0] (fun x:Sg=>ab (x.id=n)) a cap l W (j _ K) C ma q).mono ?_;refine Qe fun w1 g9=>?_;rw[p.o];have y0:=(g9.cell Qh).trans Y;have f0:=(g9.frozen Qh).trans F;have y1:=(g9.cell Qh).trans y;have f1:=(g9.frozen Qh).trans r;have y2:=(g9.cell Qh).trans s;have f2:=(g9.frozen Qh).trans t;have hz1:w.heap.size+1<w1.heap.size:=Uo
  have g:=jh K g9;clear g9 hz hn;go_wp2_with fail;refine Qq fun c o9=>?_;have Q:jc c (w+1) 0 (jV 0):=Kj
  have u:jc c (w+1) 1 (jV 0):=Kj
  have A:jc c (w+1) 2 (jV 0):=Kj
  have B:bG (jb w c):=by refine Uy ?_;exact cB.alloc (Di (Di (Di (g) ee _) ee _) ee _) em _
  clear o9;refine Nh (v:=dw #[cZ #[jV 0,jV 0,jV 0],db aW]) (by simp[results,Tryz.f380,go_sem,Q,u,A]) rfl ⟨rfl,?_⟩;exact B
 obtain⟨E,f⟩:=tF (z:=⟨0,0,0⟩) o h2 h3;rw[E,f];have p:=hI h1;clear E f h1 h2 h3;go_in;go_wp2_with fail;generalize hW:(w.alloc _).alloc _=W;have hbW:=eN hW
 have hn:jc W w 0 n:=by rw[<-hW];simp
 have hz:W.heap.size=w.heap.size+2:=Qc
 refine Mk fun K q=>?_;have Y:=hI (show jc W (w+1) 0 (jV 0) by rw[<-hW];simp);have F:=hI (show W.frozen? ⟨w+1,0,bn⟩=aW by rw[<-hW];simp);have y:=hI (show jc W (w+1) 1 (jV 0) by rw[<-hW];simp);have r:=hI (show W.frozen? ⟨w+1,1,bn⟩=aW by rw[<-hW];simp);have s:=hI (show jc W (w+1) 2 (jV 0) by rw[<-hW];simp);have t:=hI (show W.frozen? ⟨w+1,2,bn⟩=aW by rw[<-hW];simp);clear hW hbW;refine(mb 416 #[jp w 0] (fun x:Sg=>ab (x.id=n)) a cap l W (j _ K) C ma q).mono ?_;refine Qe fun w1 g9=>?_;rw[p.o];have y0:=(g9.cell Qh).trans Y;have f0:=(g9.frozen Qh).trans F;have y1:=(g9.cell Qh).trans y;have f1:=(g9.frozen Qh).trans r;have y2:=(g9.cell Qh).trans s;have f2:=(g9.frozen Qh).trans t;have hz1:w.heap.size+1<w1.heap.size:=Uo
 have g:=jh K g9;obtain⟨b,off,rfl,x0,x1,x2⟩:=(j _ g).sg o;have t0:ab ((k:ar)<0)=aW:=ee
 have i0:=aQ k
 have i1:=aN o
 clear g9 hz hn;go_wp2_with fail;refine On fun c o9=>?_;have Q:jc c (w+1) 0 l[k].id:=Kj
 have u:jc c (w+1) 1 l[k].sec:=Kj
 have A:jc c (w+1) 2 l[k].en:=Kj
 have B:bG (jb w c):=by refine Uy ?_;exact Di (Di (Di (g) ee _) ee _) ee _
 clear o9;refine Nh (v:=dw #[cZ #[l[k].id,l[k].sec,l[k].en],db bl]) (by simp[results,Tryz.f380,go_sem,Q,u,A]) rfl ⟨rfl,?_⟩;exact B
def ld:mD 417:=fun args w=>Uu
def kz (x:Pt) (n:ar) (g:av) (w:aj) (hn:jc w g 0 n):
  jW 417 #[cZ #[x.id,x.sec],jp g 0] w (bY w (ab (x.id=n))):=by
 have H:bG (∀b,(b=bl↔x.id=n)->b=ab (x.id=n)):=fun b hb=>Kx
 generalize ab (x.id=n)=B at *;go_in;go_wp2_with fail;generalize hW:w.alloc (cO #[x.id,x.sec] 143)=W;have hbW:=jG hW
 have K:=hI hbW;have cH:bG (∀d os,jW 413 #[cZ #[x.id,x.sec]] (grow (cF W d) os) fun e a=>e=cL ↑x.id/\ ∃p:Regrown,a=grow (cF W p.d) p.os):=fun d os=>Ps (KJ x.id x.sec _);refine Rf fun _ _ _=>?_;clear hW hbW hn;refine Mz ef ef ?_
 repeat (go_big_quiet_step (first | (with_reducible exact cH.o _ _)))
 refine cl ?_;rintro _ ⟨⟨D,osq⟩,rfl⟩;refine ei ?_;exact⟨aH (H _ ee),K.trans ((Nr W D osq).mono K.size)⟩
theorem nk (a:ax bR) (cap:av) (l:aq Pt) (n:ar) (w:aj) (hl:aB w 2 iA a cap l) (u:l.length<=1000):
  jW 381 #[js a l cap,n] w fun e d=>e=cL (dw #[cZ #[jV (dW Pt.id ⟨0,0⟩ l n).id,jV (dW Pt.id ⟨0,0⟩ l n).sec],db (dX Pt.id l n)])/\jb w d:=by
 have j:bG (∀d,jb w d->aB d 2 iA a cap l):=fun d H=>hl.below lT H;clear hl;rcases kF (fun x:Pt=>ab (x.id=n)) l with⟨h1,h2⟩ | ⟨k,o,h1,h2,h3⟩
 ·obtain⟨E,f⟩:=MC (z:=⟨0,0⟩) h2;rw[E,f];have p:=hI h1;clear E f h1 h2;go_in;go_wp2_with fail;generalize hW:(w.alloc _).alloc _=W;have hbW:=eN hW
  have hn:jc W w 0 n:=by rw[<-hW];simp
  have hz:W.heap.size=w.heap.size+2:=Qc
  refine Ml fun K q=>?_;have Y:=hI (show jc W (w+1) 0 (jV 0) by rw[<-hW];simp);have F:=hI (show W.frozen? ⟨w+1,0,bn⟩=aW by rw[<-hW];simp);have y:=hI (show jc W (w+1) 1 (jV 0) by rw[<-hW];simp);have r:=hI (show W.frozen? ⟨w+1,1,bn⟩=aW by rw[<-hW];simp);clear hW hbW;refine(JZ 417 #[jp w 0] (fun x:Pt=>ab (x.id=n)) a cap l W (j _ K) u ld q).mono ?_;refine Qe fun w1 g9=>?_;rw[p.o];have y0:=(g9.cell Qh).trans Y;have f0:=(g9.frozen Qh).trans F;have y1:=(g9.cell Qh).trans y;have f1:=(g9.frozen Qh).trans r;have hz1:w.heap.size+1<w1.heap.size:=Uo
  have g:=jh K g9;clear g9 hz hn;go_wp2_with fail;refine Qq fun c o9=>?_;have Q:jc c (w+1) 0 (jV 0):=Zy
  have s:jc c (w+1) 1 (jV 0):=Zy
  have t:bG (jb w c):=by refine Uy ?_;exact cB.alloc (Di (Di (g) ee _) ee _) em _
  clear o9;refine Nh (v:=dw #[cZ #[jV 0,jV 0],db aW]) (by simp[results,Tryz.f381,go_sem,Q,s]) rfl ⟨rfl,?_⟩;exact t
 obtain⟨E,f⟩:=tF (z:=⟨0,0⟩) o h2 h3;rw[E,f];have p:=hI h1;clear E f h1 h2 h3;go_in;go_wp2_with fail;generalize hW:(w.alloc _).alloc _=W;have hbW:=eN hW
 have hn:jc W w 0 n:=by rw[<-hW];simp
 have hz:W.heap.size=w.heap.size+2:=Qc
 refine Ml fun K q=>?_;have Y:=hI (show jc W (w+1) 0 (jV 0) by rw[<-hW];simp);have F:=hI (show W.frozen? ⟨w+1,0,bn⟩=aW by rw[<-hW];simp);have y:=hI (show jc W (w+1) 1 (jV 0) by rw[<-hW];simp);have r:=hI (show W.frozen? ⟨w+1,1,bn⟩=aW by rw[<-hW];simp);clear hW hbW;refine(JZ 417 #[jp w 0] (fun x:Pt=>ab (x.id=n)) a cap l W (j _ K) u ld q).mono ?_;refine Qe fun w1 g9=>?_;rw[p.o];have y0:=(g9.cell Qh).trans Y;have f0:=(g9.frozen Qh).trans F;have y1:=(g9.cell Qh).trans y;have f1:=(g9.frozen Qh).trans r;have hz1:w.heap.size+1<w1.heap.size:=Uo
 have g:=jh K g9;obtain⟨b,off,rfl,x0,x1⟩:=(j _ g).pt o;have t0:ab ((k:ar)<0)=aW:=ee
 have i0:=aQ k
 have i1:=aN o
 clear g9 hz hn;go_wp2_with fail;refine On fun c o9=>?_;have Q:jc c (w+1) 0 l[k].id:=Zy
 have s:jc c (w+1) 1 l[k].sec:=Zy
 have t:bG (jb w c):=by refine Uy ?_;exact Di (Di (g) ee _) ee _
 clear o9;refine Nh (v:=dw #[cZ #[l[k].id,l[k].sec],db bl]) (by simp[results,Tryz.f381,go_sem,Q,s]) rfl ⟨rfl,?_⟩;exact t
def JV {l:aq aF}(h:eR l l):wC l:=fun i j a hj H=>((h j hj hj).2 i H).1
def JU (l:aq aF) (k:av) (h:k<l.length):Prop:=1<=l[k].id/\l[k].id<=99/\l[k].Shaped
def JT (l:aq aF) (k:av) (h:k<l.length) (m:av):Prop:= ∀j (hj:j<k),j<m->l[j].id<l[k].id/\(l[k].pt≠0->l[j].pt≠l[k].pt)
def ky {l:aq aF}(h:k<l.length) (a:eR l k) (h1:JU l k h) (h2:JT l k h k):eR l (k+1):=by
 intro i b c;by_cases e:i=k
 ·subst e;exact⟨h1,fun m H=>h2 m H H⟩
 exact a i b ed
def nj {l:aq aF}(h:k<l.length) (h1: ¬JU l k h): ¬eR l l:=fun H=>h1 (H k h h).1
def ni {l:aq aF}(h:k<l.length) (H:m<k) (h2: ¬(l[m].id<l[k].id/\(l[k].pt≠0->l[m].pt≠l[k].pt))): ¬eR l l:=fun a=>h2 ((a k h h).2 m H)
def zY (l:aq aF) (k:av) (h:k<l.length) (m:av):Prop:= ∀e (he:e<l[k].ends.length),e<m->mU l l[k] e l[k].ends[e]
def kx {l:aq aF}(h:k<l.length) (a:pA l k) (h1:zY l k h l[k].ends.length):pA l (k+1):=by
 intro i b c;by_cases e:i=k
 ·subst e;exact fun m H=>h1 m H H
 exact a i b ed
def kw {l:aq aF}(h:k<l.length) (H:m<l[k].ends.length) (h2: ¬mU l l[k] m l[k].ends[m]): ¬pA l l:=fun a=>h2 (a k h h m H)
theorem tr (a:ax bR) (cap:av) (l:aq aF) (w:aj) (hl:aB w 3 cU a cap l) (a7:l.length<=1000) (z: ∀i (h:i<l.length),l[i].ends.length<=8796093022208):
  jW 212 #[js a l cap] w (bY w (ab (kM l))):=by
 have a0:bG (∀A,jb w A->aB A 3 cU a cap l):=fun A hb=>hl.below gN hb;have C:=hI z;clear hl z;by_cases a3:16<l.length
 ·have hd:ab ((16:ar)<(l:ar))=bl:=by simp;omega
  have HE:bG (ab (kM l)=aW):=Mw fun h=>by have:=h.1;omega
  go_in;go_wp2_with fail;go_ret;exact⟨aH HE.symm,Nb _ _⟩
 have hd:ab ((16:ar)<(l:ar))=aW:=by simp;omega
 have h16:l.length<=16:=ed
 have D:bG (¬eR l l->ab (kM l)=aW):=fun h=>Mw fun h'=>h h'.2.1;have H0:bG (¬pA l l->ab (kM l)=aW):=fun h=>Mw fun h'=>h h'.2.2;have a8:bG (eR l l->pA l l->ab (kM l)=bl):=fun h1 h2=>Ni ⟨h16,h1,h2⟩;generalize ab (kM l)=B at *;go_in;go_wp2_with fail;go_loopg [3] l.length (fun g i wr=> ∃k:av,k<=l.length/\g=l.length-k/\i= jV k/\jb w wr/\eR l k)
 ·exact⟨0,ed,ed,rfl,Nb _ _,fun i h h0=>by omega⟩
 obtain⟨k,b6,rfl,rfl,hb,ho⟩:=hrel;obtain⟨x,rfl⟩: ∃x:aj,x=wr:=⟨_,rfl⟩;have HB:=hI hb;have a1:=hI ho;clear hb ho;by_cases G9:k<l.length
 ·have s:=bL G9;obtain⟨b,off,a4,a5,rfl,x0,x1,x2,-⟩:=(a0 _ HB).sec G9;refine Qb fun c0 c1=>?_;have y:bG (∀W,jW 309 #[cZ #[l[k].id,l[k].pt,js a4 l[k].ends.length a5]] W fun e A=>e=cL (db (decide l[k].Shaped))/\jb W A):=fun W=>oe l[k] a4 a5 W;by_cases c:JU l k G9
  ·have H1:=hI c;have t1:ab (l[k].id<1)=aW:=(by have:=c.1;simp;omega);have t2:ab (99<l[k].id)=aW:=(by have:=c.2.1;simp;omega);have T:decide l[k].Shaped=bl:=(by simpa using c.2.2);rw[T]at y;clear c T;have l1:=My _ _ x0;go_wp2_with fail;refine(y _).mono ?_;rintro e0 w1 ⟨rfl,g9⟩;have K1:=hI ((HB.alloc HB.size _).trans (g9.mono (by have:=HB.size;simp;omega)));have f0:jc w1 x 0 l[k].id:=aP g9 (by simp);have f1:jc w1 x 1 l[k].pt:=aP g9 ee;clear g9 y;go_wp2_with fail;go_loopg [5] k (fun g i f=> ∃m q:av,m<=k/\g=k-m/\i= jV m/\f=w1.drewN q/\JT l k G9 m)
   ·exact⟨0,0,ed,ed,rfl,rfl,fun j hj h0=>by omega⟩
   obtain⟨m,q,E,rfl,rfl,n,F⟩:=hrel;obtain⟨f,rfl⟩: ∃f:aj,f=wr:=⟨_,rfl⟩;have G:=hI F;have I:=hI n;have F0:jc f x 0 l[k].id:=(by rw[n];exact f0);have F1:jc f x 1 l[k].pt:=(by rw[n];exact f1);have K6:bG (jb w f):=(by show cB _ _ _;rw[n];exact jP K1 q);clear F n;by_cases d:m<k
   ·have t:=bL d;have J:m<l.length:=ed;obtain⟨b2,O,a2,c2,e2,y0,y1,-,-⟩:=(a0 _ K6).sec J;cases e2;have m0:=aQ m;have m1:=aN J;have L:=hI fun h=>D (ni G9 d h)
    have M:bG (l[m].id<l[k].id/\(l[k].pt≠0->l[m].pt≠l[k].pt)->JT l k G9 (m+1)):=fun h j hj a9=>by
     by_cases e:j=m
     ·subst e;exact h
     exact G j hj ed
    generalize l[m].id=b0 at *;generalize l[m].pt=mp at *;generalize l[k].id=b1 at *;generalize l[k].pt=K at *;by_cases q1:b1<=b0
    ·have s1:=jT q1;have HE:=hI (L Ef);go_wp2_with fail;go_quiet (fail);go_wp2_with fail;go_ret;exact⟨aH HE.symm,jP K6 _⟩
    have s1:=jU q1;by_cases hz:K=0
    ·have s2:(K != 0)=aW:=Qh;have p:=hI (M ⟨ed,fun h=>cv hz h⟩);clear hz;go_wp2_with fail;go_quiet (fail);go_wp2_with fail;go_roundg (k-(m+1))
     ·go_light;exact⟨m+1,_,ed,ed,ej,by rw[I.o];exact aj.drewN_drewN _ _ _,p⟩
     go_light;omega
    have s2:(K != 0)=bl:=Qh;by_cases Q:mp=K
    ·have s3:(mp==K)=bl:=(by simp[Q]);have HE:=hI (L (fun h=>h.2 hz Q));clear hz Q;go_wp2_with fail;go_quiet (fail);refine ei ?_;exact Ur
    have s3:(mp==K)=aW:=(by simp[Q]);have p:=hI (M ⟨ed,fun _=>Q⟩);clear hz Q;go_wp2_with fail;go_quiet (fail);go_wp2_with fail;go_roundg (k-(m+1))
    ·go_light;exact⟨m+1,_,ed,ed,ej,by rw[I.o];exact aj.drewN_drewN _ _ _,p⟩
    go_light;omega
   obtain rfl:m=k:=ed;have t:=bZ d;have p:=hI (ky G9 a1 H1 G);go_wp2_with fail;go_roundg (l.length-(m+1))
   ·go_light;exact⟨m+1,ed,ed,ej,K6,p⟩
   go_light;omega
  have HE:=hI (D (nj G9 c))
  have u:ab (l[k].id<1)=bl\/(ab (l[k].id<1)=aW/\ab (99<l[k].id)=bl)\/(ab (l[k].id<1)=aW/\ab (99<l[k].id)=aW/\decide l[k].Shaped=aW):=by
   by_cases h1:l[k].id<1
   ·left;simpa using h1
   right;by_cases h2:99<l[k].id
   ·left;exact⟨by simpa using h1,by simpa using h2⟩
   right;exact⟨by simpa using h1,by simpa using h2,Mw fun h3=>c ⟨ed,ed,h3⟩⟩
  clear c;rcases u with t1 | ⟨t1,t2⟩ | ⟨t1,t2,T⟩
  ·refine ei ?_;exact⟨aH HE.symm,HB.alloc HB.size _⟩
  ·refine ei ?_;exact⟨aH HE.symm,HB.alloc HB.size _⟩
  rw[T]at y;clear T;go_wp2_with fail;refine(y _).mono ?_;rintro e0 w1 ⟨rfl,g9⟩;have K1:=hI ((HB.alloc HB.size _).trans (g9.mono (by have:=HB.size;simp;omega)));clear g9 y;go_wp2_with fail;go_ret;exact⟨aH HE.symm,K1⟩
 obtain rfl:k=l.length:=ed;have s:=bZ G9;have b3:=hI (JV a1);go_wp2_with fail;go_loopg [6] l.length (fun g i f=> ∃k:av,k<=l.length/\g=l.length-k/\i= jV k/\jb w f/\pA l k)
 ·exact⟨0,ed,ed,rfl,HB,fun i h h0=>by omega⟩
 obtain⟨k,b4,rfl,rfl,N,P⟩:=hrel;obtain⟨f,rfl⟩: ∃f:aj,f=wr:=⟨_,rfl⟩;have R:=hI N;have U:=hI P;clear N P;by_cases G9:k<l.length
 ·have s:=bL G9;refine Qb fun _ _=>?_;have E:=C k G9;go_wp2_with fail;go_loopg [7] l[k].ends.length (fun g i v=> ∃m:av,m<=l[k].ends.length/\g=l[k].ends.length-m/\i= jV m/\jb w v/\zY l k G9 m)
  ·exact⟨0,ed,ed,rfl,R,fun j hj h0=>by omega⟩
  obtain⟨m,d,rfl,rfl,V,X⟩:=hrel;obtain⟨v,rfl⟩: ∃v:aj,v=wr:=⟨_,rfl⟩;have o:=hI V;have Y:=hI X;clear V X;obtain⟨b2,O,a2,c2,rfl,y0,y1,y2,H⟩:=(a0 _ o).sec G9;by_cases r:m<l[k].ends.length
  ·have t:=bL r
   have A7:bG (jW 310 #[jq b2 O l cap,cZ #[l[k].id,l[k].pt,js a2 l[k].ends.length c2],jV (m:ar)] v (bY v (ab (mU l l[k] m l[k].ends[m])))):=
    nr _ cap l l[k] a2 c2 m r v (a0 _ o) H a7 C E b3
   by_cases hj:mU l l[k] m l[k].ends[m]
   ·have p:bG (zY l k G9 (m+1)):=fun e he b5=>by
     by_cases h:e=m
     ·subst h;exact hj
     exact Y e he ed
    rw[Ni hj]at A7;clear hj H;generalize l[k].ends.length=a6 at *;go_wp2_with fail;refine A7.mono ?_;rintro e0 w1 ⟨rfl,g9⟩;have K1:=jh o g9;clear g9 A7;go_wp2_with fail;go_roundg (a6-(m+1))
    ·go_light;exact⟨m+1,ed,ed,ej,K1,p⟩
    go_light;omega
   have HE:=hI (H0 (kw G9 r hj));rw[Mw hj]at A7;clear hj H;generalize l[k].ends.length=a6 at *;go_wp2_with fail;refine A7.mono ?_;rintro e0 w1 ⟨rfl,g9⟩;have K1:=jh o g9;clear g9 A7;refine ei ?_;exact Qu
  have Z:m=l[k].ends.length:=ed;have p:=hI (kx G9 U (by rw[<-Z];exact Y));have t:=bZ r;clear Z H;go_wp2_with fail;go_roundg (l.length-(k+1))
  ·go_light;exact⟨k+1,ed,ed,ej,o,p⟩
  go_light;omega
 obtain rfl:k=l.length:=ed;have s:=bZ G9;have HE:=hI (a8 a1 U);refine ei ?_;exact⟨aH HE.symm,R⟩
def JS {α:Type}{f:α->ar}{l:aq α}(h:k<l.length) (H:dE f l k) (h1:1<=f l[k]/\f l[k]<=99) (h2: ∀h':0<k,f l[k-1]<f l[k]):dE f l (k+1):=by
 intro i a b;by_cases e:i=k
 ·subst e;exact⟨h1,h2⟩
 exact H i a ed
def JR {α:Type}{f:α->ar}{l:aq α}(h:k<l.length) (H: ¬((1<=f l[k]/\f l[k]<=99)/\ ∀h':0<k,f l[k-1]<f l[k])): ¬dE f l l:=fun a=>H (a k h h)
theorem nh (a:ax bR) (cap:av) (l:aq Pt) (M:ar) (w:aj) (hl:aB w 2 iA a cap l) (G:l.length<=1000):
  jW 376 #[js a l cap,M] w (bY w (ab (dE Pt.id l l/\(l:ar)<=M))):=by
 have y:bG (∀d,jb w d->aB d 2 iA a cap l):=fun d hb=>hl.below lT hb;clear hl;have C:bG (¬dE Pt.id l l->ab (dE Pt.id l l/\(l:ar)<=M)=aW):=fun h=>Mw fun h'=>h h'.1;have D:bG (dE Pt.id l l->ab (dE Pt.id l l/\(l:ar)<=M)=ab ((l:ar)<=M)):=fun h=>by simp[h]
 generalize ab (dE Pt.id l l/\(l:ar)<=M)=B at *;go_in;go_wp2_with fail;go_loopg [10] l.length (fun g i wr=> ∃k:av,k<=l.length/\g=l.length-k/\i= jV k/\jb w wr/\dE Pt.id l k)
 ·exact⟨0,ed,ed,rfl,Nb _ _,fun i h h0=>by omega⟩
 obtain⟨k,I,rfl,rfl,hb,ho⟩:=hrel;obtain⟨z,rfl⟩: ∃z:aj,z=wr:=⟨_,rfl⟩;have HB:=hI hb;have A:=hI ho;clear hb ho;by_cases G9:k<l.length
 ·have j:=hI fun h=>C (JR G9 h);have r:=hI fun h1 h2=>JS G9 A h1 h2
  have q:bG (∀h':0<k,∃t:k-1<l.length,∀d,jb w d-> ∃b off,a=bt ⟨b,off,bn⟩/\jc d b (off+(k-1) * 2) l[k-1].id/\jc d b (off+(k-1) * 2+1) l[k-1].sec):=fun h'=>⟨ed,fun d hb=>by
   exact(y _ hb).pt ed⟩
  obtain⟨b,off,rfl,x0,x1⟩:=(y _ HB).pt G9;refine Qb fun _ _=>?_;have H:bG (∀W,jW 413 #[cZ #[l[k].id,l[k].sec]] W fun e d=>e=cL ↑l[k].id/\jb W d):=fun W=>KJ _ _ W;generalize l[k].id=K at *;by_cases q1:K<1
  ·have HE:=hI (j Ef);go_wp2_with fail;refine(H _).mono ?_;rintro E w1 ⟨rfl,g9⟩;have K1:=hI ((HB.alloc HB.size _).trans (g9.mono (by have:=HB.size;simp;omega)));clear g9 H;go_wp2_with fail;go_ret;exact⟨aH HE.symm,K1⟩
  have s1:=jU q1;by_cases q2:99<K
  ·have HE:=hI (j Ef);go_wp2_with fail;refine(H _).mono ?_;rintro E w1 ⟨rfl,g9⟩;refine Vw fun K1=>?_;clear g9 H;go_wp2_with fail;go_ret;exact Qu
  have s2:=jU q2;rcases Tt k with p | p
  ·have F:ab (0<k)=aW:=em;have u:=hI (r ⟨ed,ed⟩ ju);clear p;go_wp2_with fail;refine(H _).mono ?_;rintro E w1 ⟨rfl,g9⟩;refine Vw fun K1=>?_;clear g9 H;go_wp2_with fail;go_roundg (l.length-(k+1))
   ·go_light;exact⟨k+1,ed,ed,ej,K1,u⟩
   go_light;omega
  obtain⟨t,s⟩:=q p;have v:=hI s;have i2:((k:ar)-1).toNat=k-1:=ed;clear s;go_wp2_with fail;refine(H _).mono ?_;rintro E w1 ⟨rfl,g9⟩;refine Vw fun K1=>?_;obtain⟨b2,O,e2,y0,y1⟩:=v w1 K1;cases e2;have c:bG (∀W,jW 413 #[cZ #[l[k-1].id,l[k-1].sec]] W fun e d=>e=cL ↑l[k-1].id/\jb W d):=fun W=>KJ _ _ W;clear g9 H;by_cases q3:K<=l[k-1].id
  ·have HE:=hI (j (fun h=>by have:=h.2 p;omega));go_wp2_with fail;refine(c _).mono ?_;rintro e1 w2 ⟨rfl,o⟩;have x:=jh K1 o;clear o c;refine ei ?_;exact⟨aH HE.symm,x⟩
  have s3:=jU q3;have u:=hI (r ⟨ed,ed⟩ ju);go_wp2_with fail;refine(c _).mono ?_;rintro e1 w2 ⟨rfl,o⟩;have x:=jh K1 o;clear o c;go_wp2_with fail;go_roundg (l.length-(k+1))
  ·go_light;exact⟨k+1,ed,ed,ej,x,u⟩
  go_light;omega
 obtain rfl:k=l.length:=ed;have HE:=hI (D A);refine ei ?_;exact⟨aH HE.symm,HB⟩
theorem nf (a:ax bR) (cap:av) (l:aq Sg) (M:ar) (w:aj) (hl:aB w 3 gZ a cap l) (G:l.length<=1000):
  jW 378 #[js a l cap,M] w (bY w (ab (dE Sg.id l l/\(l:ar)<=M))):=by
 have y:bG (∀d,jb w d->aB d 3 gZ a cap l):=fun d hb=>hl.below lA hb;clear hl;have C:bG (¬dE Sg.id l l->ab (dE Sg.id l l/\(l:ar)<=M)=aW):=fun h=>Mw fun h'=>h h'.1;have D:bG (dE Sg.id l l->ab (dE Sg.id l l/\(l:ar)<=M)=ab ((l:ar)<=M)):=fun h=>by simp[h]
 generalize ab (dE Sg.id l l/\(l:ar)<=M)=B at *;go_in;go_wp2_with fail;go_loopg [10] l.length (fun g i wr=> ∃k:av,k<=l.length/\g=l.length-k/\i= jV k/\jb w wr/\dE Sg.id l k)
 ·exact⟨0,ed,ed,rfl,Nb _ _,fun i h h0=>by omega⟩
 obtain⟨k,I,rfl,rfl,hb,ho⟩:=hrel;obtain⟨z,rfl⟩: ∃z:aj,z=wr:=⟨_,rfl⟩;have HB:=hI hb;have A:=hI ho;clear hb ho;by_cases G9:k<l.length
 ·have j:=hI fun h=>C (JR G9 h);have r:=hI fun h1 h2=>JS G9 A h1 h2
  have q:bG (∀h':0<k,∃t:k-1<l.length,∀d,jb w d-> ∃b off,a=bt ⟨b,off,bn⟩/\jc d b (off+(k-1) * 3) l[k-1].id/\jc d b (off+(k-1) * 3+1) l[k-1].sec/\jc d b (off+(k-1) * 3+2) l[k-1].en):=fun h'=>⟨ed,fun d hb=>by
   exact(y _ hb).sg ed⟩
  obtain⟨b,off,rfl,x0,x1,x2⟩:=(y _ HB).sg G9;refine Qb fun _ _=>?_;have H:bG (∀W,jW 414 #[cZ #[l[k].id,l[k].sec,l[k].en]] W fun e d=>e=cL ↑l[k].id/\jb W d):=fun W=>KH _ _ _ W;generalize l[k].id=K at *;by_cases q1:K<1
  ·have HE:=hI (j Ef);go_wp2_with fail;refine(H _).mono ?_;rintro E w1 ⟨rfl,g9⟩;have K1:=hI ((HB.alloc HB.size _).trans (g9.mono (by have:=HB.size;simp;omega)));clear g9 H;go_wp2_with fail;go_ret;exact⟨aH HE.symm,K1⟩
  have s1:=jU q1;by_cases q2:99<K
  ·have HE:=hI (j Ef);go_wp2_with fail;refine(H _).mono ?_;rintro E w1 ⟨rfl,g9⟩;refine Vw fun K1=>?_;clear g9 H;go_wp2_with fail;go_ret;exact Qu
  have s2:=jU q2;rcases Tt k with p | p
  ·have F:ab (0<k)=aW:=em;have u:=hI (r ⟨ed,ed⟩ ju);clear p;go_wp2_with fail;refine(H _).mono ?_;rintro E w1 ⟨rfl,g9⟩;refine Vw fun K1=>?_;clear g9 H;go_wp2_with fail;go_roundg (l.length-(k+1))
   ·go_light;exact⟨k+1,ed,ed,ej,K1,u⟩
   go_light;omega
  obtain⟨t,s⟩:=q p;have v:=hI s;have i2:((k:ar)-1).toNat=k-1:=ed;clear s;go_wp2_with fail;refine(H _).mono ?_;rintro E w1 ⟨rfl,g9⟩;refine Vw fun K1=>?_;obtain⟨b2,O,e2,y0,y1,y2⟩:=v w1 K1;cases e2;have c:bG (∀W,jW 414 #[cZ #[l[k-1].id,l[k-1].sec,l[k-1].en]] W fun e d=>e=cL ↑l[k-1].id/\jb W d):=fun W=>KH _ _ _ W;clear g9 H;by_cases q3:K<=l[k-1].id
  ·have HE:=hI (j (fun h=>by have:=h.2 p;omega));go_wp2_with fail;refine(c _).mono ?_;rintro e1 w2 ⟨rfl,o⟩;have x:=jh K1 o;clear o c;refine ei ?_;exact⟨aH HE.symm,x⟩
  have s3:=jU q3;have u:=hI (r ⟨ed,ed⟩ ju);go_wp2_with fail;refine(c _).mono ?_;rintro e1 w2 ⟨rfl,o⟩;have x:=jh K1 o;clear o c;go_wp2_with fail;go_roundg (l.length-(k+1))
  ·go_light;exact⟨k+1,ed,ed,ej,x,u⟩
  go_light;omega
 obtain rfl:k=l.length:=ed;have HE:=hI (D A);refine ei ?_;exact⟨aH HE.symm,HB⟩
theorem nd (a:ax bR) (cap:av) (l:aq Rt) (M:ar) (w:aj) (hl:aB w 7 fH a cap l) (X:l.length<=1000):
  jW 299 #[js a l cap,M] w (bY w (ab (dE Rt.id l l/\(l:ar)<=M))):=by
 have D:bG (∀c,jb w c->aB c 7 fH a cap l):=fun c hb=>hl.below lS hb;clear hl;have J:bG (¬dE Rt.id l l->ab (dE Rt.id l l/\(l:ar)<=M)=aW):=fun h=>Mw fun h'=>h h'.1;have L:bG (dE Rt.id l l->ab (dE Rt.id l l/\(l:ar)<=M)=ab ((l:ar)<=M)):=fun h=>by simp[h]
 generalize ab (dE Rt.id l l/\(l:ar)<=M)=B at *;go_in;go_wp2_with fail;go_loopg [10] l.length (fun g i wr=> ∃k:av,k<=l.length/\g=l.length-k/\i= jV k/\jb w wr/\dE Rt.id l k)
 ·exact⟨0,ed,ed,rfl,Nb _ _,fun i h h0=>by omega⟩
 obtain⟨k,Y,rfl,rfl,hb,ho⟩:=hrel;obtain⟨G,rfl⟩: ∃G:aj,G=wr:=⟨_,rfl⟩;have HB:=hI hb;have I:=hI ho;clear hb ho;by_cases G9:k<l.length
 ·have j:=hI fun h=>J (JR G9 h);have r:=hI fun h1 h2=>JS G9 I h1 h2
  have q:bG (∀h':0<k,∃u:k-1<l.length,∀c,jb w c-> ∃b off p1 P s o1 o2 o3 f1 F,a=bt ⟨b,off,bn⟩/\jc c b (off+(k-1) * 7) l[k-1].id/\jc c b (off+(k-1) * 7+1) l[k-1].E/\jc c b (off+(k-1) * 7+2) l[k-1].X/\jc c b (off+(k-1) * 7+3) (js p1 P s)/\jc c b (off+(k-1) * 7+4) (js o1 o2 o3)/\jc c b (off+(k-1) * 7+5) (js f1 l[k-1].fl.length F)/\jc c b (off+(k-1) * 7+6) l[k-1].T):=fun h'=>⟨ed,fun c hb=>by
   obtain⟨b,off,N,R,U,e,x0,x1,x2,x3,x4,x5,x6,⟨p1,P,s,rfl,-⟩,⟨o1,o2,o3,rfl,-⟩,⟨f1,F,rfl,-⟩⟩:=(D _ hb).rt (show k-1<l.length by omega)
   exact⟨b,off,p1,P,s,o1,o2,o3,f1,F,e,x0,x1,x2,x3,x4,x5,x6⟩⟩
  obtain⟨b,off,N,R,U,rfl,x0,x1,x2,x3,x4,x5,x6,v⟩:=(D _ HB).rt G9;obtain⟨⟨p1,P,s,rfl,-⟩,⟨o1,o2,o3,rfl,-⟩,⟨f1,F,rfl,-⟩⟩:=v;refine Qb fun _ _=>?_;have H:bG (∀W,jW 372 #[cZ #[l[k].id,l[k].E,l[k].X,js p1 P s,js o1 o2 o3,js f1 l[k].fl.length F,l[k].T]] W fun e c=>e=cL ↑l[k].id/\jb W c):=fun W=>XH _ _ _ _ _ _ _ _ _ _ _ _ _ W;generalize l[k].id=K at *;by_cases Q:K<1
  ·have HE:=hI (j Ef);go_wp2_with fail;refine(H _).mono ?_;rintro E w1 ⟨rfl,g9⟩;have K1:=hI ((HB.alloc HB.size _).trans (g9.mono (by have:=HB.size;simp;omega)));clear g9 H;go_wp2_with fail;go_ret;exact⟨aH HE.symm,K1⟩
  have s1:=jU Q;by_cases x:99<K
  ·have HE:=hI (j Ef);go_wp2_with fail;refine(H _).mono ?_;rintro E w1 ⟨rfl,g9⟩;refine Vw fun K1=>?_;clear g9 H;go_wp2_with fail;go_ret;exact Qu
  have s2:=jU x;rcases Tt k with p | p
  ·have V:ab (0<k)=aW:=em;have y:=hI (r ⟨ed,ed⟩ ju);clear p;go_wp2_with fail;refine(H _).mono ?_;rintro E w1 ⟨rfl,g9⟩;refine Vw fun K1=>?_;clear g9 H;go_wp2_with fail;go_roundg (l.length-(k+1))
   ·go_light;exact⟨k+1,ed,ed,ej,K1,y⟩
   go_light;omega
  obtain⟨u,t⟩:=q p;have z:=hI t;have i2:((k:ar)-1).toNat=k-1:=ed;clear t;go_wp2_with fail;refine(H _).mono ?_;rintro E w1 ⟨rfl,g9⟩;refine Vw fun K1=>?_;obtain⟨b2,O,Q,x,A,r1,r2,r3,g1,g3,e2,y0,y1,y2,y3,y4,y5,y6⟩:=z w1 K1;cases e2;have d:bG (∀W,jW 372 #[cZ #[l[k-1].id,l[k-1].E,l[k-1].X,js Q x A,js r1 r2 r3,js g1 l[k-1].fl.length g3,l[k-1].T]] W fun e c=>e=cL ↑l[k-1].id/\jb W c):=fun W=>XH _ _ _ _ _ _ _ _ _ _ _ _ _ W;clear g9 H;by_cases A:K<=l[k-1].id
  ·have HE:=hI (j (fun h=>by have:=h.2 p;omega));go_wp2_with fail;refine(d _).mono ?_;rintro e1 w2 ⟨rfl,o⟩;have C:=jh K1 o;clear o d;refine ei ?_;exact⟨aH HE.symm,C⟩
  have s3:=jU A;have y:=hI (r ⟨ed,ed⟩ ju);go_wp2_with fail;refine(d _).mono ?_;rintro e1 w2 ⟨rfl,o⟩;have C:=jh K1 o;clear o d;go_wp2_with fail;go_roundg (l.length-(k+1))
  ·go_light;exact⟨k+1,ed,ed,ej,C,y⟩
  go_light;omega
 obtain rfl:k=l.length:=ed;have HE:=hI (L I);refine ei ?_;exact⟨aH HE.symm,HB⟩
def gI (cs:aL bw) (f:av->ar):Prop:=cs.size=100/\ ∀q,q<100->cs[q]? =bt (cW dr (f q))
def WO (cs:aL bw) (f:av->ar) (id:ar) (w:aj) (h:gI cs f):
  jW 379 #[cZ cs,id] w (bY w (ab (0<=id/\id<=99/\0<f id.toNat))):=by
 have a:=hI h;clear h;have H:bG (∀b,(b=bl↔(0<=id/\id<=99/\0<f id.toNat))->b=ab (0<=id/\id<=99/\0<f id.toNat)):=fun b hb=>Kx
 generalize ab (0<=id/\id<=99/\0<f id.toNat)=B at *;by_cases h1:0<=id/\id<=99
 ·obtain⟨n,rfl⟩:=Ds h1.1;have h0:n<100:=by omega
  have c:=a.2 n h0;have i1:(n:ar)<100:=ed
  go_in;refine ei ?_;exact⟨aH (H _ em),aR⟩
 by_cases h2:0<=id
 ·have t2:ab (id<=99)=aW:=em;clear h1;go_in;refine ei ?_;exact⟨aH (H _ (by simp at t2;simp;omega)),aR⟩
 have t1:=jU h2;clear h1;go_in;go_wp2_with fail;go_ret;exact⟨aH (H _ (by simp at t1;simp;omega)),aR⟩
def aM (W:aj) (g n:av) (T:bT) (f:av->ar):Prop:= ∃cur:aL bw,jk W g cur T/\cur.size=n/\ ∀q,q<n->cur[q]? =bt (cW dr (f q))
section
variable {W W':aj}{g n:av}{T:bT}{f:av->ar}
def aM.lt (h:aM W g n T f):g<W.heap.size:=by
 obtain⟨cur,H,-,-⟩:=h;rcases Pw g W with h | h
 ·exact h
 rw[Pc h]at H;cases H
def aM.cell (h:aM W g n T f){q:av}(hq:q<n):jc W g q (jV (f q)):=by
 exact Mo
def aM.frozen (h:aM W g n T f) (q:av):W.frozen? ⟨g,q,bn⟩=aW:=by
 obtain⟨cur,H,-,-⟩:=h;simp[aj.frozen?,H]
def aM.below (h:aM W g n T f) (hb:jb W W'):aM W' g n T f:=by
 exact Mb
def aM.set (h:aM W g n T f){q:av}(hq:q<n) (b:ar):aM (W.setCell ⟨g,q,bn⟩ (jV b)) g n T (fun i=>if i=q then b else f i):=by
 obtain⟨cur,hc,hz,hx⟩:=h;refine⟨cur.setIfInBounds q (jV b),Uq,Qh,fun i H=> ?_⟩;rw[Dz];by_cases A6:q=i
 ·subst A6;simp[hz,hq]
 rw[Nm A6];simp only[Nm Uv];exact hx i H
def aM.new (W:aj) (cs:aL bw) (T:bT) (H:cs.size=n) (hx: ∀q,q<n->cs[q]? =bt (cW dr 0)):aM (W.alloc (cO cs T)) W.heap.size n T (fun _=>0):=⟨cs,Nc W _,H,hx⟩
def aM.congr (h:aM W g n T f){F:av->ar}(he: ∀q,q<n->f q=F q):aM W g n T F:=by
 exact Rr
end
def zX:zeroCells168=aL.replicate 100 (cW dr 0):=by kernel_rfl
def JQ (q:av) (h:q<100):zeroCells168[q]? =bt (cW dr 0):=by rw[zX];simp[h]
def dQ (l:aq aF) (k:av) (q:av):ar:=match (l.take k).find? (fun s=>ab (s.id=(q:ar)))with | some s=>s.ends.length | none=>0
def nc (l:aq aF) (q:av):dQ l 0 q=0:=by unfold dQ;simp
def na {l:aq aF}(h:k<l.length) (a:wC l) (p:av) (b:l[k].id=(p:ar)) (q:av):(if q=p then(l[k].ends.length:ar)else dQ l k q)=dQ l (k+1) q:=by
 unfold dQ;have e:=Dc h;rw[e,Gz];by_cases hq:q=p
 ·subst hq;rw[Np rfl]
  have H:(l.take k).find? (fun s=>ab (s.id=(q:ar)))=bn:=by
   rw[Fq];intro x hx;obtain⟨i,c,rfl⟩:=No hx;rw[Dn]at c;rw[Tn];have:=a i k ed h ed;simp;omega
  rw[H];simp[b]
 rw[Nm hq]
 have H:[l[k]].find? (fun s=>ab (s.id=(q:ar)))=bn:=by
  rw[Fq];intro x hx;rw[Tv]at hx;subst hx;simp;omega
 rw[H];cases (l.take k).find? (fun s=>ab (s.id=(q:ar)))<;>rfl
def zW:(prog.info? 168).map (·.size)=bt 100:=by kernel_rfl
def mz (a:ax bR) (cap:av) (l:aq aF) (w:aj) (hl:aB w 3 cU a cap l) (F:l.length<=1000) (x:eR l l):
  jW 296 #[js a l cap] w fun e c=> ∃cs,e=cL (cZ cs)/\gI cs (dQ l l)/\jb w c:=by
 have B:bG (∀c,jb w c->aB c 3 cU a cap l):=fun c hb=>hl.below gN hb;have y:=hI x;clear hl x;go_in;go_wp2_with fail;have d:aM (w.alloc (cO zeroCells168 168)) w 100 168 (dQ l 0):=(aM.new w _ _ (by rw[zX];simp) JQ).congr fun q _=>(nc l q).symm;have r:=hI d;clear d;go_loopg [7] l.length (fun g i wr=> ∃k:av,k<=l.length/\g=l.length-k/\i= jV k/\jb w wr/\aM wr w 100 168 (dQ l k))
 ·exact⟨0,ed,ed,rfl,aR,r⟩
 obtain⟨k,G,rfl,rfl,hb,ho⟩:=hrel;obtain⟨z,rfl⟩: ∃z:aj,z=wr:=⟨_,rfl⟩;refine Qa fun o j=>?_;clear hb ho;by_cases G9:k<l.length
 ·obtain⟨b,off,I,J,rfl,x0,x1,x2,H⟩:=(B _ o).sec G9;refine Qb fun _ _=>?_;have L:=j.lt;have s:=(y k G9 G9).1
  have t:bG (∀W',aM W' w 100 168 (dQ l k)->aM (W'.setCell ⟨w,l[k].id.toNat,bn⟩ (jV (l[k].ends.length:ar))) w 100 168 (dQ l (k+1))):=fun W' h=>by
   refine(h.set (q:=l[k].id.toNat) ed _).congr fun q hq=> ?_;exact na G9 (JV y) l[k].id.toNat ed q
  have p0:(0:ar)<=l[k].id:=ed;have p1:l[k].id<100:=ed;have v2:=j.cell (q:=l[k].id.toNat) ed;have v3:=j.frozen l[k].id.toNat;clear H s;go_wp2_with fail;go_roundg (l.length-(k+1))
  ·go_light;exact⟨k+1,ed,ed,ej,(o.setCell ep _).alloc (o.setCell (p:=⟨w,l[k].id.toNat,bn⟩) ep (jV (l[k].ends.length:ar))).size _,(t _ j).below aR⟩
  go_light;omega
 obtain rfl:k=l.length:=ed;obtain⟨cur,A,u,hx⟩:=j.o;have C:=hI A;have D:bG (gI cur (dQ l l)):=⟨u,hx⟩;have E:=hI u;clear A u hx;go_wp2_with fail;exact Nh (v:=cZ cur) (Pb rfl _ _ _ _ _ _ _ rfl C underlying168 rfl (by rw[zW,E.o])) rfl ⟨cur,rfl,D,o⟩
def my:mD 377:=fun args w=>Uu
def mx (x:Pt) (g:av) (f:av->ar) (w:aj) (H:aM w g 100 168 f) (h1:1<=x.id) (h2:x.id<=99):
  jW 377 #[cZ #[x.id,x.sec],jp g 0] w (bY w (ab (x.sec=0\/f x.id.toNat≠x.sec))):=by
 obtain⟨id,sec⟩:=x;simp only[]at h1 h2 ⊢;obtain⟨n,rfl⟩:=Ds (show 0<=id by omega);have e:=H.cell (q:=n) ed;have hl:=H.lt;have d:w.heap.size≠g:=ed
 have c:bG (∀b,(b=bl↔(sec=0\/f n≠sec))->b=ab (sec=0\/f ((n:ar)).toNat≠sec)):=fun b hb=>Kx
 have i0:=aQ n
 have i1:(n:ar)<100:=ed
 generalize ab (sec=0\/f ((n:ar)).toNat≠sec)=B at *;generalize f n=v at *;clear H;by_cases h0:sec=0
 ·have e0:(sec==0)=bl:=by rw[Da];exact h0
  have a:=hI (c bl (by simp[h0]));clear h0;go_in;go_wp2_with fail;go_quiet (fail);refine ei ?_;exact⟨aH a,jP aR _⟩
 have e0:(sec==0)=aW:=by exact Ua
 have a:=hI (c (v != sec) (by simp[h0]));clear h0;go_in;go_wp2_with fail;go_quiet (fail);refine ei ?_;exact⟨aH a,jP aR _⟩
def mw {p:Pl}(b:eR p.S p.S) (a:dE Pt.id p.P p.P) (c:(p.P:ar)<=6):
  kH p↔(fZ p.S p.S=p.P.length/\p.P.any (fun x=>ab (x.sec=0\/kL p.S p.S x.id.toNat≠x.sec))=aW):=by
 unfold kH;rw[Gc]
 have key: ∀i (h:i<p.P.length),(∃s∈p.S,s.id=p.P[i].sec/\s.pt=p.P[i].id)↔ ¬(ab (p.P[i].sec=0\/kL p.S p.S p.P[i].id.toNat≠p.P[i].sec)=bl):=by
  intro i h;have d:=(a i h h).1;have:=sd b p.P[i].id.toNat ed p.P[i].sec;rw[show((p.P[i].id.toNat:av):ar)=p.P[i].id by omega]at this;rw[<-this];simp
 constructor
 ·rintro⟨_,h1,h2⟩;refine⟨h1,fun x hx=> ?_⟩;obtain⟨i,H,rfl⟩:=No hx;exact(key i H).1 (h2 i H)
 rintro⟨h1,h2⟩;exact⟨⟨a,c⟩,h1,fun i H=>(key i H).2 (h2 _ (Nn H))⟩
theorem mv (p:Pl) (s q g r:bw) (w:aj) (Q:bN w s q g r p) (hb:p.Fit) (ho:eR p.S p.S):
  jW 297 #[aT p s q g r] w (bY w (ab (kH p))):=by
 have a8:bG (∀a,jb w a->bN a s q g r p):=fun a H=>Q.below H;refine Qa fun _ F=>?_;obtain⟨⟨a1,k1,rfl,h1⟩,⟨a2,k2,rfl,h2⟩,⟨a3,c3,rfl,k3⟩,⟨a4,c4,rfl,k4⟩⟩:=Q;refine ZU fun X R=>?_;have Y:bG (ab (dE Pt.id p.P p.P/\(p.P:ar)<=6)=aW->ab (kH p)=aW):=fun h=>Mw fun h'=>(Ns.1 h) h'.1
 have Z:bG (ab (dE Pt.id p.P p.P/\(p.P:ar)<=6)=bl->(kH p↔(fZ p.S p.S=p.P.length/\p.P.any (fun x=>ab (x.sec=0\/kL p.S p.S x.id.toNat≠x.sec))=aW))):=fun h=>by
  have h:=Dj.1 h;exact mw ho h.1 h.2
 have G:bG (ab (dE Pt.id p.P p.P/\(p.P:ar)<=6)=bl->dE Pt.id p.P p.P):=fun h=>(Dj.1 h).1;have v:bG (∀b,(b=bl↔kH p)->ab (kH p)=b):=fun b H=>by rw[Dh,Dj];exact H.symm
 have a0:=hb.S;have hq:=hb.P;clear h1 h2 k3 k4 hb ho;unfold aT;generalize ab (kH p)=B at *;go_in;go_wp2_with fail;have K0:bG (jb w (w.alloc (cO #[p.ver,p.par,js a1 p.S k1,js a2 p.P k2,js a3 p.G c3,js a4 p.R c4] 28))):=aR;refine(nh a2 k2 p.P 6 _ (R _ K0) hq).mono ?_;refine Qe fun w1 d=>?_;have K1:=jh K0 d;have x0:jc w1 w 2 (js a1 p.S k1):=aP d ee;have f3:jc w1 w 3 (js a2 p.P k2):=aP d ee;clear d;cases hri:ab (dE Pt.id p.P p.P/\(p.P:ar)<=6)with
 | false=>
  have HE:=hI (Y hri);refine ei ?_;exact Qu
 | true=>
  have y:=hI (Z hri);have z:=hI (G hri);clear hri;refine Qv fun _=>?_;go_wp2_with fail;have b0:bG (jb w (w1.alloc (cO zeroCells168 168))):=K1.alloc (K1.size) _;have b1:=hI K1.o.size;have A:aM (w1.alloc (cO zeroCells168 168)) w1 100 168 (kL p.S 0):=(aM.new w1 _ _ (by rw[zX];simp) JQ).congr fun q _=>(si p.S q).symm;have I:=hI A;have H3:bG (∀W',jb w1 W'->jc W' w 3 (js a2 p.P k2)):=fun W' H=>aP H f3;clear A;have U:=a0;go_loopg [4,14] p.S.length (fun g m i wr=> ∃k:av,k<=p.S.length/\g=p.S.length-k/\i= jV k/\m= jV (fZ p.S k)/\jb w1 wr/\aM wr w1 100 168 (kL p.S k))
  ·exact⟨0,ed,ed,rfl,by rw[ml];rfl,aR,I⟩
  obtain⟨k,b2,rfl,rfl,rfl,H,V⟩:=hrel;obtain⟨J,rfl⟩: ∃J:aj,J=wr:=⟨_,rfl⟩;have C:=hI H;have j:=jh K1 H;have u:=hI V;clear H V;by_cases G9:k<p.S.length
  ·have K:=bL G9;obtain⟨b,off,b3,b4,rfl,x1,b5,x2,L⟩:=(X _ j).sec G9;refine Qb fun _ _=>?_;have l2:=My _ _ x1;have b6:=u.lt;have o:=(F k G9 G9).1;have l:=mj G9;have M:=EH p.S k;have H0:=hI F.o;rcases o.2.2 with⟨hz,-⟩ | ⟨a5,a6,-⟩
   ·have t0:ab ((0:ar)<p.S[k].pt)=aW:=em;have t:bG (∀W',aM W' w1 100 168 (kL p.S k)->aM W' w1 100 168 (kL p.S (k+1))):=fun W' h=>h.congr fun q _=>sf G9 ed q;have HV:bG (fZ p.S (k+1)=fZ p.S k):=(by rw[l,Nm ed];rfl);clear l o hz;generalize fZ p.S k=c at *;go_wp2_with fail;go_roundg (p.S.length-(k+1))
    ·go_light;exact⟨k+1,ed,ed,ej,Oi,C.alloc C.size _,(t _ u).below aR⟩
    go_light;omega
   have t0:ab ((0:ar)<p.S[k].pt)=bl:=by simp;omega
   have t:bG (∀W',aM W' w1 100 168 (kL p.S k)->aM (W'.setCell ⟨w1,p.S[k].pt.toNat,bn⟩ ↑p.S[k].id) w1 100 168 (kL p.S (k+1))):=fun W' h=>by
    refine(h.set (q:=p.S[k].pt.toNat) ed _).congr fun q hq=> ?_;exact se G9 F p.S[k].pt.toNat ed ed q
   have HV:bG (fZ p.S (k+1)=fZ p.S k+1):=(by rw[l,Np ed];rfl);have p0:(0:ar)<=p.S[k].pt:=ed;have p1:p.S[k].pt<100:=ed;have v2:=u.cell (q:=p.S[k].pt.toNat) ed;have v3:=u.frozen p.S[k].pt.toNat;clear l o;generalize fZ p.S k=c at *;go_wp2_with fail;go_roundg (p.S.length-(k+1))
   ·go_light;exact⟨k+1,ed,ed,ej,by rw[HV.o];go_num,(C.setCell ep _).alloc (C.setCell (p:=⟨w1,p.S[k].pt.toNat,bn⟩) ep ↑p.S[k].id).size _,(t _ u).below aR⟩
   go_light;omega
  obtain rfl:k=p.S.length:=ed;have K:=bZ G9;have f0:=H3 _ C;have M:=EH p.S p.S;by_cases D:fZ p.S p.S=p.P.length
  ·have N:=hI (R _ j)
   have O:bG (zZ 377 #[jp w1 0] (fun x=>ab (x.sec=0\/kL p.S p.S x.id.toNat≠x.sec)) p.P J):=fun W i h H=>
    mx p.P[i] _ _ W (u.below H) (z i h h).1.1 (z i h h).1.2
   have P:bG (B= !(p.P.any (fun x=>ab (x.sec=0\/kL p.S p.S x.id.toNat≠x.sec)))):=v _ (by rw[y.o];simp[D]);rw[D]at *;clear D;generalize(fun x:Pt=>ab (x.sec=0\/kL p.S p.S x.id.toNat≠x.sec))=pr at *;go_wp2_with fail;refine(nl 377 #[jp w1 0] pr a2 k2 p.P _ N hq my O).mono ?_;rintro e w2 ⟨rfl,E⟩;have a7:=jh j E;clear E;generalize p.P.any pr=c at *;refine ei ?_;exact⟨aH P.symm,a7⟩
  have e0:((fZ p.S p.S:ar)==(p.P:ar))=aW:=Ov;have P:=hI (v aW (by rw[y.o];simp[D]));clear D;generalize fZ p.S p.S=c at *;refine ei ?_;exact⟨aH P.symm,j⟩
def aC (W:aj) (g n:av) (T:bT) (f:av->aU):Prop:= ∃cur:aL bw,jk W g cur T/\cur.size=n/\ ∀q,q<n->cur[q]? =bt (db (f q))
section
variable {W W':aj}{g n:av}{T:bT}{f:av->aU}
def aC.lt (h:aC W g n T f):g<W.heap.size:=by
 obtain⟨cur,H,-,-⟩:=h;rcases Pw g W with h | h
 ·exact h
 rw[Pc h]at H;cases H
def aC.cell (h:aC W g n T f){q:av}(hq:q<n):jc W g q (db (f q)):=by
 exact Mo
def aC.frozen (h:aC W g n T f) (q:av):W.frozen? ⟨g,q,bn⟩=aW:=by
 obtain⟨cur,H,-,-⟩:=h;simp[aj.frozen?,H]
def aC.below (h:aC W g n T f) (hb:jb W W'):aC W' g n T f:=by
 exact Mb
def aC.set (h:aC W g n T f){q:av}(hq:q<n) (b:aU):aC (W.setCell ⟨g,q,bn⟩ (db b)) g n T (fun i=>if i=q then b else f i):=by
 obtain⟨cur,hc,hz,hx⟩:=h;refine⟨cur.setIfInBounds q (db b),Uq,Qh,fun i H=> ?_⟩;rw[Dz];by_cases A6:q=i
 ·subst A6;simp[hz,hq]
 rw[Nm A6];simp only[Nm Uv];exact hx i H
def aC.new (W:aj) (cs:aL bw) (T:bT) (H:cs.size=n) (hx: ∀q,q<n->cs[q]? =bt (db aW)):aC (W.alloc (cO cs T)) W n T (fun _=>aW):=⟨cs,Nc W _,H,hx⟩
def aC.congr (h:aC W g n T f){F:av->aU}(he: ∀q,q<n->f q=F q):aC W g n T F:=by
 exact Rr
end
def uZ (w:aj) (n:ar) (e:Ending) (w':aj):Prop:=e=cL (jV n)/\jb w w'
def oZ (l:aq aF) (k:av) (q:av):aU:=ab (0<q/\ ∃m,∃h:m<l.length,m<k/\l[m].pt=(q:ar))
def wQ:zeroCells279=aL.replicate 100 (db aW):=by kernel_rfl
def DE (q:av) (h:q<100):zeroCells279[q]? =bt (db aW):=by rw[wQ];simp[h]
def pd (l:aq aF) (q:av):oZ l 0 q=aW:=Mw fun h=>by obtain⟨_,m,_,h2,_⟩:=h;omega
def pb {l:aq aF}(h:k<l.length) (p:av) (a:l[k].pt=(p:ar)) (q:av):(if q=p then ab (0<p)else oZ l k q)=oZ l (k+1) q:=by
 unfold oZ;by_cases hq:q=p
 ·subst hq;rw[Np rfl];apply Ss.2;exact⟨fun h1=>⟨h1,k,h,ed,a⟩,fun h1=>h1.1⟩
 rw[Nm hq];apply Ss.2;constructor
 ·rintro⟨h1,m,H,h2,h3⟩;exact⟨h1,m,H,ed,h3⟩
 rintro⟨h1,m,H,h2,h3⟩;refine⟨h1,m,H,?_,h3⟩;by_cases e:m=k
 ·subst e;rw[a]at h3;omega
 omega
def JP (l:aq aF) (k:av) (h:k<l.length):Prop:=
 (ab (1<=l[k].id)&&ab (l[k].id<=99))=aW\/
 ((ab (1<=l[k].id)&&ab (l[k].id<=99))=bl/\decide l[k].Shaped=aW)\/
 ((ab (1<=l[k].id)&&ab (l[k].id<=99))=bl/\decide l[k].Shaped=bl/\ ∃h':0<k,l[k].id<=l[k-1].id)\/
 ((ab (1<=l[k].id)&&ab (l[k].id<=99))=bl/\decide l[k].Shaped=bl/\(∀h':0<k,l[k-1].id<l[k].id)/\oZ l k l[k].pt.toNat=bl)
def JO (l:aq aF) (k:av) (h:k<l.length):Prop:=
 (ab (1<=l[k].id)&&ab (l[k].id<=99))=bl/\decide l[k].Shaped=bl/\(∀h':0<k,l[k-1].id<l[k].id)/\oZ l k l[k].pt.toNat=aW
def zV {s:aF}(h:s.Shaped):0<=s.pt/\s.pt<=99:=by
 rcases h with⟨h,_⟩ | ⟨h1,h2,_⟩
 ·omega
 omega
def oz (l:aq aF) (k:av) (h:k<l.length):JO l k h\/JP l k h:=by
 unfold JO JP;cases h1:(ab (1<=l[k].id)&&ab (l[k].id<=99))with
 | false=>right;left;rfl
 | true=>
  cases h2:decide l[k].Shaped with
  | false=>right;right;left;exact⟨rfl,rfl⟩
  | true=>
   by_cases h3: ∃h':0<k,l[k].id<=l[k-1].id
   ·right;right;right;left;exact⟨rfl,rfl,h3⟩
   have h3: ∀h':0<k,l[k-1].id<l[k].id:=fun h'=>by
    rcases ar.lt_or_le l[k-1].id l[k].id with h | h
    ·exact h
    exact cv ⟨h',h⟩ h3
   cases h4:oZ l k l[k].pt.toNat with
   | false=>left;exact⟨rfl,rfl,h3,rfl⟩
   | true=>right;right;right;right;exact⟨rfl,rfl,h3,rfl⟩
def oy {l:aq aF}(h:k<l.length) (H:eR l k) (b:JO l k h):eR l (k+1):=by
 obtain⟨h1,h2,h3,h4⟩:=b;rw[Dt,Dj,Dj]at h1;have a:l[k].Shaped:=by simpa using h2
 have c:=zV a;refine ky h H ⟨h1.1,h1.2,a⟩ fun j hj _=>⟨?_,fun hz e=> ?_⟩
 ·have h5:=h3 ed;by_cases e:j=k-1
  ·subst e;exact h5
  have:=((H (k-1) ed ed).2 j ed).1;omega
 unfold oZ at h4;rw[Ns]at h4;exact h4 ⟨ed,j,ed,hj,by rw[e];omega⟩
def ox {l:aq aF}(h:k<l.length) (H:JP l k h): ¬eR l l:=by
 intro b;obtain⟨⟨h1,h2,h3⟩,h4⟩:=b k h h;rcases H with H | ⟨_,H⟩ | ⟨_,_,h',H⟩ | ⟨_,_,_,H⟩
 ·rw[aU.and_eq_false_iff,Ns,Ns]at H;omega
 ·exact(Ns.1 H) h3
 ·have:=(h4 (k-1) ed).1;omega
 unfold oZ at H;rw[Dj]at H;obtain⟨h5,m,c,a,h6⟩:=H;have d:=zV h3;exact(h4 m a).2 ed (by rw[h6];omega)
theorem ow (a:ax bR) (cap:av) (l:aq aF) (w:aj) (hl:aB w 3 cU a cap l) (d7:l.length<=1000) (Z: ∀i (h:i<l.length),l[i].ends.length<=8796093022208):
  jW 295 #[js a l cap] w (uZ w (if kM l then 0 else 8)):=by
 have a0:bG (∀C,jb w C->aB C 3 cU a cap l):=fun C hb=>hl.below gN hb;have H0:=hI Z;clear hl Z;have H6:bG (¬l.length<=16->(if kM l then(0:ar)else 8)=8):=fun h=>Nm fun h'=>h h'.1;have H7:bG (¬eR l l->(if kM l then(0:ar)else 8)=8):=fun h=>Nm fun h'=>h h'.2.1;have H8:bG (¬pA l l->(if kM l then(0:ar)else 8)=8):=fun h=>Nm fun h'=>h h'.2.2;have d8:bG (l.length<=16->eR l l->pA l l->(if kM l then(0:ar)else 8)=0):=fun h0 h1 h2=>Np ⟨h0,h1,h2⟩;generalize(if kM l then(0:ar)else 8)=E at *;by_cases c4:16<l.length
 ·have hd:ab ((16:ar)<(l:ar))=bl:=by simp;omega
  have HE:=hI (H6 ed);go_in;refine ei ?_;exact⟨dU HE.symm,Nb _ _⟩
 have hd:ab ((16:ar)<(l:ar))=aW:=by simp;omega
 have h16:l.length<=16:=ed
 go_in;go_wp2_with fail;have a1:aC (w.alloc (cO zeroCells279 279)) w 100 279 (oZ l 0):=(aC.new w _ _ (by rw[wQ];simp) DE).congr fun q _=>(pd l q).symm;have H9:=hI a1;clear a1;go_loopg [18] l.length (fun g i wr=> ∃k:av,k<=l.length/\g=l.length-k/\i= jV k/\jb w wr/\eR l k/\aC wr w 100 279 (oZ l k))
 ·exact⟨0,ed,ed,rfl,aR,fun i h h0=>by omega,H9⟩
 obtain⟨k,f2,rfl,rfl,hb,ho,c5⟩:=hrel;obtain⟨I,rfl⟩: ∃I:aj,I=wr:=⟨_,rfl⟩;refine Qa fun b4 b5=>?_;have c6:=hI c5;clear hb ho c5;by_cases G9:k<l.length
 ·have L:=bL G9;obtain⟨b,off,V,X,rfl,x0,x1,x2,c⟩:=(a0 _ b4).sec G9;refine Qb fun d9 e0=>?_;refine Qv fun l1=>?_;go_wp2_with fail;generalize i5:I.alloc (cO #[l[k].id,l[k].pt,js V l[k].ends.length X] 80)=W;have M:=jG i5;have K0:=jh b4 M;have b6:bG (jc W I 1 l[k].pt):=Xy;have b2:=Ng (show jc W I 0 l[k].id by rw[<-i5];simp);have y1:=Ng (show jc W I 1 l[k].pt by rw[<-i5];simp);have y2:=Ng (show jc W I 2 (js V l[k].ends.length X) by rw[<-i5];simp);have A:=hI (c6.below M);have cS:bG (∀d os,jW 374 #[cZ #[l[k].id,l[k].pt,js V l[k].ends.length X]] (grow (cF W d) os) fun e N=>e=cL (db (decide l[k].Shaped))/\ ∃p:Regrown,N=grow (cF W p.d) p.os):=fun d os=>Ps (DG l[k] V X _);have cN:bG (∀d os,jW 373 #[l[k].id] (grow (cF W d) os) fun e N=>e=cL (db (ab (1<=l[k].id)&&ab (l[k].id<=99)))/\ ∃p:Regrown,N=grow (cF W p.d) p.os):=fun d os=>(wD l[k].id _).mono fun e C ⟨h1,h2⟩=>⟨h1,⟨d,os⟩,h2.symm⟩
  have b7:bG (∀h':0<k,∃O:k-1<l.length,∀d os,jc (grow (cF W d) os) b (off+(k-1) * 3) l[k-1].id):=fun h'=>⟨ed,by
   obtain⟨f3,o0,_,_,e,z0,-⟩:=(a0 _ K0).sec (show k-1<l.length by omega);cases e
   exact Ng z0⟩
  clear i5 c x0 x1 x2 M;rcases oz l k G9 with b8 | D
  ·have c7:=hI (oy G9 b5 b8)
   have H1:bG (∀W',aC W' w 100 279 (oZ l k)->aC (W'.setCell ⟨w,l[k].pt.toNat,bn⟩ (db (ab (0<l[k].pt)))) w 100 279 (oZ l (k+1))):=fun W' h=>by
    have s:l[k].Shaped:=(by simpa using b8.2.1);have hp:=zV s;refine(h.set (q:=l[k].pt.toNat) ed _).congr fun q hq=> ?_;have:=pb G9 l[k].pt.toNat ed q;rw[<-this];by_cases e:q=l[k].pt.toNat
    ·rw[Np e,Np e];apply Ss.2;omega
    rw[Nm e,Nm e]
   have y0:=b6.o;obtain⟨h1,h2,h3,h4⟩:=b8;have s:l[k].Shaped:=(by simpa using h2);have hp:=zV s;have p0:=hp.1;have p1:l[k].pt<100:=XS;have r0:=Ng (A.cell (q:=l[k].pt.toNat) ed);rw[h4]at r0;rw[h1]at cN;rw[h2]at cS;clear h1 h2 h4 s hp;rcases Tt k with o | o
   ·have t0:ab ((0:ar)<(k:ar))=aW:=em;have t2:ab (0<k)=aW:=em;clear o h3;refine Mz ef ef ?_
    repeat (go_big_quiet_step (first | (with_reducible exact cN.o _ _) | (with_reducible exact cS.o _ _)))
    refine cl ?_;rintro _ ⟨⟨dq,osq⟩,rfl⟩;have H:=Nr W dq osq;generalize grow (cF W dq) osq=W2 at *;have K2:=jh K0 H;have t:=hI (A.below H);have v1:=aP H y0;have v2:=t.cell (q:=l[k].pt.toNat) ed;have v3:=t.frozen l[k].pt.toNat;clear H b2 y1 y2 r0 cN cS;go_wp2_with fail;go_roundg (l.length-(k+1))
    ·go_light;exact⟨k+1,ed,ed,ej,K2.setCell ee _,c7,H1 _ t⟩
    go_light;omega
   obtain⟨O,z0⟩:=b7 o;have t0:ab ((0:ar)<(k:ar))=bl:=em;have t1:ab (l[k].id<=l[k-1].id)=aW:=(by have:=h3 o;simp;omega);have i0:(0:ar)<=(k:ar)-1:=ed;have i1:(k:ar)-1<(l:ar):=ed;have i2:((k:ar)-1).toNat=k-1:=ed;clear h3;refine Mz ef ef ?_
   repeat (go_big_quiet_step (first | (with_reducible exact cN.o _ _) | (with_reducible exact cS.o _ _)))
   refine cl ?_;rintro _ ⟨⟨dq,osq⟩,rfl⟩;have H:=Nr W dq osq;generalize grow (cF W dq) osq=W2 at *;have K2:=jh K0 H;have t:=hI (A.below H);have v1:=aP H y0;have v2:=t.cell (q:=l[k].pt.toNat) ed;have v3:=t.frozen l[k].pt.toNat;clear H b2 y1 y2 r0 cN cS;go_wp2_with fail;go_roundg (l.length-(k+1))
   ·go_light;exact⟨k+1,ed,ed,ej,K2.setCell ee _,c7,H1 _ t⟩
   go_light;omega
  have HE:=hI (H7 (ox G9 D));rcases D with h1 | ⟨h1,h2⟩ | ⟨h1,h2,h',h3⟩ | ⟨h1,h2,h3,h4⟩
  ·rw[h1]at cN;clear h1;refine Mz ef ef ?_
   repeat (go_big_quiet_step (first | (with_reducible exact cN.o _ _) | (with_reducible exact cS.o _ _)))
   refine cl ?_;rintro _ ⟨⟨dq,osq⟩,rfl⟩;refine ei ?_;exact Xf
  ·rw[h1]at cN;rw[h2]at cS;clear h1 h2;refine Mz ef ef ?_
   repeat (go_big_quiet_step (first | (with_reducible exact cN.o _ _) | (with_reducible exact cS.o _ _)))
   refine cl ?_;rintro _ ⟨⟨dq,osq⟩,rfl⟩;refine ei ?_;exact Xf
  ·rw[h1]at cN;rw[h2]at cS;obtain⟨O,z0⟩:=b7 h';have t0:ab ((0:ar)<(k:ar))=bl:=em;have t1:ab (l[k].id<=l[k-1].id)=bl:=(by simpa using h3);have i0:(0:ar)<=(k:ar)-1:=ed;have i1:(k:ar)-1<(l:ar):=ed;have i2:((k:ar)-1).toNat=k-1:=ed;clear h1 h2 h3;refine Mz ef ef ?_
   repeat (go_big_quiet_step (first | (with_reducible exact cN.o _ _) | (with_reducible exact cS.o _ _)))
   refine cl ?_;rintro _ ⟨⟨dq,osq⟩,rfl⟩;refine ei ?_;exact Xf
  have s:l[k].Shaped:=(by simpa using h2);have hp:=zV s;have p0:=hp.1;have p1:l[k].pt<100:=XS;have r0:=Ng (A.cell (q:=l[k].pt.toNat) ed);rw[h4]at r0;rw[h1]at cN;rw[h2]at cS;clear h1 h2 h4 s hp;rcases Tt k with o | o
  ·have t0:ab ((0:ar)<(k:ar))=aW:=em;have t2:ab (0<k)=aW:=em;clear o h3;refine Mz ef ef ?_
   repeat (go_big_quiet_step (first | (with_reducible exact cN.o _ _) | (with_reducible exact cS.o _ _)))
   refine cl ?_;rintro _ ⟨⟨dq,osq⟩,rfl⟩;refine ei ?_;exact Xf
  obtain⟨O,z0⟩:=b7 o;have t0:ab ((0:ar)<(k:ar))=bl:=em;have t1:ab (l[k].id<=l[k-1].id)=aW:=(by have:=h3 o;simp;omega);have i0:(0:ar)<=(k:ar)-1:=ed;have i1:(k:ar)-1<(l:ar):=ed;have i2:((k:ar)-1).toNat=k-1:=ed;clear h3;refine Mz ef ef ?_
  repeat (go_big_quiet_step (first | (with_reducible exact cN.o _ _) | (with_reducible exact cS.o _ _)))
  refine cl ?_;rintro _ ⟨⟨dq,osq⟩,rfl⟩;go_wp2_with fail;go_ret;exact Xf
 obtain rfl:k=l.length:=ed;have L:=bZ G9;have c8:=hI (JV b5);clear c6;go_wp2_with fail;go_loopg [62] l.length (fun g i a2=> ∃k:av,k<=l.length/\g=l.length-k/\i= jV k/\jb w a2/\pA l k)
 ·exact⟨0,ed,ed,rfl,b4,fun i h h0=>by omega⟩
 obtain⟨k,e1,rfl,rfl,H,a3⟩:=hrel;obtain⟨a2,rfl⟩: ∃a2:aj,a2=wr:=⟨_,rfl⟩;have K1:=hI H;have H2:=hI a3;clear H a3;by_cases G9:k<l.length
 ·have L:=bL G9;have d9:=aQ k;have e0:=aN G9;have e2:=H0 k G9;obtain⟨b,off,V,X,rfl,u0,u1,u2,a4⟩:=(a0 _ Qy).sec G9;have b9:bG (∀C,jb w C->aB C 2 fI V X l[k].ends):=fun C h=>a4.below lB h;have x0:=aP K1 u0;have x1:=aP K1 u1;have x2:=aP K1 u2;clear u0 u1 u2 a4;have l1:=My _ _ x0;go_wp2_with fail;go_loopg [69] l[k].ends.length (fun g i z=> ∃m:av,m<=l[k].ends.length/\g=l[k].ends.length-m/\i= jV m/\jb w z/\zY l k G9 m/\jc z a2 0 l[k].id)
  ·exact⟨0,ed,ed,rfl,K1.alloc K1.size _,fun j hj h0=>by omega,ee⟩
  obtain⟨m,c9,rfl,rfl,a5,a6,B⟩:=hrel;obtain⟨z,rfl⟩: ∃z:aj,z=wr:=⟨_,rfl⟩;have u:=hI a5;have H3:=hI a6;clear a5 a6 x0 x1 x2;have l2:=My _ _ B;by_cases y:m<l[k].ends.length
  ·have c0:=bL y;obtain⟨f4,o1,rfl,b2,y1⟩:=(b9 _ u).jn y;have l3:=My _ _ b2;have m0:=aQ m;have m1:=aN y;have r:=hI fun h=>H8 (kw G9 y h)
   have F:bG (mU l l[k] m l[k].ends[m]->zY l k G9 (m+1)):=fun h e he e3=>by
    by_cases h':e=m
    ·subst h';exact h
    exact H3 e he ed
   have c1:bG ((∀i (h:i<l.length),ab (l[i].id=l[k].ends[m].tt)=aW)-> ¬(l[k].ends[m].tt=0/\l[k].ends[m].en=0)-> ¬mU l l[k] m l[k].ends[m]):=fun h1 h2=>me h1 h2;have c2:bG (∀K (h2:K<l.length),l[K].id=l[k].ends[m].tt-> ¬(l[k].ends[m].tt=0/\l[k].ends[m].en=0)->(mU l l[k] m l[k].ends[m]↔(¬(l[k].ends[m].tt=l[k].id/\l[k].ends[m].en=m)/\0<=l[k].ends[m].en/\l[K].ends[l[k].ends[m].en.toNat]? =bt ⟨l[k].id,m⟩))):=fun K h2 h3 h4=>XE c8 h2 h3 h4;have c3:bG ((l[k].ends[m].tt=0/\l[k].ends[m].en=0)->mU l l[k] m l[k].ends[m]):=fun h=> .inl h;generalize mU l l[k] m l[k].ends[m]=Q at *;generalize l[k].ends[m].tt=jt at *;generalize l[k].ends[m].en=J at *;generalize a7:l[k].id=sid at *;have e4:=hI a7;clear a7;generalize l[k].ends.length=d2 at *;by_cases hz:jt=0/\J=0
   ·have a8:=hI (F (c3 hz));have e5: ∀w,Sem.run prog (binOp .eql 133 (cZ #[jt,J]) (cZ #[jV 0,jV 0])) w= .ok (db bl) w:=fun w=>by rw[AA,Ni hz]
    clear hz;go_wp2_with fail;go_roundg (d2-(m+1))
    ·go_light;exact⟨m+1,ed,ed,ej,u.alloc u.size _,a8,(Ht _ _ _ l2).trans B⟩
    go_light;omega
   have e5: ∀w,Sem.run prog (binOp .eql 133 (cZ #[jt,J]) (cZ #[jV 0,jV 0])) w= .ok (db aW) w:=fun w=>by rw[AA,Mw hz]
   have d3:=hI hz;clear hz;go_wp2_with fail;have d4:bG (jb w ((z.alloc (cO #[jt,J] 133)).alloc (cO #[sid,jV (m:ar)] 133))):=(u.alloc u.size _).alloc (by have:=u.size;simp;omega) _;refine(nw _ cap l jt _ (a0 _ d4) d7 c8).mono ?_;refine Ou fun w1 K bb a9 v=>?_;have P:=jh d4 v;have f6:jc w1 z 0 jt:=aP v ee;have f1:jc w1 z 1 J:=aP v ee;have g0:jc w1 (z+1) 0 sid:=aP v ee;have g1:jc w1 (z+1) 1 (jV (m:ar)):=aP v ee;have s0:=aP v ((Ht _ _ _ em).trans ((Ht _ _ _ l2).trans B));have H4:=hI a9;clear v a9 B;cases bb with
   | false=>
    have HE:=hI (r (c1 (fun i h=>Mw (H4.2.2 rfl i h)) d3));go_wp2_with fail;go_quiet (fail);go_wp2_with fail;go_ret;exact⟨dU HE.symm,jP P _⟩
   | true=>
    obtain⟨x,G⟩:=H4.2.1 rfl;have b3:=hI (c2 K x G d3);obtain⟨f7,o2,f8,f9,e6,x0,x1,x2,c⟩:=(a0 _ P).sec x;cases e6;have H5:=hI c;have e7:=H0 K x;have d0:=aQ K;have d1:=aN x;clear c G;generalize l[K].ends=R at *;by_cases Y:jt=sid/\J=(m:ar)
    ·have HE:=hI (r (fun h=>(b3.1 h).1 Y));have e8: ∀w,Sem.run prog (binOp .eql 133 (cZ #[jt,J]) (cZ #[sid,jV (m:ar)])) w= .ok (db bl) w:=fun w=>by rw[AA,Ni Y]
     clear Y;go_wp2_with fail;go_quiet (fail);go_wp2_with fail;go_ret;exact⟨dU HE.symm,jP P _⟩
    have e8: ∀w,Sem.run prog (binOp .eql 133 (cZ #[jt,J]) (cZ #[sid,jV (m:ar)])) w= .ok (db aW) w:=fun w=>by rw[AA,Mw Y]
    have e9:=hI Y;clear Y;by_cases d5:J<0
    ·have t1:=jT d5;have HE:=hI (r (fun h=>by have:=(b3.1 h).2.1;omega));go_wp2_with fail;go_quiet (fail);go_wp2_with fail;go_ret;exact⟨dU HE.symm,jP P _⟩
    have t1:=jU d5;by_cases b0:(R:ar)<=J
    ·have f0:=jT b0;have HE:=hI (r (fun h=>by have:=(b3.1 h).2.2;rw[Px ed]at this;simp at this));go_wp2_with fail;go_quiet (fail);refine ei ?_;exact⟨dU HE.symm,jP P _⟩
    have f0:=jU b0;obtain⟨n,rfl⟩:=Ds (by omega:0<=J);have U:n<R.length:=ed;obtain⟨g2,o4,rfl,z0,z1⟩:=H5.jn U;have n0:=aQ n;have n1:=aN U
    have d6:bG (Q↔(R[n].tt=sid/\R[n].en=(m:ar))):=by
     show _↔_;rw[b3.o];simp only[Sc,Nf U,Ic];constructor
     ·rintro⟨-,-,h⟩;rw[h];exact⟨rfl,rfl⟩
     rintro⟨h1,h2⟩;refine⟨e9,ed,?_⟩;cases hx:R[n]with
     | mk t0 t1=>rw[hx]at h1 h2;simp only[]at h1 h2;rw[h1,h2]
    generalize R[n].tt=q0 at *;generalize R[n].en=q1 at *;by_cases hq:q0=sid/\q1=(m:ar)
    ·have a8:=hI (F (d6.2 hq));have en: ∀w,Sem.run prog (binOp .neq 133 (cZ #[q0,q1]) (cZ #[sid,jV (m:ar)])) w= .ok (db aW) w:=fun w=>by rw[XI,Ni hq];rfl
     clear hq;go_wp2_with fail;go_quiet (fail);go_wp2_with fail;go_roundg (d2-(m+1))
     ·go_light;exact⟨m+1,ed,ed,ej,jP P _,a8,s0⟩
     go_light;omega
    have HE:=hI (r (fun h=>hq (d6.1 h)));have en: ∀w,Sem.run prog (binOp .neq 133 (cZ #[q0,q1]) (cZ #[sid,jV (m:ar)])) w= .ok (db bl) w:=fun w=>by rw[XI,Mw hq];rfl
    clear hq;go_wp2_with fail;go_quiet (fail);refine ei ?_;exact⟨dU HE.symm,jP P _⟩
  have b1:m=l[k].ends.length:=ed;have a8:=hI (kx G9 H2 (by rw[<-b1];exact H3));have c0:=bZ y;clear b1;go_wp2_with fail;go_roundg (l.length-(k+1))
  ·go_light;exact⟨k+1,ed,ed,ej,u,a8⟩
  go_light;omega
 obtain rfl:k=l.length:=ed;have L:=bZ G9;have HE:=hI (d8 h16 b5 H2);refine ei ?_;exact Uk
def JM {C:aj->Prop}{K:Act->Prop}(ty:bT) (x:Operand) (h:o.op= .load ty x) (g:av) (hx:a.eval x=cY (bt ⟨g,0,bn⟩)) (cs:aL bw)
  (H: ∀w,C w-> ∃t fr,w.heap[g]? =bt (cO cs t fr)) (d:TypeDesc) (b:P.underlying ty=bt d) (hd:(match d with | .struct _ | .array _ _=>bl | _=>aW)=bl) (c:(P.info? ty).map (·.size)=bt cs.size)
  (e:K (a.put o.dst (cZ cs))):o.quiet P a C K:=
 ⟨_,fun w i=>by
  obtain⟨t,fr,j⟩:=H w i;unfold Oper.quietAt execOp;simp only[h,hx,Instr.loadAt,Instr.sureAddr,Sn,Ty,So,Iq w g t ty cs fr d j b hd c]
  exact⟨rfl,rfl⟩,e⟩
def WK:zeroCells442=aL.replicate 300 (db aW):=by kernel_rfl
def ou (q:av) (h:q<300):zeroCells442[q]? =bt (db aW):=by rw[WK];simp[h]
theorem ot (p:Pl) (s q g r:bw) (cs:aL bw) (f:av->ar) (w:aj) (a4:bN w s q g r p) (a0:p.Fit) (E:gI cs f) (h3: ∀q,f q<=3):
  jW 298 #[aT p s q g r,cZ cs] w (bY w (ab (lV f p.G))):=by
 have c:=hI E;have H3:=hI h3;obtain⟨⟨b3,c1,rfl,k1⟩,⟨b4,c2,rfl,k2⟩,⟨a3,c3,rfl,k3⟩,⟨b5,c4,rfl,k4⟩⟩:=a4;refine El fun a1=>?_;have a5:bG (ab (dE Sg.id p.G p.G/\(p.G:ar)<=10)=aW->ab (lV f p.G)=aW):=fun h=>Mw fun h'=>(Ns.1 h) h'.1
 have a6:bG (ab (dE Sg.id p.G p.G/\(p.G:ar)<=10)=bl->(lV f p.G↔rD f p.G p.G)):=fun h=>by
  have h:=Dj.1 h;exact⟨fun x=>x.2,fun x=>⟨h,x⟩⟩
 have u:bG (∀b,(b=bl↔lV f p.G)->ab (lV f p.G)=b):=fun b j=>by rw[Dh,Dj];exact j.symm
 have a7:=a0.G;clear k1 k2 k3 k4 a0 E h3;unfold aT;generalize ab (lV f p.G)=B at *;go_in;go_wp2_with fail;generalize hW:(w.alloc _).alloc _=W;have K0:=hI (eN hW)
 have hz:W.heap.size=w.heap.size+2:=Qc
 have G4:jc W w 4 (js a3 p.G c3):=by rw[<-hW];simp
 have a2:=jC hW
 clear hW;refine(nf a3 c3 p.G 10 _ (a1 _ K0) a7).mono ?_;refine Qe fun w1 g9=>?_;have K1:=jh K0 g9;have x0:=(g9.cell Qh).trans G4;have F:=(g9.block _ ed).trans a2;have G:w.heap.size+1<w1.heap.size:=Uo
 have M:bG (∀W',jb w1 W'->jk W' (w+1) cs 168):=fun W' j=>(j.block _ G).trans F;have N:=hI G;clear g9 G4 a2 hz F;cases hri:ab (dE Sg.id p.G p.G/\(p.G:ar)<=10)with
 | false=>
  have HE:=hI (a5 hri);refine ei ?_;exact Qu
 | true=>
  have v:=hI (a6 hri);clear hri;refine Qv fun _=>?_;go_wp2_with fail;have I:aC (w1.alloc (cO zeroCells442 442)) w1 300 442 (pQ p.G 0):=(aC.new w1 _ _ (by rw[WK];simp) ou).congr fun q _=>(rz p.G q).symm;have O:=hI I;clear I;go_loopg [15] p.G.length (fun g i wr=> ∃k:av,k<=p.G.length/\g=p.G.length-k/\i= jV k/\jb w1 wr/\aC wr w1 300 442 (pQ p.G k)/\rD f p.G k)
  ·exact⟨0,ed,ed,rfl,aR,O,fun i b6 h=>cv h ed⟩
  obtain⟨k,b7,rfl,rfl,j,hb,ho⟩:=hrel;obtain⟨y,rfl⟩: ∃y:aj,y=wr:=⟨_,rfl⟩;have a8:=hI j;have z:=jh K1 j;refine Qa fun a9 P=>?_;clear j hb ho;by_cases G9:k<p.G.length
  ·obtain⟨b,off,rfl,x1,b0,x2⟩:=(a1 _ z).sg G9;refine Qb fun _ _=>?_;go_wp2_with fail;generalize hW:y.alloc (cO #[p.G[k].id,p.G[k].sec,p.G[k].en] 145)=W;have l:=jG hW;have Q:=jh a8 l;have K2:=jh z l;have y1:=Ng (show jc W y 1 p.G[k].sec by rw[<-hW];simp);have y2:=Ng (show jc W y 2 p.G[k].en by rw[<-hW];simp);have Y1:bG (jc W y 1 p.G[k].sec):=(by show _=_;rw[<-hW];simp);have Y2:bG (jc W y 2 p.G[k].en):=(by show _=_;rw[<-hW];simp);have J:=hI (a9.below l);have A:=hI (M _ Q);have cT:bG (∀d os,jW 379 #[cZ cs,p.G[k].sec] (grow (cF W d) os) fun e R=>e=cL (db (ab (nV f p.G[k].sec)))/\ ∃p:Regrown,R=grow (cF W p.d) p.os):=fun d os=>Ps (WO cs f p.G[k].sec _ c)
   have K: ∀D,(∃p:Regrown,D=grow (cF W p.d) p.os)-> ∃t fr,D.heap[w.heap.size+1]? =bt (cO cs t fr):=by
    rintro _ ⟨p,rfl⟩;exact⟨168,(0,0),((Nr W p.d p.os).block _ (Nl N Q.size)).trans A⟩
   have U:bG ((prog.info? 168).map (·.size)=bt cs.size):=(by show _=_;rw[zW,c.o.1]);clear hW x1 b0 x2 l;refine Mz ef ef ?_;go_big_quiet_want;refine JM 168 (dk 3) rfl (w+1) rfl cs K _ underlying168 rfl U ?_;simp[cq];go_big_quiet_on
   have o: ¬nV f p.G[k].sec\/(nV f p.G[k].sec/\p.G[k].en<0)\/(nV f p.G[k].sec/\0<=p.G[k].en/\f p.G[k].sec.toNat<=p.G[k].en)\/rW f p.G[k]:=by
    by_cases h1:nV f p.G[k].sec
    ·by_cases h2:p.G[k].en<0
     ·exact .inr (.inl ⟨h1,h2⟩)
     by_cases h4:f p.G[k].sec.toNat<=p.G[k].en
     ·exact .inr (.inr (.inl ⟨h1,ed,h4⟩))
     exact .inr (.inr (.inr ⟨h1,ed,ed⟩))
    exact .inl h1
   have H:bG (¬rW f p.G[k]->B=aW):=fun h=>u aW (by
    rw[v.o];refine Kz ?_
    exact fun ho=>h (ho k G9 G9).1)
   rcases o with h | ⟨h1,h2⟩ | ⟨h1,h2,h4⟩ | h
   ·have HE:=hI (H fun h'=>h h'.1);rw[Mw h]at cT;clear h
    repeat (go_big_quiet_step (with_reducible exact cT.o _ _))
    refine cl ?_;rintro _ ⟨⟨dq,osq⟩,rfl⟩;refine ei ?_;exact Zi
   ·have HE:=hI (H fun h'=>by have:=h'.2.1;omega);rw[Ni h1]at cT;have t1:=jT h2;clear h1 h2
    repeat (go_big_quiet_step (with_reducible exact cT.o _ _))
    refine cl ?_;rintro _ ⟨⟨dq,osq⟩,rfl⟩;refine ei ?_;exact Zi
   ·have HE:=hI (H fun h'=>by have:=h'.2.2;omega);rw[Ni h1]at cT;have t1:ab (p.G[k].en<0)=aW:=(by simpa using h2);have t2:=jT h4;have i0:=h1.1;have i1:p.G[k].sec<100:=(by have:=h1.2.1;omega);have y3:=Ng (show jc W (w+1) p.G[k].sec.toNat (jV (f p.G[k].sec.toNat)) by rw[Mu _ _ _ cs _ _ A.o];exact c.2 _ ed);clear h1 h2 h4
    repeat (go_big_quiet_step (with_reducible exact cT.o _ _))
    refine cl ?_;rintro _ ⟨⟨dq,osq⟩,rfl⟩;refine ei ?_;exact Zi
   rw[Ni h.1]at cT;have t1:ab (p.G[k].en<0)=aW:=(by simpa using h.2.1);have t2:ab (f p.G[k].sec.toNat<=p.G[k].en)=aW:=(by have:=h.2.2;simp;omega);have i0:=h.1.1;have i1:p.G[k].sec<100:=(by have:=h.1.2.1;omega);have i2:=h.2.1;have i3:p.G[k].en<3:=(by have:=h.2.2;have:=H3 p.G[k].sec.toNat;omega);have y3:=Ng (show jc W (w+1) p.G[k].sec.toNat (jV (f p.G[k].sec.toNat)) by rw[Mu _ _ _ cs _ _ A.o];exact c.2 _ ed);have Y:=Ng (J.cell (q:=p.G[k].sec.toNat * 3+p.G[k].en.toNat) ed);have L:=hI (rx H3 G9 P h);have V:=hI (fun X=>ru G9 P h X);cases hst:pQ p.G k (p.G[k].sec.toNat * 3+p.G[k].en.toNat)with
   | true=>
    rw[hst]at Y
    have HE:=hI (u aW (by
     rw[v.o];refine Kz ?_
     exact fun ho=>(L.1 hst) (ho k G9 G9).2))
    clear h hst
    repeat (go_big_quiet_step (with_reducible exact cT.o _ _))
    refine cl ?_;rintro _ ⟨⟨dq,osq⟩,rfl⟩;refine ei ?_;exact Zi
   | false=>
    rw[hst]at Y
    have b1:=hI (V (Classical.not_not.1 fun b2=>by
     have:=L.2 b2;unfold uO at this;rw[hst]at this
     cases this))
    have Z:bG (∀W',aC W' w1 300 442 (pQ p.G k)->aC (W'.setCell ⟨w1,p.G[k].sec.toNat * 3+p.G[k].en.toNat,bn⟩ (db bl)) w1 300 442 (pQ p.G (k+1))):=fun W' h=>by
     refine(h.set (q:=p.G[k].sec.toNat * 3+p.G[k].en.toNat) ed _).congr fun q hq=> ?_;exact ry G9 _ rfl q
    clear h hst
    repeat (go_big_quiet_step (with_reducible exact cT.o _ _))
    refine cl ?_;rintro _ ⟨⟨dq,osq⟩,rfl⟩;have a:=Nr W dq osq;generalize grow (cF W dq) osq=W2 at *;have K3:=jh Q a;have C:=hI (J.below a);have v1:=aP a Y1;have v2:=aP a Y2;have v3:=C.cell (q:=p.G[k].sec.toNat * 3+p.G[k].en.toNat) ed;have v4:=C.frozen (p.G[k].sec.toNat * 3+p.G[k].en.toNat);clear a y1 y2 y3 Y cT;go_wp2_with fail
    go_region
    go_wp2_with fail;go_roundg (p.G.length-(k+1))
    ·go_light;exact⟨k+1,ed,ed,ej,(K3.setCell ep _).drew,(Z _ C).below (Nb _ _).drew,b1⟩
    go_light;omega
  obtain rfl:k=p.G.length:=ed;have HE:=hI (u bl (by rw[v.o];simp only[Fe];exact P));refine ei ?_;exact⟨aH HE.symm,z⟩
def eP.at_ {v:bw}{l:aq ar}(h:eP w v l): ∃a c,v=cJ a l c/\IL w a l l:=by
 obtain⟨a,n,c,e,hl⟩:=h;obtain rfl:=hl.len;exact⟨a,c,e,hl⟩
theorem oo (p:Pl) (r:Rt) (s q g j2 j3 vo j4:bw) (cs:aL bw) (f:av->ar) (w:aj) (m5:bN w s q g j2 p) (e5:p.Fit) (d7:dY w j3 vo j4 r) (hb:gI cs f) (h3: ∀q,f q<=3) (ho:lV f p.G):
  jW 300 #[aT p s q g j2,cZ #[r.id,r.E,r.X,j3,vo,j4,r.T],cZ cs] w (bY w (ab (iU f p.G p.P r))):=by
 refine Qa fun b4 e6=>?_;obtain⟨⟨m6,j5,rfl,m7⟩,⟨b5,c2,rfl,k2⟩,⟨a3,c3,rfl,k3⟩,⟨m8,m9,rfl,n0⟩⟩:=m5;obtain⟨ap,b1,rfl,kp⟩:=d7.A.at_;obtain⟨ao,b2,rfl,ko⟩:=d7.O.at_;obtain⟨af,cf,rfl,kf⟩:=d7.fl;have n2:bG (∀C,jb w C->aB C 2 iA b5 c2 p.P):=fun C d=>k2.below lT d;refine El fun j6=>?_;refine YM fun n3 n4 b6=>?_;have n5:bG (¬oU p.G r->ab (iU f p.G p.P r)=aW):=fun h=>Mw fun h'=>h h'.1;have n6:bG (oU p.G r->(iU f p.G p.P r↔(pS f (zO p.G r) (r.A++r.O) (r.A++r.O).length/\sJ p.P r.fl r.fl))):=fun h=>⟨fun x=>x.2,fun x=>⟨h,x⟩⟩;have H5:bG (∀b,(b=bl↔iU f p.G p.P r)->ab (iU f p.G p.P r)=b):=fun b d=>by rw[Dh,Dj];exact d.symm
 have hq:=e5.P;have j7:=e5.G;clear m7 k2 k3 n0 kp ko kf e5 hb h3 ho d7;unfold aT;generalize ab (iU f p.G p.P r)=B at *;go_enter func300,ntmps300;go_wp2_with fail;generalize N:((w.alloc _).alloc _).alloc _=W;have j8:=hI (yA N)
 have hz:W.heap.size=w.heap.size+3:=by rw[<-N];simp
 have j9:jc W w 3 (js b5 p.P c2):=by rw[<-N];simp[go_sem]
 have k0:jc W w 4 (js a3 p.G c3):=by rw[<-N];simp[go_sem]
 have G1:jc W (w+1) 1 r.E:=by rw[<-N];simp[go_sem]
 have G2:jc W (w+1) 2 r.X:=by rw[<-N];simp[go_sem]
 have G3:jc W (w+1) 3 (js ap r.A b1):=by rw[<-N];simp[go_sem]
 have G4:jc W (w+1) 4 (js ao r.O b2):=by rw[<-N];simp[go_sem]
 have G5:jc W (w+1) 5 (js af r.fl cf):=by rw[<-N];simp[go_sem]
 have G6:jc W (w+1) 6 r.T:=by rw[<-N];simp[go_sem]
 have k1:jk W (w+2) cs 168:=by rw[<-N];have:=Nc ((w.alloc (cO #[p.ver,p.par,js m6 p.S j5,js b5 p.P c2,js a3 p.G c3,js m8 p.R m9] 28)).alloc (cO #[r.id,r.E,r.X,js ap r.A b1,js ao r.O b2,js af r.fl cf,r.T] 102)) (cO cs 168 (0,0));simpa using this
 clear N;refine(lh a3 c3 p.G r.E _ (j6 _ j8) j7).mono ?_;refine Qe fun w1 g9=>?_;have K5:=jh j8 g9
 have e7:bG (dX Sg.id p.G r.E=bl->0<=(dW Sg.id ⟨0,0,0⟩ p.G r.E).sec/\(dW Sg.id ⟨0,0,0⟩ p.G r.E).sec<=99):=fun h=>by
  have h1:=(qK (z:=⟨0,0,0⟩) h).1;obtain⟨i,d8,he⟩:=No h1;have:=(e6.2 i d8 d8).1.1;rw[he]at this;exact⟨this.1,this.2.1⟩
 have e8:bG (zO p.G r=(dW Sg.id ⟨0,0,0⟩ p.G r.E).sec):=rfl
 have H6:bG (oU p.G r↔dX Sg.id p.G r.E=bl/\(r.X≠0->dX Sg.id p.G r.X=bl/\r.X≠r.E)/\(r.X=0->r.O.length=0)/\
  1<=r.A.length/\r.A.length<=6/\r.O.length<=2/\r.fl.length<=3/\1<=r.T/\r.T<=9):=To
 generalize dW Sg.id ⟨0,0,0⟩ p.G r.E=E at *;have n7:=(g9.cell Qh).trans k0;have g2:=(g9.cell Qh).trans G2;have e9:w.heap.size+3<=w1.heap.size:=Uo
 have n8:w.heap.size<w1.heap.size:=ed
 have l1:w.heap.size+1<w1.heap.size:=ed
 go_wp2_with fail;generalize a0:w1.alloc _=W1;have H:=jG a0
 have a1:W1.heap.size=w1.heap.size+1:=by rw[<-a0];simp
 have k4:jc W1 w1 1 E.sec:=by rw[<-a0];simp
 have K0:=jh K5 H;clear a0;refine(lh a3 c3 p.G r.X _ (j6 _ K0) j7).mono ?_;refine Qe fun w2 O=>?_;have n9:=jh K0 O;have o:=g9.trans ((H.mono g9.size).trans (O.mono (Nj g9.size H.size)));have k5:=(o.cell Qh).trans j9;have g1:=(o.cell Qh).trans G1;have g2:=(o.cell Qh).trans G2;have k6:=(o.cell Qh).trans G3;have k7:=(o.cell Qh).trans G4;have k8:=(o.cell Qh).trans G5;have k9:=(o.cell Qh).trans G6;have l3:=(o.block _ ed).trans k1;have l4:=(O.cell (by simp[a1])).trans k4;have f0:w1.heap.size+1<=w2.heap.size:=by have:=O.size;omega
 clear g9 H O o j9 k0 G1 G2 G3 G4 G5 G6 k1 k4 a1 n7;generalize dX Sg.id p.G r.X=i2 at *;generalize dX Sg.id p.G r.E=l5 at *;generalize dW Sg.id ⟨0,0,0⟩ p.G r.X=E2 at *;go_upto_block 0 with fail;generalize a5:w2.alloc _=W2;have H:=jG a5
 have a1:W2.heap.size=w2.heap.size+1:=by rw[<-a5];simp
 have K1:=jh n9 H;have l6:=aP H k5;have v1:=aP H g1;have v2:=aP H g2;have v3:=aP H k6;have v4:=aP H k7;have v5:=aP H k8;have v6:=aP H k9;have d9:=aP H l4;have l7:=(H.block _ ed).trans l3;have f1:=hI l7;clear H a5 k5 g1 g2 k6 k7 k8 k9 l3 l4 l7;have f2:=hI l6;have f3:=hI d9;clear l6 d9;go_cut []from 20 to 85 (fun wc=>oU p.G r/\wc=W2)
 case first=>
  by_cases P:oU p.G r
  ·have l8:=hI P;obtain⟨d1,d2,f4,e0,e2,f5,f6,l9,m0⟩:=H6.1 P;have t1:ab ((r.A:ar)<1)=aW:=em;have t2:ab ((6:ar)<(r.A:ar))=aW:=em;have t3:ab ((2:ar)<(r.O:ar))=aW:=em;have t4:ab ((3:ar)<(r.fl:ar))=aW:=em;have t5:ab (r.T<1)=aW:=em;have t6:ab ((9:ar)<r.T)=aW:=em;by_cases hx:r.X=0
   ·refine YA fun e1 f7=>?_;have o2:ab (0<r.O.length)=aW:=(by rw[f4 hx];rfl);clear hx d2 f4 e0 e2 f5 f6 l9 m0 P;go_wp2_with fail;go_meet
    case rel=>exact⟨l8,rfl⟩
   refine YB fun e1 f7=>?_;have m1:(r.X==r.E)=aW:=(by have:=(d2 hx).2;simpa using this);have p4:=(d2 hx).1;clear hx d2 f4 e0 e2 f5 f6 l9 m0 P;go_wp2_with fail;go_meet
   case rel=>exact⟨l8,rfl⟩
  have HE:=hI (n5 P);have b7:bG (¬(l5=bl/\(r.X≠0->i2=bl/\r.X≠r.E)/\(r.X=0->r.O.length=0)/\1<=r.A.length/\r.A.length<=6/\r.O.length<=2/\r.fl.length<=3/\1<=r.T/\r.T<=9)):=fun h=>P (H6.2 h);clear P;cases l5 with
  | false=>
   go_wp2_with fail;go_ret;exact Qu
  | true=>
   by_cases hx:r.X=0
   ·refine YA fun e1 f7=>?_;have f8:=hI hx;clear hx;by_cases b8:0<r.O.length
    ·have o2:=jT b8;clear b8;go_wp2_with fail;go_ret;exact Qu
    have o2:=jU b8;have f9:=hI b8;clear b8;go_wp2_with fail
    all_goals first
     | (go_ret;exact Qu)
     | (exact cv ⟨Py,fun h=>cv f8.o h,fun _=>by have:=f9.o;omega,ed,ed,ed,ed,ed,ed⟩ b7)
   have e1:(r.X != 0)=bl:=(by simp[hx]);have f7:(r.X==0)=aW:=(by simp[hx]);have f8:=hI hx;clear hx;cases i2 with
   | false=>
    go_wp2_with fail;go_ret;exact Qu
   | true=>
    by_cases he:r.X=r.E
    ·have m1:(r.X==r.E)=bl:=(by simpa using he);clear he;go_wp2_with fail;go_ret;exact Qu
    have m1:(r.X==r.E)=aW:=(by simpa using he);have g0:=hI he;clear he;go_wp2_with fail
    all_goals first
     | (go_ret;exact Qu)
     | (exact cv ⟨Py,fun _=>⟨Py,g0⟩,fun h=>cv h f8,ed,ed,ed,ed,ed,ed⟩ b7)
 case rest=>
  obtain⟨P,rfl⟩:=hcut;obtain⟨d1,-,-,e0,e2,f5,f6,-,-⟩:=H6.1 P;obtain⟨o1,o3⟩:=e7 d1;have H1:=hI (n6 P);rw[e8.o]at H1;have o4:E.sec<100:=ed
  have d9:=f3.o;have e3:zeroCells279[E.sec.toNat]? =bt (db aW):=DE _ ed;have l0:w.heap.size<wc.heap.size:=ed
  have HL:bG (w+2<wc.heap.size):=by show _<_;omega
  have l2:w.heap.size+1<wc.heap.size:=ed
  have o5:w1.heap.size<wc.heap.size:=ed
  clear P d1 e0 v1 v2 v6 a1 f0 e9 n8 l1 hz g2;go_upto_block 1 with fail
  have z0:aC (wc.alloc (cO (zeroCells279.setIfInBounds E.sec.toNat (db bl)) 279)) wc 100 279 (mT E.sec (r.A++r.O) 0):=by
   refine aC.congr (f:=fun q=>ab ((q:ar)=E.sec)) ⟨_,Nc wc _,by rw[aL.size_setIfInBounds,wQ];simp,fun q hq=> ?_⟩ fun q _=>(qs _ _ q).symm;rw[Dz,wQ];by_cases e:E.sec.toNat=q
   ·rw[Np e,Np (by rw[aL.size_replicate];omega)];have:(q:ar)=E.sec:=ed;simp[this]
   rw[Nm e];have: ¬(q:ar)=E.sec:=ed;simp[this,hq]
  refine Qq fun W3 i5=>?_;have b9:=eN i5
  have hr:bG (aC W3 wc 100 279 (mT E.sec (r.A++r.O) 0)):=by show aC _ _ _ _ _;rw[<-i5];exact z0.below aR
  have L0:bG (jc W3 (wc+1) 0 (js ap r.A b1)):=Xy
  have L1:bG (jc W3 (wc+1) 1 (js ao r.O b2)):=Xy
  have g3:=hI b9;clear i5 z0 b9 d9 o1 o3 o4 e3 v3 v4;have g4:bG (∃t:av->av,t 0=0/\t 1=r.A.length/\t 2=(r.A++r.O).length):=⟨fun k=>if k=0 then 0 else if k=1 then r.A.length else(r.A++r.O).length,rfl,rfl,rfl⟩;obtain⟨t,hl,hR,e4⟩:=g4.o;go_wp2_with fail;go_loopg [95] 2 (fun g i wr=> ∃k:av,k<=2/\g=2-k/\i= jV k/\jb wc wr/\jc wr (wc+1) 0 (js ap r.A b1)/\jc wr (wc+1) 1 (js ao r.O b2)/\aC wr wc 100 279 (mT E.sec (r.A++r.O) (t k))/\pS f E.sec (r.A++r.O) (t k))
  ·exact⟨0,ed,ed,rfl,g3,L0,L1,Up,fun i d8 h=>cv h ed⟩
  obtain⟨k,p5,rfl,rfl,d,F,G,c0,a2⟩:=hrel;obtain⟨w0,rfl⟩: ∃w0:aj,w0=wr:=⟨_,rfl⟩;have c1:=hI d;have g5:=jh K1 d;have o6:=hI c0;have m2:=hI a2;clear d c0 a2;by_cases Q:k<2
  ·have o7:ab ((k:ar)<2)=bl:=by simp;omega
   have o8:bG (∃(a:ax bR) (c:av) (l:aq ar),jc w0 (wc+1) k (js a l c)/\(∀C,jb w C->IL C a l l)/\l.length<=6/\t k+l.length=t (k+1)/\t (k+1)<=(r.A++r.O).length/\ ∀j (h:j<l.length) (h':t k+j<(r.A++r.O).length),l[j]=(r.A++r.O)[t k+j]):=by
    rcases(show k=0\/k=1 by omega)with rfl | rfl
    ·exact⟨ap,b1,r.A,F,n3,e2,by rw[hl,hR];omega,Eg,fun j h h'=>by simp only[hl,Pa];rw[Sp h]⟩
    exact⟨ao,b2,r.O,G,n4,ed,by rw[hR,e4];simp,by rw[e4];exact Mv _,fun j h h'=>by simp only[hR];rw[Sm ed];congr 1;omega⟩
   obtain⟨al,p6,l,x0,c4,o9,c5,c6,c7⟩:=o8.o;have g6:=hI c4;have HAW:=hI c5;have HG:=hI c6;have g7:=hI c7;have p7:=aQ k;have j5:(k:ar)<2:=ed;have g8:=hI F;have i0:=hI G;clear c4 c5 c6 c7 F G;go_wp2_with fail;go_loopg [101] l.length (fun g i J=> ∃m:av,m<=l.length/\g=l.length-m/\i= jV m/\jb wc J/\jc J (wc+1) 0 (js ap r.A b1)/\jc J (wc+1) 1 (js ao r.O b2)/\aC J wc 100 279 (mT E.sec (r.A++r.O) (t k+m))/\pS f E.sec (r.A++r.O) (t k+m))
   ·exact⟨0,ed,ed,rfl,c1,g8,i0,o6,m2⟩
   obtain⟨m,p8,rfl,rfl,d,F,G,c0,a2⟩:=hrel;obtain⟨J,rfl⟩: ∃J:aj,J=wr:=⟨_,rfl⟩;have H7:=hI d;have R:=jh K1 d;have T:=hI c0;have H8:=hI a2;have H3:=hI F;have H4:=hI G;clear d c0 a2 F G x0;by_cases a6:m<l.length
   ·obtain⟨b,off,rfl,x1⟩:=(g6 _ R).cell m a6;have p0:=aQ m;have e1:=aN a6;have L:t k+m<(r.A++r.O).length:=Qp;have a7:=g7 m a6 L;have HRow:bG (jk J (w+1+1) cs 168):=(H7.block _ Qm).trans f1;have HCZ:bG ((prog.info? 168).map (·.size)=bt cs.size):=(by show _=_;rw[zW,b4.o.1]);have A7:bG (jW 379 #[cZ cs,l[m]] J (bY J (ab (nV f l[m])))):=WO cs f l[m] J b4
    have y:bG (¬(nV f l[m]/\l[m]≠E.sec/\ ∀n (c8:n<t k+m),(r.A++r.O)[n]≠l[m])->B=aW):=fun h=>H5 aW (by
     have h5:=H1.o;rw[h5];refine Kz ?_;intro hx;have h6:=hx.1 _ L L;rw[<-a7]at h6
     exact h h6)
    have H2:=hI a7;clear a7;by_cases b3:nV f l[m]
    ·have hs:=b3;have a8:=Ni b3;clear b3;rw[a8]at A7;have p9:=hs.1;have n1:l[m]<100:=ZK;have c9:bG (mT E.sec (r.A++r.O) (t k+m) l[m].toNat=bl↔ ¬((r.A++r.O)[t k+m]≠E.sec/\ ∀n (c8:n<t k+m),(r.A++r.O)[n]≠(r.A++r.O)[t k+m])):=qp E.sec L l[m].toNat (by rw[<-H2.o];omega);have i1:=hI hs;clear hs;cases hmt:mT E.sec (r.A++r.O) (t k+m) l[m].toNat with
     | true=>
      have HE:=hI (y fun h=>c9.1 hmt (by rw[<-H2.o];exact h.2))
      have H9:bG (∀W',jb J W'->jc W' wc l[m].toNat (db bl)):=fun W' d=>by
       have:=(T.below d).cell (q:=l[m].toNat) ed;rw[hmt]at this;exact this
      clear hmt;go_upto_region 23 with fail;go_step;refine Dx rfl 168 (dk 5) rfl (w+1+1) rfl 168 cs (0,0) _ HRow underlying168 rfl HCZ ?_;simp[cq];go_wp2_with fail;refine A7.mono ?_;rintro e m3 ⟨rfl,u⟩;have d0:=jh R u;have y9:=H9 _ u;clear u;refine ei ?_;exact⟨aH HE.symm,d0⟩
     | false=>
      have i3:=hI (qo L H8 (by
       have h9:(r.A++r.O)[t k+m]≠E.sec/\ ∀n (c8:n<t k+m),(r.A++r.O)[n]≠(r.A++r.O)[t k+m]:=Classical.not_not.1 fun c8=>by
        have:=c9.2 c8;rw[hmt]at this;cases this
       refine⟨?_,h9⟩;rw[<-H2.o]
       exact i1))
      have H9:bG (∀W',jb J W'->jc W' wc l[m].toNat (db aW)):=fun W' d=>by
       have:=(T.below d).cell (q:=l[m].toNat) ed;rw[hmt]at this;exact this
      have i4:bG (∀W',aC W' wc 100 279 (mT E.sec (r.A++r.O) (t k+m))->aC (W'.setCell ⟨wc,l[m].toNat,bn⟩ (db bl)) wc 100 279 (mT E.sec (r.A++r.O) (t k+m+1))):=fun W' h=>by
       refine(h.set (q:=l[m].toNat) ed _).congr fun q hq=> ?_;exact qr E.sec L l[m].toNat (by rw[<-H2.o];omega) q
      clear hmt;go_upto_region 23 with fail;go_step;refine Dx rfl 168 (dk 5) rfl (w+1+1) rfl 168 cs (0,0) _ HRow underlying168 rfl HCZ ?_;simp[cq];go_wp2_with fail;refine A7.mono ?_;rintro e m3 ⟨rfl,u⟩;have d0:=jh H7 u;have y9:=H9 _ u;have d3:=hI (T.below u);have y8:=d3.frozen l[m].toNat;have Q0:=hI (aP u H3);have Q1:=hI (aP u H4);clear u;go_wp2_with fail;go_roundg (l.length-(m+1))
      ·go_light;exact⟨m+1,ed,ed,ej,d0.setCell ep _,(aj.cell?_setCell_other _ _ _ _ ee).trans Q0,(aj.cell?_setCell_other _ _ _ _ ee).trans Q1,i4 _ d3,i3⟩
      go_light;omega
    have HE:=hI (y fun h=>b3 h.1);have a8:=Mw b3;clear b3;rw[a8]at A7;go_upto_region 23 with fail;go_step;refine Dx rfl 168 (dk 5) rfl (w+1+1) rfl 168 cs (0,0) _ HRow underlying168 rfl HCZ ?_;simp[cq];go_wp2_with fail;refine A7.mono ?_;rintro e m3 ⟨rfl,u⟩;have d0:=jh R u;clear u;refine ei ?_;exact⟨aH HE.symm,d0⟩
   obtain rfl:m=l.length:=ed;have i6:bG (aC J wc 100 279 (mT E.sec (r.A++r.O) (t (k+1)))):=(by show aC _ _ _ _ _;rw[<-HAW.o];exact T);have i7:bG (pS f E.sec (r.A++r.O) (t (k+1))):=(by show pS _ _ _ _;rw[<-HAW.o];exact H8);clear T H8;go_wp2_with fail;go_roundg (2-(k+1))
   ·go_light;exact⟨k+1,ed,ed,ej,H7,H3,H4,i6,i7⟩
   go_light;omega
  obtain rfl:k=2:=ed;have i8:bG (pS f E.sec (r.A++r.O) (r.A++r.O).length):=(by show pS _ _ _ _;rw[<-e4];exact m2);have d4:bG (∀W',jb w0 W'->jc W' (w+1) 5 (js af r.fl cf)):=fun W' d=>(d.cell (Nl l2 c1.size)).trans ((c1.cell l2).trans v5);have i9:bG (∀W',jb w0 W'->jc W' w 3 (js b5 p.P c2)):=fun W' d=>(d.cell (Nl l0 c1.size)).trans ((c1.cell l0).trans f2);have wo:=d4 w0 Qy;clear F G hl hR e4 v5;go_wp2_with fail;go_loopg [121] r.fl.length (fun g i a4=> ∃n:av,n<=r.fl.length/\g=r.fl.length-n/\i= jV n/\jb w0 a4/\sJ p.P r.fl n)
  ·exact⟨0,ed,ed,rfl,Nb _ _,fun i d8 h=>cv h ed⟩
  obtain⟨n,c8,rfl,rfl,d,a2⟩:=hrel;obtain⟨a4,rfl⟩: ∃a4:aj,a4=wr:=⟨_,rfl⟩;have d5:=hI d;have U:=jh g5 d;have V:=hI a2;clear d a2 wo;by_cases D:n<r.fl.length
  ·obtain⟨b,off,rfl,x0,x1⟩:=(b6 _ U).fl D;have p0:=aQ n;have e1:=aN D;refine Qv fun p1=>?_;have x3:=i9 _ d5;have p2:=My _ _ x3;go_wp2_with fail;generalize hW:a4.alloc _=W4;have a9:=jG hW;have b0:W4.heap.size=a4.heap.size+1:=Qc;have G0:jc W4 a4 0 r.fl[n].pt:=Qc;have G1:jc W4 a4 1 r.fl[n].lie:=Qc;have K4:=jh U a9;have K2:=jh d5 a9;clear hW a9 x0 x1 x3 p1 p2;refine(nk b5 c2 p.P r.fl[n].pt _ (n2 _ K4) hq).mono ?_;refine Qe fun wo X=>?_;have HB:=jh K4 X;have K3:=jh K2 X;have m4:=(X.cell (by simp[b0])).trans G0;have g1:=(X.cell (by simp[b0])).trans G1;clear X G0 G1 b0;generalize dW Pt.id ⟨0,0⟩ p.P r.fl[n].pt=E3 at *;go_upto_region 32 with fail;refine Ex fun W6 d6 Y K6=>?_;have Z:=jh K3 Y;have y0:=aP Y m4;have y1:=aP Y g1;have y5:=d4 _ Z;clear Y d6 m4 g1
   have y:bG (¬zP p.P r.fl n D->B=aW):=fun h=>H5 aW (by
    have h5:=H1.o;rw[h5];refine Kz ?_
    exact fun hx=>h (hx.2 n D D))
   cases hone:dX Pt.id p.P r.fl[n].pt with
   | false=>
    have HE:=hI (y fun h=>by have:=h.1;rw[hone]at this;cases this);clear hone;go_quiet (fail);refine ei ?_;exact Ur
   | true=>
    have K:=hI hone;clear hone;rcases Tt n with M | M
    ·have t0:ab (0<n)=aW:=em;have j0:=hI M;clear M;have H0:bG (∀h':0<n,r.fl[n-1].pt<r.fl[n].pt):=fun h'=>cv h' (by have:=j0.o;omega);by_cases v:r.fl[n].lie=1
     ·have q1:(r.fl[n].lie != 1)=aW:=(by simp[v]);have I:=hI (EF D V ⟨K,H0,.inl v⟩);clear v;go_quiet (fail);go_wp2_with fail;go_roundg (r.fl.length-(n+1))
      ·go_light;exact⟨n+1,ed,ed,ej,jP Z _,I⟩
      go_light;omega
     have q1:(r.fl[n].lie != 1)=bl:=(by simp[v]);by_cases A:r.fl[n].lie=2
     ·have q2:(r.fl[n].lie != 2)=aW:=(by simp[A]);have I:=hI (EF D V ⟨K,H0,.inr A⟩);clear v A;go_quiet (fail);go_wp2_with fail;go_roundg (r.fl.length-(n+1))
      ·go_light;exact⟨n+1,ed,ed,ej,jP Z _,I⟩
      go_light;omega
     have q2:(r.fl[n].lie != 2)=bl:=(by simp[A]);have HE:=hI (y fun h=>by rcases h.2.2 with h | h<;>contradiction);clear v A;go_quiet (fail);refine ei ?_;exact Ur
    have t0:ab (0<n)=bl:=em;have j1:n-1<r.fl.length:=by omega
    have p3:bG (jc W6 b (off+(n-1) * 2) r.fl[n-1].pt):=by
     obtain⟨q3,o0,e,e3,-⟩:=(b6 _ K6).fl j1;cases e;exact e3
    have e3:=p3.o;have q4:(0:ar)<=(n:ar)-1:=ed;have i2:((n:ar)-1).toNat=n-1:=ed;by_cases Q:r.fl[n].pt<=r.fl[n-1].pt
    ·have q0:=jT Q;have HE:=hI (y fun h=>by have:=h.2.1 M;omega);clear Q M;go_quiet (fail);refine ei ?_;exact Ur
    have q0:=jU Q;have H0:bG (∀h':0<n,r.fl[n-1].pt<r.fl[n].pt):=fun h'=>by omega
    clear Q M;by_cases v:r.fl[n].lie=1
    ·have q1:(r.fl[n].lie != 1)=aW:=(by simp[v]);have I:=hI (EF D V ⟨K,H0,.inl v⟩);clear v;go_quiet (fail);go_wp2_with fail;go_roundg (r.fl.length-(n+1))
     ·go_light;exact⟨n+1,ed,ed,ej,jP Z _,I⟩
     go_light;omega
    have q1:(r.fl[n].lie != 1)=bl:=(by simp[v]);by_cases A:r.fl[n].lie=2
    ·have q2:(r.fl[n].lie != 2)=aW:=(by simp[A]);have I:=hI (EF D V ⟨K,H0,.inr A⟩);clear v A;go_quiet (fail);go_wp2_with fail;go_roundg (r.fl.length-(n+1))
     ·go_light;exact⟨n+1,ed,ed,ej,jP Z _,I⟩
     go_light;omega
    have q2:(r.fl[n].lie != 2)=bl:=(by simp[A]);have HE:=hI (y fun h=>by rcases h.2.2 with h | h<;>contradiction);clear v A;go_quiet (fail);refine ei ?_;exact Ur
  obtain rfl:n=r.fl.length:=ed;have HE:=hI (H5 bl (by have h5:=H1.o;rw[h5];simp only[Fe];exact⟨i8,V⟩));refine ei ?_;exact⟨aH HE.symm,U⟩
def bP {rest:aq Oper}{o:Oper}(H:o.guard=bn) (ty:bT) (x y:Operand) (b:o.op= .store ty x y)
  (g:av) (cells old:aL bw) (t:bT) (hx:a.eval x=cY (bt ⟨g,0,bn⟩)) (c:a.eval y=cZ cells) (d:jk w g old t) (e:(P.info? ty).map (·.size)=bt cells.size)
  (f:old.size=cells.size) (h1:cells.all (·.oneCell')=bl)
  (h:wpList P ops Q rest (a.put o.dst bE) (w.setRow g cells)):wpList P ops Q (o::rest) a w:=
 Hl H fun _ i=>by
  unfold Oper.wp execOp;simp only[b,hx,c,Instr.storeAt,Instr.sureAddr,Sn,Ty,So,run_storeVar_row w g t ty old cells d e f h1];exact i _ _ h
def om {rest:aq Oper}{o:Oper}(H:o.guard=bn) (ty:bT) (x y:Operand) (b:o.op= .store ty x y)
  (cells old:aL bw) (hx:a.eval x=cY (bt ⟨w,0,bn⟩)) (c:a.eval y=cZ cells) (d:(P.info? ty).map (·.size)=bt cells.size)
  (e:old.size=cells.size) (h1:cells.all (·.oneCell')=bl)
  (h:wpList P ops Q rest (a.put o.dst bE) (w.alloc (cO cells ty))):wpList P ops Q (o::rest) a (w.alloc (cO old ty)):=
 bP H ty x y b w cells old ty hx c Oa d e h1 (by rw[aj.setRow_alloc_new];exact h)
def gI.one {cs:aL bw}{f:av->ar}(h:gI cs f):cs.all (·.oneCell')=bl:=by
 rw[aL.all_eq_true];intro i H;have h2:=h.2 i (by rw[<-h.1];exact H);rw[Sa H]at h2;rw[Pq h2];rfl
def WI {l:aq aF}(a:eR l l) (q:av):dQ l l q<=3:=by
 unfold dQ;rw[Ph];cases hf:l.find? (fun s=>ab (s.id=(q:ar)))with
 | none=>simp
 | some s=>
  obtain⟨i,H,rfl⟩:=No (Sx hf);rcases(a i H H).1.2.2 with h | h
  ·simp;omega
  simp;omega
def bX (p:Pl):Prop:=AE p/\AC (dQ p.S p.S) p/\uY (dQ p.S p.S) p p.R
instance (p:Pl):cG (bX p):=by unfold bX;exact cx
theorem WG (p:Pl) (s q g r:bw) (w:aj) (C:bN w s q g r p) (B:p.Fit):jW 208 #[aT p s q g r] w (uZ w (if bX p then 0 else 8)):=by
 have d3:bG (∀a,jb w a->bN a s q g r p):=fun a hb=>C.below hb;have H6:=hI fun a hb ho=>mv p s q g r a (C.below hb) B ho;have H7:=hI fun a cs f hb h1 h2=>ot p s q g r cs f a (C.below hb) B h1 h2
 have H8:=hI fun a x c2 vo c3 cs f hb a5 h1 h2 h3=>oo p x s q g r c2 vo c3 cs f a (C.below hb) B a5 h1 h2 h3
 have H5:bG (∀n:ar,(bX p->n=0)->(¬bX p->n=8)->(if bX p then(0:ar)else 8)=n):=fun n h1 h2=>by
  by_cases h:bX p
  ·rw[Np h,h1 h]
  rw[Nm h,h2 h]
 have a3:bG (bX p↔AE p/\AC (dQ p.S p.S) p/\uY (dQ p.S p.S) p p.R):=To;obtain⟨⟨D,F,rfl,k1⟩,⟨c4,c5,rfl,k2⟩,⟨c6,c7,rfl,k3⟩,⟨a4,k4,rfl,g4⟩⟩:=C;have c8:bG (∀a,jb w a->aB a 3 cU D F p.S):=fun a hb=>k1.below gN hb;have c9:bG (∀a,jb w a->aB a 7 fH a4 k4 p.R):=fun a hb=>g4.below lS hb;have d0:=B.S;have a5:=B.R;have H9:=hI B.ends;have a6:bG (AE p↔1<=p.ver/\p.ver<=2147483647/\0<=p.par/\p.par<p.ver/\kM p.S):=To;unfold aT at *;generalize(if bX p then(0:ar)else 8)=E at *;have HB:=hI fun h=>H5 8 (fun h'=>cv (a3.1 h').1 h) (fun _=>rfl);go_in;go_upto_region 1 with fail;generalize t:w.alloc _=W;have G:=jG t
 have K0:=hI G;have y0:jc W w 0 p.ver:=by rw[<-t];simp
 have y1:jc W w 1 p.par:=by rw[<-t];simp
 have y2:jc W w 2 (js D p.S F):=by rw[<-t];simp
 have y3:jc W w 3 (js c4 p.P c5):=by rw[<-t];simp
 have y4:jc W w 4 (js c6 p.G c7):=by rw[<-t];simp
 have y5:jc W w 5 (js a4 p.R k4):=by rw[<-t];simp
 have hz:w.heap.size<W.heap.size:=by rw[<-t];simp
 have y:bG (∀W',jb W W'->(jc W' w 0 p.ver/\jc W' w 1 p.par/\jc W' w 2 (js D p.S F)/\jc W' w 3 (js c4 p.P c5)/\jc W' w 4 (js c6 p.G c7)/\jc W' w 5 (js a4 p.R k4))/\jb w W'):=fun W' hb=>
  ⟨⟨aP hb y0,aP hb y1,aP hb y2,aP hb y3,aP hb y4,aP hb y5⟩,jt G hb⟩
 go_wp2_with fail
 all_goals try (go_ret;exact⟨dU (HB (fun h=>by obtain⟨h1,h2,h3,h4,-⟩:=a6.1 h;omega)).symm,K0⟩)
 have a7:=hI fun h=>a6.2 ⟨by omega,by omega,by omega,by omega,h⟩;refine(ow D F p.S _ (c8 _ K0) d0 H9).mono ?_;rintro e w1 ⟨rfl,z⟩;have a8:=hI z;obtain⟨⟨z0,z1,z2,z3,z4,z5⟩,I⟩:=y _ z;have K2:=hI I;have l1:=Nl hz z.size;by_cases H:kM p.S
 ·rw[Np H];have a9:=hI (a7 H);have J:=hI H.2.1;have d1:=hI (WI H.2.1);go_wp2_with fail;refine(mz D F p.S _ (c8 _ K2) d0 J).mono ?_;rintro e w2 ⟨cs,rfl,K,b0⟩;have c:=hI K;have L:=jh a8 b0;have b1:zeroCells168.size=cs.size:=by rw[zX,K.1];simp
  go_upto_region 4 with(refine om rfl 168 _ _ rfl cs zeroCells168 rfl rfl (by rw[zW,c.o.1]) b1 c.one ?_);generalize hW:w2.alloc _=W5;have HB0:bG (jb W W5):=by show cB _ _ _;rw[<-hW];exact L.alloc L.size _
  have M:bG (∀W',jb W5 W'->jk W' w2 cs 168):=fun W' hb=>(hb.block _ (by rw[<-hW];simp)).trans (by rw[<-hW];exact Nc _ _);obtain⟨⟨z0,z1,z2,z3,z4,z5⟩,N⟩:=y _ HB0;have K5:=hI N;have O:bG ((prog.info? 168).map (·.size)=bt cs.size):=by show _=_;rw[zW,c.o.1]
  have A:=hI fun h=>H5 8 (fun h'=>cv (a3.1 h').2.1 h) (fun _=>rfl);go_wp2_with fail;refine(H6 _ K5 J).mono ?_;rintro e w6 ⟨rfl,P⟩;have Q:=hI P;have R:=jh HB0 P;obtain⟨⟨x1,b2,x2,x3,x4,x5⟩,T⟩:=y _ R;have K6:=hI T;have b3:=hI (M _ Q);by_cases d:kH p
  ·have hd:=Ni d;rw[hd];have U:=hI d;go_wp2_with fail;refine Ha 168 (dk 3) rfl w2 rfl 168 cs (0,0) _ b3 underlying168 rfl O ?_;simp[cq];go_wp2_with fail;refine(H7 _ cs _ K6 c d1).mono ?_;rintro e w7 ⟨rfl,b4⟩;have V:=jh Q b4;have X:=jh HB0 V;obtain⟨⟨x1,b2,x2,x3,x4,x5⟩,Y⟩:=y _ X;have K7:=hI Y;by_cases j:lV (dQ p.S p.S) p.G
   ·have hd:=Ni j;rw[hd];have u:=hI j;go_wp2_with fail;refine(nd a4 k4 p.R 16 _ (c9 _ K7) a5).mono ?_;rintro e w8 ⟨rfl,b5⟩;have Z:=jh V b5;have H0:=jh HB0 Z;obtain⟨⟨x1,b2,x2,x3,x4,x5⟩,a0⟩:=y _ H0;have K8:=hI a0;by_cases hri:dE Rt.id p.R p.R/\(p.R:ar)<=16
    ·have hd:=Ni hri;rw[hd];have H1:bG (AC (dQ p.S p.S) p):=⟨U,u,hri⟩;go_wp2_with fail;go_loopg [53] p.R.length (fun g i wr=> ∃k:av,k<=p.R.length/\g=p.R.length-k/\i= jV k/\jb W5 wr/\uY (dQ p.S p.S) p k)
     ·exact⟨0,by omega,by omega,rfl,Z,fun i d4 h=>cv h (by omega)⟩
     obtain⟨k,d5,rfl,rfl,hb,ho⟩:=hrel;obtain⟨wo,rfl⟩: ∃wo:aj,wo=wr:=⟨_,rfl⟩;have HB:=hI hb;have d2:=hI ho;have b6:=jh HB0 hb;obtain⟨-,b7⟩:=y _ b6;have KO:=hI b7;by_cases G9:k<p.R.length
     ·obtain⟨b,off,c2,vo,c3,rfl,x0,r1,r2,r3,r4,r5,r6,l⟩:=(c9 _ KO).rt G9;obtain⟨ap,cp,rfl,-⟩:=l.A.at_;obtain⟨ao,co,rfl,-⟩:=l.O.at_;obtain⟨af,cf,rfl,-⟩:=l.fl;have b8:=hI l;have e0:=aQ k;have e1:=aN G9;have l9:=My _ _ x0;go_upto_region 9 with fail;generalize hW6:wo.alloc _=W6;have a1:=jG hW6;have hb6:=jh HB a1;have H2:=jh HB0 hb6;have q0:jc W6 wo 0 p.R[k].id:=(by rw[<-hW6];simp);have q1:jc W6 wo 1 p.R[k].E:=(by rw[<-hW6];simp);have q2:jc W6 wo 2 p.R[k].X:=(by rw[<-hW6];simp);have q3:jc W6 wo 3 (js ap p.R[k].A.length cp):=(by rw[<-hW6];simp);have q4:jc W6 wo 4 (js ao p.R[k].O.length co):=(by rw[<-hW6];simp);have q5:jc W6 wo 5 (js af p.R[k].fl.length cf):=(by rw[<-hW6];simp);have q6:jc W6 wo 6 p.R[k].T:=(by rw[<-hW6];simp);have H3:=hI (b8.below a1);have b9:=hI (M _ hb6);obtain⟨⟨x1,b2,x2,x3,x4,x5⟩,a2⟩:=y _ H2;have K9:=hI a2;have A7:=hI (H8 W6 p.R[k] _ _ _ cs _ K9 H3 c d1 u);go_wp2_with fail;refine Ha 168 (dk 3) rfl w2 rfl 168 cs (0,0) _ b9 underlying168 rfl O ?_;simp[cq];go_wp2_with fail;refine A7.mono ?_;rintro e w0 ⟨rfl,v⟩;have H4:=jh hb6 v;have K1:=jh K9 v;by_cases o:iU (dQ p.S p.S) p.G p.P p.R[k]
      ·have c0:=hI (qn G9 d2 o);have hd:=Ni o;rw[hd];go_wp2_with fail;go_roundg (p.R.length-(k+1))
       ·go_light;exact⟨k+1,by omega,by omega,by go_num,H4,c0⟩
       go_light;omega
      have HE:=hI (H5 8 (fun h'=>cv ((a3.1 h').2.2 k G9 G9) o) (fun _=>rfl));have hd:=Mw o;rw[hd];go_wp2_with fail;go_ret;exact⟨dU HE.symm,K1⟩
     obtain rfl:k=p.R.length:=(by omega);have c1:=hI (H5 0 (fun _=>rfl) (fun h'=>cv (a3.2 ⟨a9,H1,d2⟩) h'));go_wp2_with fail;go_ret;exact⟨dU c1.symm,KO⟩
    have HE:=hI (A fun h=>hri h.2.2);have hd:=Mw hri;rw[hd];go_wp2_with fail;go_ret;exact⟨dU HE.symm,K8⟩
   have HE:=hI (A fun h=>j h.2.1);have hd:=Mw j;rw[hd];go_wp2_with fail;go_ret;exact⟨dU HE.symm,K7⟩
  have HE:=hI (A fun h=>d h.1);have hd:=Mw d;rw[hd];go_wp2_with fail;go_ret;exact⟨dU HE.symm,K6⟩
 rw[Nm H];have HE:=hI (HB fun h=>H (a6.1 h).2.2.2.2);go_wp2_with fail;go_ret;exact⟨dU HE.symm,K2⟩
def z0a (a:ax bR) (cap:av) (l:aq dV) (w:aj) (hl:aB w 3 qH a cap l) (A:l.length<=1000) (c:oD l):
  jW 121 #[js a l cap] w (bY w (ab (nS l))):=by
 have E:bG (∀t,jb w t->aB t 3 qH a cap l):=fun t hb=>hl.below DX hb;have F:=hI c;have d:bG (∀b,(b=bl↔nS l)->ab (nS l)=b):=fun b hb=>by rw[Dh,Dj];exact hb.symm
 have I:bG (nS l↔tI l l):=To;generalize ab (nS l)=B at *;go_in;go_wp2_with fail;have u:aC (w.alloc (cO zeroCells279 279)) w 100 279 (pN l 0):=(aC.new w _ _ (by rw[wQ];simp) DE).congr fun q _=>(py l q).symm;have v:=hI u;go_loopg [8] l.length (fun g i wr=> ∃k:av,k<=l.length/\g=l.length-k/\i= jV k/\jb w wr/\aC wr w 100 279 (pN l k)/\tI l k)
 ·exact⟨0,ed,ed,rfl,aR,v,fun i J h=>cv h ed⟩
 obtain⟨k,K,rfl,rfl,hb,ho,C⟩:=hrel;obtain⟨x,rfl⟩: ∃x:aj,x=wr:=⟨_,rfl⟩;refine Qa fun K1 o=>?_;have D:=hI C;clear hb ho C;by_cases G9:k<l.length
 ·have y:=bL G9;obtain⟨b,off,rfl,x0,x1,x2⟩:=(E _ K1).ask G9;refine Qb fun _ _=>?_;refine Qv fun _=>?_;have L:=o.lt;have f:=F l[k] (Nn G9);have p0:(0:ar)<=l[k].pt:=ed;have p1:l[k].pt<100:=ed;have H:l[k].pt=((l[k].pt.toNat:av):ar):=ed;have v2:=o.cell (q:=l[k].pt.toNat) ed;have v3:=o.frozen l[k].pt.toNat;have j:=hI (pw G9 l[k].pt.toNat H);have G:x.heap.size≠w.heap.size:=ed;cases hmet:pN l k l[k].pt.toNat with
  | true=>
   rw[hmet]at v2
   have HE:=hI (d aW (by
    refine Kz ?_
    exact fun h=>(j.1 hmet) (h k G9 G9)))
   clear hmet H f;refine ei ?_;exact⟨aH HE.symm,K1.alloc K1.size _⟩
  | false=>
   rw[hmet]at v2
   have z:=hI (XQ G9 D (fun m A e=>by
    have:=j.2 (fun h=>h m A e);rw[hmet]at this
    cases this))
   have n:bG (∀W',aC W' w 100 279 (pN l k)->aC (W'.setCell ⟨w,l[k].pt.toNat,bn⟩ (db bl)) w 100 279 (pN l (k+1))):=fun W' h=>
    (h.set (q:=l[k].pt.toNat) ed bl).congr fun q hq=>px G9 l[k].pt.toNat H q
   clear hmet H f;go_wp2_with fail;go_roundg (l.length-(k+1))
   ·go_light;refine⟨k+1,ed,ed,ej,?_,?_,z⟩
    ·exact(K1.setCell ep _).alloc (by simpa [cd]using K1.o.size) _
    exact(n _ o).below aR
   go_light;omega
 obtain rfl:k=l.length:=ed;have y:=bZ G9;have HE:=hI (d bl (by simp only[Fe];exact D));refine ei ?_;exact Qu
theorem z0b (p:Pl) (r:Rt) (s q gg R V vo K:bw) (a:ax bR) (cap:av) (outs:aq Jn) (w:aj) (A:bN w s q gg R p) (Z:p.Fit) (C:dY w V vo K r) (L:aB w 2 fI a cap outs) (a6:outs.length<=1000) (h6:r.A.length<=6) (M:r.A.length<=outs.length):
  jW 122 #[aT p s q gg R,cZ #[r.id,r.E,r.X,V,vo,K,r.T],js a outs cap] w (bY w (ab (oC p r outs))):=by
 obtain⟨a7,c1,rfl,k1⟩:=A.S;obtain⟨a8,c2,rfl,k2⟩:=A.P;obtain⟨a3,c3,rfl,k3⟩:=A.G;obtain⟨a9,c4,rfl,k4⟩:=A.R;obtain⟨ap,a0,rfl,-⟩:=C.A.at_;obtain⟨b0,b1,rfl,-⟩:=C.O.at_;obtain⟨b2,b3,rfl,-⟩:=C.fl;refine El fun o=>?_;have a1:bG (∀t,jb w t->aB t 2 fI a cap outs):=fun t hb=>L.below lB hb;have b4:=Z.G;have N:=L.le;have u:bG (∀b,(b=bl↔oC p r outs)->ab (oC p r outs)=b):=fun b hb=>by rw[Dh,Dj];exact hb.symm
 have v:bG (oC p r outs↔tH p r outs r.A):=To;unfold aT;generalize ab (oC p r outs)=B at *;have O:(0:ar)<=(r.A:ar):=ed
 have P:(r.A:ar)<=(cap:ar):=ed
 go_in;go_wp2_with fail;generalize hW:(w.alloc _).alloc _=W;have D:=eN hW
 have K0:=hI D
 have Q:bG (∀W',jb W W'->jc W' w 4 (js a3 p.G c3)/\jc W' (w+1) 2 r.X/\jc W' (w+1) 3 (js ap r.A a0)/\w.heap.size+1<W'.heap.size):=fun W' hb=>
  ⟨aP hb (by rw[<-hW];simp[go_sem]),aP hb (by rw[<-hW];simp[go_sem]),aP hb (by rw[<-hW];simp[go_sem]),Nl Qc hb.size⟩
 go_loopg [17] r.A.length (fun g j wr=> ∃i:av,i<=r.A.length/\g=r.A.length-i/\j= jV i/\jb W wr/\tH p r outs i)
 ·exact⟨0,ed,ed,rfl,Nb _ _,fun i T h=>cv h ed⟩
 obtain⟨i,T,rfl,rfl,hb,ho⟩:=hrel;obtain⟨wo,rfl⟩: ∃E:aj,E=wr:=⟨_,rfl⟩;refine Qa fun HB U=>?_;have K1:=jh K0 hb;by_cases e:i<r.A.length
 ·have F:=bL e;have x:i<outs.length:=ed;obtain⟨b,off,rfl,x0,x1⟩:=(a1 _ K1).jn x;have c0:=aQ i;have c1:=aN e;refine Qv fun l1=>?_;obtain⟨y4,y2,y3,a2⟩:=Q _ HB;have l0:w.heap.size<wo.heap.size:=ed;go_wp2_with fail;refine Ex fun X l y G=>?_;have f:=jh K1 y;have a4:bG (∀W',jb X W'->jc W' wo 0 outs[i].tt/\jc W' wo 1 outs[i].en/\wo.heap.size<W'.heap.size):=fun W' hb=>⟨aP hb (by rw[<-l];simp),aP hb (by rw[<-l];simp),Nl (by rw[<-l];simp) hb.size⟩;go_loopg [25] p.G.length (fun g j wr=> ∃m:av,m<=p.G.length/\g=p.G.length-m/\j= jV m/\jb X wr/\vB p r i outs[i] m)
  ·exact⟨0,ed,ed,rfl,Nb _ _,fun i T h=>cv h ed⟩
  obtain⟨m,a5,rfl,rfl,hb,ho⟩:=hrel;obtain⟨w0,rfl⟩: ∃E:aj,E=wr:=⟨_,rfl⟩;refine Qa fun H n=>?_;have I:=jh f hb;have z:=jh G hb;by_cases c:m<p.G.length
  ·have J:=bL c;obtain⟨b5,Y,rfl,x0,x1,x2⟩:=(o _ I).sg c;have e0:=aQ m;have e1:=aN c;refine Qv fun _=>?_;obtain⟨j0,j1,b6⟩:=a4 _ H;obtain⟨y4,y2,y3,a2⟩:=Q _ z;by_cases h1:p.G[m].sec=outs[i].tt
   ·have t1:(p.G[m].sec==outs[i].tt)=bl:=(by rw[Da];exact h1);by_cases h2:p.G[m].en=outs[i].en
    ·have t2:(p.G[m].en==outs[i].en)=bl:=(by rw[Da];exact h2);by_cases h3:i+1<r.A.length
     ·have t3:ab ((i:ar)<(r.A:ar)-1)=bl:=by simp;omega
      have HE:=hI (u aW (by
       refine Kz ?_
       exact fun h=>(v.1 h) i ed e m c c ⟨h1,h2,.inl h3⟩))
      refine ei ?_;exact⟨aH HE.symm,(jo f H).alloc (Nj f.size H.size) _⟩
     have t3:ab ((i:ar)<(r.A:ar)-1)=aW:=em;by_cases h4:p.G[m].id=r.X
     ·have t4:(p.G[m].id != r.X)=aW:=(by simp[h4]);have o:bG (¬tB r i outs[i] p.G[m]):=fun h=>h.2.2.elim (fun k=>h3 k) (fun k=>k h4);have d:=hI (KQ c n o);go_wp2_with fail;go_roundg (p.G.length-(m+1))
      ·go_light;exact⟨m+1,ed,ed,ej,H.alloc H.size _,d⟩
      go_light;omega
     have t4:(p.G[m].id != r.X)=bl:=by simp[h4]
     have HE:=hI (u aW (by
      refine Kz ?_
      exact fun h=>(v.1 h) i ed e m c c ⟨h1,h2,.inr h4⟩))
     refine ei ?_;exact⟨aH HE.symm,(jo f H).alloc (Nj f.size H.size) _⟩
    have t2:(p.G[m].en==outs[i].en)=aW:=(by rw[Nd];exact h2);have o:bG (¬tB r i outs[i] p.G[m]):=fun h=>h2 h.2.1;have d:=hI (KQ c n o);go_wp2_with fail;go_roundg (p.G.length-(m+1))
    ·go_light;exact⟨m+1,ed,ed,ej,H.alloc H.size _,d⟩
    go_light;omega
   have t1:(p.G[m].sec==outs[i].tt)=aW:=(by rw[Nd];exact h1);have o:bG (¬tB r i outs[i] p.G[m]):=fun h=>h1 h.1;have d:=hI (KQ c n o);go_wp2_with fail;go_roundg (p.G.length-(m+1))
   ·go_light;exact⟨m+1,ed,ed,ej,H.alloc H.size _,d⟩
   go_light;omega
  obtain rfl:m=p.G.length:=ed;have J:=bZ c;have d:=hI (pu x U n);go_wp2_with fail;go_roundg (r.A.length-(i+1))
  ·go_light;exact⟨i+1,ed,ed,ej,z,d⟩
  go_light;omega
 obtain rfl:i=r.A.length:=ed;have F:=bZ e;have HE:=hI (u bl (by simp only[Fe];exact U));refine ei ?_;exact Qu
def DD:aL bw:=#[jV 0,jV 3,jV 0,jV 3,jV 0,jV 0,jV 0,jV 0,jV 0]
def DB:aL bw:=#[jV 0,jV 1,jV 2,jV 1,jV 0,jV 0,jV 2,jV 0,jV 0]
def z0c (s:aF) (a:ax bR) (c:av) (w:aj):
  jW 419 #[jY s a c] w fun e b=>e=cL (cZ (if s.pt=0 then DD else DB))/\jb w b:=by
 unfold jY;generalize s.ends.length=n at *;generalize s.pt=q at *;generalize s.id=z at *;by_cases h0:q=0
 ·subst h0;rw[Np rfl];refine Qf ?_;exact Nh (v:=cZ DD) (by simp[results,Tryz.f419,go_sem,DD]) rfl ⟨rfl,aR.alloc ee _⟩
 have hd:(q==0)=aW:=by exact Ua
 rw[Nm h0];refine Qf ?_;exact Nh (v:=cZ DB) (by simp[results,Tryz.f419,go_sem,DB]) rfl ⟨rfl,aR.alloc ee _⟩
def z0d (a b c d e f g h i:ar) (w:aj):Sem.run prog (Instr.index 481 (cZ #[a,b,c,d,e,f,g,h,i]) (jV 0)) w= .ok (cZ #[a,b,c]) w:=by kernel_rfl
def z0e (a b c d e f g h i:ar) (w:aj):Sem.run prog (Instr.index 481 (cZ #[a,b,c,d,e,f,g,h,i]) (jV 1)) w= .ok (cZ #[d,e,f]) w:=by kernel_rfl
def z0f (a b c d e f g h i:ar) (w:aj):Sem.run prog (Instr.index 481 (cZ #[a,b,c,d,e,f,g,h,i]) (jV 2)) w= .ok (cZ #[g,h,i]) w:=by kernel_rfl
def z0g (a b c:ar) (w:aj):Sem.run prog (Instr.index 479 (cZ #[a,b,c]) (jV 0)) w= .ok (jV a) w:=by kernel_rfl
def z0h (a b c:ar) (w:aj):Sem.run prog (Instr.index 479 (cZ #[a,b,c]) (jV 1)) w= .ok (jV b) w:=by kernel_rfl
def z0i (a b c:ar) (w:aj):Sem.run prog (Instr.index 479 (cZ #[a,b,c]) (jV 2)) w= .ok (jV c) w:=by kernel_rfl
def uS (w:aj) (s:aF) (x y:ar) (e:Ending) (w':aj):Prop:=e=cL (dw #[jV (nU s x y),jV (lO s x y)])/\jb w w'
def z0j (s:aF) (a:ax bR) (c:av) (x y:ar) (w:aj) (b: ¬s.Shaped):jW 384 #[jY s a c,x,y] w (uS w s x y):=by
 have d:lO s x y=8:=by unfold lO;rw[Np b]
 have i:nU s x y=0:=by unfold nU;rw[d];rfl
 unfold uS;rw[d,i];have f:=hI (fun w=>DG s a c w);have hd:=jU b;rw[hd]at f;unfold jY at *;go_in;go_wp2_with fail;refine(f _).mono ?_;rintro e w1 ⟨rfl,H⟩;have K1:=hI (aR.trans (H.mono ee));go_wp2_with fail;exact Nh (v:=dw #[jV 0,jV 8]) Xq rfl ⟨rfl,K1⟩
def z0k (s:aF) (a:ax bR) (c:av) (x y:ar) (w:aj) (b:s.Shaped) (d:x<0\/2<x\/y<0\/2<y):jW 384 #[jY s a c,x,y] w (uS w s x y):=by
 have f:lO s x y=2:=by
  unfold lO;rw[Nm (fun h=>h b),Np];rcases d with h | h | h | h
  ·exact .inl h
  ·exact .inr (.inl h)
  ·exact .inr (.inr (.inl h))
  exact .inr (.inr (.inr (.inl h)))
 have j:nU s x y=0:=by unfold nU;rw[f];rfl
 unfold uS;rw[f,j];have i:=hI (fun w=>DG s a c w);have hd:=jT b;rw[hd]at i;unfold jY at *;have l:=hI d;go_in;go_wp2_with fail;refine(i _).mono ?_;rintro e w1 ⟨rfl,H⟩;have K1:=hI (aR.trans (H.mono ee));by_cases h1:x<0
 ·have t1:=jT h1
  exact Ze
 have t1:=jU h1
 by_cases h2:2<x
 ·have t2:=jT h2;exact Ze
 have t2:=jU h2;by_cases h3:y<0
 ·have t3:=jT h3;exact Ze
 have t3:=jU h3;have t4:ab (2<y)=bl:=(by have:=l.o;simp only[Dr];omega);exact Ze
def z0l (s:aF) (a:ax bR) (c:av) (x y:ar) (w:aj) (B:s.Shaped) (hx:x=0\/x=1\/x=2) (C:y=0\/y=1\/y=2):jW 384 #[jY s a c,x,y] w (uS w s x y):=by
 have j0:=z0d;have j1:=z0e;have j2:=z0f;have m0:=z0g;have m1:=z0h;have m2:=z0i;have t:=hI (fun w=>DG s a c w);have f:=hI (fun w=>z0c s a c w);have hd:=jT B;rw[hd]at t;have D:bG (lO s x y=if x<0\/2<x\/y<0\/2<y\/rC s.pt x y=0 then 2 else 0):=by show _=_;unfold lO;rw[Nm (fun h=>h B)]
 have E:bG (nU s x y=if lO s x y=0 then(rC s.pt x y).tmod 3 else 0):=rfl
 have o:bG (rC s.pt x y=if s.pt=0 then(if(x=0/\y=1)\/(x=1/\y=0)then 3 else 0)
 else if(x=0/\y=1)\/(x=1/\y=0)then 1
 else if(x=0/\y=2)\/(x=2/\y=0)then 2 else 0):=rfl
 unfold uS;generalize rC s.pt x y=T at *;generalize nU s x y=G at *;generalize lO s x y=I at *;unfold jY at *;generalize s.pt=q at *;by_cases F:q=0
 ·subst F;rw[Np rfl]at f o;unfold DD at *;rcases hx with rfl | rfl | rfl<;>rcases C with rfl | rfl | rfl
  all_goals
   have i:=o.o;simp at i;subst i;have j:=D.o;simp at j;subst j;have l:=E.o;simp at l;subst l;go_in;go_wp2_with fail;refine(t _).mono ?_;rintro e w1 ⟨rfl,H⟩;have u:=hI (aR.trans (H.mono ee));have z:jc w1 w 0 s.id:=aP H ee;have Z:jc w1 w 1 (jV 0):=aP H ee;have n:jc w1 w 2 (js a s.ends c):=aP H ee;go_wp2_with fail;refine(f _).mono ?_;rintro e w2 ⟨rfl,b⟩;have K:=jh u b;have z:=aP b z;have Z:=aP b Z;have n:=aP b n;go_wp2_with fail
   first
    | exact Nh (v:=dw #[jV 0,jV 2]) Xq rfl ⟨rfl,K⟩
    | (refine(f _).mono ?_
       refine Qe fun w3 d=>?_;have A:=jh K d;go_wp2_with fail
       exact Nh (v:=dw #[_,jV 0]) Xq rfl ⟨rfl,A⟩)
 rw[Nm F]at f o;unfold DB at *;rcases hx with rfl | rfl | rfl<;>rcases C with rfl | rfl | rfl
 all_goals
  have i:=o.o;simp at i;subst i;have j:=D.o;simp at j;subst j;have l:=E.o;simp at l;subst l;go_in;go_wp2_with fail;refine(t _).mono ?_;rintro e w1 ⟨rfl,H⟩;have u:=hI (aR.trans (H.mono ee));have z:jc w1 w 0 s.id:=aP H ee;have Z:jc w1 w 1 q:=aP H ee;have n:jc w1 w 2 (js a s.ends c):=aP H ee;go_wp2_with fail;refine(f _).mono ?_;rintro e w2 ⟨rfl,b⟩;have K:=jh u b;have z:=aP b z;have Z:=aP b Z;have n:=aP b n;go_wp2_with fail
  first
   | exact Nh (v:=dw #[jV 0,jV 2]) Xq rfl ⟨rfl,K⟩
   | (refine(f _).mono ?_
      refine Qe fun _ d=>?_;have A:=jh K d;go_wp2_with fail
      exact Nh (v:=dw #[_,jV 0]) Xq rfl ⟨rfl,A⟩)
def z0m (s:aF) (a:ax bR) (c:av) (x y:ar) (w:aj):jW 384 #[jY s a c,x,y] w (uS w s x y):=by
 by_cases H:s.Shaped
 ·by_cases b:x<0\/2<x\/y<0\/2<y
  ·exact z0k s a c x y w H b
  exact z0l s a c x y w H (by omega) (by omega)
 exact z0j s a c x y w H
def MW:bT->aU:=fun t=>t==281 || t==133
structure cK (g:av) (W W':aj):Prop where
 below:cB g W W'
 rest: ∀k c t fr,W.heap[k]? =bt (cO c t fr)->k≠g->MW t=aW->W'.heap[k]? =bt (cO c t fr)
def cK.refl (g:av) (W:aj):cK g W W:=⟨Nb _ _,fun _ _ _ _ h _ _=>h⟩
def cK.trans {a c:aj}(h:cK g a b) (k:cK g b c):cK g a c:=⟨h.below.trans k.below,fun i x t fr e n m=>k.rest i x t fr (h.rest i x t fr e n m) n m⟩
def cK.of_below (H:jb W W') (a:g<=W.heap.size):cK g W W':=⟨H.mono a,fun k c t fr h _ _=>(H.block k (aD h)).trans h⟩
def cK.setCell (g o:av) (W:aj) (v:bw):cK g W (W.setCell ⟨g,o,bn⟩ v):=⟨(Nb g W).setCell (p:=⟨g,o,bn⟩) (Mv g) v,fun k c t fr h n _=>(Ny W _ v k n).trans h⟩
def cK.grown {base:av}{e:bT}{sz:av}{v:bw}{n:av}{xs:aq bw}(h:W.ownsRow base e sz v n xs) (a:g<=base) (b:g<=W.heap.size) (he:MW e=bl) (H:W.grownBy W' v.ownBlock):cK g W W':=
 ⟨dT h a b H,fun k c t fr d _ m=>uT h he H k c t fr d m⟩
structure eK (W:aj) (g:av) (p:Pl) (s q gg r:bw) (k:Wk) (va vo:bw):Prop where
 blk:jk W g #[p.ver,p.par,s,q,gg,r,k.inn.tt,k.inn.en,va,vo,db k.lost] 369
 asks:aG W (g+1) va k.asks
 outs:fA W (g+1) vo k.outs
section
variable {W W':aj}{g:av}{p:Pl}{s q gg r va vo:bw}{k:Wk}
def eK.lt (h:eK W g p s q gg r k va vo):g<W.heap.size:=aD h.blk
def eK.below (h:eK W g p s q gg r k va vo) (H:jb W W'):eK W' g p s q gg r k va vo:=⟨(H.block g h.lt).trans h.blk,bU h.asks H,bU h.outs H⟩
def eK.S (h:eK W g p s q gg r k va vo):jc W g 2 s:=jr h.blk
def eK.tt (h:eK W g p s q gg r k va vo):jc W g 6 k.inn.tt:=jr h.blk
def eK.en (h:eK W g p s q gg r k va vo):jc W g 7 k.inn.en:=jr h.blk
def eK.cva (h:eK W g p s q gg r k va vo):jc W g 8 va:=jr h.blk
def eK.cvo (h:eK W g p s q gg r k va vo):jc W g 9 vo:=jr h.blk
def eK.lost (h:eK W g p s q gg r k va vo):jc W g 10 (db k.lost):=jr h.blk
def eK.frozen (h:eK W g p s q gg r k va vo) (o:av):W.frozen? ⟨g,o,bn⟩=aW:=by simp[aj.frozen?,h.blk]
def eK.setLost (h:eK W g p s q gg r k va vo):eK (W.setCell ⟨g,10,bn⟩ (db bl)) g p s q gg r {k with lost:=bl} va vo:=
 ⟨by simp[cd,Nk,h.blk],aV h.asks ee _,aV h.outs ee _⟩
def eK.setIn (h:eK W g p s q gg r k va vo) (j:Jn):eK ((W.setCell ⟨g,6,bn⟩ ↑j.tt).setCell ⟨g,7,bn⟩ ↑j.en) g p s q gg r {k with inn:=j} va vo:=
 ⟨by simp[cd,Nk,h.blk],aV (aV h.asks ee _) ee _,aV (aV h.outs ee _) ee _⟩
end
def JL:mD 418:=fun args w=>Uu
def JK (x:aF) (a:ax bR) (c:av) (n:ar) (g:av) (w:aj) (x0:jc w g 0 n):
  jW 418 #[jY x a c,jp g 0] w (bY w (ab (x.id=n))):=by
 have H:bG (∀b,(b=bl↔x.id=n)->b=ab (x.id=n)):=fun b hb=>Kx
 generalize ab (x.id=n)=B at *;refine Qv fun _=>?_;unfold jY;go_in;refine ei ?_;exact⟨aH (H _ ee),aR⟩
def WC {B:av}{a:aj}(h:cB B a b) (p:bR) (v:bw):cB B (a.setCell p v) (b.setCell p v):=
 ⟨h.os,h.tape,h.output,by simpa [cd]using h.size,fun k H=>by
  simp only[cd,Nk]
  rw[h.block k H]⟩
def dM {B:av}{a:aj}(h:cB B a w) (n:av):cB B a (w.drewN n):=⟨h.os,h.tape,h.output,h.size,h.block⟩
def JJ (W:aj) (g:av) (p:Pl) (s q gg r va vo:bw) (k:Wk) (id:ar) (e:Ending) (W':aj):Prop:=
 ∃a c,e=cL (jY (kP p.S k id) a c)/\aB W' 2 fI a c (kP p.S k id).ends/\eK W' g p s q gg r (fG p.S k id) va vo/\cK g W W'
theorem VY (g:av) (p:Pl) (a1:ax bR) (c1:av) (q gg r va vo:bw) (k:Wk) (id:ar) (W:aj) (hb:eK W g p (js a1 p.S c1) q gg r k va vo) (ho: ∀W',cB g W W'->aB W' 3 cU a1 c1 p.S) (hm:p.S.length<=1000):
  jW 383 #[jp g 0,id] W (JJ W g p (js a1 p.S c1) q gg r va vo k id):=by
 refine Qa fun y HS=>?_;have l0:=hb.lt;have y2:=hb.S;have N:=hI (ho W Qy);rcases kF (fun x:aF=>ab (x.id=id)) p.S with⟨h1,h2⟩ | ⟨n,E,h1,h2,h3⟩
 ·obtain⟨e1,G⟩:=MC (z:=lE) h2;have f: ¬qJ p.S k id:=fun h=>by rw[qJ,G]at h;exact cv h.1 ee
  have j:bG (kP p.S k id=lE/\fG p.S k id={k with lost:=bl}):=⟨Nm f,Nm f⟩;have HF:=hI h1;go_in;go_wp2_with fail;generalize hWW:(W.alloc _).alloc _=W1;have g9:=eN hWW
  have hz:W1.heap.size=W.heap.size+2:=by rw[<-hWW];simp
  have hid0:jc W1 W 0 id:=by rw[<-hWW];simp
  refine ZN fun l Y B C F D w1 H y0 y1 y3 f0=>?_;have M:W.heap.size+1<w1.heap.size:=by have:=H.size;omega
  have K:=jh D H;have d:=y.below K;have u10:=d.lost;have V:=d.frozen 10;go_wp2_with fail;go_quiet (fail);go_wp2_with fail;generalize o9:cd _ _ _=w;have q0:jc w (W+1) 0 (jV 0):=Zz
  have q1:jc w (W+1) 1 (jV 0):=ZB
  have q2:jc w (W+1) 2 (jN):=by rw[<-o9];simp[go_sem,y3]
  have KE:bG (cB W (W.setCell ⟨g,10,bn⟩ (db bl)) w):=by refine Uy ?_;exact Di (Di (Di (WC (dM K _) _ _) ee _) ee _) ee _
  refine Nh (v:=cZ #[jV 0,jV 0,jN]) Yo rfl ⟨bn,0,?_,?_,?_,?_⟩
  ·rw[j.o.1];rfl
  ·rw[j.o.1];exact⟨Mv _,fun _=>rfl,fun i h=>by simp[lE]at h⟩
  ·rw[j.o.2];exact(y.setLost).below Zs
  exact(cK.setCell _ _ _ _).trans (cK.of_below Zs YF)
 obtain⟨e1,G⟩:=tF (z:=lE) E h2 h3;have HF:=hI h1;have t0:ab ((n:ar)<0)=aW:=by simp
 by_cases t:k.inn.tt=id
 ·have f:qJ p.S k id:=⟨G,t⟩;have j:bG (kP p.S k id=p.S[n]/\fG p.S k id=k):=⟨(Np f).trans e1,Np f⟩;have t1:(k.inn.tt != id)=aW:=(by simp[t]);go_in;go_wp2_with fail;generalize hWW:(W.alloc _).alloc _=W1;have g9:=eN hWW;have hz:W1.heap.size=W.heap.size+2:=(by rw[<-hWW];simp);have hid0:jc W1 W 0 id:=(by rw[<-hWW];simp);refine ZN fun l Y B C F D w1 H y0 y1 y3 f0=>?_;have I:=(H.cell Qh).trans hid0;have M:W.heap.size+1<w1.heap.size:=(by have:=H.size;omega);have K:=jh D H;have d:=y.below K;have u2:=d.S;have u6:=d.tt;obtain⟨b,off,J,L,rfl,X,x1,x2,u⟩:=N.sec E;have O:=hI u;have P:b<W.heap.size:=My _ _ X;have X:=aP K X;have x1:=aP K x1;have x2:=aP K x2;have i0:=aQ n;have i1:=aN E;go_wp2_with fail;go_quiet (fail);go_wp2_with fail;generalize o9:cd _ _ _=w;have q0:jc w (W+1) 0 p.S[n].id:=Zz;have q1:jc w (W+1) 1 p.S[n].pt:=ZB;have q2:jc w (W+1) 2 (js J p.S[n].ends.length L):=(by rw[<-o9];simp[go_sem,y3]);have KE:bG (jb W w):=(by show cB _ _ _;rw[<-o9];exact Di (Di (Di (dM K _) ee _) ee _) ee _)
  refine Nh (v:=cZ #[p.S[n].id,p.S[n].pt,js J p.S[n].ends.length L]) Yo rfl ⟨J,L,?_,?_,?_,?_⟩
  ·rw[j.o.1];rfl
  ·rw[j.o.1];exact O.below lB KE
  ·rw[j.o.2];exact y.below KE
  exact cK.of_below KE (De l0)
 have f: ¬qJ p.S k id:=fun h=>t h.2;have j:bG (kP p.S k id=lE/\fG p.S k id={k with lost:=bl}):=⟨Nm f,Nm f⟩;have t1:(k.inn.tt != id)=bl:=(by simp[t]);go_in;go_wp2_with fail;generalize hWW:(W.alloc _).alloc _=W1;have g9:=eN hWW;have hz:W1.heap.size=W.heap.size+2:=(by rw[<-hWW];simp);have hid0:jc W1 W 0 id:=(by rw[<-hWW];simp);refine ZN fun _ _ _ _ _ D w1 H y0 y1 y3 _=>?_;have I:=(H.cell Qh).trans hid0;have M:W.heap.size+1<w1.heap.size:=(by have:=H.size;omega);have K:=jh D H;have d:=y.below K;have u6:=d.tt;have u10:=d.lost;have V:=d.frozen 10;go_wp2_with fail;go_quiet (fail);go_wp2_with fail;generalize o9:cd _ _ _=w;have q0:jc w (W+1) 0 (jV 0):=Zz;have q1:jc w (W+1) 1 (jV 0):=ZB;have q2:jc w (W+1) 2 (jN):=(by rw[<-o9];simp[go_sem,y3]);have KE:bG (cB W (W.setCell ⟨g,10,bn⟩ (db bl)) w):=(by show cB _ _ _;rw[<-o9];exact Di (Di (Di (WC (dM K _) _ _) ee _) ee _) ee _);refine Nh (v:=cZ #[jV 0,jV 0,jN]) Yo rfl ⟨bn,0,?_,?_,?_,?_⟩
 ·rw[j.o.1];rfl
 ·rw[j.o.1];exact⟨Mv _,fun _=>rfl,fun i h=>by simp[lE]at h⟩
 ·rw[j.o.2];exact(y.setLost).below Zs
 exact(cK.setCell _ _ _ _).trans (cK.of_below Zs YF)
def eK.grownA {p:Pl}{q:bw}{k:Wk}{o:Obj}(h:eK W g p s q gg r k va vo) (H:(W.alloc o).grownBy w va.ownBlock):
  w.heap[g]? =W.heap[g]? /\cK g W w/\fA w (g+1) vo k.outs:=by
 have hl:=h.lt;have a:=h.asks.alloc o;have hj:=h.outs.alloc o;refine⟨?_,?_,hj.kept H (rT hj a eh)⟩
 ·exact(H.block g em (fun e=>by have:=(a.lt g e.symm).1;omega)).trans (Nv W o hl)
 exact(cK.of_below ((Nb _ W).alloc ep o) (De hl)).trans (cK.grown a ed em rfl H)
def eK.grownO {p:Pl}{q:bw}{k:Wk}{o:Obj}(h:eK W g p s q gg r k va vo) (H:(W.alloc o).grownBy w vo.ownBlock):
  w.heap[g]? =W.heap[g]? /\cK g W w/\aG w (g+1) va k.asks:=by
 have hl:=h.lt;have a:=h.asks.alloc o;have hj:=h.outs.alloc o;refine⟨?_,?_,a.kept H (rT a hj eh)⟩
 ·exact(H.block g em (fun e=>by have:=(hj.lt g e.symm).1;omega)).trans (Nv W o hl)
 exact(cK.of_below ((Nb _ W).alloc ep o) (De hl)).trans (cK.grown hj ed em rfl H)
def uN (a b c:ar): ∀u∈[bw.int dr a,jV b,jV c],u.oneCell'=bl:=by
 intro u H;simp only[Dv,Pf,Ta]at H;rcases H with rfl | rfl | rfl<;>rfl
def uR (a b:ar): ∀u∈[bw.int dr a,jV b],u.oneCell'=bl:=by
 intro u H;simp only[Dv,Pf,Ta]at H;rcases H with rfl | rfl<;>rfl
def VX (W:aj) (g:av) (p:Pl) (s q gg r:bw) (k':Wk) (e:Ending) (W':aj):Prop:=
 e=cL (dw #[])/\cK g W W'/\ ∃va' vo',eK W' g p s q gg r k' va' vo'
def z0n (W:aj) (g:av) (p:Pl) (s q gg r vo:bw) (k':Wk) (e:Ending) (W':aj):Prop:=
 e=cL (dw #[])/\cK g W W'/\(∀k c t fr,W.heap[k]? =bt (cO c t fr)->k≠g->t≠281->W'.heap[k]? =bt (cO c t fr))/\ ∃va',eK W' g p s q gg r k' va' vo
def LV (g:av) (p:Pl) (s q gg r va vo:bw) (k:Wk) (pt lie pl:ar) (W:aj) (b:eK W g p s q gg r k va vo) (f:k.asks.length<=1000):
  jW 308 #[jp g 0,pt,lie,pl] W (z0n W g p s q gg r vo (kB k pt lie pl)):=by
 have HW:=hI b;have H:bG (kB k pt lie pl=if 0<pt/\0<lie then {k with asks:=k.asks++[⟨pt,lie,pl⟩]}else k):=rfl;generalize kB k pt lie pl=K at *;have l0:=b.lt;have y8:=b.cva;have z8:=b.frozen 8;by_cases h1:0<pt
 ·have t1:=jT h1
  by_cases h2:0<lie
  ·have t2:=jT h2;rw[Np ⟨h1,h2⟩]at H;go_in;go_wp2_with (at_builtin;refine nT rfl _ _ 182 281 _ _ 3 24 rfl underlying182 vL rfl eh eh (g+1) va k.asks _ rfl HW.asks f (av.succ_le_of_lt l0) [jV pt,jV lie,jV pl] rfl rfl (uN _ _ _) ?_;intro B C w hown9 a;have htA:=(HW.grownA a).1.trans HW.blk;have hF:=jZ htA;have o:=ji 8 htA);obtain⟨-,i,j⟩:=HW.grownA a;have l:=H.o;subst l;refine Nh (v:=dw #[]) (by simp[results,Tryz.f308,go_sem]) rfl ⟨rfl,i.trans (cK.setCell _ _ _ _),?_,_,?_,aV Zl ee _,aV j ee _⟩
   ·intro k c t fr e d hz;refine(Ny _ _ _ k d).trans ?_;have n:=uT (M:=fun t=>t==281) (HW.asks.alloc _) rfl a;exact n k c t fr ((Nv W _ (aD e)).trans e) Qh
   exact Xp
  have t2:=jU h2;rw[Nm (fun h=>h2 h.2)]at H;have H:=H.o;subst H;go_in;go_wp2_with fail;exact Rg
 have t1:=jU h1
 rw[Nm (fun h=>h1 h.1)]at H;have H:=H.o;subst H;go_in;go_wp2_with fail;exact Rg
def z0o (g:av) (m:FuncId) (caps:aL bw) (right:av->Jn->aU) (W:aj):Prop:=
 ∀W' (e:av) (j:Jn),cK g W W'->e<3->Calls prog m (#[cW dr (e:ar),cZ #[j.tt,j.en]]++caps) W' (bY W' (right e j))
def z0p {s:aF}{k:Wk}{right:av->Jn->aU}{e:av}(h:e<s.ends.length):oT s k right e=(!k.lost&&ab (lO s k.inn.en e=0)&&right e s.ends[e]):=by
 unfold oT;rw[Na,Nf h];rfl
theorem LU (g:av) (p:Pl) (a1:ax bR) (O:av) (q gg r va vo:bw) (k:Wk) (id pl:ar) (m:FuncId) (C:aL bw) (right:av->Jn->aU) (W:aj)
  (c2:eK W g p (js a1 p.S O) q gg r k va vo) (c3: ∀W',cB g W W'->aB W' 3 cU a1 O p.S) (c4:p.S.length<=1000) (c5:eR p.S p.S)
  (a4:k.asks.length<=900) (a5:k.outs.length<=900) (hf:mD m) (c6:z0o g m C right W):
  jW 303 #[jp g 0,id,pl,.func (.func m) #[] C] W (VX W g p (js a1 p.S O) q gg r (lD p.S k id pl right)):=by
 have c7: ∀(args:aL bw) (w:aj),Sem.run prog (callFunc m args) w= .ok (.enter m args) w:=hf;have b5:=hI (VY g p a1 O q gg r va vo k id W c2 c3 c4);have c8:=hI c6;have c9:(fG p.S k id).asks.length<=900:=by rw[tD];exact a4
 have hr:(fG p.S k id).outs.length<=900:=by rw[uW];exact a5
 have d0:(kP p.S k id).ends.length<=3:=by
  unfold kP;split
  ·rename_i c
   obtain⟨i,a6,he⟩:=No (qK (z:=lE) c.1).1;rw[<-he];rcases(c5 i a6 a6).1.2.2 with h | h<;>omega
  show([]:aq Jn).length<=3;decide
 have d1:bG (lD p.S k id pl right=mN (kP p.S k id) (fG p.S k id) id pl right):=rfl;rw[d1.o];unfold JJ at b5;generalize kP p.S k id=S at *;generalize fG p.S k id=K at *;go_in;go_wp2_with fail;refine b5.mono ?_;rintro e w1 ⟨a,c,rfl,E,P,a7⟩;unfold jY;have lg:=P.lt;go_wp2_with fail;generalize hW:w1.alloc _=W1;have F:=jG hW
 have G:=hI (a7.trans (cK.of_below F Ed));have HW1:=hI (P.below F)
 have b6:bG (∀W',jb W1 W'->jc W' w1 0 S.id/\jc W' w1 1 S.pt/\jc W' w1 2 (js a S.ends c)/\w1.heap.size<W'.heap.size):=by
  intro W' hb;refine⟨aP hb Qc,aP hb Qc,aP hb Qc,Nl Qc hb.size⟩
 have H0:bG (∀W',jb W1 W'->aB W' 2 fI a c S.ends):=fun W' hb=>(E.below lB F).below lB hb;go_loopg [19] S.ends.length (fun d2 i wr=> ∃e:av,e<=S.ends.length/\d2=S.ends.length-e/\i= jV e/\jb W1 wr/\ ∀i,i<e->oT S K right i=aW)
 ·exact⟨0,ed,ed,rfl,Nb _ _,fun i h=>by omega⟩
 obtain⟨n,e3,rfl,rfl,hb,ho⟩:=hrel;obtain⟨wo,rfl⟩: ∃wo:aj,wo=wr:=⟨_,rfl⟩;have HB:=hI hb;have I:=hI ho;by_cases f:n<S.ends.length
 ·have d3:=bL f;obtain⟨b,off,rfl,x0,x1⟩:=(H0 _ HB).jn f;have e4:=aQ n;have O:=aN f;have l2:=My _ _ x0;have j:=hI (z0p (k:=K) (right:=right) f)
  have o:bG (oT S K right n=aW-> ∀i,i<n+1->oT S K right i=aW):=fun h i a6=>by
   rcases Pw i n with h' | h'
   ·exact I i h'
   obtain rfl:i=n:=ed;exact h
  have Q:bG (oT S K right n=bl->mN S K id pl right={kB K S.pt (nU S K.inn.en n) pl with inn:=S.ends[n],outs:=K.outs++[⟨id,n⟩]}):=fun h=>qk f h I;go_upto_region 4 with fail;generalize R:wo.alloc _=T;have a8:=jG R;have s:=jh HB a8;have b7:=hI (jA R);have a9:=HW1.below s;obtain⟨s0,s1,s2,b8⟩:=b6 _ s;have y7:=Ng a9.en;have e5:=Ng s0;have z1:=Ng s1;have z2:=Ng s2;have cH:bG (∀d os,jW 384 #[cZ #[S.id,S.pt,jq b off S.ends c],K.inn.en,jV (n:ar)] (grow (cF T d) os) fun e w0=>e=cL (dw #[jV (nU S K.inn.en n),jV (lO S K.inn.en n)])/\ ∃p:Regrown,w0=grow (cF T p.d) p.os):=fun d os=>Ps (z0m S _ c K.inn.en n _)
  have H1:=hI fun W' hb=>
   c8 W' n S.ends[n] (G.trans (cK.of_below (jo s hb) XT)) ed
  generalize nU S K.inn.en n=a2 at *;generalize lO S K.inn.en n=b9 at *;refine Mz ef ef ?_
  repeat (go_big_quiet_step (first | (with_reducible exact cH.o _ _)))
  refine cl ?_;rintro _ ⟨⟨c0,osq⟩,rfl⟩;generalize b0:grow (cF T c0) osq=W5;have J:jb T W5:=(by rw[<-b0];exact Nr T c0 osq);have l:=jh s J;have t:=hI (jm J b7);have u:=hI (HW1.below l);have A7:=hI (H1 W5 J);have y:=u.lost;obtain⟨j0,j1⟩:=DY t;have c1:=aD t;have l0:=u.lt;cases hL:K.lost with
  | true=>
   rw[hL]at y;have U:=hI (o (by rw[j.o,hL];rfl));go_wp2_with fail;go_roundg (S.ends.length-(n+1))
   ·go_light;exact⟨n+1,ed,ed,ej,l,U⟩
   go_light;omega
  | false=>
   rw[hL]at y;by_cases hi:b9=0
   ·subst hi;cases hR:right n S.ends[n]with
    | false=>
     have U:=hI (o (by rw[j.o,hR];simp));rw[hR]at A7;go_wp2_with fail;refine A7.mono ?_;rintro e w6 ⟨rfl,H⟩;have x:=jh l H;go_wp2_with fail;go_roundg (S.ends.length-(n+1))
     ·go_light;exact⟨n+1,ed,ed,ej,x,U⟩
     go_light;omega
    | true=>
     have a3:=hI (Q (by rw[j.o,hL,hR];simp));rw[hR]at A7;go_wp2_with fail;refine A7.mono ?_;rintro e w6 ⟨rfl,H⟩;have x:=jh l H;have V:=hI ((H.block _ c1).trans t);have D:=hI (u.below H);obtain⟨s0,s1,s2,b8⟩:=b6 _ x;clear H A7 y j0 j1 c1 l0;go_wp2_with fail;refine(LV g p _ q gg r va vo K S.pt a2 pl w6 D ed).mono ?_;rintro e w7 ⟨rfl,X,Y,v0,A⟩;have H2:=hI (G.trans ((cK.of_below x XT).trans X));have b1:=HW1.lt;have d4:=Nl b1 HB.size;have b2:wo.heap.size≠g:=ed;have L:=hI (Y _ _ _ _ V b2 eh);have H3:bG (bt wo.heap.size≠vo.ownBlock):=fun e=>by have:=(HW1.outs.lt _ e.symm).2;have:=HB.size;omega
     have hl:(kB K S.pt a2 pl).outs=K.outs:=ED _ _ _ _;have d5:(kB K S.pt a2 pl).outs.length<=900:=Up;rw[<-hl]at a3;generalize kB K S.pt a2 pl=K7 at *;have B:=hI A;have l7:=A.lt;have u9:=A.cvo;clear X Y A hl s0 s1 s2 b8 j o Q u D b7 t V;go_wp2_with (at_builtin;refine nT rfl _ _ 78 133 _ _ 2 16 rfl underlying78 AB rfl eh eh (g+1) vo K7.outs _ rfl B.outs ed (av.succ_le_of_lt l7) [jV id,jV (n:ar)] rfl rfl (uR _ _) ?_;intro d6 d7 w8 Z M;have hc:=(B.grownO M).1.trans B.blk;have hF:=jZ hc;have d8:=ji 9 hc;have d9:=ji 6 hc;have e0:=ji 7 hc;have a0:=(M.block _ (by {have:=aD L;simp;omega}) H3).trans ((Nv w7 _ (aD L)).trans L);have e1:=ji 0 a0;have e2:=ji 1 a0);obtain⟨-,b3,b4⟩:=B.grownO M;refine Nh (v:=dw #[]) (by simp[results,Tryz.f303,go_sem]) rfl ⟨rfl,H2.trans (b3.trans ((cK.setCell _ _ _ _).trans ((cK.setCell _ _ _ _).trans (cK.setCell _ _ _ _)))),v0,cJ (bt ⟨d6,0,bn⟩) (K7.outs.length+1) d7,?_⟩;rw[a3.o];refine⟨Uq,aV (aV (aV b4 ee _) ee _) ee _,aV (aV (aV ?_ ee _) ee _) ee _⟩
     simpa [fA,Dg,nG]using Z
   have t1:(b9 != 0)=bl:=Og;have U:=hI (o (by rw[j.o];simp[hi]));go_wp2_with fail;go_roundg (S.ends.length-(n+1))
   ·go_light;exact⟨n+1,ed,ed,ej,l,U⟩
   go_light;omega
 obtain rfl:n=S.ends.length:=ed;have a3:bG (mN S K id pl right={K with lost:=bl}):=qj I;have N:=hI (HW1.below HB);have y:=N.lost;have z0:=N.frozen 10;go_wp2_with fail;refine Nh (v:=dw #[]) (by simp[results,Tryz.f303,go_sem]) rfl ?_;refine⟨rfl,G.trans ((cK.of_below HB XT).trans (cK.setCell _ _ _ _)),va,vo,?_⟩;rw[a3.o];exact N.setLost
def z0q:mD 304:=fun args w=>Uu
def z0r:mD 305:=fun args w=>Uu
def z0s:mD 307:=fun args w=>Uu
def z0t (e:av) (j:Jn) (w:aj):Calls prog 304 (#[cW dr (e:ar),cZ #[j.tt,j.en]]++#[]) w (bY w (rV e j)):=by
 have h1:=AA;have H:bG (rV e j=ab (j.tt=0/\j.en=0)):=rfl;generalize rV e j=B at *;go_in;refine ei ?_;exact⟨aH (by rw[H.o];simp),aR⟩
def z0u (s:ar) (x:Sg) (a b:av) (e:av) (j:Jn) (w:aj) (h0:jc w a 0 s) (h1:jc w b 1 x.sec) (h2:jc w b 2 x.en):
  Calls prog 305 (#[cW dr (e:ar),cZ #[j.tt,j.en]]++#[cY (bt ⟨a,0,bn⟩),cY (bt ⟨b,0,bn⟩)]) w (bY w (tE s x e j)):=by
 have H:bG (tE s x e j=ab (s=x.sec/\(e:ar)=x.en)):=rfl;generalize tE s x e j=B at *;have l0:=My _ _ h0;have l1:=My _ _ h1;go_in;go_wp2_with fail
 all_goals
  go_ret;exact⟨aH (by rw[H.o,Dh];simp_all),aR⟩
def z0v (l:aq ar) (i:av) (ba d:av) (a:ax bR) (c:av) (e:av) (j:Jn) (w:aj) (h0:jc w ba 0 (js a l.length c)) (hl:IL w a l.length l) (h1:jc w d 0 (cW dr (i:ar))) (hn:i+1<l.length) (f:l.length<=1000):
  Calls prog 307 (#[cW dr (e:ar),cZ #[j.tt,j.en]]++#[cY (bt ⟨ba,0,bn⟩),cY (bt ⟨d,0,bn⟩)]) w (bY w (uX (l.getD (i+1) 0) e j)):=by
 have hd:l.getD (i+1) 0=l[i+1]:=Ek
 rw[hd];obtain⟨b,off,rfl,x0⟩:=hl.cell (i+1) hn;have H:bG (uX l[i+1] e j=ab (j.tt=l[i+1])):=rfl;generalize uX l[i+1] e j=B at *;generalize l[i+1]=n at *;generalize l.length=L at *;have l0:=My _ _ h0;have l1:=My _ _ h1;refine Qv fun _=>?_;have c0:(0:ar)<=(i:ar)+1:=ed
 have c1:(i:ar)+1<(L:ar):=ed
 go_in;go_wp2_with fail;go_quiet (fail);refine ei ?_;exact⟨aH (by rw[H.o];simp[aU.beq_eq_decide_eq]),jP aR _⟩
def VW {α:Type}(f:α->ar) (z:α) (l:aq α) (n:ar):dW f z (l.take 0) n=z:=by simp[dW]
def VV {α:Type}{f:α->ar}{z:α}{l:aq α}(h:k<l.length) (hz: ¬f l[k]=n):dW f z (l.take (k+1)) n=dW f z (l.take k) n:=by
 unfold dW;rw[Dc h,Gz];have:[l[k]].find? (fun x=>ab (f x=n))=bn:=Qh
 rw[this];cases (l.take k).find? (fun x=>ab (f x=n))<;>rfl
def VU {α:Type}{f:α->ar}{z:α}{l:aq α}(h:k<l.length) (b:dE f l l) (c:f l[k]=n):dW f z (l.take (k+1)) n=l[k]:=by
 unfold dW;rw[Dc h,Gz]
 have H:(l.take k).find? (fun x=>ab (f x=n))=bn:=by
  rw[Fq];intro x hx;obtain⟨i,g,rfl⟩:=No hx;rw[Dn]at g;rw[Tn]
  have a: ∀d,∀h1:i+d+1<l.length,f l[i]<f l[i+d+1]:=by
   intro d
   induction d with
   | zero=>intro h1;have:=(b (i+0+1) h1 h1).2 ed;simpa using this
   | succ d I=>
    intro h1;have h2:=I ed;have h3:=(b (i+(d+1)+1) h1 h1).2 ed;have e:i+(d+1)+1-1=i+d+1:=ed;simp only[e]at h3;omega
  have:=a (k-i-1) ed;have e:i+(k-i-1)+1=k:=ed
  simp only[e]at this;simp;omega
 rw[H];simp[c]
def z0w {a b c x y z:bw}{T:bT}{fr:av × av}(h:W.heap[g]? =bt (cO #[a,b,c] T fr)):(((W.setCell ⟨g,0,bn⟩ x).setCell ⟨g,1,bn⟩ y).setCell ⟨g,2,bn⟩ z).heap[g]? =bt (cO #[x,y,z] T fr):=by
 simp[cd,Nk,h]
def z0x (p:Pl) (s q g r:bw) (id:ar) (w:aj) (t:bN w s q g r p) (u:p.Fit) (x:dE Sg.id p.G p.G):
  jW 301 #[aT p s q g r,id] w fun e c=>e=cL (cZ #[jV (iZ p id).id,jV (iZ p id).sec,jV (iZ p id).en])/\jb w c:=by
 obtain⟨⟨a1,c1,rfl,k1⟩,⟨a2,c2,rfl,k2⟩,⟨a3,c3,rfl,k3⟩,⟨a4,c4,rfl,k4⟩⟩:=t;refine El fun y=>?_;have d:=hI x;have A:bG (iZ p id=dW Sg.id mI (p.G.take p.G) id):=by show _=_;rw[Ph];rfl
 have B:=u.G;generalize iZ p id=E at *;unfold aT;go_in;go_wp2_with fail;generalize o:(w.alloc _).alloc _=W;have K0:=hI (eN o)
 have f:=hI (jC o)
 go_loopg [10] p.G.length (fun g i wr=> ∃k:av,k<=p.G.length/\g=p.G.length-k/\i= jV k/\jb w wr/\jk wr (w+1) #[jV (dW Sg.id mI (p.G.take k) id).id,jV (dW Sg.id mI (p.G.take k) id).sec,jV (dW Sg.id mI (p.G.take k) id).en] 145)
 ·exact⟨0,ed,ed,rfl,K0,by rw[VW];exact f⟩
 obtain⟨k,C,rfl,rfl,hb,ho⟩:=hrel;obtain⟨j,rfl⟩: ∃j:aj,j=wr:=⟨_,rfl⟩;refine Qa fun a H=>?_;have L:=aD ho;clear hb ho;by_cases G9:k<p.G.length
 ·have l:=bL G9;obtain⟨b,off,rfl,x0,x1,x2⟩:=(y _ a).sg G9;refine Qb fun _ _=>?_;refine Qv fun _=>?_;have f0:=jZ H
  obtain⟨z0,z1,z2⟩:=fO H;by_cases he:p.G[k].id=id
  ·have t0:(p.G[k].id==id)=bl:=Xv;have n:=hI (VU (z:=mI) G9 d he);clear he;generalize p.G[k]=X at *;generalize dW Sg.id mI (p.G.take k) id=Y at *;go_wp2_with fail;go_roundg (p.G.length-(k+1))
   ·go_light;refine⟨k+1,ed,ed,ej,?_,?_⟩
    ·exact((((a.setCell ee _).setCell ee _).setCell ee _)).alloc (by simpa [cd]using a.o.size) _
    rw[n.o];exact(Nv _ _ (by simpa [cd]using L)).trans (z0w H)
   go_light;omega
  have t0:(p.G[k].id==id)=aW:=Ui;have n:=hI (VV (z:=mI) G9 he);generalize p.G[k]=X at *;generalize dW Sg.id mI (p.G.take k) id=Y at *;go_wp2_with fail;go_roundg (p.G.length-(k+1))
  ·go_light;exact⟨k+1,ed,ed,ej,a.alloc a.size _,by rw[n.o];exact(Nv j _ L).trans H⟩
  go_light;omega
 obtain rfl:k=p.G.length:=ed;have l:=bZ G9;rw[<-A.o]at H;go_wp2_with fail;obtain⟨q0,q1,q2⟩:=fO H;exact Nh (v:=cZ #[E.id,E.sec,E.en]) (by simp[results,Tryz.f301,go_sem,q0,q1,q2]) rfl ⟨rfl,a⟩
def z0y (g:av) (p:Pl) (A:ax bR) (C:av) (q gg r va vo:bw) (k:Wk) (id pl:ar) (W:aj)
  (w:eK W g p (js A p.S C) q gg r k va vo) (B: ∀W',cB g W W'->aB W' 3 cU A C p.S) (D:p.S.length<=1000) (i:k.asks.length<=900):
  jW 306 #[jp g 0,id,pl] W (VX W g p (js A p.S C) q gg r (pO p.S k id pl)):=by
 have x:=hI (VY g p A C q gg r va vo k id W w B D);have l0:=w.lt;have E:(fG p.S k id).asks.length<=900:=by rw[tD];exact i
 have j:bG (pO p.S k id pl=if(fG p.S k id).lost=aW/\0<(fG p.S k id).inn.en then kB (fG p.S k id) (kP p.S k id).pt (fG p.S k id).inn.en pl else fG p.S k id):=by
  show _=_;rw[qi];rfl
 generalize pO p.S k id pl=R at *;unfold JJ at x;generalize kP p.S k id=S at *;generalize fG p.S k id=K at *;go_in;go_wp2_with fail;refine x.mono ?_;rintro e w1 ⟨a,c,rfl,l,H,n⟩;unfold jY;have lg:=H.lt;go_upto_region 1 with fail;generalize hW:w1.alloc _=W1;have b:=jG hW
 have HO1:=hI (n.trans (cK.of_below b Ed));have HW1:=hI (H.below b);have s0:jc W1 w1 0 S.id:=by rw[<-hW];simp
 have s1:jc W1 w1 1 S.pt:=by rw[<-hW];simp
 have s2:jc W1 w1 2 (js a S.ends c):=by rw[<-hW];simp
 have y7:=HW1.en;have y:=HW1.lost;have l1:=HW1.lt;have l2:w1.heap.size<W1.heap.size:=Qc
 cases hL:K.lost with
 | true=>
  rw[hL]at y;have HE:=hI (j.trans<|Nm (fun h=>by rw[hL]at h;cases h.1));go_wp2_with fail;refine Nh (v:=dw #[]) (by simp[results,Tryz.f306,go_sem]) rfl ⟨rfl,HO1,va,vo,?_⟩;rw[HE.o];exact HW1
 | false=>
  rw[hL]at y;by_cases f:0<K.inn.en
  ·have t1:=jT f;have HE:=hI (j.trans<|Np ⟨hL,f⟩);refine Vb ?_
   go_still_tail 9,ef
   refine Yd fun z _ d=>?_;have HO13:=hI (HO1.trans (cK.of_below d (De l1)));have s:=hI (HW1.below d);go_wp2_with fail;refine(LV g p _ q gg r va vo K S.pt K.inn.en pl z s ed).mono ?_;rintro e w2 ⟨rfl,hO2,-,V,hw2⟩;refine Uc fun t u=>?_;go_wp2_with fail;refine Nh (v:=dw #[]) (by simp[results,Tryz.f306,go_sem]) rfl ⟨rfl,t,V,vo,?_⟩;rw[HE.o];exact u
  have t1:=jU f;have HE:=hI (j.trans<|Nm (fun h=>f h.2));go_wp2_with fail;refine Nh (v:=dw #[]) (by simp[results,Tryz.f306,go_sem]) rfl ⟨rfl,HO1,va,vo,?_⟩;rw[HE.o];exact HW1
def rS:(prog.info? 3).map (fun i=>(i.zero,i.size,i.bytes))=bt (bt (cW dr 0),1,8):=by kernel_rfl
def aA (w:aj) (base:av) (v:bw) (l:aq ar):Prop:=w.ownsRow base 3 1 v l (l.map (cW dr))
def aA.ilv {base:av}{v:bw}{l:aq ar}(h:aA w base v l):eP w v l:=DH h
def IL.reads {b off:av}{l:aq ar}(h:IL w (bt ⟨b,off,bn⟩) l l): ∀j u,(l.map (bw.int dr))[j]? =bt u->jc w b (off+j) u:=by
 intro j u hj;rw[Pp,ax.map_eq_some_iff]at hj;obtain⟨x,hx,rfl⟩:=hj;obtain⟨H,rfl⟩:=aq.getElem?_eq_some_iff.1 hx;obtain⟨B,o,e,a⟩:=h.cell j H;cases e;exact a
def DA (a:ax bR) (cap:av) (l:aq ar) (w:aj) (hl:IL w a l l) (G:l.length<=17592186044416):
  jW 210 #[js a l cap] w fun e f=> ∃v,e=cL v/\aA f w v l/\jb w f:=by
 have q:=fun w a n c t C=>Go.Lib.run_eql_slice_nil w _ _ a n c t C underlying54;obtain⟨i0,y,g,i,o⟩:=Se rS;cases a with
 | none=>
  have h0:l=[]:=by
   cases l with
   | nil=>rfl
   | cons c l=>obtain⟨b,off,e,_⟩:=hl.cell 0 ee;cases e
  subst h0;go_in;refine ei ?_;exact Zm
 | some ad=>
  by_cases h0:l=[]
  ·subst h0;go_in;refine ei ?_;exact⟨_,rfl,Si w #[] 0 ep (Pe _) ee,aR⟩
  obtain⟨b,off,e,-⟩:=hl.cell 0 (aq.length_pos_iff.2 h0);cases e;have HR:=hI hl.reads;have z:bG ((l.map (bw.int dr)).length=l.length * 1):=by show _=_;simp
  have H1:bG (∀u∈l.map (bw.int dr),u.oneCell'=bl):=by
   intro u A;obtain⟨x,-,rfl⟩:=aq.mem_map.1 A;rfl
  have B:bG (∀v W,W.ownsRow w 3 1 v (0+l.length) ([]++l.map (bw.int dr))->aA W w v l):=fun v W h=>by rw[Pa]at h;exact h
  generalize hq:l.map (bw.int dr)=N at *
  have D:bG (∀j u,N[j]? =bt u->(w.alloc (cO #[] 3)).cell? ((⟨b,off,bn⟩:bR).add j)=bt u):=fun j u hj=>by
   rw[Fn];exact(((Nb w w).alloc ep _).cell (p:=⟨b,off+j,bn⟩) Xx).trans (HR j u hj)
  have r:=hI (aq.length_pos_iff.2 h0);go_in;go_wp2_with (at_builtin;refine wpList_append_own_at _ rfl _ _ 54 rfl w 3 i0 (jV 0) 1 8 underlying54 y g i o rfl eh _ _ _ rfl (Si w #[] 0 ep (Pe _) ee) ⟨b,off,bn⟩ l cap N rfl z D H1 Oq ed ee ?_;intro v' f d H s E);have H:(w.alloc (cO #[] 3)).grownBy f (bt w):=H;go_ret;exact⟨_,rfl,B _ _ d,(((Nb _ w).alloc ep _).grown H ee Xn)⟩
def z0z (n:av) (w:aj) (g:n<=1000):
  jW 382 #[jN,jV (n:ar)] w fun e W=> ∃v,e=cL v/\W.ownsRow w 3 1 v 0 []/\jb w W:=by
 have c0:=aQ n
 have t0:ab ((n:ar)<0)=aW:=ee
 by_cases h:n=0
 ·subst h;go_in;refine ei ?_;exact Zm
 have t1:ab (0<(n:ar))=bl:=by simp;omega
 have t2:ab (0<n)=bl:=em
 obtain⟨i0,d,b,T4,hz2⟩:=Se rS
 obtain⟨C,row,H,f,c,a⟩: ∃(C:av) (row:aL bw),(∀ty,(Builtin.append_ #[54,3] ty #[jN,jV (n:ar)]).run prog w= .ok (jq w 0 n C) (w.drew.alloc (cO row 3)))/\n<=C/\C<=maxLen/\row.size=C:=by
  have h1:=grownCap_ge w n 0 3;refine⟨grownCap w n 0 3,_,fun ty=>Go.Lib.run_append_nil_zeros w 54 3 ty 3 i0 (jV 0) dr dr underlying54 underlying3 d b n ed Vm ed XY,h1,grownCap_le_maxLen w n 0 3 Oq,?_⟩;simp[Builtin.zeroCells,bw.cells];omega
 have H:=H 54;have d0:(C:ar)≥0:=ed
 go_in;go_wp2_with (at_builtin;refine Go.Lib.wpList_append_run _ rfl _ _ _ _ rfl _ _ rfl rfl _ _ H ?_);go_ret;refine⟨_,rfl,⟨rfl,.inr ⟨w,C,row,rfl,Mv _,Nc _ _,Pe _,c,by rw[a,Tb],rfl⟩⟩,(Nb _ w).drew.alloc ep _⟩
def aA.slice {base:av}{v:bw}{l:aq ar}(h:aA w base v l): ∃a c,v=cJ a l c:=by
 rcases h.2 with⟨rfl,h0⟩ | ⟨g,cap,cur,rfl,_⟩
 ·exact⟨bn,0,by rw[h0]⟩
 exact⟨_,_,rfl⟩
def sW {rest:aq Oper}{o:Oper}(d:o.guard=bn) (s x:Operand)
  (q:o.op= .call {callee:= .builtin .append,args:=#[s,x],argTypes:=#[54,54]}) (base:av) (v:bw) (xs:aq ar) (r:a.eval s=v) (hi:aA w base v xs)
  (a0:ax bR) (cap:av) (l:aq ar) (hx:a.eval x=cJ a0 l cap) (hl:IL w a0 l l) (B:xs.length+l.length<=17592186044416) (H:base<=w.heap.size)
  (h: ∀A c W,aA W base (js A (xs++l).length c) (xs++l)->w.grownBy W v.ownBlock->wpList prog ops Q rest (a.put o.dst (js A (xs++l).length c)) W):wpList prog ops Q (o::rest) a w:=by
 obtain⟨i0,f,i,k,n⟩:=Se rS;by_cases h0:l=[]
 ·subst h0
  have e:(Builtin.append_ #[54,54] o.type #[v,js a0 0 cap]).run prog w= .ok v w:=by
   rcases hi.2 with⟨rfl,hz⟩ | ⟨g,C,cur,rfl,_,_,p,_⟩
   ·cases a0<;>simp[Builtin.append_,Fk underlying54,sizeOf,typeInfo,f,Builtin.lenOf,Builtin.firstCells,loadCells,loadCellsFrom]
   cases a0<;>simp[Builtin.append_,Fk underlying54,sizeOf,typeInfo,f,Builtin.lenOf,Builtin.firstCells,p,storeCells,loadCells,loadCellsFrom]
  obtain⟨A,c,rfl⟩:=hi.slice;have t:=h A c w Og ⟨rfl,rfl,rfl,Mv _,fun _ _ _=>rfl⟩;refine Go.Lib.wpList_append_run w d s x 54 54 q _ _ r hx _ _ e ?_
  simpa using t
 obtain⟨b,off,rfl,-⟩:=hl.cell 0 (aq.length_pos_iff.2 h0);refine wpList_append_own_at w d s x 54 q base 3 i0 (jV 0) 1 8 underlying54 f i k n rfl eh v xs _ r hi ⟨b,off,bn⟩ l cap (l.map (cW dr)) hx ee ?_ ?_ Oq ed H ?_
 ·intro j u hj;rw[Fn];exact hl.reads j u hj
 ·intro u z;obtain⟨y,-,rfl⟩:=aq.mem_map.1 z;rfl
 intro v' W h1 h2 _ _
 have h1:aA W base v' (xs++l):=by
  unfold aA;rw[Mx,Pr];exact h1
 obtain⟨A,c,rfl⟩:=h1.slice;exact h A c W h1 h2
theorem VT (b:av) (A z:ax bR) (c1 c2:av) (l1 l2:aq ar) (w:aj) (h0:jc w b 0 (js A l1 c1)) (h1:jc w b 1 (js z l2 c2)) (k1:IL w A l1 l1) (k2:IL w z l2 l2) (M:l1.length<=400) (N:l2.length<=400):
  jW 302 #[jq b 0 2 2] w fun e W=> ∃a c,e=cL (js a (l1++l2).length c)/\aA W w (js a (l1++l2).length c) (l1++l2)/\jb w W:=by
 have K:bG (∃(sz:av->av) (C:av->aq ar),sz 0=0/\sz 2=(l1++l2).length/\C 0=[]/\C 2=l1++l2/\(∀k,k<=2->sz k<=800/\(C k).length=sz k)/\ ∀k,k<2-> ∃(a:ax bR) (c:av) (l:aq ar),(∀W,jb w W->jc W b k (js a l c)/\IL W a l l)/\sz (k+1)=sz k+l.length/\C (k+1)=C k++l):=by
  refine⟨fun k=>if k=0 then 0 else if k=1 then l1.length else(l1++l2).length,fun k=>if k=0 then []else if k=1 then l1 else l1++l2,rfl,rfl,rfl,rfl,fun k ho=> ?_,fun k ho=> ?_⟩
  ·rcases(show k=0\/k=1\/k=2 by omega)with rfl | rfl | rfl
   ·simp
   ·simp;omega
   simp;omega
  rcases(show k=0\/k=1 by omega)with rfl | rfl
  ·exact⟨A,c1,l1,fun W d=>⟨aP d h0,k1.below d⟩,ee,ee⟩
  exact⟨z,c2,l2,fun W d=>⟨aP d h1,k2.below d⟩,ee,ee⟩
 have lb:=My _ _ h0;clear h0 h1 k1 k2;obtain⟨sz,C,z0,z2,y0,Y,hb,ho⟩:=K.o;refine Qa fun f q=>?_;have O:=hI Y;rw[<-Y];have r:=(hb 2 ed).2;have P:=hI z2;have Q:=hI r;clear K hb ho Y z2 r;go_in;go_wp2_with fail;go_loopg [3,11] 2 (fun g i j wr=> ∃k:av,k<=2/\g=2-k/\i= jV (sz k)/\j= jV k/\w=wr)
 ·exact⟨0,ed,ed,by rw[z0];rfl,rfl,rfl⟩
 obtain⟨k,ho,rfl,rfl,rfl,rfl⟩:=hrel;by_cases n:k<2
 ·have o:ab ((k:ar)<2)=bl:=em;obtain⟨a,c,l,p,B,E⟩:=q k n;have x0:=(p _ Qy).1;have e0:=aQ k;have e3:(k:ar)<2:=ed;have x:=f (k+1) ed;have t0:ab (((sz k:av):ar)+(l:ar)<0)=aW:=em;have b1:sz k+l.length<=800:=ed;clear p E;go_wp2_with fail;go_roundg (2-(k+1))
  ·go_light;exact⟨k+1,ed,ed,by rw[B];go_num,ej,rfl⟩
  go_light;omega
 obtain rfl:k=2:=ed;have o:ab ((2:ar)<2)=aW:=rfl;have x:=(f 2 ed).1;go_wp2_with fail;refine(z0z (sz 2) _ ed).mono ?_;rintro e w1 ⟨v,rfl,H,s⟩;have D:=hI s;have t:bG (aA w1 w v (C 0)):=(by show aA _ _ _ _;rw[y0];exact H);obtain⟨va,V,rfl⟩:=t.slice;clear H s x;go_wp2_with fail;go_loopg [6,27] 2 (fun g i j wr=> ∃(k:av) (a:ax bR) (c:av),k<=2/\g=2-k/\i=cJ a (C k).length c/\j= jV k/\jb w wr/\aA wr w (js a (C k).length c) (C k))
 ·exact⟨0,va,V,ed,ed,by rw[y0];rfl,rfl,D,t⟩
 obtain⟨k,a,c,ho,rfl,rfl,rfl,d,L⟩:=hrel;have y:=hI d;have F:=hI L;have u:=d.size;clear d L;by_cases n:k<2
 ·have o:ab ((k:ar)<2)=bl:=em;obtain⟨R,T,l,p,B,E⟩:=q k n;have x0:=(p _ y).1;have U:=hI (p _ y).2;have e0:=aQ k;have e3:(k:ar)<2:=ed;have x:=(f (k+1) ed).1;have G:=(f k ed).2;have HE2:=hI E;have I:(C k).length+l.length<=17592186044416:=ed;clear p E B x G;go_wp2_with (at_builtin;refine sW rfl _ _ rfl w _ (C k) rfl F R T l rfl U I u ?_;intro a3 c3 w3 H J);rw[<-HE2.o]at H;go_roundg (2-(k+1))
  ·go_light;exact⟨k+1,a3,c3,ed,ed,YC,ej,y.trans (dT F ep u J),H⟩
  go_light;omega
 obtain rfl:k=2:=ed;have o:ab ((2:ar)<2)=aW:=rfl;refine ei ?_;exact⟨a,c,rfl,F,y⟩
