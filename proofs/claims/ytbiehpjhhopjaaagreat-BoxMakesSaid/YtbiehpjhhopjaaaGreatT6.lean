/- Walks, laws. -/
import Derived.Test.YtbiehpjhhopjaaaGreatT4
import Derived.OpenShut
import Derived.Lib.SlBytesConst
import Derived.WalkLawsBesides
import Derived.WalkSpells
set_option linter.all false
set_option maxRecDepth 100000
set_option maxHeartbeats 16000000
namespace Go.Proofs.YtbiehpjhhopjaaaGreat
open _root_ renaming Array->aL,Bool->aU,Bool.false->aW,Decidable.decide->ab,List->aq,Int->ar,Nat->av,Option->ax,Bool.true->bl,Option.none->bn,Option.some->bt,Decidable->cG,absurd->cv,inferInstance->cx
open Go renaming World->aj,undef->bE,RowKit.Hid->bG,Addr->bR,TypeId->bT,Value->bw,RowKit.Below->cB,redrawn->cF,Value.slice->cJ,Ending.returned->cL,Obj.cells->cO,Value.int->cW,Value.pointer->cY,Value.agg->cZ,World.setCell->cd,World.alloc->cj,wpQuiet_nil->cl,Value.bool->db,Operand.tmp->dk
open Go.RowKit Go.Sort Tryz
variable {W W' w:aj}{B cap g k len n:av}{T e:bT}{a:bR}{v1 v2 v3:bw}{c cs:aL bw}{fr:av × av}{ops:aL Oper}{Q:Exit->Act->aj->Prop}
def yD (p:Pl) (j:av) (h:j<p.P.length):Prop:=(1<=p.P[j].id/\p.P[j].id<=99)/\(∀h':0<j,p.P[j-1].id<p.P[j].id)/\ ∃m,∃hm:m<p.S.length,dA (fun x=>ab (x.id=p.P[j].sec)) p.S=(m:ar)/\p.S[m].pt=p.P[j].id
def mh {p:Pl}(b:eR p.S p.S):kH p↔(∀j (h:j<p.P.length),yD p j h)/\(p.P:ar)<=6/\fZ p.S p.S=p.P.length:=by
 constructor
 ·rintro⟨⟨h1,h2⟩,h3,h4⟩;refine⟨fun j h=>⟨(h1 j h h).1,(h1 j h h).2,?_⟩,h2,h3⟩;obtain⟨s,c,e1,e2⟩:=h4 j h;obtain⟨i,d,rfl⟩:=No c;rcases kF (fun x:aF=>ab (x.id=p.P[j].sec)) p.S with⟨_,H⟩ | ⟨m,a,e,h5,_⟩
  ·have:=H i d;simp[e1]at this
  refine⟨m,a,e,?_⟩;have:p.S[m]=p.S[i]:=z12 b (Nn _) (Nn _) (by rw[e1];simpa using h5);rw[this];exact e2
 rintro⟨h1,h2,h3⟩;refine⟨⟨fun j h _=>⟨(h1 j h).1,(h1 j h).2.1⟩,h2⟩,h3,fun j h=> ?_⟩;obtain⟨m,a,e,h5⟩:=(h1 j h).2.2;refine⟨p.S[m],Nn _,?_,h5⟩;rcases kF (fun x:aF=>ab (x.id=p.P[j].sec)) p.S with⟨E,_⟩ | ⟨M,f,E,h6,_⟩
 ·rw[E]at e;omega
 have:M=m:=(by rw[E]at e;omega);subst this
 simpa using h6
theorem zj (p:Pl) (s q gg a4:bw) (w:aj) (Q:bN w s q gg a4 p) (a8:p.S.length<=1000) (hq:p.P.length<=100000) (R:eR p.S p.S):jW 213 #[aT p s q gg a4] w (bY w (ab (kH p))):=by
 have a:bG (∀k (h:k<p.P.length),¬yD p k h->ab (kH p)=aW):=fun k h a9=>by
  rw[Ns,mh R];exact fun n=>a9 (n.1 k h)
 have o:bG (∀b:aU,(∀j (h:j<p.P.length),yD p j h)->(b=bl↔(p.P:ar)<=6/\fZ p.S p.S=p.P.length)->ab (kH p)=b):=fun b h1 h2=>by
  rw[Dh,h2,Dj,mh R];exact⟨fun h=>h.2,fun h=>⟨h1,h⟩⟩
 obtain⟨a1,k1,rfl,h1⟩:=Q.S;obtain⟨a2,k2,rfl,h2⟩:=Q.P;have M:bG (∀W,jb w W->aB W 3 cU a1 k1 p.S):=fun W ho=>h1.below gN ho;have a5:bG (∀W,jb w W->aB W 2 iA a2 k2 p.P):=fun W ho=>h2.below lT ho;clear Q h1 h2 R;unfold aT;generalize ab (kH p)=B at *;go_in;go_upto_region 1 with fail;generalize y:cj _ _=W0;have K0:=hI (jG y)
 have D:jc W0 w 2 (js a1 p.S k1):=by rw[<-y];simp
 have J:jc W0 w 3 (js a2 p.P k2):=by rw[<-y];simp
 have lb:=Mt D;have F2:bG (∀W,jb W0 W->jc W w 2 (js a1 p.S k1)):=fun W ho=>aP ho D;have F3:bG (∀W,jb W0 W->jc W w 3 (js a2 p.P k2)):=fun W ho=>aP ho J;have b3:=hI lb;clear y;go_wp2_with fail;go_loopg [3,4] p.S.length (fun g m i wr=> ∃k:av,k<=p.S.length/\g=p.S.length-k/\m= jV (fZ p.S k)/\i= jV k/\wr=W0)
 ·exact⟨0,by omega,by omega,by rw[ml];rfl,rfl,rfl⟩
 obtain⟨k,b0,rfl,rfl,rfl,a6⟩:=hrel;obtain rfl:=a6.symm;clear a6;by_cases G9:k<p.S.length
 ·have T:=bL G9;obtain⟨b,off,b4,b5,rfl,x0,x1,x2,E⟩:=(M _ K0).sec G9;have c0:=aQ k;have c1:=aN G9;have l2:=My _ _ x0;have z:=mj G9;have U:=EH p.S k;clear E;by_cases hz:p.S[k].pt=0
  ·have t0:(p.S[k].pt != 0)=aW:=(by simp[hz]);have HV:bG (fZ p.S (k+1)=fZ p.S k):=(by rw[z,Nm (by simpa using hz)];rfl);clear z hz;generalize fZ p.S k=c at *;go_wp2_with fail;go_roundg (p.S.length-(k+1))
   ·go_light;exact⟨k+1,by omega,by omega,by rw[HV.o],by go_num,rfl⟩
   go_light;omega
  have t0:(p.S[k].pt != 0)=bl:=(by simp[hz]);have HV:bG (fZ p.S (k+1)=fZ p.S k+1):=(by rw[z,Np hz];rfl);clear z hz;generalize fZ p.S k=c at *;go_wp2_with fail;go_roundg (p.S.length-(k+1))
  ·go_light;exact⟨k+1,by omega,by omega,by rw[HV.o];go_num,by go_num,rfl⟩
  go_light;omega
 obtain rfl:k=p.S.length:=(by omega);have T:=bZ G9;have U:=EH p.S p.S;generalize V:fZ p.S p.S=C at *;go_wp2_with fail;go_loopg [5] p.P.length (fun g i wr=> ∃k:av,k<=p.P.length/\g=p.P.length-k/\i= jV k/\jb W0 wr/\ ∀j (h:j<p.P.length),j<k->yD p j h)
 ·exact⟨0,by omega,by omega,rfl,Nb _ _,fun j h hj=>by omega⟩
 obtain⟨k,b0,rfl,rfl,ho,hb⟩:=hrel;obtain⟨N,rfl⟩: ∃N:aj,N=wr:=⟨_,rfl⟩;have G:=hI hb;have KO:=hI ho;have K1:=jh K0 ho;clear ho hb D J;have D:=F2 _ KO;have J:=F3 _ KO;have lb:=Mt D;by_cases G9:k<p.P.length
 ·have L:=bL G9;obtain⟨b,off,rfl,x0,x1⟩:=(a5 _ K1).pt G9;have c0:=aQ k;have c1:=aN G9;have l2:=My _ _ x0;go_upto_region 11 with fail;generalize hW:cj _ _=wA;have t:=jG hW;have y0:jc wA N 0 p.P[k].id:=(by rw[<-hW];simp);have y1:jc wA N 1 p.P[k].sec:=(by rw[<-hW];simp);have KA:=jh KO t;have K:=jh K1 t;have g2:=aP t D;have g3:=aP t J;clear hW t x0 x1 D J l2 lb;have lb:=Mt g2;have b6:=Mt y0;go_wp2_with fail;refine(tG a1 k1 p.S p.P[k].sec wA (M _ K) a8).mono ?_;rintro e b7 ⟨rfl,rfl⟩;have a7:=fun d os=>KA.trans ((Nr wA d os).mono KA.size);have I0:=hI a7;have KW:bG (∀W,jb W0 W->jb w W):=fun W ho=>jo K0 ho;have Y0:=Ng y0;have G2:=Ng g2;have G3:=Ng g3;have f:=hI (kF (fun x:aF=>ab (x.id=p.P[k].sec)) p.S);generalize hF:dA (fun x:aF=>ab (x.id=p.P[k].sec)) p.S=F at *;have H:=hI hF;clear a7 y1 hF;by_cases h1:p.P[k].id<1
  ·have u1:=jT h1;have HE:=hI (a k G9 (fun n=>by have:=n.1.1;omega));clear H f;go_upto_region 12 with fail;refine Mz (by kernel_rfl) (by kernel_rfl) ?_
   repeat (go_big_quiet_step (fail))
   refine cl ?_;rintro _ ⟨⟨dq,osq⟩,rfl⟩;go_wp2_with fail;go_ret;exact⟨aH HE.symm,KW _ (I0 dq osq)⟩
  have u1:=jU h1;by_cases h2:99<p.P[k].id
  ·have u2:=jT h2;have HE:=hI (a k G9 (fun n=>by have:=n.1.2;omega));clear H f;go_upto_region 12 with fail;refine Mz (by kernel_rfl) (by kernel_rfl) ?_
   repeat (go_big_quiet_step (fail))
   refine cl ?_;rintro _ ⟨⟨dq,osq⟩,rfl⟩;go_wp2_with fail;go_ret;exact⟨aH HE.symm,KW _ (I0 dq osq)⟩
  have u2:=jU h2;by_cases h3:0<k
  ·have u3:ab ((0:ar)<(k:ar))=bl:=(by simp;omega);obtain⟨b8,o0,X,z0,z1⟩:=(a5 _ K).pt (i:=k-1) (by omega);cases X;have b9:((k-1:av):ar)=(k:ar)-1:=(by omega);have Z0:=Ng z0;have e0:(0:ar)<=(k:ar)-1:=(by omega);have e1:(k:ar)-1<(p.P:ar):=(by omega);have c2:((k:ar)-1).toNat=k-1:=(by omega);clear z0 z1;by_cases h4:p.P[k].id<=p.P[k-1].id
   ·have u6:=jT h4;have HE:=hI (a k G9 (fun n=>by have:=n.2.1 h3;omega));clear H f;go_upto_region 12 with fail;refine Mz (by kernel_rfl) (by kernel_rfl) ?_
    repeat (go_big_quiet_step (fail))
    refine cl ?_;rintro _ ⟨⟨dq,osq⟩,rfl⟩;go_wp2_with fail;go_ret;exact⟨aH HE.symm,KW _ (I0 dq osq)⟩
   have u6:=jU h4;rcases f.o with⟨r,l⟩ | ⟨m,A,r,l,u⟩
   ·subst r;have u4:ab ((-1:ar)<0)=bl:=(by decide);have HE:=hI (a k G9 (fun n=>by obtain⟨m,A,e,_⟩:=n.2.2;rw[H.o]at e;omega));clear H f l;go_upto_region 12 with fail;refine Mz (by kernel_rfl) (by kernel_rfl) ?_
    repeat (go_big_quiet_step (fail))
    refine cl ?_;rintro _ ⟨⟨dq,osq⟩,rfl⟩;go_wp2_with fail;go_ret;exact⟨aH HE.symm,KW _ (I0 dq osq)⟩
   subst r;have u4:ab ((m:ar)<0)=aW:=(by simp);obtain⟨b2,O,b1,c3,rfl,Y,v1,v2,-⟩:=(M _ K).sec A;have V1:=Ng v1;have d0:=aQ m;have d1:=aN A;clear Y v1 v2;by_cases h5:p.S[m].pt=p.P[k].id
   ·have Z:bG (yD p k G9):=⟨⟨by omega,by omega⟩,fun _=>by omega,m,A,H,h5⟩;have u5:(p.S[m].pt != p.P[k].id)=aW:=(by simp[h5]);clear H f l u h5;go_upto_region 12 with fail;refine Mz (by kernel_rfl) (by kernel_rfl) ?_
    repeat (go_big_quiet_step (fail))
    refine cl ?_;rintro _ ⟨⟨dq,osq⟩,rfl⟩;go_wp2_with fail;go_roundg (p.P.length-(k+1))
    ·go_light;refine⟨k+1,by omega,by omega,by go_num,I0 dq osq,fun j h hj=> ?_⟩;by_cases I:j=k
     ·subst I;exact Z
     exact G j h (by omega)
    go_light;omega
   have u5:(p.S[m].pt != p.P[k].id)=bl:=by simp[h5]
   have HE:=hI (a k G9 (fun n=>by
    obtain⟨a0,a3,e,h6⟩:=n.2.2;rw[H.o]at e;have:m=a0:=(by omega);subst this
    exact h5 h6))
   clear H f l u h5;go_upto_region 12 with fail;refine Mz (by kernel_rfl) (by kernel_rfl) ?_
   repeat (go_big_quiet_step (fail))
   refine cl ?_;rintro _ ⟨⟨dq,osq⟩,rfl⟩;go_wp2_with fail;go_ret;exact⟨aH HE.symm,KW _ (I0 dq osq)⟩
  have u3:ab ((0:ar)<(k:ar))=aW:=(by simp;omega);rcases f.o with⟨r,l⟩ | ⟨m,A,r,l,u⟩
  ·subst r;have u4:ab ((-1:ar)<0)=bl:=(by decide);have HE:=hI (a k G9 (fun n=>by obtain⟨m,A,e,_⟩:=n.2.2;rw[H.o]at e;omega));clear H f l;go_upto_region 12 with fail;refine Mz (by kernel_rfl) (by kernel_rfl) ?_
   repeat (go_big_quiet_step (fail))
   refine cl ?_;rintro _ ⟨⟨dq,osq⟩,rfl⟩;go_wp2_with fail;go_ret;exact⟨aH HE.symm,KW _ (I0 dq osq)⟩
  subst r;have u4:ab ((m:ar)<0)=aW:=(by simp);obtain⟨b2,O,b1,c3,rfl,Y,v1,v2,-⟩:=(M _ K).sec A;have V1:=Ng v1;have d0:=aQ m;have d1:=aN A;clear Y v1 v2;by_cases h5:p.S[m].pt=p.P[k].id
  ·have Z:bG (yD p k G9):=⟨⟨by omega,by omega⟩,fun h=>cv h h3,m,A,H,h5⟩;have u5:(p.S[m].pt != p.P[k].id)=aW:=(by simp[h5]);clear H f l u h5;go_upto_region 12 with fail;refine Mz (by kernel_rfl) (by kernel_rfl) ?_
   repeat (go_big_quiet_step (fail))
   refine cl ?_;rintro _ ⟨⟨dq,osq⟩,rfl⟩;go_wp2_with fail;go_roundg (p.P.length-(k+1))
   ·go_light;refine⟨k+1,by omega,by omega,by go_num,I0 dq osq,fun j h hj=> ?_⟩;by_cases I:j=k
    ·subst I;exact Z
    exact G j h (by omega)
   go_light;omega
  have u5:(p.S[m].pt != p.P[k].id)=bl:=by simp[h5]
  have HE:=hI (a k G9 (fun n=>by
   obtain⟨a0,a3,e,h6⟩:=n.2.2;rw[H.o]at e;have:m=a0:=(by omega);subst this
   exact h5 h6))
  clear H f l u h5;go_upto_region 12 with fail;refine Mz (by kernel_rfl) (by kernel_rfl) ?_
  repeat (go_big_quiet_step (fail))
  refine cl ?_;rintro _ ⟨⟨dq,osq⟩,rfl⟩;go_wp2_with fail;go_ret;exact⟨aH HE.symm,KW _ (I0 dq osq)⟩
 obtain rfl:k=p.P.length:=(by omega);have L:=bZ G9;have v:=hI (fun j (h:j<p.P.length)=>G j h h);by_cases h6:(p.P:ar)<=6
 ·have v6:=jT h6;by_cases P:C=p.P.length
  ·have e0:((C:ar)==(p.P:ar))=bl:=(by rw[Da];omega);have HE:=hI (o bl v (by simp[P,h6]));clear P V h6;go_wp2_with fail;go_ret;exact⟨aH HE.symm,K1⟩
  have e0:((C:ar)==(p.P:ar))=aW:=(by rw[Nd];omega);have HE:=hI (o aW v (by simp[P]));clear P V h6;go_wp2_with fail;go_ret;exact⟨aH HE.symm,K1⟩
 have v6:=jU h6;have HE:=hI (o aW v (by simp[h6]));clear V h6;go_wp2_with fail;go_ret;exact⟨aH HE.symm,K1⟩
def EO (p:Pl) (m:av) (hm:m<p.G.length) (j:av) (h:j<p.G.length):Prop:=p.G[m].id<p.G[j].id/\ ¬(p.G[m].sec=p.G[j].sec/\p.G[m].en=p.G[j].en)
def AJ (p:Pl) (j:av) (h:j<p.G.length):Prop:=(1<=p.G[j].id/\p.G[j].id<=99)/\(∃m,∃hm:m<p.S.length,dA (fun x=>ab (x.id=p.G[j].sec)) p.S=(m:ar)/\0<=p.G[j].en/\p.G[j].en<p.S[m].ends.length)/\ ∀m (hm:m<j),EO p m (by omega) j h
def SC {l:aq aF}{n:ar}{m:av}(H:m<l.length) (h:dA (fun x=>ab (x.id=n)) l=(m:ar)):l[m].id=n:=by
 rcases kF (fun x:aF=>ab (x.id=n)) l with⟨e,_⟩ | ⟨k,a,e,h1,_⟩
 ·rw[e]at h;omega
 have:k=m:=by rw[e]at h;omega
 subst this
 simpa using h1
def z4r {l:aq aF}{n:ar}(h:dX aF.id l n=bl): ∃m,∃b:m<l.length,dA (fun x=>ab (x.id=n)) l=(m:ar)/\l[m].id=n:=by
 rcases kF (fun x:aF=>ab (x.id=n)) l with⟨_,h2⟩ | ⟨k,H,e,h1,_⟩
 ·unfold dX at h;rw[Tg]at h;obtain⟨x,hx,e⟩:=h;obtain⟨i,a,rfl⟩:=No hx;rw[h2 i a]at e;cases e
 exact⟨k,H,e,by simpa using h1⟩
def SB {p:Pl}(a:eR p.S p.S):lV (dQ p.S p.S) p.G↔(∀j (h:j<p.G.length),AJ p j h)/\(p.G:ar)<=10:=by
 constructor
 ·rintro⟨⟨h1,h2⟩,h3⟩;refine⟨fun j h=>⟨(h1 j h h).1,?_,fun m H=>⟨wP h1 h H,(h3 j h h).2 m H⟩⟩,h2⟩;have h4:=(h3 j h h).1;obtain⟨m,H,e,h5⟩:=z4r (CR h4.1);refine⟨m,H,e,h4.2.1,?_⟩;have h6:=h4.2.2;have h7:=h4.1;rw[zU a H p.G[j].sec.toNat (by have:=h7.1;omega)]at h6;exact h6
 rintro⟨h1,h2⟩;refine⟨⟨fun j h _=>⟨(h1 j h).1,fun h'=>((h1 j h).2.2 (j-1) ed).1⟩,h2⟩,fun j h _=>⟨?_,fun m H=>((h1 j h).2.2 m H).2⟩⟩;obtain⟨m,H,e,h3,h4⟩:=(h1 j h).2.1;have h5:=SC H e
 have h6:dX aF.id p.S p.G[j].sec=bl:=by
  unfold dX;rw[Tg];exact⟨p.S[m],Nn _,by simp[h5]⟩
 have h7:=VJ a h6;refine⟨h7,h3,?_⟩;rw[zU a H p.G[j].sec.toNat (by have:=h7.1;omega)];exact h4
theorem sr (p:Pl) (s q gg a9:bw) (w:aj) (X:bN w s q gg a9 p) (Z:p.Fit) (a0:eR p.S p.S):jW 214 #[aT p s q gg a9] w (bY w (ab (lV (dQ p.S p.S) p.G))):=by
 have H:bG (∀k (h:k<p.G.length),¬AJ p k h->ab (lV (dQ p.S p.S) p.G)=aW):=fun k h b6=>by
  rw[Ns,SB a0];exact fun c=>b6 (c.1 k h)
 have n:bG (∀b:aU,(∀j (h:j<p.G.length),AJ p j h)->(b=bl↔(p.G:ar)<=10)->ab (lV (dQ p.S p.S) p.G)=b):=fun b h1 h2=>by
  rw[Dh,h2,Dj,SB a0];exact⟨fun h=>h.2,fun h=>⟨h1,h⟩⟩
 obtain⟨T,U,rfl,h1⟩:=X.S;obtain⟨a3,k3,rfl,h3⟩:=X.G;have b0:bG (∀W,jb w W->aB W 3 cU T U p.S):=fun W ho=>h1.below gN ho;have b1:bG (∀W,jb w W->aB W 3 gZ a3 k3 p.G):=fun W ho=>h3.below lA ho;have b7:=Z.S;have hq:=Z.G;clear X Z h1 h3 a0;unfold aT;generalize ab (lV (dQ p.S p.S) p.G)=B at *;go_in;go_upto_region 1 with fail;generalize t:cj _ _=W0;have K0:=hI (jG t)
 have I:jc W0 w 2 (js T p.S U):=by rw[<-t];simp
 have J:jc W0 w 4 (js a3 p.G k3):=by rw[<-t];simp
 have F2:bG (∀W,jb W0 W->jc W w 2 (js T p.S U)):=fun W ho=>aP ho I;have F3:bG (∀W,jb W0 W->jc W w 4 (js a3 p.G k3)):=fun W ho=>aP ho J;clear t;go_wp2_with fail;go_loopg [3] p.G.length (fun g i wr=> ∃k:av,k<=p.G.length/\g=p.G.length-k/\i= jV k/\jb W0 wr/\ ∀j (h:j<p.G.length),j<k->AJ p j h)
 ·exact⟨0,by omega,by omega,rfl,Nb _ _,fun j h hj=>by omega⟩
 obtain⟨k,c0,rfl,rfl,ho,hb⟩:=hrel;obtain⟨y,rfl⟩: ∃y:aj,y=wr:=⟨_,rfl⟩;have L:=hI hb;have KO:=hI ho;have K1:=jh K0 ho;clear ho hb I J;have I:=F2 _ KO;have J:=F3 _ KO;have lb:=Mt I;by_cases G9:k<p.G.length
 ·have b2:=bL G9;obtain⟨b,off,rfl,x0,x1,x2⟩:=(b1 _ K1).sg G9;have c1:=aQ k;have c2:=aN G9;have l2:=My _ _ x0;go_upto_region 5 with fail;generalize hW:cj _ _=z;have u:=jG hW;have Y:jc z y 0 p.G[k].id:=(by rw[<-hW];simp);have y1:jc z y 1 p.G[k].sec:=(by rw[<-hW];simp);have V:jc z y 2 p.G[k].en:=(by rw[<-hW];simp);have b8:bG (∀W,jb z W->jc W y 0 p.G[k].id/\jc W y 1 p.G[k].sec/\jc W y 2 p.G[k].en):=fun W ho=>⟨aP ho Y,aP ho y1,aP ho V⟩;have a1:=jh KO u;have N:=jh K1 u;have g2:=aP u I;clear hW u x0 x1 x2 I J l2 lb;have lb:=Mt g2;have b3:=Mt Y;go_wp2_with fail;refine(tG T U p.S p.G[k].sec z (b0 _ N) b7).mono ?_;rintro e c3 ⟨rfl,rfl⟩;have a2:=fun d os=>Nr z d os;have O:=hI a2;have I0:=hI fun d os=>a1.trans ((a2 d os).mono a1.size);have KW:bG (∀W,jb W0 W->jb w W):=fun W ho=>jo K0 ho;have Y0:=Ng Y;have Y2:=Ng V;have G2:=Ng g2;have f:=hI (kF (fun x:aF=>ab (x.id=p.G[k].sec)) p.S);generalize hF:dA (fun x:aF=>ab (x.id=p.G[k].sec)) p.S=F at *;have a:=hI hF;clear a2 y1 hF Y V;by_cases h1:p.G[k].id<1
  ·have HE:=hI (H k G9 (fun c=>by have:=c.1.1;omega));clear a f;go_upto_region 6 with fail;refine Mz (by kernel_rfl) (by kernel_rfl) ?_
   repeat (go_big_quiet_step (fail))
   refine cl ?_;rintro _ ⟨⟨dq,osq⟩,rfl⟩;go_wp2_with fail;go_ret;exact⟨aH HE.symm,KW _ (I0 dq osq)⟩
  have u1:=jU h1;by_cases h2:99<p.G[k].id
  ·have HE:=hI (H k G9 (fun c=>by have:=c.1.2;omega));clear a f;go_upto_region 6 with fail;refine Mz (by kernel_rfl) (by kernel_rfl) ?_
   repeat (go_big_quiet_step (fail))
   refine cl ?_;rintro _ ⟨⟨dq,osq⟩,rfl⟩;go_wp2_with fail;go_ret;exact⟨aH HE.symm,KW _ (I0 dq osq)⟩
  have u2:=jU h2;rcases f.o with⟨C,o⟩ | ⟨m,P,C,o,D⟩
  ·subst C;have HE:=hI (H k G9 (fun c=>by obtain⟨m,P,e,_⟩:=c.2.1;rw[a.o]at e;omega));clear a f o;go_upto_region 6 with fail;refine Mz (by kernel_rfl) (by kernel_rfl) ?_
   repeat (go_big_quiet_step (fail))
   refine cl ?_;rintro _ ⟨⟨dq,osq⟩,rfl⟩;go_wp2_with fail;go_ret;exact⟨aH HE.symm,KW _ (I0 dq osq)⟩
  subst C;have u4:ab ((m:ar)<0)=aW:=(by simp);obtain⟨c4,o0,c5,c6,rfl,v0,v1,v2,-⟩:=(b0 _ N).sec P;have V2:=Ng v2;have d0:=aQ m;have d1:=aN P;clear v0 v1 v2;by_cases h4:p.G[k].en<0
  ·have HE:=hI (H k G9 (fun c=>by
    obtain⟨a4,a5,e,h6,h7⟩:=c.2.1;rw[a.o]at e;have:m=a4:=(by omega);subst this
    omega))
   clear a f o D;go_upto_region 6 with fail;refine Mz (by kernel_rfl) (by kernel_rfl) ?_
   repeat (go_big_quiet_step (fail))
   refine cl ?_;rintro _ ⟨⟨dq,osq⟩,rfl⟩;go_wp2_with fail;go_ret;exact⟨aH HE.symm,KW _ (I0 dq osq)⟩
  have u5:=jU h4;by_cases h5:(p.S[m].ends.length:ar)<=p.G[k].en
  ·have HE:=hI (H k G9 (fun c=>by
    obtain⟨a4,a5,e,h6,h7⟩:=c.2.1;rw[a.o]at e;have:m=a4:=(by omega);subst this
    omega))
   clear a f o D;go_upto_region 6 with fail;refine Mz (by kernel_rfl) (by kernel_rfl) ?_
   repeat (go_big_quiet_step (fail))
   refine cl ?_;rintro _ ⟨⟨dq,osq⟩,rfl⟩;go_wp2_with fail;go_ret;exact⟨aH HE.symm,KW _ (I0 dq osq)⟩
  have u6:=jU h5;have b4:bG ((1<=p.G[k].id/\p.G[k].id<=99)/\(∃m,∃P:m<p.S.length,dA (fun x=>ab (x.id=p.G[k].sec)) p.S=(m:ar)/\0<=p.G[k].en/\p.G[k].en<p.S[m].ends.length)):=⟨⟨by omega,by omega⟩,m,P,a,by omega,by omega⟩;clear a f o D h1 h2 h4 h5;go_upto_region 6 with fail;refine Mz (by kernel_rfl) (by kernel_rfl) ?_
  repeat (go_big_quiet_step (fail))
  refine cl ?_;rintro _ ⟨⟨dq,osq⟩,rfl⟩;have H1:=hI (I0 dq osq);have H0:=hI (O dq osq);generalize a6:grow (cF z dq) osq=c7 at *;clear a6 O I0 Y0 Y2 G2 V2;clear g2 lb b3;go_wp2_with fail;go_loopg [6] k (fun g i wr=> ∃m:av,m<=k/\g=k-m/\i= jV m/\jb z wr/\ ∀j (h:j<k),j<m->EO p j (by omega) k G9)
  ·exact⟨0,by omega,by omega,rfl,H0,fun j h hj=>by omega⟩
  obtain⟨M,b9,rfl,rfl,ho,hb⟩:=hrel;obtain⟨b5,rfl⟩: ∃b5:aj,b5=wr:=⟨_,rfl⟩;have E:=hI hb;have Q:=hI ho;have G:=jh a1 ho;have K:=hI (KW _ G);clear ho hb;have J:=F3 _ G;obtain⟨Y,y1,V⟩:=b8 _ Q;have b3:=Mt Y;by_cases l:M<k
  ·have a7:=bL l;have v:M<p.G.length:=(by omega);obtain⟨c8,o1,a8,z0,z1,z2⟩:=(b1 _ K).sg v;cases a8;have e0:=aQ M;have e1:=aN v;by_cases h6:p.G[k].id<=p.G[M].id
   ·have u6:=jT h6;have HE:=hI (H k G9 (fun c=>by have:=(c.2.2 M l).1;omega));clear h6;go_wp2_with fail;go_ret;exact⟨aH HE.symm,K.alloc K.size _⟩
   have u6:=jU h6;by_cases h7:p.G[M].sec=p.G[k].sec
   ·have u7:(p.G[M].sec==p.G[k].sec)=bl:=(by rw[Da];exact h7);by_cases h8:p.G[M].en=p.G[k].en
    ·have u8:(p.G[M].en==p.G[k].en)=bl:=(by rw[Da];exact h8);have HE:=hI (H k G9 (fun c=>(c.2.2 M l).2 ⟨h7,h8⟩));clear h6 h7 h8;go_wp2_with fail;go_ret;exact⟨aH HE.symm,K.alloc K.size _⟩
    have u8:(p.G[M].en==p.G[k].en)=aW:=(by rw[Nd];exact h8);have R:bG (EO p M v k G9):=⟨by omega,fun h=>h8 h.2⟩;clear h6 h7 h8;go_wp2_with fail;go_roundg (k-(M+1))
    ·go_light;refine⟨M+1,by omega,by omega,by go_num,Q.alloc Q.size _,fun j h hj=> ?_⟩;by_cases r:j=M
     ·subst r;exact R
     exact E j h (by omega)
    go_light;omega
   have u7:(p.G[M].sec==p.G[k].sec)=aW:=(by rw[Nd];exact h7);have R:bG (EO p M v k G9):=⟨by omega,fun h=>h7 h.1⟩;clear h6 h7;go_wp2_with fail;go_roundg (k-(M+1))
   ·go_light;refine⟨M+1,by omega,by omega,by go_num,Q.alloc Q.size _,fun j h hj=> ?_⟩;by_cases r:j=M
    ·subst r;exact R
    exact E j h (by omega)
   go_light;omega
  obtain rfl:M=k:=(by omega);have a7:=bZ l;have R:bG (AJ p M G9):=⟨b4.1,b4.2,fun j hj=>E j hj hj⟩;go_wp2_with fail;go_roundg (p.G.length-(M+1))
  ·go_light;refine⟨M+1,by omega,by omega,by go_num,G,fun j h hj=> ?_⟩;by_cases r:j=M
   ·subst r;exact R
   exact L j h (by omega)
  go_light;omega
 obtain rfl:k=p.G.length:=(by omega);have A:=hI (fun j (h:j<p.G.length)=>L j h h);by_cases h6:(p.G:ar)<=10
 ·have v6:=jT h6;have HE:=hI (n bl A (by simp[h6]));clear h6;go_wp2_with fail;go_ret;exact⟨aH HE.symm,K1⟩
 have v6:=jU h6;have HE:=hI (n aW A (by simp[h6]));clear h6;go_wp2_with fail;go_ret;exact⟨aH HE.symm,K1⟩
def LY (w:aj) (l:aq ar) (e:Ending) (w':aj):Prop:= ∃a c,e=cL (js a l c)/\aA w' w (js a l c) l/\jb w w'
def rL (w:aj) (B:av):aA w B (jN) []:=Nw w B 3 1
def GT (r:Rt) (p1 o1 f1:ax bR) (p o3 f3:av) (w:aj) (o:dY w (js p1 r.A p) (js o1 r.O o3) (js f1 r.fl f3) r) (hl:r.A.length+r.O.length<=17592186044416):
  jW 312 #[cZ #[r.id,r.E,r.X,js p1 r.A p,js o1 r.O o3,js f1 r.fl f3,r.T]] w (LY w (aI r)):=by
 have u:bG (∀W,jb w W->IL W p1 r.A r.A):=fun W q=>by
  obtain⟨a,n,c,e,h⟩:=o.A.below q;cases e;exact h
 have v:bG (∀W,jb w W->IL W o1 r.O r.O):=fun W q=>by
  obtain⟨a,n,c,e,h⟩:=o.O.below q;cases e;exact h
 clear o;go_in;go_upto_region 1 with fail;generalize hW:cj _ _=W0;have K0:=hI (jG hW)
 have s0:W0.heap.size=w.heap.size+1:=Qc
 have y3:jc W0 w 3 (js p1 r.A p):=Qc
 have y4:bG (jc W0 w 4 (js o1 r.O o3)):=by show _=_;rw[<-hW];simp
 have s:=hI s0;clear hW s0;have x:=s.o;have d:([]:aq ar).length+r.A.length<=17592186044416:=em
 have i:W0.heap.size<=W0.heap.size:=Mv _;go_upto_region 3 with(at_builtin;refine sW rfl _ _ rfl W0 (jN) [] rfl (rL _ _) p1 p r.A rfl (u _ K0) d i ?_;intro a3 c3 w3 H j);have b:=dT (rL W0 W0) ep ep j;rw[Dd]at H;have K3:=hI (K0.trans (b.mono ed));have z4:=aP b y4;have k:=hI H;have f:=b.size;clear H j b y3 i d;go_wp2_with (at_builtin;refine sW rfl _ _ rfl W0 (js a3 r.A c3) r.A rfl k o1 o3 r.O rfl (v _ K3) hl f ?_;intro a4 c4 w4 g l);have t:=dT k ep f l;go_ret;refine⟨a4,c4,?_,bW g ed,K3.trans (t.mono ed)⟩;rw[oY];rfl
def AM (p:Pl) (e:ar) (l:aq ar) (j:av) (h:j<l.length):Prop:=(∃m,∃hm:m<p.S.length,dA (fun x=>ab (x.id=l[j])) p.S=(m:ar))/\l[j]≠e/\ ∀m (hm:m<j),l[m]≠l[j]
def yE (p:Pl) (l:aq Fl) (j:av) (h:j<l.length):Prop:=(∃m,∃hm:m<p.P.length,dA (fun x=>ab (x.id=l[j].pt)) p.P=(m:ar))/\(∀h':0<j,l[j-1].pt<l[j].pt)/\1<=l[j].lie/\l[j].lie<=2
def dF {α:Type}{f:α->ar}{l:aq α}{n:ar}:dX f l n=bl↔ ∃m,∃a:m<l.length,dA (fun x=>ab (f x=n)) l=(m:ar):=by
 constructor
 ·intro h;rcases kF (fun x=>ab (f x=n)) l with⟨_,h2⟩ | ⟨k,H,e,h1,_⟩
  ·unfold dX at h;rw[Tg]at h;obtain⟨x,hx,e⟩:=h;obtain⟨i,b,rfl⟩:=No hx;rw[h2 i b]at e;cases e
  exact⟨k,H,e⟩
 rintro⟨m,a,e⟩;rcases kF (fun x=>ab (f x=n)) l with⟨E,_⟩ | ⟨k,H,E,h1,_⟩
 ·rw[E]at e;omega
 unfold dX;rw[Tg];exact⟨l[k],Nn _,h1⟩
def z4s {p:Pl}(H:eR p.S p.S){r:Rt}{k:av}(b:k<p.G.length) (hF:dA (fun x=>ab (x.id=r.E)) p.G=(k:ar)):
  iU (dQ p.S p.S) p.G p.P r↔oU p.G r/\(∀j (h:j<(aI r).length),AM p p.G[k].sec (aI r) j h)/\ ∀j (h:j<r.fl.length),yE p r.fl j h:=by
 have he:zO p.G r=p.G[k].sec:=by
  unfold zO;rcases kF (fun x:Sg=>ab (x.id=r.E)) p.G with⟨e,_⟩ | ⟨m,a,e,h1,h2⟩
  ·rw[e]at hF;omega
  have:m=k:=(by rw[e]at hF;omega);subst this;rw[(tF a h1 h2).1]
 unfold iU;rw[he];refine and_congr To (and_congr ?_ ?_)
 ·constructor
  ·intro h j hj;obtain⟨h1,h2,h3⟩:=h j hj hj;exact⟨dF.1 (CR h1),h2,h3⟩
  intro h j hj _;obtain⟨h1,h2,h3⟩:=h j hj;exact⟨VJ H (dF.2 h1),h2,h3⟩
 constructor
 ·intro h j hj;obtain⟨h1,h2,h3⟩:=h j hj hj;exact⟨dF.1 h1,h2,ed,ed⟩
 intro h j hj _;obtain⟨h1,h2,h3,h4⟩:=h j hj;exact⟨dF.2 h1,h2,ed⟩
def qA (l:aq Sg) (r:Rt):Prop:=dX Sg.id l r.E=bl/\(r.X≠0->dX Sg.id l r.X=bl/\r.X≠r.E)/\(r.X=0->r.O.length=0)
instance (l:aq Sg) (r:Rt):cG (qA l r):=by unfold qA;exact cx
def MI (h:w=W):cB B w W:=by subst h;exact Nb _ _
theorem tf (p:Pl) (s q gg e4:bw) (r:Rt) (e5 e6 e7:bw) (w:aj) (b5:bN w s q gg e4 p) (c3:p.Fit) (e8:eR p.S p.S) (hr:dY w e5 e6 e7 r) (a3:r.fit):
  jW 215 #[aT p s q gg e4,cZ #[r.id,r.E,r.X,e5,e6,e7,r.T]] w (bY w (ab (iU (dQ p.S p.S) p.G p.P r))):=by
 have A:bG (¬oU p.G r->ab (iU (dQ p.S p.S) p.G p.P r)=aW):=fun h=>by
  rw[Ns];exact fun f=>h f.1
 have H1:bG (∀k (G9:k<p.G.length),dA (fun x=>ab (x.id=r.E)) p.G=(k:ar)->(iU (dQ p.S p.S) p.G p.P r↔oU p.G r/\(∀j (h:j<(aI r).length),AM p p.G[k].sec (aI r) j h)/\ ∀j (h:j<r.fl.length),yE p r.fl j h)):=fun k G9 h=>z4s e8 G9 h;have c4:bG (∀b:aU,(b=bl↔iU (dQ p.S p.S) p.G p.P r)->ab (iU (dQ p.S p.S) p.G p.P r)=b):=fun b h=>by rw[Dh,h,Dj]
 have HH1:bG (oU p.G r↔qA p.G r/\1<=r.A.length/\r.A.length<=6/\r.O.length<=2/\r.fl.length<=3/\1<=r.T/\r.T<=9):=by
  show _↔_;unfold oU qA;constructor
  ·rintro⟨h1,h2,h3,h4⟩;exact⟨⟨h1,h2,h3⟩,h4⟩
  rintro⟨⟨h1,h2,h3⟩,h4⟩;exact⟨h1,h2,h3,h4⟩
 generalize ab (iU (dQ p.S p.S) p.G p.P r)=B at *;obtain⟨p1,i4,p3,rfl,ip⟩:=hr.A;obtain⟨o1,i5,o3,rfl,e9⟩:=hr.O;obtain rfl:=ip.len;obtain rfl:=e9.len;obtain⟨f1,f3,rfl,b6⟩:=hr.fl;have H3:bG (∀W,jb w W->aB W 2 lZ f1 f3 r.fl):=fun W ho=>b6.below zJ ho;have c6:bG (∀W,jb w W->dY W (js p1 r.A p3) (js o1 r.O o3) (js f1 r.fl f3) r):=fun W ho=>hr.below ho;obtain⟨a1,k1,rfl,h1⟩:=b5.S;obtain⟨a2,k2,rfl,h2⟩:=b5.P;obtain⟨a8,k3,rfl,h3⟩:=b5.G;obtain⟨c7,k4,rfl,-⟩:=b5.R;have c8:bG (∀W,jb w W->aB W 3 cU a1 k1 p.S):=fun W ho=>h1.below gN ho;have c9:bG (∀W,jb w W->aB W 2 iA a2 k2 p.P):=fun W ho=>h2.below lT ho;have O:bG (∀W,jb w W->aB W 3 gZ a8 k3 p.G):=fun W ho=>h3.below lA ho;have f8:=hI c3.S;have f9:=hI c3.P;have g0:=hI c3.G;have f0:=a3.1;have f2:=a3.2.1;have f4:=a3.2.2;clear b5 c3 e8 hr a3 b6 h1 h2 h3 ip e9;unfold aT;go_in;go_upto_region 1 with fail;generalize b0:cj _ _=W0;have K1:=hI (eN b0)
 have l:bG (jk W0 w #[p.ver,p.par,js a1 p.S k1,js a2 p.P k2,js a8 p.G k3,js c7 p.R k4] 28/\jk W0 (w+1) #[r.id,r.E,r.X,js p1 r.A p3,js o1 r.O o3,js f1 r.fl f3,r.T] 102):=by
  show _/\_;rw[<-b0];exact⟨(Nv _ _ (by simp)).trans (Nc _ _),Do _ _ _⟩
 clear b0;have pp0:=ji 4 (l).1;have y0:=ji 1 (l).2;have r1:=ji 2 (l).2;have r0:=ji 4 (l).2;have lb:=Mt pp0;have g1:=Mt y0;have P:=g0.o;have E:bG (∀b:aU,(b=bl↔ ¬qA p.G r)->b= !ab (qA p.G r)):=fun b h=>by rw[Dh,h];simp
 have K:bG (∀n,dX Sg.id p.G n=bl↔ ∃m,∃Z:m<p.G.length,dA (fun x=>ab (x.id=n)) p.G=(m:ar)):=fun n=>dF;have C:bG (qA p.G r↔dX Sg.id p.G r.E=bl/\(r.X≠0->dX Sg.id p.G r.X=bl/\r.X≠r.E)/\(r.X=0->r.O.length=0)):=To;have H4:bG (ab (qA p.G r)=bl↔qA p.G r):=Dj;generalize g2:ab (qA p.G r)=D at *;clear g2;go_wp2_with fail;refine(wE a8 k3 p.G r.E W0 (O _ K1) P).mono ?_;rintro e b1 ⟨rfl,rfl⟩;have y:=hI (kF (fun x:Sg=>ab (x.id=r.E)) p.G);generalize hF:dA (fun x:Sg=>ab (x.id=r.E)) p.G=F at *;have t:=hI hF;clear hF;have b7:=hI (kF (fun x:Sg=>ab (x.id=r.X)) p.G);go_upto_region 2 with fail;go_cut [48]from 16 to 48 (fun v wc=>v=db (!D)/\wc=W0)
 case first=>
  rcases y.o with⟨u,a4⟩ | ⟨k,G9,u,a4,b2⟩
  ·subst u;have HV:=hI (E bl (by rw[C.o];simp only[Fe];rintro⟨h1,_⟩;obtain⟨m,Z,e⟩:=(K _).1 h1;rw[t.o]at e;omega));go_wp2_with fail;go_meet
   case rel=>exact⟨by rw[HV.o],rfl⟩
  subst u;have u1:ab ((k:ar)<0)=aW:=(by simp);have H5:=hI ((K _).2 ⟨k,G9,t⟩);by_cases hx:r.X=0
  ·have e1:(r.X != 0)=aW:=(by simp[hx]);have g4:(r.X==0)=bl:=(by simp[hx]);by_cases hz:r.O.length=0
   ·have o0:((r.O:ar) != 0)=aW:=(by simp[hz]);have HV:=hI (E aW (by rw[C.o];simp only[Dw,Sy,Classical.not_not];exact⟨H5,fun h=>cv hx h,fun _=>hz⟩));clear hx hz a4 b2;go_wp2_with fail;go_meet
    case rel=>exact⟨by rw[HV.o],rfl⟩
   have o0:((r.O:ar) != 0)=bl:=(by simp[hz]);have HV:=hI (E bl (by rw[C.o];simp only[Fe];rintro⟨_,_,h⟩;exact hz (h hx)));clear hx hz a4 b2;go_wp2_with fail;go_meet
   case rel=>exact⟨by rw[HV.o],rfl⟩
  have e1:(r.X != 0)=bl:=(by simp[hx]);have g4:(r.X==0)=aW:=(by simp[hx]);have d2:=hI hx;clear hx a4 b2;rcases b7.o with⟨Q,b3⟩ | ⟨k0,d3,Q,b3,d4⟩
  ·have J:=hI Q;clear Q b3;go_wp2_with fail;refine(wE a8 k3 p.G r.X W0 (O _ K1) P).mono ?_;rintro e b1 ⟨rfl,rfl⟩;rw[J.o];have HV:=hI (E bl (by rw[C.o];simp only[Fe];rintro⟨_,h,_⟩;obtain⟨m,Z,e⟩:=(K _).1 (h d2).1;rw[J.o]at e;omega));go_wp2_with fail;go_meet
   case rel=>exact⟨by rw[HV.o],rfl⟩
  have J:=hI Q;clear Q b3 d4;have u3:ab ((k0:ar)<0)=aW:=(by simp);by_cases he:r.X=r.E
  ·have u4:(r.X==r.E)=bl:=(by rw[Da];exact he);have HV:=hI (E bl (by rw[C.o];simp only[Fe];rintro⟨_,h,_⟩;exact(h d2).2 he));clear he;go_wp2_with fail;refine(wE a8 k3 p.G r.X W0 (O _ K1) P).mono ?_;rintro e b1 ⟨rfl,rfl⟩;rw[J.o];go_wp2_with fail;go_meet
   case rel=>exact⟨by rw[HV.o],rfl⟩
  have u4:(r.X==r.E)=aW:=(by rw[Nd];exact he);have HV:=hI (E aW (by rw[C.o];simp only[Dw,Sy,Classical.not_not];exact⟨H5,fun _=>⟨(K _).2 ⟨k0,d3,J⟩,he⟩,fun h=>cv h d2⟩));clear he;go_wp2_with fail;refine(wE a8 k3 p.G r.X W0 (O _ K1) P).mono ?_;rintro e b1 ⟨rfl,rfl⟩;rw[J.o];go_wp2_with fail;go_meet
  case rel=>exact⟨by rw[HV.o],rfl⟩
 case rest=>
  obtain⟨rfl,f5⟩:=hcut;obtain rfl:=f5.symm;clear f5;clear pp0 r1 r0 lb P;by_cases b4:qA p.G r
  ·have b8:(!D)=aW:=(by rw[H4.o.2 b4];rfl);rw[b8];clear b8;have r2:=ji 3 (l).2;have r0:=ji 4 (l).2;have R:=ji 5 (l).2;have r3:=ji 6 (l).2;by_cases h1:r.A.length<1
   ·have t1:ab ((r.A:ar)<1)=bl:=(by simp only[Dr];omega);have HE:=hI (A (fun f=>by have:=HH1.1 f;omega));clear h1;go_wp2_with fail;go_ret;exact⟨aH HE.symm,K1⟩
   have t0:ab ((r.A:ar)<1)=aW:=(by simp only[Ns];omega);have HL:=hI h1;clear h1;by_cases h1:6<r.A.length
   ·have t1:ab ((6:ar)<(r.A:ar))=bl:=(by simp only[Dr];omega);have HE:=hI (A (fun f=>by have:=HH1.1 f;omega));clear h1;go_wp2_with fail;go_ret;exact⟨aH HE.symm,K1⟩
   have t2:ab ((6:ar)<(r.A:ar))=aW:=(by simp only[Ns];omega);have HAW:=hI h1;clear h1;by_cases h1:2<r.O.length
   ·have t1:ab ((2:ar)<(r.O:ar))=bl:=(by simp only[Dr];omega);have HE:=hI (A (fun f=>by have:=HH1.1 f;omega));clear h1;go_wp2_with fail;go_ret;exact⟨aH HE.symm,K1⟩
   have t3:ab ((2:ar)<(r.O:ar))=aW:=(by simp only[Ns];omega);have HG:=hI h1;clear h1;by_cases h1:3<r.fl.length
   ·have t1:ab ((3:ar)<(r.fl:ar))=bl:=(by simp only[Dr];omega);have HE:=hI (A (fun f=>by have:=HH1.1 f;omega));clear h1;go_wp2_with fail;go_ret;exact⟨aH HE.symm,K1⟩
   have t4:ab ((3:ar)<(r.fl:ar))=aW:=(by simp only[Ns];omega);have d5:=hI h1;clear h1;by_cases h1:r.T<1
   ·have t1:=jT h1;have HE:=hI (A (fun f=>by have:=HH1.1 f;omega));clear h1;go_wp2_with fail;go_ret;exact⟨aH HE.symm,K1⟩
   have t5:=jU h1;have d6:=hI h1;clear h1;by_cases h1:9<r.T
   ·have t1:=jT h1;have HE:=hI (A (fun f=>by have:=HH1.1 f;omega));clear h1;go_wp2_with fail;go_ret;exact⟨aH HE.symm,K1⟩
   have t6:=jU h1;have d7:=hI h1;clear h1;have d8:=hI (HH1.2 ⟨b4,by have:=HL.o;omega,by have:=HAW.o;omega,by have:=HG.o;omega,by have:=d5.o;omega,by have:=d6.o;omega,by have:=d7.o;omega⟩);have d9:r.A.length+r.O.length<=1000:=(by have:=HAW.o;have:=HG.o;omega);obtain⟨k,G9,b9⟩:=(K _).1 (C.1 b4).1;rw[t.o]at b9;subst b9;have H0:=hI (H1 k G9 rfl);have z:bG (∀j (h:j<(aI r).length),¬AM p p.G[k].sec (aI r) j h->B=aW):=fun j h c0=>c4 aW (by simp only[Dw,Sy];exact fun f=>c0 ((H0.1 f).2.1 j h));have o:bG (∀j (h:j<r.fl.length),¬yE p r.fl j h->B=aW):=fun j h c0=>c4 aW (by simp only[Dw,Sy];exact fun f=>c0 ((H0.1 f).2.2 j h));have H6:=hI fun h1 h2=>c4 bl (by simp only[Fe];exact H0.2 ⟨d8,h1,h2⟩);clear H0 H1 c4 A HH1 E C K y b7 t b4;have r4:=ji 0 (l).2;have r1:=ji 2 (l).2;have r2:=ji 3 (l).2;have r0:=ji 4 (l).2;have R:=ji 5 (l).2;have r3:=ji 6 (l).2;go_wp2_with fail;refine(GT r p1 o1 f1 p3 o3 f3 W0 (c6 _ K1) (by omega)).mono ?_;rintro e W1 ⟨aa,ca,rfl,a9,a5⟩;have f6:(aI r).length<=1000:=by rw[oY];omega
   have H2:bG (∀W,jb W1 W->IL W aa (aI r).length (aI r)):=fun W ho=>by
    obtain⟨a,n,c,e,h⟩:=a9.ilv.below ho;cases e;exact h
   have K3:=jh K1 a5;have B0:bG (jk W1 w #[p.ver,p.par,js a1 p.S k1,js a2 p.P k2,js a8 p.G k3,js c7 p.R k4] 28/\jk W1 (w+1) #[r.id,r.E,r.X,js p1 r.A p3,js o1 r.O o3,js f1 r.fl f3,r.T] 102):=⟨(jm a5 l.1),(jm a5 l.2)⟩;have B1:bG (∀W,jb W1 W->jk W w #[p.ver,p.par,js a1 p.S k1,js a2 p.P k2,js a8 p.G k3,js c7 p.R k4] 28/\jk W (w+1) #[r.id,r.E,r.X,js p1 r.A p3,js o1 r.O o3,js f1 r.fl f3,r.T] 102):=fun W ho=>⟨(jm ho B0.1),(jm ho B0.2)⟩;have KW:bG (∀W,jb W1 W->jb w W):=fun W ho=>jo K3 ho;generalize g6:aI r=L at *;clear a9 a5 r4 y0 r1 r2 r0 R r3 g1 K1 l d9 g6 t6 t5 t4 t3 t2 t0;go_wp2_with fail;go_loopg [7] L.length (fun g i wr=> ∃a6:av,a6<=L.length/\g=L.length-a6/\i= jV a6/\jb W1 wr/\ ∀j (h:j<L.length),j<a6->AM p p.G[k].sec L j h)
   ·exact⟨0,by omega,by omega,rfl,Nb _ _,fun j h hj=>by omega⟩
   obtain⟨n,c0,rfl,rfl,ho,hb⟩:=hrel;obtain⟨T,rfl⟩: ∃T:aj,T=wr:=⟨_,rfl⟩;have G:=hI hb;have KO:=hI ho;have U:=hI (KW _ ho);have N:=hI (B1 _ ho);clear ho hb;by_cases H:n<L.length
   ·have p0:=ji 2 (N).1;have pp0:=ji 4 (N).1;have g7:=bL H;obtain⟨b,off,c1,x0⟩:=(H2 _ KO).cell n H;have g8:=hI c1;subst c1;have g9:=aQ n;have i0:=aN H;obtain⟨i6,o2,rfl,s0,s1,s2⟩:=(O _ U).sg G9;have d0:=aQ k;have d1:=aN G9;have a0:=fun d os=>KO.trans ((Nr T d os).mono KO.size);have I0:=hI a0;have X0:=Ng x0;have S1:=Ng s1;have P2:=Ng p0;have P4:=Ng pp0;have V:=fun(d:av) (os:aL Obj)=>Ps ((tG a1 k1 p.S L[n] _ (c8 _ (KW _ (a0 d os))) f8).mono fun e b1 h=>(⟨h.1,MI h.2⟩:e=_/\cB (grow (cF T d) os).heap.size (grow (cF T d) os) b1));have y:=hI (kF (fun x:aF=>ab (x.id=L[n])) p.S);generalize hF:dA (fun x:aF=>ab (x.id=L[n])) p.S=F at *;have t:=hI hF;have cC:=hI V;clear V hF a0 x0 s0 s1 s2 p0 pp0;rcases y.o with⟨u,-⟩ | ⟨m,Z,u,-,-⟩
    ·subst u;have HE:=hI (z n H (fun f=>by obtain⟨m,Z,e⟩:=f.1;rw[t.o]at e;omega));clear y;go_upto_region 10 with fail;refine Mz (by kernel_rfl) (by kernel_rfl) ?_
     repeat (go_big_quiet_step ((with_reducible exact cC.o _ _)))
     refine cl ?_;rintro _ ⟨⟨dq,osq⟩,rfl⟩;go_wp2_with fail;go_ret;exact⟨aH HE.symm,KW _ (I0 dq osq)⟩
    subst u;have u1:ab ((m:ar)<0)=aW:=(by simp);clear y;by_cases h3:L[n]=p.G[k].sec
    ·have u2:(L[n]==p.G[k].sec)=bl:=(by rw[Da];exact h3);have HE:=hI (z n H (fun f=>f.2.1 h3));clear h3;go_upto_region 10 with fail;refine Mz (by kernel_rfl) (by kernel_rfl) ?_
     repeat (go_big_quiet_step ((with_reducible exact cC.o _ _)))
     refine cl ?_;rintro _ ⟨⟨dq,osq⟩,rfl⟩;go_wp2_with fail;go_ret;exact⟨aH HE.symm,KW _ (I0 dq osq)⟩
    have u2:(L[n]==p.G[k].sec)=aW:=(by rw[Nd];exact h3);have H7:bG ((∃m,∃Z:m<p.S.length,dA (fun x=>ab (x.id=L[n])) p.S=(m:ar))/\L[n]≠p.G[k].sec):=⟨⟨m,Z,t⟩,h3⟩;clear h3;go_upto_region 10 with fail;refine Mz (by kernel_rfl) (by kernel_rfl) ?_
    repeat (go_big_quiet_step ((with_reducible exact cC.o _ _)))
    refine cl ?_;rintro _ ⟨⟨dq,osq⟩,rfl⟩;have e0:=hI (I0 dq osq);generalize e2:grow (cF T dq) osq=i7 at *;clear e2 I0 X0 S1 P2 P4 cC t;go_wp2_with fail;go_loopg [8] n (fun g i wr=> ∃c5:av,c5<=n/\g=n-c5/\i= jV c5/\jb W1 wr/\ ∀j (h:j<n),j<c5->L[j]≠L[n])
    ·exact⟨0,by omega,by omega,rfl,e0,fun j h hj=>by omega⟩
    obtain⟨M,i1,rfl,rfl,ho,hb⟩:=hrel;obtain⟨wA,rfl⟩: ∃wA:aj,wA=wr:=⟨_,rfl⟩;have H8:=hI hb;have KA:=hI ho;clear ho hb;by_cases X:M<n
    ·have e3:=bL X;have c2:M<L.length:=(by omega);obtain⟨i8,o4,Y,x0⟩:=(H2 _ KA).cell n H;cases Y;obtain⟨i9,o5,Y,z0⟩:=(H2 _ KA).cell M c2;cases Y;have i2:=aQ M;have e1:=aN c2;have a0:=fun d os=>KA.trans ((Nr wA d os).mono KA.size);have I0:=hI a0;have X0:=Ng x0;have Z0:=Ng z0;clear x0 z0 a0;by_cases h6:L[M]=L[n]
     ·have u6:(L[M]==L[n])=bl:=(by rw[Da];exact h6);have HE:=hI (z n H (fun f=>f.2.2 M X h6));clear h6;go_upto_region 15 with fail;refine Mz (by kernel_rfl) (by kernel_rfl) ?_
      repeat (go_big_quiet_step (fail))
      refine cl ?_;rintro _ ⟨⟨dq,osq⟩,rfl⟩;go_wp2_with fail;go_ret;exact⟨aH HE.symm,KW _ (I0 dq osq)⟩
     have u6:(L[M]==L[n])=aW:=(by rw[Nd];exact h6);have J:=hI h6;clear h6;go_upto_region 15 with fail;refine Mz (by kernel_rfl) (by kernel_rfl) ?_
     repeat (go_big_quiet_step (fail))
     refine cl ?_;rintro _ ⟨⟨dq,osq⟩,rfl⟩;go_wp2_with fail;go_roundg (n-(M+1))
     ·go_light;refine⟨M+1,by omega,by omega,by go_num,I0 dq osq,fun j h hj=> ?_⟩;by_cases I:j=M
      ·subst I;exact J
      exact H8 j h (by omega)
     go_light;omega
    obtain rfl:M=n:=(by omega);have e3:=bZ X;have J:bG (AM p p.G[k].sec L M H):=⟨H7.1,H7.2,fun j hj=>H8 j hj hj⟩;go_wp2_with fail;go_roundg (L.length-(M+1))
    ·go_light;refine⟨M+1,by omega,by omega,by go_num,KA,fun j h hj=> ?_⟩;by_cases I:j=M
     ·subst I;exact J
     exact G j h (by omega)
    go_light;omega
   obtain rfl:n=L.length:=(by omega);have H9:=hI fun h2=>H6 (fun j h=>G j h h) h2;have K0:=hI KO.o;clear H6 G KO U N z;go_wp2_with fail;go_loopg [9] r.fl.length (fun g i wr=> ∃a6:av,a6<=r.fl.length/\g=r.fl.length-a6/\i= jV a6/\jb W1 wr/\ ∀j (h:j<r.fl.length),j<a6->yE p r.fl j h)
   ·exact⟨0,by omega,by omega,rfl,K0,fun j h hj=>by omega⟩
   obtain⟨n,c0,rfl,rfl,ho,hb⟩:=hrel;obtain⟨T,rfl⟩: ∃T:aj,T=wr:=⟨_,rfl⟩;have G:=hI hb;have KO:=hI ho;have U:=hI (KW _ ho);have N:=hI (B1 _ ho);clear ho hb;have p2:=ji 3 (N).1;have R:=ji 5 (N).2;by_cases H:n<r.fl.length
   ·have i3:=bL H;obtain⟨b,off,rfl,x0,x1⟩:=(H3 _ U).fl H;have g9:=aQ n;have i0:=aN H;have l2:=My _ _ x0;go_upto_region 21 with fail;generalize hW:cj _ _=w0;have a7:=jG hW;have y1:jc w0 T 0 r.fl[n].pt:=(by rw[<-hW];simp);have f7:jc w0 T 1 r.fl[n].lie:=(by rw[<-hW];simp);have K2:=jh KO a7;have g3:=aP a7 p2;have g5:=aP a7 R;clear hW a7 x0 x1 p2 R l2;have a0:=fun d os=>K2.trans ((Nr w0 d os).mono K2.size);have I0:=hI a0;have Y0:=Ng y1;have Y1:=Ng f7;have G3:=Ng g3;have G5:=Ng g5;have V:=fun(d:av) (os:aL Obj)=>Ps ((qz a2 k2 p.P r.fl[n].pt _ (c9 _ (KW _ (a0 d os))) f9).mono fun e b1 h=>(⟨h.1,MI h.2⟩:e=_/\cB (grow (cF w0 d) os).heap.size (grow (cF w0 d) os) b1));have y:=hI (kF (fun x:Pt=>ab (x.id=r.fl[n].pt)) p.P);generalize hF:dA (fun x:Pt=>ab (x.id=r.fl[n].pt)) p.P=F at *;have t:=hI hF;have cC:=hI V;clear V hF a0 y1 f7 g3 g5;rcases y.o with⟨u,-⟩ | ⟨m,Z,u,-,-⟩
    ·subst u;have HE:=hI (o n H (fun f=>by obtain⟨m,Z,e⟩:=f.1;rw[t.o]at e;omega));go_upto_region 21 with fail;refine Mz (by kernel_rfl) (by kernel_rfl) ?_
     repeat (go_big_quiet_step ((with_reducible exact cC.o _ _)))
     refine cl ?_;rintro _ ⟨⟨dq,osq⟩,rfl⟩;go_wp2_with fail;go_ret;exact⟨aH HE.symm,KW _ (I0 dq osq)⟩
    subst u;have u1:ab ((m:ar)<0)=aW:=(by simp);clear y;by_cases h3:0<n
    ·have u3:ab ((0:ar)<(n:ar))=bl:=(by simp;omega);obtain⟨j0,o6,Y,z0,z1⟩:=(H3 _ (KW _ K2)).fl (i:=n-1) (by omega);cases Y;have Z0:=Ng z0;have i2:(0:ar)<=(n:ar)-1:=(by omega);have e1:(n:ar)-1<(r.fl:ar):=(by omega);have j1:((n:ar)-1).toNat=n-1:=(by omega);clear z0 z1;by_cases h4:r.fl[n].pt<=r.fl[n-1].pt
     ·have HE:=hI (o n H (fun f=>by have:=f.2.1 h3;omega));go_upto_region 21 with fail;refine Mz (by kernel_rfl) (by kernel_rfl) ?_
      repeat (go_big_quiet_step ((with_reducible exact cC.o _ _)))
      refine cl ?_;rintro _ ⟨⟨dq,osq⟩,rfl⟩;go_wp2_with fail;go_ret;exact⟨aH HE.symm,KW _ (I0 dq osq)⟩
     have u4:=jU h4;by_cases h5:r.fl[n].lie<1
     ·have HE:=hI (o n H (fun f=>by have:=f.2.2.1;omega));go_upto_region 21 with fail;refine Mz (by kernel_rfl) (by kernel_rfl) ?_
      repeat (go_big_quiet_step ((with_reducible exact cC.o _ _)))
      refine cl ?_;rintro _ ⟨⟨dq,osq⟩,rfl⟩;go_wp2_with fail;go_ret;exact⟨aH HE.symm,KW _ (I0 dq osq)⟩
     have u5:=jU h5;by_cases h6:2<r.fl[n].lie
     ·have HE:=hI (o n H (fun f=>by have:=f.2.2.2;omega));go_upto_region 21 with fail;refine Mz (by kernel_rfl) (by kernel_rfl) ?_
      repeat (go_big_quiet_step ((with_reducible exact cC.o _ _)))
      refine cl ?_;rintro _ ⟨⟨dq,osq⟩,rfl⟩;go_wp2_with fail;go_ret;exact⟨aH HE.symm,KW _ (I0 dq osq)⟩
     have u6:=jU h6;have J:bG (yE p r.fl n H):=⟨⟨m,Z,t⟩,fun _=>by omega,by omega,by omega⟩;clear h5 h6;go_upto_region 21 with fail;refine Mz (by kernel_rfl) (by kernel_rfl) ?_
     repeat (go_big_quiet_step ((with_reducible exact cC.o _ _)))
     refine cl ?_;rintro _ ⟨⟨dq,osq⟩,rfl⟩;go_wp2_with fail;go_roundg (r.fl.length-(n+1))
     ·go_light;refine⟨n+1,by omega,by omega,by go_num,I0 dq osq,fun j h hj=> ?_⟩;by_cases I:j=n
      ·subst I;exact J
      exact G j h (by omega)
     go_light;omega
    have u3:ab ((0:ar)<(n:ar))=aW:=(by simp;omega);by_cases h5:r.fl[n].lie<1
    ·have HE:=hI (o n H (fun f=>by have:=f.2.2.1;omega));go_upto_region 21 with fail;refine Mz (by kernel_rfl) (by kernel_rfl) ?_
     repeat (go_big_quiet_step ((with_reducible exact cC.o _ _)))
     refine cl ?_;rintro _ ⟨⟨dq,osq⟩,rfl⟩;go_wp2_with fail;go_ret;exact⟨aH HE.symm,KW _ (I0 dq osq)⟩
    have u5:=jU h5;by_cases h6:2<r.fl[n].lie
    ·have HE:=hI (o n H (fun f=>by have:=f.2.2.2;omega));go_upto_region 21 with fail;refine Mz (by kernel_rfl) (by kernel_rfl) ?_
     repeat (go_big_quiet_step ((with_reducible exact cC.o _ _)))
     refine cl ?_;rintro _ ⟨⟨dq,osq⟩,rfl⟩;go_wp2_with fail;go_ret;exact⟨aH HE.symm,KW _ (I0 dq osq)⟩
    have u6:=jU h6;have J:bG (yE p r.fl n H):=⟨⟨m,Z,t⟩,fun h=>cv h h3,by omega,by omega⟩;clear h5 h6;go_upto_region 21 with fail;refine Mz (by kernel_rfl) (by kernel_rfl) ?_
    repeat (go_big_quiet_step ((with_reducible exact cC.o _ _)))
    refine cl ?_;rintro _ ⟨⟨dq,osq⟩,rfl⟩;go_wp2_with fail;go_roundg (r.fl.length-(n+1))
    ·go_light;refine⟨n+1,by omega,by omega,by go_num,I0 dq osq,fun j h hj=> ?_⟩;by_cases I:j=n
     ·subst I;exact J
     exact G j h (by omega)
    go_light;omega
   obtain rfl:n=r.fl.length:=(by omega);have HE:=hI (H9 (fun j h=>G j h h));go_wp2_with fail;go_ret;exact⟨aH HE.symm,U⟩
  have b8:(!D)=bl:=by
   cases hD:D with
   | false=>rfl
   | true=>exact cv (H4.1 hD) b4
  rw[b8];have HE:=hI (A (fun f=>b4 (HH1.1 f).1));clear b8;go_wp2_with fail;go_ret;exact⟨aH HE.symm,K1⟩
def AK (p:Pl) (j:av) (h:j<p.R.length):Prop:=(1<=p.R[j].id/\p.R[j].id<=99)/\(∀h':0<j,p.R[j-1].id<p.R[j].id)/\iU (dQ p.S p.S) p.G p.P p.R[j]
def tb (p:Pl):bX p↔(1<=p.ver/\p.ver<=2147483647/\0<=p.par/\p.par<p.ver)/\(p.R:ar)<=16/\kM p.S/\kH p/\lV (dQ p.S p.S) p.G/\ ∀j (h:j<p.R.length),AK p j h:=by
 constructor
 ·rintro⟨⟨h1,h2,h3,h4,h5⟩,⟨h6,h7,h8,h9⟩,h10⟩;exact⟨⟨h1,h2,h3,h4⟩,h9,h5,h6,h7,fun j h=>⟨(h8 j h h).1,(h8 j h h).2,h10 j h h⟩⟩
 rintro⟨⟨h1,h2,h3,h4⟩,h9,h5,h6,h7,h8⟩;exact⟨⟨h1,h2,h3,h4,h5⟩,⟨h6,h7,fun j h _=>⟨(h8 j h).1,(h8 j h).2.1⟩,h9⟩,fun j h _=>(h8 j h).2.2⟩
theorem mr (p:Pl) (s q gg a0:bw) (w:aj) (E:bN w s q gg a0 p) (l:p.S.length<=1000/\(∀i (h:i<p.S.length),p.S[i].ends.length<=8796093022208)/\p.P.length<=100000/\p.G.length<=1000/\p.R.length<=1000/\ ∀i (h:i<p.R.length),p.R[i].fit):jW 129 #[aT p s q gg a0] w (bY w (ab (bX p))):=by
 have HREF:=hI (tb p);have b6:bG (∀b:aU,(b=bl↔bX p)->ab (bX p)=b):=fun b h=>by rw[Dh,h,Dj]
 have a:bG (¬bX p->ab (bX p)=aW):=fun h=>Mw h;generalize ab (bX p)=B at *;have a1:bG (∀W,jb w W->bN W s q gg a0 p):=fun W ho=>E.below ho;have F:bG (kH p->p.Fit):=fun h=>⟨l.1,l.2.1,by have:=h.1.2;omega,l.2.2.2.1,l.2.2.2.2.1,l.2.2.2.2.2⟩;obtain⟨G,K,rfl,h1⟩:=E.S;obtain⟨X,Y,rfl,-⟩:=E.P;obtain⟨Z,k3,rfl,-⟩:=E.G;obtain⟨I,J,rfl,h4⟩:=E.R;have L:bG (∀W,jb w W->aB W 7 fH I J p.R):=fun W ho=>h4.below lS ho;have H0:=hI fun W ho=>tr G K p.S W (h1.below gN ho) l.1 l.2.1;have H1:bG (kM p.S-> ∀W,jb w W->jW 213 #[cZ #[p.ver,p.par,js G p.S K,js X p.P Y,js Z p.G k3,js I p.R J]] W (bY W (ab (kH p)))):=fun h W ho=>zj p _ _ _ _ W (a1 W ho) l.1 l.2.2.1 h.2.1;have H2:bG (kM p.S->kH p-> ∀W,jb w W->jW 214 #[cZ #[p.ver,p.par,js G p.S K,js X p.P Y,js Z p.G k3,js I p.R J]] W (bY W (ab (lV (dQ p.S p.S) p.G)))):=fun h h9 W ho=>sr p _ _ _ _ W (a1 W ho) (F h9) h.2.1;have H3:bG (kM p.S->kH p-> ∀(k:av) (a2:k<p.R.length) W V vo M,jb w W->dY W V vo M p.R[k]->jW 215 #[cZ #[p.ver,p.par,js G p.S K,js X p.P Y,js Z p.G k3,js I p.R J],cZ #[p.R[k].id,p.R[k].E,p.R[k].X,V,vo,M,p.R[k].T]] W (bY W (ab (iU (dQ p.S p.S) p.G p.P p.R[k])))):=fun h h9 k a2 W V vo M ho b7=>tf p _ _ _ _ p.R[k] V vo M W (a1 W ho) (F h9) h.2.1 b7 (l.2.2.2.2.2 k a2);have b8:=l.2.2.2.2.1;unfold aT;go_in;go_upto_region 1 with fail;generalize N:cj _ _=W0;have K1:=hI (jG N)
 have O:=hI (jA N)
 have n:bG (∀W,jb W0 W->jk W w #[p.ver,p.par,js G p.S K,js X p.P Y,js Z p.G k3,js I p.R J] 28):=fun W ho=>(jm ho O);have KW:bG (∀W,jb W0 W->jb w W):=fun W ho=>jo K1 ho;obtain⟨v,x,y,z,A,P⟩:=dB (O);by_cases h1:p.ver<1
 ·have t1:=jT h1
  have HE:=hI (a (fun H=>by have hz:=HREF.1 H;have:=hz.1;have:=hz.2.1;omega));go_wp2_with fail;go_ret;exact⟨aH HE.symm,K1⟩
 have t0:=jU h1
 have HL:=hI h1;by_cases h1:2147483647<p.ver
 ·have t1:=jT h1;have HE:=hI (a (fun H=>by have hz:=HREF.1 H;have:=hz.1;have:=hz.2.1;omega));go_wp2_with fail;go_ret;exact⟨aH HE.symm,K1⟩
 have t3:=jU h1;have H4:=hI h1;by_cases h1:p.par<0
 ·have t1:=jT h1;have HE:=hI (a (fun H=>by have hz:=HREF.1 H;have:=hz.1;have:=hz.2.1;omega));go_wp2_with fail;go_ret;exact⟨aH HE.symm,K1⟩
 have t4:=jU h1;have H5:=hI h1;by_cases h1:p.ver<=p.par
 ·have t1:=jT h1;have HE:=hI (a (fun H=>by have hz:=HREF.1 H;have:=hz.1;have:=hz.2.1;omega));go_wp2_with fail;go_ret;exact⟨aH HE.symm,K1⟩
 have t5:=jU h1;have H6:=hI h1;by_cases h1:16<p.R.length
 ·have t1:ab ((16:ar)<(p.R:ar))=bl:=(by simp only[Dr];omega);have HE:=hI (a (fun H=>by have hz:=HREF.1 H;have:=hz.1;have:=hz.2.1;omega));go_wp2_with fail;go_ret;exact⟨aH HE.symm,K1⟩
 have t6:ab ((16:ar)<(p.R:ar))=aW:=(by simp only[Ns];omega);have H7:=hI h1;have B0:bG (jb W0 W0):=Nb _ _;go_wp2_with fail;refine(H0 W0 K1).mono ?_;rintro e W1 ⟨rfl,a3⟩;have B1:=jh B0 a3;have b0:=n _ B1;obtain⟨v,x,y,z,A,P⟩:=dB (b0);by_cases o:kM p.S
 ·rw[Ni o];have S1:=hI o;go_wp2_with fail;refine(H1 S1 W1 (KW _ B1)).mono ?_;rintro e W2 ⟨rfl,a4⟩;have B2:=jh B1 a4;have b1:=n _ B2;obtain⟨v,x,y,z,A,P⟩:=dB (b1);by_cases r:kH p
  ·rw[Ni r];have S2:=hI r;go_wp2_with fail;refine(H2 S1 S2 W2 (KW _ B2)).mono ?_;rintro e W3 ⟨rfl,a5⟩;have B3:=jh B2 a5;have b2:=n _ B3;obtain⟨v,x,y,z,A,P⟩:=dB (b2);by_cases t:lV (dQ p.S p.S) p.G
   ·rw[Ni t];have S3:=hI t;have H8:=hI fun h=>b6 bl (by simp only[Fe];exact HREF.2 ⟨⟨by have:=HL.o;omega,by have:=H4.o;omega,by have:=H5.o;omega,by have:=H6.o;omega⟩,by have:=H7.o;omega,S1,S2,S3,h⟩);have c:bG (∀j (h:j<p.R.length),¬AK p j h->B=aW):=fun j h b9=>a (fun H=>b9 ((HREF.1 H).2.2.2.2.2 j h));have H9:=hI (H3 S1 S2);go_wp2_with fail;go_loopg [3] p.R.length (fun g i wr=> ∃k:av,k<=p.R.length/\g=p.R.length-k/\i= jV k/\jb W0 wr/\ ∀j (h:j<p.R.length),j<k->AK p j h)
    ·exact⟨0,by omega,by omega,rfl,B3,fun j h hj=>by omega⟩
    obtain⟨k,a2,rfl,rfl,ho,hb⟩:=hrel;obtain⟨b4,rfl⟩: ∃b4:aj,b4=wr:=⟨_,rfl⟩;have C:=hI hb;have KO:=hI ho;have Q:=hI (KW _ ho);have R:=n _ ho;have P:=ji 5 R;have c0:=hI R;by_cases G9:k<p.R.length
    ·have c1:=bL G9;obtain⟨b,off,V,vo,M,rfl,x0,x1,x2,x3,x4,x5,x6,u⟩:=(L _ Q).rt G9;obtain⟨v1,v2,v3,rfl,-⟩:=u.A;obtain⟨v4,v5,v6,rfl,-⟩:=u.O;obtain⟨v7,v8,rfl,-⟩:=u.fl;have c2:=hI u;have c3:=aQ k;have c4:=aN G9;have l2:=My _ _ x0;go_upto_region 9 with fail;generalize T:cj _ _=wA;have U:=jG T;have a6:=jA T;have KA:=jh KO U;have a7:=hI (c2.below U);have b3:=n _ KA;obtain⟨z0,z1,pp0,pp1,I9,Y7⟩:=dB (b3);obtain⟨pp4,Z6,ss1,w2,t2,y5,y6⟩:=lU a6;have b5:=fun d os=>KA.trans ((Nr wA d os).mono KA.size);have I0:=hI b5;have G0:=Ng z0;have G1:=Ng z1;have G2:=Ng pp0;have G3:=Ng pp1;have G4:=Ng I9;have G5:=Ng Y7;have Y0:=Ng pp4;have Y1:=Ng Z6;have Y2:=Ng ss1;have Y3:=Ng w2;have Y4:=Ng t2;have Y5:=Ng y5;have Y6:=Ng y6;have f:=fun(d:av) (os:aL Obj)=>Ps (H9 k G9 (grow (cF wA d) os) _ _ _ (KW _ (b5 d os)) (a7.below (Nr wA d os)));by_cases h1:p.R[k].id<1
     ·have HE:=hI (c k G9 (fun H=>by have:=H.1.1;omega));go_upto_region 9 with fail;refine Mz (by kernel_rfl) (by kernel_rfl) ?_
      repeat (go_big_quiet_step (fail))
      refine cl ?_;rintro _ ⟨⟨dq,osq⟩,rfl⟩;go_wp2_with fail;go_ret;exact⟨aH HE.symm,KW _ (I0 dq osq)⟩
     have u1:=jU h1;by_cases h2:99<p.R[k].id
     ·have HE:=hI (c k G9 (fun H=>by have:=H.1.2;omega));go_upto_region 9 with fail;refine Mz (by kernel_rfl) (by kernel_rfl) ?_
      repeat (go_big_quiet_step (fail))
      refine cl ?_;rintro _ ⟨⟨dq,osq⟩,rfl⟩;go_wp2_with fail;go_ret;exact⟨aH HE.symm,KW _ (I0 dq osq)⟩
     have u2:=jU h2;by_cases h3:0<k
     ·have u3:ab ((0:ar)<(k:ar))=bl:=(by simp;omega);obtain⟨c5,o0,_,_,_,a8,z2,-⟩:=(L _ (KW _ KA)).rt (i:=k-1) (by omega);cases a8;have Z0:=Ng z2;have e0:(0:ar)<=(k:ar)-1:=(by omega);have e1:(k:ar)-1<(p.R:ar):=(by omega);have c6:((k:ar)-1).toNat=k-1:=(by omega);by_cases h4:p.R[k].id<=p.R[k-1].id
      ·have HE:=hI (c k G9 (fun H=>by have:=H.2.1 h3;omega));go_upto_region 9 with fail;refine Mz (by kernel_rfl) (by kernel_rfl) ?_
       repeat (go_big_quiet_step (fail))
       refine cl ?_;rintro _ ⟨⟨dq,osq⟩,rfl⟩;go_wp2_with fail;go_ret;exact⟨aH HE.symm,KW _ (I0 dq osq)⟩
      have u6:=jU h4;by_cases h7:iU (dQ p.S p.S) p.G p.P p.R[k]
      ·rw[Ni h7]at f;have cC:=hI f;have a9:bG (AK p k G9):=⟨⟨by omega,by omega⟩,fun _=>by omega,h7⟩;go_upto_region 9 with fail;refine Mz (by kernel_rfl) (by kernel_rfl) ?_
       repeat (go_big_quiet_step ((with_reducible exact cC.o _ _)))
       refine cl ?_;rintro _ ⟨⟨dq,osq⟩,rfl⟩;go_wp2_with fail;go_roundg (p.R.length-(k+1))
       ·go_light;refine⟨k+1,by omega,by omega,by go_num,I0 dq osq,fun j h hj=> ?_⟩;by_cases D:j=k
        ·subst D;exact a9
        exact C j h (by omega)
       go_light;omega
      rw[Mw h7]at f;have cC:=hI f;have HE:=hI (c k G9 (fun H=>h7 H.2.2));go_upto_region 9 with fail;refine Mz (by kernel_rfl) (by kernel_rfl) ?_
      repeat (go_big_quiet_step ((with_reducible exact cC.o _ _)))
      refine cl ?_;rintro _ ⟨⟨dq,osq⟩,rfl⟩;go_wp2_with fail;go_ret;exact⟨aH HE.symm,KW _ (I0 dq osq)⟩
     have u3:ab ((0:ar)<(k:ar))=aW:=(by simp;omega);by_cases h7:iU (dQ p.S p.S) p.G p.P p.R[k]
     ·rw[Ni h7]at f;have cC:=hI f;have a9:bG (AK p k G9):=⟨⟨by omega,by omega⟩,fun h=>cv h h3,h7⟩;go_upto_region 9 with fail;refine Mz (by kernel_rfl) (by kernel_rfl) ?_
      repeat (go_big_quiet_step ((with_reducible exact cC.o _ _)))
      refine cl ?_;rintro _ ⟨⟨dq,osq⟩,rfl⟩;go_wp2_with fail;go_roundg (p.R.length-(k+1))
      ·go_light;refine⟨k+1,by omega,by omega,by go_num,I0 dq osq,fun j h hj=> ?_⟩;by_cases D:j=k
       ·subst D;exact a9
       exact C j h (by omega)
      go_light;omega
     rw[Mw h7]at f;have cC:=hI f;have HE:=hI (c k G9 (fun H=>h7 H.2.2));go_upto_region 9 with fail;refine Mz (by kernel_rfl) (by kernel_rfl) ?_
     repeat (go_big_quiet_step ((with_reducible exact cC.o _ _)))
     refine cl ?_;rintro _ ⟨⟨dq,osq⟩,rfl⟩;go_wp2_with fail;go_ret;exact⟨aH HE.symm,KW _ (I0 dq osq)⟩
    obtain rfl:k=p.R.length:=(by omega);have HE:=hI (H8 (fun j h=>C j h h));go_wp2_with fail;go_ret;exact⟨aH HE.symm,Q⟩
   rw[Mw t];have HE:=hI (a (fun H=>t (HREF.1 H).2.2.2.2.1));go_wp2_with fail;go_ret;exact⟨aH HE.symm,(KW _ B3)⟩
  rw[Mw r];have HE:=hI (a (fun H=>r (HREF.1 H).2.2.2.1));go_wp2_with fail;go_ret;exact⟨aH HE.symm,(KW _ B2)⟩
 rw[Mw o];have HE:=hI (a (fun H=>o (HREF.1 H).2.2.1));go_wp2_with fail;go_ret;exact⟨aH HE.symm,(KW _ B1)⟩
def z4t (p:Pl) (s q gg r:bw) (w:aj) (a:bN w s q gg r p) (H:p.Fit):jW 129 #[aT p s q gg r] w (bY w (ab (bX p))):=mr p s q gg r w a ⟨H.S,H.ends,by have:=H.P;omega,H.G,H.R,H.rt⟩
def z4u (f:FuncId) (caps:aL bw) (R:Tk->aF->Prop) [∀a b,cG (R a b)] (l:aq Tk) (m:aq aF) (w:aj):Prop:=
 ∀W i (h:i<l.length) (h':i<m.length) (s1:ax bR) (d1:av),jb w W->jW f (#[cZ #[l[i].id,cW .u8 l[i].is],cZ #[m[i].id,m[i].pt,js s1 m[i].ends.length d1]]++caps) W (bY W (ab (R l[i] m[i])))
theorem z4v (f:FuncId) (C:aL bw) (R:Tk->aF->Prop) [∀a b,cG (R a b)] (A r:ax bR) (s t:av) (l:aq Tk) (m:aq aF) (w:aj) (hl:aB w 2 nX A s l) (B:aB w 3 cU r t m) (h1:l.length<=1000) (h2:m.length<=1000) (hf:mD f) (hcl:z4u f C R l m w):
  jW 284 #[js A l s,js r m t,.func (.func f) #[] C] w (bY w (ab (iN R l m))):=by
 have D:bG (∀n,jb w n->aB n 2 nX A s l):=fun n hb=>hl.below rU hb;have E:bG (∀n,jb w n->aB n 3 cU r t m):=fun n hb=>B.below gN hb;have F: ∀(args:aL bw) (w:aj),Sem.run prog (callFunc f args) w= .ok (.enter f args) w:=hf;have u:=hI hcl;have v:bG (iN R l m↔(l.length=m.length/\qI R l m l)):=To;have x:bG (∀b,(b=bl↔iN R l m)->ab (iN R l m)=b):=fun b hb=>by rw[Dh,Dj];exact hb.symm
 generalize ab (iN R l m)=Z at *;by_cases H:l.length=m.length
 ·have e0:((l:ar) != (m:ar))=aW:=by simp[H]
  have HL:=hI H;clear H;go_in;go_wp2_with fail;go_loopg [17] l.length (fun g i wr=> ∃k:av,k<=l.length/\g=l.length-k/\i= jV k/\jb w wr/\qI R l m k)
  ·exact⟨0,ed,ed,rfl,Nb _ _,fun i _ _ h=>by omega⟩
  obtain⟨k,G,rfl,rfl,hb,ho⟩:=hrel;obtain⟨wo,rfl⟩: ∃wo:aj,wo=wr:=⟨_,rfl⟩;refine Qa fun HB p=>?_;clear hb ho;by_cases G9:k<l.length
  ·have c:k<m.length:=Qm;obtain⟨b1,O,rfl,x0,x1⟩:=(D _ HB).tk G9;obtain⟨b2,z,s1,d1,rfl,y0,y1,y2,y⟩:=(E _ HB).sec c;refine Qb fun _ _=>?_;have i2:=aN c;refine Qv fun l1=>?_;have l2:=My _ _ y0;clear y;have HC:=hI fun W' hb=>u W' k G9 c s1 d1 (jo HB hb);go_upto_region 7 with fail;generalize hW:(wo.alloc _).alloc _=W;have o:=eN hW;have K:=jh HB o;have A7:=hI (HC W o);have p0:jc W wo 0 l[k].id:=Qc;have p1:jc W wo 1 (cW .u8 l[k].is):=Qc;have q0:jc W (wo+1) 0 m[k].id:=Qc;have q1:jc W (wo+1) 1 m[k].pt:=Qc;have q2:jc W (wo+1) 2 (js s1 m[k].ends.length d1):=Qc;clear hW o x0 x1 y0 y1 y2 l1 l2 HC;by_cases q:R l[k] m[k]
   ·have d:=Ni q;rw[d]at A7;have HE:=hI (KM G9 c p q);clear q d;go_wp2_with fail;refine A7.mono ?_;rintro e w1 ⟨rfl,j⟩;have K1:=jh K j;clear j A7 p0 q0;go_wp2_with fail;go_roundg (l.length-(k+1))
    ·go_light;exact⟨k+1,ed,ed,ej,K1,HE⟩
    go_light;omega
   have d:=Mw q;rw[d]at A7;have HE:=hI (x aW (by rw[v.o];simp only[Dw,Sy];exact fun h=>q (h.2 k G9 c G9)));go_wp2_with fail;refine A7.mono ?_;rintro e w1 ⟨rfl,j⟩;have K1:=jh K j;refine ei ?_;exact Qu
  obtain rfl:k=l.length:=ed;have HE:=hI (x bl (by rw[v.o];simp only[Fe];exact⟨HL,p⟩));refine ei ?_;exact⟨aH HE.symm,HB⟩
 have e0:((l:ar) != (m:ar))=bl:=by simp;omega
 have HE:=hI (x aW (by rw[v.o];simp only[Dw,Sy];exact fun h=>H h.1));go_in;refine ei ?_;exact⟨aH HE.symm,Nb _ _⟩
def z4w (f:FuncId) (caps:aL bw) (R:Sw->Pt->Prop) [∀a b,cG (R a b)] (l:aq Sw) (m:aq Pt) (w:aj):Prop:=
 ∀W i (h:i<l.length) (h':i<m.length),jb w W->jW f (#[cZ #[l[i].id,l[i].lie,l[i].call],cZ #[m[i].id,m[i].sec]]++caps) W (bY W (ab (R l[i] m[i])))
theorem z4x (f:FuncId) (C:aL bw) (R:Sw->Pt->Prop) [∀a b,cG (R a b)] (A r:ax bR) (s t:av) (l:aq Sw) (m:aq Pt) (w:aj) (hl:aB w 3 mR A s l) (y:aB w 2 iA r t m) (h1:l.length<=1000) (h2:m.length<=1000) (hf:mD f) (hcl:z4w f C R l m w):
  jW 286 #[js A l s,js r m t,.func (.func f) #[] C] w (bY w (ab (iN R l m))):=by
 have B:bG (∀n,jb w n->aB n 3 mR A s l):=fun n hb=>hl.below qG hb;have D:bG (∀n,jb w n->aB n 2 iA r t m):=fun n hb=>y.below lT hb;have E: ∀(args:aL bw) (w:aj),Sem.run prog (callFunc f args) w= .ok (.enter f args) w:=hf;have u:=hI hcl;have v:bG (iN R l m↔(l.length=m.length/\qI R l m l)):=To;have x:bG (∀b,(b=bl↔iN R l m)->ab (iN R l m)=b):=fun b hb=>by rw[Dh,Dj];exact hb.symm
 generalize ab (iN R l m)=Z at *;clear hl y hcl hf;by_cases H:l.length=m.length
 ·have e0:((l:ar) != (m:ar))=aW:=by simp[H]
  have HL:=hI H;clear H;go_in;go_wp2_with fail;go_loopg [17] l.length (fun g i wr=> ∃k:av,k<=l.length/\g=l.length-k/\i= jV k/\jb w wr/\qI R l m k)
  ·exact⟨0,ed,ed,rfl,Nb _ _,fun i _ _ h=>by omega⟩
  obtain⟨k,F,rfl,rfl,hb,ho⟩:=hrel;obtain⟨wo,rfl⟩: ∃wo:aj,wo=wr:=⟨_,rfl⟩;refine Qa fun HB p=>?_;clear hb ho;by_cases G9:k<l.length
  ·have c:k<m.length:=Qm;obtain⟨b1,O,rfl,x0,x1,x2⟩:=(B _ HB).sw G9;obtain⟨b2,z,rfl,y0,y1⟩:=(D _ HB).pt c;refine Qb fun _ _=>?_;have i2:=aN c;refine Qv fun l1=>?_;have l2:=My _ _ y0
   skip
   have HC:=hI fun W' hb=>u W' k G9 c  (jo HB hb);go_upto_region 7 with fail;generalize hW:(wo.alloc _).alloc _=W;have o:=eN hW;have K:=jh HB o;have A7:=hI (HC W o);have p0:jc W wo 0 l[k].id:=Qc;have p1:jc W wo 1 l[k].lie:=Qc;have p2:jc W wo 2 l[k].call:=Qc;have q0:jc W (wo+1) 0 m[k].id:=Qc;have q1:jc W (wo+1) 1 m[k].sec:=Qc;clear hW o x0 x1 x2 y0 y1 l1 l2 HC;by_cases q:R l[k] m[k]
   ·have d:=Ni q;rw[d]at A7;have HE:=hI (KM G9 c p q);clear q d;go_wp2_with fail;refine A7.mono ?_;rintro e w1 ⟨rfl,j⟩;have K1:=jh K j;clear j A7 p0 q0;go_wp2_with fail;go_roundg (l.length-(k+1))
    ·go_light;exact⟨k+1,ed,ed,ej,K1,HE⟩
    go_light;omega
   have d:=Mw q;rw[d]at A7;have HE:=hI (x aW (by rw[v.o];simp only[Dw,Sy];exact fun h=>q (h.2 k G9 c G9)));go_wp2_with fail;refine A7.mono ?_;rintro e w1 ⟨rfl,j⟩;have K1:=jh K j;refine ei ?_;exact Qu
  obtain rfl:k=l.length:=ed;have HE:=hI (x bl (by rw[v.o];simp only[Fe];exact⟨HL,p⟩));refine ei ?_;exact⟨aH HE.symm,HB⟩
 have e0:((l:ar) != (m:ar))=bl:=by simp;omega
 have HE:=hI (x aW (by rw[v.o];simp only[Dw,Sy];exact fun h=>H h.1));go_in;refine ei ?_;exact⟨aH HE.symm,Nb _ _⟩
def z4y (f:FuncId) (caps:aL bw) (R:Lk->Rt->Prop) [∀a b,cG (R a b)] (l:aq Lk) (m:aq Rt) (w:aj):Prop:=
 ∀W i (h:i<l.length) (h':i<m.length) (s1:ax bR) (d1:av) (s2:ax bR) (d2:av) (s3:ax bR) (d3:av),jb w W->jW f (#[cZ #[l[i].id,cW .u8 l[i].ph,l[i].gone,l[i].left],cZ #[m[i].id,m[i].E,m[i].X,js s1 m[i].A.length d1,js s2 m[i].O.length d2,js s3 m[i].fl.length d3,m[i].T]]++caps) W (bY W (ab (R l[i] m[i])))
theorem z4z (f:FuncId) (C:aL bw) (R:Lk->Rt->Prop) [∀a b,cG (R a b)] (A s:ax bR) (t u:av) (l:aq Lk) (m:aq Rt) (w:aj) (hl:aB w 4 mS A t l) (B:aB w 7 fH s u m) (h1:l.length<=1000) (h2:m.length<=1000) (hf:mD f) (hcl:z4y f C R l m w):
  jW 288 #[js A l t,js s m u,.func (.func f) #[] C] w (bY w (ab (iN R l m))):=by
 have D:bG (∀o,jb w o->aB o 4 mS A t l):=fun o hb=>hl.below qF hb;have E:bG (∀o,jb w o->aB o 7 fH s u m):=fun o hb=>B.below lS hb;have F: ∀(args:aL bw) (w:aj),Sem.run prog (callFunc f args) w= .ok (.enter f args) w:=hf;have v:=hI hcl;have x:bG (iN R l m↔(l.length=m.length/\qI R l m l)):=To;have y:bG (∀b,(b=bl↔iN R l m)->ab (iN R l m)=b):=fun b hb=>by rw[Dh,Dj];exact hb.symm
 generalize ab (iN R l m)=Z at *;by_cases H:l.length=m.length
 ·have e0:((l:ar) != (m:ar))=aW:=by simp[H]
  have HL:=hI H;clear H;go_in;go_wp2_with fail;go_loopg [17] l.length (fun g i wr=> ∃k:av,k<=l.length/\g=l.length-k/\i= jV k/\jb w wr/\qI R l m k)
  ·exact⟨0,ed,ed,rfl,Nb _ _,fun i _ _ h=>by omega⟩
  obtain⟨k,G,rfl,rfl,hb,ho⟩:=hrel;obtain⟨wo,rfl⟩: ∃wo:aj,wo=wr:=⟨_,rfl⟩;refine Qa fun HB q=>?_;clear hb ho;by_cases G9:k<l.length
  ·have c:k<m.length:=Qm;obtain⟨b1,O,rfl,x0,x1,x2,x3⟩:=(D _ HB).lk G9;obtain⟨b2,z,V,vo,I,rfl,y0,y1,y2,y3,y4,y5,y6,d⟩:=(E _ HB).rt c;obtain⟨s1,d1,rfl,-⟩:=d.A.at_;obtain⟨s2,d2,rfl,-⟩:=d.O.at_;obtain⟨s3,d3,rfl,-⟩:=d.fl;refine Qb fun _ _=>?_;have i2:=aN c;refine Qv fun l1=>?_;have l2:=My _ _ y0;clear d;have HC:=hI fun W' hb=>v W' k G9 c s1 d1 s2 d2 s3 d3 (jo HB hb);go_upto_region 7 with fail;generalize hW:(wo.alloc _).alloc _=W;have p:=eN hW;have K:=jh HB p;have A7:=hI (HC W p);have p0:jc W wo 0 l[k].id:=Qc;have p1:jc W wo 1 (cW .u8 l[k].ph):=Qc;have p2:jc W wo 2 l[k].gone:=Qc;have p3:jc W wo 3 l[k].left:=Qc;have q0:jc W (wo+1) 0 m[k].id:=Qc;have q1:jc W (wo+1) 1 m[k].E:=Qc;have q2:jc W (wo+1) 2 m[k].X:=Qc;have q3:jc W (wo+1) 3 (js s1 m[k].A.length d1):=Qc;have q4:jc W (wo+1) 4 (js s2 m[k].O.length d2):=Qc;have q5:jc W (wo+1) 5 (js s3 m[k].fl.length d3):=Qc;have q6:jc W (wo+1) 6 m[k].T:=Qc;clear hW p x0 x1 x2 x3 y0 y1 y2 y3 y4 y5 y6 l1 l2 HC;by_cases r:R l[k] m[k]
   ·have j:=Ni r;rw[j]at A7;have HE:=hI (KM G9 c q r);clear r j;go_wp2_with fail;refine A7.mono ?_;rintro e w1 ⟨rfl,n⟩;have K1:=jh K n;clear n A7 p0 q0;go_wp2_with fail;go_roundg (l.length-(k+1))
    ·go_light;exact⟨k+1,ed,ed,ej,K1,HE⟩
    go_light;omega
   have j:=Mw r;rw[j]at A7;have HE:=hI (y aW (by rw[x.o];simp only[Dw,Sy];exact fun h=>r (h.2 k G9 c G9)));go_wp2_with fail;refine A7.mono ?_;rintro e w1 ⟨rfl,n⟩;have K1:=jh K n;refine ei ?_;exact Qu
  obtain rfl:k=l.length:=ed;have HE:=hI (y bl (by rw[x.o];simp only[Fe];exact⟨HL,q⟩));refine ei ?_;exact⟨aH HE.symm,HB⟩
 have e0:((l:ar) != (m:ar))=bl:=by simp;omega
 have HE:=hI (y aW (by rw[x.o];simp only[Dw,Sy];exact fun h=>H h.1));go_in;refine ei ?_;exact⟨aH HE.symm,Nb _ _⟩
def z40 (args:aL bw) (w:aj):Sem.run prog (callFunc 283 args) w= .ok (.enter 283 args) w:=by simp[go_sem]
def z41:mD 285:=fun args w=>Uu
def z42:mD 287:=fun args w=>Uu
def z43:mD 289:=fun args w=>Uu
def JI (n:ar) (w:aj):jW 283 #[n] w fun e W=>e=cL (db (ab (0<=n/\n<=2)))/\w=W:=by
 have H:bG (∀b,(b=bl↔(0<=n/\n<=2))->b=ab (0<=n/\n<=2)):=fun b hb=>Kx
 generalize ab (0<=n/\n<=2)=B at *;go_in;go_wp2_with fail
 all_goals
  go_ret;exact⟨aH (H _ (by simp;omega)),rfl⟩
def z44 (x:Tk) (y:aF) (s1:ax bR) (d1:av) (w:aj):jW 285 (#[cZ #[x.id,cW .u8 x.is],cZ #[y.id,y.pt,js s1 y.ends d1]]++#[]) w (bY w (ab (pB x y))):=by
 have H:bG (∀b,(b=bl↔(x.id=y.id/\x.is<=2))->b=ab (pB x y)):=fun b hb=>Yg
 generalize ab (pB x y)=B at *;go_in;go_wp2_with fail
 all_goals
  go_ret;exact⟨aH (H _ (by simp_all)),aR.alloc ee _⟩
def z45 (x:Sw) (y:Pt) (g:av) (w:aj) (x0:jc w g 0 (.func (.func 283) #[] #[])):jW 287 (#[cZ #[x.id,x.lie,x.call],cZ #[y.id,y.sec]]++#[cY (bt ⟨g,0,bn⟩)]) w (bY w (ab (oI x y))):=by
 have H:bG (∀b,(b=bl↔(x.id=y.id/\(0<=x.lie/\x.lie<=2)/\(0<=x.call/\x.call<=2)))->b=ab (oI x y)):=fun b hb=>Yg
 have d:=z40;refine Qv fun _=>?_;generalize ab (oI x y)=B at *;by_cases h1:x.id=y.id
 ·by_cases h2:0<=x.lie/\x.lie<=2
  ·have d2:=Ni h2;go_in;go_wp2_with fail;refine(JI _ _).mono ?_;rintro e w1 ⟨rfl,rfl⟩;rw[d2];go_wp2_with fail;refine(JI _ _).mono ?_;rintro e w1 ⟨rfl,rfl⟩;go_wp2_with fail
   all_goals
    go_ret;exact⟨aH (H _ (by simp_all)),aR.alloc ee _⟩
  have d2:=Mw h2;go_in;go_wp2_with fail;refine(JI _ _).mono ?_;rintro e w1 ⟨rfl,rfl⟩;rw[d2];have c:=hI (H aW (by simp;intro _ a b;exact cv ⟨a,b⟩ h2));refine ei ?_;exact⟨aH c,aR.alloc ee _⟩
 have t1:(x.id==y.id)=aW:=by rw[Nd];exact h1
 have c:=hI (H aW (by simp[h1]));go_in;refine ei ?_;exact⟨aH c,aR.alloc ee _⟩
theorem z46 (l:Lk) (r:Rt) (s1 s2 s3:ax bR) (d1 d2 d3:av) (w:aj) (h6:r.A.length<=17592186044416):jW 290 #[cZ #[l.id,cW .u8 l.ph,l.gone,l.left],cZ #[r.id,r.E,r.X,js s1 r.A d1,js s2 r.O d2,js s3 r.fl d3,r.T]] w (bY w (ab (kX l r))):=by
 have c:bG (∀b,(b=bl↔kX l r)->b=ab (kX l r)):=fun b hb=>by rw[Dh,hb];simp
 generalize ab (kX l r)=B at *
 have HP:bG (kX l r↔(((l.ph=0\/l.ph=1)/\l.gone=0/\l.left=0)\/(l.ph=2/\0<=l.gone/\l.gone<=(r.A:ar)-1/\l.left=0)\/
 (l.ph=3/\l.gone=(r.A:ar)-1/\1<=l.left/\l.left<=r.T)\/(l.ph=4/\l.gone=0/\1<=l.left/\l.left<=r.T))):=To
 have a:bG (jb w ((w.alloc (cO #[l.id,cW .u8 l.ph,l.gone,l.left] 99)).alloc (cO #[r.id,r.E,r.X,js s1 r.A d1,js s2 r.O d2,js s3 r.fl d3,r.T] 102))):=aR.alloc (by simp) _;generalize kX l r=P at *;obtain⟨L,ph,gone,left⟩:=l;simp only[]at HP a ⊢;generalize r.T=t at *;generalize r.A.length=pl at *;by_cases p0:ph=0
 ·subst p0;by_cases h0:gone=0
  ·have T:(gone==0)=bl:=(by simpa using h0);by_cases h1:left=0
   ·have d:(left==0)=bl:=(by simpa using h1);have H:=hI (c bl (by rw[HP.o];simp;omega));clear h0 h1;go_in;go_wp2_with fail;go_ret;exact⟨aH H,a⟩
   have d:(left==0)=aW:=(by simpa using h1);have H:=hI (c aW (by rw[HP.o];simp;omega));clear h0 h1;go_in;go_wp2_with fail;go_ret;exact⟨aH H,a⟩
  have T:(gone==0)=aW:=(by simpa using h0);have H:=hI (c aW (by rw[HP.o];simp;omega));clear h0;go_in;go_wp2_with fail;go_ret;exact⟨aH H,a⟩
 have q0:(ph==0)=aW:=by rw[beq_eq_false_iff_ne];exact p0
 by_cases p1:ph=1
 ·subst p1;by_cases h0:gone=0
  ·have T:(gone==0)=bl:=(by simpa using h0);by_cases h1:left=0
   ·have d:(left==0)=bl:=(by simpa using h1);have H:=hI (c bl (by rw[HP.o];simp;omega));clear h0 h1;go_in;go_wp2_with fail;go_ret;exact⟨aH H,a⟩
   have d:(left==0)=aW:=(by simpa using h1);have H:=hI (c aW (by rw[HP.o];simp;omega));clear h0 h1;go_in;go_wp2_with fail;go_ret;exact⟨aH H,a⟩
  have T:(gone==0)=aW:=(by simpa using h0);have H:=hI (c aW (by rw[HP.o];simp;omega));clear h0;go_in;go_wp2_with fail;go_ret;exact⟨aH H,a⟩
 have q1:(ph==1)=aW:=(by rw[beq_eq_false_iff_ne];exact p1);by_cases he:ph=2
 ·subst he;by_cases h0:0<=gone
  ·have T:=jT h0;by_cases h1:gone<=(pl:ar)-1
   ·have d:=jT h1;by_cases h2:left=0
    ·have e:(left==0)=bl:=(by simpa using h2);have H:=hI (c bl (by rw[HP.o];simp;omega));clear h0 h1 h2;go_in;go_wp2_with fail;go_ret;exact⟨aH H,a⟩
    have e:(left==0)=aW:=(by simpa using h2);have H:=hI (c aW (by rw[HP.o];simp;omega));go_in;go_wp2_with fail;go_ret;exact⟨aH H,a⟩
   have d:=jU h1;have H:=hI (c aW (by rw[HP.o];simp;omega));go_in;go_wp2_with fail;go_ret;exact⟨aH H,a⟩
  have T:=jU h0;have H:=hI (c aW (by rw[HP.o];simp;omega));clear h0;go_in;go_wp2_with fail;go_ret;exact⟨aH H,a⟩
 have q2:(ph==2)=aW:=(by rw[beq_eq_false_iff_ne];exact he);by_cases p3:ph=3
 ·subst p3;by_cases h0:gone=(pl:ar)-1
  ·have T:(gone==(pl:ar)-1)=bl:=(by simpa using h0);by_cases h1:1<=left
   ·have d:=jT h1;by_cases h2:left<=t
    ·have e:=jT h2;have H:=hI (c bl (by rw[HP.o];simp;omega));clear h0 h1 h2;go_in;go_wp2_with fail;go_ret;exact⟨aH H,a⟩
    have e:=jU h2;have H:=hI (c aW (by rw[HP.o];simp;omega));clear h0 h1 h2;go_in;go_wp2_with fail;go_ret;exact⟨aH H,a⟩
   have d:=jU h1;have H:=hI (c aW (by rw[HP.o];simp;omega));clear h0 h1;go_in;go_wp2_with fail;go_ret;exact⟨aH H,a⟩
  have T:(gone==(pl:ar)-1)=aW:=(by simpa using h0);have H:=hI (c aW (by rw[HP.o];simp;omega));clear h0;go_in;go_wp2_with fail;go_ret;exact⟨aH H,a⟩
 have q3:(ph==3)=aW:=(by rw[beq_eq_false_iff_ne];exact p3);by_cases p4:ph=4
 ·subst p4;by_cases h0:gone=0
  ·have T:(gone==0)=bl:=(by simpa using h0);by_cases h1:1<=left
   ·have d:=jT h1;by_cases h2:left<=t
    ·have e:=jT h2;have H:=hI (c bl (by rw[HP.o];simp;omega));clear h0 h1 h2;go_in;go_wp2_with fail;go_ret;exact⟨aH H,a⟩
    have e:=jU h2;have H:=hI (c aW (by rw[HP.o];simp;omega));clear h0 h1 h2;go_in;go_wp2_with fail;go_ret;exact⟨aH H,a⟩
   have d:=jU h1;have H:=hI (c aW (by rw[HP.o];simp;omega));clear h0 h1;go_in;go_wp2_with fail;go_ret;exact⟨aH H,a⟩
  have T:(gone==0)=aW:=(by simpa using h0);have H:=hI (c aW (by rw[HP.o];simp;omega));go_in;go_wp2_with fail;go_ret;exact⟨aH H,a⟩
 have q4:(ph==4)=aW:=(by rw[beq_eq_false_iff_ne];exact p4);have H:=hI (c aW (by rw[HP.o];simp;omega));go_in;go_wp2_with fail;go_ret;exact⟨aH H,a⟩
def z47 (x:Lk) (y:Rt) (s1 s2 s3:ax bR) (d1 d2 d3:av) (w:aj) (h6:y.A.length<=17592186044416):jW 289 (#[cZ #[x.id,cW .u8 x.ph,x.gone,x.left],cZ #[y.id,y.E,y.X,js s1 y.A d1,js s2 y.O d2,js s3 y.fl d3,y.T]]++#[]) w (bY w (ab (oV x y))):=by
 have a:bG (∀b,(b=bl↔(x.id=y.id/\kX x y))->b=ab (oV x y)):=fun b hb=>by rw[aU.eq_iff_iff,hb,decide_eq_true_iff];exact Iff.rfl
 have c:=hI fun w=>z46 x y s1 s2 s3 d1 d2 d3 w h6;generalize ab (oV x y)=B at *;by_cases h1:x.id=y.id
 ·have t1:(x.id==y.id)=bl:=by rw[beq_iff_eq];exact h1
  have d:bG (ab (kX x y)=B):=a _ (by simp[h1]);generalize ab (kX x y)=D at *;clear h1;go_enter func289,ntmps289;go_wp2_with fail;refine(c _).mono ?_;rintro e w1 ⟨rfl,H⟩;have K1:=hI ((aR.alloc (by simp) _).trans (H.mono (by simp;omega)));go_wp2_with fail;go_ret;exact⟨aH d,K1⟩
 have t1:(x.id==y.id)=aW:=by rw[beq_eq_false_iff_ne];exact h1
 have f:=hI (a aW (by simp[h1]));go_in;go_wp2_with fail;go_ret;exact⟨aH f,aR.alloc (by simp) _⟩
def DK:(prog.info? 207).map (fun i=>(i.zero,i.size,i.bytes))=bt (bt (cZ #[jV 0,jV 0]),2,16):=by kernel_rfl
def kS (x:Fl):aq bw:=[jV x.pt,jV x.lie]
def su (x:Fl) (u:bw) (h:u∈kS x):u.oneCell'=bl:=by
 unfold kS at h;simp at h;rcases h with rfl | rfl<;>rfl
def mg {α:Type}{sz:av}{R:aj->aq bw->α->Prop}{b off:av}{l:aq α}{f:α->aq bw}(h:aB w sz R (bt ⟨b,off,bn⟩) cap l) (g: ∀x∈l,(f x).length=sz) (k: ∀V x,R w V x->V=f x) (hz:0<sz):
  ∀j u,(l.flatMap f)[j]? =bt u->jc w b (off+j) u:=by
 intro j u hj;have H:=pC f sz l g;have hjl:j<l.length * sz:=by rw[<-H];exact(aq.getElem?_eq_some_iff.1 hj).1
 refine Ya fun i hr a=>?_;rw[<-a,rB f sz l (j / sz) (j % sz) i g hr]at hj;obtain⟨B,o,V,e,hl,n,d⟩:=h.at_ (j / sz) i;cases e;obtain rfl:=k V _ d;have h1:=n (j % sz) Up;rw[Nf Up]at hj;rw[show off+j=off+j / sz * sz+j % sz by rw[Tz,a],h1];exact hj
def z4h:rI 8796093022208 211 207 2 lZ kS:=tS underlying100 DK (fun _ _ _ h=>h) (fun _=>rfl) (fun _=>by simp[kS,bw.oneCell']) eh
structure RW (B:av) (w0:aj) (r:Rt) (g g2:av) (P O Q:bw) (f0 f1 f2 f3 f4 f5 f6 f7 f8 f9 f10 f11 f12 f13 f14:aU) (s3 s4 s5 s6 s7 s8 s9 s10 s11 s12 s13 s14:bw) (W:aj):Prop where
 bel:cB B w0 W
 hl:g2+1<=W.heap.size
 blk:jk W g #[r.id,r.E,r.X,bif f10 then s5 else P,bif f12 then s8 else O,bif f14 then s11 else Q,r.T] 102
 hz:jk W g2 #[jV 0,jV 0,jV 0,jN,jN,jN,jV 0] 102
 h0:f0=bl->s3=cY (bt ⟨g,3,bn⟩)
 h1:f1=bl->s4=P
 h2:f2=bl->aA W (g2+1) s5 r.A
 h3:f3=bl->s6=cY (bt ⟨g,4,bn⟩)
 h4:f4=bl->s7=O
 h5:f5=bl->aA W (g2+1) s8 r.O
 h6:f6=bl->s9=cY (bt ⟨g,5,bn⟩)
 h7:f7=bl->s10=Q
 h8:f8=bl->W.ownsRow (g2+1) 207 2 s11 r.fl (r.fl.flatMap kS)
 h9:f9=bl->s12=cY (bt ⟨g,3,bn⟩)
 h11:f11=bl->s13=cY (bt ⟨g,4,bn⟩)
 h13:f13=bl->s14=cY (bt ⟨g,5,bn⟩)
 d0:f10=bl->f1=bl/\f2=bl
 d1:f12=bl->f4=bl/\f5=bl
 d2:f14=bl->f7=bl/\f8=bl
def RW.below {w0:aj}{r:Rt}{g2:av}{P O Q:bw}{f0 f1 f2 f3 f4 f5 f6 f7 f8 f9 f10 f11 F a f14:aU}{s3 s4 s5 s6 s7 s8 s9 b s11 d e s14:bw}(h:RW B w0 r g g2 P O Q f0 f1 f2 f3 f4 f5 f6 f7 f8 f9 f10 f11 F a f14 s3 s4 s5 s6 s7 s8 s9 b s11 d e s14 W) (H:jb W W') (i:B<=W.heap.size):RW B w0 r g g2 P O Q f0 f1 f2 f3 f4 f5 f6 f7 f8 f9 f10 f11 F a f14 s3 s4 s5 s6 s7 s8 s9 b s11 d e s14 W':=
 {h with
  bel:=h.bel.trans (H.mono i)
  hl:=Nj h.hl H.size
  blk:=jm H h.blk
  hz:=jm H h.hz
  h2:=fun k=>bU (h.h2 k) H
  h5:=fun k=>bU (h.h5 k) H
  h8:=fun k=>bU (h.h8 k) H}
def bM (W:aj) (B:av) (v1 v2 v3:bw) (r:Rt):Prop:=aA W B v1 r.A/\aA W B v2 r.O/\W.ownsRow B 207 2 v3 r.fl (r.fl.flatMap kS)
def bM.m {r:Rt}(h:bM W B v1 v2 v3 r):dY W v1 v2 v3 r:=⟨h.1.ilv,h.2.1.ilv,kK (f:=kS) h.2.2 (fun _ _=>rfl) (fun _ _=>rfl)⟩
def bM.setCell {r:Rt}(h:bM W B v1 v2 v3 r)(H:a.block<B) (x:bw):bM (W.setCell a x) B v1 v2 v3 r:=⟨aV h.1 H x,aV h.2.1 H x,aV h.2.2 H x⟩
def bM.base {B':av}{r:Rt}(h:bM W B v1 v2 v3 r) (H:B'<=B):bM W B' v1 v2 v3 r:=⟨bW h.1 H,bW h.2.1 H,bW h.2.2 H⟩
def iG {base:av}{sz:av}{v:bw}{xs:aq bw}(h:w.ownsRow base e sz v n xs): ∃a c,v=cJ a n c:=by
 rcases h.2 with⟨rfl,h0⟩ | ⟨g,cap,cur,rfl,_⟩
 ·exact⟨bn,0,by rw[h0]⟩
 exact⟨_,_,rfl⟩
def vZ {a b c:aU}(h:a=bl->b=bl/\c=bl) (H:b=aW\/c=aW):a=aW:=by
 cases a with
 | false=>rfl
 | true=>rcases H with e | e<;>simp[e]at h
theorem z4i (r:Rt) (p1 o1 f1:ax bR) (P D o2 o3 F E:av) (w:aj) (a6:dY w (js p1 P D) (js o1 o2 o3) (js f1 F E) r) (a7:r.fit):
  jW 128 #[cZ #[r.id,r.E,r.X,js p1 P D,js o1 o2 o3,js f1 F E,r.T]] w fun e q=> ∃G c1 I c2 J M,e=cL (cZ #[r.id,r.E,r.X,js G r.A c1,js I r.O c2,js J r.fl M,r.T])/\bM q w (js G r.A c1) (js I r.O c2) (js J r.fl M) r/\jb w q:=by
 have a0:bG (∀W,jb w W->dY W (js p1 P D) (js o1 o2 o3) (js f1 F E) r):=fun W t=>a6.below t;have a1:=hI a7
 have H0:bG (∀W,jb w W->jW 210 #[js p1 P D] W fun e q=> ∃v,e=cL v/\aA q W v r.A/\jb W q):=fun W t=>by
  obtain⟨a,n,c,e,h⟩:=(a0 W t).A;cases e;obtain rfl:=h.len;exact DA _ _ _ W h a1.1
 have H1:bG (∀W,jb w W->jW 210 #[js o1 o2 o3] W fun e q=> ∃v,e=cL v/\aA q W v r.O/\jb W q):=fun W t=>by
  obtain⟨a,n,c,e,h⟩:=(a0 W t).O;cases e;obtain rfl:=h.len;exact DA _ _ _ W h a1.2.1
 have H2:bG (∀W,jb w W->jW 211 #[js f1 F E] W fun e q=> ∃v,e=cL v/\q.ownsRow W 207 2 v r.fl (r.fl.flatMap kS)/\jb W q):=fun W t=>by
  obtain⟨a,c,e,h⟩:=(a0 W t).fl;cases e;exact z4h _ _ _ W h a1.2.2
 go_in;go_upto_region 1 with fail;generalize N:cj _ _=W0;have R:=hI (eN N)
 have H3:=hI (jB N)
 have U:=hI (jC N)
 refine tN ef ef (fun f a j=> ∃Z s4 s5 s6 s7 s8 s9 A s11 B C s14 O:bw,a={tmps:=#[cZ #[r.id,r.E,r.X,js p1 P D,js o1 o2 o3,js f1 F E,r.T],jp w 0,jp (w+1) 0,Z,s4,s5,s6,s7,s8,s9,A,s11,B,C,s14,O],defers:=[]}/\RW w w r w (w+1) (js p1 P D) (js o1 o2 o3) (js f1 F E) (f 0) (f 1) (f 2) (f 3) (f 4) (f 5) (f 6) (f 7) (f 8) (f 9) (f 10) (f 11) (f 12) (f 13) (f 14) Z s4 s5 s6 s7 s8 s9 A s11 B C s14 j) ?_ ?_ ?_
 ·exact⟨_,_,_,_,_,_,_,_,_,_,_,_,_,rfl,{bel:=⟨R.os,R.tape,R.output,R.size,R.block⟩,hl:=aD U,blk:=H3,hz:=U,h0:=by simp,h1:=by simp,h2:=by simp,h3:=by simp,h4:=by simp,h5:=by simp,h6:=by simp,h7:=by simp,h8:=by simp,h9:=by simp,h11:=by simp,h13:=by simp,d0:=by simp,d1:=by simp,d2:=by simp}⟩
 ·intro i o b f a j Q hd g;obtain⟨Z,s4,s5,s6,s7,s8,s9,A,s11,B,C,s14,O,rfl,hS⟩:=Q;have a2:=hS.bel.size;rcases i with _ | _ | _ | _ | _ | _ | _ | _ | _ | _ | _ | _ | _ | _ | _ | i
  ·simp at b;subst b;simp[wpOp,go_sem];refine Uh ?_;exact Xz
  ·simp at b;subst b;obtain rfl:=hS.h0 (hd ⟨0,.data⟩ ee ev);have T4:=vZ hS.d0 (.inl g);have fz:jc j w 3 (js p1 P D):=(Mu j _ 3 _ _ _ hS.blk).trans (by simp[T4]);simp[wpOp,go_sem,fz];refine Uh ?_;exact {hS with h1:=fun _=>rfl,d0:=fun h=>cv h Vm}
  ·simp at b;subst b;obtain rfl:=hS.h1 (hd ⟨1,.data⟩ ee ev);have T4:=vZ hS.d0 (.inr g);have V:=H0 j hS.bel;have x:=hS.hl;simp[wpOp,go_sem];refine .inl (V.mono ?_);rintro e q ⟨v,rfl,l,t⟩;have p:=RW.below hS t a2;have hc:=p.blk;simp[go_sem];exact⟨_,_,_,_,_,_,_,_,_,_,_,_,⟨rfl,rfl,rfl,rfl,rfl,rfl,rfl,rfl,rfl,rfl,rfl,rfl⟩,{p with blk:=(by simpa [T4]using hc),h2:=fun _=>bW l x,d0:=fun h=>cv h Vm}⟩
  ·simp at b;subst b;simp[wpOp,go_sem];refine Uh ?_;exact {hS with h3:=fun _=>rfl}
  ·simp at b;subst b;obtain rfl:=hS.h3 (hd ⟨3,.data⟩ ee ev);have T4:=vZ hS.d1 (.inl g);have fz:jc j w 4 (js o1 o2 o3):=(Mu j _ 4 _ _ _ hS.blk).trans (by simp[T4]);simp[wpOp,go_sem,fz];refine Uh ?_;exact {hS with h4:=fun _=>rfl,d1:=fun h=>cv h Vm}
  ·simp at b;subst b;obtain rfl:=hS.h4 (hd ⟨4,.data⟩ ee ev);have T4:=vZ hS.d1 (.inr g);have V:=H1 j hS.bel;have x:=hS.hl;simp[wpOp,go_sem];refine .inl (V.mono ?_);rintro e q ⟨v,rfl,l,t⟩;have p:=RW.below hS t a2;have hc:=p.blk;simp[go_sem];exact⟨_,_,_,_,_,_,_,_,_,_,_,_,⟨rfl,rfl,rfl,rfl,rfl,rfl,rfl,rfl,rfl,rfl,rfl,rfl⟩,{p with blk:=(by simpa [T4]using hc),h5:=fun _=>bW l x,d1:=fun h=>cv h Vm}⟩
  ·simp at b;subst b;simp[wpOp,go_sem];refine Uh ?_;exact XR
  ·simp at b;subst b;obtain rfl:=hS.h6 (hd ⟨6,.data⟩ ee ev);have T4:=vZ hS.d2 (.inl g);have fz:jc j w 5 (js f1 F E):=(Mu j _ 5 _ _ _ hS.blk).trans (by simp[T4]);simp[wpOp,go_sem,fz];refine Uh ?_;exact {hS with h7:=fun _=>rfl,d2:=fun h=>cv h Vm}
  ·simp at b;subst b;obtain rfl:=hS.h7 (hd ⟨7,.data⟩ ee ev);have T4:=vZ hS.d2 (.inr g);have V:=H2 j hS.bel;have x:=hS.hl;simp[wpOp,go_sem];refine .inl (V.mono ?_);rintro e q ⟨v,rfl,l,t⟩;have p:=RW.below hS t a2;have hc:=p.blk;simp[go_sem];exact⟨_,_,_,_,_,_,_,_,_,_,_,_,⟨rfl,rfl,rfl,rfl,rfl,rfl,rfl,rfl,rfl,rfl,rfl,rfl⟩,{p with blk:=(by simpa [T4]using hc),h8:=fun _=>bW l x,d2:=fun h=>cv h Vm}⟩
  ·simp at b;subst b;simp[wpOp,go_sem];refine Uh ?_;exact {hS with h9:=fun _=>rfl}
  ·simp at b;subst b;obtain rfl:=hS.h9 (hd ⟨9,.data⟩ ee ev);have X:=hS.h2 (hd ⟨2,.data⟩ ee ev);have y:=hd ⟨1,.phase⟩ ee ev;have z:=hd ⟨2,.data⟩ ee ev;obtain⟨a4,a5,rfl⟩:=iG X;have hc:=hS.blk;have c9:=jZ hc
   have fz:jc j w 3 (js p1 P D):=(Mu j _ 3 _ _ _ hc).trans (by simp[g]);have a3:=aD hc;have H:w.heap.size<w.heap.size+1+1:=ed;refine Vi ?_;refine Uh ?_;refine {hS with bel:=(hS.bel.setCell ee _),hl:=Zt,blk:=Uq,hz:=Yh,h2:=(fun k=>aV (hS.h2 k) H _),h5:=(fun k=>aV (hS.h5 k) H _),h8:=(fun k=>aV (hS.h8 k) H _),d0:=fun _=>⟨y,z⟩}
  ·simp at b;subst b;simp[wpOp,go_sem];refine Uh ?_;exact {hS with h11:=fun _=>rfl}
  ·simp at b;subst b;obtain rfl:=hS.h11 (hd ⟨11,.data⟩ ee ev);have X:=hS.h5 (hd ⟨5,.data⟩ ee ev);have y:=hd ⟨4,.phase⟩ ee ev;have z:=hd ⟨5,.data⟩ ee ev;obtain⟨a4,a5,rfl⟩:=iG X;have hc:=hS.blk;have c9:=jZ hc
   have fz:jc j w 4 (js o1 o2 o3):=(Mu j _ 4 _ _ _ hc).trans (by simp[g]);have a3:=aD hc;have H:w.heap.size<w.heap.size+1+1:=ed;refine Vi ?_;refine Uh ?_;refine {hS with bel:=(hS.bel.setCell ee _),hl:=Zt,blk:=Uq,hz:=Yh,h2:=(fun k=>aV (hS.h2 k) H _),h5:=(fun k=>aV (hS.h5 k) H _),h8:=(fun k=>aV (hS.h8 k) H _),d1:=fun _=>⟨y,z⟩}
  ·simp at b;subst b;simp[wpOp,go_sem];refine Uh ?_;exact {hS with h13:=fun _=>rfl}
  ·simp at b;subst b;obtain rfl:=hS.h13 (hd ⟨13,.data⟩ ee ev);have X:=hS.h8 (hd ⟨8,.data⟩ ee ev);have y:=hd ⟨7,.phase⟩ ee ev;have z:=hd ⟨8,.data⟩ ee ev;obtain⟨a4,a5,rfl⟩:=iG X;have hc:=hS.blk;have c9:=jZ hc
   have fz:jc j w 5 (js f1 F E):=(Mu j _ 5 _ _ _ hc).trans (by simp[g]);have a3:=aD hc;have H:w.heap.size<w.heap.size+1+1:=ed;refine Vi ?_;refine Uh ?_;refine {hS with bel:=(hS.bel.setCell ee _),hl:=Zt,blk:=Uq,hz:=Yh,h2:=(fun k=>aV (hS.h2 k) H _),h5:=(fun k=>aV (hS.h5 k) H _),h8:=(fun k=>aV (hS.h8 k) H _),d2:=fun _=>⟨y,z⟩}
  simp at b
 intro f a j Q d;obtain⟨Z,s4,s5,s6,s7,s8,s9,A,s11,B,C,s14,O,rfl,hS⟩:=Q;have hc:=hS.blk;have e0:=d 10 eh;have e1:=d 12 eh;have e2:=d 14 eh;have hb:=hS.h2 (d 2 eh);have ho:=hS.h5 (d 5 eh);have Y:=hS.h8 (d 8 eh);obtain⟨G,c1,rfl⟩:=iG hb;obtain⟨I,c2,rfl⟩:=iG ho;obtain⟨J,M,rfl⟩:=iG Y;simp only[e0,e1,e2,cond_true]at hc;have hz:=hS.hz;have a8:=hI hS.bel;refine Qa fun O1 O2=>?_;have O3:=hI Y;obtain⟨y2,y4,b0,y5,b1,b2,y6⟩:=lU hc;obtain⟨y0,z1,z2,z3,z4,y1,y3⟩:=lU hz;have c9:=jZ hz
 have a3:=aD hz;have b3:=aD hc;go_wp2_with fail;refine On fun u o9=>?_;have q0:jc u (w+1) 0 r.id:=Zz
 have q1:jc u (w+1) 1 r.E:=by rw[<-o9];simp[go_sem,z1,y3]
 have q2:jc u (w+1) 2 r.X:=by rw[<-o9];simp[go_sem,z2,y3]
 have q3:jc u (w+1) 3 (js G r.A c1):=by rw[<-o9];simp[go_sem,z3,y3]
 have q4:jc u (w+1) 4 (js I r.O c2):=by rw[<-o9];simp[go_sem,z4,y3]
 have q5:jc u (w+1) 5 (js J r.fl M):=ZB
 have q6:jc u (w+1) 6 r.T:=by rw[<-o9];simp[go_sem,y3]
 have H:w.heap.size+1<w.heap.size+1+1:=ed
 have a9:bG (jb w u):=by refine Uy ?_;exact Di (Di (Di (Di (Di (Di (Di (a8) ee _) ee _) ee _) ee _) ee _) ee _) ee _
 have M1:bG (aA u (w+1+1) (js G r.A c1) r.A):=by show aA _ _ _ _;rw[<-o9];exact aV (aV (aV (aV (aV (aV (aV (O1) H _) H _) H _) H _) H _) H _) H _
 have M2:bG (aA u (w+1+1) (js I r.O c2) r.O):=by show aA _ _ _ _;rw[<-o9];exact aV (aV (aV (aV (aV (aV (aV (O2) H _) H _) H _) H _) H _) H _) H _
 have M3:bG (u.ownsRow (w+1+1) 207 2 (js J r.fl M) r.fl (r.fl.flatMap kS)):=by show u.ownsRow _ _ _ _ _ _;rw[<-o9];exact aV (aV (aV (aV (aV (aV (aV (O3) H _) H _) H _) H _) H _) H _) H _
 refine Nh (v:=cZ #[r.id,r.E,r.X,js G r.A c1,js I r.O c2,js J r.fl M,r.T]) (by simp[results,Tryz.f128,go_sem,q0,q1,q2,q3,q4,q5,q6]) rfl ?_;exact⟨G,c1,I,c2,J,M,rfl,bM.base ⟨M1,M2,M3⟩ ed,a9⟩
def z4j:aY iA:=fun _ _ _ _ _ h=>h
def z4k:aY gZ:=fun _ _ _ _ _ h=>h
def z4l:aY lZ:=fun _ _ _ _ _ h=>h
def mL:aY cU:=fun _ _ _ _ he ⟨e,h1,h2⟩=>⟨e,h1,h2.ext DW he⟩
def dY.ext {a:aj}{p o f:bw}{x:Rt}(h:dY w p o f x) (he:eD w a):dY a p o f x:=⟨h.A.ext he,h.O.ext he,h.fl.ext z4l he⟩
def oX:aY fH:=fun _ _ _ _ he ⟨p,o,f,h1,h2⟩=>⟨p,o,f,h1,h2.ext he⟩
def frz:Obj->aU
 | .cells _ _ (lo,hi)=> !(lo==0&&hi==0)
 | _=>aW
def bK (S:av->aU) (w:aj):aj:={w with heap:=w.heap.mapIdx fun k o=>if S k || (S 0&&frz o)then cO #[] 0 (0,0)else o}
def z4m {S:av->aU}(h:S k=aW) (H:jk w k c T):(bK S w).heap[k]? =bt (cO c T (0,0)):=by
 simp[bK,Gf,h,H,frz]
def BP {S:av->aU}{v:bw}(h:(bK S w).cell? a=bt v):S a.block=aW/\w.cell? a=bt v/\ ∃o,w.heap[a.block]? =bt o/\(S 0&&frz o)=aW:=by
 unfold aj.cell? at h;simp only[bK,Gf]at h;cases ho:w.heap[a.block]? with
 | none=>rw[ho]at h;simp at h
 | some o=>
  rw[ho]at h;simp only[Ij]at h;cases hc:(S a.block || (S 0&&frz o))with
  | true=>rw[hc]at h;simp at h
  | false=>
   rw[hc]at h;rw[Sd]at hc;exact⟨hc.1,by unfold aj.cell?;rw[ho];exact h,o,rfl,hc.2⟩
def pL {S:av->aU}{v:bw}(h:(bK S w).cell? a=bt v):S a.block=aW/\w.cell? a=bt v:=⟨(BP h).1,(BP h).2.1⟩
def uC {S b:av->aU}{d:aj}{v:bw}(h:(bK S w).cell? a=bt v) (h1:b a.block=aW) (h0:b 0=bl->S 0=bl) (H:d.heap[a.block]? =w.heap[a.block]?):(bK b d).cell? a=bt v:=by
 obtain⟨-,h2,o,h3,h4⟩:=BP h
 have h5:(b 0&&frz o)=aW:=by
  cases hs:b 0 with
  | false=>rfl
  | true=>rw[h0 hs]at h4;exact h4
 rw[h3]at H;unfold aj.cell? at h2 ⊢;simp only[bK,Gf,H,Ij,h1,h5,aU.or_false];rw[h3]at h2;exact h2
def mZ (S:av->aU) (w:aj):eD (bK S w) w:=fun a v h=>(pL h).2
def yR {S:av->aU}{b:aj}(h: ∀k,k<w.heap.size->S k=aW->b.heap[k]? =w.heap[k]?):eD (bK S w) (bK S b):=fun a v e=>by
 obtain⟨h1,h2⟩:=pL e;exact uC e h1 id (h _ (Mt h2) h1)
def eV {S:av->aU}{a:aj}(H:jb w a):eD (bK S w) (bK S a):=yR fun k b _=>H.block k b
def SR {S:av->aU}{b:aj}(g:jb w b) (H: ∀k,k<w.heap.size->S k=aW):eD w (bK S b):=fun a v e=>by
 have d:=Mt e;have h0:=H 0 ed;unfold aj.cell? at e ⊢;simp only[bK,Gf,H _ d,h0,g.block _ d,aU.false_and,aU.or_false];cases ho:w.heap[a.block]? with
 | none=>rw[ho]at e;simp at e
 | some o=>rw[ho]at e;exact e
def SP {base sz:av}{xs:aq bw}(h:W.ownsRow base e sz (jq g 0 n cap) n xs){i:av}(a:i<xs.length) (u:bw):
  (W.setCell ⟨g,i,bn⟩ u).ownsRow base e sz (jq g 0 n cap) n (xs.set i u):=by
 refine⟨by rw[Tj];exact h.1,?_⟩;rcases h.2 with⟨h1,_⟩ | ⟨G,C,cur,he,H,hc,r1,r2,hz,r4⟩
 ·cases h1
 cases he;refine .inr ⟨g,cap,cur.setIfInBounds i u,rfl,H,Uq,r1,r2,Qh,?_⟩;rw[<-r4,Fh,aq.take_set]
def qW {o:av}{u:bw}(h:jk W g cs T):(W.setCell ⟨g,o,bn⟩ u).heap[g]? =bt (cO (cs.setIfInBounds o u) T (0,0)):=by simp[cd,Nk,h]
def SO (sz:av): ∀(xss:aq (aq bw)) (i j:av) (hi:i<xss.length) (u:bw),(∀x∈xss,x.length=sz)->j<sz->(xss.flatMap id).set (i * sz+j) u=(xss.set i (xss[i].set j u)).flatMap id
 | [],i,j,hi,_,_,_=>by simp at hi
 | x::l,0,j,_,u,hs,hj=>by
  simp only[Sb,id,av.zero_mul,Pa,aq.set_cons_zero,Nu];rw[aq.set_append_left _ _ (by rw[hs x Dq];exact hj)]
 | x::l,i+1,j,hi,u,hs,hj=>by
  have hx:=hs x Dq;simp only[Sb,id,Df,Dl];rw[Hj _ _ (by rw[hx,Ft];omega),hx,show(i+1) * sz+j-sz=i * sz+j by rw[Ft];omega,<-SO sz l i j Og u (fun y H=>hs y (Dy _ H)) hj]
def z4o {α:Type}{base:av}{sz:av}{v:bw}{l:aq α}{xss:aq (aq bw)}{R:aj->aq bw->α->Prop}(h:w.ownsRow base e sz v xss (xss.flatMap id)) (hl:xss.length=l.length) (a: ∀x∈xss,x.length=sz)
  (d: ∀i (h:i<xss.length) (h':i<l.length),R w xss[i] l[i]):Sl w sz R v l:=by
 rcases h.2 with⟨rfl,h0⟩ | ⟨g,cap,cur,rfl,k,n,o,q,hz,r⟩
 ·have hn:l=[]:=Dm ed;exact XW
 refine⟨bt ⟨g,0,bn⟩,cap,by rw[hl],by rw[<-hl];exact o,(fun h=>nomatch h),fun i p=>⟨g,0,xss[i]' ed,rfl,a _ (Nn _),fun j hj=> ?_,d i ed p⟩⟩;have H:i<xss.length:=by omega
 have b:j<sz:=by rw[<-a _ (Nn H)];exact hj
 have h1:(xss.flatMap id)[i * sz+j]? =bt (xss[i]'H)[j]:=by
  rw[rB id sz xss i j H a b,id,Nf hj]
 have h2:=h.cells (g:=g) rfl (i * sz+j) _ h1;rw[oB]at h2;exact jj
structure aZ (g:av) (W W':aj):Prop where
 os:W'.os=W.os
 tape:W'.tape=W.tape
 output:W'.output=W.output
 size:W'.heap.size=W.heap.size
 block: ∀k,k≠g->W'.heap[k]? =W.heap[k]?
def aZ.set (W:aj) (a:bR) (u:bw):aZ a.block W (W.setCell a u):=⟨rfl,rfl,rfl,ZL,fun k H=>Ny W a u k H⟩
def aZ.trans {a:aj}(h:aZ g W W') (k:aZ g W' a):aZ g W a:=⟨k.os.trans h.os,k.tape.trans h.tape,k.output.trans h.output,k.size.trans h.size,fun i H=>(k.block i H).trans (h.block i H)⟩
def aZ.cells (g:av): ∀(V:aq bw) (o:av) (W:aj),aZ g W (W.setCells g o V)
 | [],_,W=>⟨rfl,rfl,rfl,rfl,fun _ _=>rfl⟩
 | v::r,o,W=>(aZ.set W ⟨g,o,bn⟩ v).trans (aZ.cells g r (o+1) _)
def aZ.below (h:aZ g W W') (H:cB B w W) (a:B<=g):cB B w W':=
 H.trans ⟨h.os,h.tape,h.output,by rw[h.size];exact Mv _,fun k b=>h.block k ed⟩
def aZ.off (h:aZ g W W'){S:av->aU}(a:S g=bl):eD (bK S W) (bK S W'):=yR fun k _ H=>h.block k (fun e=>by rw[e,a]at H;cases H)
def aZ.own (h:aZ g W W'){base:av}{sz:av}{v:bw}{xs:aq bw}(d:W.ownsRow base e sz v n xs) (H:v.ownBlock≠bt g):W'.ownsRow base e sz v n xs:=by
 refine⟨d.1,?_⟩;rcases d.2 with i | ⟨k,cap,cur,rfl,a,b,rest⟩
 ·exact .inl i
 exact .inr ⟨k,cap,cur,rfl,a,(h.block k (fun e=>H (by rw[e];rfl))).trans b,rest⟩
def vY {base:av}{sz:av}{v:bw}{xs:aq bw}(h:W.ownsRow base e sz v n xs)(a:W.heap[g]? =bt (cO c T fr)) (H:T≠e):v.ownBlock≠bt g:=fun E=>by
 obtain⟨C,q,-⟩:=fD h E;rw[a]at q
 injection q with q
 injection q with _ q
 exact H q
def BN {S:av->aU}{base:av}{sz:av}{v:bw}{xs:aq bw}(h:W.ownsRow base e sz v n xs) (b: ∀k,v.ownBlock=bt k->S k=aW):(bK S W).ownsRow base e sz v n xs:=by
 refine⟨h.1,?_⟩;rcases h.2 with d | ⟨k,cap,cur,rfl,H,a,rest⟩
 ·exact .inl d
 exact .inr ⟨k,cap,cur,rfl,H,z4m (b k rfl) a,rest⟩
def rM:aq bw->av->aq bw->aq bw
 | xs,_,[]=>xs
 | xs,o,v::r=>rM (xs.set o v) (o+1) r
def SN {base sz:av}: ∀(V:aq bw) (o:av) (xs:aq bw) (W:aj),W.ownsRow base e sz (jq g 0 n cap) n xs->o+V.length<=xs.length->(W.setCells g o V).ownsRow base e sz (jq g 0 n cap) n (rM xs o V)
 | [],_,_,_,h,_=>h
 | v::r,o,xs,W,h,hl=>by
  simp only[Du]at hl;exact SN r (o+1) _ _ (SP h ed v) (by rw[Tj];omega)
def SM: ∀(V xs y:aq bw) (o:av),rM (xs++y) (xs.length+o) V=xs++rM y o V
 | [],_,_,_=>rfl
 | v::r,xs,y,o=>by
  rw[rM,rM,Hj _ _ ed,show xs.length+o-xs.length=o by omega,show xs.length+o+1=xs.length+(o+1)by omega,SM r]
def SK: ∀(V u xs y:aq bw),V.length=xs.length->rM (u++xs++y) u V=u++V++y
 | [],u,[],y,_=>rfl
 | [],_,x::xs,_,h=>by simp at h
 | v::r,_,[],_,h=>by simp at h
 | v::r,u,x::xs,y,h=>by
  have e:(u++x::xs++y).set u v=(u++[v])++xs++y:=ee
  have:=SK r (u++[v]) xs y (by simpa using h);rw[rM,e];simp only[Mx,Du,Tl,Pa]at this;rw[this];simp
def SJ (sz:av): ∀(xss:aq (aq bw)) (i:av) (V:aq bw),i<xss.length->(∀x∈xss,x.length=sz)->V.length=sz->rM (xss.flatMap id) (i * sz) V=(xss.set i V).flatMap id
 | [],i,_,hi,_,_=>by simp at hi
 | x::l,0,V,_,hs,hv=>by
  have:=SK V [] x (l.flatMap id) (by rw[hv,hs x Dq])
  simpa using this
 | x::l,i+1,V,hi,hs,hv=>by
  have hx:=hs x Dq;have:=SM V x (l.flatMap id) (i * sz);simp only[Sb,id,Df];rw[show(i+1) * sz=x.length+i * sz by rw[hx,Ft];omega,this,SJ sz l i V (by simpa using hi) (fun y H=>hs y (Dy _ H)) hv]
def z4p {P:Program}{i:av}{o:Oper}{a:Act}{K:Act->aj->Prop}(h:ops[i]? =bt o) (hgd:o.guard=bn) (ty:bT) (x y:Operand) (H:o.op= .store ty x y)
  (b off:av) (cells:aL bw) (hx:a.eval x=cY (bt ⟨b,off,bn⟩)) (d:a.eval y=cZ cells) (e:w.there b off cells.size) (g:(P.info? ty).map (·.size)=bt cells.size) (h1:cells.all (·.oneCell')=bl)
  (j:K (a.put o.dst bE) (w.setCells b off cells.toList)):wpOp P ops Q i K a w:=by
 unfold wpOp;rw[h];have k:Region.wanted o (yielded ops a.tmps)=bl:=by simp[Region.wanted,hgd]
 simp only[k,Hq];exact .inl (wp_store_mid ty x y H b off cells hx d e g h1 j)
def nZ (cs:aL bw):av->aq bw->aL bw
 | _,[]=>cs
 | o,v::r=>nZ (cs.setIfInBounds o v) (o+1) r
def yQ {W:aj}: ∀(V:aq bw) (o:av) (cs:aL bw) (W:aj),jk W g cs T->(W.setCells g o V).heap[g]? =bt (cO (nZ cs o V) T (0,0))
 | [],_,_,_,h=>h
 | v::r,o,cs,W,h=>yQ (W:=W) r (o+1) _ _ (qW h)
structure Fr (w:aj) (L:aq (aL bw × bT)) (W:aj):Prop where
 bel:jb w W
 sz:w.heap.size+L.length<=W.heap.size
 row: ∀i c,L[i]? =bt c->jk W (w+i) c.1 c.2
section
variable {w W W':aj}{L:aq (aL bw × bT)}
def Fr.start (w:aj):Fr w [] w:=⟨Nb _ _,Mv _,fun i c h=>by simp at h⟩
def Fr.alloc (h:Fr w L W) (a:W.heap.size=w.heap.size+L.length) (c:aL bw) (T:bT):Fr w (L++[(c,T)]) (W.alloc (cO c T)):=
 ⟨h.bel.alloc h.bel.size _,em,fun i x hx=>by
  by_cases H:i<L.length
  ·rw[Pd H]at hx;have:=h.row i x hx;exact(Nv _ _ ed).trans this
  rw[Fg ed]at hx
  have e:i=L.length:=by
   rcases av.eq_or_lt_of_le (av.le_of_not_lt H)with e | e
   ·exact e.symm
   rw[Px em]at hx;cases hx
  subst e;simp at hx;subst hx;rw[<-a]
  exact Nc _ _⟩
def Fr.below (h:Fr w L W) (H:jb W W'):Fr w L W':=
 ⟨jt h.bel H,Nj h.sz H.size,fun i c a=>by
  have:=h.row i c a
  exact(jm H this)⟩
def Fr.only (h:Fr w L W){i:av}{c:aL bw × bT}(b:L[i]? =bt c){C:aL bw}(H:aZ (w+i) W W') (d:jk W' (w+i) C c.2):Fr w (L.set i (C,c.2)) W':=by
 have a:=(aq.getElem?_eq_some_iff.1 b).1;refine⟨H.below h.bel ed,by rw[Tj,H.size];exact h.sz,fun j x hx=> ?_⟩;by_cases e:j=i
 ·subst e;rw[aq.getElem?_set_self a]at hx;cases hx;exact d
 rw[aq.getElem?_set_ne (Sr e)]at hx;rw[H.block _ ed];exact h.row j x hx
def Fr.set (h:Fr w L W) (i:av){c:aL bw × bT}(H:L[i]? =bt c) (o:av) (u:bw):Fr w (L.set i (c.1.setIfInBounds o u,c.2)) (W.setCell ⟨w+i,o,bn⟩ u):=
 h.only H (aZ.set W ⟨w+i,o,bn⟩ u) (qW (h.row i c H))
def Fr.sets (h:Fr w L W) (i:av){c:aL bw × bT}(H:L[i]? =bt c) (o:av) (V:aq bw):Fr w (L.set i (nZ c.1 o V,c.2)) (W.setCells (w+i) o V):=
 h.only H (aZ.cells _ V o W) (yQ (W:=W) V o _ _ (h.row i c H))
def Fr.setRow (h:Fr w L W) (i:av){c:aL bw × bT}(H:L[i]? =bt c) (C:aL bw):Fr w (L.set i (C,c.2)) (W.setRow (w+i) C):=
 h.only H ⟨rfl,rfl,rfl,Qx,fun k a=>Nq _ _ _ _ a⟩ (Dp _ _ _ _ _ _ (h.row i c H))
def Fr.lt (h:Fr w L W){i:av}(H:i<L.length):w.heap.size+i<W.heap.size:=by have:=h.sz;omega
def Fr.there (h:Fr w L W){i:av}{c:aL bw × bT}(H:L[i]? =bt c){o:av}(a:o+k<=c.1.size):W.there (w+i) o k:=fun j hj=>by
 have hB9:=h.row i c H;refine⟨?_,Kl⟩;rw[Mu W _ (o+j) _ _ _ hB9,Sa ed];rfl
end
section
variable {w W:aj}{c c1 c2:aL bw}{T T1 T2:bT}
def jH (h:w.alloc (cO c T)=W):Fr w [(c,T)] W:=h ▸ (Fr.start w).alloc rfl c T
def wZ (h:(w.alloc (cO c T)).alloc (cO c1 T1)=W):Fr w [(c,T),(c1,T1)] W:=h ▸ (jH rfl).alloc ee c1 T1
end
open Go.Shelf
structure BL (w:aj) (a:ax bR) (len:av) (l:aq av):Prop where
 len:l.length=len
 lt: ∀i (h:i<l.length),l[i]<256
 cell: ∀i (h:i<l.length),∃b off,a=bt ⟨b,off,bn⟩/\jc w b (off+i) (cW .u8 (l[i]:ar))
def BL.below {a:ax bR}{l:aq av}(h:BL w a len l) (H:jb w W):BL W a len l:=
 ⟨h.len,h.lt,fun i c=>by
  obtain⟨b,off,e,hc⟩:=h.cell i c
  exact⟨b,off,e,(H.cell (p:=⟨b,off+i,bn⟩) Uj).trans hc⟩⟩
def BL.nil (w:aj):BL w bn 0 []:=⟨rfl,fun i h=>by simp at h,fun i h=>by simp at h⟩
def fR (l:aq av):ByteArray:=strOfNums (l.map ar.ofNat)
def BL.str {a:ax bR}{l:aq av}(h:BL w a len l) (cap:av):
  Sem.run prog (convert 22 9 (js a len cap)) w= .ok (.string (fR l)) w:=by
 obtain⟨h1,h2,h3⟩:=h;cases a with
 | none=>
  cases l with
  | nil=>
   have:fR []=ByteArray.empty:=rfl;rw[this];exact run_convert_bytes_nil w 22 5 underlying22 underlying5 _ _ 9 underlying9
  | cons c l=>obtain⟨b,off,e,_⟩:=h3 0 ee;cases e
 | some x=>
  cases l with
  | nil=>
   simp at h1;subst h1;rw[Fs w 22 9 5 _ _ _ underlying22 underlying5 underlying9];exact run_bytesToString w x 0 cap [] (by simp[loadCells,loadCellsFrom,Ty])
  | cons c l=>
   obtain⟨b,off,e,_⟩:=h3 0 ee;cases e;refine run_convert_bytes_arg w 22 5 underlying22 underlying5 b off len cap ((c::l).map ar.ofNat) (by simpa using h1) (fun i d=> ?_) 9 underlying9;obtain⟨B,o,e,H⟩:=h3 i ed;cases e;rw[H];rw[Na,Pp,Nf (show i<(c::l).length by omega)];rfl
def BL.add {a:ax bR}{l:aq av}(h:BL w a len l) (x:bR) (hx:a=bt x): ∀j u,(eT l)[j]? =bt u->w.cell? (x.add j)=bt u:=by
 intro j u H;unfold eT at H;rw[Pp]at H;cases hj:l[j]? with
 | none=>rw[hj]at H;cases H
 | some c=>
  rw[hj]at H;obtain⟨d,e⟩:=aq.getElem?_eq_some_iff.1 hj;obtain⟨b,off,e2,f⟩:=h.cell j d;rw[hx]at e2;cases e2;have he:(⟨b,off,bn⟩:bR).add j=⟨b,off+j,bn⟩:=Yv
  rw[he,f,e];exact H
def IJ {rest:aq Oper}{o:Oper}{a:Act}(f:o.guard=bn) (s x:Operand)
  (p:o.op= .call {callee:= .builtin .append,args:=#[s,x],argTypes:=#[22,22]}) (base:av) (v:bw) (n:av) (xs:aq av) (q:a.eval s=v) (hi:w.ownsRow base 5 1 v n (eT xs))
  (a0:ax bR) (len cap:av) (l:aq av) (hx:a.eval x=cJ a0 len cap) (H:BL w a0 len l) (g:a0=bn->cap=0) (y:n+len<=1000000) (d:base<=w.heap.size)
  (h: ∀v' W,W.ownsRow base 5 1 v' (n+len) (eT (xs++l))->w.grownBy W v.ownBlock->wpList prog ops Q rest (a.put o.dst v') W):wpList prog ops Q (o::rest) a w:=by
 obtain⟨i0,r,i,j,k⟩:=Se nD;cases a0 with
 | none=>
  have h0:len=0:=by
   have:=H.len;cases l with
   | nil=>simpa using this.symm
   | cons c l=>obtain⟨b,off,e,_⟩:=H.cell 0 ee;cases e
  subst h0;have hl:=Dm H.len;subst hl;rw[g rfl]at hx;refine wpList_append_own_none f s x 22 p base 5 i0 1 underlying22 r v n (eT xs) q hi hx ?_;have:=h v w Og ⟨rfl,rfl,rfl,Mv _,fun _ _ _=>rfl⟩;exact this
 | some ad=>
  refine wpList_append_own w f s x 22 p base 5 i0 (cW .u8 0) 1 1 underlying22 r i j k rfl eh v n (eT xs) q hi ad len cap (eT l) hx (by unfold eT;simp[H.len]) (H.add ad rfl) ?_ Oq ed d ?_
  ·intro u t;unfold eT at t;obtain⟨c,_,rfl⟩:=aq.mem_map.1 t;rfl
  intro v' W h1 h2 _;exact h v' W (by rw[IM];exact h1) h2
def BL.of_own {base:av}{v:bw}{l:aq av}(h:w.ownsRow base 5 1 v n (eT l)) (hl: ∀i (h:i<l.length),l[i]<256):
  ∃a cap,v=cJ a n cap/\BL w a n l/\(a=bn->cap=0):=by
 obtain⟨h1,h2⟩:=h;have H:l.length=n:=by simpa [eT]using h1
 rcases h2 with⟨rfl,rfl⟩ | ⟨g,cap,cur,rfl,j,b,k,o,c,d⟩
 ·have hl:=Dm H;subst hl;exact⟨bn,0,rfl,BL.nil w,fun _=>rfl⟩
 refine⟨bt ⟨g,0,bn⟩,cap,rfl,⟨H,hl,fun i f=>⟨g,0,rfl,?_⟩⟩,fun e=>by cases e⟩;rw[Pa,Mu w g i cur 5 _ b,<-Ge];have:(cur.toList.take (n * 1))[i]? =(eT l)[i]? :=by rw[d]
 rw[aq.getElem?_take,Np ed]at this;rw[this];unfold eT;rw[Pp,Nf f];rfl
def z20 {base:av}{v:bw}{xs:aq bw}(h:w.ownsRow base 5 1 v n xs) (e:v.ownBlock=bt k) (H:B<=base):B<=k:=by
 rcases h.2 with⟨rfl,_⟩ | ⟨g,cap,cur,rfl,a,_⟩
 ·cases e
 cases e;exact Nj H a
def CH {a b:aq av}(H: ∀i (h:i<a.length),a[i]<256) (c: ∀i (h:i<b.length),b[i]<256):fR a=fR b↔a=b:=by
 constructor
 ·intro h
  have h2:(a.map ar.ofNat).map (fun n=>UInt8.ofNat n.toNat)=(b.map ar.ofNat).map (fun n=>UInt8.ofNat n.toNat):=by
   have:=Tc (fun s:ByteArray=>s.data.toList) h
   simpa [fR,strOfNums_data]using this
  simp only[aq.map_map]at h2;have hl:a.length=b.length:=by simpa using Tc aq.length h2
  apply Sf hl;intro i h1 h3;have h4:=Tc (fun l=>l[i]?) h2;simp only[Pp,Nf h1,Nf h3,Ij,Ic,Function.comp_apply]at h4;have h5:=Tc UInt8.toNat h4;simp at h5;have:=H i h1;have:=c i h3;omega
 rintro rfl;rfl
def CG {a b:aq av}(e:(fR a).toList=(fR b).toList):fR a=fR b:=by
 rw[Ia,Ia]at e;have:=aL.toList_inj.1 e;cases ha:fR a;cases hb:fR b;simp_all
def CE {base:av}{v:bw}{l:aq av}(h:w.ownsRow base 5 1 v n (eT l)) (d:0<n) (hl: ∀i (h:i<l.length),l[i]<256):
  ∃g cap,v=cJ (bt ⟨g,0,bn⟩) n cap/\BL w (bt ⟨g,0,bn⟩) n l/\base<=g:=by
 obtain⟨a,cap,rfl,H,_⟩:=BL.of_own h hl;rcases h.2 with⟨e,e2⟩ | ⟨g,c,cur,e,b,_⟩
 ·omega
 cases e;exact⟨g,cap,rfl,H,b⟩
def tg (w:aj) (n:av) (e:Ending) (w':aj):Prop:=
 ∃v,e=cL v/\w'.ownsRow w 5 1 v (cD n).length (eT (cD n))/\jb w w'
def UH (n:av): ∀(w:aj),n<=34359738367->jW 370 #[jV (n:ar)] w (tg w n):=by
 induction n using av.strongRecOn with
 | _ n I=>
  intro w z;by_cases i:n<128
  ·have hd:ab ((n:ar)<128)=bl:=em;have t:=hI (qL i);go_in;refine ei ?_;refine⟨_,rfl,?_,aR⟩;rw[t.o];have:=Hb (base:=w.heap.size) (size:=1) (e:=5) w #[cW .u8 (n:ar)] 1 ep eh rfl;exact this
  have hd:ab ((n:ar)<128)=aW:=em;have r:=I (n / 128) ed
  have u:=hI fun W=>by
   have:=r W ed
   rwa [show((n / 128:av):ar)=(n:ar) / 128 by omega]at this
  clear r I;have h5:(cD (n / 128)).length<=5:=uP ed;obtain⟨cs,b⟩: ∃cs,cs=cD (n / 128):=⟨_,rfl⟩;have d:=tL (n / 128);have a:=wG (n / 128);have v:bG (cD n=(128+n % 128)::cs):=(by rw[b];exact tM ed);have l:=hI b;rw[<-b]at h5 d a;clear b;go_in;go_wp2_with fail;refine(u _).mono ?_;rintro e w1 ⟨v1,rfl,H,c⟩;rw[<-l.o]at H;rw[Pv]at H c;obtain⟨g1,c1,rfl,o,x⟩:=CE H d a
  have j:w1.ownsRow w 5 1 (jq w 0 1 1) 1 (eT [128+n % 128]):=by
   have h0:=Hb (base:=w.heap.size) (size:=1) (e:=5) w #[cW .u8 ((128+n % 128:av):ar)] 1 ep eh rfl;rcases h0.2 with⟨e,_⟩ | ⟨g,C,cur,e,y,s,rest⟩
   ·cases e
   cases e;refine⟨h0.1,.inr ⟨_,_,cur,rfl,y,?_,rest⟩⟩;have h3:((128+n % 128:av):ar)=128+(n:ar) % 128:=ed;rw[h3]at s;rw[c.block _ ed];exact s
  have p:=c.size;rw[Pv]at p;go_wp2_with (refine IJ rfl (dk 14) (dk 17) rfl w _ 1 [128+n % 128] rfl j _ _ _ cs rfl o (fun e=>nomatch e) ed ed ?_;intro v2 w2 f q);go_ret;refine⟨v2,rfl,?_,?_⟩
  ·rw[v.o,Du,av.add_comm];exact f
  exact(aR.trans (c.mono ed)).grown q ed (fun k e=>by cases e;exact Mv _)
