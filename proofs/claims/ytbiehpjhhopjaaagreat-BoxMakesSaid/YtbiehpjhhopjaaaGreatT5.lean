/- Walks, laws. -/
import Derived.Test.YtbiehpjhhopjaaaGreatT4
set_option linter.all false
set_option maxRecDepth 100000
set_option maxHeartbeats 16000000
namespace Go.Proofs.YtbiehpjhhopjaaaGreat
open _root_ renaming Array->aL,Bool->aU,Bool.false->aW,Decidable.decide->ab,List->aq,Int->ar,Nat->av,Option->ax,Bool.true->bl,Option.none->bn,Option.some->bt,absurd->cv
open Go renaming World->aj,undef->bE,RowKit.Hid->bG,Addr->bR,TypeId->bT,Value->bw,RowKit.Below->cB,redrawn->cF,Ending.returned->cL,Obj.cells->cO,Value.int->cW,Value.pointer->cY,Value.agg->cZ,World.alloc->cj,wpQuiet_nil->cl,Act.put->cq,Value.bool->db,IntKind.i64->dr
open Go.RowKit Go.Sort Tryz
variable {Q:Exit->Act->aj->Prop}{l:aq Oper}{v:bw}{ws:aq av}{P:Program}{g n:av}{W:aj}{oi oj:Oper}{ops:aL Oper}{md:Region.Mode}{K:Act->aj->Prop}{args:aL bw}{xp xv:Operand}
def DS {x y:Pl}(h1:x.ver=y.ver) (h2:x.par=y.par) (h3:x.S=y.S) (h4:x.P=y.P) (h5:x.G=y.G) (h6:x.R=y.R):x=y:=by cases x;cases y;simp_all
instance:DecidableEq Pl:=fun x y=>decidable_of_iff (x.ver=y.ver/\x.par=y.par/\x.S=y.S/\x.P=y.P/\x.G=y.G/\x.R=y.R) ⟨fun h=>DS h.1 h.2.1 h.2.2.1 h.2.2.2.1 h.2.2.2.2.1 h.2.2.2.2.2,fun h=>by subst h;simp⟩
def DR {x y:St}(h1:x.tks=y.tks) (h2:x.sws=y.sws) (h3:x.lks=y.lks):x=y:=by cases x;cases y;simp_all
instance:DecidableEq St:=fun x y=>decidable_of_iff (x.tks=y.tks/\x.sws=y.sws/\x.lks=y.lks) ⟨fun h=>DR h.1 h.2.1 h.2.2,fun h=>by subst h;simp⟩
theorem z34 (x y:St) (t s l T N O:bw) (w:aj) (hx:fU w t s l x) (D:fU w T N O y) (o:x.fit) (p:y.fit):
  jW 71 #[cZ #[t,s,l],cZ #[T,N,O]] w (bY w (ab (x=y))):=by
 obtain⟨a1,a2,rfl,M⟩:=hx.tks;obtain⟨a3,a4,rfl,q⟩:=hx.sws;obtain⟨a5,a6,rfl,r⟩:=hx.lks;obtain⟨b1,b2,rfl,u⟩:=D.tks;obtain⟨b3,b4,rfl,v⟩:=D.sws;obtain⟨b5,b6,rfl,z⟩:=D.lks;have HC1:=hI fun W H=>z3v _ _ _ _ _ _ W (M.below rU H) (u.below rU H) o.1 p.1;have A:=hI fun W H=>z3w _ _ _ _ _ _ W (q.below qG H) (v.below qG H) o.2.1 p.2.1;have C:=hI fun W H=>z3z _ _ _ _ _ _ W (r.below qF H) (z.below qF H) o.2.2 p.2.2;refine Kd fun E=>?_;clear hx D M q r u v z;generalize ab (x=y)=B at *;go_in;go_upto_region 1 with fail;obtain⟨W0,i5⟩: ∃W0,W0=(w.alloc (cO #[js a1 x.tks a2,js a3 x.sws a4,js a5 x.lks a6] 33)).alloc (cO #[js b1 y.tks b2,js b3 y.sws b4,js b5 y.lks b6] 33):=⟨_,rfl⟩;rw[<-i5];have K0:bG (jb w W0):=by show cB _ _ _;rw[i5];exact aR.alloc ee _
 have N9:bG (jk W0 w #[js a1 x.tks a2,js a3 x.sws a4,js a5 x.lks a6] 33):=by show _=_;rw[i5];exact(Nv _ _ ee).trans Oa
 have HY0:bG (jk W0 (w+1) #[js b1 y.tks b2,js b3 y.sws b4,js b5 y.lks b6] 33):=Kg
 clear i5;refine Kf fun KR bx j7=>?_;refine Uz fun X c d Y f g L n=>?_;clear bx j7;by_cases i:x.tks=y.tks
 ·have F:=hI i;refine Ux fun A7=>?_;rw[show(ab (x.tks=y.tks))=bl from Ni i]at A7;clear i;go_wp2_with fail;refine A7.mono ?_;rintro e G ⟨rfl,H⟩;have a:=jh KR H;clear H;clear X Y c f d g L n;have bx:=jm a N9;have j7:=jm a HY0;refine Uz fun X c d Y f g L n=>?_;clear bx j7;by_cases j:x.sws=y.sws
  ·have I:=hI j;have A7:=hI (A G (jo K0 a));rw[show(ab (x.sws=y.sws))=bl from Ni j]at A7;clear j;go_wp2_with fail;refine A7.mono ?_;rintro e J ⟨rfl,H⟩;have b:=jh a H;clear H;clear X Y c f d g L n;have bx:=jm b N9;have j7:=jm b HY0;refine Uz fun X c d Y f g L n=>?_;clear bx j7;by_cases k:x.lks=y.lks
   ·have K:=hI k;have A7:=hI (C J (jo K0 b));rw[show(ab (x.lks=y.lks))=bl from Ni k]at A7;clear k;go_wp2_with fail;refine A7.mono ?_;rintro e W3 ⟨rfl,H⟩;have Z8:=jh b H;clear H;clear X Y c f d g L n;have HE:=hI (E.1 (DR F I K));refine ei ?_;exact⟨ew,jo K0 Z8⟩
   have HE:=hI (E.2 fun e=>k Qn);have A7:=hI (C J (jo K0 b));rw[show(ab (x.lks=y.lks))=aW from Mw k]at A7;clear k;go_wp2_with fail;refine A7.mono ?_;rintro e W3 ⟨rfl,H⟩;have Z8:=jh b H;clear H;clear X Y c f d g L n;refine Xt ?_;refine ei ?_;exact⟨ew,jo K0 Z8⟩
  have HE:=hI (E.2 fun e=>j Qn);have A7:=hI (A G (jo K0 a));rw[show(ab (x.sws=y.sws))=aW from Mw j]at A7;clear j;go_wp2_with fail;refine A7.mono ?_;rintro e J ⟨rfl,H⟩;have b:=jh a H;clear H;clear X Y c f d g L n;have bx:=jm b N9;have j7:=jm b HY0;clear bx j7;refine ei ?_;exact⟨ew,jo K0 b⟩
 have HE:=hI (E.2 fun e=>i Qn);refine Ux fun A7=>?_;rw[show(ab (x.tks=y.tks))=aW from Mw i]at A7;clear i;go_wp2_with fail;refine A7.mono ?_;rintro e G ⟨rfl,H⟩;have a:=jh KR H;clear H;clear X Y c f d g L n;have bx:=jm a N9;have j7:=jm a HY0;clear bx j7;refine ei ?_;exact⟨ew,jo K0 a⟩
theorem z35 (x y:Pl) (s q g r a0 a1 a2 r':bw) (w:aj) (hx:bN w s q g r x) (O:bN w a0 a1 a2 r' y) (u:x.Fit) (v:y.Fit):
  jW 70 #[aT x s q g r,aT y a0 a1 a2 r'] w (bY w (ab (x=y))):=by
 obtain⟨a3,a4,rfl,P⟩:=hx.S;obtain⟨a5,a6,rfl,Q⟩:=hx.P;obtain⟨a7,a8,rfl,R⟩:=hx.G;obtain⟨a9,b0,rfl,T⟩:=hx.R;obtain⟨b1,b2,rfl,U⟩:=O.S;obtain⟨b3,b4,rfl,V⟩:=O.P;obtain⟨b5,b6,rfl,Z⟩:=O.G;obtain⟨b7,b8,rfl,m0⟩:=O.R
 have F:=hI fun W H=>by
  have:=z32 _ _ _ _ _ _ W (P.below gN H) (U.below gN H) u.S v.S u.ends v.ends;rw[UX]at this;exact this
 have G:=hI fun W H=>by
  have:=z33 _ _ _ _ _ _ W (T.below lS H) (m0.below lS H) u.R v.R u.rt v.rt;rw[UX]at this;exact this
 have H0:=hI fun W H=>z3t _ _ _ _ _ _ W (Q.below lT H) (V.below lT H) u.P v.P;have H1:=hI fun W H=>z3u _ _ _ _ _ _ W (R.below lA H) (Z.below lA H) u.G v.G;refine Kd fun I=>?_;clear hx O u v P Q R T U V Z m0;generalize ab (x=y)=B at *;unfold aT;go_in;go_upto_region 1 with fail;obtain⟨W0,i5⟩: ∃W0,W0=(w.alloc (cO #[x.ver,x.par,js a3 x.S a4,js a5 x.P a6,js a7 x.G a8,js a9 x.R b0] 28)).alloc (cO #[y.ver,y.par,js b1 y.S b2,js b3 y.P b4,js b5 y.G b6,js b7 y.R b8] 28):=⟨_,rfl⟩;rw[<-i5];have K:bG (jb w W0):=by show cB _ _ _;rw[i5];exact aR.alloc ee _
 have N9:bG (jk W0 w #[x.ver,x.par,js a3 x.S a4,js a5 x.P a6,js a7 x.G a8,js a9 x.R b0] 28):=by show _=_;rw[i5];exact(Nv _ _ ee).trans Oa
 have HY0:bG (jk W0 (w+1) #[y.ver,y.par,js b1 y.S b2,js b3 y.P b4,js b5 y.G b6,js b7 y.R b8] 28):=Kg
 clear i5;refine Kf fun _ bx j7=>?_;refine Ul fun X a b c d f Y i j k l n L z=>?_;clear bx j7;by_cases M:x.S=y.S
 ·rw[Ni M]at F;have c0:=hI M;clear M;by_cases N:x.R=y.R
  ·rw[Ni N]at G;have c1:=hI N;clear N;go_wp2_with fail;refine(F W0 K).mono ?_;rintro e V1 ⟨rfl,H⟩;have p:=hI H;have A:=jh K H;clear H;clear X Y a i b j c k d l f n L z;have bx:=jm p N9;have j7:=jm p HY0;refine Ul fun X a b c d f Y i j k l n L z=>?_;clear bx j7;go_wp2_with fail;refine(G V1 A).mono ?_;rintro e V2 ⟨rfl,H⟩;have o:=jh p H;clear H;clear X Y a i b j c k d l f n L z;have bx:=jm o N9;have j7:=jm o HY0;refine Ul fun X a b c d f Y i j k l n L z=>?_;clear bx j7;by_cases C:x.ver=y.ver
   ·have t0:(x.ver==y.ver)=bl:=(by rw[Da];exact C);have H2:=hI C;clear C;by_cases he:x.par=y.par
    ·have t1:(x.par==y.par)=bl:=(by rw[Da];exact he);have H3:=hI he;clear he;by_cases D:x.P=y.P
     ·have H4:=hI D;have A7:=hI (H0 V2 (jo K o));rw[show(ab (x.P=y.P))=bl from Ni D]at A7;clear D;go_wp2_with fail;refine A7.mono ?_;rintro e W3 ⟨rfl,H⟩;have t:=jh o H;clear H;clear X Y a i b j c k d l f n L z;have bx:=jm t N9;have j7:=jm t HY0;refine Ul fun X a b c d f Y i j k l n L z=>?_;clear bx j7;by_cases E:x.G=y.G
      ·have H5:=hI E;have A7:=hI (H1 W3 (jo K t));rw[show(ab (x.G=y.G))=bl from Ni E]at A7;clear E;go_wp2_with fail;refine A7.mono ?_;rintro e W4 ⟨rfl,H⟩;have Z8:=jh t H;clear H;clear X Y a i b j c k d l f n L z;have HE:=hI (I.1 (DS H2 H3 c0 H4 H5 c1));refine ei ?_;exact⟨ew,jo K Z8⟩
      have HE:=hI (I.2 fun e=>E Qn);have A7:=hI (H1 W3 (jo K t));rw[show(ab (x.G=y.G))=aW from Mw E]at A7;clear E;go_wp2_with fail;refine A7.mono ?_;rintro e W4 ⟨rfl,H⟩;have Z8:=jh t H;clear H;clear X Y a i b j c k d l f n L z;refine Xt ?_;refine ei ?_;exact⟨ew,jo K Z8⟩
     have HE:=hI (I.2 fun e=>D Qn);have A7:=hI (H0 V2 (jo K o));rw[show(ab (x.P=y.P))=aW from Mw D]at A7;clear D;go_wp2_with fail;refine A7.mono ?_;rintro e W3 ⟨rfl,H⟩;have t:=jh o H;clear H;clear X Y a i b j c k d l f n L z;have bx:=jm t N9;have j7:=jm t HY0;clear bx j7;refine ei ?_;exact⟨ew,jo K t⟩
    have t1:(x.par==y.par)=aW:=Ui;have HE:=hI (I.2 fun e=>he Qn);clear he;refine ei ?_;exact⟨ew,jo K o⟩
   have t0:(x.ver==y.ver)=aW:=(by rw[Nd];exact C);have HE:=hI (I.2 fun e=>C Qn);clear C;refine ei ?_;exact⟨ew,jo K o⟩
  rw[Mw N]at G;have HE:=hI (I.2 fun e=>N Qn);clear N;go_wp2_with fail;refine(F W0 K).mono ?_;rintro e V1 ⟨rfl,H⟩;have p:=hI H;have A:=jh K H;clear H;clear X Y a i b j c k d l f n L z;have bx:=jm p N9;have j7:=jm p HY0;refine Ul fun X a b c d f Y i j k l n L z=>?_;clear bx j7;go_wp2_with fail;refine(G V1 A).mono ?_;rintro e V2 ⟨rfl,H⟩;have o:=jh p H;have J:=jh A H;clear H;clear X Y a i b j c k d l f n L z;have bx:=jm o N9;have j7:=jm o HY0;clear bx j7;refine ei ?_;exact⟨ew,J⟩
 rw[Mw M]at F;have HE:=hI (I.2 fun e=>M Qn);clear M;generalize ab (x.R=y.R)=c2 at *;go_wp2_with fail;refine(F W0 K).mono ?_;rintro e V1 ⟨rfl,H⟩;have p:=hI H;have A:=jh K H;clear H;clear X Y a i b j c k d l f n L z;have bx:=jm p N9;have j7:=jm p HY0;refine Ul fun X a b c d f Y i j k l n L z=>?_;clear bx j7;go_wp2_with fail;refine(G V1 A).mono ?_;rintro e V2 ⟨rfl,H⟩;have o:=jh p H;have J:=jh A H;clear H;clear X Y a i b j c k d l f n L z;have bx:=jm o N9;have j7:=jm o HY0;clear bx j7;refine ei ?_;exact⟨ew,J⟩
theorem z36 (x y:aF) (a b:ax bR) (c d:av) (w:aj) (hx:aB w 2 fI a c x.ends) (a3:aB w 2 fI b d y.ends) (h1:x.ends.length<=8796093022208) (h2:y.ends.length<=8796093022208):
  Calls prog 224 #[cZ #[x.id,x.pt,js a x.ends.length c],cZ #[y.id,y.pt,js b y.ends.length d]] w (bY w (ab (x=y))):=by
 have N:bG (∀W,jb w W->aB W 2 fI a c x.ends):=fun W q=>hx.below lB q;have O:bG (∀W,jb w W->aB W 2 fI b d y.ends):=fun W q=>a3.below lB q;refine Kd fun z=>?_;clear hx a3;generalize ab (x=y)=B at *;go_in;go_upto_region 1 with fail;obtain⟨W0,i5⟩: ∃W0,W0=(w.alloc (cO #[x.id,x.pt,js a x.ends.length c] 80)).alloc (cO #[y.id,y.pt,js b y.ends.length d] 80):=⟨_,rfl⟩;rw[<-i5];have K:bG (jb w W0):=by show cB _ _ _;rw[i5];exact aR.alloc ee _
 have N9:bG (jk W0 w.heap.size #[x.id,x.pt,js a x.ends.length c] 80):=by show _=_;rw[i5];exact(Nv _ _ ee).trans Oa
 have HY0:bG (jk W0 (w.heap.size+1) #[y.id,y.pt,js b y.ends.length d] 80):=Kg
 clear i5;refine Kf fun A bx j7=>?_;refine Uz fun X C D Y E F a4 a5=>?_;clear bx j7;by_cases h0:x.id=y.id
 ·have t:(x.id==y.id)=bl:=by rw[Da];exact h0
  have T:(x.id != y.id)=aW:=by rw[bne,t];rfl
  have r:=hI h0;clear h0;by_cases H:x.pt=y.pt
  ·obtain⟨P,Q⟩:=jy H;have s:=hI H;clear H;by_cases p:x.ends.length=y.ends.length
   ·have td:((x.ends.length:ar)==(y.ends.length:ar))=bl:=Ve;have R:((x.ends.length:ar) != (y.ends.length:ar))=aW:=Vl;have HQ_tks:=hI p;clear p;go_wp2_with fail;go_loopg [5] x.ends.length (fun g i wr=> ∃k:av,k<=x.ends.length/\g=x.ends.length-k/\i=cW dr k/\jb W0 wr/\ ∀j (h:j<x.ends.length) (h':j<y.ends.length),j<k->x.ends[j]=y.ends[j])
    ·exact⟨0,ed,ed,rfl,A,fun j _ _ hj=>cv hj (Pm _)⟩
    obtain⟨k,a9,rfl,rfl,q,G⟩:=hrel;have f:=hI q;have I:=jh K q;have j9:=hI G;clear q G;clear X Y C E D F a4 a5;have bx:=jm f N9;have j7:=jm f HY0;refine Uz fun _ _ _ _ _ _ _ _=>?_;clear bx j7;by_cases G9:k<x.ends.length
    ·have hd:=bL G9;have J:k<y.ends.length:=(by rw[<-HQ_tks.o];exact G9);refine Qb fun _ _=>?_;have c2:=aN J;obtain⟨g,off,a6,rfl,U,u,V⟩:=(N wr I).at_ k G9;obtain rfl:a6=[cW dr x.ends[k].tt,cW dr x.ends[k].en]:=V;obtain⟨g2,o0,Z,rfl,a0,v,a1⟩:=(O wr I).at_ k J;obtain rfl:Z=[cW dr y.ends[k].tt,cW dr y.ends[k].en]:=a1;have pp0:=u 0 ee;have y0:=v 0 ee;have x1:=u 1 ee;have y1:=v 1 ee;simp only[Pk,Nu,Dl]at pp0 y0 x1 y1;refine Om fun _ _=>?_;clear U u a0 v;by_cases l:x.ends[k].tt=y.ends[k].tt
     ·obtain⟨s0,s1⟩:=jy l;have H0:=hI l;clear l;by_cases n:x.ends[k].en=y.ends[k].en
      ·obtain⟨s2,s3⟩:=jy n;have H1:=hI n;clear n
       have a7:bG (∀j (h:j<x.ends.length) (h':j<y.ends.length),j<k+1->x.ends[j]=y.ends[j]):=fun j L j2 j3=>by
        by_cases a2:j=k
        ·subst a2;exact VB H0 H1
        exact j9 j L j2 ed
       go_upto_region 6 with fail;go_quiet (fail);go_wp2_with fail;go_roundg (x.ends.length-(k+1))
       ·go_light;exact⟨k+1,ed,ed,ej,dM f _,a7⟩
       go_light;omega
      obtain⟨s2,s3⟩:=jn n;have HE:=hI (z.2 fun e=>n Oz);clear n;go_upto_region 6 with fail;go_quiet (fail);refine ei ?_;exact⟨ew,K.trans ((dM f _).mono K.size)⟩
     obtain⟨s0,s1⟩:=jn l;have HE:=hI (z.2 fun e=>l Oz);clear l;go_upto_region 6 with fail;go_quiet (fail);refine ei ?_;exact⟨ew,K.trans ((dM f _).mono K.size)⟩
    obtain rfl:k=x.ends.length:=ed;refine Zu fun o=>?_;clear j9;obtain⟨M,rfl⟩: ∃a8:aj,a8=wr:=⟨_,rfl⟩;have HE:=hI (z.1 (UW r s o));refine ei ?_;exact⟨ew,jo K f⟩
   have td:((x.ends.length:ar)==(y.ends.length:ar))=aW:=Ov;have R:((x.ends.length:ar) != (y.ends.length:ar))=bl:=Vl;have HE:=hI (z.2 fun e=>p Qn);clear p;refine ei ?_;exact⟨ew,jo K A⟩
  obtain⟨P,Q⟩:=jn H;have HE:=hI (z.2 fun e=>H Qn);clear H;refine ei ?_;exact⟨ew,jo K A⟩
 have t:(x.id==y.id)=aW:=by exact Ua
 have T:(x.id != y.id)=bl:=by rw[bne,t];rfl
 have HE:=hI (z.2 fun e=>h0 Qn);clear h0;refine ei ?_;exact⟨ew,jo K A⟩
def z37 (a b:ax bR) (ca cb:av) (l m:aq aF) (w:aj) (hl:aB w 3 cU a ca l) (hm:aB w 3 cU b cb m) (h1:l.length<=1000) (h2:m.length<=1000) (hb: ∀i (h:i<l.length),l[i].ends.length<=8796093022208) (ho: ∀i (h:i<m.length),m[i].ends.length<=8796093022208):
  jW 138 #[js a l ca,js b m cb] w (bY w (ab (l=m))):=by
 refine Rj fun D E=>?_;refine Qa fun t u=>?_;clear hb ho;have HV1:bG (l.length≠m.length->ab (l=m)=aW):=fun h=>Mw fun e=>h Qn;refine Rl fun HV2=>?_;have v:bG (∀k (h:k<l.length) (h':k<m.length),l[k]≠m[k]->ab (l=m)=aW):=fun k h h' h3=>Mw fun e=>h3 Oz;clear hl hm;generalize ab (l=m)=B at *;go_in;by_cases o7:l.length=m.length
 ·have HLE:=hI o7;have td:((l:ar)==(m:ar))=bl:=by rw[Da];omega
  have T:((l:ar) != (m:ar))=aW:=Vl
  clear o7;go_wp2_with fail;go_loopg [5] l.length (fun g i wr=> ∃k:av,k<=l.length/\g=l.length-k/\i= jV k/\jb w wr/\ ∀j (h:j<l.length) (h':j<m.length),j<k->l[j]=m[j])
  ·exact⟨0,ed,ed,rfl,Nb _ _,fun j _ _ hj=>cv hj (Pm _)⟩
  obtain⟨k,G,rfl,rfl,H,o⟩:=hrel;have HB:=hI H;have j9:=hI o;clear H o;by_cases G9:k<l.length
  ·refine ZC fun _ c=>?_;obtain⟨g,off,xa,xc,rfl,pp0,x1,x2,hxj⟩:=(D wr HB).sec G9;obtain⟨g2,O,ya,yc,rfl,y0,y1,y2,hyj⟩:=(E wr HB).sec c;refine Rd fun x y=>?_;refine Om fun _ _=>?_;clear hxj hyj;refine Qb fun _ _=>?_;have c2:=aN c;go_upto_region 6 with fail
   go_still_tail 8,ef
   refine Xc fun s p d q=>?_;have A7:=hI (z36 l[k] m[k] xa ya xc yc s (x s d) (y s d) (t k G9) (u k c));have r:=hI (v k G9 c)
   have z:bG (l[k]=m[k]-> ∀j (h:j<l.length) (h':j<m.length),j<k+1->l[j]=m[j]):=fun h j J A j3=>by
    by_cases C:j=k
    ·subst C;exact h
    exact j9 j J A ed
   clear d p;by_cases n:l[k]=m[k]
   ·rw[Ni n]at A7;have F:=hI (z n);clear n;go_wp2_with fail;refine A7.mono ?_;rintro e W3 ⟨rfl,H⟩;have f:=jh q H;clear H A7;go_wp2_with fail;go_roundg (l.length-(k+1))
    ·go_light;exact⟨k+1,ed,ed,ej,f,F⟩
    go_light;omega
   rw[Mw n]at A7;have HE:=hI (r n);clear n;go_wp2_with fail;refine A7.mono ?_;rintro e W3 ⟨rfl,H⟩;have f:=jh q H;clear H A7;refine ei ?_;exact⟨ew,f⟩
  obtain rfl:k=l.length:=ed;refine ZJ fun HE=>?_;refine ei ?_;exact⟨ew,HB⟩
 have HE:=hI (HV1 o7);have td:((l:ar)==(m:ar))=aW:=by rw[Nd];omega
 have T:((l:ar) != (m:ar))=bl:=by rw[bne,td];rfl
 clear o7;go_wp2_with fail;go_ret;exact⟨ew,Nb _ _⟩
def US (a b:ax bR) (ca c:av) (l m:aq ar) (w:aj) (hl:eP w (js a l ca) l) (H:eP w (js b m c) m) (h1:l.length<=17592186044416) (h2:m.length<=17592186044416):
  jW 97 #[js a l ca,js b m c] w (bY w (lH l m)):=by
 obtain⟨_,_,e1,k1⟩:=hl.at_;obtain⟨_,_,e2,k2⟩:=H.at_;cases e1;cases e2;refine(ri _ _ _ _ _ _ l m w k1 k2 ed ed).mono ?_;rintro e W h;unfold DZ at h;obtain⟨h,n,d⟩:=h;exact⟨h,by rw[d];exact dM Qy _⟩
theorem z38 (x y:Rt) (a1 a3 a5 b1 b3 b5:ax bR) (a2 a4 a6 b2 b4 b6:av) (w:aj) (hx:dY w (js a1 x.A.length a2) (js a3 x.O.length a4) (js a5 x.fl.length a6) x) (b9:dY w (js b1 y.A.length b2) (js b3 y.O.length b4) (js b5 y.fl.length b6) y) (h1:x.fit) (h2:y.fit):
  Calls prog 139 #[cZ #[x.id,x.E,x.X,js a1 x.A.length a2,js a3 x.O.length a4,js a5 x.fl.length a6,x.T],cZ #[y.id,y.E,y.X,js b1 y.A.length b2,js b3 y.O.length b4,js b5 y.fl.length b6,y.T]] w (bY w (ab (x=y))):=by
 have N:bG (∀W,jb w W->dY W (js a1 x.A.length a2) (js a3 x.O.length a4) (js a5 x.fl.length a6) x):=fun W H=>hx.below H;have O:bG (∀W,jb w W->dY W (js b1 y.A.length b2) (js b3 y.O.length b4) (js b5 y.fl.length b6) y):=fun W H=>b9.below H;have HC1:=hI fun W H=>US _ _ _ _ _ _ W (N W H).A (O W H).A h1.1 h2.1;have H1:=hI fun W H=>US _ _ _ _ _ _ W (N W H).O (O W H).O h1.2.1 h2.2.1
 have H2:bG (∀W,jb w W->aB W 2 lZ a5 a6 x.fl):=fun W H=>by
  obtain⟨_,_,e1,k1⟩:=(N W H).fl;cases e1;exact k1
 have H3:bG (∀W,jb w W->aB W 2 lZ b5 b6 y.fl):=fun W H=>by
  obtain⟨_,_,e1,k1⟩:=(O W H).fl;cases e1;exact k1
 have h3:=h1.2.2;have h4:=h2.2.2;refine Kd fun M=>?_;clear hx b9 N O h1 h2;generalize ab (x=y)=B at *;go_in;go_upto_region 1 with fail;obtain⟨W0,i5⟩: ∃W0,W0=(w.alloc (cO #[x.id,x.E,x.X,js a1 x.A.length a2,js a3 x.O.length a4,js a5 x.fl.length a6,x.T] 102)).alloc (cO #[y.id,y.E,y.X,js b1 y.A.length b2,js b3 y.O.length b4,js b5 y.fl.length b6,y.T] 102):=⟨_,rfl⟩;rw[<-i5];have K0:bG (jb w W0):=by show cB _ _ _;rw[i5];exact aR.alloc ee _
 have N9:bG (jk W0 w.heap.size #[x.id,x.E,x.X,js a1 x.A.length a2,js a3 x.O.length a4,js a5 x.fl.length a6,x.T] 102):=by show _=_;rw[i5];exact(Nv _ _ ee).trans Oa
 have HY0:bG (jk W0 (w.heap.size+1) #[y.id,y.E,y.X,js b1 y.A.length b2,js b3 y.O.length b4,js b5 y.fl.length b6,y.T] 102):=Kg
 clear i5;refine Kf fun KR bx j7=>?_;refine ZE fun X b c d f l n Y o p q r s t Q R=>?_;clear bx j7;by_cases h0:x.id=y.id
 ·have T:(x.id==y.id)=bl:=by rw[Da];exact h0
  have t0:(x.id != y.id)=aW:=by rw[bne,T];rfl
  have U:=hI h0;clear h0;by_cases u:x.E=y.E
  ·obtain⟨t1,t2⟩:=jy u;have v:=hI u;clear u;by_cases z:x.X=y.X
   ·obtain⟨t3,t4⟩:=jy z;have J:=hI z;clear z;by_cases A:x.T=y.T
    ·obtain⟨t5,t6⟩:=jy A;have C:=hI A;clear A;by_cases D:x.A=y.A
     ·have K:=hI D;refine Ux fun A7=>?_;rw[show(lH x.A y.A)=bl from Ni D]at A7;clear D;go_wp2_with fail;refine A7.mono ?_;rintro e W5 ⟨rfl,H⟩;have a:=jh KR H;clear H;clear X Y b o c p d q f r l s n t Q R;have bx:=jm a N9;have j7:=jm a HY0;refine ZE fun X b c d f l n Y o p q r s t Q R=>?_;clear bx j7;by_cases E:x.O=y.O
      ·have L:=hI E;have A7:=hI (H1 W5 (jo K0 a));rw[show(lH x.O y.O)=bl from Ni E]at A7;clear E;go_wp2_with fail;refine A7.mono ?_;rintro e W6 ⟨rfl,H⟩;have Z8:=jh a H;clear H;clear X Y b o c p d q f r l s n t Q R;have bx:=jm Z8 N9;have j7:=jm Z8 HY0;refine ZE fun X b c d f l n Y o p q r s t Q R=>?_;clear bx j7;by_cases P:x.fl.length=y.fl.length
       ·have td:((x.fl.length:ar)==(y.fl.length:ar))=bl:=Ve;have t7:((x.fl.length:ar) != (y.fl.length:ar))=aW:=Vl;have HQ_tks:=hI P;clear P;go_wp2_with fail;go_loopg [5] x.fl.length (fun g i wr=> ∃k:av,k<=x.fl.length/\g=x.fl.length-k/\i=cW dr k/\jb W0 wr/\ ∀j (h:j<x.fl.length) (h':j<y.fl.length),j<k->x.fl[j]=y.fl[j])
        ·exact⟨0,ed,ed,rfl,Z8,fun j _ _ hj=>cv hj (Pm _)⟩
        obtain⟨k,c3,rfl,rfl,H,a0⟩:=hrel;have F:=hI H;have K1:=jh K0 H;have j9:=hI a0;clear H a0;clear X Y b o c p d q f r l s n t Q R;have bx:=jm F N9;have j7:=jm F HY0;refine ZE fun X b c d f l n Y o p q r s t Q R=>?_;clear bx j7;by_cases G9:k<x.fl.length
        ·have hd:=bL G9;have a7:k<y.fl.length:=(by rw[<-HQ_tks.o];exact G9);refine Qb fun _ _=>?_;have c6:=aN a7;obtain⟨g,off,c0,rfl,a8,V,a9⟩:=(H2 wr K1).at_ k G9;obtain rfl:c0=[cW dr x.fl[k].pt,cW dr x.fl[k].lie]:=a9;obtain⟨g2,o0,v0,rfl,b0,Z,b7⟩:=(H3 wr K1).at_ k a7;obtain rfl:v0=[cW dr y.fl[k].pt,cW dr y.fl[k].lie]:=b7;have pp0:=V 0 ee;have y0:=Z 0 ee;have x1:=V 1 ee;have y1:=Z 1 ee;simp only[Pk,Nu,Dl]at pp0 y0 x1 y1;refine Om fun _ _=>?_;clear a8 V b0 Z;by_cases G:x.fl[k].pt=y.fl[k].pt
         ·obtain⟨s0,s1⟩:=jy G;have H4:=hI G;clear G;by_cases I:x.fl[k].lie=y.fl[k].lie
          ·obtain⟨s2,s3⟩:=jy I;have H5:=hI I;clear I
           have c1:bG (∀j (h:j<x.fl.length) (h':j<y.fl.length),j<k+1->x.fl[j]=y.fl[j]):=fun j j1 j2 j3=>by
            by_cases b8:j=k
            ·subst b8;exact UZ H4 H5
            exact j9 j j1 j2 ed
           go_upto_region 6 with fail;go_quiet (fail);go_wp2_with fail;go_roundg (x.fl.length-(k+1))
           ·go_light;exact⟨k+1,ed,ed,ej,dM F _,c1⟩
           go_light;omega
          obtain⟨s2,s3⟩:=jn I;have HE:=hI (M.2 fun e=>I Oz);clear I;go_upto_region 6 with fail;go_quiet (fail);refine ei ?_;exact⟨ew,K0.trans ((dM F _).mono K0.size)⟩
         obtain⟨s0,s1⟩:=jn G;have HE:=hI (M.2 fun e=>G Oz);clear G;go_upto_region 6 with fail;go_quiet (fail);refine ei ?_;exact⟨ew,K0.trans ((dM F _).mono K0.size)⟩
        obtain rfl:k=x.fl.length:=ed;refine Zu fun H0=>?_;clear j9;obtain⟨w0,rfl⟩: ∃c2:aj,c2=wr:=⟨_,rfl⟩;have HE:=hI (M.1 (UV U v J K L H0 C));refine ei ?_;exact⟨ew,jo K0 F⟩
       have td:((x.fl.length:ar)==(y.fl.length:ar))=aW:=Ov;have t7:((x.fl.length:ar) != (y.fl.length:ar))=bl:=Vl;have HE:=hI (M.2 fun e=>P Qn);clear P;refine ei ?_;exact⟨ew,jo K0 Z8⟩
      have HE:=hI (M.2 fun e=>E Qn);have A7:=hI (H1 W5 (jo K0 a));rw[show(lH x.O y.O)=aW from Mw E]at A7;clear E;go_wp2_with fail;refine A7.mono ?_;rintro e W6 ⟨rfl,H⟩;have Z8:=jh a H;clear H;clear X Y b o c p d q f r l s n t Q R;refine Xt ?_;refine ei ?_;exact⟨ew,jo K0 Z8⟩
     have HE:=hI (M.2 fun e=>D Qn);refine Ux fun A7=>?_;rw[show(lH x.A y.A)=aW from Mw D]at A7;clear D;go_wp2_with fail;refine A7.mono ?_;rintro e W5 ⟨rfl,H⟩;have a:=jh KR H;clear H;clear X Y b o c p d q f r l s n t Q R;have bx:=jm a N9;have j7:=jm a HY0;clear bx j7;refine ei ?_;exact⟨ew,jo K0 a⟩
    obtain⟨t5,t6⟩:=jn A;have HE:=hI (M.2 fun e=>A Qn);clear A;refine ei ?_;exact⟨ew,jo K0 KR⟩
   obtain⟨t3,t4⟩:=jn z;have HE:=hI (M.2 fun e=>z Qn);clear z;refine ei ?_;exact⟨ew,jo K0 KR⟩
  obtain⟨t1,t2⟩:=jn u;have HE:=hI (M.2 fun e=>u Qn);clear u;refine ei ?_;exact⟨ew,jo K0 KR⟩
 have T:(x.id==y.id)=aW:=by exact Ua
 have t0:(x.id != y.id)=bl:=by rw[bne,T];rfl
 have HE:=hI (M.2 fun e=>h0 Qn);clear h0;refine ei ?_;exact⟨ew,jo K0 KR⟩
theorem IA (x y:Pl) (s q g r e0 e1 e2 r':bw) (w:aj) (hx:bN w s q g r x) (a9:bN w e0 e1 e2 r' y) (hb:x.Fit) (ho:y.Fit):
  Calls prog 68 #[aT x s q g r,aT y e0 e1 e2 r'] w (bY w (ab (x=y))):=by
 obtain⟨e3,e4,rfl,m0⟩:=hx.S;obtain⟨b9,c0,rfl,m1⟩:=hx.P;obtain⟨c1,c2,rfl,m2⟩:=hx.G;obtain⟨c3,c4,rfl,m3⟩:=hx.R;obtain⟨e5,e6,rfl,m4⟩:=a9.S;obtain⟨c5,c6,rfl,m5⟩:=a9.P;obtain⟨c7,c8,rfl,m6⟩:=a9.G;obtain⟨c9,d0,rfl,m7⟩:=a9.R;have HC1:=hI fun W H=>z37 _ _ _ _ _ _ W (m0.below gN H) (m4.below gN H) hb.S ho.S hb.ends ho.ends;have H6:bG (∀W,jb w W->aB W 2 iA b9 c0 x.P):=fun W H=>m1.below lT H;have H7:bG (∀W,jb w W->aB W 2 iA c5 c6 y.P):=fun W H=>m5.below lT H;have H8:bG (∀W,jb w W->aB W 3 gZ c1 c2 x.G):=fun W H=>m2.below lA H;have H9:bG (∀W,jb w W->aB W 3 gZ c7 c8 y.G):=fun W H=>m6.below lA H;have d1:bG (∀W,jb w W->aB W 7 fH c3 c4 x.R):=fun W H=>m3.below lS H;have d2:bG (∀W,jb w W->aB W 7 fH c9 d0 y.R):=fun W H=>m7.below lS H;refine Qa fun d3 d4=>?_;have k1:=hb.P;have k2:=ho.P;have k3:=hb.G;have k4:=ho.G;have k5:=hb.R;have k6:=ho.R;refine Kd fun G=>?_;clear hx a9 hb ho m0 m1 m2 m3 m4 m5 m6 m7;generalize ab (x=y)=B at *;unfold aT;go_in;go_upto_region 1 with fail;obtain⟨W0,i5⟩: ∃W0,W0=(w.alloc (cO #[x.ver,x.par,js e3 x.S.length e4,js b9 x.P.length c0,js c1 x.G.length c2,js c3 x.R.length c4] 28)).alloc (cO #[y.ver,y.par,js e5 y.S.length e6,js c5 y.P.length c6,js c7 y.G.length c8,js c9 y.R.length d0] 28):=⟨_,rfl⟩;rw[<-i5];have K0:bG (jb w W0):=by show cB _ _ _;rw[i5];exact aR.alloc ee _
 have N9:bG (jk W0 w.heap.size #[x.ver,x.par,js e3 x.S.length e4,js b9 x.P.length c0,js c1 x.G.length c2,js c3 x.R.length c4] 28):=by show _=_;rw[i5];exact(Nv _ _ ee).trans Oa
 have HY0:bG (jk W0 (w.heap.size+1) #[y.ver,y.par,js e5 y.S.length e6,js c5 y.P.length c6,js c7 y.G.length c8,js c9 y.R.length d0] 28):=Kg
 clear i5;refine Kf fun KR bx j7=>?_;refine Ul fun X c d f l n Y o p t u v U V=>?_;clear bx j7;by_cases h0:x.ver=y.ver
 ·have t0:(x.ver==y.ver)=bl:=by rw[Da];exact h0
  have t3:(x.ver != y.ver)=aW:=by rw[bne,t0];rfl
  have Z:=hI h0;clear h0;by_cases I:x.par=y.par
  ·obtain⟨t4,t5⟩:=jy I;have H0:=hI I;clear I;by_cases L:x.S=y.S
   ·have N:=hI L;refine Ux fun A7=>?_;rw[show(ab (x.S=y.S))=bl from Ni L]at A7;clear L;go_wp2_with fail;refine A7.mono ?_;rintro e W3 ⟨rfl,H⟩;have Z8:=jh KR H;clear H;clear X Y c o d p f t l u n v U V;have bx:=jm Z8 N9;have j7:=jm Z8 HY0;refine Ul fun X c d f l n Y o p t u v U V=>?_;clear bx j7;by_cases a0:x.P.length=y.P.length
    ·have td:((x.P.length:ar)==(y.P.length:ar))=bl:=Ve;have t6:((x.P.length:ar) != (y.P.length:ar))=aW:=Vl;have HQ_tks:=hI a0;clear a0;by_cases a1:x.G.length=y.G.length
     ·have t1:((x.G.length:ar)==(y.G.length:ar))=bl:=Ve;have t7:((x.G.length:ar) != (y.G.length:ar))=aW:=(by rw[bne,t1];rfl);have A:=hI a1;clear a1;by_cases a2:x.R.length=y.R.length
      ·have t2:((x.R.length:ar)==(y.R.length:ar))=bl:=Ve;have t8:((x.R.length:ar) != (y.R.length:ar))=aW:=(by rw[bne,t2];rfl);have F:=hI a2;clear a2;go_wp2_with fail;go_loopg [5] x.P.length (fun g i wr=> ∃k:av,k<=x.P.length/\g=x.P.length-k/\i=cW dr k/\jb W0 wr/\ ∀j (h:j<x.P.length) (h':j<y.P.length),j<k->x.P[j]=y.P[j])
       ·exact⟨0,ed,ed,rfl,Z8,fun j _ _ hj=>cv hj (Pm _)⟩
       obtain⟨k,e7,rfl,rfl,H,C⟩:=hrel;have HB:=hI H;have K:=jh K0 H;have j9:=hI C;clear H C;clear X Y c o d p f t l u n v U V;have bx:=jm HB N9;have j7:=jm HB HY0;refine Ul fun X c d f l n Y o p t u v U V=>?_;clear bx j7;by_cases G9:k<x.P.length
       ·have hd:=bL G9;have z:k<y.P.length:=(by rw[<-HQ_tks.o];exact G9);refine Qb fun e8 e9=>?_;have f0:=aN z;obtain⟨g,off,d5,rfl,a4,D,a5⟩:=(H6 wr K).at_ k G9;obtain rfl:d5=[cW dr x.P[k].id,cW dr x.P[k].sec]:=a5;obtain⟨g2,o0,v0,rfl,a6,E,a7⟩:=(H7 wr K).at_ k z;obtain rfl:v0=[cW dr y.P[k].id,cW dr y.P[k].sec]:=a7;have pp0:=D 0 ee;have y0:=E 0 ee;have x1:=D 1 ee;have y1:=E 1 ee;simp only[Pk,Nu,Dl]at pp0 y0 x1 y1;refine Om fun l0 l1=>?_;clear a4 D a6 E;by_cases a:x.P[k].id=y.P[k].id
        ·obtain⟨s0,s1⟩:=jy a;have H3:=hI a;clear a;by_cases b:x.P[k].sec=y.P[k].sec
         ·obtain⟨s2,s3⟩:=jy b;have H4:=hI b;clear b
          have b0:bG (∀j (h:j<x.P.length) (h':j<y.P.length),j<k+1->x.P[j]=y.P[j]):=fun j J O j3=>by
           by_cases P:j=k
           ·subst P;exact TW H3 H4
           exact j9 j J O ed
          go_upto_region 6 with fail;go_quiet (fail);go_wp2_with fail;go_roundg (x.P.length-(k+1))
          ·go_light;exact⟨k+1,ed,ed,ej,dM HB _,b0⟩
          go_light;omega
         obtain⟨s2,s3⟩:=jn b;have HE:=hI (G.2 fun e=>b Oz);clear b;go_upto_region 6 with fail;go_quiet (fail);refine ei ?_;exact⟨ew,K0.trans ((dM HB _).mono K0.size)⟩
        obtain⟨s0,s1⟩:=jn a;have HE:=hI (G.2 fun e=>a Oz);clear a;go_upto_region 6 with fail;go_quiet (fail);refine ei ?_;exact⟨ew,K0.trans ((dM HB _).mono K0.size)⟩
       obtain rfl:k=x.P.length:=ed;refine Zu fun H1=>?_;clear j9;obtain⟨w1,rfl⟩: ∃b1:aj,b1=wr:=⟨_,rfl⟩;go_wp2_with fail;go_loopg [6] x.G.length (fun g i wr=> ∃k:av,k<=x.G.length/\g=x.G.length-k/\i=cW dr k/\jb W0 wr/\ ∀j (h:j<x.G.length) (h':j<y.G.length),j<k->x.G[j]=y.G[j])
       ·exact⟨0,ed,ed,rfl,HB,fun j _ _ hj=>cv hj (Pm _)⟩
       obtain⟨k,e7,rfl,rfl,H,C⟩:=hrel;have HB:=hI H;have K:=jh K0 H;have j9:=hI C;clear H C;clear X Y c o d p f t l u n v U V;have bx:=jm HB N9;have j7:=jm HB HY0;refine Ul fun X c d f l n Y o p t u v U V=>?_;clear bx j7;by_cases G9:k<x.G.length
       ·have hd:=bL G9;have z:k<y.G.length:=(by rw[<-A.o];exact G9);refine Qb fun e8 e9=>?_;have f0:=aN z;obtain⟨g,off,d5,rfl,a4,D,a5⟩:=(H8 wr K).at_ k G9;obtain rfl:d5=[cW dr x.G[k].id,cW dr x.G[k].sec,cW dr x.G[k].en]:=a5;obtain⟨g2,o0,v0,rfl,a6,E,a7⟩:=(H9 wr K).at_ k z;obtain rfl:v0=[cW dr y.G[k].id,cW dr y.G[k].sec,cW dr y.G[k].en]:=a7;have pp0:=D 0 ee;have y0:=E 0 ee;have x1:=D 1 ee;have y1:=E 1 ee;have x2:=D 2 ee;have y2:=E 2 ee;simp only[Pk,Nu,Dl]at pp0 y0 x1 y1 x2 y2;refine Om fun _ _=>?_;clear a4 D a6 E;by_cases a:x.G[k].id=y.G[k].id
        ·obtain⟨s0,s1⟩:=jy a;have H3:=hI a;clear a;by_cases b:x.G[k].sec=y.G[k].sec
         ·obtain⟨s2,s3⟩:=jy b;have H4:=hI b;clear b;by_cases M:x.G[k].en=y.G[k].en
          ·obtain⟨s4,s5⟩:=jy M;have d6:=hI M;clear M
           have b0:bG (∀j (h:j<x.G.length) (h':j<y.G.length),j<k+1->x.G[j]=y.G[j]):=fun j J O j3=>by
            by_cases P:j=k
            ·subst P;exact TV H3 H4 d6
            exact j9 j J O ed
           go_upto_region 11 with fail;go_quiet (fail);go_wp2_with fail;go_roundg (x.G.length-(k+1))
           ·go_light;exact⟨k+1,ed,ed,ej,dM HB _,b0⟩
           go_light;omega
          obtain⟨s4,s5⟩:=jn M;have HE:=hI (G.2 fun e=>M Oz);clear M;go_upto_region 11 with fail;go_quiet (fail);refine ei ?_;exact⟨ew,K0.trans ((dM HB _).mono K0.size)⟩
         obtain⟨s2,s3⟩:=jn b;have HE:=hI (G.2 fun e=>b Oz);clear b;go_upto_region 11 with fail;go_quiet (fail);refine ei ?_;exact⟨ew,K0.trans ((dM HB _).mono K0.size)⟩
        obtain⟨s0,s1⟩:=jn a;have HE:=hI (G.2 fun e=>a Oz);clear a;go_upto_region 11 with fail;go_quiet (fail);refine ei ?_;exact⟨ew,K0.trans ((dM HB _).mono K0.size)⟩
       obtain rfl:k=x.G.length:=ed;have Q:=hI (Sf A fun j J O=>j9 j J O J);clear j9;obtain⟨w0,rfl⟩: ∃b1:aj,b1=wr:=⟨_,rfl⟩;go_wp2_with fail;go_loopg [7] x.R.length (fun g i wr=> ∃k:av,k<=x.R.length/\g=x.R.length-k/\i=cW dr k/\jb W0 wr/\ ∀j (h:j<x.R.length) (h':j<y.R.length),j<k->x.R[j]=y.R[j])
       ·exact⟨0,ed,ed,rfl,HB,fun j _ _ hj=>cv hj (Pm _)⟩
       obtain⟨k,e7,rfl,rfl,H,C⟩:=hrel;have HB:=hI H;have K:=jh K0 H;have j9:=hI C;clear H C;clear X Y c o d p f t l u n v U V;have bx:=jm HB N9;have j7:=jm HB HY0;refine Ul fun X c d f l n Y o p t u v U V=>?_;clear bx j7;by_cases G9:k<x.R.length
       ·have hd:=bL G9;have z:k<y.R.length:=(by rw[<-F.o];exact G9);refine Qb fun _ _=>?_;have f0:=aN z;obtain⟨f2,o1,up,f3,f4,rfl,u0,u1,u2,u3,u4,u5,u6,R⟩:=(d1 wr K).rt G9;obtain⟨b2,b3,rfl,-⟩:=R.A.at_;obtain⟨b4,b5,rfl,-⟩:=R.O.at_;obtain⟨b6,b7,rfl,-⟩:=R.fl;have d7:bG (∀W,jb wr W->dY W (js b2 x.R[k].A.length b3) (js b4 x.R[k].O.length b5) (js b6 x.R[k].fl.length b7) x.R[k]):=fun W H=>R.below H;have f5:=Mt u0;clear R;obtain⟨f6,o2,f7,vo,f8,rfl,f1,v1,v2,f9,g0,v5,g1,T⟩:=(d2 wr K).rt z;obtain⟨v3,v4,rfl,-⟩:=T.A.at_;obtain⟨v6,v7,rfl,-⟩:=T.O.at_;obtain⟨v8,v9,rfl,-⟩:=T.fl;have d8:bG (∀W,jb wr W->dY W (js v3 y.R[k].A.length v4) (js v6 y.R[k].O.length v7) (js v8 y.R[k].fl.length v9) y.R[k]):=fun W H=>T.below H;have g3:=Mt f1;clear T;go_upto_region 16 with fail
        go_still_tail 10,ef
        refine Xc fun W9 b8 a3 H5=>?_;have A7:=hI (z38 x.R[k] y.R[k] b2 b4 b6 v3 v6 v8 b3 b5 b7 v4 v7 v9 W9 (d7 W9 a3) (d8 W9 a3) (d3.rt k G9) (d4.rt k z))
        have d9:bG (x.R[k]=y.R[k]-> ∀j (h:j<x.R.length) (h':j<y.R.length),j<k+1->x.R[j]=y.R[j]):=fun h j J O j3=>by
         by_cases P:j=k
         ·subst P;exact h
         exact j9 j J O ed
        clear a3 b8;by_cases a8:x.R[k]=y.R[k]
        ·rw[Ni a8]at A7;have b0:=hI (d9 a8);clear a8;go_wp2_with fail;refine A7.mono ?_;rintro e W3 ⟨rfl,H⟩;have Z8:=jh H5 H;clear H A7;go_wp2_with fail;go_roundg (x.R.length-(k+1))
         ·go_light;exact⟨k+1,ed,ed,ej,Z8,b0⟩
         go_light;omega
        rw[Mw a8]at A7;have HE:=hI (G.2 fun e=>a8 Oz);clear a8;go_wp2_with fail;refine A7.mono ?_;rintro e W3 ⟨rfl,H⟩;have Z8:=jh H5 H;clear H A7;refine ei ?_;exact⟨ew,jo K0 Z8⟩
       obtain rfl:k=x.R.length:=ed;have H2:=hI (Sf F fun j J O=>j9 j J O J);clear j9;obtain⟨w2,rfl⟩: ∃b1:aj,b1=wr:=⟨_,rfl⟩;have HE:=hI (G.1 (DS Z H0 N H1 Q H2));refine ei ?_;exact⟨ew,jo K0 HB⟩
      have t2:((x.R.length:ar)==(y.R.length:ar))=aW:=Ov;have t8:((x.R.length:ar) != (y.R.length:ar))=bl:=(by rw[bne,t2];rfl);have HE:=hI (G.2 fun e=>a2 Qn);clear a2;refine ei ?_;exact⟨ew,jo K0 Z8⟩
     have t1:((x.G.length:ar)==(y.G.length:ar))=aW:=Ov;have t7:((x.G.length:ar) != (y.G.length:ar))=bl:=(by rw[bne,t1];rfl);have HE:=hI (G.2 fun e=>a1 Qn);clear a1;refine ei ?_;exact⟨ew,jo K0 Z8⟩
    have td:((x.P.length:ar)==(y.P.length:ar))=aW:=Ov;have t6:((x.P.length:ar) != (y.P.length:ar))=bl:=Vl;have HE:=hI (G.2 fun e=>a0 Qn);clear a0;refine ei ?_;exact⟨ew,jo K0 Z8⟩
   have HE:=hI (G.2 fun e=>L Qn);refine Ux fun A7=>?_;rw[show(ab (x.S=y.S))=aW from Mw L]at A7;clear L;go_wp2_with fail;refine A7.mono ?_;rintro e W3 ⟨rfl,H⟩;have Z8:=jh KR H;clear H;clear X Y c o d p f t l u n v U V;refine Xt ?_;refine ei ?_;exact⟨ew,jo K0 Z8⟩
  obtain⟨t4,t5⟩:=jn I;have HE:=hI (G.2 fun e=>I Qn);clear I;refine ei ?_;exact⟨ew,jo K0 KR⟩
 have t0:(x.ver==y.ver)=aW:=by exact Ua
 have t3:(x.ver != y.ver)=bl:=by rw[bne,t0];rfl
 have HE:=hI (G.2 fun e=>h0 Qn);clear h0;refine ei ?_;exact⟨ew,jo K0 KR⟩
def bV:Pl:=⟨0,0,[],[],[],[]⟩
def wK:bV.Fit:=⟨eh,fun i h=>cv h (Pm _),eh,eh,eh,fun i h=>cv h (Pm _)⟩
def wJ (W:aj):bN W (jN) (jN) (jN) (jN) bV:=⟨Sl.nil _ _ _,Sl.nil _ _ _,Sl.nil _ _ _,Sl.nil _ _ _⟩
def UR (x:Pl):x=bV↔x.ver=0/\x.par=0/\x.S.length=0/\x.P.length=0/\x.G.length=0/\x.R.length=0:=by
 constructor
 ·rintro rfl;exact⟨rfl,rfl,rfl,rfl,rfl,rfl⟩
 rintro⟨h1,h2,h3,h4,h5,h6⟩;exact DS h1 h2 (Dm h3) (Dm h4) (Dm h5) (Dm h6)
def DQ (x:Pl) (s q g r:bw) (w:aj) (hx:bN w s q g r x) (j:x.Fit):
  jW 83 #[aT x s q g r] w (bY w (ab (x=bV))):=by
 obtain⟨a1,a2,rfl,-⟩:=hx.S;obtain⟨a3,a4,rfl,-⟩:=hx.P;obtain⟨a5,a6,rfl,-⟩:=hx.G;obtain⟨a7,a8,rfl,-⟩:=hx.R;have d:bG ((x.ver=0/\x.par=0/\x.S.length=0/\x.P.length=0/\x.G.length=0/\x.R.length=0->ab (x=bV)=bl)/\(¬(x.ver=0/\x.par=0/\x.S.length=0/\x.P.length=0/\x.G.length=0/\x.R.length=0)->ab (x=bV)=aW)):=⟨fun h=>Ni ((UR x).2 h),fun h=>Mw fun e=>h ((UR x).1 e)⟩;clear hx j;generalize ab (x=bV)=B at *;unfold aT at *;go_in;go_upto_region 1 with fail;generalize f:cj _ _=W0;have K:=hI (jG f)
 have i:=jA f
 clear f;obtain⟨P,C,D,E,F,G⟩:=dB i;have L:=aD i;clear i;by_cases h0:x.ver=0
 ·have t:(x.ver==0)=bl:=by rw[Da];exact h0
  have k:=hI h0;clear h0;by_cases he:x.par=0
  ·have T:(x.par==0)=bl:=Xv;have l:=hI he;clear he;by_cases H:x.S.length=0
   ·have n:((x.S:ar)==0)=bl:=Ve;have o:=hI H;clear H;by_cases a:x.P.length=0
    ·have p:((x.P:ar)==0)=bl:=Ve;have u:=hI a;clear a;by_cases b:x.G.length=0
     ·have v:((x.G:ar)==0)=bl:=Ve;have y:=hI b;clear b;by_cases c:x.R.length=0
      ·have z:((x.R:ar)==0)=bl:=Ve;have A:=hI c;clear c;have HE:=hI (d.1 ⟨k,l,o,u,y,A⟩);refine ei ?_;exact⟨ew,K⟩
      have z:((x.R:ar)==0)=aW:=Ov;have HE:=hI (d.2 fun h=>c h.2.2.2.2.2);clear c;refine ei ?_;exact⟨ew,K⟩
     have v:((x.G:ar)==0)=aW:=Ov;have HE:=hI (d.2 fun h=>b h.2.2.2.2.1);clear b;refine ei ?_;exact⟨ew,K⟩
    have p:((x.P:ar)==0)=aW:=Ov;have HE:=hI (d.2 fun h=>a h.2.2.2.1);clear a;refine ei ?_;exact⟨ew,K⟩
   have n:((x.S:ar)==0)=aW:=Ov;have HE:=hI (d.2 fun h=>H h.2.2.1);clear H;refine ei ?_;exact⟨ew,K⟩
  have T:(x.par==0)=aW:=Ui;have HE:=hI (d.2 fun h=>he h.2.1);clear he;refine ei ?_;exact⟨ew,K⟩
 have t:(x.ver==0)=aW:=by exact Ua
 have HE:=hI (d.2 fun h=>h0 h.1);clear h0;refine ei ?_;exact⟨ew,K⟩
def wI (x:Pl) (s q g r:bw) (w:aj) (hx:bN w s q g r x) (b:x.Fit):
  jW 80 #[aT x s q g r] w (bY w (ab (x=bV))):=by
 have d:bG (∀W,jb w W->jW 70 #[aT x s q g r,cZ #[jV 0,jV 0,jN,jN,jN,jN]] W (bY W (ab (x=bV)))):=fun W c=>z35 x bV s q g r _ _ _ _ W (hx.below c) (wJ W) b wK;obtain⟨a1,a2,rfl,-⟩:=hx.S;obtain⟨a3,a4,rfl,-⟩:=hx.P;obtain⟨a5,a6,rfl,-⟩:=hx.G;obtain⟨a7,a8,rfl,-⟩:=hx.R;clear hx b;generalize ab (x=bV)=B at *;unfold aT at *;go_in;go_upto_region 1 with fail;generalize H:cj _ _=W0;have K0:=hI (jG H)
 have a:=jA H
 clear H;obtain⟨p,P,f,i,j,k⟩:=dB a;have l:=aD a;clear a;go_wp2_with fail;refine(d W0 K0).mono ?_;rintro e W1 ⟨rfl,c⟩;have K:=jh K0 c;clear c;refine ei ?_;exact⟨rfl,K⟩
def GZ {C:aj->Prop}: ∀(l:aq Oper) (a:Act) (w:aj),C w->wpQuiet P ops C (fun A=> ∀W,C W->Q .normal A W) l a->wpList P ops Q l a w
 | [],a,w,hw,h=>h w hw
 | o::rest,a,w,hw,h=>by
  unfold wpQuiet at h;unfold wpList;by_cases H:Region.wanted o (yielded ops a.tmps)=bl
  ·rw[Np H]at h ⊢;exact .inl (Oper.wp_of_quiet hw (fun A W b c=>GZ rest A W b c) h)
  rw[Nm H]at h ⊢;exact GZ rest _ w hw h
def rN {id:av}{a:Act}{w:aj}
  (h:wpQuiet P l.toArray (fun W=> ∃p:Regrown,W=grow (cF w p.d) p.os) (fun A=> ∀W,(∃p:Regrown,W=grow (cF w p.d) p.os)->Q .normal A W) l a):(Code.region id l.toArray aW).wp P Q a w:=
 wp_region_lit (GZ (C:=fun W=> ∃p:Regrown,W=grow (cF w p.d) p.os) l a w ⟨⟨w.drawn,#[]⟩,by rw[grow_empty];rfl⟩ h)
abbrev fB (f:av) (args:aL bw) (w:aj) (v:bw):Prop:= ∀(d:av) (os:aL Obj),jW f args (grow (cF w d) os) fun e w''=>e=cL v/\ ∃p:Regrown,w''=grow (cF w p.d) p.os
def fB.of {f:av}{w:aj}(h: ∀W,jb w W->jW f args W fun e a=>e=cL v/\jb W a):fB f args w v:=fun d os=>Ps (h _ (Nr w d os))
structure Hs where
 key:aq ar
 pl:Pl
 bk:Pl
 high:ar
 st:St
 buf:aq ar
 nx:Pl
 halted:aU
def TM {x y:Hs}(h1:x.key=y.key) (h2:x.pl=y.pl) (h3:x.bk=y.bk) (h4:x.high=y.high) (h5:x.st=y.st) (h6:x.buf=y.buf) (h7:x.nx=y.nx) (h8:x.halted=y.halted):x=y:=by cases x;cases y;simp_all
instance:DecidableEq Hs:=fun x y=>decidable_of_iff (x.key=y.key/\x.pl=y.pl/\x.bk=y.bk/\x.high=y.high/\x.st=y.st/\x.buf=y.buf/\x.nx=y.nx/\x.halted=y.halted) ⟨fun h=>TM h.1 h.2.1 h.2.2.1 h.2.2.2.1 h.2.2.2.2.1 h.2.2.2.2.2.1 h.2.2.2.2.2.2.1 h.2.2.2.2.2.2.2,fun h=>by subst h;simp⟩
def z39 {x y:Hs}:x=y↔x.key=y.key/\x.pl=y.pl/\x.bk=y.bk/\x.high=y.high/\x.st=y.st/\x.buf=y.buf/\x.nx=y.nx/\x.halted=y.halted:=⟨fun h=>by subst h;simp,fun h=>TM h.1 h.2.1 h.2.2.1 h.2.2.2.1 h.2.2.2.2.1 h.2.2.2.2.2.1 h.2.2.2.2.2.2.1 h.2.2.2.2.2.2.2⟩
def aE (a:av->ax bR) (c:av->av) (x:Hs):aL bw:=#[js (a 0) x.key (c 0),
 jV x.pl.ver,x.pl.par,js (a 1) x.pl.S (c 1),js (a 2) x.pl.P (c 2),js (a 3) x.pl.G (c 3),js (a 4) x.pl.R (c 4),
 jV x.bk.ver,x.bk.par,js (a 5) x.bk.S (c 5),js (a 6) x.bk.P (c 6),js (a 7) x.bk.G (c 7),js (a 8) x.bk.R (c 8),
 jV x.high,js (a 9) x.st.tks (c 9),js (a 10) x.st.sws (c 10),js (a 11) x.st.lks (c 11),js (a 12) x.buf (c 12),
 jV x.nx.ver,x.nx.par,js (a 13) x.nx.S (c 13),js (a 14) x.nx.P (c 14),js (a 15) x.nx.G (c 15),js (a 16) x.nx.R (c 16),db x.halted]
def cV (a:av->ax bR) (c:av->av) (x:Hs):bw:=cZ (aE a c x)
structure dK (w:aj) (a:av->ax bR) (c:av->av) (x:Hs):Prop where
 key:aB w 1 dG (a 0) (c 0) x.key
 pl:bN w (js (a 1) x.pl.S (c 1)) (js (a 2) x.pl.P (c 2)) (js (a 3) x.pl.G (c 3)) (js (a 4) x.pl.R (c 4)) x.pl
 bk:bN w (js (a 5) x.bk.S (c 5)) (js (a 6) x.bk.P (c 6)) (js (a 7) x.bk.G (c 7)) (js (a 8) x.bk.R (c 8)) x.bk
 st:fU w (js (a 9) x.st.tks (c 9)) (js (a 10) x.st.sws (c 10)) (js (a 11) x.st.lks (c 11)) x.st
 buf:aB w 1 dG (a 12) (c 12) x.buf
 nx:bN w (js (a 13) x.nx.S (c 13)) (js (a 14) x.nx.P (c 14)) (js (a 15) x.nx.G (c 15)) (js (a 16) x.nx.R (c 16)) x.nx
def dK.below {w:aj}{a:av->ax bR}{c:av->av}{x:Hs}(h:dK w a c x) (H:jb w W):dK W a c x:=
 ⟨h.key.below fS H,h.pl.below H,h.bk.below H,h.st.below H,h.buf.below fS H,h.nx.below H⟩
structure Hs.Fit (x:Hs):Prop where
 pl:x.pl.Fit
 bk:x.bk.Fit
 nx:x.nx.Fit
 st:x.st.fit
 key:x.key.length<=1000
 buf:x.buf.length<=5000
 kb:aO x.key
 bb:aO x.buf
def jJ {w:aj}{a:av->ax bR}{c:av->av}{x:Hs}(h:jk w g (aE a c x) 35) (i:av) (v:bw) (H:(aE a c x)[i]? =bt v) (d:av) (os:aL Obj):jc (grow (cF w d) os) g i v:=Ng ((Mu w g i _ _ _ h).trans H) d os
def sU {w:aj}{a:av->ax bR}{c:av->av}{x:Hs}(h:jk w g (aE a c x) 35):
  (∀(d:av) (os:aL Obj),jc (grow (cF w d) os) g 0 (js (a 0) x.key (c 0)))/\
  (∀(d:av) (os:aL Obj),jc (grow (cF w d) os) g 1 x.pl.ver)/\
  (∀(d:av) (os:aL Obj),jc (grow (cF w d) os) g 2 x.pl.par)/\
  (∀(d:av) (os:aL Obj),jc (grow (cF w d) os) g 3 (js (a 1) x.pl.S (c 1)))/\
  (∀(d:av) (os:aL Obj),jc (grow (cF w d) os) g 4 (js (a 2) x.pl.P (c 2)))/\
  (∀(d:av) (os:aL Obj),jc (grow (cF w d) os) g 5 (js (a 3) x.pl.G (c 3)))/\
  (∀(d:av) (os:aL Obj),jc (grow (cF w d) os) g 6 (js (a 4) x.pl.R (c 4)))/\
  (∀(d:av) (os:aL Obj),jc (grow (cF w d) os) g 7 x.bk.ver)/\
  (∀(d:av) (os:aL Obj),jc (grow (cF w d) os) g 8 x.bk.par)/\
  (∀(d:av) (os:aL Obj),jc (grow (cF w d) os) g 9 (js (a 5) x.bk.S (c 5)))/\
  (∀(d:av) (os:aL Obj),jc (grow (cF w d) os) g 10 (js (a 6) x.bk.P (c 6)))/\
  (∀(d:av) (os:aL Obj),jc (grow (cF w d) os) g 11 (js (a 7) x.bk.G (c 7)))/\
  (∀(d:av) (os:aL Obj),jc (grow (cF w d) os) g 12 (js (a 8) x.bk.R (c 8)))/\
  (∀(d:av) (os:aL Obj),jc (grow (cF w d) os) g 13 x.high)/\
  (∀(d:av) (os:aL Obj),jc (grow (cF w d) os) g 14 (js (a 9) x.st.tks (c 9)))/\
  (∀(d:av) (os:aL Obj),jc (grow (cF w d) os) g 15 (js (a 10) x.st.sws (c 10)))/\
  (∀(d:av) (os:aL Obj),jc (grow (cF w d) os) g 16 (js (a 11) x.st.lks (c 11)))/\
  (∀(d:av) (os:aL Obj),jc (grow (cF w d) os) g 17 (js (a 12) x.buf (c 12)))/\
  (∀(d:av) (os:aL Obj),jc (grow (cF w d) os) g 18 x.nx.ver)/\
  (∀(d:av) (os:aL Obj),jc (grow (cF w d) os) g 19 x.nx.par)/\
  (∀(d:av) (os:aL Obj),jc (grow (cF w d) os) g 20 (js (a 13) x.nx.S (c 13)))/\
  (∀(d:av) (os:aL Obj),jc (grow (cF w d) os) g 21 (js (a 14) x.nx.P (c 14)))/\
  (∀(d:av) (os:aL Obj),jc (grow (cF w d) os) g 22 (js (a 15) x.nx.G (c 15)))/\
  (∀(d:av) (os:aL Obj),jc (grow (cF w d) os) g 23 (js (a 16) x.nx.R (c 16)))/\
  (∀(d:av) (os:aL Obj),jc (grow (cF w d) os) g 24 (db x.halted)):=
 ⟨jJ h 0 _ rfl,jJ h 1 _ rfl,jJ h 2 _ rfl,jJ h 3 _ rfl,jJ h 4 _ rfl,jJ h 5 _ rfl,jJ h 6 _ rfl,jJ h 7 _ rfl,jJ h 8 _ rfl,jJ h 9 _ rfl,jJ h 10 _ rfl,jJ h 11 _ rfl,jJ h 12 _ rfl,jJ h 13 _ rfl,jJ h 14 _ rfl,jJ h 15 _ rfl,jJ h 16 _ rfl,jJ h 17 _ rfl,jJ h 18 _ rfl,jJ h 19 _ rfl,jJ h 20 _ rfl,jJ h 21 _ rfl,jJ h 22 _ rfl,jJ h 23 _ rfl,jJ h 24 _ rfl⟩
def nN {w:aj}{a:av->ax bR}{c:av->av}{x:Hs}(h:jk w g (aE a c x) 35):
  (jc w g 0 (js (a 0) x.key (c 0)))/\
  (jc w g 1 x.pl.ver)/\
  (jc w g 2 x.pl.par)/\
  (jc w g 3 (js (a 1) x.pl.S (c 1)))/\
  (jc w g 4 (js (a 2) x.pl.P (c 2)))/\
  (jc w g 5 (js (a 3) x.pl.G (c 3)))/\
  (jc w g 6 (js (a 4) x.pl.R (c 4)))/\
  (jc w g 7 x.bk.ver)/\
  (jc w g 8 x.bk.par)/\
  (jc w g 9 (js (a 5) x.bk.S (c 5)))/\
  (jc w g 10 (js (a 6) x.bk.P (c 6)))/\
  (jc w g 11 (js (a 7) x.bk.G (c 7)))/\
  (jc w g 12 (js (a 8) x.bk.R (c 8)))/\
  (jc w g 13 x.high)/\
  (jc w g 14 (js (a 9) x.st.tks (c 9)))/\
  (jc w g 15 (js (a 10) x.st.sws (c 10)))/\
  (jc w g 16 (js (a 11) x.st.lks (c 11)))/\
  (jc w g 17 (js (a 12) x.buf (c 12)))/\
  (jc w g 18 x.nx.ver)/\
  (jc w g 19 x.nx.par)/\
  (jc w g 20 (js (a 13) x.nx.S (c 13)))/\
  (jc w g 21 (js (a 14) x.nx.P (c 14)))/\
  (jc w g 22 (js (a 15) x.nx.G (c 15)))/\
  (jc w g 23 (js (a 16) x.nx.R (c 16)))/\
  (jc w g 24 (db x.halted)):=
 ⟨(Mu w g 0 _ _ _ h).trans rfl,(Mu w g 1 _ _ _ h).trans rfl,(Mu w g 2 _ _ _ h).trans rfl,(Mu w g 3 _ _ _ h).trans rfl,(Mu w g 4 _ _ _ h).trans rfl,(Mu w g 5 _ _ _ h).trans rfl,(Mu w g 6 _ _ _ h).trans rfl,(Mu w g 7 _ _ _ h).trans rfl,(Mu w g 8 _ _ _ h).trans rfl,(Mu w g 9 _ _ _ h).trans rfl,(Mu w g 10 _ _ _ h).trans rfl,(Mu w g 11 _ _ _ h).trans rfl,(Mu w g 12 _ _ _ h).trans rfl,(Mu w g 13 _ _ _ h).trans rfl,(Mu w g 14 _ _ _ h).trans rfl,(Mu w g 15 _ _ _ h).trans rfl,(Mu w g 16 _ _ _ h).trans rfl,(Mu w g 17 _ _ _ h).trans rfl,(Mu w g 18 _ _ _ h).trans rfl,(Mu w g 19 _ _ _ h).trans rfl,(Mu w g 20 _ _ _ h).trans rfl,(Mu w g 21 _ _ _ h).trans rfl,(Mu w g 22 _ _ _ h).trans rfl,(Mu w g 23 _ _ _ h).trans rfl,(Mu w g 24 _ _ _ h).trans rfl⟩
def z4a (b B a c d e f g:aU):b=aW\/(b=bl/\B=aW)\/(b=bl/\B=bl/\a=aW)\/(b=bl/\B=bl/\a=bl/\c=aW)\/(b=bl/\B=bl/\a=bl/\c=bl/\d=aW)\/(b=bl/\B=bl/\a=bl/\c=bl/\d=bl/\e=aW)\/(b=bl/\B=bl/\a=bl/\c=bl/\d=bl/\e=bl/\f=aW)\/(b=bl/\B=bl/\a=bl/\c=bl/\d=bl/\e=bl/\f=bl/\g=aW)\/(b=bl/\B=bl/\a=bl/\c=bl/\d=bl/\e=bl/\f=bl/\g=bl):=by
 cases b
 ·simp
 cases B
 ·simp
 cases a
 ·simp
 cases c
 ·simp
 cases d
 ·simp
 cases e
 ·simp
 cases f
 ·simp
 cases g
 ·simp
 simp
section
variable {P:Program}{ops:aL Oper}{Q:Exit->Act->aj->Prop}{md:Region.Mode}{S:aL aU->aj->Prop}
def eQ (P:Program) (md:Region.Mode) (ops:aL Oper) (Q:Exit->Act->aj->Prop) (S:aL aU->aj->Prop):av->aL aU->Act->aj->Prop
 | 0,listed,a,w=>Region.ready md ops listed=[]/\Q .normal a w
 | fuel+1,listed,a,w=>
  (Region.ready md ops listed=[]->Q .normal a w)/\
  ∀i∈Region.ready md ops listed,wpOp P ops Q i (fun a' w'=>S (listed.setIfInBounds i bl) w'/\eQ P md ops Q S fuel (listed.setIfInBounds i bl) a' w') a w
def GY: ∀(f:av) (l:aL aU) (a:Act) (w:aj),eQ P md ops Q S f l a w->wpAny P md ops Q f l a w
 | 0,_,_,_,h=>h
 | f+1,_,_,_,h=>⟨h.1,fun i H=>Gl (fun A W h'=>GY f _ A W h'.2) (h.2 i H)⟩
def TK {L:aL aU}{i:av}(h:i∈Region.ready md ops L):L.getD i aW=aW:=by
 have h0:=(mem_ready.1 h).1;rcases Pw i L.size with h' | h'
 ·simp[h']at h0 ⊢;exact h0
 simp[Pc h']at h0
def DC (md:Region.Mode) (ops:aL Oper) (L:aL aU):Prop:= ∀j oj,ops[j]? =bt oj->L.getD j aW=bl-> ∀e∈oj.after,Region.binds md e=bl->L.getD e.on aW=bl
def DC.set {L:aL aU}(h:DC md ops L){j:av}(hj:j∈Region.ready md ops L):DC md ops (L.setIfInBounds j bl):=fun k ok a hl e he b=>by
 by_cases E:j=k
 ·subst E;obtain⟨-,o,c,H⟩:=mem_ready.1 hj;rw[a]at c;cases c;exact getD_set_true (H e he b)
 rw[Fu aW E]at hl;exact getD_set_true (h k ok a hl e he b)
def ms {i:av}{C:aj->Prop}{Y:Act->Prop}(hYo: ∀(K:Act->aj->Prop) a w,Y a->C w->K (a.put oi.dst v) w->wpOp P ops Q i K a w)
  (q: ∀(j:av) (o:Oper) (K:Act->aj->Prop) a w,ops[j]? =bt o->oi.apart ops o=bl->Y a->wpOp P ops Q j K (a.put oi.dst v) w->wpOp P ops Q j (fun A W=>Y A/\K (A.put oi.dst v) W) a w)
  (hSi: ∀L w,S (L.setIfInBounds i bl) w↔S L w)
  (hC: ∀L w,DC md ops L->L.getD i aW=aW->S L w->C w):
  ∀(f:av) (l6:aL aU) (a:Act) (w:aj),
   (∀j o,ops[j]? =bt o->j≠i->l6.getD j bl=aW->(∀e∈o.after,Region.binds md e=bl->e.on≠i)->oi.apart ops o=bl)->
   DC md ops l6->
   i∈Region.ready md ops l6->Y a->S l6 w->
   eQ P md ops Q S f (l6.setIfInBounds i bl) (a.put oi.dst v) w->eQ P md ops Q S (f+1) l6 a w:=by
 intro f
 induction f with
 | zero=>
  intro l6 a w _ hwt hr hy hS H;refine⟨fun h=>(by rw[h]at hr;cases hr),fun j hj=> ?_⟩;by_cases A6:j=i
  ·subst A6;exact Mq
  have:=ready_mono hj A6;rw[H.1]at this;cases this
 | succ f I=>
  intro l6 a w b hwt hr hy hS H;refine⟨fun h=>(by rw[h]at hr;cases hr),fun j hj=> ?_⟩;by_cases A6:j=i
  ·subst A6;exact Mq
  have h1:=H.2 j (ready_mono hj A6);obtain⟨HE,o,d,g⟩:=mem_ready.1 hj
  have l: ∀e∈o.after,Region.binds md e=bl->e.on≠i:=fun e he u r=>by
   have h1:=g e he u;have h0:=(mem_ready.1 hr).1;rw[r]at h1;rcases Pw i l6.size with h' | h'
   ·simp[h']at h0 h1;rw[h0]at h1;cases h1
   simp[Pc h']at h1
  have h2:=q j o _ a w d (b j o d A6 HE l) hy h1
  have c: ∀k ok,ops[k]? =bt ok->k≠i->(l6.setIfInBounds j bl).getD k bl=aW->
    (∀e∈ok.after,Region.binds md e=bl->e.on≠i)->oi.apart ops ok=bl:=fun k ok x s n t=>by
   refine b k ok x s ?_ t;by_cases N7:j=k
   ·exact Uf
   rw[Fu bl N7]at n;exact n
  have p:=hwt.set hj;refine Gl (fun A W h3=> ?_) h2;have h4:=h3.2;rw[aL.setIfInBounds_comm _ _ Uv]at h4;have h5:=(hSi _ _).1 h4.1;exact⟨h5,I (l6.setIfInBounds j bl) A W c p (ready_mono hr Uv) h3.1 h5 h4.2⟩
def yU {i:av}{C:aj->Prop}(n:ops[i]? =bt oi) (H: ∀(j:av) (o:Oper) cs b,ops[j]? =bt o->o.op≠ .select cs b)
  (p: ∀c a w,Q (.panic c) (a.put oi.dst v) w->Q (.panic c) a w)
  (d: ∀L w,S (L.setIfInBounds i bl) w↔S L w)
  (q: ∀L w,DC md ops L->L.getD i aW=aW->S L w->C w):
  ∀(f:av) (l:aL aU) (a:Act) (w:aj),
   (∀j O,ops[j]? =bt O->j≠i->l.getD j bl=aW->(∀e∈O.after,Region.binds md e=bl->e.on≠i)->oi.apart ops O=bl)->
   DC md ops l->
   i∈Region.ready md ops l->YieldsIf P ops C oi v a->S l w->
   eQ P md ops Q S f (l.setIfInBounds i bl) (a.put oi.dst v) w->eQ P md ops Q S (f+1) l a w:=
 ms (fun _ _ _ g r h=>g.wpOp n r h) (fun j O _ _ _ hj k g h=>wpOp_putIf hj k (fun cs b=>H i oi cs b n) (fun cs b=>H j O cs b hj) p g h) d q
def yci {j:av}{o:Oper}{a:Act}{w:aj}(hj:ops[j]? =bt o) (h:wpOp P ops Q j K a w):
  wpOp P ops Q j (fun A W=>K A W/\ ∃c u,A=cq {a with defers:=c} o.dst u) a w:=by
 unfold wpOp at *;simp only[hj]at *;split at h
 ·rename_i H
  rw[Np H];refine h.imp (fun h=> ?_) id;unfold Oper.wp at *;cases hr:(execOp a.eval o).run P w with
  | halt x W=>rw[hr]at h;cases x<;>exact h
  | ok n W=>
   rw[hr]at h;cases n<;>simp only[Oper.upon]at h ⊢
   case value u=>exact⟨h,a.defers,u,rfl⟩
   case skip=>exact⟨h,a.defers,bE,rfl⟩
   case defer d=>exact⟨h,_,_,rfl⟩
   case enter f args=>
    refine Calls.mono h fun e b he=> ?_;cases e with
    | returned u=>exact⟨he,a.defers,u,rfl⟩
    | _=>exact he
   case row r args=>exact Rows.mono h fun u b he=>⟨he,a.defers,u,rfl⟩
 rename_i H
 rw[Nm H];exact⟨h,a.defers,bE,rfl⟩
def gY (P:Program) (ops:aL Oper) (C:aj->Prop) (o:Oper) (v:bw) (a:Act):Prop:=
 Region.wanted o (yielded ops a.tmps)=bl/\ ∀w,C w-> ∃f args,(execOp a.eval o).run P w= .ok (.enter f args) w/\Calls P f args w fun e w'=>e=cL v/\w'=w
def gY.put {o:Oper}{C:aj->Prop}{a:Act}(c:gY P ops C oi v a) (d: ∀cs b,oi.op≠ .select cs b) (H:oi.apart ops o=bl) (ds) (u:bw):gY P ops C oi v (cq {a with defers:=ds} o.dst u):=by
 obtain⟨-,-,h3⟩:=Oper.apart_spec H;have e1:=execOp_put oi d {a with defers:=ds} o.dst u h3;have e2:=wanted_put oi {a with defers:=ds} o.dst u h3;unfold gY;rw[e1,e2];exact c
def ycj {i:av}{C:aj->Prop}(k:ops[i]? =bt oi) (H: ∀(j:av) (o:Oper) cs b,ops[j]? =bt o->o.op≠ .select cs b)
  (p: ∀c a w,Q (.panic c) (a.put oi.dst v) w->Q (.panic c) a w)
  (n: ∀L w,S (L.setIfInBounds i bl) w↔S L w)
  (q: ∀L w,DC md ops L->L.getD i aW=aW->S L w->C w):
  ∀(F:av) (l:aL aU) (a:Act) (w:aj),
   (∀j O,ops[j]? =bt O->j≠i->l.getD j bl=aW->(∀e∈O.after,Region.binds md e=bl->e.on≠i)->oi.apart ops O=bl)->
   DC md ops l->
   i∈Region.ready md ops l->gY P ops C oi v a->S l w->
   eQ P md ops Q S F (l.setIfInBounds i bl) (a.put oi.dst v) w->eQ P md ops Q S (F+1) l a w:=
 ms (fun K a w g r h=>by
  obtain⟨s,t⟩:=g;obtain⟨f,args,hx,x⟩:=t w r;unfold wpOp;simp only[k];rw[Np s];left;unfold Oper.wp;rw[hx,Oper.upon_enter];refine x.mono ?_;rintro e W ⟨rfl,rfl⟩
  exact h) (fun j O K a w hj d g h=>by
  have h1:=wpOp_putIf (S:=fun _=>False) hj d (fun cs b=>H i oi cs b k) (fun cs b=>H j O cs b hj) p (.inl ⟨g.1,fun _ h=>h.elim⟩) h;refine Gl (fun A W h2=> ?_) (yci hj h1);obtain⟨⟨-,y⟩,z,u,rfl⟩:=h2
  exact⟨g.put (fun cs b=>H i oi cs b k) d z u,y⟩) n q
def qP (ws:aq av) (L:aL aU):aU:=ws.any fun j=>L.getD j aW
def eG (ws:aq av) (D:aj->Prop) (L:aL aU) (w:aj):Prop:=qP ws L=aW->D w
def z4b {L:aL aU}{i:av}(h:i∉ws):qP ws (L.setIfInBounds i bl)=qP ws L:=by
 unfold qP
 induction ws with
 | nil=>rfl
 | cons j r I=>
  have hj:i≠j:=fun e=>h (e ▸ Dq);rw[aq.any_cons,aq.any_cons,Fu aW hj,I fun H=>h (Dy _ H)]
def vK {D:aj->Prop}{L:aL aU}{i:av}{w:aj}(h:i∉ws):eG ws D (L.setIfInBounds i bl) w↔eG ws D L w:=by
 unfold eG;rw[z4b h]
def yT (o:Oper):aU:=match o.op with
 | .move _ | .assign _ | .load _ _ | .fieldAddr _ _ _ | .indexAddr _ _ _ | .build _ _ | .binOp _ _ _ _ _ | .unOp _ _ _ | .extract _ _ | .pick _ _ _ | .convert _ _ _ | .field _ _ _ | .index _ _ _ | .slice _ _ _ _ _=>bl
 | _=>aW
def z4c {α:Type}{s:Sem α}{f:α->bw}{w:aj}{n:Next}(h:(do let x <-s;pure (Next.value (f x)):Sem Next).run P w= .ok n W): ∃u,n= .value u:=by
 rw[Sn]at h;cases hr:s.run P w with
 | ok x w2=>
  rw[hr]at h;simp only[So,Ty]at h
  injection h with h
  exact⟨f x,h.symm⟩
 | halt x w2=>
  rw[hr]at h;simp at h
def GX {o:Oper}(h:yT o=bl){ρ:Operand->bw}{w:aj}{n:Next}(hr:(execOp ρ o).run P w= .ok n W): ∃u,n= .value u:=by
 obtain⟨d,O,t,pos,a,g⟩:=o;unfold yT at h;cases O<;>simp only[Dw]at h<;>simp only[execOp]at hr
 case move=>exact ZH
 case assign=>exact ZH
 all_goals exact z4c hr
def uH (md:Region.Mode) (ops:aL Oper):av->av->av->aU
 | 0,_,_=>aW
 | f+1,j,i=>match ops[j]? with
  | some o=>o.after.any fun e=>Region.binds md e&&(e.on==i || uH md ops f e.on i)
  | none=>aW
def DO {L:aL aU}(h:DC md ops L){i:av}: ∀(f j:av),uH md ops f j i=bl->L.getD j aW=bl->L.getD i aW=bl
 | 0,_,hr,_=>by cases hr
 | f+1,j,hr,hl=>by
  unfold uH at hr;cases hj:ops[j]? with
  | none=>rw[hj]at hr;cases hr
  | some o=>
   rw[hj]at hr;simp only[aL.any_eq_true']at hr;obtain⟨e,he,H⟩:=hr;simp only[Dt,Gp,Da]at H;have h1:=h j o hj hl e he H.1;rcases H.2 with E | E
   ·rw[E]at h1;exact h1
   exact DO h f e.on E h1
def MQ (md:Region.Mode) (ops:aL Oper) (L:aL aU):aU:=(aq.range ops.size).all fun j=> !L.getD j aW || match ops[j]? with
 | some o=>o.after.all fun e=> !Region.binds md e || L.getD e.on aW
 | none=>bl
def vJ {L:aL aU}(h:MQ md ops L=bl):DC md ops L:=fun j o hj hl e he H=>by
 have h1:=aq.all_eq_true.1 h j (aq.mem_range.2 (aL.getElem?_eq_some_iff.1 hj).1);rw[hl,hj]at h1;simp only[Hv,Sv]at h1;have h2:=aL.all_eq_true_iff_forall_mem.1 h1 e he;rw[H]at h2
 simpa using h2
def MP (md:Region.Mode) (ops:aL Oper) (ws:aq av) (L:aL aU) (i:av):aU:=
 Region.noSelect ops&&Region.free md ops L i&&(Region.ready md ops L).contains i&& !ws.contains i&&
 (match ops[i]? with | some o=>yT o&&o.guard.isNone | none=>aW)&&MQ md ops L
def sv {i:av}{f:av}{L:aL aU}{a:Act}{w:aj}{D C:aj->Prop}(e:MP md ops ws L i=bl)
  (g: ∀(d:ax Tmp) v c a w,Q (.panic c) (a.put d v) w->Q (.panic c) a w)
  (j: ∀l W,DC md ops l->l.getD i aW=aW->eG ws D l W->C W) (k:eG ws D L w)
  (h: ∀K:Act->Prop,(∀A,eQ P md ops Q (eG ws D) f (L.setIfInBounds i bl) A w->K A)-> ∀o,ops[i]? =bt o->o.quiet P a C K):
  eQ P md ops Q (eG ws D) (f+1) L a w:=by
 simp only[MP,Dt]at e;obtain⟨⟨⟨⟨⟨h1,h2⟩,h3⟩,h4⟩,h5⟩,h6⟩:=e;cases ho:ops[i]? with
 | none=>rw[ho]at h5;cases h5
 | some oi=>
  rw[ho]at h5;simp only[Dt]at h5;obtain⟨v,p,q⟩:=h _ (fun A r=>r) oi ho;have H:i∉ws:=by simpa using h4
  refine yU ho (Tp h1) (fun c a w=>g _ _ c a w) (fun l W=>vK H) (C:=C) j f L a w (Fm ho h2) (vJ h6) (by simpa using h3) ?_ k q;refine .inl ⟨?_,fun W b=> ?_⟩
  ·unfold Region.wanted;rw[ax.isNone_iff_eq_none.1 h5.2]
  have hq:=p W b;unfold Oper.quietAt at hq;cases hr:(execOp a.eval oi).run P W with
  | halt x w2=>rw[hr]at hq;exact hq.elim
  | ok n w2=>
   obtain⟨u,rfl⟩:=GX h5.1 hr;rw[hr]at hq;obtain⟨e1,e2⟩:=hq;rw[e1,e2]
structure aX (D:aj->Prop) where
 w:aj
 h:D w
def tO (i:av){f:av}{L:aL aU}{a:Act}{w:aj}{D:aj->Prop}(H:MP md ops ws L i=bl)
  (b: ∀(d:ax Tmp) v c a w,Q (.panic c) (a.put d v) w->Q (.panic c) a w) (e:eG ws D L w)
  (h: ∀K:Act->Prop,(∀A,eQ P md ops Q (eG ws D) f (L.setIfInBounds i bl) A w->K A)-> ∀o,ops[i]? =bt o->o.quiet P a (fun W=> ∃t:aj,W=t) K):
  eQ P md ops Q (eG ws D) (f+1) L a w:=
 sv H b (fun l W _ _ _=>⟨W,rfl⟩) e h
def aS (i:av){f:av}{L:aL aU}{a:Act}{w:aj}{D:aj->Prop}(H:Region.ready md ops L=[i])
  (h: ∀K:Act->aj->Prop,(∀A W,eG ws D (L.setIfInBounds i bl) W->eQ P md ops Q (eG ws D) f (L.setIfInBounds i bl) A W->K A W)->wpOp P ops Q i K a w):
  eQ P md ops Q (eG ws D) (f+1) L a w:=
 ⟨fun h0=>(by rw[H]at h0;cases h0),fun j hj=>by
  rw[H]at hj;obtain rfl:=Tv.1 hj
  exact h _ (fun A W h1 h2=>⟨h1,h2⟩)⟩
def eI {S:aL aU->aj->Prop}{L:aL aU}{a:Act}{w:aj}(hR:Region.ready md ops L=[]) (h:Q .normal a w): ∀f,eQ P md ops Q S f L a w
 | 0=>⟨hR,h⟩
 | _+1=>⟨fun _=>h,Eg⟩
def iH {id:av}{a:Act}{w:aj}(ws:aq av) (D:aj->Prop) (H:P.follows .mixedOrders=bl)
  (h: ∀W,W.heap=w.heap->jb w W->eQ P .any l.toArray Q (eG ws D) l (aL.replicate l aW) a W):(Code.region id l.toArray bl).wp P Q a w:=
 wp_region_any H (GY _ _ _ _ (by simpa using h {w with drawn:=w.drawn+1} rfl ⟨rfl,rfl,rfl,Mv _,fun _ _=>rfl⟩))
end
section
variable {P:Program}{ops:aL Oper}{Q:Exit->Act->aj->Prop}{md:Region.Mode}
def qN (md:Region.Mode) (ops:aL Oper) (ws:aq av) (L:aL aU) (i:av):aU:=
 Region.noSelect ops&&Region.free md ops L i&&(Region.ready md ops L).contains i&& !ws.contains i&&MQ md ops L
def eH (i:av){f:av}{L:aL aU}{a:Act}{w:aj}{D:aj->Prop}(g:(qN md ops ws L i&&(match ops[i]? with | some o=>yT o | none=>aW)&&ws.all fun j=>uH md ops 9 j i)=bl)
  (l: ∀(d:ax Tmp) v c a w,Q (.panic c) (a.put d v) w->Q (.panic c) a w) (k:D w)
  (p: ∀o,ops[i]? =bt o->Region.wanted o (yielded ops a.tmps)=bl)
  (h:Nonempty (aX D)-> ∀K:Act->Prop,(∀A,eQ P md ops Q (eG ws D) f (L.setIfInBounds i bl) A w->K A)-> ∀o,ops[i]? =bt o->o.quiet P a (fun W=> ∃t:aX D,W=t.w) K):
  eQ P md ops Q (eG ws D) (f+1) L a w:=by
 simp only[qN,Dt]at g;obtain⟨⟨⟨⟨⟨⟨h1,h2⟩,h3⟩,h4⟩,h6⟩,h5⟩,h7⟩:=g;cases ho:ops[i]? with
 | none=>rw[ho]at h5;cases h5
 | some oi=>
  rw[ho]at h5;obtain⟨v,q,r⟩:=h ⟨⟨w,k⟩⟩ _ (fun A s=>s) oi ho;have H:i∉ws:=by simpa using h4
  refine yU ho (Tp h1) (fun c a w=>l _ _ c a w) (fun y W=>vK H) (C:=fun W=> ∃t:aX D,W=t.w) (fun y W z B b=>⟨⟨W,b ?_⟩,rfl⟩) f L a w (Fm ho h2) (vJ h6) (by simpa using h3) ?_ (fun _=>k) r
  ·unfold qP;rw[Gc];intro j hj hl;have:=DO z 9 j (aq.all_eq_true.1 h7 j hj) hl;rw[B]at this;cases this
  refine .inl ⟨p oi ho,fun W e=> ?_⟩;have hq:=q W e;unfold Oper.quietAt at hq;cases hr:(execOp a.eval oi).run P W with
  | halt x w2=>rw[hr]at hq;exact hq.elim
  | ok n w2=>
   obtain⟨u,rfl⟩:=GX h5 hr;rw[hr]at hq;obtain⟨e1,e2⟩:=hq;rw[e1,e2]
def sR (i:av){o:Oper}{f:av}{L:aL aU}{a:Act}{w:aj}{D:aj->Prop}(b:ops[i]? =bt o) (e:qN md ops ws L i=bl)
  (g: ∀(d:ax Tmp) v c a w,Q (.panic c) (a.put d v) w->Q (.panic c) a w) (j:D w)
  (k:Region.wanted o (yielded ops a.tmps)=aW)
  (l:eQ P md ops Q (eG ws D) f (L.setIfInBounds i bl) (a.put o.dst bE) w):
  eQ P md ops Q (eG ws D) (f+1) L a w:=by
 simp only[qN,Dt]at e;obtain⟨⟨⟨⟨h1,h2⟩,h3⟩,h4⟩,h6⟩:=e;have H:i∉ws:=by simpa using h4
 exact yU b (Tp h1) (fun c a w=>g _ _ c a w) (fun n W=>vK H) (C:=fun _=>True) (fun _ _ _ _ _=>Py) f L a w (Fm b h2) (vJ h6) (by simpa using h3) (.inr ⟨k,rfl⟩) (fun _=>j) l
end
def z65 {ρ:Operand->bw}{o:Oper}{x:Operand}{w:aj}{n:Next}(h:o.op= .nilCheck x) (hr:(execOp ρ o).run P w= .ok n W): ∃u,n= .value u:=by
 unfold execOp at hr;rw[h]at hr;dsimp only at hr;split at hr
 ·simp[runtimePanic]at hr
 ·simp[runtimePanic]at hr
 ·simp[runtimePanic]at hr
 ·split at hr
  ·simp[runtimePanic]at hr
  ·have key: ∀ {α:Type}(s:Sem α) (f:α->Sem Next),(∀a w,(∃u w2,(f a).run P w= .ok (.value u) w2)\/ ∃c w2,(f a).run P w= .halt c w2)->(s>>= f).run P w= .ok n W-> ∃u,n= .value u:=by
    intro α s f H hr;rw[Sn]at hr;cases hs:s.run P w with
    | halt c w2=>rw[hs]at hr;simp at hr
    | ok a w2=>
     rw[hs]at hr;simp only[So]at hr;rcases H a w2 with⟨u,w3,e⟩ | ⟨c,w3,e⟩
     ·rw[e]at hr;injection hr with hr;exact⟨u,hr.symm⟩
     rw[e]at hr;cases hr
   refine key _ _ ?_ hr;intro p w
   have k: ∀ {α:Type}(s:Sem α) (f:α->Sem Next),(∀a w,(∃u w2,(f a).run P w= .ok (.value u) w2)\/ ∃c w2,(f a).run P w= .halt c w2)->(∃u w2,(s>>= f).run P w= .ok (.value u) w2)\/ ∃c w2,(s>>= f).run P w= .halt c w2:=by
    intro α s f H;rw[Sn];cases hs:s.run P w with
    | halt c w2=>exact .inr ⟨c,w2,ee⟩
    | ok a w2=>simp only[So];exact H a w2
   refine k _ _ ?_;intro b w3;split<;>simp[unsupported]
  exact ZH
 exact ZH
def QB (o:Oper):aU:=match o.op with
 | .nilCheck _=>bl
 | _=>aW
def FR (o:Oper):aU:=yT o || QB o
def z66 {ρ:Operand->bw}{o:Oper}(h:FR o=bl){w:aj}{n:Next}(H:(execOp ρ o).run P w= .ok n W): ∃u,n= .value u:=by
 rcases Gp _ _ ▸ h with h | h
 ·exact GX h H
 cases ho:o.op<;>simp[QB,ho]at h;exact z65 ho H
section
variable {P:Program}{ops:aL Oper}{Q:Exit->Act->aj->Prop}{md:Region.Mode}{ws:aq av}{D:aj->Prop}
def BD (o:Oper):aU:=match o.op with
 | .move _ | .assign _=>bl
 | _=>aW
def z67 {o:Oper}(h:BD o=bl) (ρ:Operand->bw): ∃x,∀w,(execOp ρ o).run P w= .ok (.value (ρ x)) w:=by
 cases ho:o.op<;>simp[BD,ho]at h
 ·exact⟨_,fun w=>by unfold execOp;rw[ho];rfl⟩
 exact⟨_,fun w=>by unfold execOp;rw[ho];rfl⟩
def tU (md:Region.Mode) (ops:aL Oper) (ws:aq av):aL aU->aq av->aU
 | _,[]=>bl
 | L,i::is=>qN md ops ws L i&&(match ops[i]? with | some o=>FR o&&((ws.all fun j=>uH md ops 9 j i) || BD o) | none=>aW)&&tU md ops ws (L.setIfInBounds i bl) is
def z68 (i:av){o:Oper}{f:av}{L:aL aU}{a:Act}{w:aj}(b:ops[i]? =bt o) (g:qN md ops ws L i=bl) (j:BD o=bl)
  (k: ∀(d:ax Tmp) v c a w,Q (.panic c) (a.put d v) w->Q (.panic c) a w) (l:D w)
  (n:Region.wanted o (yielded ops a.tmps)=bl){C:aj->Prop}(p:C w) (q: ∀w,C w->o.quietAt P a C w v)
  (r:eQ P md ops Q (eG ws D) f (L.setIfInBounds i bl) (a.put o.dst v) w):
  eQ P md ops Q (eG ws D) (f+1) L a w:=by
 simp only[qN,Dt]at g;obtain⟨⟨⟨⟨h1,h2⟩,h3⟩,h4⟩,h6⟩:=g;have H:i∉ws:=by simpa using h4
 obtain⟨x,hx⟩:=z67 (P:=P) j a.eval
 have e:a.eval x=v:=by
  have:=q w p;unfold Oper.quietAt at this;rw[hx]at this;exact this.2
 exact yU b (Tp h1) (fun c a w=>k _ _ c a w) (fun s W=>vK H) (C:=fun _=>True) (fun _ _ _ _ _=>Py) f L a w (Fm b h2) (vJ h6) (by simpa using h3) (.inl ⟨n,fun W _=>by rw[hx,e]⟩) (fun _=>l) r
def vI:aL aU->aq av->aL aU
 | L,[]=>L
 | L,i::is=>vI (L.setIfInBounds i bl) is
def eE (ops:aL Oper):aq av->aq Oper
 | []=>[]
 | i::is=>(ops[i]?).toList++eE ops is
def SA {i:av}{o:Oper}(is:aq av) (h:ops[i]? =bt o):eE ops (i::is)=o::eE ops is:=by simp[eE,h]
def z69 (i:av){o:Oper}{f:av}{L:aL aU}{a:Act}{w:aj}(g:ops[i]? =bt o) (k:qN md ops ws L i=bl) (l:FR o=bl) (p:(ws.all fun j=>uH md ops 9 j i)=bl)
  (q: ∀(d:ax Tmp) v c a w,Q (.panic c) (a.put d v) w->Q (.panic c) a w) (r:D w)
  (s:Region.wanted o (yielded ops a.tmps)=bl){C:aj->Prop}(t: ∀W,D W->C W) (y: ∀w,C w->o.quietAt P a C w v)
  (z:eQ P md ops Q (eG ws D) f (L.setIfInBounds i bl) (a.put o.dst v) w):
  eQ P md ops Q (eG ws D) (f+1) L a w:=by
 simp only[qN,Dt]at k;obtain⟨⟨⟨⟨h1,h2⟩,h3⟩,h4⟩,h6⟩:=k;have H:i∉ws:=by simpa using h4
 refine yU g (Tp h1) (fun c a w=>q _ _ c a w) (fun A W=>vK H) (C:=D) (fun A W B E b=>b ?_) f L a w (Fm g h2) (vJ h6) (by simpa using h3) ?_ (fun _=>r) z
 ·unfold qP;rw[Gc];intro j hj hl;have:=DO B 9 j (aq.all_eq_true.1 p j hj) hl;rw[E]at this;cases this
 refine .inl ⟨s,fun W e=> ?_⟩;have hq:=y W (t W e);unfold Oper.quietAt at hq;cases hr:(execOp a.eval o).run P W with
 | halt x w2=>rw[hr]at hq;exact hq.elim
 | ok n w2=>
  obtain⟨u,rfl⟩:=z66 l hr;rw[hr]at hq;obtain⟨e1,e2⟩:=hq;rw[e1,e2]
def pH {C:aj->Prop}(g: ∀(d:ax Tmp) v c a w,Q (.panic c) (a.put d v) w->Q (.panic c) a w) (j: ∀W,D W->C W): ∀(is:aq av){n:av}{L:aL aU}{a:Act}{w:aj},tU md ops ws L is=bl->D w->is.length<=n->
  wpQuiet P ops C (fun A=>eQ P md ops Q (eG ws D) (n-is.length) (vI L is) A w) (eE ops is) a->eQ P md ops Q (eG ws D) n L a w
 | [],n,L,a,w,_,_,_,h=>h
 | i::is,n,L,a,w,b,hS,hi,h=>by
  rw[tU,Dt]at b;obtain⟨b,k⟩:=b;obtain⟨m,rfl⟩: ∃m,n=m+1:=⟨n-1,by simp at hi;omega⟩;cases ho:ops[i]? with
  | none=>simp[ho]at b
  | some o=>
   rw[SA is ho,wpQuiet]at h;have e:m+1-(i::is).length=m-is.length:=ee;rw[e]at h;have f:is.length<=m:=Og;simp only[ho,Dt]at b;obtain⟨b,p,H⟩:=b;cases hw:Region.wanted o (yielded ops a.tmps)with
   | true=>
    rw[Np hw]at h;obtain⟨v,l,hi⟩:=h;rcases Gp _ _ ▸ H with H | H
    ·exact z69 i ho b p H g hS hw j l (pH g j is k hS f hi)
    exact z68 i ho b H g hS hw (j _ hS) l (pH g j is k hS f hi)
   | false=>
    rw[Nm (by rw[hw];decide)]at h;exact sR i ho b g hS hw (pH g j is k hS f h)
def vU (md:Region.Mode) (ops:aL Oper) (ws:aq av):aL aU->aq av->aU
 | L,[]=>(Region.ready md ops L).isEmpty
 | L,i::is=>Region.ready md ops L==[i]&&qP ws (L.setIfInBounds i bl)&&vU md ops ws (L.setIfInBounds i bl) is
def pG: ∀(is:aq av){n:av}{L:aL aU}{a:Act}{w:aj},vU md ops ws L is=bl->is.length<=n->wpList P ops Q (eE ops is) a w->eQ P md ops Q (eG ws D) n L a w
 | [],n,L,a,w,hB,_,h=>eI (by simpa [vU]using hB) h n
 | i::is,n,L,a,w,hB,hn,h=>by
  simp only[vU,Dt,Da]at hB;obtain⟨⟨b,e⟩,f⟩:=hB;obtain⟨m,rfl⟩: ∃m,n=m+1:=⟨n-1,by simp at hn;omega⟩;refine⟨fun h0=>(by rw[b]at h0;cases h0),fun j hj=> ?_⟩;obtain⟨-,o,c,-⟩:=mem_ready.1 hj;rw[b]at hj;obtain rfl:=Tv.1 hj;rw[SA is c,wpList]at h;unfold wpOp;rw[c]
  have d: ∀A W,wpList P ops Q (eE ops is) A W->eG ws D (L.setIfInBounds j bl) W/\eQ P md ops Q (eG ws D) m (L.setIfInBounds j bl) A W:=fun A W h'=>
   ⟨fun h0=>(by rw[e]at h0;cases h0),pG is f (by simpa using hn) h'⟩
  show if Region.wanted o (yielded ops a.tmps)=bl then _ else _;split at h
  ·rename_i H
   rw[Np H];exact h.imp (fun h=>Oper.wp_mono d h) id
  rename_i H
  rw[Nm H];exact d _ _ h
def FQ {C:aj->Prop}{K k:Act->Prop}(H: ∀a,K a->k a): ∀(l:aq Oper) (a:Act),wpQuiet P ops C K l a->wpQuiet P ops C k l a
 | [],a,h=>H a h
 | o::l,a,h=>by
  rw[wpQuiet]at h ⊢;split at h
  ·rename_i b
   rw[Np b];obtain⟨v,c,d⟩:=h;exact⟨v,c,FQ H l _ d⟩
  rename_i b
  rw[Nm b];exact FQ H l _ h
def z7a {id:av}{a:Act}{w:aj}(is js:aq av) (f:P.follows .mixedOrders=bl) (g: ∀(d:ax Tmp) v c a w,Q (.panic c) (a.put d v) w->Q (.panic c) a w)
  (H:(tU .any l.toArray (js.take 1) (aL.replicate l aW) is&&vU .any l.toArray (js.take 1) (vI (aL.replicate l aW) is) js&&ab (is.length+js.length<=l.length))=bl)
  (h: ∀V,jb w V->wpQuiet P l.toArray (fun b=> ∃_:Unit,b=V) (fun A=>wpList P l.toArray Q (eE l.toArray js) A V) (eE l.toArray is) a):(Code.region id l.toArray bl).wp P Q a w:=by
 simp only[Dt,Dr]at H;refine wp_region_any f (GY (S:=eG (js.take 1) (fun W=>W={w with drawn:=w.drawn+1})) _ _ _ _ ?_);refine pH (C:=fun b=> ∃_:Unit,b={w with drawn:=w.drawn+1}) g (fun b h=>⟨(),h⟩) is (by simpa using H.1.1) rfl em ?_;have i:=h {w with drawn:=w.drawn+1} ⟨rfl,rfl,rfl,Mv _,fun _ _=>rfl⟩;refine FQ (fun A e=>pG js (by simpa using H.1.2) (by rw[show l.toArray.size=l.length from rfl];omega) e) _ _ i
def FP (l:aq Oper): ∀(n s:av),s+n<=l.length->eE l.toArray (aq.range' s n)=(l.drop s).take n
 | 0,s,_=>by simp[eE]
 | n+1,s,h=>by
  have H:s<l.length:=ed
  rw[aq.range'_succ,eE,FP l n (s+1) ed,Pz H,aq.take_succ_cons];simp[H]
def yM {id:av}{a:Act}{w:aj}(k:av) (e:P.follows .mixedOrders=bl) (f: ∀(d:ax Tmp) v c a w,Q (.panic c) (a.put d v) w->Q (.panic c) a w)
  (b:(tU .any l.toArray [k] (aL.replicate l aW) (aq.range' 0 k)&&vU .any l.toArray [k] (vI (aL.replicate l aW) (aq.range' 0 k)) (aq.range' k (l.length-k))&&ab (k<l.length))=bl)
  (h: ∀V,jb w V->wpQuiet P l.toArray (fun W=> ∃_:Unit,W=V) (fun A=>wpList P l.toArray Q (l.drop k) A V) (l.take k) a):(Code.region id l.toArray bl).wp P Q a w:=by
 simp only[Dt,Dr]at b;have e1:=FP l k 0 ed;have e2:=FP l (l.length-k) k ed;rw[aq.drop_zero]at e1;rw[Sk ee]at e2;obtain⟨m,H⟩: ∃m,l.length-k=m+1:=⟨l.length-k-1,ed⟩;refine z7a (aq.range' 0 k) (aq.range' k (l.length-k)) e f ?_ (by rw[e1,e2];exact h);have e3:(aq.range' k (l.length-k)).take 1=[k]:=by rw[H,aq.range'_succ];rfl
 simp only[e3,Dt,Dr];exact⟨b.1,em⟩
abbrev Gw (w:aj):=aX (cB w w)
def Gw.cel {w:aj}(t:Gw w){a:bR}(h:w.cell? a=bt v):t.w.cell? a=bt v:=(t.h.cell (Mt h)).trans h
def Gw.lt {w:aj}(t:Gw w){b:av}(h:b<w.heap.size):b<t.w.heap.size:=Nl h t.h.size
end
def zB (is:aq av){D:aj->Prop}{L:aL aU}{a:Act}{w:aj}{N:Prop}(hS:D w) (h:N)
  (s:Nonempty (aX D)->Bx N->wpQuiet P ops (fun w'=> ∃t:aX D,w'=t.w) (fun a'=>eQ P md ops Q (eG ws D) (n-is.length) (vI L is) a' w) (eE ops is) a:=by
   intro ne k;simp only[eE,aq.getElem?_toArray,aq.getElem?_cons_zero,aq.getElem?_cons_succ,ax.toList_some,aq.cons_append,aq.nil_append];(repeat (first | go_big_quiet_skip | (go_big_quiet_want;go_big_quiet_op;go_big_quiet_on)));exact cl k.o)
  (hB:tU md ops ws L is=bl:=by kernel_rfl) (hQ: ∀(d:ax Tmp) v c a w,Q (.panic c) (a.put d v) w->Q (.panic c) a w:=by(intro d v c a w h;first | (cases d<;>exact h) | cases h.1)) (hn:is.length<=n:=by simp):eQ P md ops Q (eG ws D) n L a w:=
 pH hQ (fun w' h=>⟨⟨w',h⟩,rfl⟩) is hB hS hn (s ⟨⟨w,hS⟩⟩ ⟨h⟩)
def zK (i:av){D:aj->Prop}{L:aL aU}{a:Act}{w:aj}{N:Prop}{o:Oper}{f:FuncId}(hS:D w)
  (hC: ∀W,D W->Calls P f args W fun e w'=>e=cL v/\w'=W) (h:N)
  (ho:l[i]? =bt o:=by rfl) (hx: ∀W,(execOp a.eval o).run P W= .ok (.enter f args) W:=by(intro W;simp[go_sem]))
  (s:Bx N->eQ P md l.toArray Q (eG ws D) n (L.setIfInBounds i bl) (a.put o.dst v) w:=by(intro k;(conv=>arg 8;simp[cq]);exact k.o))
  (hg:Region.wanted o (yielded l.toArray a.tmps)=bl:=by kernel_rfl)
  (hB:(qN md l.toArray ws L i&&ws.all fun j=>uH md l.toArray 9 j i)=bl:=by kernel_rfl) (hQ: ∀(d:ax Tmp) v c a w,Q (.panic c) (a.put d v) w->Q (.panic c) a w:=by(intro d v c a w h;first | (cases d<;>exact h) | cases h.1)):eQ P md l.toArray Q (eG ws D) (n+1) L a w:=by
 replace ho:l.toArray[i]? =bt o:=by simpa using ho
 simp only[qN,aU.and_eq_true]at hB;obtain⟨⟨⟨⟨⟨h1,h2⟩,h3⟩,h4⟩,h6⟩,hR⟩:=hB;have hcon:i∉ws:=by simpa using h4
 refine ycj ho (Region.noSelect_spec h1) (fun c a w=>hQ _ _ c a w) (fun L' w'=>vK hcon) (C:=D) (fun L' w' hL hi hS'=>hS' ?_) n L a w (Region.free_spec ho h2) (vJ h6) (by simpa using h3) ⟨hg,fun W hW=>⟨f,args,hx W,hC W hW⟩⟩ (fun _=>hS) (s ⟨h⟩);unfold qP;rw[aq.any_eq_false];intro j hj hl;have:=DO hL 9 j (aq.all_eq_true.1 hR j hj) hl;rw[hi]at this;cases this
def z5a {i:av}{o:Oper}{a:Act}{w:aj}(h:ops[i]? =bt o) (hgd:o.guard=bn) (x:Operand) (H:o.op= .load 171 x)
  (g:av) (hx:a.eval x=cY (bt ⟨g,0,bn⟩)) (t:bT) (cs:aL bw) (fr:av × av) (b:w.heap[g]? =bt (cO cs t fr))
  (c:(prog.info? 171).map (·.size)=bt cs.size)
  (d:K (a.put o.dst (cZ cs)) w):wpOp prog ops Q i K a w:=by
 unfold wpOp;rw[h];have e:Region.wanted o (yielded ops a.tmps)=bl:=by simp[Region.wanted,hgd]
 simp only[e,Hq];exact .inl (Ha 171 x H g hx t cs fr _ b underlying171 rfl c d)
def kG {i:av}{o:Oper}{a:Act}{w:aj}(h:ops[i]? =bt o) (hgd:o.guard=bn) (ty:bT) (x y:Operand) (H:o.op= .store ty x y)
  (g:av) (cells:aL bw) (hx:a.eval x=cY (bt ⟨g,0,bn⟩)) (b:a.eval y=cZ cells)
  (t:bT) (old:aL bw) (c:jk w g old t) (d:(prog.info? ty).map (·.size)=bt cells.size)
  (hold:old.size=cells.size) (h1:cells.all (·.oneCell')=bl)
  (e:K (a.put o.dst bE) (w.setRow g cells)):wpOp prog ops Q i K a w:=by
 unfold wpOp;rw[h];have f:Region.wanted o (yielded ops a.tmps)=bl:=by simp[Region.wanted,hgd]
 simp only[f,Hq];exact .inl (wp_store_row ty x y H g cells hx b t old c d hold h1 e)
def zD (ws:aq av){id:av}{a:Act}{w:aj}
  (h: ∀V,jb w V->eQ P .any l.toArray Q (eG ws (cB w w)) l (aL.replicate l aW) a V) (hm:P.follows .mixedOrders=bl:=by kernel_rfl):(Code.region id l.toArray bl).wp P Q a w:=
 iH ws (cB w w) hm fun V _ hV=>by
  have:=h V hV
  simpa using this
def zA (i j:av) (T:bT) (cs C:aL bw){D:aj->Prop}{L:aL aU}{a:Act}{w:aj}{N:av->aj->Prop}(hD: ∀W,jb w W->D W)
  (h: ∀g W,w.heap.size<=g->jb w W->jk W g C T->N g W)
  (hi:l[i]? =bt oi:=by rfl) (hj:l[j]? =bt oj:=by rfl) 
  (s: ∀g W,Bx (N g W)->Q .normal ((a.put oi.dst (jp g 0)).put oj.dst bE) W:=by(intro g W k;simp only[cq,aq.setIfInBounds_toArray,aq.set_cons_zero,aq.set_cons_succ];exact k.o))
  (hx:(execOp a.eval oi).run prog w= .ok (.value (jp w 0)) (w.alloc (cO cs T)):=by(simp[go_sem];try rfl))
  (hr:Region.ready md l.toArray L=[i]:=by kernel_rfl) (hg:Region.wanted oi (yielded l.toArray a.tmps)=bl:=by kernel_rfl)
  (ho:oj.op= .store T xp xv:=by rfl) (hgj:oj.guard=bn:=by rfl) (hr2:Region.ready md l.toArray (L.setIfInBounds i bl)=[j]:=by kernel_rfl) (hr3:Region.ready md l.toArray ((L.setIfInBounds i bl).setIfInBounds j bl)=[]:=by kernel_rfl)
  (hp:(a.put oi.dst (jp w 0)).eval xp=cY (bt ⟨w,0,bn⟩):=by rfl) (hv:(a.put oi.dst (jp w 0)).eval xv=cZ C:=by rfl)
  (hsz:(prog.info? T).map (·.size)=bt C.size:=by kernel_rfl) (hcs:cs.size=C.size:=by rfl) (h1:C.all (·.oneCell')=bl:=by simp[bw.oneCell']):
  eQ prog md l.toArray Q (eG [j] D) (n+2) L a w:=by
 replace hi:l.toArray[i]? =bt oi:=by simpa using hi
 replace hj:l.toArray[j]? =bt oj:=by simpa using hj
 have hg1:=heap_alloc_new w (cO cs T);have hb1:jb w (w.alloc (cO cs T)):=aR;refine aS i hr ?_;intro K hK;unfold wpOp;rw[hi];show if Region.wanted oi (yielded l.toArray a.tmps)=bl then _ else _;rw[if_pos hg];left;unfold Oper.wp;rw[hx];refine hK _ _ (fun _=>hD _ hb1) ?_;refine aS j hr2 ?_;intro K hK;refine kG hj hgj T xp xv ho w C hp hv T cs hg1 hsz hcs h1 ?_;refine hK _ _ (fun h=> ?_) ?_
 ·have h0:=(mem_ready.1 (show j∈Region.ready md l.toArray (L.setIfInBounds i bl)by rw[hr2];exact aq.mem_cons_self)).1
  have hlt:j<(L.setIfInBounds i bl).size:=by
   rcases av.lt_or_ge j (L.setIfInBounds i bl).size with h' | h'
   ·exact h'
   simp[aL.getElem?_eq_none h']at h0
  simp[qP]at h;exact cv h (by simp at hlt;omega)
 exact eI hr3 (s w ((w.alloc (cO cs T)).setRow w C) ⟨h _ _ (av.le_refl _) ⟨rfl,rfl,rfl,by simp[aj.setRow],fun k hk=>(setRow_other _ _ _ _ (by omega)).trans (hb1.block k hk)⟩ (setRow_heap _ _ _ _ _ _ hg1)⟩) _
def zS (j:av) (T:bT) (C:aL bw){D:aj->Prop}{L:aL aU}{a:Act}{w:aj}{N:Prop}{old:aL bw}(hg:jk w g old T) (h:N)
  (hj:l[j]? =bt oj:=by rfl) (s:Bx N->Q .normal (a.put oj.dst bE) (w.setRow g C):=by(intro k;simp only[cq];exact k.o))
  (ho:oj.op= .store T xp xv:=by rfl) (hgj:oj.guard=bn:=by rfl) (hr:Region.ready md l.toArray L=[j]:=by kernel_rfl) (hr3:Region.ready md l.toArray (L.setIfInBounds j bl)=[]:=by kernel_rfl)
  (hp:a.eval xp=cY (bt ⟨g,0,bn⟩):=by rfl) (hv:a.eval xv=cZ C:=by rfl)
  (hsz:(prog.info? T).map (·.size)=bt C.size:=by kernel_rfl) (hcs:old.size=C.size:=by rfl) (h1:C.all (·.oneCell')=bl:=by simp[bw.oneCell']):
  eQ prog md l.toArray Q (eG [j] D) (n+1) L a w:=by
 replace hj:l.toArray[j]? =bt oj:=by simpa using hj
 refine aS j hr ?_;intro K hK;refine kG hj hgj T xp xv ho g C hp hv T old hg hsz hcs h1 ?_;refine hK _ _ (fun h=> ?_) ?_
 ·have h0:=(mem_ready.1 (show j∈Region.ready md l.toArray L by rw[hr];exact aq.mem_cons_self)).1
  have hlt:j<L.size:=by
   rcases av.lt_or_ge j L.size with h' | h'
   ·exact h'
   simp[aL.getElem?_eq_none h']at h0
  simp[qP,hlt]at h
 exact eI hr3 (s ⟨h⟩) _
