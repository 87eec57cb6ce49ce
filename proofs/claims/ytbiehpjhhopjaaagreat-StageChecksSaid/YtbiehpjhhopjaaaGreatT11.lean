/- Walks and plain laws for the statement. -/
import Derived.Test.YtbiehpjhhopjaaaGreatT9
set_option linter.all false
set_option maxRecDepth 100000
set_option maxHeartbeats 16000000
namespace Go.Proofs.YtbiehpjhhopjaaaGreat
open Go.RowKit Go.Sort Tryz
variable {W w:World}{a:Act}{b l:List Int}{Q:Exit->Act->World->Prop}{ops:Array Oper}{c g i:Nat}{K:Act->World->Prop}{rest:List Oper}
def nJ (n:Nat):Nat:=(119-n % 64) % 64
def jS (b:List Int) (j:Nat):List Int:=b++128::List.replicate j 0
def vQ (b:List Int) (j:Nat):(jS b j).length=b.length+1+j:=by simp[jS];omega
def OR (b:List Int) (j:Nat):jS b (j+1)=jS b j++[0]:=by
 rw[jS,jS,Dk,Nz,List.replicate_succ']
def gH (n:Nat):Nat->List Int
 | 0=>[]
 | m+1=>((n / 256 ^ m % 256:Nat):Int)::gH n m
def qS (n:Nat): ∀m,(gH n m).length=m
 | 0=>rfl
 | m+1=>by rw[gH,Du,qS n m]
def iB (b:List Int):List Int:=jS b (nJ b)++gH (8 * b.length) 8
def sN (n q:Nat):List Int:=List.replicate q 0++gH n (8-q)
def yz (n q:Nat):(sN n (q+1))[q]? =some 0:=by
 rw[sN,Pd ee];simp
def yx (n q:Nat) (h:q<8):(sN n (q+1)).set q ((n / 256 ^ (8-(q+1)) % 256:Nat):Int)=sN n q:=by
 rw[sN,sN,show 8-q=(8-(q+1))+1 by omega,gH,List.replicate_succ',Dk,Hj _ _ ee];simp
def sC (n q:Nat):Array Value:=((sN n q).map (Value.int .u8)).toArray
def yw (n q:Nat):(sC n (q+1))[q]? =some (.int .u8 0):=by
 have:=yz n q;simp[sC,this]
def yv (n q:Nat) (h:q<8):(sC n (q+1)).setIfInBounds q (.int .u8 ((n / 256 ^ (8-(q+1)) % 256:Nat):Int))=sC n q:=by
 rw[sC,sC,<-yx n q h];simp[List.map_set]
def yu (n q:Nat) (h:q<8):n / 256 ^ (8-(q+1)) / 256=n / 256 ^ (8-q):=by
 rw[He,<-Hd,show(8-(q+1)).succ=8-q by omega]
def yr:Array Value:=#[.int .u8 0,.int .u8 0,.int .u8 0,.int .u8 0,.int .u8 0,.int .u8 0,.int .u8 0,.int .u8 0]
def yq (w:World):Sem.run prog (Instr.makeSlice 22 (jV 8) (jV 8)) w= .ok (jq w 0 8 8) (w.alloc (.cells yr 5)):=by kernel_rfl
theorem yn (b:List Int) (a:Option Addr) (c:Nat) (w:World) (hl:aB w 1 dG a c b) (b2:b.length<=6000):
  jW 336 #[js a b c] w fun e a4=> ∃a5 a6,e= .returned (js a5 (iB b).length a6)/\cM a4 w (js a5 (iB b).length a6) (iB b)/\jb w a4:=by
 refine Ka fun H1=>?_;clear hl;go_in;go_upto_region 3 with(at_builtin;refine vV rfl _ _ rfl rfl rfl (FU 22 (H1 _ Qy) ed) ?_;intro b3 c1 W1 ho hb);refine Qa fun K1 O=>?_;have h1:=hb.size;clear ho hb;go_upto_region 4 with(at_builtin;refine nK rfl _ _ 22 5 5 _ 1 1 rfl underlying22 nD rfl eh eh w (js b3 b c1) b _ rfl O ed h1 [.int .u8 128] rfl rfl (tY 128) ?_;intro b8 c8 W2 n6 s);have K2:=hI ((K1.alloc h1 _).trans (dT (O.alloc _) ep em s));obtain⟨F,hF⟩: ∃F:Nat->List Int,F=fun m=>jS b (m-(b.length+1)):=⟨_,rfl⟩
 have HF0:Hid (W2.ownsRow w 5 1 (jq b8 0 (b.length+1) c8) (b.length+1) ((F (b.length+1)).flatMap dR)):=by
  exact YP
 have L:Hid (∀m,b.length+1<=m->F (m+1)=F m++[0]):=fun m b2=>by
  exact Ra
 obtain⟨M,hM⟩: ∃M,M=b.length+1+nJ b:=⟨_,rfl⟩
 have A:Hid (iB b=F M++gH (8 * b.length) 8):=by
  exact Rh
 have P:Hid ((F M).length=M):=by
  exact Rm
 have HM1:Hid (b.length+1<=M/\M<=7000/\M % 64=56/\ ∀m,b.length+1<=m->m<M->m % 64≠56):=by
  unfold nJ at hM;exact⟨ed,ed,ed,fun m h1 h2=>by omega⟩
 clear hF hM n6 s O K1 h1;go_loopg [3] (M-(b.length+1)) (fun g r wr=> ∃(m:Nat) (B:Option Addr) (d:Nat),b.length+1<=m/\m<=M/\g=M-m/\r= .slice B m d/\jb w wr/\wr.ownsRow w 5 1 (js B m d) m ((F m).flatMap dR))
 ·exact Mm
 obtain⟨m,B,d,l,Q,rfl,rfl,G9,a7⟩:=hrel;have J:=hI G9;have R:=hI a7;have f:=G9.size;have b4:=HM1.2.1;clear G9 a7;by_cases t:m<M
 ·have b5:=HM1.2.2.2 m l t;have hd:(((m:Int) % 64:Int) != 56)=true:=em;have b6:=hI (L m l);have HL:=hI t;have C:=hI l;clear t l Q;go_wp2_with (at_builtin;refine nK rfl _ _ 22 5 5 _ 1 1 rfl underlying22 nD rfl eh eh w (js B m d) m _ rfl R Qm f [.int .u8 0] rfl rfl (tY 0) ?_;intro b9 K w9 H k);have v:=(J.alloc f _).trans (dT (R.alloc _) ep em k)
  have U:w9.ownsRow w 5 1 (jq b9 0 (m+1) K) (m+1) ((F (m+1)).flatMap dR):=by
   rw[b6.o,Dg];exact H
  go_roundg (M-(m+1))
  ·have:=HL.o;have:=C.o;go_light;exact⟨m+1,some ⟨b9,0,none⟩,K,ed,ed,rfl,rfl,v,U⟩
  have:=HL.o;go_light;omega
 obtain rfl:m=M:=ed;have hd:(((m:Int) % 64:Int) != 56)=false:=(by have:=HM1.2.2.1;simp;omega);have V:=yq wr;go_wp2_with fail;refine Qq fun b7 z=>?_;have c0:=hI (jG z);have RT:Hid (jk b7 wr (sC (8 * b.length) 8) 5):=(by show _=_;rw[<-z];exact Nc _ _);clear z V;have D:=hI f;generalize X:wr=a8 at *;clear X;generalize a9:a8.heap.size=T at *;have HRL:=hI a9;have c2:Hid (8 * (b:Int)=((8 * b.length / 256 ^ (8-8):Nat):Int)):=(by show _=_;simp);clear a9 f;go_loopg [4,6] 8 (fun g n i wr=> ∃(q:Nat) (x:Int),q<=8/\g=q/\n= jV ((8 * b.length / 256 ^ (8-q):Nat):Int)/\i= jV x/\x=(q:Int)-1/\Below T a8 wr/\jk wr T (sC (8 * b.length) q) 5)
 ·exact⟨8,7,Mv _,rfl,by rw[<-c2.o],rfl,rfl,c0,RT⟩
 obtain⟨q,x,hq,c3,rfl,rfl,hx,G9,E⟩:=hrel;obtain rfl:=c3.symm;rcases q with _ | q
 ·obtain rfl:x= -1:=ed;have c4:decide ((0:Int)<=(-1:Int))=false:=eh;generalize 8 * b.length / 256 ^ (8-0)=n9 at *;have b0:=bU R Ox;have f:=Nj D (by rw[<-HRL.o];exact G9.size)
  have Y:=hI fun(j:Nat) (u:Value) (hj:((gH (8 * b.length) 8).flatMap dR)[j]? =some u)=>(show wr.cell? ((⟨T,0,none⟩:Addr).add j)=some u from by
   rw[oB];refine(Mu wr T j _ _ _ E).trans ?_;rw[sC,sN,List.replicate_zero,Dd,<-hj,show(gH (8 * b.length) 8).flatMap dR=(gH (8 * b.length) 8).map (Value.int .u8)from(Td ..).symm]
   simp)
  have HE:Hid ((iB b).length=m+8):=(by show _=_;rw[A.o,Mx,P.o,qS]);have G:=hI b0;have Z:=hI (J.trans (G9.mono D));clear b0 E G9 hx hq;go_wp2_with (at_builtin;obtain⟨i0,c5,a0,a1,a2⟩:=Se nD;refine wpList_append_own_at _ rfl _ _ 22 rfl w 5 i0 _ 1 1 underlying22 c5 a0 a1 a2 rfl eh (js B m d) m ((F m).flatMap dR) rfl G ⟨T,0,none⟩ 8 8 ((gH (8 * b.length) 8).flatMap dR) rfl rfl Y (fun u c6=>by obtain⟨y,-,c7⟩:=Su.1 c6;exact yW y u c7) Oq ed f ?_;intro v9 w9 H k _ _);have I:=hI H;have H0:=hI k;clear H k;have c9:=Z.trans (dT G ep f H0);obtain⟨d0,K,rfl⟩:=iG I;go_ret;exact⟨d0,K,ew,by rw[cM,HE.o,A.o,Dg];exact I,c9⟩
 obtain rfl:x=(q:Int):=ed;have hd:decide ((0:Int)<=(q:Int))=true:=ee;have d1:=hI (yv (8 * b.length) q ed);have HP:=hI (yu (8 * b.length) q ed)
 have d2:((8 * b.length / 256 ^ (8-(q+1)):Nat):Int)<=48000:=by
  have:=Ik (8 * b.length) (256 ^ (8-(q+1)));omega
 have x0:=(Mu wr T q _ _ _ E).trans (yw _ q);refine Qw fun _=>?_;have J:=hI G9;have b1:=hI E;have d3:=hI hq;have d4:(q:Int)<8:=ed;generalize 8 * b.length / 256 ^ (8-(q+1))=N at *;have fz:=uE b1 q;have d5:((N:Int) % 256) % 256=((N % 256:Nat):Int):=ed;clear G9 E hx hq;go_wp2_with fail;have v:=J.setCell (p:=⟨T,q,none⟩) ep (.int .u8 ((N:Int) % 256));have a3:=(uD (o:=q) (u:= .int .u8 ((N:Int) % 256)) b1).trans (by rw[show((N:Int) % 256)=((N % 256:Nat):Int)from rfl,d1.o]);go_roundg q
 ·have:=d3.o;go_light;exact⟨q,(q:Int)-1,ed,rfl,XU,rfl,rfl,v,a3⟩
 go_light;omega
def kQ (l:List Int):Nat->V8
 | 0=>oL
 | k+1=>qX (kQ l k) (kW l (64 * k))
def OQ (b:List Int): ∃n,(iB b).length=64 * n:=by
 refine⟨(b.length+1+nJ b+8) / 64,?_⟩;rw[iB,Mx,vQ,qS];unfold nJ;omega
def OP (h:aO b):aO (iB b):=by
 intro x hx;rw[iB,jS]at hx;simp only[Tx,Dv,List.mem_replicate]at hx;rcases hx with(hx | rfl | ⟨-,rfl⟩) | hx
 ·exact h x hx
 ·decide
 ·decide
 have: ∀n m,x∈gH n m->0<=x/\x<=255:=by
  intro n m
  induction m with
  | zero=>intro h;cases h
  | succ m i=>
   intro h;rw[gH]at h;rcases Dv.1 h with rfl | h
   ·omega
   exact i h
 exact this _ _ hx
def rY (h:V8) (i:Nat):Int:=(((fC ((cZ h).getD (i / 4) 0) (24-8 * (i % 4))).toNat % 256:Nat):Int)
def oH (h:V8) (k:Nat):List Int:=(List.range 32).map fun i=>if i<k then rY h i else 0
def kR (h:V8) (k:Nat):Array Value:=((oH h k).map (Value.int .u8)).toArray
def vP (h:V8) (k:Nat):(kR h k).size=32:=by simp[kR,oH]
def ym (h:V8) (k:Nat) (H:k<32):(kR h k)[k]? =some (.int .u8 0):=by simp[kR,oH,H]
def yl (h:V8) (k:Nat) (H:k<32):(kR h k).setIfInBounds k (.int .u8 (rY h k))=kR h (k+1):=by
 apply Ip;apply Fd;intro i;simp only[kR,oH,Fh,If,Pn,Gy,Pp];by_cases e:k=i
 ·subst e;simp[H]
 by_cases h8:i<32
 ·simp[e,h8];by_cases h3:i<k
  ·rw[Np h3,Np ed]
  rw[Nm h3,Nm ed]
 simp[e,h8]
def yk (h:V8):kR h 0=kR oL 0:=by simp[kR,oH]
def FH:kR oL 0=#[.int .u8 0,.int .u8 0,.int .u8 0,.int .u8 0,.int .u8 0,.int .u8 0,.int .u8 0,.int .u8 0,.int .u8 0,.int .u8 0,.int .u8 0,.int .u8 0,.int .u8 0,.int .u8 0,.int .u8 0,.int .u8 0,.int .u8 0,.int .u8 0,.int .u8 0,.int .u8 0,.int .u8 0,.int .u8 0,.int .u8 0,.int .u8 0,.int .u8 0,.int .u8 0,.int .u8 0,.int .u8 0,.int .u8 0,.int .u8 0,.int .u8 0,.int .u8 0]:=by kernel_rfl
theorem yj (b:List Int) (a:Option Addr) (c:Nat) (w:World) (hl:aB w 1 dG a c b) (L:aO b) (b5:b.length<=6000):
  jW 244 #[js a b c] w fun e b6=> ∃n,(iB b).length=64 * n/\e= .returned (.agg (kR (kQ (iB b) n) 32))/\jb w b6:=by
 obtain⟨n,a1⟩:=OQ b;have M:=hI (OP L);have O:=hI fun W (hb:jb w W)=>yn b a c W (hl.below fS hb) b5
 have G9:64 * n<=6200:=by
  rw[<-a1,iB,Mx,vQ,qS];unfold nJ;omega
 have a7:=hI a1;clear hl L a1;go_in;go_upto_region 1 with fail;generalize z:World.alloc _ _=W0;have K1:=hI (jG z)
 have R0:Hid (jk W0 w (kR oL 0) 217):=by show _=_;rw[<-z,FH];exact Ud
 clear z;go_upto_region 2 with(go_at_call 336;refine(O W0 K1).mono ?_;refine Ou fun _ b7 c1 a8 A=>?_);have d4:=jh K1 A;have B1:=hI A;have P:=hI (cM.sl a8);clear a8 A;go_upto_region 3 with(first | (go_at_call 337;refine(z6w _).mono ?_;refine Qe fun K B=>?_) | (refine bP rfl 381 (.tmp 4) (.tmp 10) rfl K (bT oL) _ 381 rfl rfl Oa Vp (by rw[iO];rfl) (sT _) ?_;rw[World.setRow_alloc_new]))
 refine Qq fun _ C=>?_;have R3:=hI (jA C)
 have B3:=hI (jG C)
 have Q:=hI (P.below fS B);have B2:=hI (jo B1 B);clear C B P B1 O;have HRL:=hI a7.o;obtain⟨l,s⟩: ∃l,l=iB b:=⟨_,rfl⟩;rw[<-s]at HRL Q M;rw[<-s];have H0:=hI s;clear s;have R:=hI fun(x:V8) (q:Nat) W (a2:jb K W) (hq:q+64<=l.length)=>z4g x l b7 c1 q W (Q.below fS a2) M hq (by rw[HRL.o];omega);generalize a3:l.length=N at *;clear a3;have b8:N<=6200:=Ox
 generalize a9:K.heap.size=G at *;have a4:=hI a9;clear a9;go_wp2_with fail;go_loopg [5] n (fun g i wr=> ∃(k q:Nat),k<=n/\g=n-k/\q=64 * k/\i= jV q/\Below G K wr/\jk wr G (bT (kQ l k)) 381)
 ·exact⟨0,0,Pe _,rfl,rfl,rfl,B3,R3⟩
 obtain⟨k,q,b9,rfl,hq,rfl,hb,ho⟩:=hrel;refine Qa fun U b0=>?_;by_cases f:k<n
 ·have D:q+64<=N:=(by rw[HRL.o];omega);have hd:decide ((q:Int)<(N:Int))=true:=em;have c0:(q:Int)<(N:Int):=ed;have HLT:=hI f;have c2:=hI hq;have c3:=hI fun W (a2:Below G K W)=>R (kQ l k) q W a2 D;have HV:Hid (kQ l (k+1)=qX (kQ l k) (kW l q)):=(by show _=_;rw[hq];rfl);clear hb ho f hq;have d:=b0.o;generalize qX (kQ l k) (kW l q)=z2 at *;generalize kQ l k=z1 at *;go_upto_region 5 with(first | (refine Dx rfl 381 (.tmp 4) rfl G rfl 381 (bT z1) (0,0) _ d underlying381 rfl Vp ?_;simp[Act.put]) | (go_at_call 338;refine(c3 wr U).mono ?_;refine Qe fun W5 E=>?_;have F:=(E.block G (aD d)).trans d) | (refine bP rfl 381 (.tmp 4) (.tmp 20) rfl G (bT z2) _ 381 rfl rfl F Vp (by rw[iO,iO]) (sT _) ?_))
  have X:=U.trans (E.mono (by rw[<-a4.o];exact U.size));have t:Below G K (W5.setRow G (bT z2)):=X.trans ⟨rfl,rfl,rfl,Qx,fun k b9=>Nq _ _ _ _ ed⟩;have Y:=Dp W5 G _ (bT z2) _ _ F;have H1:=hI t;have H2:=hI Y;clear E F X t Y d;generalize World.setRow _ _ _=W6 at *;go_wp2_with fail;go_roundg (n-(k+1))
  ·have:=HLT.o;have:=c2.o;go_light;exact⟨k+1,q+64,ed,rfl,ed,ej,H1,by rw[HV.o];exact H2⟩
  exact Vx
 obtain rfl:k=n:=ed;have D:q=N:=(by rw[HRL.o];omega);subst D;have hd:decide ((q:Int)<(q:Int))=false:=ee;have d:=b0.o;generalize b1:kQ l k=H at *;have c4:=hI b1;clear b1 hb ho hq;go_wp2_with fail;refine Qq fun c5 I=>?_;have c6:=hI (jG I);have RT:Hid (jk c5 wr (kR H 0) 217):=(by show _=_;rw[<-I,yk,FH];exact Nc _ _);have H3:=hI (aD d);have H4:=hI d;clear I d R;generalize a5:wr=b2 at *;clear a5;generalize b3:b2.heap.size=T at *;have HGE:=hI b3;clear b3;go_loopg [7] 32 (fun g i wr=> ∃j:Nat,j<=32/\g=32-j/\i= jV j/\Below T b2 wr/\jk wr T (kR H j) 217)
 ·exact⟨0,Pe _,rfl,rfl,c6,RT⟩
 obtain⟨j,hj,rfl,rfl,hb,ho⟩:=hrel;refine Qa fun H5 H6=>?_;by_cases f:j<32
 ·have hd:decide ((j:Int)<32)=true:=em;have hx:=(hb.block G (H3)).trans H4;have Z:j / 4<8:=ed;have e2:(bT H)[j / 4]? =some (.int .u32 ((cZ H).getD (j / 4) 0).toNat):=(by simp[bT,eJ,Na,show j / 4<(cZ H).length from Z]);have d5:=(Mu wr G (j / 4) _ _ _ hx).trans e2;have d6:=(Mu wr T j _ _ _ ho).trans (ym H j f);have fz:=uE ho j;have HV:=hI (yl H j f);have HE:Hid (rY H j=(((fC ((cZ H).getD (j / 4) 0) (24-8 * (j % 4))).toNat % 256:Nat):Int)):=rfl;have c7:=hI fun W=>IC ((cZ H).getD (j / 4) 0) (24-8 * (j % 4)) ed W;generalize(cZ H).getD (j / 4) 0=y at *;have q1:(j:Int) / 4=((j / 4:Nat):Int):=ed;have q2:(24:Int)-8 * ((j:Int) % 4)=((24-8 * (j % 4):Nat):Int):=ed;have q3:((j / 4:Nat):Int)<8:=ed;have q4:((24-8 * (j % 4):Nat):Int)<=24:=ed;have c8:(j:Int)<32:=ed;generalize j / 4=p at *;generalize 24-8 * (j % 4)=r at *;have HLT:=hI f;clear hb ho f hx e2 Z;go_wp2_with fail;refine(c7 wr).mono ?_;refine Qe fun _ c9=>?_;obtain rfl:=c9.symm;have d0:(((fC y r).toNat:Int) % 256)=rY H j:=ew;have J:0<=rY H j/\rY H j<256:=(by rw[HE.o];omega);have d1:=J.1;have d2:=J.2;clear J;generalize rY H j=b4 at *;go_wp2_with fail;have t:=H5.setCell (p:=⟨T,j,none⟩) ep (.int .u8 b4);have a6:=(uD (o:=j) (u:= .int .u8 b4) H6).trans Oi;go_roundg (32-(j+1))
  ·have:=HLT.o;go_light;exact⟨j+1,ed,rfl,ej,t,a6⟩
  exact Vx
 obtain rfl:j=32:=ed;have hd:decide (((32:Nat):Int)<32)=false:=eh;have h2:=jm B2 R0;have h3:=(U.block _ (by rw[<-a4.o];exact aD h2)).trans h2;have h4:=(hb.block _ (by rw[<-HGE.o];exact aD h3)).trans h3;have a0:w.heap.size<T:=by rw[<-HGE.o];exact aD h3
 have d3:Hid (jb w wr):=by
  have k2:=jo K1 B2;have K0:=k2.trans (U.mono (by rw[<-a4.o];exact k2.size));exact K0.trans Yt
 have H7:=hI a0;clear hb h2 h3 a0;go_wp2_with (first | (refine Dx rfl 217 (.tmp 6) rfl T rfl 217 (kR H 32) (0,0) _ ho underlying217 rfl (by rw[vP];kernel_rfl) ?_;simp[Act.put]) | (refine bP rfl 217 (.tmp 2) (.tmp 38) rfl w (kR H 32) _ 217 rfl rfl h4 (by rw[vP];kernel_rfl) (by rw[vP,vP]) (by simp[kR,oH,Value.oneCell']) ?_))
 refine Nh (v:= .agg (kR H 32)) (Pb (p:=2) (ty:=217) rfl _ _ w 217 _ (0,0) _ rfl (Dp _ _ _ _ _ _ h4) underlying217 rfl (by rw[vP];kernel_rfl)) rfl ?_;exact⟨k,a7,by rw[<-H0.o,c4.o],d3.trans ⟨rfl,rfl,rfl,Qx,fun i d7=>Nq _ _ _ _ ed⟩⟩
def yi (e f g:Wd):cF (fK e f) (fK (wM e) g)=cF g (fK e (cF f g)):=by
 apply Tr;intro i H;simp only[cF,fK,wM,BitVec.getLsbD_xor,Hz,BitVec.getLsbD_not,H,decide_true,Fa];cases e.getLsbD i<;>cases f.getLsbD i<;>cases g.getLsbD i<;>rfl
def wz (a b c:Wd):cF (cF (fK a b) (fK a c)) (fK b c)=fX (fK a b) (fK c (fX a b)):=by
 apply Tr;intro i H;simp only[cF,fK,fX,BitVec.getLsbD_xor,Hz,BitVec.getLsbD_or];cases a.getLsbD i<;>cases b.getLsbD i<;>cases c.getLsbD i<;>rfl
def FG (a:Wd):dD 0 a=a:=by simp[dD]
def yJ (a b:Wd):cJ [a,b]=dD a b:=by show dD (dD 0 a) b=_;rw[FG]
def wu (a b c d:Wd):cJ [a,b,c,d]=dD (dD (dD a b) c) d:=by show dD (dD (dD (dD 0 a) b) c) d=_;rw[FG]
def zz (a b c d e:Wd):cJ [a,b,c,d,e]=dD (dD (dD (dD a b) c) d) e:=by show dD (dD (dD (dD (dD 0 a) b) c) d) e=_;rw[FG]
def zy (a b:Wd):dD a b=dD b a:=BitVec.add_comm _ _
def zx (a b c d:Int) (H:0<=a/\a<=255) (f:0<=b/\b<=255) (g:0<=c/\c<=255) (hd:0<=d/\d<=255):
  fX (fX (fX (iP (gV a) 24) (iP (gV b) 16)) (iP (gV c) 8)) (gV d)=gV (256 * (256 * (256 * (256 * 0+a)+b)+c)+d):=by
 obtain⟨a,rfl⟩:=Ds H.1;obtain⟨b,rfl⟩:=Ds f.1;obtain⟨c,rfl⟩:=Ds g.1;obtain⟨d,rfl⟩:=Ds hd.1;have t: ∀x:Nat,x<4294967296->(gV (x:Int)).toNat=x:=fun x hx=>by rw[gV,BitVec.toNat_ofInt];omega
 apply Fc;have e:(256 * (256 * (256 * (256 * 0+(a:Int))+b)+c)+d)=((16777216 * a+65536 * b+256 * c+d:Nat):Int):=ed
 rw[e,t _ ed];simp only[fX,iP,BitVec.toNat_or,Hf,t a ed,t b ed,t c ed,t d ed];rw[Sz (show a<<<24<2 ^ 32 by rw[Sj];omega),Sz (show b<<<16<2 ^ 32 by rw[Sj];omega),Sz (show c<<<8<2 ^ 32 by rw[Sj];omega)]
 rw[show a<<<24 ||| b<<<16=(256 * a+b)<<<16 by
   rw[show a<<<24=(256 * a)<<<16 by simp only[Sj];omega,<-Is,show 256 * a=a<<<8 by rw[Sj];omega,<-Ts ed]]
 rw[show(256 * a+b)<<<16 ||| c<<<8=(256 * (256 * a+b)+c)<<<8 by
   rw[show(256 * a+b)<<<16=(256 * (256 * a+b))<<<8 by simp only[Sj];omega,<-Is,show 256 * (256 * a+b)=(256 * a+b)<<<8 by rw[Sj];omega,<-Ts ed]]
 rw[<-Ts ed,Sj];omega
def OM (l:List Int) (p i:Nat): ∀m,i+m<=64->jM ((l.drop p).take 64) i m=jM l (p+i) m
 | 0,_=>rfl
 | m+1,h=>by
  rw[jM,jM,OM l p i m ed,Na,Na,Fo ed,List.getElem?_drop,show p+(i+m)=p+i+m by omega]
def zw (l:List Int) (p:Nat):kW ((l.drop p).take 64) 0=kW l p:=by
 rw[kW,kW]
 congr 1
 apply List.map_congr_left;intro i H;rw[List.mem_range]at H;rw[OM _ _ _ _ ed,Pa]
def zu (h:V8):oH h 32=(cZ h).flatMap fun x=>gH x.toNat 4:=by
 simp[oH,rY,cZ,gH,List.range,List.range.loop,fC,Ti]
def bC (l:List Int):Array Value:=(l.map (Value.int .u8)).toArray
def zt (a:aO l) (i:Nat) (H:i<l.length):(bC l)[i]? =some (.int .u8 ((gV (l.getD i 0)).toNat:Int)):=by
 have h:=a _ (Nn H);have:(((gV l[i]).toNat:Nat):Int)=l[i]:=by rw[<-TH];omega
 simp[bC,Na,H,this]
def pX (l:List Int):(bC l).all (·.oneCell')=true:=by simp[bC,Value.oneCell']
def fE (l:List Wd):Array Value:=(eJ (l++List.replicate (64-l.length) 0)).toArray
def AV {l:List Wd}(h:l.length<=64):(fE l).size=64:=by simp[fE,eJ];omega
def vO (l:List Wd) (i:Nat) (hl:l.length<=64) (H:i<64):(fE l)[i]? =some (.int .u32 (l.getD i 0).toNat):=by
 simp only[fE,eJ,Db,Pp,Na];rcases Pw i l with h | h
 ·rw[Pd h,Nf h];rfl
 rw[Fg h,Px h,List.getElem?_replicate,Np ed];rfl
def OL (l:List Wd) (x:Wd) (h:l.length<64):(fE l).setIfInBounds l (.int .u32 x.toNat)=fE (l++[x]):=by
 have e:64-l.length=(64-(l++[x]).length)+1:=by rw[Mx,Fb];omega
 rw[fE,fE,e,List.replicate_succ];simp[eJ,Pr]
def zs {l:List Wd}(h:l.length=64):fE l=(eJ l).toArray:=by rw[fE,h];simp
def zq (l:List Wd):(fE l).all (·.oneCell')=true:=by simp[fE,eJ,Value.oneCell']
def OK (w:World) (a b c:Obj):(((w.alloc a).alloc b).alloc c).heap[w.heap.size+1+1]? =some c:=by
 have h:=Nc ((w.alloc a).alloc b) c;rw[Pv,Pv]at h;exact h
def yI:(prog.info? 452).map (·.size)=some 64:=by kernel_rfl
def zp (b:aO l) (k:Nat):gV (jM l (0+4 * k) 4)=fX (fX (fX (iP (gV (l.getD (4 * k) 0)) 24) (iP (gV (l.getD (4 * k+1) 0)) 16)) (iP (gV (l.getD (4 * k+2) 0)) 8)) (gV (l.getD (4 * k+3) 0)):=by
 have H: ∀i,0<=l.getD i 0/\l.getD i 0<=255:=fun i=>by
  rw[Na];rcases Pw i l with a | a
  ·rw[Nf a];exact b _ (Nn a)
  rw[Px a];decide
 rw[zx _ _ _ _ (H _) (H _) (H _) (H _)];simp only[jM,Pa,Pk]
def yH:(fE []:Array Value)=#[.int .u32 0,.int .u32 0,.int .u32 0,.int .u32 0,.int .u32 0,.int .u32 0,.int .u32 0,.int .u32 0,.int .u32 0,.int .u32 0,.int .u32 0,.int .u32 0,.int .u32 0,.int .u32 0,.int .u32 0,.int .u32 0,.int .u32 0,.int .u32 0,.int .u32 0,.int .u32 0,.int .u32 0,.int .u32 0,.int .u32 0,.int .u32 0,.int .u32 0,.int .u32 0,.int .u32 0,.int .u32 0,.int .u32 0,.int .u32 0,.int .u32 0,.int .u32 0,.int .u32 0,.int .u32 0,.int .u32 0,.int .u32 0,.int .u32 0,.int .u32 0,.int .u32 0,.int .u32 0,.int .u32 0,.int .u32 0,.int .u32 0,.int .u32 0,.int .u32 0,.int .u32 0,.int .u32 0,.int .u32 0,.int .u32 0,.int .u32 0,.int .u32 0,.int .u32 0,.int .u32 0,.int .u32 0,.int .u32 0,.int .u32 0,.int .u32 0,.int .u32 0,.int .u32 0,.int .u32 0,.int .u32 0,.int .u32 0,.int .u32 0,.int .u32 0]:=by kernel_rfl
def zo (w:World):jW 387 #[] w fun e W=>e= .returned (.agg (eJ gF).toArray)/\jb w W:=by
 go_in;go_upto_region 1 with fail;generalize H:World.alloc _ _=W0;have K0:=jG H
 have R0:jk W0 w (fE []) 452:=by rw[<-H,yH];exact Ud
 go_wp2_with (refine bP rfl 452 (.tmp 0) (.tmp 1) rfl w (eJ gF).toArray _ 452 rfl ef R0 ef ef ef ?_);refine Nh (v:= .agg (eJ gF).toArray) (Pb (p:=0) (ty:=452) rfl _ _ w 452 _ (0,0) _ rfl (Dp _ _ _ _ _ _ R0) underlying452 rfl ef) rfl ?_;exact⟨rfl,K0.trans ⟨rfl,rfl,rfl,Qx,fun k a=>Nq _ _ _ _ ed⟩⟩
theorem vq (l:List Int) (hl:l.length=64) (z:aO l) (w:World):jW 388 #[.agg (bC l)] w fun e a7=>e= .returned (.agg (eJ (kW l 0)).toArray)/\jb w a7:=by
 have a8:=hI fun k=>zp z k;have s:=hI fun i (hr:i<64)=>zt z i Up;have HRL:Hid (gU l 0 0=[]):=rfl;have H0:=hI fun k=>TF l 0 k;have o7:=hI fun k=>uG l 0 k;have c:Hid (∀j,16<=j->(kJ (j-16) (gU l 0 16)).length=j):=fun j hj=>by rw[DM,uG];omega
 have C:Hid (kJ (16-16) (gU l 0 16)=gU l 0 16):=rfl;have E:Hid (∀j,16<=j->kJ (j+1-16) (gU l 0 16)=kJ (j-16) (gU l 0 16)++[qY (kJ (j-16) (gU l 0 16)) j]):=fun j hj=>by rw[show j+1-16=(j-16)+1 by omega,kJ,c.o j hj]
 have I:Hid (kW l 0=kJ (64-16) (gU l 0 16)):=rfl;generalize hF:(fun j=>kJ (j-16) (gU l 0 16))=F at *;replace c:Hid (∀j,16<=j->(F j).length=j):=by subst hF;exact c
 replace C:Hid (F 16=gU l 0 16):=by subst hF;exact C
 replace E:Hid (∀j,16<=j->F (j+1)=F j++[qY (F j) j]):=by subst hF;exact E
 replace I:Hid (kW l 0=F 64):=by subst hF;exact I
 clear hF z
 generalize gU l 0=J at *;generalize bC l=L at *;rw[I.o];go_in;go_upto_region 2 with fail;generalize f:World.alloc (World.alloc (World.alloc _ _) _) _=W0;have K0:=hI (yA f)
 have X0:=hI (jD f)
 have Z0:Hid (jk W0 (w+1) (fE []) 452):=by show _=_;rw[<-f,yH];exact(Nv _ _ ee).trans (Do _ _ _)
 have G9:Hid (jk W0 (w+1+1) (fE []) 452):=by show _=_;rw[<-f,yH];exact OK _ _ _ _
 have n:Hid (w+1+1<=W0.heap.size):=by show _<=_;rw[<-f];simp
 clear f;obtain⟨G,M⟩: ∃G,G=w.heap.size+1+1:=⟨_,rfl⟩;rw[<-M]at G9 n ⊢;have HL:=hI M;clear M;go_wp2_with fail;go_loopg [4,6] 16 (fun g v i wr=> ∃k:Nat,k<=16/\g=16-k/\i= jV k/\Below G W0 wr/\jk wr G (fE (J k)) 452)
 ·exact⟨0,ed,ed,rfl,Nb _ _,Ox⟩
 obtain⟨k,a9,rfl,rfl,hb,ho⟩:=hrel;refine Qa fun N b=>?_;by_cases q:k<16
 ·have hd:decide ((k:Int)<16)=true:=em;have b0:=hI ((hb.block _ Qm).trans X0)
  have HV:Hid ((fE (J k)).setIfInBounds k (.int .u32 (fX (fX (fX (iP (gV (l.getD (4 * k) 0)) 24) (iP (gV (l.getD (4 * k+1) 0)) 16)) (iP (gV (l.getD (4 * k+2) 0)) 8)) (gV (l.getD (4 * k+3) 0))).toNat)=fE (J (k+1))):=by
   have:=OL (J k) (gV (jM l (0+4 * k) 4)) Ko;rw[o7.o k,<-H0.o k,a8.o k]at this;exact this
  have b1:=hI (s (4 * k) ed);have b2:=hI (s (4 * k+1) ed);have E2:=hI (s (4 * k+2) ed);have E3:=hI (s (4 * k+3) ed);have a3:=hI (vO (J k) k Ko ed);generalize gV (l.getD (4 * k) 0)=X at *;generalize gV (l.getD (4 * k+1) 0)=T at *;generalize gV (l.getD (4 * k+2) 0)=U at *;generalize gV (l.getD (4 * k+3) 0)=V at *;generalize(J k).getD k 0=XG at *;obtain⟨A,Y⟩: ∃A,A=fE (J k):=⟨_,rfl⟩;rw[<-Y]at b a3 HV;have a2:=b;have b8:4 * (k:Int)=((4 * k:Nat):Int):=ed;have b9:((4 * k:Nat):Int)+1=((4 * k+1:Nat):Int):=ed;have q2:((4 * k:Nat):Int)+2=((4 * k+2:Nat):Int):=ed;have q3:((4 * k:Nat):Int)+3=((4 * k+3:Nat):Int):=ed;have c0:((4 * k:Nat):Int)<64:=ed;have c1:((4 * k+1:Nat):Int)<64:=ed;have r2:((4 * k+2:Nat):Int)<64:=ed;have r3:((4 * k+3:Nat):Int)<64:=ed;have c2:(k:Int)<64:=ed;generalize 4 * k+3=b3 at *;generalize 4 * k+2=p2 at *;generalize 4 * k+1=p1 at *;generalize 4 * k=b4 at *;have w0:(X.toNat:Int) % 4294967296=(X.toNat:Int):=(by have:=X.isLt;omega);have w1:(T.toNat:Int) % 4294967296=(T.toNat:Int):=(by have:=T.isLt;omega);have w2:(U.toNat:Int) % 4294967296=(U.toNat:Int):=(by have:=U.isLt;omega);have c3:(V.toNat:Int) % 4294967296=(V.toNat:Int):=(by have:=V.isLt;omega);have s24: ∀x:Wd,(x.toNat:Int) * 16777216 % 4294967296=((iP x 24).toNat:Int):=fun x=>BX x 24;have s1: ∀x:Wd,(x.toNat:Int) * 65536 % 4294967296=((iP x 16).toNat:Int):=fun x=>BX x 16;have s8: ∀x:Wd,(x.toNat:Int) * 256 % 4294967296=((iP x 8).toNat:Int):=fun x=>BX x 8;have b5:=MR;have HLT:=hI q;clear hb ho q Y b;go_upto_region 5 with fail;refine iH [31] (fun W=>jk W w L 291/\jk W G A 452) ef ?_;intro V0 r H;have D:jk V0 w L 291/\jk V0 G A 452:=⟨(jm H b0),(jm H a2)⟩;have B:=hI (N.trans (H.mono (Nj n N.size)));clear r H;have t0: ∀t:aX (fun W=>jk W w L 291/\jk W G A 452),jc t.w w b4 (.int .u8 X.toNat):=fun t=>(Mu _ _ _ _ _ _ t.h.1).trans b1;have t1: ∀t:aX (fun W=>jk W w L 291/\jk W G A 452),jc t.w w p1 (.int .u8 T.toNat):=fun t=>(Mu _ _ _ _ _ _ t.h.1).trans b2;have t2: ∀t:aX (fun W=>jk W w L 291/\jk W G A 452),jc t.w w p2 (.int .u8 U.toNat):=fun t=>(Mu _ _ _ _ _ _ t.h.1).trans E2
  have t3: ∀t:aX (fun W=>jk W w L 291/\jk W G A 452),jc t.w w b3 (.int .u8 V.toNat):=fun t=>(Mu _ _ _ _ _ _ t.h.1).trans E3;have a4: ∀t:aX (fun W=>jk W w L 291/\jk W G A 452),w.heap.size<t.w.heap.size:=fun t=>aD t.h.1;refine zB [0,1,7,15,23,2,8,16,24,3,9,17,25,4,10,18,26,5,11,19,27,6,12,20,28,13,21,14,22,29,30] D ?_;clear t0 t1 t2 t3 a4;refine aS 31 ef ?_;intro K hK;have c9:=(Mu _ _ _ _ _ _ D.2).trans a3;have fz:=uE D.2 k;refine Vi ?_;refine .inl ?_;have R:=(uD (o:=k) (u:= .int .u32 (fX (fX (fX (iP X 24) (iP T 16)) (iP U 8)) V).toNat) D.2).trans Oi;have O:=B.setCell (p:=⟨G,k,none⟩) ep (.int .u32 (fX (fX (fX (iP X 24) (iP T 16)) (iP U 8)) V).toNat);refine hK _ _ (fun h=>absurd h eh) ?_;clear hK K c9 fz D;generalize World.setCell _ _ _=V2 at *;refine eI ef ?_ _;go_wp2_with fail;go_roundg (16-(k+1))
  ·have:=HLT.o;go_light;exact⟨k+1,ed,ed,ej,O,R⟩
  exact Vx
 obtain rfl:k=16:=ed;have hd:decide (((16:Nat):Int)<16)=false:=eh;rw[<-C.o]at ho;have Z:=hI ho;clear ho hb b;go_wp2_with fail;go_loopg [5] 48 (fun g i w3=> ∃j:Nat,16<=j/\j<=64/\g=64-j/\i= jV j/\Below G W0 w3/\jk w3 G (fE (F j)) 452)
 ·exact⟨16,ed,ed,ed,rfl,N,Z⟩
 clear N Z;obtain⟨j,d,a0,rfl,rfl,hb,ho⟩:=hrel;refine Qa fun N b=>?_;have a:=hI (c j d);by_cases q:j<64
 ·have hd:decide ((j:Int)<64)=true:=em;obtain⟨P,Q⟩: ∃P,P=qY (F j) j:=⟨_,rfl⟩
  have HV:Hid ((fE (F j)).setIfInBounds j (.int .u32 P.toNat)=fE (F (j+1))):=by
   have:=OL (F j) P (by rw[a.o];omega);rw[a.o]at this;rw[Q]at this ⊢;rw[E.o j d];exact this
  have H1:Hid (P=dD (dD (dD ((F j).getD (j-16) 0) (cF (cF (cB ((F j).getD (j-15) 0) 7) (cB ((F j).getD (j-15) 0) 18)) (fC ((F j).getD (j-15) 0) 3))) ((F j).getD (j-7) 0)) (cF (cF (cB ((F j).getD (j-2) 0) 17) (cB ((F j).getD (j-2) 0) 19)) (fC ((F j).getD (j-2) 0) 10))):=(by show _=_;rw[Q,qY,wu];rfl);have E0:=hI (vO (F j) (j-16) (by rw[a.o];omega) ed);have E1:=hI (vO (F j) (j-15) (by rw[a.o];omega) ed);have E7:=hI (vO (F j) (j-7) (by rw[a.o];omega) ed);have E2:=hI (vO (F j) (j-2) (by rw[a.o];omega) ed);have a5:=hI (vO (F j) j (by rw[a.o];omega) ed);generalize(F j).getD (j-16) 0=x16 at *;generalize(F j).getD (j-15) 0=x15 at *;generalize(F j).getD (j-7) 0=x7 at *;generalize(F j).getD (j-2) 0=x2 at *;generalize(F j).getD j 0=xj at *;obtain⟨A,Y⟩: ∃A,A=fE (F j):=⟨_,rfl⟩;rw[<-Y]at b E0 E1 E7 E2 a5 HV;have a2:=b;have q0:(j:Int)-16=((j-16:Nat):Int):=ed;have q1:(j:Int)-15=((j-15:Nat):Int):=ed;have q7:(j:Int)-7=((j-7:Nat):Int):=ed;have q2:(j:Int)-2=((j-2:Nat):Int):=ed;have r0:((j-16:Nat):Int)<64:=ed;have r1:((j-15:Nat):Int)<64:=ed;have r7:((j-7:Nat):Int)<64:=ed;have r2:((j-2:Nat):Int)<64:=ed;have c4:(j:Int)<64:=ed;generalize j-16=p0 at *;generalize j-15=p3 at *;generalize j-7=p7 at *;generalize j-2=p2 at *;have b5:=BY;have HLT:=hI q;have H2:=hI d;clear hb ho q Y b d a0 Q a;go_upto_region 10 with fail;refine iH [23] (fun W=>jk W G A 452) ef ?_;intro V0 r H;have D:=jm H a2;have B:=hI (N.trans (H.mono (Nj n N.size)));clear r H;have t4: ∀t:aX (fun W=>jk W G A 452),jc t.w G p0 (.int .u32 x16.toNat):=fun t=>(Mu _ _ _ _ _ _ t.h).trans E0;have t5: ∀t:aX (fun W=>jk W G A 452),jc t.w G p3 (.int .u32 x15.toNat):=fun t=>(Mu _ _ _ _ _ _ t.h).trans E1;have t7: ∀t:aX (fun W=>jk W G A 452),jc t.w G p7 (.int .u32 x7.toNat):=fun t=>(Mu _ _ _ _ _ _ t.h).trans E7;have t2: ∀t:aX (fun W=>jk W G A 452),jc t.w G p2 (.int .u32 x2.toNat):=fun t=>(Mu _ _ _ _ _ _ t.h).trans E2;have a4: ∀t:aX (fun W=>jk W G A 452),G<t.w.heap.size:=fun t=>aD t.h;refine zB [0,1,5,11,16,2,6,12,17,3,7,13,18,4,8,14,19] D ?_;refine aS 9 ef ?_;refine Oo fun K hK=>?_;refine .inl ((UD x15 7 18 3 eh eh eh _).mono ?_);refine Qe fun _ a1=>?_;simp[go_sem];have D0:=jm a1 D;have B0:=hI (B.trans (a1.mono (Nj n B.size)))
  refine Ob ?_;refine zB [10,15] D0 ?_;refine aS 20 ef ?_;refine Oo fun K hK=>?_;refine .inl ((UD x2 17 19 10 eh eh eh _).mono ?_);refine Qe fun _ a1=>?_;simp[go_sem];have D2:=jm a1 D0;have O:=hI (B0.trans (a1.mono (Nj n B0.size)));refine hK _ _ (fun _=>D2) ?_;refine zB [21,22] D2 ?_;refine aS 23 ef ?_;intro K hK;have c9:=(Mu _ _ _ _ _ _ D2).trans a5;have fz:=uE D2 j;refine Vi ?_;refine .inl ?_;have R:=(uD (o:=j) (u:= .int .u32 P.toNat) D2).trans Oi;have y:=O.setCell (p:=⟨G,j,none⟩) ep (.int .u32 P.toNat);rw[H1.o]at R y;refine hK _ _ (fun h=>absurd h eh) ?_;refine eI ef ?_ _;go_wp2_with fail;go_roundg (64-(j+1))
  ·have:=HLT.o;go_light;exact⟨j+1,ed,ed,ed,ej,y,R⟩
  exact Vx
 obtain rfl:j=64:=ed;have hd:decide (((64:Nat):Int)<64)=false:=eh;have a6:=(hb.block _ Qm).trans Z0;have s0:=AV (by rw[a.o];exact Mv _);have b6:(fE []).size=64:=AV ee;have HS:=hI s0;have HY:=hI b6;have b7:=hI (K0.trans (hb.mono Qm));go_wp2_with (first | (refine Dx rfl 452 (.tmp 3) rfl G rfl 452 (fE (F 64)) (0,0) _ ho underlying452 rfl (by rw[HS.o];exact yI) ?_;simp[Act.put]) | (refine bP rfl 452 (.tmp 2) (.tmp 68) rfl (w+1) (fE (F 64)) _ 452 rfl rfl a6 (by rw[HS.o];exact yI) Kc (zq _) ?_))
 refine Nh (v:= .agg (fE (F 64))) (Pb (p:=2) (ty:=452) rfl _ _ (w+1) 452 _ (0,0) _ rfl (Dp _ _ _ _ _ _ a6) underlying452 rfl (by rw[HS.o];exact yI)) rfl ?_;exact⟨by rw[zs a.o],b7.trans ⟨rfl,rfl,rfl,Qx,fun k a9=>Nq _ _ _ _ ed⟩⟩
def kA (b:List Int):List Int:=oH (kQ (iB b) ((iB b).length / 64)) 32
def oG (b:List Int):(kA b).length=32:=by simp[kA,oH]
def AU (b:List Int):aO (kA b):=by
 intro x hx;simp only[kA,oH,List.mem_map,List.mem_range]at hx;obtain⟨i,H,rfl⟩:=hx;rw[Np H,rY];omega
def OJ (x y:Int):0<=bits .xor .u8 x y/\bits .xor .u8 x y<=255:=by
 have e: ∀n:Int,IntKind.u8.wrap n=n % 256:=fun n=>by simp[IntKind.wrap,IntKind.bits,IntKind.signed]
 show 0<=IntKind.u8.wrap _/\IntKind.u8.wrap _<=255;rw[e];generalize((_:Nat):Int)=n;omega
def OI (key:List Int) (b:Int) (k:Nat):aO (gT key b k):=by
 intro x hx;simp only[gT,List.mem_map]at hx;obtain⟨i,-,rfl⟩:=hx;exact OJ _ _
def tW (key b:List Int):List Int:=kA (gT key 54 64++b)
def pI (key b:List Int):List Int:=kA (gT key 92 64++tW key b)
def aO.app {a:List Int}(h:aO a) (k:aO b):aO (a++b):=fun x hx=>by
 rcases Tx.1 hx with hx | hx
 ·exact h x hx
 exact k x hx
def OG (h:aO l):l.flatMap dR=eT (l.map Int.toNat):=by
 induction l with
 | nil=>rfl
 | cons x l i=>
  have hx:=h x Dq;rw[Sb,i fun y H=>h y (Dy _ H)];show [Value.int .u8 x]++_=Value.int .u8 (x.toNat:Int)::_;rw[show((x.toNat:Nat):Int)=x by omega];rfl
def AT {a:Option Addr}(h:aB w 1 dG a c l) (d:aO l):BL w a l (l.map Int.toNat):=
 ⟨ee,fun i hi=>by have:=d _ (Nn Og);simp;omega,fun i hi=>by
  have H:i<l.length:=Og
  obtain⟨b,off,v,e,hl,f,g⟩:=h.at_ i H;cases g;have:=f 0 ee;have hx:=d _ (Nn H);refine⟨b,off,e,?_⟩;simp only[Tb,Pk,Nu]at this
  rw[this,Gg,show((l[i].toNat:Nat):Int)=l[i]by omega]⟩
def OF {t:TypeId}(H:l.length<=c) (h:jk w g (bC l) t):aB w 1 dG (some ⟨g,0,none⟩) c l:=
 ⟨H,Vy,fun i a=>⟨g,0,[.int .u8 l[i]],rfl,rfl,(fun j hj=>by
  obtain rfl:j=0:=by simp at hj;omega
  rw[show 0+i * 1+0=i by omega]
  exact(Mu w g i _ _ _ h).trans (by simp[bC,a])),rfl⟩⟩
def OD {o:Oper}(e:o.guard=none) (s x:Operand)
  (f:o.op= .call {callee:= .builtin .append,args:=#[s,x],argTypes:=#[22,22]}) (base:Nat) (v:Value) (xs:List Int) (g:a.eval s=v) (c:aO xs) (H:w.ownsRow base 5 1 v xs (xs.flatMap dR))
  (a0:Option Addr) (cap:Nat) (l:List Int) (hx:a.eval x= .slice a0 l cap) (hl:aB w 1 dG a0 cap l) (d:aO l) (i:xs.length+l.length<=1000000) (b:base<=w.heap.size)
  (h: ∀A C W,W.ownsRow base 5 1 (js A (xs.length+l.length) C) (xs.length+l.length) ((xs++l).flatMap dR)->w.grownBy W v.ownBlock->wpList prog ops Q rest (a.put o.dst (js A (xs.length+l.length) C)) W):wpList prog ops Q (o::rest) a w:=by
 rw[OG c]at H;refine IJ e s x f base v xs (xs.map Int.toNat) g H a0 l cap (l.map Int.toNat) hx (AT hl d) hl.nil i b fun v' W h1 h2=> ?_;obtain⟨A,C,rfl⟩:=iG h1;refine h A C W ?_ h2;rw[OG (c.app d),Pr];exact h1
def OC (b:List Int) (a:Option Addr) (c:Nat) (w:World) (hl:aB w 1 dG a c b) (H:aO b) (d:b.length<=6000):
  jW 244 #[js a b c] w fun e W=>e= .returned (.agg (bC (kA b)))/\jb w W:=
 (yj b a c w hl H d).mono fun e W ⟨n,f,he,g⟩=>⟨by rw[he,kA,f,Nat.mul_div_cancel_left _ eh];rfl,g⟩
def sB:(prog.info? 217).map (·.size)=some 32:=by kernel_rfl
def fP (l:List Int):(bC l).size=l.length:=by simp[bC]
def AF:List Int:=List.replicate 32 0
def AS:bC AF=#[.int .u8 0,.int .u8 0,.int .u8 0,.int .u8 0,.int .u8 0,.int .u8 0,.int .u8 0,.int .u8 0,.int .u8 0,.int .u8 0,.int .u8 0,.int .u8 0,.int .u8 0,.int .u8 0,.int .u8 0,.int .u8 0,.int .u8 0,.int .u8 0,.int .u8 0,.int .u8 0,.int .u8 0,.int .u8 0,.int .u8 0,.int .u8 0,.int .u8 0,.int .u8 0,.int .u8 0,.int .u8 0,.int .u8 0,.int .u8 0,.int .u8 0,.int .u8 0]:=by kernel_rfl
def vn (key b:List Int) (K ba:Option Addr) (n bc:Nat) (w:World) (o:aB w 1 dG K n key) (q:key.length<=100000) (hl:aB w 1 dG ba bc b) (c:aO b) (y:b.length<=5900):
  jW 243 #[js K key n,js ba b bc] w fun e u=>e= .returned (.agg (bC (tW key b)))/\jb w u:=by
 have C:=hI fun W (r:jb w W)=>QF key K n 54 W (o.below fS r) q;refine Ka fun x=>?_;have d:=hI c
 have f:=BE key 54 64;have g:=hI (OI key 54 64);have HV:Hid (tW key b=kA (gT key 54 64++b)):=rfl;generalize gT key 54 64=M at *;have o7:=hI f;clear o hl c f;go_in;go_upto_region 1 with fail;generalize H:World.alloc _ _=W0;have s:=hI (jG H)
 have R0:Hid (jk W0 w (bC AF) 217):=by show _=_;rw[<-H,AS];exact Ud
 clear H
 go_wp2_with (first
  | (go_at_call 245;refine(C _ s).mono ?_;refine Ou fun W1 a1 c1 t a=>?_;have K1:=hI (jo s a);have B:=hI a;have O1:Hid (W1.ownsRow W0 5 1 (js a1 64 c1) M (M.flatMap dR)):=t;clear t a)
  | (at_builtin;refine OD rfl (.tmp 6) (.tmp 7) rfl W0 (js a1 64 c1) M rfl g O1 ba bc b rfl (x _ K1) d Ko B.size ?_;intro a2 c2 W2 i j;have B2:=hI (B.trans (dT O1 ep B.size j));have S2:Hid (aB W2 1 dG a2 c2 (M++b)):=(by have h2:=i;rw[<-Mx]at h2;exact cM.sl h2);clear i j)
  | (go_at_call 244;rw[<-Mx];refine(OC (M++b) a2 c2 W2 S2 (g.app d) (by rw[Mx,o7.o];omega)).mono ?_;refine Qe fun _ l=>?_;have B3:=hI (jo B2 l);have R3:=hI ((jm B3 R0));clear l;have HTL:=hI (oG (M++b));generalize kA (M++b)=Z at *)
  | (refine bP rfl 217 (.tmp 4) (.tmp 9) rfl w (bC Z) _ 217 rfl rfl R3 Xw (by rw[fP,fP,HTL.o];rfl) (pX _) ?_))
 refine Nh (v:= .agg (bC Z)) (Pb (p:=4) (ty:=217) rfl _ _ w 217 _ (0,0) _ rfl (Dp _ _ _ _ _ _ R3) underlying217 rfl Xw) rfl ?_;exact⟨Oi,(jo s B3).trans ⟨rfl,rfl,rfl,Qx,fun k o=>Nq _ _ _ _ ed⟩⟩
def FD (l:List Int) (j:Nat):(bC l)[j]? =(l.flatMap dR)[j]? :=by
 rw[show l.flatMap dR=l.map (Value.int .u8)from by rw[show dR=fun x=>[Value.int .u8 x]from rfl,Td]];simp[bC]
theorem vm (key b:List Int) (F ba:Option Addr) (G bc:Nat) (w:World) (J:aB w 1 dG F G key) (r:key.length<=100000) (hl:aB w 1 dG ba bc b) (s:aO b) (a6:b.length<=5900):
  jW 158 #[js F key G,js ba b bc] w fun e a7=>e= .returned (.agg (bC (pI key b)))/\jb w a7:=by
 have a8:=hI fun W (a:jb w W)=>QF key F G 92 W (J.below fS a) r;have a0:=hI fun W (a:jb w W)=>vn key b F ba G bc W (J.below fS a) r (hl.below fS a) s a6;have t:=BE key 92 64;have Q:=hI (OI key 92 64);have HTL:Hid ((tW key b).length=32):=oG _;have R:Hid (aO (tW key b)):=AU _;have HV:Hid (pI key b=kA (gT key 92 64++tW key b)):=rfl;generalize gT key 92 64=M at *;generalize tW key b=I at *;have d:=hI t;clear J hl s t;go_in;go_upto_region 1 with fail;generalize f:World.alloc _ _=W0;have T:=hI (jG f)
 have R0:Hid (jk W0 w (bC AF) 217):=by show _=_;rw[<-f,AS];exact Ud
 clear f;go_upto_region 2 with(first | (go_at_call 243;refine(a0 W0 T).mono ?_;refine Qe fun W1 i=>?_;have B1:=hI (jo T i);have R1:=hI ((jm i R0));clear i) | (refine bP rfl 217 (.tmp 5) (.tmp 8) rfl W1 (bC I) _ 217 rfl rfl Oa Xw (by rw[fP,HTL.o];rfl) (pX _) ?_;rw[World.setRow_alloc_new]))
 refine Qq fun W2 hV=>?_;refine Kb fun g hg=>?_;have G2:Hid (jk W2 g (bC I) 217):=Um
 have U:=jG hV
 have B2:=hI (jo B1 U);have R2:=hI ((jm U R1));rw[<-hg];simp only[Act.put];clear hV U B1 R1 T R0 a0 hg;refine iH [5] (fun _=>True) ef ?_;intro V x H;have X:=hI ((jm H R2));have G0:=hI ((jm H G2));have L:=hI (jo B2 H);have Y:=hI H.size;clear x H R2 G2 B2;refine zB [0,2] Py ?_;refine aS 1 ef ?_;refine Oe (a8 V L) fun K c=>?_;refine Ou fun N a1 c1 a2 a=>?_;simp[go_sem];refine c _ _ (fun _=>Py) ?_;have O1:Hid (N.ownsRow V 5 1 (js a1 64 c1) M (M.flatMap dR)):=a2;have F1:=hI (jo L a);have Q1:=hI ((jm a X));have G1:=hI ((jm a G0));have z:Hid (V.heap.size<=N.heap.size):=a.size;clear c K a2 a;refine aS 3 ef ?_;intro K c;obtain⟨i0,a3,A,B,C⟩:=Se nD;obtain⟨v',O,a4,l,D,-,-⟩:=run_append_own_at (P:=prog) N V 22 22 5 i0 (.int .u8 0) 1 1 underlying22 a3 A B C rfl eh (js a1 64 c1) M _ O1 ⟨g,0,none⟩ 32 32 (I.flatMap dR) (by rw[pC dR 1 _ (fun _ _=>rfl),HTL.o]) (fun j u hj=>by rw[oB,Mu _ _ j _ _ _ G1.o,FD];simpa using hj) (fun u a9=>by obtain⟨y,-,b0⟩:=Su.1 a9;exact yW y u b0) (by rw[d.o];decide) (by rw[d.o];decide) z;obtain⟨a5,c2,rfl⟩:=iG l;refine zQ (o:=⟨some 12,.call {callee:= .builtin .append,args:=#[.tmp 10,.tmp 11],argTypes:=#[22,22]},22,_,_,none⟩) rfl rfl (.tmp 10) (.tmp 11) 22 rfl _ _ _ O rfl rfl a4 ?_;refine c _ _ (fun _=>Py) ?_;have n:Below V N O:=dT O1 ep z D
 have S2:Hid (aB O 1 dG a5 c2 (M++I)):=by
  have h2:=l;rw[<-Dg,show M.length+32=(M++I).length by rw[Mx,HTL.o]]at h2;exact cM.sl h2
 have F2:=hI (F1.trans (n.mono (by have:=Y.o;have:=L.size;omega)));have Q2:=hI ((n.block _ (by have:=aD X;omega)).trans Q1);clear c K a4 l D n L F1 X Q1 G0 G1 O1 a3 A B C
 conv=>arg 8;simp[Act.put]
 refine aS 4 ef ?_;intro K c;have E:M.length+32=(M++I).length:=by rw[Mx,HTL.o]
 refine Ot ?_;rw[E];refine(OC (M++I) a5 c2 O S2 (Q.app R) (by rw[Mx,d.o,HTL.o];decide)).mono ?_;refine Qe fun V3 a=>?_;simp[go_sem];refine c _ _ (fun _=>Py) ?_;have F3:=hI (jo F2 a);have Q3:=hI ((jm a Q2));have q:=hI (oG (M++I));generalize kA (M++I)=Z at *;clear c K a F2 Q2 S2 E;refine aS 5 ef ?_;intro K c;refine kG (o:=⟨none,.store 217 (.tmp 4) (.tmp 13),_,_,_,none⟩) rfl rfl 217 (.tmp 4) (.tmp 13) rfl w (bC Z) rfl rfl 217 _ Q3 (by rw[fP,q.o];exact sB) (by rw[fP,fP,q.o];rfl) (pX _) ?_;refine c _ _ (fun h=>absurd h eh) ?_;have b1:=hI (Dp V3 w _ (bC Z) _ _ Q3);have b2:Hid (jb w (V3.setRow w (bC Z))):=F3.trans ⟨rfl,rfl,rfl,Qx,fun k J=>Nq _ _ _ _ ed⟩;clear c K F3 Q3;generalize World.setRow _ _ _=b3 at *;refine eI ef ?_ _;go_wp2_with fail;refine Nh (v:= .agg (bC Z)) (Pb (p:=4) (ty:=217) rfl _ _ w 217 _ (0,0) _ rfl b1 underlying217 rfl (by rw[fP,q.o];exact sB)) rfl ?_;exact⟨Oi,b2⟩
def vl (w:World):jW 317 #[] w fun e W=>e= .returned (.agg (bT oL))/\jb w W:=by
 refine YR ?_;refine Qf ?_;refine Nh (v:= .agg #[.int .u32 1779033703,.int .u32 3144134277,.int .u32 1013904242,.int .u32 2773480762,.int .u32 1359893119,.int .u32 2600822924,.int .u32 528734635,.int .u32 1541459225]) (Pb (p:=0) (ty:=381) rfl _ _ w 381 _ (0,0) _ rfl Oa underlying381 rfl ef) rfl ?_;exact⟨rfl,aR⟩
def vk (a:Option Addr) (cap:Nat) (l:List Int) (w:World) (hl:aB w 1 dG a cap l) (I:l.length<=10000):
  jW 386 #[js a l cap] w fun e g=> ∃v,e= .returned v/\g.ownsRow w 5 1 v l (l.flatMap dR)/\jb w g:=by
 have q:=fun w a n c y C=>Go.Lib.run_eql_slice_nil w _ _ a n c y C underlying22;obtain⟨i0,z,i,o,r⟩:=Se nD;cases a with
 | none=>
  have h0:l=[]:=by
   cases l with
   | nil=>rfl
   | cons c l=>obtain⟨b,off,J,e,_⟩:=hl.at_ 0 ee;cases e
  subst h0;go_in;refine ei ?_;exact Zm
 | some ad=>
  by_cases h0:l=[]
  ·subst h0;go_in;refine ei ?_;exact⟨_,rfl,Si w #[] 0 ep (Pe _) ee,aR⟩
  refine Ey fun b off _ e=>?_;cases e;have HR:=hI (mq (f:=dR) hl (fun _ _=>rfl) (fun _ _ h=>h) eh);have A:Hid ((l.flatMap dR).length=l.length * 1):=pC _ 1 l (fun _ _=>rfl)
  have H1:Hid (∀u∈l.flatMap dR,u.oneCell'=true):=by
   intro u B;obtain⟨x,-,hx⟩:=Su.1 B;exact yW x u hx
  have D:Hid (∀(v:Value) (W:World),W.ownsRow w 5 1 v (0+l.length) ([]++l.flatMap dR)->W.ownsRow w 5 1 v l (l.flatMap dR)):=fun v W h=>by rw[Pa]at h;exact h
  generalize hq:l.flatMap dR=N at *
  have E:Hid (∀j u,N[j]? =some u->(w.alloc (.cells #[] 5)).cell? ((⟨b,off,none⟩:Addr).add j)=some u):=fun j u hj=>by
   rw[Fn];exact(((Nb w w).alloc ep _).cell (p:=⟨b,off+j,none⟩) Xx).trans (HR j u hj)
  have s:=hI (List.length_pos_iff.2 h0);clear hl h0;go_in;go_wp2_with (at_builtin;refine wpList_append_own_at _ rfl _ _ 22 rfl w 5 i0 (.int .u8 0) 1 1 underlying22 z i o r rfl eh _ _ _ rfl (Si w #[] 0 ep (Pe _) ee) ⟨b,off,none⟩ l cap N rfl A E H1 Oq ed ee ?_;intro v' g d H t F);have H:(w.alloc (.cells #[] 5)).grownBy g (some w):=H;go_ret;exact⟨_,rfl,D _ _ d,(((Nb _ w).alloc ep _).grown H ee Xn)⟩
def vj (n m k:Nat) (h:k<m):(gH n m).take (k+1)=(gH n m).take k++[((n / 256 ^ (m-1-k) % 256:Nat):Int)]:=by
 have H: ∀m k,(h:k<m)->(gH n m)[k]? =some ((n / 256 ^ (m-1-k) % 256:Nat):Int):=by
  intro m
  induction m with
  | zero=>intro k h;omega
  | succ m i=>
   intro k h;rw[gH];cases k with
   | zero=>simp
   | succ k=>rw[Nt,i k ed,show m+1-1-(k+1)=m-1-k by omega]
 have hl:k<(gH n m).length:=by rw[qS];exact h
 have:=H m k h;rw[Nf hl]at this;rw[Dc hl,Pq this]
theorem OB (base:Nat) (xs:List Int) (a:Option Addr) (c n M:Nat) (w:World) (hb:w.ownsRow base 5 1 (js a xs c) xs (xs.flatMap dR)) (ho:base<=w.heap.size) (N:n<=4611686018427387904) (T:M<=8) (hx:xs.length<=90000):
  jW 321 #[js a xs c,.int .u64 n,M] w fun e W=> ∃G I,e= .returned (js G (xs.length+M) I)/\W.ownsRow base 5 1 (js G (xs.length+M) I) (xs.length+M) ((xs++gH n M).flatMap dR)/\Below base w W:=by
 have u:Hid (∀k,k<M->xs++(gH n M).take (k+1)=(xs++(gH n M).take k)++[((n / 256 ^ (M-1-k) % 256:Nat):Int)]):=fun k J=>by rw[vj n M k J,Dk]
 have y:Hid (xs++(gH n M).take M=xs++gH n M):=by show _=_;rw[Sk (by rw[qS];exact Mv _)]
 have HRL:Hid (xs++(gH n M).take 0=xs):=by show _=_;simp
 generalize hF:(fun k=>xs++(gH n M).take k)=F at *;replace u:Hid (∀k,k<M->F (k+1)=F k++[((n / 256 ^ (M-1-k) % 256:Nat):Int)]):=by subst hF;exact u
 replace y:Hid (F M=xs++gH n M):=by subst hF;exact y
 replace HRL:Hid (F 0=xs):=by subst hF;exact HRL
 refine Qa fun G9 O=>?_;clear hF hb ho;obtain⟨L,z⟩: ∃L,L=xs.length:=⟨_,rfl⟩;rw[<-z]at G9 hx ⊢;have P:=hI z;clear z;go_in;go_wp2_with fail;go_loopg [0,7] M (fun g v i wr=> ∃(k:Nat) (x:Int) (B:Option Addr) (d:Nat),k<=M/\x=((M-k:Nat):Int)-1/\g=M-k/\i= jV x/\v= .slice B (L+k) d/\Below base w wr/\wr.ownsRow base 5 1 (js B (L+k) d) (L+k) ((F k).flatMap dR))
 ·exact⟨0,(M:Int)-1,a,c,Pe _,ee,ed,ej,rfl,Nb _ _,Ox⟩
 obtain⟨k,x,B,d,J,o,rfl,rfl,rfl,t,A⟩:=hrel;have p:=hI t;have H:=hI A;by_cases b:k<M
 ·obtain⟨j,hj⟩: ∃j,j=M-1-k:=⟨_,rfl⟩;obtain rfl:x=(j:Int):=ed;have hd:decide ((0:Int)<=(j:Int))=true:=ee;have f:=hI (u k b);rw[<-hj]at f;have Q:j<8:=ed;have q0:8 * (j:Int)=((8 * j:Nat):Int):=ed;have q1:min (8 * j) 64=8 * j:=by omega
  have q2:(n:Int) / 2 ^ (8 * j)=((n / 256 ^ j:Nat):Int):=by
   rw[show(2:Int) ^ (8 * j)=((256 ^ j:Nat):Int)by rw[Int.pow_mul];simp];simp
  have q3:n / 256 ^ j<=4611686018427387904:=Nj (Ik _ _) N;generalize n / 256 ^ j=m at *;have K:Hid (((m % 256:Nat):Int)=(m:Int) % 256):=(by show _=_;omega);rw[K.o]at f;clear K;have r:=Nj O t.size;have C:L+k<=100000:=ed;have HLT:=hI b;have R:=hI hj;have q5:8 * j<=64:=ed;generalize 8 * j=q at *;clear t A o b hj;go_wp2_with (at_builtin;refine nK rfl _ _ 22 5 5 _ 1 1 rfl underlying22 nD rfl eh eh base (js B (L+k) d) (L+k) _ rfl H C r [.int .u8 ((m:Int) % 256)] rfl rfl (tY _) ?_;intro b8 c8 w8 l s);have D:=(p.alloc r _).trans (dT (H.alloc _) ep em s)
  have E:w8.ownsRow base 5 1 (jq b8 0 (L+k+1) c8) (L+k+1) ((F (k+1)).flatMap dR):=by
   rw[f.o,Dg];exact l
  go_roundg (M-(k+1))
  ·have:=HLT.o;have:=R.o;go_light;exact⟨k+1,(j:Int)-1,some ⟨b8,0,none⟩,c8,ed,ed,ed,ej,rfl,D,E⟩
  exact Vx
 obtain rfl:k=M:=ed;obtain rfl:x= -1:=ed;have hd:decide ((0:Int)<= -1)=false:=eh;clear o t A;refine ei ?_;exact⟨B,d,rfl,by rw[<-y.o];exact H,p⟩
theorem uz (b:List Int) (a:Option Addr) (c:Nat) (w:World) (hl:aB w 1 dG a c b) (G:b.length<=6000):
  jW 319 #[js a b c] w fun e W=> ∃A s,e= .returned (js A (iB b).length s)/\cM W w (js A (iB b).length s) (iB b)/\jb w W:=by
 have I:=hI (vk a c b w hl ed);clear hl;go_in;go_upto_region 2 with(first | (go_at_call 386;refine I.mono ?_;rintro e W1 ⟨v,rfl,ho,hb⟩;obtain⟨a1,c1,rfl⟩:=iG ho;refine Qa fun K1 O=>?_;have h1:=hb.size;clear ho hb) | (at_builtin;refine nK rfl _ _ 22 5 5 _ 1 1 rfl underlying22 nD rfl eh eh w (js a1 b c1) b _ rfl O ed h1 [.int .u8 128] rfl rfl (tY 128) ?_;intro b8 c8 W2 n6 f))
 have K2:=hI ((K1.alloc h1 _).trans (dT (O.alloc _) ep em f));obtain⟨F,hF⟩: ∃F:Nat->List Int,F=fun m=>jS b (m-(b.length+1)):=⟨_,rfl⟩
 have HF0:Hid (W2.ownsRow w 5 1 (jq b8 0 (b.length+1) c8) (b.length+1) ((F (b.length+1)).flatMap dR)):=by
  exact YP
 have t:Hid (∀m,b.length+1<=m->F (m+1)=F m++[0]):=fun m G=>by
  exact Ra
 obtain⟨M,hM⟩: ∃M,M=b.length+1+nJ b:=⟨_,rfl⟩
 have l:Hid (iB b=F M++gH (8 * b.length) 8):=by
  exact Rh
 have HRL:Hid ((F M).length=M):=by
  exact Rm
 have HM1:Hid (b.length+1<=M/\M<=7000/\M % 64=56/\ ∀m,b.length+1<=m->m<M->m % 64≠56):=by
  unfold nJ at hM;exact⟨ed,ed,ed,fun m h1 h2=>by omega⟩
 clear hF hM n6 f O K1 h1;go_loopg [3] (M-(b.length+1)) (fun g r wr=> ∃(m:Nat) (B:Option Addr) (d:Nat),b.length+1<=m/\m<=M/\g=M-m/\r= .slice B m d/\jb w wr/\wr.ownsRow w 5 1 (js B m d) m ((F m).flatMap dR))
 ·exact Mm
 obtain⟨m,B,d,H,n,rfl,rfl,hb,ho⟩:=hrel;refine Qa fun E G9=>?_;have i:=hb.size;have J:=HM1.2.1;clear hb ho;by_cases j:m<M
 ·have u:=HM1.2.2.2 m H j;have hd:(((m:Int) % 64:Int) != 56)=true:=em;have K:=hI (t m H);have HL:=hI j;have o:=hI H;clear j H n;go_wp2_with (at_builtin;refine nK rfl _ _ 22 5 5 _ 1 1 rfl underlying22 nD rfl eh eh w (js B m d) m _ rfl G9 Qm i [.int .u8 0] rfl rfl (tY 0) ?_;intro b9 c9 w9 k p);have x:=(E.alloc i _).trans (dT (G9.alloc _) ep em p)
  have y:w9.ownsRow w 5 1 (jq b9 0 (m+1) c9) (m+1) ((F (m+1)).flatMap dR):=by
   rw[K.o,Dg];exact k
  go_roundg (M-(m+1))
  ·have:=HL.o;have:=o.o;go_light;exact⟨m+1,some ⟨b9,0,none⟩,c9,ed,ed,rfl,rfl,x,y⟩
  have:=HL.o;go_light;omega
 obtain rfl:m=M:=ed;have u:(((m:Int) % 64:Int) != 56)=false:=(by have:=HM1.2.2.1;simp;omega);have C:=OB w (F m) B d (8 * b.length) 8 wr Ox i ed eh (by rw[HRL.o];omega);rw[HRL.o,<-l.o]at C;have HE:Hid ((iB b).length=m+8):=(by show _=_;rw[l.o,Mx,HRL.o,qS]);obtain⟨q,hq⟩: ∃q,q=8 * b.length:=⟨_,rfl⟩;rw[<-hq]at C;have e8:(8:Int) * (b:Int)=(q:Int):=ed;have L:q<=48000:=ed;have N:=hI C;clear C hq H n;go_wp2_with (go_at_call 321;refine N.mono ?_;rintro e W3 ⟨A,s,rfl,ho,hb⟩;have z:=hI ho;have D:=hI (E.trans hb);clear ho hb);go_ret;exact⟨A,s,ew,by rw[cM,HE.o];exact z,D⟩
def FC {o:Oper}(d:o.guard=none) (s x:Operand)
  (g:o.op= .call {callee:= .builtin .append,args:=#[s,x],argTypes:=#[22,22]}) (base:Nat) (v:Value) (xs:List Int) (i:a.eval s=v) (e:aO xs) (b:cM w base v xs)
  (a0:Option Addr) (cap:Nat) (l:List Int) (hx:a.eval x= .slice a0 l cap) (hl:aB w 1 dG a0 cap l) (f:aO l) (j:xs.length+l.length<=1000000) (H:base<=w.heap.size)
  (h: ∀A c W,cM W base (js A (xs++l).length c) (xs++l)->w.grownBy W v.ownBlock->wpList prog ops Q rest (a.put o.dst (js A (xs++l).length c)) W):wpList prog ops Q (o::rest) a w:=by
 refine OD d s x g base v xs i e b a0 cap l hx hl f j H fun A c W h1 h2=> ?_;have:=h A c W (by unfold cM;rw[Mx];exact h1) h2
 rwa [Mx]at this
def uy (n:Nat) (w:World) (g:n<=12000):
  jW 322 #[jN,jV (n:Int)] w fun e W=> ∃v,e= .returned v/\W.ownsRow w 5 1 v 0 []/\jb w W:=by
 have c0:=aQ n
 have t0:decide ((n:Int)<0)=false:=ee
 by_cases h:n=0
 ·subst h;go_in;refine ei ?_;exact Zm
 have t1:decide (0<(n:Int))=true:=by simp;omega
 have t2:decide (0<n)=true:=em
 obtain⟨i0,d,b,T4,hz2⟩:=Se nD
 obtain⟨C,row,H,f,c,a⟩: ∃(C:Nat) (row:Array Value),(∀ty,(Builtin.append_ #[22,3] ty #[jN,jV (n:Int)]).run prog w= .ok (jq w 0 n C) (w.drew.alloc (.cells row 5)))/\n<=C/\C<=maxLen/\row.size=C:=by
  have h1:=grownCap_ge w n 0 5;refine⟨grownCap w n 0 5,_,fun ty=>Go.Lib.run_append_nil_zeros w 22 3 ty 5 i0 (.int .u8 0) .i64 .i64 underlying22 underlying3 d b n ed Vm ed XY,h1,grownCap_le_maxLen w n 0 5 Oq,?_⟩;simp[Builtin.zeroCells,Value.cells];omega
 have H:=H 22;have d0:(C:Int)≥0:=ed
 go_in;go_wp2_with (at_builtin;refine Go.Lib.wpList_append_run _ rfl _ _ _ _ rfl _ _ rfl rfl _ _ H ?_);go_ret;refine⟨_,rfl,⟨rfl,.inr ⟨w,C,row,rfl,Mv _,Nc _ _,Pe _,c,by rw[a,Tb],rfl⟩⟩,(Nb _ w).drew.alloc ep _⟩
theorem ux (b:Nat) (D F:Option Addr) (G I:Nat) (l1 l2:List Int) (w:World) (h0:jc w b 0 (js D l1 G)) (h1:jc w b 1 (js F l2 I)) (k1:aB w 1 dG D G l1) (k2:aB w 1 dG F I l2) (hi:aO l1) (y:aO l2) (T:l1.length<=6000) (U:l2.length<=6000):
  jW 227 #[jq b 0 2 2] w fun e W=> ∃a c,e= .returned (js a (l1++l2).length c)/\cM W w (js a (l1++l2).length c) (l1++l2)/\jb w W:=by
 have Q:Hid (∃(sz:Nat->Nat) (C:Nat->List Int),sz 0=0/\sz 2=(l1++l2).length/\C 0=[]/\C 2=l1++l2/\(∀k,k<=2->sz k<=12000/\(C k).length=sz k/\aO (C k))/\ ∀k,k<2-> ∃(a:Option Addr) (c:Nat) (l:List Int),(∀W,jb w W->jc W b k (js a l c)/\aB W 1 dG a c l)/\aO l/\sz (k+1)=sz k+l.length/\C (k+1)=C k++l):=by
  refine⟨fun k=>if k=0 then 0 else if k=1 then l1.length else(l1++l2).length,fun k=>if k=0 then []else if k=1 then l1 else l1++l2,rfl,rfl,rfl,rfl,fun k ho=> ?_,fun k ho=> ?_⟩
  ·rcases(show k=0\/k=1\/k=2 by omega)with rfl | rfl | rfl
   ·exact⟨ee,ee,fun x hx=>by simp at hx⟩
   ·exact⟨em,ee,Og⟩
   exact⟨em,ee,by simpa using hi.app y⟩
  rcases(show k=0\/k=1 by omega)with rfl | rfl
  ·exact⟨D,G,l1,fun W f=>⟨aP f h0,k1.below fS f⟩,hi,ee,ee⟩
  exact⟨F,I,l2,fun W f=>⟨aP f h1,k2.below fS f⟩,y,ee,ee⟩
 have lb:=My _ _ h0;clear h0 h1 k1 k2;obtain⟨sz,C,z0,z2,y0,y,hb,ho⟩:=Q.o;refine Qa fun d r=>?_;have V:=hI y;rw[<-y];have s:=(hb 2 ed).2.1;have X:=hI z2;have Y:=hI s;clear Q hb ho y z2 s;go_in;go_wp2_with fail;go_loopg [3,11] 2 (fun g i j wr=> ∃k:Nat,k<=2/\g=2-k/\i= jV (sz k)/\j= jV k/\w=wr)
 ·exact⟨0,ed,ed,by rw[z0];rfl,rfl,rfl⟩
 obtain⟨k,ho,rfl,rfl,rfl,rfl⟩:=hrel;by_cases o:k<2
 ·have p:decide ((k:Int)<2)=true:=em;obtain⟨a,c,l,q,n,J,E⟩:=r k o;have x0:=(q _ Qy).1;have e0:=aQ k;have e3:(k:Int)<2:=ed;have A:=d (k+1) ed;have t0:decide (((sz k:Nat):Int)+(l:Int)<0)=false:=em;have b1:sz k+l.length<=12000:=ed;clear q E n;go_wp2_with fail;go_roundg (2-(k+1))
  ·go_light;exact⟨k+1,ed,ed,by rw[J];go_num,ej,rfl⟩
  go_light;omega
 obtain rfl:k=2:=ed;have p:decide ((2:Int)<2)=false:=rfl;have A:=(d 2 ed).1;go_wp2_with fail;refine(uy (sz 2) _ ed).mono ?_;rintro e w1 ⟨v,rfl,H,t⟩;have K:=hI t;have u:Hid (cM w1 w v (C 0)):=(by show cM _ _ _ _;rw[y0];exact H);obtain⟨va,Z,rfl⟩:=iG u;clear H t A;go_wp2_with fail;go_loopg [6,27] 2 (fun g i j wr=> ∃(k:Nat) (a:Option Addr) (c:Nat),k<=2/\g=2-k/\i= .slice a (C k).length c/\j= jV k/\jb w wr/\cM wr w (js a (C k).length c) (C k))
 ·exact⟨0,va,Z,ed,ed,by rw[y0];rfl,rfl,K,u⟩
 obtain⟨k,a,c,ho,rfl,rfl,rfl,f,R⟩:=hrel;have B:=hI f;have L:=hI R;have z:=f.size;clear f R;by_cases o:k<2
 ·have p:decide ((k:Int)<2)=true:=em;obtain⟨a0,a1,l,q,n,J,E⟩:=r k o;have x0:=(q _ B).1;have a2:=hI (q _ B).2;have e0:=aQ k;have e3:(k:Int)<2:=ed;have A:=(d (k+1) ed).1;have M:=(d k ed).2.1;have HE2:=hI E;have N:=hI n;clear n;have O:(C k).length+l.length<=1000000:=ed;clear q E J A M;go_wp2_with (at_builtin;refine FC rfl _ _ rfl w _ (C k) rfl (d k ed).2.2 L a0 a1 l rfl a2 N O z ?_;intro a3 c3 w3 H P);rw[<-HE2.o]at H;go_roundg (2-(k+1))
  ·go_light;exact⟨k+1,a3,c3,ed,ed,YC,ej,B.trans (dT L ep z P),H⟩
  go_light;omega
 obtain rfl:k=2:=ed;have p:decide ((2:Int)<2)=false:=rfl;refine ei ?_;exact⟨a,c,rfl,L,B⟩
def uw {o:Oper}(h:ops[i]? =some o) (hgd:o.guard=none) (x:Operand) (H:o.op= .load 291 x)
  (g:Nat) (hx:a.eval x= .pointer (some ⟨g,0,none⟩)) (t:TypeId) (cs:Array Value) (fr:Nat × Nat) (b:w.heap[g]? =some (.cells cs t fr)) (c:(prog.info? 291).map (·.size)=some cs.size)
  (d:K (a.put o.dst (.agg cs)) w):wpOp prog ops Q i K a w:=by
 unfold wpOp;rw[h];have e:Region.wanted o (yielded ops a.tmps)=true:=by simp[Region.wanted,hgd]
 simp only[e,Hq];exact .inl (Ha 291 x H g hx t cs fr _ b underlying291 rfl c d)
def OA {o:Oper}(h:ops[i]? =some o) (hgd:o.guard=none) (x:Operand) (H:o.op= .load 381 x)
  (g:Nat) (hx:a.eval x= .pointer (some ⟨g,0,none⟩)) (t:TypeId) (cs:Array Value) (fr:Nat × Nat) (b:w.heap[g]? =some (.cells cs t fr)) (c:(prog.info? 381).map (·.size)=some cs.size)
  (d:K (a.put o.dst (.agg cs)) w):wpOp prog ops Q i K a w:=by
 unfold wpOp;rw[h];have e:Region.wanted o (yielded ops a.tmps)=true:=by simp[Region.wanted,hgd]
 simp only[e,Hq];exact .inl (Ha 381 x H g hx t cs fr _ b underlying381 rfl c d)
def uv (a:Wd):bits .xor .u32 (if IntKind.u32.signed=true then-1 else IntKind.u32.max) (a.toNat:Int)=((wM a).toNat:Int):=by
 show IntKind.u32.wrap (((BitVec.ofInt 32 4294967295 ^^^ BitVec.ofInt 32 (a.toNat:Int)).toNat:Nat):Int)=_;rw[uI,CA,show BitVec.ofInt 32 4294967295=BitVec.allOnes 32 from rfl,BitVec.allOnes_xor];rfl
def vD:V8:=⟨0,0,0,0,0,0,0,0⟩
structure sI (W0:World) (X:V8) (KA WA LA:Array Value) (f:Nat->Bool) (s15 s16 s17 s18 s5 s6 s7:Value) (W:World):Prop where
 bel:jb W0 W
 h0:f 0=true->s15= .agg KA
 h1:f 1=true->s16= .agg LA
 h2:f 2=true->s17= .agg WA
 h3:f 3=true->s18= .agg (bT X)
 h4:f 4=true-> ∃g,s5= .pointer (some ⟨g,0,none⟩)/\W0.heap.size<=g/\jk W g (if f 7=true then KA else fE []) 452
 h5:f 5=true-> ∃g,s6= .pointer (some ⟨g,0,none⟩)/\W0.heap.size<=g/\jk W g (if f 8=true then WA else fE []) 452
 h6:f 6=true-> ∃g,s7= .pointer (some ⟨g,0,none⟩)/\W0.heap.size<=g/\jk W g (if f 9=true then bT X else bT vD) 381
 n45:f 4=true->f 5=true->s5≠s6
 q7:f 7=true->f 4=true/\f 5=true/\f 6=true
 q8:f 8=true->f 7=true
 q9:f 9=true->f 8=true
def sI.below {W0:World}{X:V8}{K w LA:Array Value}{f:Nat->Bool}{s a s17 b s5 s6 s7:Value}{W':World}(h:sI W0 X K w LA f s a s17 b s5 s6 s7 W) (H:jb W W'):sI W0 X K w LA f s a s17 b s5 s6 s7 W':=
 {h with
  bel:=jt h.bel H
  h4:=fun k=>by obtain⟨g,h1,h2,h3⟩:=h.h4 k;exact⟨g,h1,h2,(jm H h3)⟩
  h5:=fun k=>by obtain⟨g,h1,h2,h3⟩:=h.h5 k;exact⟨g,h1,h2,(jm H h3)⟩
  h6:=fun k=>by obtain⟨g,h1,h2,h3⟩:=h.h6 k;exact⟨g,h1,h2,(jm H h3)⟩}
def NZ {o:Obj}(h:W.heap[g]? =some o):Value.pointer (some (⟨g,0,none⟩:Addr))≠ .pointer (some ⟨W,0,none⟩):=fun e=>by
 have hl:=aD h
 injection e with e1
 injection e1 with e2
 injection e2 with e3
 omega
theorem uu (X:V8) (l:List Int) (hl:l.length=64) (b9:aO l) (w:World):
  jW 320 #[.agg (bT X),.agg (bC l)] w fun e g5=>e= .returned (.agg (bT (qX X (kW l 0))))/\jb w g5:=by
 have d8:=hI fun W=>vq l hl b9 W;have d9:Hid ((bC l).size=64):=by show _=_;rw[fP,hl]
 have c0:=TC l 0;generalize kW l 0=ws at *;generalize bC l=LA at *;have HRL:=hI c0;clear hl b9 c0;go_in;go_upto_region 1 with fail;generalize a0:World.alloc (World.alloc (World.alloc _ _) _) _=W0;have f8:=hI (yA a0)
 have X0:=hI (jD a0)
 have L0:=hI (jE a0)
 have e0:Hid (jk W0 (w+1+1) (bT vD) 381):=by show _=_;rw[<-a0];exact OK _ _ _ _
 clear a0;obtain⟨a1,a2⟩: ∃a1,a1=(eJ gF).toArray:=⟨_,rfl⟩;obtain⟨a3,a4⟩: ∃a3,a3=(eJ ws).toArray:=⟨_,rfl⟩;have e1:=hI zo;rw[<-a4]at d8;rw[<-a2]at e1;have H1:Hid (a1.size=64):=by show _=_;rw[a2];kernel_rfl
 have H2:Hid (a3.size=64):=by show _=_;rw[a4];simp[eJ,HRL.o]
 have H4:Hid (a1.all (·.oneCell')=true):=by show _=_;rw[a2];kernel_rfl
 have H5:Hid (a3.all (·.oneCell')=true):=by show _=_;rw[a4];simp[eJ,Value.oneCell']
 have e5:Hid (∀i,i<64->a1[i]? =some (.int .u32 (gF.getD i 0).toNat)):=fun i G9=>by rw[a2];have h2:i<gF.length:=G9;simp[eJ,Na,h2]
 have e6:Hid (∀i,i<64->a3[i]? =some (.int .u32 (ws.getD i 0).toNat)):=fun i G9=>by
  rw[a4];have h2:i<ws.length:=Ox
  simp[eJ,Na,h2]
 clear a2 a4;refine tN ef ef (fun f a j=> ∃z C s17 A s5 s6 s7:Value,a={tmps:=#[.agg (bT X),.agg LA,.pointer (some ⟨w,0,none⟩),.pointer (some ⟨w+1,0,none⟩),.pointer (some ⟨w+1+1,0,none⟩),s5,s6,s7,undef,undef,undef,undef,undef,undef,undef,z,C,s17,A,undef,undef,undef,undef,undef,undef,undef,undef,undef,undef,undef,undef,undef,undef,undef,undef,undef,undef,undef,undef,undef,undef,undef,undef,undef,undef,undef,undef,undef,undef,undef,undef,undef,undef,undef,undef,undef,undef,undef,undef,undef,undef,undef,undef,undef,undef,undef,undef,undef,undef,undef,undef,undef,undef,undef,undef,undef,undef,undef,undef,undef,undef,undef,undef,undef,undef,undef,undef,undef,undef,undef,undef,undef,undef,undef,undef,undef,undef,undef,undef,undef,undef,undef],defers:=[]}/\sI W0 X a1 a3 LA f z C s17 A s5 s6 s7 j) ?_ ?_ ?_
 ·exact⟨_,_,_,_,_,_,_,rfl,{bel:=⟨rfl,rfl,rfl,Mv _,fun _ _=>rfl⟩,h0:=by simp,h1:=by simp,h2:=by simp,h3:=by simp,h4:=by simp,h5:=by simp,h6:=by simp,n45:=by simp,q7:=by simp,q8:=by simp,q9:=by simp}⟩
 ·intro i o d f a j b0 hd T4;obtain⟨z,C,s17,A,s5,s6,s7,rfl,b⟩:=b0;have hb:=jm b.bel X0;have ho:=jm b.bel L0;refine Qa fun e7 e8=>?_;clear hb ho;rcases i with _ | _ | _ | _ | _ | _ | _ | _ | _ | _ | i
  ·simp at d;subst d;simp[wpOp,go_sem];refine .inl ((e1 j).mono ?_);refine Qe fun V e9=>?_;simp[go_sem];exact⟨.agg a1,C,s17,A,s5,s6,s7,ee,{sI.below b e9 with h0:=fun _=>rfl}⟩
  ·have q:=d;simp at q;subst q;refine uw d rfl (.tmp 3) rfl (w+1) rfl 291 LA (0,0) e8 (by rw[d9.o];kernel_rfl) ?_;exact⟨z,.agg LA,s17,A,s5,s6,s7,rfl,{b with h1:=fun _=>rfl}⟩
  ·simp at d;subst d;have d1:=hd ⟨1,.data⟩ ee ev;obtain rfl:=b.h1 d1;simp[wpOp,go_sem];refine .inl ((d8 j).mono ?_);refine Qe fun _ e9=>?_;simp[go_sem];exact⟨z,_,.agg a3,A,s5,s6,s7,ee,{sI.below b e9 with h2:=fun _=>rfl}⟩
  ·have q:=d;simp at q;subst q;refine OA d rfl (.tmp 2) rfl w rfl 381 (bT X) (0,0) e7 Vp ?_;exact⟨z,C,s17,.agg (bT X),s5,s6,s7,rfl,{b with h3:=fun _=>rfl}⟩
  ·simp at d;subst d;have E:f 7=true->False:=fun k=>by have:=(fun k=>(b.q7 k).1) k;rw[T4]at this;cases this
   have hf: ¬f 7=true:=fun k=>E k;have r8:(j.alloc (.cells (fE []) 452)).heap[j.heap.size]? =some (.cells (if f 7=true then a1 else fE []) 452 (0,0)):=Yn;have b8:jb j (j.alloc (.cells (fE []) 452)):=aR;have hz:=b.bel.size;rw[yH]at r8 b8;have R8:=hI r8;have B8:=hI b8;clear r8 b8;refine Ot ?_;exact⟨z,C,s17,A,.pointer (some ⟨j,0,none⟩),s6,s7,ee,{sI.below b B8 with h4:=fun _=>⟨_,rfl,hz,R8⟩,n45:=fun _ k=>by obtain⟨g,rfl,-,h3⟩:=b.h5 k;exact(NZ h3).symm,q7:=fun k=>(E k).elim}⟩
  ·simp at d;subst d;have E:f 7=true->False:=fun k=>by have:=(fun k=>(b.q7 k).2.1) k;rw[T4]at this;cases this
   have hf: ¬f 8=true:=fun k=>E (b.q8 k);have r8:(j.alloc (.cells (fE []) 452)).heap[j.heap.size]? =some (.cells (if f 8=true then a3 else fE []) 452 (0,0)):=Yn;have b8:jb j (j.alloc (.cells (fE []) 452)):=aR;have hz:=b.bel.size;rw[yH]at r8 b8;have R8:=hI r8;have B8:=hI b8;clear r8 b8;refine Ot ?_;exact⟨z,C,s17,A,s5,.pointer (some ⟨j,0,none⟩),s7,ee,{sI.below b B8 with h5:=fun _=>⟨_,rfl,hz,R8⟩,n45:=fun k _=>by obtain⟨g,rfl,-,h3⟩:=b.h4 k;exact NZ h3,q7:=fun k=>(E k).elim}⟩
  ·simp at d;subst d;have E:f 7=true->False:=fun k=>by have:=(fun k=>(b.q7 k).2.2) k;rw[T4]at this;cases this
   have hf: ¬f 9=true:=fun k=>E (b.q8 (b.q9 k));have r8:(j.alloc (.cells (bT vD) 381)).heap[j.heap.size]? =some (.cells (if f 9=true then bT X else bT vD) 381 (0,0)):=Yn;have b8:jb j (j.alloc (.cells (bT vD) 381)):=aR;have hz:=b.bel.size;rw[show bT vD=#[.int .u32 0,.int .u32 0,.int .u32 0,.int .u32 0,.int .u32 0,.int .u32 0,.int .u32 0,.int .u32 0]from rfl]at r8 b8;have R8:=hI r8;have B8:=hI b8;clear r8 b8;refine Ot ?_;exact⟨z,C,s17,A,s5,s6,.pointer (some ⟨j,0,none⟩),ee,{sI.below b B8 with h6:=fun _=>⟨_,rfl,hz,R8⟩,q7:=fun k=>(E k).elim}⟩
  ·have q:=d;simp at q;subst q;have D:f 4=true/\f 5=true/\f 6=true:=⟨hd ⟨4,.data⟩ ee ev,hd ⟨5,.phase⟩ ee ev,hd ⟨6,.phase⟩ ee ev⟩;have c1:=hd ⟨0,.data⟩ ee ev;obtain rfl:=b.h0 c1;obtain⟨F,rfl,J,e2⟩:=b.h4 D.1;obtain⟨I,rfl,L,e3⟩:=b.h5 D.2.1;obtain⟨G,rfl,eB,eA⟩:=b.h6 D.2.2;have n45:F≠I:=fun e=>b.n45 D.1 D.2.1 Qn;have eq:F≠G:=fun e=>by rw[e,eA]at e2;exact absurd (Tq (Pq e2)).2.1 eh
   have e4:I≠G:=fun e=>by rw[e,eA]at e3;exact absurd (Tq (Pq e3)).2.1 eh
   have c2: ¬f 7=true:=Vm;have a5:=e2;rw[Nm c2]at a5;refine kG d rfl 452 (.tmp 5) (.tmp 15) rfl F (a1) rfl rfl 452 _ a5 (by rw[H1.o];exact yI) (by rw[H1.o];exact AV ee) H4 ?_;have bb:jb W0 (j.setRow F (a1)):=b.bel.trans ⟨rfl,rfl,rfl,Qx,fun k c3=>Nq _ _ _ _ ed⟩;refine⟨_,_,_,_,_,_,_,rfl,{b with bel:=bb,h4:=fun _=>⟨F,rfl,J,(by have:=Dp j F _ (a1) _ _ a5;simpa using this)⟩,h5:=fun _=>⟨I,rfl,L,((Nq _ _ _ _ ed).trans e3)⟩,h6:=fun _=>⟨G,rfl,eB,((Nq _ _ _ _ ed).trans eA)⟩,q7:=fun _=>D,q8:=fun k=>rfl}⟩
  ·have q:=d;simp at q;subst q;have f9:=hd ⟨7,.chain⟩ ee ev;have D:=b.q7 f9;have c1:=hd ⟨2,.data⟩ ee ev;obtain rfl:=b.h2 c1;obtain⟨F,rfl,J,e2⟩:=b.h4 D.1;obtain⟨I,rfl,L,e3⟩:=b.h5 D.2.1;obtain⟨G,rfl,eB,eA⟩:=b.h6 D.2.2;have n45:F≠I:=fun e=>b.n45 D.1 D.2.1 Qn;have eq:F≠G:=fun e=>by rw[e,eA]at e2;exact absurd (Tq (Pq e2)).2.1 eh
   have e4:I≠G:=fun e=>by rw[e,eA]at e3;exact absurd (Tq (Pq e3)).2.1 eh
   have c2: ¬f 8=true:=Vm;have a5:=e3;rw[Nm c2]at a5;refine kG d rfl 452 (.tmp 6) (.tmp 17) rfl I (a3) rfl rfl 452 _ a5 (by rw[H2.o];exact yI) (by rw[H2.o];exact AV ee) H5 ?_;have bb:jb W0 (j.setRow I (a3)):=b.bel.trans ⟨rfl,rfl,rfl,Qx,fun k c3=>Nq _ _ _ _ ed⟩;refine⟨_,_,_,_,_,_,_,rfl,{b with bel:=bb,h4:=fun _=>⟨F,rfl,J,((Nq _ _ _ _ ed).trans e2)⟩,h5:=fun _=>⟨I,rfl,L,(by have:=Dp j I _ (a3) _ _ a5;simpa using this)⟩,h6:=fun _=>⟨G,rfl,eB,((Nq _ _ _ _ ed).trans eA)⟩,q8:=fun _=>f9,q9:=fun k=>rfl}⟩
  ·have q:=d;simp at q;subst q;have g0:=hd ⟨8,.chain⟩ ee ev;have D:=b.q7 (b.q8 g0);have c1:=hd ⟨3,.data⟩ ee ev;obtain rfl:=b.h3 c1;obtain⟨F,rfl,J,e2⟩:=b.h4 D.1;obtain⟨I,rfl,L,e3⟩:=b.h5 D.2.1;obtain⟨G,rfl,eB,eA⟩:=b.h6 D.2.2;have n45:F≠I:=fun e=>b.n45 D.1 D.2.1 Qn;have eq:F≠G:=fun e=>by rw[e,eA]at e2;exact absurd (Tq (Pq e2)).2.1 eh
   have e4:I≠G:=fun e=>by rw[e,eA]at e3;exact absurd (Tq (Pq e3)).2.1 eh
   have c2: ¬f 9=true:=Vm;have a5:=eA;rw[Nm c2]at a5;refine kG d rfl 381 (.tmp 7) (.tmp 18) rfl G (bT X) rfl rfl 381 _ a5 Vp rfl (sT _) ?_;have bb:jb W0 (j.setRow G (bT X)):=b.bel.trans ⟨rfl,rfl,rfl,Qx,fun k c3=>Nq _ _ _ _ ed⟩;refine⟨_,_,_,_,_,_,_,rfl,{b with bel:=bb,h4:=fun _=>⟨F,rfl,J,((Nq _ _ _ _ ed).trans e2)⟩,h5:=fun _=>⟨I,rfl,L,((Nq _ _ _ _ ed).trans e3)⟩,h6:=fun _=>⟨G,rfl,eB,(by have:=Dp j G _ (bT X) _ _ a5;simpa using this)⟩,q9:=fun _=>g0}⟩
  exact absurd (Array.getElem?_eq_some_iff.1 d).1 ee
 intro f a j b0 c;obtain⟨z,C,s17,A,s5,s6,s7,rfl,b⟩:=b0;obtain⟨F,rfl,J,e2⟩:=b.h4 (c 4 eh);obtain⟨I,rfl,L,e3⟩:=b.h5 (c 5 eh);obtain⟨G,rfl,eB,eA⟩:=b.h6 (c 6 eh);obtain rfl:=b.h0 (c 0 eh);obtain rfl:=b.h1 (c 1 eh);obtain rfl:=b.h2 (c 2 eh);obtain rfl:=b.h3 (c 3 eh);have eq:F≠G:=fun e=>by rw[e,eA]at e2;exact absurd (Tq (Pq e2)).2.1 eh
 have e4:I≠G:=fun e=>by rw[e,eA]at e3;exact absurd (Tq (Pq e3)).2.1 eh
 rw[Np (c 7 eh)]at e2;rw[Np (c 8 eh)]at e3;rw[Np (c 9 eh)]at eA;refine Zo fun R4 g6 g7 N0 N1 _=>?_;have K9:=hI b.bel;have K0:=jh f8 K9;have X9:=hI ((jm K9 X0));have R5:=hI ((jm K9 e0));have H0:Hid (w.heap.size≠G/\w.heap.size+1+1≠G/\G≠w.heap.size/\w.heap.size<=G):=by have:=aD X0;have:=aD e0;exact⟨ed,ed,ed,ed⟩
 have H6:Hid (iY ws X 0=X):=rfl;have H8:Hid (∀n,iY ws X (n+1)=wX (iY ws X n) (gF.getD n 0) (ws.getD n 0)):=fun n=>rfl;have f0:Hid (qX X ws=⟨cJ [(iY ws X 64).a,X.a],cJ [(iY ws X 64).b,X.b],cJ [(iY ws X 64).c,X.c],cJ [(iY ws X 64).d,X.d],cJ [(iY ws X 64).e,X.e],cJ [(iY ws X 64).f,X.f],cJ [(iY ws X 64).g,X.g],cJ [(iY ws X 64).h,X.h]⟩):=rfl;generalize c4:qX X ws=b7 at *;have H9:=hI c4;clear c4;generalize iY ws X=Y at *;clear e2 e3 eA eq e4 J L eB b c X0 e0 L0 f8 e1 d8 H4 H5 H1 H2 K9;go_wp2_with fail;go_loopg [8,9,10,11,12,13,19] 64 (fun g v8 v9 v0 v1 v2 v3 i wr=> ∃t:Nat,t<=64/\g=64-t/\i= jV t/\aZ G j wr/\jk wr G (bT (Y t)) 381)
 ·exact⟨0,ed,ed,rfl,⟨rfl,rfl,rfl,rfl,fun _ _=>rfl⟩,by rw[H6.o];exact g7⟩
 obtain⟨t,i9,rfl,rfl,d,a9⟩:=hrel;have b1:=hI d;have s:=hI a9;by_cases M:t<64
 ·have hd:decide ((t:Int)<64)=true:=em;have f1:=hI (H8 t);have g9:=hI (e5 t M);have i0:=hI (e6 t M);generalize gF.getD t 0=d4 at *;generalize ws.getD t 0=d5 at *;generalize Y t=y at *;obtain⟨B,N,O,a7,r,R,T,a8⟩:=y
  have i1:Hid (wX ⟨B,N,O,a7,r,R,T,a8⟩ d4 d5=⟨dD (dD (dD (dD (dD a8 (cF (cF (cB r 6) (cB r 11)) (cB r 25))) (cF (fK r R) (fK (wM r) T))) d4) d5) (dD (cF (cF (cB B 2) (cB B 13)) (cB B 22)) (cF (cF (fK B N) (fK B O)) (fK N O))),B,N,O,dD a7 (dD (dD (dD (dD a8 (cF (cF (cB r 6) (cB r 11)) (cB r 25))) (cF (fK r R) (fK (wM r) T))) d4) d5),r,R,T⟩):=by
   show _=_;rw[wX,uF,yS,zz,yJ,yJ,yJ,yi,wz]
  have j0:=aQ t;have i2:(t:Int)<64:=ed;have j1:=wL;have j2:=IG;have d6:=BY;have j3:=uv;have HLT:=hI M;have x0:jc wr G 0 (.int .u32 B.toNat):=jr s;have x1:jc wr G 1 (.int .u32 N.toNat):=jr s;have x2:jc wr G 2 (.int .u32 O.toNat):=jr s;have x3:jc wr G 3 (.int .u32 a7.toNat):=jr s;have x4:jc wr G 4 (.int .u32 r.toNat):=jr s;have x5:jc wr G 5 (.int .u32 R.toNat):=jr s;have x6:jc wr G 6 (.int .u32 T.toNat):=jr s;have x7:jc wr G 7 (.int .u32 a8.toNat):=jr s;have b2:=aD s;clear d a9 M;go_upto_region 6 with(go_quiet (fail));generalize b3:World.drewN _ _=V5;have O5:Hid (aZ G j V5):=(by show aZ _ _ _;rw[<-b3];exact⟨b1.os,b1.tape,b1.output,b1.size,b1.block⟩);have d7:Hid (jk V5 G (bT ⟨B,N,O,a7,r,R,T,a8⟩) 381):=(by show _=_;rw[<-b3];exact s);clear b3 x0 x1 x2 x3 x4 x5 x6 x7 b2 b1 s;have pp0:=(Mu _ _ t _ _ _ ((O5.block _ N0).trans R4)).trans g9;have y0:=(Mu _ _ t _ _ _ ((O5.block _ N1).trans g6)).trans i0;refine Om fun l4 l5=>?_;have x7:jc V5 G 7 (.int .u32 a8.toNat):=jr d7;have b2:=aD d7;have c5:=hI fun n=>Gt (UE r 6 11 25 eh eh eh (V5.drewN n));go_upto_region 7 with(go_quiet (exact c5 _));generalize b4:World.drewN _ _=V7;have O7:Hid (aZ G j V7):=(by show aZ _ _ _;rw[<-b4];exact⟨O5.os,O5.tape,O5.output,O5.size,O5.block⟩);have H7:Hid (jk V7 G (bT ⟨B,N,O,a7,r,R,T,a8⟩) 381):=(by show _=_;rw[<-b4];exact d7);clear b4 pp0 y0 l4 l5 x7 b2 O5 d7 c5;simp only[d6];generalize dD (dD (dD (dD a8 (cF (cF (cB r 6) (cB r 11)) (cB r 25))) (cF (fK r R) (fK (wM r) T))) d4) d5=S at *;have x0:=ji 0 H7.o;have x1:=ji 1 H7.o;have x2:=ji 2 H7.o;have b2:=aD H7;have c5:=hI fun n=>Gt (UE B 2 13 22 eh eh eh (V7.drewN n));go_upto_region 8 with(go_quiet (exact c5 _));generalize b5:World.drewN _ _=V8;have O8:Hid (aZ G j V8):=(by show aZ _ _ _;rw[<-b5];exact⟨O7.os,O7.tape,O7.output,O7.size,O7.block⟩);have Z:Hid (jk V8 G (bT ⟨B,N,O,a7,r,R,T,a8⟩) 381):=(by show _=_;rw[<-b5];exact H7);clear b5 x0 x1 x2 b2 O7 H7 c5;simp only[d6]
  generalize dD (cF (cF (cB B 2) (cB B 13)) (cB B 22)) (cF (cF (fK B N) (fK B O)) (fK N O))=U at *;have x0:jc V8 G 0 (.int .u32 B.toNat):=jr Z;have x1:jc V8 G 1 (.int .u32 N.toNat):=jr Z;have x2:jc V8 G 2 (.int .u32 O.toNat):=jr Z;have x3:jc V8 G 3 (.int .u32 a7.toNat):=jr Z;have x4:jc V8 G 4 (.int .u32 r.toNat):=jr Z;have x5:jc V8 G 5 (.int .u32 R.toNat):=jr Z;have x6:jc V8 G 6 (.int .u32 T.toNat):=jr Z;have x7:jc V8 G 7 (.int .u32 a8.toNat):=jr Z;have b2:=aD Z
  iterate 52 go_step
  clear x0 x1 x2 x3 x4 x5 x6 x7 b2;simp only[d6];refine bP rfl 381 (.tmp 7) (.tmp 87) rfl G (bT ⟨dD S U,B,N,O,dD a7 S,r,R,T⟩) _ 381 rfl rfl Z Vp rfl (sT _) ?_;have O9:Hid (aZ G j (V8.setRow G (bT ⟨dD S U,B,N,O,dD a7 S,r,R,T⟩))):=O8.trans ⟨rfl,rfl,rfl,Qx,fun k c3=>Nq _ _ _ _ c3⟩;have i3:=hI (Dp V8 G _ (bT ⟨dD S U,B,N,O,dD a7 S,r,R,T⟩) _ _ Z);clear O8 Z;generalize World.setRow _ _ _=j4 at *;refine Vf ?_;go_roundg (64-(t+1))
  ·have:=HLT.o;go_light;exact⟨t+1,ed,ed,ej,O9,by rw[f1.o,i1.o];exact i3⟩
  exact Vx
 obtain rfl:t=64:=ed;have hd:decide (((64:Nat):Int)<64)=false:=eh;generalize Y 64=y at *;have c6:=hI ((d.block _ H0.1).trans X9);have f2:=hI ((d.block _ H0.2.1).trans R5);have K1:=hI (d.below K0 H0.2.2.2)
 have c7:Hid ((eJ (nM (cZ X) (cZ y) 8)).toArray=bT b7):=by
  show _=_;rw[f0.o,SU];simp only[yJ,zy]
 have f3:Hid ((eJ (nM (cZ X) (cZ y) 0)).toArray=bT X):=rfl;clear d a9 b1 H8 H6;go_wp2_with fail;obtain⟨H,f4⟩: ∃H,H=w.heap.size:=⟨_,rfl⟩;have HL:=hI f4;rw[<-f4]at c6 ⊢;clear f4;generalize wr=g1 at *;go_loopg [14,89] 8 (fun g v4 i w0=> ∃n:Nat,n<=8/\g=8-n/\i= jV n/\aZ H g1 w0/\jk w0 H (eJ (nM (cZ X) (cZ y) n)).toArray 381)
 ·exact⟨0,ed,ed,rfl,⟨rfl,rfl,rfl,rfl,fun _ _=>rfl⟩,by rw[f3.o];exact c6⟩
 obtain⟨n,i4,rfl,rfl,d,a9⟩:=hrel;have c8:=hI d;have H3:=hI a9;by_cases M:n<8
 ·have hd:decide ((n:Int)<8)=true:=em;have i5:=aQ n;have i6:(n:Int)<8:=ed;have HLT:=hI M;clear M d a9;have d0:=(c8.block G (by rw[HL.o];exact H0.2.2.1)).trans s;have g2:(eJ (nM (cZ X) (cZ y) n)).toArray[n]? =some (.int .u32 ((cZ X).getD n 0).toNat):=(by rw[SY _ _ _ _ HLT.o,Nm (Nat.lt_irrefl _)]);have g3:(bT y)[n]? =some (.int .u32 ((cZ y).getD n 0).toNat):=(by have:=HLT.o;simp[bT,eJ,Na,show n<(cZ y).length from this]);have HV:=hI (SW (cZ X) (cZ y) n HLT);rw[yJ]at HV;have hc:=(Mu wr H n _ _ _ H3).trans g2;have f5:=(Mu wr G n _ _ _ d0).trans g3;generalize(cZ X).getD n 0=ln at *;generalize(cZ y).getD n 0=hn at *;have d6:=BY;clear d0 g2 g3;go_upto_region 13 with fail;refine iH [8] (fun W=>jc W H n (.int .u32 ln.toNat)/\jc W G n (.int .u32 hn.toNat)) ef ?_;intro V0 a6 x;have D0:jc V0 H n (.int .u32 ln.toNat)/\jc V0 G n (.int .u32 hn.toNat):=⟨(x.cell Uj).trans hc,(x.cell (Mt f5)).trans f5⟩;have O0:=hI (c8.trans ⟨x.os,x.tape,x.output,by rw[a6],fun k _=>by rw[a6]⟩);have R0:=hI ((jm x H3));clear a6 x hc f5;have t1: ∀b6:aX (fun W=>jc W H n (.int .u32 ln.toNat)/\jc W G n (.int .u32 hn.toNat)),jc b6.w H n (.int .u32 ln.toNat):=fun b6=>b6.h.1;have t2: ∀b6:aX (fun W=>jc W H n (.int .u32 ln.toNat)/\jc W G n (.int .u32 hn.toNat)),jc b6.w G n (.int .u32 hn.toNat):=fun b6=>b6.h.2;refine zB [0,3,1,4,2,5,6,7] D0 ?_;clear t1 t2;refine aS 8 ef ?_;intro K g4;have c9:=D0.1;have fz:=uE R0 n;refine Vi ?_;refine .inl ?_;have R6:=(uD (o:=n) (u:= .int .u32 (dD ln hn).toNat) R0).trans Oi;have O1:aZ H g1 (V0.setCell ⟨H,n,none⟩ (.int .u32 (dD ln hn).toNat)):=O0.trans (aZ.set V0 ⟨H,n,none⟩ _);refine g4 _ _ (fun h=>absurd h eh) ?_;clear g4 K c9 fz;refine eI ef ?_ _;go_wp2_with fail;go_roundg (8-(n+1))
  ·have:=HLT.o;go_light;exact⟨n+1,ed,ed,ej,O1,R6⟩
  exact Vx
 obtain rfl:n=8:=ed;have hd:decide (((8:Nat):Int)<8)=false:=eh;rw[c7.o]at a9;have d2:jk wr (H+1+1) (bT vD) 381:=(d.block (H+1+1) ed).trans (by rw[HL.o];exact f2);have f6:=hI a9;have d3:=hI d2;have f7:=hI (d.below K1 (by rw[HL.o];exact Mv _));clear a9 d2 d H3;go_upto_region 15 with fail;go_step;refine Dx rfl 381 (.tmp 2) rfl H rfl 381 (bT b7) (0,0) _ f6 underlying381 rfl Vp ?_;simp[Act.put];refine bP rfl 381 (.tmp 4) (.tmp 101) rfl (H+1+1) (bT b7) _ 381 rfl rfl d3 Vp (by rw[iO,iO]) (sT _) ?_;have i7:=hI (Dp wr (H+1+1) _ (bT b7) _ _ d3);have i8:jb w (wr.setRow (H+1+1) (bT b7)):=f7.trans ⟨rfl,rfl,rfl,Qx,fun k c3=>Nq _ _ _ _ Qm⟩;generalize World.setRow _ _ _=j5 at *;refine Vf ?_;refine Nh (v:= .agg (bT b7)) (Pb (p:=4) (ty:=381) rfl _ _ (H+1+1) 381 _ (0,0) _ rfl i7 underlying381 rfl Vp) rfl ?_;exact⟨by rw[H9.o],i8⟩
section
open Go.RowKit Go.Shelf Tryz
section
variable {P:Program}{ops:Array Oper}{Q:Exit->Act->World->Prop}
def ut (l n:Nat) (H: ¬LetsOut Q)(b: ∀o,ops[i]? =some o-> ∀c,o.op≠ .defer c)(h:wpOp P ops Q i K a w):wpOpIn (Fence.wide.inRound l) n P ops Q i K a w:=by
 unfold wpOp at h;unfold wpOpIn;cases ho:ops[i]? with
 | none=>rw[ho]at h;exact h
 | some o=>
  rw[ho]at h;simp only at h ⊢;split
  ·rename_i d
   rw[Np d]at h;rcases h with h | ⟨-,h⟩
   ·refine⟨fun _ _=>Py,?_⟩;rw[Fence.inRound_round,Gs l _ _ (b o ho)];unfold Oper.wp at h;generalize(execOp a.eval o).run P w=r at h ⊢;cases r with
    | ok x W=>
     cases x<;>simp only[Oper.upon,Oper.uponIn]at h ⊢
     all_goals first
      | exact h
      | (refine⟨fun e=>(nomatch e),CallsIn.inRound l (callsIn_wide.2 h)⟩)
      | (refine⟨fun e=>(nomatch e),fun c cs _=> ?_⟩;obtain⟨v,w2,r,s⟩:=h c cs;exact⟨v,w2,r,stepsIn_wide.2 s⟩)
    | halt x W=>cases x<;>simp only[Oper.upon,Oper.uponIn]at h ⊢ <;>exact h
   exact absurd h H
  rename_i d
  rw[Nm d]at h;exact⟨fun _ _=>Py,h⟩
def QA (l n:Nat) (H: ¬LetsOut Q) (b: ∀(i:Nat) (o:Oper),ops[i]? =some o-> ∀c,o.op≠ .defer c): ∀(f:Nat) (L:Array Bool) (a:Act) (w:World),wpAny P .any ops Q f L a w->wpAnyIn (Fence.wide.inRound l) n P .any ops Q f L a w
 | 0,_,_,_,h=>h
 | f+1,_,_,_,h=>⟨h.1,fun i d=>wpOpIn_mono (fun A W h'=>QA l n H b f _ A W h') (ut l n H (b i) (h.2 i d))⟩
def PY (ops:Array Oper):Bool:=ops.all fun o=>match o.op with | .defer _=>false | _=>true
def ur (h:PY ops=true) (i:Nat) (o:Oper) (H:ops[i]? =some o): ∀c,o.op≠ .defer c:=fun c e=>by
 have h1:=Array.all_eq_true_iff_forall_mem.1 h o (Array.mem_of_getElem? H);rw[e]at h1;cases h1
def uq {id:Nat}(l n:Nat) (c: ¬LetsOut Q) (q:P.follows .mixedOrders=true) (d:(Region.lexB .any ops&&PY ops)=true) (I:(Nat->Bool)->Act->World->Prop)
  (h0:I (fun _=>false) a {w with drawn:=w.drawn+1})
  (H: ∀(i:Nat) (o:Oper),ops[i]? =some o-> ∀(f:Nat->Bool) a w,I f a w->(∀e∈o.after,Region.binds .any e=true->f e.on=true)->f i=false->wpOp P ops Q i (fun A W=>I (fun j=>decide (j=i) || f j) A W) a w)
  (b: ∀(f:Nat->Bool) a w,I f a w->(∀j,j<ops.size->f j=true)->Q .normal a w):(Code.region id ops true).wpIn (Fence.wide.inRound l) n P Q a w:=by
 simp only[Dt]at d;refine wpIn_region_any q (QA l n c (ur d.2) _ _ _ _ ?_);refine XO d.1 (fun L a w=>L.size=ops.size/\I (fun j=>L.getD j false) a w) ?_ (fun L a w h=>b _ a w h.2) _ _ _ _ ee ?_ ⟨ee,?_⟩
 ·intro i o p L a w ⟨hi,g⟩ hd k;have r:i<L.size:=by rw[hi];exact(Array.getElem?_eq_some_iff.1 p).1
  refine Gl (fun A W h=>⟨Og,?_⟩) (H i o p _ a w g hd k)
  have e:(fun j=>(L.setIfInBounds i true).getD j false)=fun j=>decide (j=i) || L.getD j false:=by
   funext j
   by_cases hj:j=i
   ·subst hj;simp[r]
   rw[Fu false (Sr hj)];simp[hj]
  rw[e];exact h
 ·unfold zM;rw[List.countP_eq_length.2 (fun j hj=>by simp at hj;simp[hj])];simp
 have e:(fun j=>(Array.replicate ops.size false).getD j false)=fun _=>false:=by
  funext j
  by_cases hj:j<ops.size<;>simp[Array.getD,hj]
 rw[e];exact h0
end
attribute [local go_sem] Oper.semAt_some
def un (m l T q g off c N:Nat) (u:64 * N<=10000) (w:64 * N<=c) (z:c<=9223372036854775807) (J:Nat->World->Prop)
  (d: ∀k W,J k W->jc W T 0 (jq g off (64 * N) c)/\jc W q 0 (jV 64))
  (A: ∀k W n,J k W->J k (W.drewN n))
  (C: ∀k W,k<N->J k W->YieldAt Fence.wide (m-1) prog l #[jq g (off+64 * k) 64 64] W (fun e W'=>e= .returned (.bool true)/\J (k+1) W'))
  (W:World) (h0:J 0 W):
  CallsIn Fence.wide m prog 385 #[.func (.yield l) #[] #[],jp T 0,jp q 0] W fun e W'=>(∃v,e= .returned v)/\J N W':=by
 refine callsIn_of_wp func385 rfl Py ?_ rfl;simp only[ntmps385,Gv,Du,Tl,Nat.reduceAdd,Nat.reduceSub,Gk,Gj,Gx,Gq,Dd,Nz];obtain⟨L,f⟩: ∃L,L=64 * N:=⟨_,rfl⟩;rw[<-f]at u w d;have HL:=hI f;clear f
 gi_wp2
 gi_loopg [4,5] N (fun gg v e wr=> ∃k:Nat,k<=N/\gg=N-k/\v= jV ((64 * k:Nat):Int)/\J k wr)
 case atStart=>exact⟨0,Pe _,rfl,rfl,h0⟩
 case round=>
  obtain⟨k,G,rfl,rfl,hj⟩:=hrel;have r:=hI hj;obtain⟨x0,x⟩:=d k wr hj;by_cases ho:k<N
  ·obtain⟨p,a⟩: ∃p,p=64 * k:=⟨_,rfl⟩;rw[<-a];have D:p+64<=L:=Qm;have hd:decide ((p:Int)<(L:Int))=true:=em;have s:=hI a;refine Qv fun y=>?_;have Y:=My _ _ x;have c0:(p:Int)<=(L:Int):=ed;have E:min (64:Int) (((L-p:Nat)):Int)=64:=ed;have i:min (64:Int) ((L:Int)-(p:Int))=64:=ed;clear a hj
   gi_upto_region 3 with fail
   gi_quiet (fail)
   generalize t:World.drewN _ _=V;have b:Hid (J k V):=(by show J k V;rw[<-t];exact A _ _ _ r);clear t x0 x y Y E i;obtain⟨x0,x⟩:=d k V b;refine Qv fun y=>?_;have Y:=My _ _ x;obtain⟨I,tmps,assign,B,F,hb⟩:=C k V ho b;rw[<-s.o]at F;refine Qa fun j HLT=>?_;clear hb ho
   gi_wp2
   refine⟨fun h=>(nomatch h),j.mono ?_⟩;refine Qe fun _ H=>?_;have o:=hI H;obtain⟨z1,z2⟩:=d _ _ H;have y3:=My _ _ z1;have y4:=My _ _ z2;clear H x0 x y Y
   gi_wp2
   gi_roundg (N-(k+1))
   case measure=>exact Vx
   case rel=>have:=HLT.o;have:=s.o;go_light;exact⟨k+1,ed,rfl,ej,o⟩
  obtain rfl:k=N:=ed;have a:=HL.symm;rw[a];refine Qv fun _=>?_;have hd:decide ((L:Int)<(L:Int))=false:=ee;clear a hj
  gi_wp2
  go_end0
  exact⟨⟨_,rfl⟩,r⟩
theorem um {Y:Operand}{ps:Array Tmp}{assign body:Code}(T j g off c N:Nat) (a0:64 * N<=10000) (a1:64 * N<=c) (s:c<=9223372036854775807)
  (a2:a.eval Y= .func (.func 385) #[] #[jp T 0,jp j 0]) (u:ps.size=1) (I:Nat->World->Prop)
  (x: ∀k W,I k W->jc W T 0 (jq g off (64 * N) c)/\jc W j 0 (jV 64))
  (y: ∀k W n,I k W->I k (W.drewN n))
  (b: ∀k W l o o',w.heap.size<=l->W.heap[l]? =some o->o.isCells=false->I k W->I k (W.putObj l o'))
  (h0: ∀o o',I 0 ((w.alloc o).alloc o')) (Z:Nat->Act)
  (hassign: ∀(l k:Nat) (W:World) (K:Act->World->Prop),K (Z k) W->
   assign.wpIn (Fence.wide.inRound l) 1 prog (Exit.then K (fun _ _ _=>False)) {tmps:=(ps.zip #[(jq g (off+64 * k) 64 64:Value)]).foldl (fun t (p,v)=>t.setIfInBounds p v) a.tmps,defers:=[]} W)
  (d: ∀(l k:Nat) (W:World),k<N->I k W->body.wpIn (Fence.wide.inRound l) 1 prog (IK w (I (k+1)) W) (Z k) W)
  (f: ∀(D:Nat) (W:World),w.heap.size<=D->I N W->W.heap[D]? =some (.deferred (some []))->Q .normal {a with defers:={target:= .collected D,args:=#[]}::a.defers} W):
  (Code.rangeFunc Y ps assign body).wpIn Fence.wide 3 prog Q a w:=by
 refine wpIn_rangeFunc ?_;intro fn hfn;have z:Fence.wide.round=none:=rfl;rw[z];generalize A:w.heap.size=B at *;refine YV fun R hR H=>?_;rw[A]at H
 have C:((w.alloc (.deferred (some []))).alloc (.loop (R .ready))).heap[B+1]? =some (.loop (R .ready)):=by
  have:=World.alloc_heap_new (w.alloc (.deferred (some []))) (.loop (R .ready))
  rwa [Pv,A]at this
 have E:((w.alloc (.deferred (some []))).alloc (.loop (R .ready))).heap[B]? =some (.deferred (some [])):=by
  refine(Below.heap_alloc _ _ _ em).trans ?_;have:=World.alloc_heap_new w (.deferred (some []))
  rwa [A]at this
 have hz:=h0 (.deferred (some [])) (.loop (R .ready));generalize F:(w.alloc (.deferred (some []))).alloc (.loop (R .ready))=r at *
 refine⟨B+1,[{target:= .collected B,args:=#[]}],r,{target:= .fn (.func 385) #[jp T 0,jp j 0],args:=#[.func (.yield (B+1)) #[] #[]]},r,385,
  #[.func (.yield (B+1)) #[] #[]]++#[.pointer (some ⟨T,0,none⟩),.pointer (some ⟨j,0,none⟩)],r,?_,?_,fun _ _=>Py,?_,fun h=>(nomatch h),?_⟩
 ·rw[H,<-F,hR]
 ·simp only[resolve,a2];simp[go_sem]
 ·simp[invoke,go_sem]
 refine(un 2 (B+1) T j g off c N a0 a1 s (fun k W=>I k W/\W.heap[B+1]? =some (.loop (R .ready))/\W.heap[B]? =some (.deferred (some []))) (fun k W h=>x k W h.1) (fun k W n h=>⟨y k W n h.1,h.2⟩) ?_ r ⟨hz,C,E⟩).mono ?_
 ·rintro k W G ⟨a3,hl,hd⟩;have G9:=(Array.getElem?_eq_some_iff.1 hl).1;have hy:=run_yield (P:=prog) (args:=#[jq g (off+64 * k) 64 64]) hl (by rw[hR];exact u.symm);rw[hR]at hy;refine YK fun J=>?_;have L:(W.putObj (B+1) (.loop {R .ready with state:= .busy})).heap[B]? =some (.deferred (some [])):=(World.putObj_heap_other ed).trans hd;refine wpIn_mono (d _ k _ G (b k W _ _ _ ed hl rfl a3)) ?_;rintro e a5 W3 i;cases e with
  | normal=>
   obtain⟨q,M⟩:=i;have hl3:=q.same _ _ ed J rfl;have O:=q.same _ _ ep L rfl;have he:=run_endRound (P:=prog) none hl3;have U:=b (k+1) W3 _ _ (.loop (R .ready)) ed hl3 rfl M;refine Ma fun V=>?_;have X:(W3.putObj (B+1) (.loop (R .ready))).heap[B]? =some (.deferred (some [])):=(World.putObj_heap_other ed).trans O;exact⟨.bool true,W3.putObj (B+1) (.loop (R .ready)),by rw[he,hR];rfl,rfl,U,V,X⟩
  | ret=>exact i.elim
  | exit id=>exact i.elim
  | goto t=>exact i.elim
  | panic a6=>exact i.elim
  | outgrown=>exact i.elim
 rintro e W2 ⟨⟨v,rfl⟩,a4,hl,hd⟩;refine⟨none,_,by have:=run_endLoop (P:=prog) hl Eg;rw[hR]at this;exact this,?_⟩;exact f B _ ep (b N _ _ _ _ ed hl rfl a4) ((World.putObj_heap_other ed).trans hd)
end
end Go.Proofs.YtbiehpjhhopjaaaGreat
