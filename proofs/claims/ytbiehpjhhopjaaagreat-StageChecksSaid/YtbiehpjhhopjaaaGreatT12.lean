/- Walks and plain laws for the statement. -/
import Derived.Test.YtbiehpjhhopjaaaGreatT9
set_option linter.all false
set_option maxRecDepth 100000
set_option maxHeartbeats 16000000
namespace Go.Proofs.YtbiehpjhhopjaaaGreat
open Go.RowKit Go.Sort Tryz
variable {B U W w w0:World}{A N RD T bc k n sz:Nat}{e:TypeId}{l:List Nat}{xs:List Value}{cs:Array Value}{Q:Exit->Act->World->Prop}{ba:Option Addr}{ops:Array Oper}{v':Value}
def z7f (w:World) (r:Rt × Nat) (e:Ending) (w':World):Prop:=
 ∃v3 v4 v5,e= .returned (.tuple #[.agg #[r.1.id,r.1.E,r.1.X,v3,v4,v5,r.1.T],jV (r.2:Int)])/\aA w' w v3 r.1.A/\aA w' w v4 r.1.O/\w'.ownsRow w 207 2 v5 r.1.fl (r.1.fl.flatMap kS)/\jb w w'
def RN (L:List Int) (a:Option Addr) (c:Nat) (w:World) (hl:IL w a L L): ∀(x:Int) (p:Nat),x=num L p-> ∀(i:Int),i=(p:Int)-> ∀W,jb w W->jW 247 #[js a L c,i] W fun e b=>e= .returned (jV x)/\W=b:=fun x p hx i h W H=>by
 rw[h,hx];exact(z6y L a c p W (hl.below H)).mono fun e b h=>⟨h.1,h.2.symm⟩
def z7g (L:List Int) (a:Option Addr) (c:Nat) (w:World) (hl:IL w a L L) (j:L.length<=5000): ∀(X:List Int) (p:Nat) (M:Int),X=mM L p M-> ∀(i:Int),i=(p:Int)/\p<=100000-> ∀W,jb w W->jW 341 #[js a L c,i,M] W fun e f=> ∃b d,e= .returned (js b X d)/\aA f W (js b X d) X/\jb W f:=fun X p M k i h W H=>by
 rw[h.1,k];refine(z63 L a c p M W (hl.below H) j h.2).mono ?_;rintro e f ⟨v,rfl,g,H⟩;obtain⟨b,d,rfl⟩:=iG g;exact⟨b,d,rfl,g,H⟩
def yL {α:Type}{M p:Nat}{one:Nat->α × Nat}{P:List α × Nat}{C:List α}(h:P=(C++(eF n one (M-k) p).1,(eF n one (M-k) p).2)) (b:k<M) (H:p<n):P=((C++[(one p).1])++(eF n one (M-(k+1)) (one p).2).1,(eF n one (M-(k+1)) (one p).2).2):=by
 obtain⟨m,a⟩: ∃m,M-k=m+1:=⟨M-k-1,ed⟩;rw[show M-(k+1)=m by omega];rw[a,eF,Np H]at h;rw[h,Dk];rfl
def yK {α:Type}{M p:Nat}{one:Nat->α × Nat}{P:List α × Nat}{C:List α}(h:P=(C++(eF n one (M-k) p).1,(eF n one (M-k) p).2)) (H: ¬(k<M/\p<n)):P=(C,p):=by
 rw[h];cases hm:M-k with
 | zero=>simp[eF]
 | succ m=>rw[eF,Nm (fun h=>H ⟨ed,h⟩)];simp
def RM (L:List Int) (p:Nat) (M:Int):(mM L p M).length<=L.length:=by simp[mM];omega
abbrev MN:Array Value:=#[jV 0,jV 0,jV 0,jN,jN,jN,jV 0]
structure R4 (w W:World) (n0 n1 n2:Int) (v3 v4 v5:Value) (A B:List Int) (C:List Fl):Prop where
 fr:Fr w [(MN,102),(#[n0,n1,n2,v3,v4,v5,jV 0],102)] W
 a:aA W (w+2) v3 A
 b:aA W (w+2) v4 B
 c:W.ownsRow (w+2) 207 2 v5 C (C.flatMap kS)
section
variable {w W W':World}{n0 n1 n2:Int}{v3 v4 v5 v:Value}{A B L:List Int}{C D:List Fl}
def R4.low (h:R4 w W n0 n1 n2 v3 v4 v5 A B C) (H:jb W W'):R4 w W' n0 n1 n2 v3 v4 v5 A B C:=⟨h.fr.below H,bU h.a H,bU h.b H,bU h.c H⟩
def R4.set3 (h:R4 w W n0 n1 n2 v3 v4 v5 A B C) (H:aA W (w+2) v L):R4 w (W.setCell ⟨w+1,3,none⟩ v) n0 n1 n2 v v4 v5 L B C:=⟨h.fr.set 1 rfl 3 v,aV H ee v,aV h.b ee v,aV h.c ee v⟩
def R4.set4 (h:R4 w W n0 n1 n2 v3 v4 v5 A B C) (H:aA W (w+2) v L):R4 w (W.setCell ⟨w+1,4,none⟩ v) n0 n1 n2 v3 v v5 A L C:=⟨h.fr.set 1 rfl 4 v,aV h.a ee v,aV H ee v,aV h.c ee v⟩
def R4.app5 {V:World}{o:Obj}(h:R4 w V n0 n1 n2 v3 v4 v5 A B C) (a:(V.alloc o).grownBy W v5.ownBlock) (d:W.ownsRow (w+2) 207 2 v D (D.flatMap kS)):R4 w (W.setCell ⟨w+1,5,none⟩ v) n0 n1 n2 v3 v4 v A B D/\jc W (w+1) 5 v5/\w.heap.size+1<W.heap.size/\ ∀o,W.frozen? ⟨w+1,o,none⟩=false:=by
 have h1:=h.low ((Nb _ _).alloc (Mv V) o);have e:=dT h1.c ep h1.fr.sz a;have b:=uT (M:=fun t=>t==207) h1.c rfl a;have c:=h1.fr.low e;have H:=c.row 1 _ rfl;exact⟨⟨c.set 1 rfl 5 v,aV (XJ h1.a b rfl) ee v,aV (XJ h1.b b rfl) ee v,aV d ee v⟩,(Mu W _ 5 _ _ _ H).trans rfl,aD H,fun o=>by simp[World.frozen?,H]⟩
def R4.row (h:R4 w W n0 n1 n2 v3 v4 v5 A B C):jk W (w+1) #[n0,n1,n2,v3,v4,v5,jV 0] 102:=h.fr.row 1 _ rfl
def R4.cells (h:R4 w W n0 n1 n2 v3 v4 v5 A B C):jc W (w+1) 3 v3/\jc W (w+1) 4 v4/\jc W (w+1) 5 v5/\jc W (w+1) 6 (jV 0)/\w.heap.size+1<W.heap.size/\jb w W/\ ∀o,W.frozen? ⟨w+1,o,none⟩=false:=
 ⟨(Mu W _ 3 _ _ _ h.row).trans rfl,(Mu W _ 4 _ _ _ h.row).trans rfl,(Mu W _ 5 _ _ _ h.row).trans rfl,(Mu W _ 6 _ _ _ h.row).trans rfl,aD h.row,h.fr.bel,fun o=>by simp[World.frozen?,h.row]⟩
end
theorem z7h (L:List Int) (a:Option Addr) (c p:Nat) (w:World) (hl:IL w a L L) (b2:L.length<=5000) (d1:p<=20000):jW 248 #[js a L c,p] w (z7f w (lX L p)):=by
 have s:=hI (RN L a c w hl);have a3:=hI (z7g L a c w hl b2);obtain⟨n0,hb⟩: ∃n,n=num L p:=⟨_,rfl⟩;obtain⟨n1,ho⟩: ∃n,n=num L (p+1):=⟨_,rfl⟩;obtain⟨n2,e2⟩: ∃n,n=num L (p+2):=⟨_,rfl⟩;obtain⟨n3,e3⟩: ∃n,n=num L (p+3):=⟨_,rfl⟩;obtain⟨A,eA⟩: ∃A,A=mM L (p+4) n3:=⟨_,rfl⟩;obtain⟨q,eq⟩: ∃q,q=p+4+A.length:=⟨_,rfl⟩;obtain⟨n4,e4⟩: ∃n,n=num L q:=⟨_,rfl⟩;obtain⟨B,eB⟩: ∃B,B=mM L (q+1) n4:=⟨_,rfl⟩;obtain⟨r,a4⟩: ∃r,r=q+1+B.length:=⟨_,rfl⟩;obtain⟨N,e5⟩: ∃n,n=num L r:=⟨_,rfl⟩
 have a5:Hid (lX L p=(⟨n0,n1,n2,A,B,(eF L (lF L) N.toNat (r+1)).1,num L (eF L (lF L) N.toNat (r+1)).2⟩,(eF L (lF L) N.toNat (r+1)).2+1)):=by
  subst e5 a4 eB e4 eq eA e3 e2 ho hb;rfl
 have b3:=RM L (p+4) n3;have b4:=RM L (q+1) n4;rw[<-eA]at b3;rw[<-eB]at b4;refine Qa fun E0 E1=>?_;refine Zo fun E2 E3 c3 b5 E4 c4=>?_;have b6:=hI a4;have E5:=hI e5;have hq:q<=26000:=ed
 have d2:r<=32000:=ed
 clear hb ho e2 e3 eA eq e4 eB a4 e5;obtain⟨n,a6⟩: ∃n,n=L.length:=⟨_,rfl⟩;have d3:=hI a6;rw[<-a6]at s a3 a5 b2 b3 b4 ⊢;clear hl a6;go_in;go_upto_region 2 with(go_at_call 247;(first | refine(s _ p E0 _ ed _ aR).mono ?_ | refine(s _ (p+1) E1 _ ed _ aR).mono ?_ | refine(s _ (p+2) E2 _ ed _ aR).mono ?_);rintro e w1 ⟨rfl,rfl⟩)
 generalize T:World.alloc (World.alloc _ _) _=W0
 have O:Hid (R4 w W0 n0 n1 n2 (jN) (jN) (jN) [] [] []):=by
  show R4 _ _ _ _ _ _ _ _ _ _ _;rw[<-T];exact⟨((Fr.start w).alloc rfl MN 102).alloc ee _ 102,Nw _ _ _ _,Nw _ _ _ _,Nw _ _ _ _⟩
 clear T;go_upto_region 3 with(go_at_call 247;refine(s _ (p+3) E3 _ ed _ O.fr.bel).mono ?_;rintro e w1 ⟨rfl,rfl⟩);obtain⟨f,i,Y,j,l,H,fz⟩:=O.cells;go_upto_region 4 with(go_at_call 341;refine(a3 _ (p+4) _ c3 _ ed _ O.fr.bel).mono ?_;refine Ou fun w1 X u U Z=>?_;have S1:=hI (O.low Z);have H0:=hI (bW (base':=w.heap.size+2) U (by have:=O.fr.sz;simpa using this));clear U Z f i Y j l H fz;obtain⟨f,i,Y,j,l,H,fz⟩:=S1.cells);refine On fun W1 a0=>?_
 have Q:Hid (R4 w W1 n0 n1 n2 (js X A u) (jN) (jN) A [] []):=by
  show R4 _ _ _ _ _ _ _ _ _ _ _;rw[<-a0];exact S1.set3 H0
 clear a0 f i Y j l H fz;obtain⟨f,i,Y,j,l,H,fz⟩:=Q.cells;go_upto_region 5 with fail;rw[show(p:Int)+4+(A:Int)=(q:Int)by have:=b5.o;omega];clear b5;go_upto_region 6 with(go_at_call 247;refine(s _ q E4 _ ed _ Q.fr.bel).mono ?_;rintro e w1 ⟨rfl,rfl⟩);go_upto_region 7 with(go_at_call 341;refine(a3 _ (q+1) _ c4 _ ed _ Q.fr.bel).mono ?_;refine Ou fun w1 z E U Z=>?_;have S3:=hI (Q.low Z);have H1:=hI (bW (base':=w.heap.size+2) U (by have:=Q.fr.sz;simpa using this));clear U Z f i Y j l H fz;obtain⟨f,i,Y,j,l,H,fz⟩:=S3.cells);refine On fun W2 a1=>?_
 have S4:Hid (R4 w W2 n0 n1 n2 (js X A u) (js z B E) (jN) A B []):=by
  show R4 _ _ _ _ _ _ _ _ _ _ _;rw[<-a1];exact S3.set4 H1
 clear a1 f i Y j l H fz O S1 Q S3 H0 H1;obtain⟨f,i,Y,j,l,H,fz⟩:=S4.cells;go_upto_region 8 with fail;rw[show(q:Int)+1+(B:Int)=(r:Int)by have:=b6.o;omega];clear b6;go_wp2_with (go_at_call 247;refine(s _ r E5 _ ed _ S4.fr.bel).mono ?_;rintro e w1 ⟨rfl,rfl⟩);clear f i Y j l H fz;obtain⟨M,b7⟩: ∃M,M=N.toNat:=⟨_,rfl⟩;obtain⟨P,R⟩: ∃P,P=eF n (lF L) M (r+1):=⟨_,rfl⟩;have c5:=hI R;rw[<-b7,<-R]at a5;have c6:(M:Int)=N\/(M=0/\N<0):=ed
 clear b7 R;go_loopg [1,8] (n-(r+1)) (fun g i1 i8 wr=> ∃(k pos:Nat) (C:List Fl) (b:Option Addr) (d:Nat),k<=M/\g=n-pos/\i1= jV pos/\i8= jV k/\pos<=40000/\(C.length<=pos/\k<=pos)/\P=(C++(eF n (lF L) (M-k) pos).1,(eF n (lF L) (M-k) pos).2)/\R4 w wr n0 n1 n2 (js X A u) (js z B E) (js b C d) A B C)
 ·exact⟨0,r+1,[],none,0,ed,ed,ej,rfl,ed,⟨ee,ed⟩,c5,S4⟩
 obtain⟨k,pos,C,b,d,d4,rfl,rfl,rfl,b8,d5,R,a7⟩:=hrel;have I:=hI R;have S:=hI a7;obtain⟨f,i,Y,j,l,H,fz⟩:=a7.cells;clear R a7;by_cases a8:k<M/\pos<n
 ·obtain⟨a2,F⟩:=a8;have hd:decide ((k:Int)<N)=true:=em;have a9:=bL F;have H2:=hI (yL I a2 F);go_upto_region 13 with fail;refine pK [11] [0,1,2,3,5,6,7] ef Qd ef ?_;intro V D0 d6;have t5:=fun t:Gw wr=>t.cel Y;have l5:=fun t:Gw wr=>t.lt l;refine Oj ?_
  repeat (go_big_quiet_step (fail))
  refine wpQuiet_nil ?_;have SV:=hI (S.low D0);obtain⟨x,hx⟩: ∃x,x=num L pos:=⟨_,rfl⟩;obtain⟨y,b9⟩: ∃y,y=num L (pos+1):=⟨_,rfl⟩;have c0:=hI hx;have c1:=hI b9;clear hx b9;refine aS 4 ef ?_;refine Oe (s _ pos c0 _ rfl _ SV.fr.bel) fun K hK=>?_;rintro e c7 ⟨rfl,rfl⟩;simp[go_sem];refine Ob ?_;clear hK K;refine aS 8 ef ?_;refine Oo fun K hK=>?_;refine .inl ((s _ (pos+1) c1 _ ed _ SV.fr.bel).mono ?_);rintro e c7 ⟨rfl,rfl⟩;simp[go_sem];refine Ob ?_;clear hK K;refine zB [9] D0 ?_;refine aS 10 ef ?_;refine Oo fun K hK=>?_;refine .inl (hK _ _ (fun _=>D0.alloc D0.size _) ?_);clear hK K;refine pG [11,12,13] ef ee ?_;have b0:w.heap.size+2<=V.heap.size:=SV.fr.sz;refine Oj ?_;clear f i Y j l H fz t5 l5;go_wp2_with (at_builtin;refine nK rfl _ _ 100 207 _ _ 2 16 rfl underlying100 DK rfl eh eh (w+2) (js b C d) C _ rfl SV.c ed b0 [jV x,jV y] rfl rfl (uR x y) ?_;intro c8 c9 w8 o G;obtain⟨S0,Y,l,fz⟩:=SV.app5 (v:= .slice (some ⟨c8,0,none⟩) (C.length+1) c9) (D:=C++[⟨x,y⟩]) G (by rw[Mx,Dg];exact o);have S9:=hI S0;clear S0 o G);go_roundg (n-(pos+2))
  ·go_light;exact⟨k+1,pos+2,C++[⟨x,y⟩],_,_,ed,ed,ej,ej,ed,⟨Zv,ed⟩,by rw[c0.o,c1.o];exact H2,Xr⟩
  go_light;omega
 have H3:=hI (yK I a8)
 have b1:decide ((k:Int)<N)=false\/(decide ((k:Int)<N)=true/\decide ((pos:Int)<(n:Int))=false/\ ¬pos<n):=by
  by_cases a2:k<M
  ·right;exact⟨em,em,ed⟩
  left;simp;omega
 have hz:=S.fr.row 0 _ rfl;have d7:=hI hz;obtain⟨t,c2⟩: ∃t,t=num L pos:=⟨_,rfl⟩;have HE:=hI c2;clear c2 hz I a8
 rcases b1 with hd | ⟨hd,a9,d0⟩<;>(
  go_upto_region 16 with(go_at_call 247;refine(s _ pos HE _ rfl _ S.fr.bel).mono ?_;rintro e w1 ⟨rfl,rfl⟩);have J:=hI (S.fr.set 1 rfl 6 (jV t));have A8:=hI (aV S.a (a:=⟨w+1,6,none⟩) ee (jV t));have B8:=hI (aV S.b (a:=⟨w+1,6,none⟩) ee (jV t));have C8:=hI (aV S.c (a:=⟨w+1,6,none⟩) ee (jV t));clear f i Y j l H fz S;generalize World.setCell _ _ _=W9 at *;go_step;refine Dx rfl 102 (.tmp 6) rfl (w+1) rfl 102 _ (0,0) _ (J.row 1 _ rfl) underlying102 rfl ef ?_;simp[Act.put]
  iterate 6 go_step
  refine bP rfl 102 (.tmp 4) (.tmp 87) rfl w #[n0,n1,n2,js X A u,js z B E,js b C d,t] MN 102 rfl rfl (J.row 0 _ rfl) ef rfl Qj ?_;have S0:=hI (J.setRow 0 rfl #[n0,n1,n2,js X A u,js z B E,js b C d,t]);have A9:=hI (mK (C:=#[n0,n1,n2,js X A u,js z B E,js b C d,t]) A8 (J.row 0 _ rfl) eh);have B9:=hI (mK (C:=#[n0,n1,n2,js X A u,js z B E,js b C d,t]) B8 (J.row 0 _ rfl) eh);have C9:=hI (mK (C:=#[n0,n1,n2,js X A u,js z B E,js b C d,t]) C8 (J.row 0 _ rfl) eh);clear J A8 B8 C8;generalize World.setRow _ _ _=d8 at *;refine Vf ?_;refine Nh (v:= .tuple #[.agg #[n0,n1,n2,js X A u,js z B E,js b C d,t],jV ((pos:Int)+1)]) (eL rfl _ _ w 102 _ (0,0) _ _ rfl rfl (S0.row 0 _ rfl) underlying102 rfl ef) rfl ?_;rw[a5.o,H3.o]
  refine⟨_,_,_,ew,bW A9 ed,bW B9 ed,bW C9 ed,S0.bel⟩)
structure Tf (N T:Nat) (W W':World):Prop where
 bel:Below N W W'
 keep: ∀k cs t f,k≠T->t≠5->W.heap[k]? =some (.cells cs t f)->W'.heap[k]? =some (.cells cs t f)
def Tf.refl (N T:Nat) (W:World):Tf N T W W:=⟨Nb _ _,fun _ _ _ _ _ _ h=>h⟩
def Tf.trans {A C:World}(h:Tf N T A B) (k:Tf N T B C):Tf N T A C:=⟨h.bel.trans k.bel,fun i cs t f h1 h2 h3=>k.keep i cs t f h1 h2 (h.keep i cs t f h1 h2 h3)⟩
def Tf.of_below {A:World}(H:N<=A.heap.size) (h:jb A B):Tf N T A B:=⟨h.mono H,fun i cs t f _ _ h3=>(jm h h3)⟩
def Tf.alloc {A:World}(h:Tf N T A B) (H:N<=B.heap.size) (o:Obj):Tf N T A (B.alloc o):=h.trans (Tf.of_below H ((Nb _ _).alloc ep o))
def eC (N T:Nat) (bs:List Nat) (W:World):Prop:= ∃v,Boxed W T 312 v/\W.ownsRow N 5 1 v bs (eT bs)
def eC.lt {b:List Nat}(h:eC N T b W):T<W.heap.size:=by obtain⟨v,h1,-⟩:=h;exact h1.lt
def eC.below {b:List Nat}{A:World}(h:eC N T b A) (H:jb A B):eC N T b B:=by
 obtain⟨v,h1,h2⟩:=h;exact⟨v,(H.block _ h1.lt).trans h1,bU h2 H⟩
def z7i (ty:TypeId) (s x:Value) (w:World):Sem.run prog (Builtin.append_ #[312,22] ty #[s,x]) w=Sem.run prog (Builtin.append_ #[312,312] ty #[s,x]) w:=by
 unfold Builtin.append_;cases s<;>simp[go_sem,underlying312]
def z7j {rest:List Oper}{o:Oper}{a:Act}(g:o.guard=none) (s x:Operand)
  (q:o.op= .call {callee:= .builtin .append,args:=#[s,x],argTypes:=#[312,22]}) (base:Nat) (v:Value) (n:Nat) (xs:List Nat) (r:a.eval s=v) (d:w.ownsRow base 5 1 v n (eT xs))
  (b len cap:Nat) (l:List Nat) (hx:a.eval x= .slice (some ⟨b,0,none⟩) len cap) (e:BL w (some ⟨b,0,none⟩) len l) (E:n+len<=1000000) (H:base<=w.heap.size)
  (h: ∀v' f,f.ownsRow base 5 1 v' (n+len) (eT (xs++l))->w.grownBy f v.ownBlock->wpList prog ops Q rest (a.put o.dst v') f):wpList prog ops Q (o::rest) a w:=by
 obtain⟨i0,t,i,j,k⟩:=Se nD;refine Hl g fun K y=> ?_
 obtain⟨v',f,z,h2,h3,h4,h5⟩:=run_append_own_at (P:=prog) w base 312 o.type 5 i0 (.int .u8 0) 1 1 underlying312 t i j k rfl eh v n (eT xs) d ⟨b,0,none⟩ len cap (eT l) (by unfold eT;simp[e.len]) (e.add _ rfl) (by
  intro u p;unfold eT at p;obtain⟨c,_,rfl⟩:=List.mem_map.1 p
  rfl) Oq ed H
 unfold Oper.wp execOp;simp only[q,resolve,invoke,builtin,Sn,Ty,So,List.map_toArray,Hu,List.map_nil,r,hx,z7i,z];exact y _ _ (h v' f (by rw[IM];exact h2) h3)
def z7k {A:World}{v:Value}{cur:List Nat}(hi:N<=T) (HW1:Boxed A T 312 v) (b:A.ownsRow N 5 1 v cur (eT cur)) (a:B.ownsRow N 5 1 v' (cur.length+l.length) (eT (cur++l))) (c:A.grownBy B v.ownBlock):
  Boxed B T 312 v/\Tf N T A (B.setCell ⟨T,0,none⟩ v')/\eC N T (cur++l) (B.setCell ⟨T,0,none⟩ v'):=by
 have d:=HW1.not_row eh b;have H:=HW1.kept c d;have j:=(Nb _ A).grown c (Nj hi XT) (fun k e=>z20 b e ep);refine⟨H,⟨j.setCell Og _,fun k cs t f h1 h2 h3=> ?_⟩,v',H.set _,?_⟩
 ·have n:some k≠v.ownBlock:=fun e=>by
   rcases b.2 with⟨rfl,_⟩ | ⟨g,cap,o,rfl,_,i,_⟩
   ·cases e
   cases e;rw[h3]at i;cases i;exact h2 rfl
  rw[Ny _ _ _ _ h1];exact(c.block k (aD h3) n).trans h3
 rw[Mx];exact a.kept (grownBy_setCell' _ _ _) (.inr (H.not_row eh a).symm)
def RK {base:Nat}{v:Value}{l:List Value}(h:w.ownsRow base 5 1 v n l): ∃a c,v= .slice a n c:=by
 rcases h.2 with⟨rfl,h0⟩ | ⟨g,cap,cur,rfl,_⟩
 ·exact⟨none,0,by rw[h0]⟩
 exact⟨_,_,rfl⟩
def z7l (a:List Int) (n:Int):bI (a++[n])=bI a++cD n.toNat:=by simp[bI]
def qM (N:List Int) (h: ∀n∈N,eO n):(bI N).length<=5 * N.length:=by
 induction N with
 | nil=>simp[bI]
 | cons n N i=>
  have:=i fun m hz=>h m Qh;have h5:(cD n.toNat).length<=5:=uP (by have:=(h n ee).2;omega);simp only[bI,Sb,Mx,Du]at this ⊢;omega
def rF (N T:Nat) (d:List Int) (p:List Nat) (a:Option Addr) (c:Nat) (w:World) (ho:N<=T) (hb:eC N T p w) (hl: ∀W,Tf N T w W->IL W a d d) (z: ∀n∈d,eO n) (a6:p.length+5 * d.length<=100000):
  jW 324 #[jp T 0,js a d c] w fun e U=>(∃v,e= .returned v)/\Tf N T w U/\eC N T (p++bI d) U:=by
 have Z:=hI hl;have E:=hI z;refine Qa fun a0 hN=>?_;have q:=hI fun k=>qM (d.take k) fun n h=>z n (Tm h);clear hl z hb ho;refine Qf ?_;go_loopg [5,6,7,10,14] d.length (fun g v5 v6 v7 i v0 wr=> ∃k:Nat,k<=d.length/\g=d.length-k/\i= jV k/\Tf N T w wr/\eC N T (p++bI (d.take k)) wr)
 ·exact⟨0,ed,ed,rfl,Tf.refl _ _ _,by simpa [bI]using a0.o⟩
 obtain⟨k,a7,rfl,rfl,r,s⟩:=hrel;have V:=hI r;by_cases G9:k<d.length
 ·have hd:=bL G9;refine Qb fun _ _=>?_;obtain⟨b,off,rfl,a8⟩:=(Z wr r).cell k G9;have hp:=E _ (Nn G9);have X:Hid (bI (d.take (k+1))=bI (d.take k)++cD d[k].toNat):=(by show _=_;rw[Dc G9,z7l]);have F:=q k;rw[Dn]at F;generalize d[k]=n at *;obtain⟨m,rfl⟩:=Ds hp.1;rw[Sc]at X;have G:m<=2147483647:=XS;have h5:(cD m).length<=5:=uP ed;obtain⟨v,hT,o⟩:=s;have I:(p++bI (d.take k)).length<=99995:=(by rw[Mx];omega);obtain⟨cur,H⟩: ∃cur,cur=p++bI (d.take k):=⟨_,rfl⟩;have a1:Hid (cur++cD m=p++(bI (d.take k)++cD m)):=(by show _=_;rw[H,Dk]);rw[<-H]at o I;clear H;have J:=hT.cell;go_wp2_with fail;refine(z2z m _ G).mono ?_;rintro e w1 ⟨v1,rfl,f,l⟩;obtain⟨g1,d1,rfl,t,a2⟩:=CE f (tL m) (wG m);have HW1:Boxed w1 T 312 v:=(l.block _ hT.lt).trans hT;have u:=bU o l;have K:=Nj hN XT;have a3:=HW1.cell;have M:=hI (V.trans (Tf.of_below Eu l));clear J l f;go_wp2_with (at_builtin;refine z7j rfl (.tmp 22) (.tmp 23) rfl N v cur cur rfl u g1 _ d1 (cD m) rfl t ed K ?_;intro v' w2 j O;obtain⟨a9,d2,rfl⟩:=RK j;obtain⟨x,P,y⟩:=z7k hN HW1 u j O;have Q:=hI y;clear y;have a4:=x.cell;have a5:=x.frozen);have R:=hI (M.trans P);go_roundg (d.length-(k+1))
  ·go_light;exact⟨k+1,ed,ed,ej,R,by rw[X.o,<-a1.o];exact Q⟩
  go_light;omega
 obtain rfl:k=d.length:=ed;have hd:=bZ G9;have Y:=hI s;rw[Ph]at Y;go_wp2_with fail
 go_end0
 exact⟨⟨_,rfl⟩,V,Y⟩
structure Fx (A D:Nat) (W W':World):Prop where
 os:W'.os=W.os
 tape:W'.tape=W.tape
 output:W'.output=W.output
 size:W.heap.size<=W'.heap.size
 block: ∀k,k<W.heap.size->k≠A->k≠D->W'.heap[k]? =W.heap[k]?
def Fx.refl (A D:Nat) (W:World):Fx A D W W:=⟨rfl,rfl,rfl,Mv _,fun _ _ _ _=>rfl⟩
def Fx.trans {D:Nat}{V:World}(h:Fx A D U V) (k:Fx A D V W):Fx A D U W:=⟨k.os.trans h.os,k.tape.trans h.tape,k.output.trans h.output,Nj h.size k.size,fun i hi h1 h2=>(k.block i ZD h1 h2).trans (h.block i hi h1 h2)⟩
def Fx.of_below {D:Nat}{V:World}(h:jb V W):Fx A D V W:=⟨h.os,h.tape,h.output,h.size,fun i H _ _=>h.block i H⟩
def Fx.alloc {D:Nat}{V:World}(h:Fx A D V W) (o:Obj):Fx A D V (W.alloc o):=h.trans (.of_below ((Nb _ _).alloc ep o))
def Fx.row {D:Nat}{V:World}(h:Fx A D V W){o:Obj}(h1:k≠A) (h2:k≠D) (H:V.heap[k]? =some o):W.heap[k]? =some o:=(h.block k (aD H) h1 h2).trans H
structure eU (w0:World) (TB A D RD:Nat) (ba:Option Addr) (bc:Nat) (l:List Nat) (s:RS) (W:World):Prop where
 box:Boxed W TB 22 (js ba l bc)
 at_:Boxed W A 3 (jV (s.1:Int))
 bad:Boxed W D 4 (.bool s.2)
 rd:Boxed W RD 299 (.func (.func 228) #[] #[jp TB 0,jp A 0,jp D 0])
 bel:jb w0 W
 le:s.1<=l.length
structure qO (w0:World) (TB A D RD:Nat) (ba:Option Addr) (bc:Nat) (l:List Nat):Prop where
 bl:BL w0 ba l l
 cap:l.length<=bc
 len:l.length<=100000
 a0:w0.heap.size<=A
 d0:w0.heap.size<=D
 ad:A≠D
 ta:TB≠A
 td:TB≠D
 ra:RD≠A
 rd:RD≠D
def eU.below {D:Nat}{s:RS}{V:World}(h:eU w0 T A D RD ba bc l s V) (H:jb V W):eU w0 T A D RD ba bc l s W:=
 ⟨(H.block _ h.box.lt).trans h.box,(H.block _ h.at_.lt).trans h.at_,(H.block _ h.bad.lt).trans h.bad,(H.block _ h.rd.lt).trans h.rd,jt h.bel H,h.le⟩
def z7m {s:RS}(H: ∀i (h:i<l.length),l[i]<256) (a:s.1<=l.length):(nx l s).2.1<=l.length:=by
 unfold nx;split
 ·exact a
 rename_i h
 have h2:(fN l s.1).2.2=0:=by
  by_cases e:(fN l s.1).2.2=0
  ·exact e
  exact absurd (.inr e) h
 have e:fW l (s.1:Int)=fN l s.1:=by rw[fW,Np ed,Sc]
 rw[<-e]at h2 ⊢;obtain⟨q,-,-,-,-,h3,-⟩:=kt l s.1 H h2;exact h3
theorem oK (w0:World) (T A D RD:Nat) (ba:Option Addr) (bc:Nat) (l:List Nat) (ho:qO w0 T A D RD ba bc l) (s:RS) (w:World) (hb:eU w0 T A D RD ba bc l s w):
  jW 228 #[jp T 0,jp A 0,jp D 0] w fun e y=>e= .returned (jV (nx l s).1)/\Fx A D w y/\eU w0 T A D RD ba bc l (nx l s).2 y:=by
 have e:fW l (s.1:Int)=fN l s.1:=by rw[fW,Np (by have:=hb.le;omega),Sc]
 have G:=hI (z26 ba l bc l (s.1:Int) w (ho.bl.below hb.bel) (by have:=ho.len;omega) ho.cap);rw[e]at G;have j:=hI (z7m (s:=s) ho.bl.lt hb.le);have hx:=nx.eq_1 l s;obtain⟨p,b⟩:=s;refine Qa fun H a=>?_;have x1:=hb.box.cell;have x2:=hb.at_.cell;have x3:=hb.bad.cell;have x4:=hb.bad.frozen;have x5:=hb.at_.frozen;dsimp only at *;generalize fN l p=R at *;obtain⟨n,q,r⟩:=R;dsimp only at *;generalize nx l (p,b)=X at *;have a0:=a.ad
 have fin: ∀(Q:Nat) (f:Bool) (W:World),Q<=l.length->W=(w.setCell ⟨D,0,none⟩ (.bool f))\/W=((w.setCell ⟨D,0,none⟩ (.bool f)).setCell ⟨A,0,none⟩ (jV Q))->(W=(w.setCell ⟨D,0,none⟩ (.bool f))->Q=p)->
   Fx A D w W/\eU w0 T A D RD ba bc l (Q,f) W:=by
  intro Q f W hq E I;have d: ∀k,k≠D->(w.setCell ⟨D,0,none⟩ (.bool f)).heap[k]? =w.heap[k]? :=fun k o=>Ny _ _ _ _ o;have i: ∀(V:World) k,k≠A->(V.setCell ⟨A,0,none⟩ (jV Q)).heap[k]? =V.heap[k]? :=fun V k o=>Ny _ _ _ _ o;have b1:jb w0 (w.setCell ⟨D,0,none⟩ (.bool f)):=H.bel.setCell a.d0 _;rcases E with rfl | rfl
  ·obtain rfl:=I rfl;exact⟨⟨rfl,rfl,rfl,(KeepsWalks.setCell w _ _).size,fun k _ _ h2=>d k h2⟩,(d _ a.td).trans H.box,(d _ a.ad).trans H.at_,H.bad.set _,(d _ a.rd).trans H.rd,b1,hq⟩
  refine⟨⟨rfl,rfl,rfl,Nj (KeepsWalks.setCell w _ _).size (KeepsWalks.setCell _ _ _).size,fun k _ h1 h2=>(i _ k h1).trans (d k h2)⟩,(i _ _ a.ta).trans ((d _ a.td).trans H.box),?_,(i _ _ a.ad.symm).trans (H.bad.set _),(i _ _ a.ra).trans ((d _ a.rd).trans H.rd),b1.setCell a.a0 _,hq⟩;exact Boxed.set (v:= jV p) _ ((d _ a.ad).trans H.at_)
 have c:=hI fin;have t: ∀v,jc (w.setCell ⟨D,0,none⟩ v) A 0 p:=fun v=>((Boxed.other (B':=D) H.at_ a0 v)).cell;have J:=fun v=>((Boxed.other (B':=D) H.at_ a0 v)).frozen;have K:=fun v=>(H.bad.set v).cell;have u:p<=l.length:=H.le;have g:=hI u;have x:=hI hx;by_cases z:b=true
 ·subst z;have HE:Hid (X=(-1,(p,true))):=by show _=_;rw[x.o,Np (.inl rfl)]
  go_in;go_wp2_with fail;refine G.mono ?_;rintro e w1 ⟨rfl,rfl⟩;refine ei ?_;obtain⟨f1,F⟩:=c p true _ g (.inl rfl) (fun _=>rfl);exact⟨ew,f1,by rw[HE.o];exact F⟩
 obtain rfl:b=false:=by simpa using z
 by_cases hi:r=0
 ·subst hi;have HE:Hid (X=((n:Int),(q,false))):=(by show _=_;rw[x.o,Nm ee]);have M:Hid (q<=l.length):=(by have:=j.o;rw[HE.o]at this;exact this);go_in;go_wp2_with fail;refine G.mono ?_;rintro e w1 ⟨rfl,rfl⟩;refine ei ?_
  obtain⟨f1,F⟩:=c q false _ M (.inr rfl) (fun h=>by
   have:=Tc (fun W=>World.cell? W ⟨A,0,none⟩) h;rw[t]at this;have h2:=(Boxed.set (v:= jV p) (jV (q:Int)) ((Boxed.other (B':=D) H.at_ a0 (.bool false)))).cell;rw[h2]at this;have:=Value.int.inj (Pq this)
   omega)
  exact⟨ew,f1,by rw[HE.o];exact F⟩
 have N:(r != 0)=true:=Og;have HE:Hid (X=(-1,(p,true))):=(by show _=_;rw[x.o,Np (.inr hi)]);go_in;go_wp2_with fail;refine G.mono ?_;rintro e w1 ⟨rfl,rfl⟩;refine ei ?_;obtain⟨f1,F⟩:=c p true _ g (.inl rfl) (fun _=>rfl);exact⟨ew,f1,by rw[HE.o];exact F⟩
def Fx.setRow {D:Nat}{V:World}(h:Fx A D V W){g:Nat}(a:V.heap.size<=g) (cs:Array Value):Fx A D V (W.setRow g cs):=
 ⟨h.os,h.tape,h.output,by simpa [World.setRow]using h.size,fun k H h1 h2=>(Nq _ _ _ _ ed).trans (h.block k H h1 h2)⟩
def eU.setRow {D:Nat}{s:RS}(h:eU w0 T A D RD ba bc l s W){g:Nat}(h1:T≠g) (h2:A≠g) (h3:D≠g) (h4:RD≠g) (h5:w0.heap.size<=g) (cs:Array Value):eU w0 T A D RD ba bc l s (W.setRow g cs):=
 ⟨(Nq _ _ _ _ h1).trans h.box,(Nq _ _ _ _ h2).trans h.at_,(Nq _ _ _ _ h3).trans h.bad,(Nq _ _ _ _ h4).trans h.rd,⟨h.bel.os,h.bel.tape,h.bel.output,by simpa [World.setRow]using h.bel.size,fun k H=>(Nq _ _ _ _ ed).trans (h.bel.block k H)⟩,h.le⟩
def AI (f:FuncId){α:Type}(R:List Nat->RS->α × RS) (V:α->Value):Prop:= ∀(w0:World) (TB A D RD:Nat) (ba:Option Addr) (bc:Nat) (l:List Nat),qO w0 TB A D RD ba bc l-> ∀(s:RS) (w:World),eU w0 TB A D RD ba bc l s w->
  jW f #[jp RD 0] w fun e w'=>e= .returned (V (R l s).1)/\Fx A D w w'/\eU w0 TB A D RD ba bc l (R l s).2 w'
theorem MK {f:FuncId}{ty:TypeId}{fs:Array Field}{α:Type}{R:List Nat->RS->α × RS}{V:α->Value}{mk:Int->Int->α}(hJ: ∀l s,R l s=(mk (nx l s).1 (nx l (nx l s).2).1,(nx l (nx l s).2).2)) (hu:prog.underlying ty=some (.struct fs))
  (s:(∀l s,R l s=(mk (nx l s).1 (nx l (nx l s).2).1,(nx l (nx l s).2).2))->prog.underlying ty=some (.struct fs)->AI f R V:=by
 intro hJ hu w0 TB A D RD ba bc l hC s w hM;rw[hJ];have HN:=fun s W h=>oK w0 TB A D RD ba bc l hC s W h;have C1:=hI (HN s);generalize nx l s=p at *;obtain⟨n1,s1⟩:=p;dsimp only at *;have C2:=hI (HN s1);generalize nx l s1=p at *;obtain⟨n2,s2⟩:=p;dsimp only at *;have HM:=hI hM;have hla:=hM.at_.lt;have hld:=hM.bad.lt;have hlt:=hM.box.lt;have hlr:=hM.rd.lt;have hl0:=hM.bel.size;have HNE:Hid (w.heap.size≠A/\w.heap.size≠D/\w.heap.size≠TB/\w.heap.size≠RD/\w0.heap.size<=w.heap.size):=⟨by omega,by omega,by omega,by omega,hl0⟩;clear HN hM hla hld hlt hlr hl0 hJ hC
 (first | go_in | go_in | go_in)
 go_upto_region 1 with fail;generalize hW0:World.alloc _ _=W0;have B0:jb w W0:=by rw[<-hW0];exact aR
 have R0:=(congrArg (fun W:World=>W.heap[w.heap.size]?) hW0).symm.trans (heap_alloc_new _ _);clear hW0;refine iH [7] (fun W=>jc W RD 0 (.func (.func 228) #[] #[jp TB 0,jp A 0,jp D 0])) (by kernel_rfl) ?_;intro V0 hhV0 hbV0;have M0:=hI ((HM.below B0).below hbV0);have F0:Hid (Fx A D w V0):=(Fx.of_below B0).trans (Fx.of_below hbV0);have Q0:=hI ((jm hbV0 R0));have D0:=M0.rd.cell;clear hhV0 hbV0 B0 R0 HM;have t1: ∀t':aX (fun W=>jc W RD 0 (.func (.func 228) #[] #[jp TB 0,jp A 0,jp D 0])),jc t'.w RD 0 (.func (.func 228) #[] #[jp TB 0,jp A 0,jp D 0]):=fun t'=>t'.h;have tl: ∀t':aX (fun W=>jc W RD 0 (.func (.func 228) #[] #[jp TB 0,jp A 0,jp D 0])),RD<t'.w.heap.size:=fun t'=>block_lt_of_cell t'.h;refine zB [0,3,1,4] D0 ?_;clear t1 tl;refine aS 2 (by kernel_rfl) ?_;intro K hK;simp[wpOp,go_sem];refine .inl ((C1 V0 M0).mono ?_);rintro e V1 ⟨rfl,hf,hm⟩;simp[go_sem];have D1:=hm.rd.cell;refine hK _ _ (fun _=>D1) ?_;have M1:=hI hm;have F1:=hI (F0.trans hf);have Q1:=hI (hf.row HNE.1 HNE.2.1 Q0);clear hK K hf hm D0 M0 F0 Q0;refine aS 5 (by kernel_rfl) ?_;intro K hK;simp[wpOp,go_sem];refine .inl ((C2 V1 M1).mono ?_);rintro e V2 ⟨rfl,hf,hm⟩;simp[go_sem];have D2:=hm.rd.cell;refine hK _ _ (fun _=>D2) ?_;have M2:=hI hm;have F2:=hI (F1.trans hf);have Q2:=hI (hf.row HNE.1 HNE.2.1 Q1);clear hK K hf hm D1 M1 F1 Q1;refine zB [6] D2 ?_;refine aS 7 (by kernel_rfl) ?_;intro K hK;refine kG (o:=⟨none,.store _ (.tmp 1) (.tmp 8),_,_,_,none⟩) rfl rfl _ (.tmp 1) (.tmp 8) rfl w #[n1,n2] rfl rfl _ _ Q2 (by kernel_rfl) rfl (by simp[Value.oneCell']) ?_;refine hK _ _ (fun h=>absurd h (by decide)) ?_;have FE:=hI (F2.setRow (Nat.le_refl _) #[n1,n2]);have ME:=hI (M2.setRow (g:=w.heap.size) HNE.2.2.1.symm HNE.o.1.symm HNE.o.2.1.symm HNE.o.2.2.2.1.symm HNE.o.2.2.2.2 #[n1,n2]);have QE:=hI (setRow_heap V2 w _ #[n1,n2] _ _ Q2);clear hK K D2 M2 F2 Q2;generalize World.setRow _ _ _=VE at *;refine eI (by kernel_rfl) ?_ _;go_wp2_with fail;refine bodyPost_ret (v:= .agg #[n1,n2]) (results_cell_row rfl _ _ w _ _ (0,0) _ rfl QE hu rfl (by kernel_rfl)) rfl ?_
 exact⟨rfl,FE,ME⟩):AI f R V:=s hJ hu
def FO:AI 230 sF (fun x=> .agg #[x.tt,x.en]):=MK (mk:=Jn.mk) (fun _ _=>rfl) underlying133
def z7n:AI 241 vG (fun x=> .agg #[x.pt,x.lie]):=MK (mk:=Fl.mk) (fun _ _=>rfl) underlying207
def z7o:AI 234 vF (fun x=> .agg #[x.id,x.sec]):=MK (mk:=Pt.mk) (fun _ _=>rfl) underlying143
theorem z7p (w0:World) (T A D RD:Nat) (ba:Option Addr) (bc:Nat) (l:List Nat) (u:qO w0 T A D RD ba bc l) (s:RS) (w:World) (hM:eU w0 T A D RD ba bc l s w):
  jW 236 #[jp RD 0] w fun e q=>e= .returned (.agg #[jV (pD l s).1.id,jV (pD l s).1.sec,jV (pD l s).1.en])/\Fx A D w q/\eU w0 T A D RD ba bc l (pD l s).2 q:=by
 have d:=fun s W h=>oK w0 T A D RD ba bc l u s W h;have f:=hI (d s);have E:nx l s=((nx l s).1,(nx l s).2):=rfl;generalize(nx l s).1=n1 at E f;generalize(nx l s).2=s1 at E f;have i:=hI (d s1);have j:nx l s1=((nx l s1).1,(nx l s1).2):=rfl;generalize(nx l s1).1=n2 at j i;generalize(nx l s1).2=s2 at j i;have k:=hI (d s2);have n:nx l s2=((nx l s2).1,(nx l s2).2):=rfl;generalize(nx l s2).1=n3 at n k;generalize(nx l s2).2=s3 at n k
 have x:Hid (pD l s=(⟨n1,n2,n3⟩,s3)):=by
  show pD l s=_;unfold pD;simp only[E,j,n]
 rw[x.o];refine Yj fun y _ _ _ _ p=>?_;have n8:Hid (w.heap.size≠A/\w.heap.size≠D/\w.heap.size≠T/\w.heap.size≠RD/\w0.heap.size<=w.heap.size):=⟨ed,ed,ed,ed,p⟩;go_in;go_upto_region 1 with fail;generalize c:World.alloc _ _=W0;have B0:=jG c
 have R0:=jA c
 refine iH [10] (fun W=>jc W RD 0 (.func (.func 228) #[] #[jp T 0,jp A 0,jp D 0])) ef ?_;intro V0 r H;have M0:=hI ((y.below B0).below H);have F0:Hid (Fx A D w V0):=(Fx.of_below B0).trans (Fx.of_below H);have Q0:=hI ((jm H R0));have D0:=M0.rd.cell;have t1: ∀t:aX (fun W=>jc W RD 0 (.func (.func 228) #[] #[jp T 0,jp A 0,jp D 0])),jc t.w RD 0 (.func (.func 228) #[] #[jp T 0,jp A 0,jp D 0]):=fun t=>t.h;have N: ∀t:aX (fun W=>jc W RD 0 (.func (.func 228) #[] #[jp T 0,jp A 0,jp D 0])),RD<t.w.heap.size:=fun t=>Mt t.h;refine zB [0,3,6,1,4,7] D0 ?_;refine aS 2 ef ?_;refine Oy (f V0 M0) fun K b V1 hf a _ M1=>?_;refine Xs fun F1 Q1=>?_;refine aS 5 ef ?_;refine Oy (i V1 M1) fun K b V2 hf a _ M2=>?_;have F2:=hI (F1.trans hf);have Q2:=hI (hf.row n8.1 n8.2.1 Q1);refine aS 8 ef ?_;refine Oy (k V2 M2) fun K b V3 hf _ D3 M3=>?_;have F3:=hI (F2.trans hf);have Q3:=hI (hf.row n8.1 n8.2.1 Q2);refine zB [9] D3 ?_;refine aS 10 ef ?_;intro K b;refine kG (o:=⟨none,.store 145 (.tmp 1) (.tmp 11),_,_,_,none⟩) rfl rfl 145 (.tmp 1) (.tmp 11) rfl w #[n1,n2,n3] rfl rfl 145 _ Q3 ef rfl Qj ?_;refine b _ _ (fun h=>absurd h eh) ?_;have J:=hI (F3.setRow ep #[n1,n2,n3]);have M:=hI (M3.setRow (g:=w.heap.size) n8.2.2.1.symm n8.o.1.symm n8.o.2.1.symm n8.o.2.2.2.1.symm n8.o.2.2.2.2 #[n1,n2,n3]);have Q:=hI (Dp V3 w _ #[n1,n2,n3] _ _ Q3);generalize World.setRow _ _ _=V at *;refine eI ef ?_ _;go_wp2_with fail;refine Nh (v:= .agg #[n1,n2,n3]) (Pb rfl _ _ w 145 _ (0,0) _ rfl Q underlying145 rfl ef) rfl ?_;exact⟨rfl,J,M⟩
def Fy (A D:Nat) (W W':World):Prop:= ∀k cs t f,k≠A->k≠D->t≠80->t≠102->W.heap[k]? =some (.cells cs t f)->W'.heap[k]? =some (.cells cs t f)
def Fy.trans {D:Nat}{V:World}(h:Fy A D U V) (k:Fy A D V W):Fy A D U W:=fun i cs t f h1 h2 h3 h4 h5=>k i cs t f h1 h2 h3 h4 (h i cs t f h1 h2 h3 h4 h5)
def Fx.fy {D:Nat}{V:World}(h:Fx A D V W):Fy A D V W:=fun i cs t f h1 h2 _ _ h5=>h.row h1 h2 h5
def AZ {D base:Nat}{V:World}{v:Value}(h:V.ownsRow base e sz v n xs) (c:A<base) (d:D<base) (h1:e≠80) (h2:e≠102) (H:Fy A D V W):W.ownsRow base e sz v n xs:=by
 obtain⟨h3,h4⟩:=h;refine⟨h3,?_⟩;rcases h4 with h4 | ⟨g,cap,cur,rfl,a,b,h5⟩
 ·exact .inl h4
 exact .inr ⟨g,cap,cur,rfl,a,H g _ _ _ ed ed h1 h2 b,h5⟩
def pR {D base:Nat}{V:World}{v:Value}(h:V.ownsRow base e sz v n xs) (c:A<base) (d:D<base) (H:Fx A D V W):W.ownsRow base e sz v n xs:=by
 obtain⟨h3,h4⟩:=h;refine⟨h3,?_⟩;rcases h4 with h4 | ⟨g,cap,cur,rfl,a,b,h5⟩
 ·exact .inl h4
 exact .inr ⟨g,cap,cur,rfl,a,H.row ed ed b,h5⟩
def eU.belowN {D:Nat}{s:RS}{V:World}(h:eU w0 T A D RD ba bc l s V) (H:Below n V W) (h1:T<n) (h2:A<n) (h3:D<n) (h4:RD<n) (h5:w0.heap.size<=n):eU w0 T A D RD ba bc l s W:=
 ⟨(H.block _ h1).trans h.box,(H.block _ h2).trans h.at_,(H.block _ h3).trans h.bad,(H.block _ h4).trans h.rd,h.bel.trans (H.mono h5),h.le⟩
def Fx.belowN {D:Nat}{V:World}(h:Fx A D U V) (H:Below U V W):Fx A D U W:=
 ⟨H.os.trans h.os,H.tape.trans h.tape,H.output.trans h.output,Nj h.size H.size,fun k a h1 h2=>(H.block k a).trans (h.block k a h1 h2)⟩
def iC (x:Int):List Value:=[jV x]
def z7q (x:Int): ∀u∈iC x,u.oneCell'=true:=JB x
def z7r (x:Fl): ∀u∈kS x,u.oneCell'=true:=uR _ _
def mn {α:Type}(one:RS->α × RS): ∀n s,(iI one n s).1.length=n
 | 0,_=>rfl
 | n+1,s=>by rw[iI,Du,mn]
def wT (w:World) (v:Value) (t:TypeId):jc (w.alloc (.cells #[v] t)) w 0 v:=(Boxed.new w t v).cell
def ycx {α:Type}{b:Nat}{v:Value}{C:α->List Value}{xs:List α}{y:α}(h:W.ownsRow b e sz v n (xs.flatMap C++C y)):W.ownsRow b e sz v n ((xs++[y]).flatMap C):=by
 rw[Dg,Sb,List.flatMap_nil,Sh];exact h
def ycy {z:List Value}(_: ∀u∈z,u.oneCell'=true):List Value:=z
def ycz (g:FuncId) (ar:Nat->Nat->Nat->Nat->Array Value){α:Type}(R:List Nat->RS->α × RS) (V:α->Value):Prop:= ∀(w0:World) (TB A D RD:Nat) (ba:Option Addr) (bc:Nat) (l:List Nat),qO w0 TB A D RD ba bc l-> ∀(s:RS) (w:World),eU w0 TB A D RD ba bc l s w->
  jW g (ar TB A D RD) w fun e w'=>e= .returned (V (R l s).1)/\Fx A D w w'/\eU w0 TB A D RD ba bc l (R l s).2 w'
def AH (f:FuncId) (cl:Nat->Nat->Nat->Nat->Value){α:Type}(R:List Nat->RS->α × RS) (O:World->Nat->Value->Nat->List α->Prop):Prop:= ∀(w0:World) (TB A D RD:Nat) (ba:Option Addr) (bc:Nat) (l:List Nat),qO w0 TB A D RD ba bc l-> ∀(s:RS) (w:World),eU w0 TB A D RD ba bc l s w->
  jW f #[.agg #[.func (.func 228) #[] #[jp TB 0,jp A 0,jp D 0]],cl TB A D RD] w fun e w'=> ∃a c,e= .returned (js a (aW l (R l) s).1.length c)/\Fx A D w w'/\eU w0 TB A D RD ba bc l (aW l (R l) s).2 w'/\O w' w (js a (aW l (R l) s).1.length c) (aW l (R l) s).1.length (aW l (R l) s).1
def yc0 (f g:FuncId) (cl:Nat->Nat->Nat->Nat->Value) (ar:Nat->Nat->Nat->Nat->Array Value){α:Type}(V:α->Value) (O:World->Nat->Value->Nat->List α->Prop):Prop:= ∀(w0:World) (TB A D RD:Nat) (ba:Option Addr) (bc:Nat) (l:List Nat),qO w0 TB A D RD ba bc l-> ∀F:RS->α × RS,(∀(s:RS) (w:World),eU w0 TB A D RD ba bc l s w->jW g (ar TB A D RD) w fun e w'=>e= .returned (V (F s).1)/\Fx A D w w'/\eU w0 TB A D RD ba bc l (F s).2 w')-> ∀(s:RS) (w:World),eU w0 TB A D RD ba bc l s w->
  jW f #[.agg #[.func (.func 228) #[] #[jp TB 0,jp A 0,jp D 0]],cl TB A D RD] w fun e w'=> ∃a c,e= .returned (js a (aW l F s).1.length c)/\Fx A D w w'/\eU w0 TB A D RD ba bc l (aW l F s).2 w'/\O w' w (js a (aW l F s).1.length c) (aW l F s).1.length (aW l F s).1
theorem EM {f g:FuncId}{cl:Nat->Nat->Nat->Nat->Value}{ar:Nat->Nat->Nat->Nat->Array Value}{α:Type}{R:List Nat->RS->α × RS}{V:α->Value}{C:α->List Value}{t:TypeId}{by_:Nat}{z:Value}(hcl:ycz g ar R V) (hu:prog.underlying t=some (.slice e)) (hinf:(prog.info? e).map (fun i=>(i.zero,i.size,i.bytes))=some (some z,sz,by_)) (h1: ∀x,∀u∈C x,u.oneCell'=true)
  (s: ∀O:World->Nat->Value->Nat->List α->Prop,(∀W b v n xs,O W b v n xs↔W.ownsRow b e sz v n (xs.flatMap C))->prog.underlying t=some (.slice e)->(prog.info? e).map (fun i=>(i.zero,i.size,i.bytes))=some (some z,sz,by_)->(∀x,∀u∈C x,u.oneCell'=true)->yc0 f g cl ar V O:=by
 intro O hO hu hinf h1 w0 TB A D RD ba bc l hC F hcl s w hM
 try dsimp only
 have C0:=hI (oK w0 TB A D RD ba bc l hC s);have HCL:=hI hcl;have hR:=aW.eq_1 l F s;generalize nx l s=X at *;obtain⟨n,s1⟩:=X;dsimp only at hR C0;have HM:=hI hM;have hla:=hM.at_.lt;have hld:=hM.bad.lt;have hlt:=hM.box.lt;have hlr:=hM.rd.lt;have hl0:=hM.bel.size;have HNE:Hid (TB<w.heap.size/\A<w.heap.size/\D<w.heap.size/\RD<w.heap.size/\w0.heap.size<=w.heap.size):=⟨by omega,by omega,by omega,by omega,hl0⟩;clear hla hld hlt hlr hl0 hM hC hcl;by_cases h99:n<=99
 ·rw[if_pos h99]at hR;have hd99:decide (n<=99)=true:=decide_eq_true h99;obtain⟨N,hN⟩: ∃N,N=n.toNat:=⟨_,rfl⟩;rw[<-hN]at hR;have HL:=hI (mn F N s1);rw[hR];have HS:Hid (∀m s,iI F (m+1) s=((F s).1::(iI F m (F s).2).1,(iI F m (F s).2).2)):=fun m s=>rfl;have H0:Hid (∀s,iI F 0 s=([],s)):=fun s=>rfl;generalize hP:iI F N s1=P at *;have HP:=hI hP;have hN99:N<=99:=by omega
  have HNN:Hid (∀k:Nat,((k:Int)<n↔k<N)):=fun k=>by omega
  clear hP hR hN;generalize iI F=Q at *
  (first | go_in | go_in | go_in | go_in)
  go_upto_region 2 with fail;generalize hW0:World.alloc _ _=W0;have B0:jb w W0:=by rw[<-hW0];exact aR
  have c0:jc W0 w 0 (.func (.func 228) #[] #[jp TB 0,jp A 0,jp D 0]):=by rw[<-hW0];exact wT _ _ _
  have l0:=block_lt_of_cell c0;have M0:=hI (HM.below B0);have F0:Hid (Fx A D w W0):= .of_below B0;clear hW0 B0;go_wp2_with (go_at_call 228;refine(C0 _ M0).mono ?_;rintro e W1 ⟨rfl,hf,hm⟩;have F1:=hI (F0.trans hf);have M1:=hI hm;clear hf hm c0 l0);go_loopg [5,7] N (fun g o i wr=> ∃(k:Nat) (b':Option Addr) (d:Nat) (xs:List _) (sk:RS),k<=N/\g=N-k/\i= jV k/\o= .slice b' k d/\xs.length=k/\P=(xs++(Q (N-k) sk).1,(Q (N-k) sk).2)/\Fx A D w wr/\eU w0 TB A D RD ba bc l sk wr/\O wr w (js b' k d) k xs)
  ·exact⟨0,none,0,[],s1,by omega,by omega,rfl,rfl,rfl,by rw[<-HP.o];rfl,F1,M1,(hO _ _ _ _ _).2 (World.ownsRow_nil _ _ _ _)⟩
  obtain⟨k,b',d,xs,sk,hk,rfl,rfl,rfl,hxs,hPk,hfx,hm,hown⟩:=hrel;have HF:=hI hfx;have HO:=hI hown;have HXS:=hI hxs;have hNk:=HNN k;have C:=hI (HCL sk wr hm);by_cases hlt:k<N
  ·have hd:decide ((k:Int)<n)=true:=decide_eq_true (hNk.2 hlt);have e1:N-k=(N-(k+1))+1:=(by omega);rw[e1,HS.o]at hPk;have HPK:=hI hPk;have HLT:=hI hlt;generalize F sk=Y at *;obtain⟨y,sy⟩:=Y;dsimp only at HPK C;have hk9:k<=1000:=(by omega);clear hPk hm hfx hown hxs hlt e1 hNk;go_wp2_with (first | ((first | go_at_call 228 | go_at_call 234 | go_at_call 236 | go_at_call 241);refine C.mono ?_;rintro e W2 ⟨rfl,hf,hm⟩;have F2:=hI (HF.trans hf);have M2:=hI hm;have O2:=hI (pR ((hO _ _ _ _ _).1 HO) HNE.2.1 HNE.2.2.1 hf);have hwr:=F2.size;clear hf hm) | (at_builtin;refine nT rfl (.tmp 20) (.tmp 23) _ _ _ _ _ _ rfl hu hinf rfl (by decide) (by decide) w (js b' k d) k _ rfl O2 hk9 hwr (ycy (h1 y)) rfl rfl (h1 y) ?_;intro b8 c8 w8 hown8 hgr8))
   have hB8:Below w W2 w8:=((Below.refl _ _).alloc hwr _).trans (dT (O2.alloc _) (Nat.le_refl _) (by simp;omega) hgr8);have F8:=hI (F2.belowN hB8);have M8:=hI (M2.belowN hB8 HNE.1 HNE.2.1 HNE.2.2.1 HNE.2.2.2.1 HNE.2.2.2.2);have O8:=hI ((hO _ _ _ _ _).2 (ycx hown8));clear hB8 hown8 hgr8;go_roundg (N-(k+1))
   ·have:=HLT.o;go_light;exact⟨k+1,some ⟨b8,0,none⟩,c8,xs++[y],sy,by omega,by omega,by go_num,rfl,by rw[List.length_append,HXS.o];rfl,by rw[HPK.o,List.append_assoc];rfl,F8,M8,O8⟩
   have:=HLT.o;go_light;omega
  obtain rfl:k=N:=(by omega);have hd:decide ((k:Int)<n)=false:=decide_eq_false (fun h=>hlt (hNk.1 h));rw[Nat.sub_self,H0.o]at hPk;have HPK:Hid (P=(xs,sk)):=(by rw[hPk,List.append_nil];rfl);have HMM:=hI hm;clear hPk hm hfx hown hNk hlt;go_wp2_with fail;go_ret;rw[HPK.o];exact⟨b',d,by rw[HXS.o];rfl,HF,HMM,by rw[HXS.o];exact HO⟩
 rw[if_neg h99]at hR;have hd99:decide (n<=99)=false:=decide_eq_false h99;have hd0:decide ((0:Int)<n)=true:=decide_eq_true (by omega);rw[hR];clear hR HCL
 (first | go_in | go_in | go_in | go_in)
 go_upto_region 2 with fail;generalize hW0:World.alloc _ _=W0;have B0:jb w W0:=by rw[<-hW0];exact aR
 have c0:jc W0 w 0 (.func (.func 228) #[] #[jp TB 0,jp A 0,jp D 0]):=by rw[<-hW0];exact wT _ _ _
 have l0:=block_lt_of_cell c0;have M0:=hI (HM.below B0);have F0:Hid (Fx A D w W0):= .of_below B0;clear hW0 B0;go_wp2_with (go_at_call 228;refine(C0 _ M0).mono ?_;rintro e W1 ⟨rfl,hf,hm⟩;have F1:=hI (F0.trans hf);have M1:=hI hm;clear hf hm c0 l0);refine wp_loop_rounds 1 ?_;rw[rounds_succ];go_wp2_with fail;go_ret
 exact⟨none,0,rfl,F1,M1,(hO _ _ _ _ _).2 (World.ownsRow_nil _ _ _ _)⟩):AH f cl R (fun W b v n xs=>W.ownsRow b e sz v n (xs.flatMap C)):=fun w0 TB A D RD ba bc l hC=>s _ (fun _ _ _ _ _=> .rfl) hu hinf h1 w0 TB A D RD ba bc l hC (R l) (hcl w0 TB A D RD ba bc l hC)
def PK:AH 239 (fun T A D RD=> .func (.func 228) #[] #[jp T 0,jp A 0,jp D 0]) nx (fun W b v n xs=>W.ownsRow b 3 1 v n (xs.flatMap iC)):=EM (g:=228) (ar:=fun T A D RD=>#[jp T 0,jp A 0,jp D 0]) (V:= .int .i64) oK underlying54 rS z7q
def z7s:AH 233 (fun T A D RD=> .func (.func 234) #[] #[jp RD 0]) vF (fun W b v n xs=>W.ownsRow b 143 2 v n (xs.flatMap oO)):=EM (g:=234) (ar:=fun T A D RD=>#[jp RD 0]) (V:=fun x:Pt=> .agg #[x.id,x.sec]) z7o underlying24 CO IQ
def z7t:AH 235 (fun T A D RD=> .func (.func 236) #[] #[jp RD 0]) pD (fun W b v n xs=>W.ownsRow b 145 3 v n (xs.flatMap oM)):=EM (g:=236) (ar:=fun T A D RD=>#[jp RD 0]) (V:=fun x:Sg=> .agg #[x.id,x.sec,x.en]) z7p underlying25 CN IP
def z7u:AH 240 (fun T A D RD=> .func (.func 241) #[] #[jp RD 0]) vG (fun W b v n xs=>W.ownsRow b 207 2 v n (xs.flatMap kS)):=EM (g:=241) (ar:=fun T A D RD=>#[jp RD 0]) (V:=fun x:Fl=> .agg #[x.pt,x.lie]) z7n underlying100 DK z7r
def FN {P:Program}{c:Code}{a:Act}(F:Nat->Act) (R:Nat->World->Prop) (h2: ∀g W,R g W->Q .normal (F g) W) (h1:c.wp P (fun e A b=>e= .normal/\ ∃g,A=F g/\R g b) a w):c.wp P Q a w:=
 wp_mono h1 fun e A b ⟨he,g,H,d⟩=>by subst he;subst H;exact h2 g b d
def sP {P:Program}{md:Region.Mode}(i j:Nat){f:Nat}{L:Array Bool}{a:Act}{ws:List Nat}{D:World->Prop}(b:Region.ready md ops L=[i,j])
  (h: ∀K:Act->World->Prop,(∀A W,eG ws D (L.setIfInBounds i true) W->eQ P md ops Q (eG ws D) f (L.setIfInBounds i true) A W->K A W)->wpOp P ops Q i K a w)
  (h': ∀K:Act->World->Prop,(∀A W,eG ws D (L.setIfInBounds j true) W->eQ P md ops Q (eG ws D) f (L.setIfInBounds j true) A W->K A W)->wpOp P ops Q j K a w):
  eQ P md ops Q (eG ws D) (f+1) L a w:=
 ⟨fun h0=>(by rw[b]at h0;cases h0),fun k H=>by
  rw[b]at H;rcases Dv.1 H with rfl | H
  ·exact h _ (fun A W h1 h2=>⟨h1,h2⟩)
  obtain rfl:=Tv.1 H
  exact h' _ (fun A W h1 h2=>⟨h1,h2⟩)⟩
def qU {g:Nat}{T:TypeId}(h:jk W g cs T) (o:Nat):W.frozen? ⟨g,o,none⟩=false:=by simp[World.frozen?,h]
def qT {g o:Nat}{T:TypeId}(u:Value) (h:jk W g cs T):(W.setCell ⟨g,o,none⟩ u).heap[g]? =some (.cells (cs.setIfInBounds o u) T (0,0)):=by simp[World.setCell,Nk,h]
def Fx.setCell {D:Nat}{V:World}(h:Fx A D V W){g:Nat}(H:V.heap.size<=g) (o:Nat) (u:Value):Fx A D V (W.setCell ⟨g,o,none⟩ u):=h.belowN ((Nb _ _).setCell (p:=⟨g,o,none⟩) H u)
def FJ {base g:Nat}{T:TypeId}{v:Value}(h:W.ownsRow base e sz v n xs) (a:jk W g cs T) (b:T≠e):v.ownBlock≠some g:=fun h'=>by
 rcases h.2 with⟨rfl,_⟩ | ⟨k,cap,cur,rfl,_,H,_⟩
 ·cases h'
 cases h';rw[a]at H;cases H;exact b rfl
def kI {base g o:Nat}{T:TypeId}{v:Value}(u:Value) (h:W.ownsRow base e sz v n xs) (a:jk W g cs T) (b:T≠e):(W.setCell ⟨g,o,none⟩ u).ownsRow base e sz v n xs:=by
 have H:=FJ h a b;obtain⟨h1,h2⟩:=h;refine⟨h1,?_⟩;rcases h2 with h2 | ⟨k,cap,cur,rfl,c,d,h3⟩
 ·exact .inl h2
 exact .inr ⟨k,cap,cur,rfl,c,(Ny _ _ _ _ (fun e=>H (by rw[e];rfl))).trans d,h3⟩
theorem z7v (w0:World) (TB A D RD:Nat) (ba:Option Addr) (bc:Nat) (l:List Nat) (a5:qO w0 TB A D RD ba bc l) (J:Nat) (s:RS) (w:World) (ho:eU w0 TB A D RD ba bc l s w) (c1:Boxed w J 300 (.func (.func 230) #[] #[jp RD 0])) (a6:J≠A) (a7:J≠D):
  jW 232 #[jp RD 0,jp J 0] w fun e c2=> ∃a c,e= .returned (.agg #[jV (cG l s).1.id,jV (cG l s).1.pt,js a (cG l s).1.ends.length c])/\Fx A D w c2/\eU w0 TB A D RD ba bc l (cG l s).2 c2/\c2.ownsRow w 133 2 (js a (cG l s).1.ends.length c) (cG l s).1.ends.length ((cG l s).1.ends.flatMap nG):=by
 have hb:=cG.eq_1 l s;have C1:=hI (oK w0 TB A D RD ba bc l a5 s);generalize nx l s=X1 at *;obtain⟨n1,s1⟩:=X1;dsimp only at hb C1;have C2:=hI (oK w0 TB A D RD ba bc l a5 s1);generalize nx l s1=X2 at *;obtain⟨n2,s2⟩:=X2;dsimp only at hb C2;have C3:=hI (FO w0 TB A D RD ba bc l a5 s2);generalize sF l s2=X3 at *;obtain⟨j1,s3⟩:=X3;dsimp only at hb C3;have C4:=hI (FO w0 TB A D RD ba bc l a5 s3);generalize sF l s3=X4 at *;obtain⟨j2,s4⟩:=X4;dsimp only at hb C4;have C5:=hI (FO w0 TB A D RD ba bc l a5 s4);generalize sF l s4=X5 at *;obtain⟨j3,s5⟩:=X5;dsimp only at hb C5;generalize cG l s=d0 at *;obtain⟨x,y⟩:=j1;obtain⟨z,B⟩:=j2;obtain⟨N,O⟩:=j3;dsimp only at *;refine Qa fun R HM=>?_;have d8:=hI c1;have T:=hI a6;have U:=hI a7;have a8:=ho.at_.lt;have a9:=ho.bad.lt;have E:=ho.box.lt;have b0:=ho.rd.lt;have b1:=ho.bel.size;have n8:Hid (w.heap.size≠A/\w.heap.size≠D/\w.heap.size≠TB/\w.heap.size≠RD/\w0.heap.size<=w.heap.size):=⟨ed,ed,ed,ed,b1⟩;have HAW:Hid (A<w.heap.size/\D<w.heap.size/\TB<w.heap.size/\RD<w.heap.size/\J<w.heap.size):=⟨a8,a9,E,b0,c1.lt⟩;clear hb a8 a9 E b0 b1 ho c1 a6 a7 a5;go_in;go_upto_region 1 with fail;generalize a1:World.alloc _ _=W0;have B0:=jG a1
 have Q00:=hI (jA a1)
 refine Eo fun M00 F00=>?_;clear a1 B0;refine FN (fun g=>{tmps:=#[jp RD 0,jp J 0,jp w 0,jp g 0,jp RD 0,.func (.func 228) #[] #[jp TB 0,jp A 0,jp D 0],n1,jp RD 0,.func (.func 228) #[] #[jp TB 0,jp A 0,jp D 0],n2,.agg #[n1,n2,jN],undef,undef,undef,undef,undef,undef,undef,undef,undef,undef,undef,undef,undef,undef,undef,undef,undef],defers:=[]}) (fun g W=>Fx A D w W/\eU w0 TB A D RD ba bc l s2 W/\jk W g #[n1,n2,jN] 80/\jk W w #[jV 0,jV 0,jN] 80/\w.heap.size<g) ?h2 ?h1
 case h1=>
  refine iH [8] (fun W=>jc W RD 0 (.func (.func 228) #[] #[jp TB 0,jp A 0,jp D 0])) ef ?_;intro V0 G j4;refine Ys fun q F0 Q0=>?_;have D1:=q.rd.cell;clear G j4;have t1: ∀t:aX (fun W=>jc W RD 0 (.func (.func 228) #[] #[jp TB 0,jp A 0,jp D 0])),jc t.w RD 0 (.func (.func 228) #[] #[jp TB 0,jp A 0,jp D 0]):=fun t=>t.h;have b2: ∀t:aX (fun W=>jc W RD 0 (.func (.func 228) #[] #[jp TB 0,jp A 0,jp D 0])),RD<t.w.heap.size:=fun t=>Mt t.h;refine zB [0,3,1,4] D1 ?_;clear t1 b2;refine sP 2 7 ef ?_ ?_
  ·refine Oy (C1 V0 q) fun K hK I hf H X M=>?_;refine Xs fun L Q=>?_;clear hK K hf H D1 q F0 Q0;refine sP 5 7 ef ?_ ?_
   ·refine Oy (C2 I M) fun K hK W1 hf H r M2=>?_;have F:=hI (L.trans hf);have Q2:=hI (hf.row n8.1 n8.2.1 Q);clear hK K hf H X M L Q;refine zB [6] r ?_;refine aS 7 ef ?_;intro K hK;refine Ot ?_;refine Kb fun g hg=>?_;rw[<-hg];generalize hV:World.alloc W1 _=V;have b:jb W1 V:=Ub;have G4:Hid (jk V g #[jV 0,jV 0,jN] 80):=Um;have M4:=hI (M2.below b);have D0:=M4.rd.cell;refine Ob ?_;have F4:=hI (F.trans (Fx.of_below b));have Q4:=hI ((jm b Q2));refine YW fun HG=>?_;clear hK K b hV hg r M2 F Q2;refine aS 8 ef ?_;intro K hK;refine kG (o:=⟨none,.store 80 (.tmp 3) (.tmp 10),_,_,_,none⟩) rfl rfl 80 (.tmp 3) (.tmp 10) rfl g #[n1,n2,jN] rfl rfl 80 _ G4 ef rfl Qj ?_;refine hK _ _ (fun h=>absurd h eh) ?_;refine eI ef ?_ _;exact Kt
   intro K hK;refine Ot ?_;obtain⟨g,hg⟩: ∃g,g=I.heap.size:=⟨_,rfl⟩;rw[<-hg];generalize hV:World.alloc I _=W1;have b:jb I W1:=Ub;have G2:Hid (jk W1 g #[jV 0,jV 0,jN] 80):=Um;have M2:=hI (M.below b);have r:=M2.rd.cell;refine hK _ _ (fun _=>r) ?_;have F:=hI (L.trans (Fx.of_below b));have Q2:=hI ((jm b Q));have HG:Hid (w.heap.size<g/\g≠A/\g≠D/\g≠TB/\g≠RD):=⟨by rw[hg];exact aD Q,by have:=M.at_.lt;omega,by have:=M.bad.lt;omega,by have:=M.box.lt;omega,by have:=M.rd.lt;omega⟩;clear hK K b hV hg X M L Q;refine aS 5 ef ?_;refine Oy (C2 W1 M2) fun K hK V hf H D0 M4=>?_;have F4:=hI (F.trans hf);have Q4:=hI (hf.row n8.1 n8.2.1 Q2);have G4:=hI (hf.row HG.2.1 HG.2.2.1 G2);clear hK K hf H r M2 F Q2 G2;refine zB [6] D0 ?_;refine aS 8 ef ?_;intro K hK;refine kG (o:=⟨none,.store 80 (.tmp 3) (.tmp 10),_,_,_,none⟩) rfl rfl 80 (.tmp 3) (.tmp 10) rfl g #[n1,n2,jN] rfl rfl 80 _ G4 ef rfl Qj ?_;refine hK _ _ (fun h=>absurd h eh) ?_;refine eI ef ?_ _;exact Kt
  intro K hK;refine Ot ?_;obtain⟨g,hg⟩: ∃g,g=V0.heap.size:=⟨_,rfl⟩;rw[<-hg];generalize hV:World.alloc V0 _=I;have b:jb V0 I:=Ub;have G1:Hid (jk I g #[jV 0,jV 0,jN] 80):=Um;have M:=hI (q.below b);have X:=M.rd.cell;refine hK _ _ (fun _=>X) ?_;have L:=hI (F0.trans (Fx.of_below b));have Q:=hI ((jm b Q0));have HG:Hid (w.heap.size<g/\g≠A/\g≠D/\g≠TB/\g≠RD):=⟨by rw[hg];exact aD Q0,by have:=q.at_.lt;omega,by have:=q.bad.lt;omega,by have:=q.box.lt;omega,by have:=q.rd.lt;omega⟩;clear hK K b hV hg D1 q F0 Q0;refine aS 2 ef ?_;refine Oy (C1 I M) fun K hK W1 hf H r M2=>?_;have F:=hI (L.trans hf);have Q2:=hI (hf.row n8.1 n8.2.1 Q);have G2:=hI (hf.row HG.2.1 HG.2.2.1 G1);clear hK K hf H X M L Q G1;refine aS 5 ef ?_;refine Oy (C2 W1 M2) fun K hK V hf H D0 M4=>?_;have F4:=hI (F.trans hf);have Q4:=hI (hf.row n8.1 n8.2.1 Q2);have G4:=hI (hf.row HG.2.1 HG.2.2.1 G2);clear hK K hf H r M2 F Q2 G2;refine zB [6] D0 ?_;refine aS 8 ef ?_;intro K hK;refine kG (o:=⟨none,.store 80 (.tmp 3) (.tmp 10),_,_,_,none⟩) rfl rfl 80 (.tmp 3) (.tmp 10) rfl g #[n1,n2,jN] rfl rfl 80 _ G4 ef rfl Qj ?_;refine hK _ _ (fun h=>absurd h eh) ?_;refine eI ef ?_ _;exact Kt
 case h2=>
  rintro g W ⟨hf,H,hg,hq,E⟩;have d1:=hI hf;have MW:=hI H;have d2:=hI hg;have d3:=hI hq;have HG:Hid (w.heap.size<g/\g≠A/\g≠D/\g≠TB/\g≠RD/\g≠J):=⟨E,by have:=HAW.o;omega,by have:=HAW.o;omega,by have:=HAW.o;omega,by have:=HAW.o;omega,by have:=HAW.o;omega⟩;have c3:Hid (Boxed W J 300 (.func (.func 230) #[] #[jp RD 0])):=hf.row T U d8;clear hf H hg hq E M00 F00 Q00 HM;go_upto_region 2 with fail;refine iH [6] (fun W=>jc W J 0 (.func (.func 230) #[] #[jp RD 0])) ef ?_;intro V0 G j4;have q:=hI (MW.below j4);have F0:=hI (d1.trans (Fx.of_below j4));have Q0:=hI ((jm j4 d3));have d4:=hI ((jm j4 d2));have J0:Hid (Boxed V0 J 300 (.func (.func 230) #[] #[jp RD 0])):=(j4.block _ c3.lt).trans c3;have D1:=J0.cell;clear G j4 MW d1 d3 d2 c3;have t1: ∀t:aX (fun W=>jc W J 0 (.func (.func 230) #[] #[jp RD 0])),jc t.w J 0 (.func (.func 230) #[] #[jp RD 0]):=fun t=>t.h;have b2: ∀t:aX (fun W=>jc W J 0 (.func (.func 230) #[] #[jp RD 0])),J<t.w.heap.size:=fun t=>Mt t.h;refine zB [0,2] D1 ?_;clear t1 b2;refine aS 1 ef ?_;refine Oe (C3 V0 q) fun K hK=>?_;rintro e I ⟨rfl,hf,H⟩;simp[go_sem];have J1:Hid (Boxed I J 300 (.func (.func 230) #[] #[jp RD 0])):=hf.row T U J0;have X:=J1.cell;refine hK _ _ (fun _=>X) ?_;have M:=hI H;refine Xs fun L Q=>?_;have G1:=hI (hf.row HG.2.1 HG.2.2.1 d4);clear hK K hf H D1 q F0 Q0 d4 J0;refine aS 3 ef ?_;refine Oe (C4 I M) fun K hK=>?_;rintro e W1 ⟨rfl,hf,H⟩;simp[go_sem];have J2:Hid (Boxed W1 J 300 (.func (.func 230) #[] #[jp RD 0])):=hf.row T U J1;have r:=J2.cell;refine hK _ _ (fun _=>r) ?_;have M2:=hI H;have F:=hI (L.trans hf);have Q2:=hI (hf.row n8.1 n8.2.1 Q);have G2:=hI (hf.row HG.2.1 HG.2.2.1 G1);clear hK K hf H X M L Q G1 J1;refine aS 4 ef ?_;intro K hK;refine Ot ?_;obtain⟨g2,a2⟩: ∃g,g=W1.heap.size:=⟨_,rfl⟩;rw[<-a2];generalize hV:World.alloc W1 _=V;have b:jb W1 V:=Ub
  have O3:Hid (V.ownsRow w 133 2 (jq g2 0 2 2) 2 ([(⟨x,y⟩:Jn),⟨z,B⟩].flatMap nG)):=by
   show World.ownsRow _ _ _ _ _ _ _;rw[<-hV,a2];exact Hb (base:=w.heap.size) (size:=2) (e:=133) W1 #[x,y,z,B] 2 F.size eh rfl
  have M4:=hI (M2.below b);have J3:Hid (Boxed V J 300 (.func (.func 230) #[] #[jp RD 0])):=(b.block _ J2.lt).trans J2;have D0:=J3.cell;refine Ob ?_;have F4:=hI (F.trans (Fx.of_below b));have Q4:=hI ((jm b Q2));have G4:=hI ((jm b G2));clear hK K b hV r M2 F Q2 G2 J2 a2;refine zB [5] D0 ?_;refine aS 6 ef ?_;intro K hK;have c9:=(Mu _ _ 2 _ _ _ G4).trans rfl;have fz:=qU G4 2;refine Vi ?_;refine .inl ?_;refine hK _ _ (fun h=>absurd h eh) ?_;have O4:=hI (kI (o:=2) (jq g2 0 2 2) O3 G4 eh);have G0:Hid ((V.setCell ⟨g,2,none⟩ (jq g2 0 2 2)).heap[g]? =some (.cells #[n1,n2,jq g2 0 2 2] 80 (0,0))):=qT _ G4;have F1:=hI (F4.setCell jf 2 (jq g2 0 2 2));have f:Below g V (V.setCell ⟨g,2,none⟩ (jq g2 0 2 2)):=(Nb _ _).setCell (p:=⟨g,2,none⟩) ep _;have M0:=hI (M4.belowN f Qp Qp Qp Qp (by have:=n8.o;have:=HG.o;omega));have Q1:=hI ((f.block _ HG.1).trans Q4);have J4:Hid (Boxed _ J 300 _):=(f.block _ Qp).trans J3;clear hK K c9 fz D0 f O3 G4 F4 M4 Q4 J3;generalize World.setCell V _ _=V4 at *;refine eI ef ?_ _;have x0:jc V4 g 1 n2:=jr G0;refine Qw fun d5=>?_;by_cases i:0<n2
  ·have hd:decide (0<n2)=true:=Ni i;have H0:Hid (d0=(⟨n1,n2,[⟨x,y⟩,⟨z,B⟩,⟨N,O⟩]⟩,s5)):=(by have:=R.o;rw[Np i]at this;exact this);clear R;go_upto_region 4 with fail;clear x0 d5;refine iH [7] (fun W=>jc W J 0 (.func (.func 230) #[] #[jp RD 0])/\jc W g 2 (jq g2 0 2 2)) ef ?_;intro V5 b3 d;have M5:=hI (M0.below d);have F5:Hid (Fx A D w V5):=F1.trans (Fx.of_below d);have Q5:=hI ((jm d Q1));have G5:=hI ((jm d G0));have J5:Hid (Boxed V5 J 300 (.func (.func 230) #[] #[jp RD 0])):=(d.block _ J4.lt).trans J4;have O5:=hI (bU O4 d);have D5:jc V5 J 0 (.func (.func 230) #[] #[jp RD 0])/\jc V5 g 2 (jq g2 0 2 2):=⟨J5.cell,(Mu _ _ 2 _ _ _ G5).trans rfl⟩;clear b3 d M0 F1 Q1 G0 J4 O4;have t1: ∀t:aX (fun W=>jc W J 0 (.func (.func 230) #[] #[jp RD 0])/\jc W g 2 (jq g2 0 2 2)),jc t.w J 0 (.func (.func 230) #[] #[jp RD 0]):=fun t=>t.h.1;have t2: ∀t:aX (fun W=>jc W J 0 (.func (.func 230) #[] #[jp RD 0])/\jc W g 2 (jq g2 0 2 2)),jc t.w g 2 (jq g2 0 2 2):=fun t=>t.h.2;have b2: ∀t:aX (fun W=>jc W J 0 (.func (.func 230) #[] #[jp RD 0])/\jc W g 2 (jq g2 0 2 2)),J<t.w.heap.size:=fun t=>Mt t.h.1;have d9: ∀t:aX (fun W=>jc W J 0 (.func (.func 230) #[] #[jp RD 0])/\jc W g 2 (jq g2 0 2 2)),g<t.w.heap.size:=fun t=>Mt t.h.2;refine zB [0,2,1] D5 ?_;clear t1 t2 b2 d9;refine aS 3 ef ?_;refine Oe (C5 V5 M5) fun K hK=>?_;rintro e V6 ⟨rfl,hf,H⟩;simp[go_sem];have J6:Hid (Boxed V6 J 300 (.func (.func 230) #[] #[jp RD 0])):=hf.row T U J5;have G6:=hI (hf.row HG.2.1 HG.2.2.1 G5);have D6:jc V6 J 0 (.func (.func 230) #[] #[jp RD 0])/\jc V6 g 2 (jq g2 0 2 2):=⟨J6.cell,(Mu _ _ 2 _ _ _ G6).trans rfl⟩;refine hK _ _ (fun _=>D6) ?_;have M6:=hI H;have F6:=hI (F5.trans hf);have Q6:=hI (hf.row n8.1 n8.2.1 Q5);have O6:=hI (pR O5 HAW.1 HAW.2.1 hf);clear hK K hf H D5 M5 F5 Q5 G5 J5 O5;refine aS 4 ef ?_;intro K hK;refine Ot ?_;obtain⟨g3,a3⟩: ∃g,g=V6.heap.size:=⟨_,rfl⟩;rw[<-a3];generalize hV:World.alloc V6 _=V7;have b:jb V6 V7:=by rw[<-hV];exact aR
   have R7:Hid (jk V7 g3 #[N,O] 133):=(by show _=_;rw[<-hV,a3];exact Nc _ _);have O7:=hI (bU O6 b);have M7:=hI (M6.below b);have J7:Hid (Boxed V7 J 300 (.func (.func 230) #[] #[jp RD 0])):=(b.block _ J6.lt).trans J6;have D7:=(show jc V7 J 0 (.func (.func 230) #[] #[jp RD 0])/\jc V7 g 2 (jq g2 0 2 2) from⟨J7.cell,(b.cell (Mt D6.2)).trans D6.2⟩);refine hK _ _ (fun _=>D7) ?_;have F7:=hI (F6.trans (Fx.of_below b));have Q7:=hI ((jm b Q6));have G7:=hI ((jm b G6));clear hK K b hV D6 M6 F6 Q6 G6 J6 O6 a3;refine aS 5 ef ?_;intro K hK;obtain⟨i0,d6,b4,b5,b6⟩:=Se AB;obtain⟨v',V8,d7,a4,Y,-,-⟩:=run_append_own_at (P:=prog) V7 w 78 78 133 i0 _ 2 16 underlying78 d6 b4 b5 b6 rfl eh (jq g2 0 2 2) 2 _ O7 ⟨g3,0,none⟩ 1 1 [jV N,jV O] rfl (fun j u hj=>by rw[oB,Mu _ _ j _ _ _ R7.o];simpa using hj) Qj eh eh F7.size;obtain⟨k,n,rfl⟩:=iG a4;refine zQ (o:=⟨some 25,.call {callee:= .builtin .append,args:=#[.tmp 21,.tmp 24],argTypes:=#[78,78]},78,_,_,none⟩) rfl rfl (.tmp 21) (.tmp 24) 78 rfl _ _ _ V8 rfl rfl d7 ?_;have Z:Below w V7 V8:=dT O7 ep F7.size Y;have G8:=hI ((Y.block g (aD G7) (FJ O7 G7 eh).symm).trans G7);have Q8:=hI ((Y.block w (aD Q7) (FJ O7 Q7 eh).symm).trans Q7);have J8:Hid (Boxed V8 J 300 (.func (.func 230) #[] #[jp RD 0])):=(Z.block _ HAW.2.2.2.2).trans J7;have D8:jc V8 J 0 (.func (.func 230) #[] #[jp RD 0])/\jc V8 g 2 (jq g2 0 2 2):=⟨J8.cell,(Mu _ _ 2 _ _ _ G8).trans rfl⟩;refine hK _ _ (fun _=>D8) ?_;have M8:=hI (M7.belowN Z HAW.2.2.1 HAW.1 HAW.2.1 HAW.2.2.2.1 n8.2.2.2.2);have F8:=hI (F7.belowN Z);have O8:Hid (V8.ownsRow w 133 2 (js k 3 n) 3 ([(⟨x,y⟩:Jn),⟨z,B⟩,⟨N,O⟩].flatMap nG)):=a4;clear hK K d7 a4 Y Z D7 M7 F7 Q7 G7 J7 O7 R7 d6 b4 b5 b6
   conv=>arg 8;simp[Act.put]
   refine zB [6] D8 ?_;refine aS 7 ef ?_;intro K hK;have c9:=(Mu _ _ 2 _ _ _ G8).trans rfl;have fz:=qU G8 2;refine Vi ?_;refine .inl ?_;refine hK _ _ (fun h=>absurd h eh) ?_;have b7:=hI (kI (o:=2) (js k 3 n) O8 G8 eh);have b8:Hid ((V8.setCell ⟨g,2,none⟩ (js k 3 n)).heap[g]? =some (.cells #[n1,n2,js k 3 n] 80 (0,0))):=qT _ G8;have b9:=hI (F8.setCell jf 2 (js k 3 n));have f:Below g V8 (V8.setCell ⟨g,2,none⟩ (js k 3 n)):=(Nb _ _).setCell (p:=⟨g,2,none⟩) ep _;have c0:=hI (M8.belowN f Qp Qp Qp Qp (by have:=n8.o;have:=HG.o;omega));have a0:=hI ((f.block _ HG.1).trans Q8);have c4:=J8;clear hK K c9 fz D8 f O8 G8 F8 M8 Q8 J8;generalize World.setCell V8 _ _=V9 at *;refine eI ef ?_ _;go_upto_region 5 with fail;go_step;refine Dx rfl 80 (.tmp 3) rfl g rfl 80 _ (0,0) _ b8 underlying80 rfl ef ?_;simp[Act.put];refine bP rfl 80 (.tmp 2) (.tmp 27) rfl w #[n1,n2,js k 3 n] _ 80 rfl rfl a0 ef rfl Qj ?_;have c5:=hI (b9.setRow ep #[n1,n2,js k 3 n]);have c6:=hI (c0.setRow (g:=w.heap.size) n8.2.2.1.symm n8.o.1.symm n8.o.2.1.symm n8.o.2.2.2.1.symm n8.o.2.2.2.2 #[n1,n2,js k 3 n]);have c7:=hI (Dp _ w _ #[n1,n2,js k 3 n] _ _ a0);have c8:=mK (C:=#[n1,n2,js k 3 n]) b7 a0 eh;clear b9 c0 a0 b7 b8 c4;generalize World.setRow _ _ _=e0 at *;refine Vf ?_;refine Nh (v:= .agg #[n1,n2,js k 3 n]) (Pb rfl _ _ w 80 _ (0,0) _ rfl c7 underlying80 rfl ef) rfl ?_;rw[H0.o];exact⟨k,n,rfl,c5,c6,c8⟩
  have hd:decide (0<n2)=false:=Mw i;have H0:Hid (d0=(⟨n1,n2,[⟨x,y⟩,⟨z,B⟩]⟩,s4)):=(by have:=R.o;rw[Nm i]at this;exact this);clear R;go_upto_region 5 with fail;clear x0 d5;have b8:=G0;have a0:=Q1;have b9:=F1;have c0:=M0;have c4:=J4;have b7:=O4;clear G0 Q1 F1 M0 J4 O4;go_step;refine Dx rfl 80 (.tmp 3) rfl g rfl 80 _ (0,0) _ b8 underlying80 rfl ef ?_;simp[Act.put];refine bP rfl 80 (.tmp 2) (.tmp 27) rfl w #[n1,n2,jq g2 0 2 2] _ 80 rfl rfl a0 ef rfl Qj ?_;have c5:=hI (b9.setRow ep #[n1,n2,jq g2 0 2 2]);have c6:=hI (c0.setRow (g:=w.heap.size) n8.2.2.1.symm n8.o.1.symm n8.o.2.1.symm n8.o.2.2.2.1.symm n8.o.2.2.2.2 #[n1,n2,jq g2 0 2 2]);have c7:=hI (Dp _ w _ #[n1,n2,jq g2 0 2 2] _ _ a0);have c8:=mK (C:=#[n1,n2,jq g2 0 2 2]) b7 a0 eh;clear b9 c0 a0 b7 b8 c4;generalize World.setRow _ _ _=e0 at *;simp[Act.put];go_wp2_with fail;refine Nh (v:= .agg #[n1,n2,jq g2 0 2 2]) (Pb rfl _ _ w 80 _ (0,0) _ rfl c7 underlying80 rfl ef) rfl ?_;rw[H0.o];exact⟨some ⟨g2,0,none⟩,2,rfl,c5,c6,c8⟩
structure aU {α:Type}(O:World->List Value->α->Prop) (W:World) (N:Nat) (T:TypeId) (sz:Nat) (v:Value) (l:List α) (xss:List (List Value)):Prop where
 own:W.ownsRow N T sz v l (xss.flatMap id)
 len:xss.length=l.length
 sz: ∀x∈xss,x.length=sz
 el: ∀i (h:i<xss.length) (h':i<l.length),O W xss[i] l[i]
def aU.nil {α:Type}{O:World->List Value->α->Prop}{T:TypeId}:aU O W N T sz (jN) ([]:List α) []:=⟨Nw W N T sz,rfl,fun x h=>by simp at h,fun i h=>by simp at h⟩
def aU.fx {α:Type}{O:World->List Value->α->Prop}{V:World}{D:Nat}{T:TypeId}{v:Value}{l:List α}{xss:List (List Value)}(h:aU O V N T sz v l xss) (H: ∀a x,O V a x->O W a x) (b:A<N) (c:D<N) (d:Fx A D V W):aU O W N T sz v l xss:=
 ⟨pR h.own b c d,h.len,h.sz,fun i h1 h2=>H _ _ (h.el i h1 h2)⟩
def aU.app {α:Type}{O:World->List Value->α->Prop}{V:World}{T:TypeId}{v:Value}{l:List α}{xss:List (List Value)}{a:List Value}{x:α}(h:aU O V N T sz v l xss) (b: ∀a x,O V a x->O W a x) (HE:a.length=sz) (hx:O V a x) (hi:W.ownsRow N T sz v' (l.length+1) (xss.flatMap id++a)):aU O W N T sz v' (l++[x]) (xss++[a]):=by
 refine⟨Og,by simp[h.len],fun y N7=> ?_,fun i h1 h2=> ?_⟩
 ·rcases Tx.1 N7 with N7 | N7
  ·exact h.sz y N7
  rw[Tv]at N7;exact Uf
 by_cases H:i<xss.length
 ·rw[Sp H,Sp (by rw[<-h.len];exact H)];exact b _ _ (h.el i H (by rw[<-h.len];exact H))
 have e:i=xss.length:=Mr;subst e;have e2:(l++[x])[xss.length]=x:=Rx;rw[e2];simp only[Sm ep,Fi,Nu];exact b _ _ hx
def aU.sl {α:Type}{O R:World->List Value->α->Prop}{T:TypeId}{v:Value}{l:List α}{xss:List (List Value)}(h:aU O W N T sz v l xss) (a: ∀V x,O W V x->R W V x):Sl W sz R v l:=by
 have hl:=h.len;rcases h.own.2 with⟨rfl,h0⟩ | ⟨g,cap,cur,rfl,b,c,d,e,f,k⟩
 ·have hn:=Dm ed;exact XW
 refine⟨some ⟨g,0,none⟩,cap,rfl,d,(fun h=>nomatch h),fun i H=> ?_⟩;have hi':i<xss.length:=by rw[hl];exact H
 refine⟨g,0,xss[i],rfl,h.sz _ (Nn hi'),fun j hj=> ?_,a _ _ (h.el i hi' H)⟩
 have h1:(xss.flatMap id)[i * sz+j]? =some xss[i][j]:=by
  exact ZX
 have h2:=h.own.cells (g:=g) rfl (i * sz+j) _ h1;rw[oB]at h2;exact jj
def PJ {D base:Nat}{V:World}{v:Value}{o:Obj}(h:V.ownsRow base e sz v n xs) (he:e=80\/e=102) (a:(V.alloc o).grownBy W v.ownBlock):Fy A D V W:=fun k cs t f _ _ h3 h4 h5=>by
 have b:=aD h5;refine(a.block k em (fun E=> ?_)).trans ((Nv _ _ b).trans h5);rcases h.2 with⟨rfl,_⟩ | ⟨g,cap,cur,rfl,_,H,_⟩
 ·cases E
 cases E;rw[h5]at H;cases H;rcases he with h' | h'
 ·exact h3 h'
 exact h4 h'
def dI (N:Nat) (W:World) (vs:List Value) (x:aF):Prop:= ∃a c,vs=[.int .i64 x.id,.int .i64 x.pt,.slice a x.ends.length c]/\W.ownsRow N 133 2 (js a x.ends.length c) x.ends.length (x.ends.flatMap nG)
def dI.fy {D:Nat}{V:World}{v:List Value}{x:aF}(H:A<N) (b:D<N) (d:Fy A D V W) (h:dI N V v x):dI N W v x:=by
 obtain⟨a,c,h1,h2⟩:=h;exact⟨a,c,h1,AZ h2 H b eh eh d⟩
def dI.rd (v:List Value) (x:aF) (h:dI N W v x):cU W v x:=by
 obtain⟨a,c,h1,h2⟩:=h;exact⟨_,h1,fA.sl h2⟩
theorem z7w (w0:World) (T A D RD:Nat) (ba:Option Addr) (bc:Nat) (l:List Nat) (Z:qO w0 T A D RD ba bc l) (J:Nat) (K:J≠A) (L:J≠D) (s:RS) (w:World) (hb:eU w0 T A D RD ba bc l s w) (ho:Boxed w J 300 (.func (.func 230) #[] #[jp RD 0])):
  jW 231 #[.agg #[.func (.func 228) #[] #[jp T 0,jp A 0,jp D 0]],.func (.func 232) #[] #[jp RD 0,jp J 0]] w fun e a0=> ∃a c v,e= .returned (js a (aW l (cG l) s).1.length c)/\Fx A D w a0/\eU w0 T A D RD ba bc l (aW l (cG l) s).2 a0/\aU (dI w) a0 w 80 3 (js a (aW l (cG l) s).1.length c) (aW l (cG l) s).1 v:=by
 have C0:=hI (oK w0 T A D RD ba bc l Z s);have H0:=hI fun s W h (ho:Boxed W J 300 (.func (.func 230) #[] #[jp RD 0]))=>z7v w0 T A D RD ba bc l Z J s W h ho K L;have B:=aW.eq_1 l (cG l) s;generalize nx l s=X at *;obtain⟨n,s1⟩:=X;dsimp only at B C0;refine Qa fun HM b2=>?_;have H1:=hI K;have H2:=hI L;have a1:=hb.at_.lt;have a2:=hb.bad.lt;have b:=hb.box.lt;have a3:=hb.rd.lt;have M:=hb.bel.size;have H:Hid (T<w.heap.size/\A<w.heap.size/\D<w.heap.size/\RD<w.heap.size/\w0.heap.size<=w.heap.size):=⟨ed,ed,ed,ed,M⟩;clear a1 a2 b a3 M hb Z;by_cases r:n<=99
 ·rw[Np r]at B;have O:=jT r;obtain⟨N,a6⟩: ∃N,N=n.toNat:=⟨_,rfl⟩;rw[<-a6]at B;rw[B];have b3:Hid (∀m s,iI (cG l) (m+1) s=(((cG l) s).1::(iI (cG l) m ((cG l) s).2).1,(iI (cG l) m ((cG l) s).2).2)):=fun m s=>rfl;have b4:Hid (∀s,iI (cG l) 0 s=([],s)):=fun s=>rfl;generalize a7:iI (cG l) N s1=P at *;have HP:=hI a7;have a8:N<=99:=by omega
  have H3:Hid (∀k:Nat,((k:Int)<n↔k<N)):=fun k=>ed
  clear a7 B a6;generalize iI (cG l)=Q at *;generalize(cG l)=F at *;go_in;go_upto_region 2 with fail;generalize i5:World.alloc _ _=W0;have B0:=jG i5
  have x0:jc W0 w 0 (.func (.func 228) #[] #[jp T 0,jp A 0,jp D 0]):=by rw[<-i5];exact wT _ _ _
  have l0:=Mt x0;have M0:=hI (HM.below B0);have F0:Hid (Fx A D w W0):= .of_below B0;clear i5 B0;go_wp2_with (go_at_call 228;refine(C0 _ M0).mono ?_;rintro e W1 ⟨rfl,hO2,hw2⟩;have F1:=hI (F0.trans hO2);have M1:=hI hw2;clear hO2 hw2 x0 l0);go_loopg [5,7] N (fun g o i wr=> ∃(k:Nat) (I:Option Addr) (d:Nat) (xs:List aF) (E:RS) (v:List (List Value)),k<=N/\g=N-k/\i= jV k/\o= .slice I k d/\xs.length=k/\P=(xs++(Q (N-k) E).1,(Q (N-k) E).2)/\Fx A D w wr/\eU w0 T A D RD ba bc l E wr/\aU (dI w) wr w 80 3 (js I k d) xs v)
  ·exact⟨0,none,0,[],s1,[],ed,ed,rfl,rfl,rfl,XU,F1,M1,aU.nil⟩
  obtain⟨k,I,d,xs,E,v,c0,rfl,rfl,rfl,R,f,t,hw2,j⟩:=hrel;have HO13:=hI t;have b0:=hI j;have HE:=hI R;have u:=H3 k;have C:=hI (H0 E wr hw2 (t.row H1 H2 b2));by_cases b:k<N
  ·have hd:=Ni (u.2 b);have e1:N-k=(N-(k+1))+1:=ed;rw[e1,b3.o]at f;have z:=hI f;have HLT:=hI b;generalize F E=Y at *;obtain⟨y,b5⟩:=Y;dsimp only at z C;have a4:k<=1000:=ed;clear f hw2 t j R b e1 u;go_wp2_with (first | (go_at_call 232;refine C.mono ?_;rintro e V ⟨a9,c9,rfl,hO2,hw2,b6⟩;refine Uc fun F2 M2=>?_;have U:=F2.size;have O2:=hI (b0.fx (W:=V) (fun b7 x h=>h.fy H.2.1 H.2.2.1 hO2.fy) H.2.1 H.2.2.1 hO2);have P2:=hI ((show dI w V [jV y.id,jV y.pt,.slice a9 y.ends c9] y from⟨a9,c9,rfl,bW b6 HO13.size⟩));have b1:V.ownsRow w 80 3 (js I k d) k (v.flatMap id):=(by have:=O2.own;rw[HE.o]at this;exact this);have a5:=hI b1;clear hO2 hw2 b1) | (at_builtin;refine nT rfl (.tmp 20) (.tmp 23) 23 80 80 _ 3 40 rfl underlying23 CM rfl eh eh w (js I k d) k _ rfl a5 a4 U [jV y.id,jV y.pt,.slice a9 y.ends c9] rfl rfl Qj ?_;intro b8 c8 w8 p q))
   have G:=((Nb _ _).alloc U _).trans (dT (a5.alloc _) ep em q);have F8:=hI (F2.belowN G);have M8:=hI (M2.belowN G H.1 H.2.1 H.2.2.1 H.2.2.2.1 H.2.2.2.2);have Y8:Fy A D V w8:=PJ a5 eh q;have O8:=hI (O2.app (fun b7 x h=>h.fy H.2.1 H.2.2.1 Y8) rfl P2 (by rw[HE.o];exact p));clear G p q Y8;go_roundg (N-(k+1))
   ·have:=HLT.o;go_light;exact⟨k+1,some ⟨b8,0,none⟩,c8,xs++[y],b5,_,ed,ed,ej,rfl,by rw[Mx,HE.o];rfl,by rw[z.o,Dk];rfl,F8,M8,O8⟩
   exact Vx
  obtain rfl:k=N:=ed;have hd:=Mw (fun h=>b (u.1 h));rw[Fi,b4.o]at f;have z:Hid (P=(xs,E)):=(by rw[f,Sh];rfl);have H4:=hI hw2;clear f hw2 t j u b;refine ei ?_;rw[z.o];exact⟨I,d,v,ew,HO13,H4,by rw[HE.o];exact b0⟩
 rw[Nm r]at B;have O:=jU r;have b9:decide ((0:Int)<n)=true:=Ni ed;rw[B];go_in;go_upto_region 2 with fail;generalize i5:World.alloc _ _=W0;have B0:=jG i5
 have x0:jc W0 w 0 (.func (.func 228) #[] #[jp T 0,jp A 0,jp D 0]):=by rw[<-i5];exact wT _ _ _
 have l0:=Mt x0;refine Eo fun M0 F0=>?_;go_wp2_with (go_at_call 228;refine(C0 _ M0).mono ?_;rintro e W1 ⟨rfl,hO2,hw2⟩;have F1:=hI (F0.trans hO2);have M1:=hI hw2);refine Gu 1 ?_;rw[Hr];refine ei ?_;exact⟨none,0,[],rfl,F1,M1,aU.nil⟩
def iS (N:Nat) (W:World) (vs:List Value) (x:Rt):Prop:= ∃pa pc oa oc fa fc,vs=[.int .i64 x.id,.int .i64 x.E,.int .i64 x.X,.slice pa x.A.length pc,.slice oa x.O.length oc,.slice fa x.fl.length fc,.int .i64 x.T]/\W.ownsRow N 3 1 (js pa x.A.length pc) x.A.length (x.A.flatMap iC)/\W.ownsRow N 3 1 (js oa x.O.length oc) x.O.length (x.O.flatMap iC)/\W.ownsRow N 207 2 (js fa x.fl.length fc) x.fl.length (x.fl.flatMap kS)
def iS.fy {D:Nat}{V:World}{v:List Value}{x:Rt}(H:A<N) (a:D<N) (b:Fy A D V W) (h:iS N V v x):iS N W v x:=by
 obtain⟨p,pc,o,O,f,F,h1,h2,h3,h4⟩:=h;exact⟨p,pc,o,O,f,F,h1,AZ h2 H a eh eh b,AZ h3 H a eh eh b,AZ h4 H a eh eh b⟩
def PI {v:Value}{l:List Int}(h:W.ownsRow N 3 1 v l (l.flatMap iC)):eP W v l:=by
 have e:l.flatMap iC=l.map (Value.int .i64):=Mn
 rw[e]at h;exact DH h
def iS.rd (v:List Value) (x:Rt) (h:iS N W v x):fH W v x:=by
 obtain⟨p,pc,o,O,F,a,h1,h2,h3,h4⟩:=h;exact⟨_,_,_,h1,PI h2,PI h3,kK (f:=kS) h4 (fun _ _=>rfl) fun _ _=>rfl⟩
theorem z7x (w0:World) (TB A D RD:Nat) (ba:Option Addr) (bc:Nat) (l:List Nat) (x:qO w0 TB A D RD ba bc l) (s:RS) (w:World) (hM:eU w0 TB A D RD ba bc l s w):
  jW 238 #[jp RD 0] w fun e X=> ∃P pc O a f F,e= .returned (.agg #[jV (eS l s).1.id,jV (eS l s).1.E,jV (eS l s).1.X,js P (eS l s).1.A.length pc,js O (eS l s).1.O.length a,js f (eS l s).1.fl.length F,jV (eS l s).1.T])/\Fx A D w X/\eU w0 TB A D RD ba bc l (eS l s).2 X/\X.ownsRow w 3 1 (js P (eS l s).1.A.length pc) (eS l s).1.A.length ((eS l s).1.A.flatMap iC)/\X.ownsRow w 3 1 (js O (eS l s).1.O.length a) (eS l s).1.O.length ((eS l s).1.O.flatMap iC)/\X.ownsRow w 207 2 (js f (eS l s).1.fl.length F) (eS l s).1.fl.length ((eS l s).1.fl.flatMap kS):=by
 have r:=eS.eq_1 l s;have C1:=hI (oK w0 TB A D RD ba bc l x s);generalize nx l s=X1 at *;obtain⟨n1,s1⟩:=X1;dsimp only at r C1;have C2:=hI (oK w0 TB A D RD ba bc l x s1);generalize nx l s1=X2 at *;obtain⟨n2,s2⟩:=X2;dsimp only at r C2;have Y:=hI (oK w0 TB A D RD ba bc l x s2);generalize nx l s2=X3 at *;obtain⟨n,s3⟩:=X3;dsimp only at r Y;have C4:=hI (PK w0 TB A D RD ba bc l x s3);generalize aW l (nx l) s3=X4 at *;obtain⟨L,s4⟩:=X4;dsimp only at r C4;have C5:=hI (PK w0 TB A D RD ba bc l x s4);generalize aW l (nx l) s4=X5 at *;obtain⟨lo,s5⟩:=X5;dsimp only at r C5;have C6:=hI (z7u w0 TB A D RD ba bc l x s5);generalize aW l (vG l) s5=X6 at *;obtain⟨b,s6⟩:=X6;dsimp only at r C6;have C7:=hI (oK w0 TB A D RD ba bc l x s6);generalize nx l s6=X7 at *;obtain⟨N,s7⟩:=X7;dsimp only at r C7;rw[r];dsimp only;refine Yj fun HM a2 a3 y a4 a5=>?_;have n8:Hid (w.heap.size≠A/\w.heap.size≠D/\w.heap.size≠TB/\w.heap.size≠RD/\w0.heap.size<=w.heap.size):=⟨ed,ed,ed,ed,a5⟩;have HAW:Hid (A<w.heap.size/\D<w.heap.size/\TB<w.heap.size/\RD<w.heap.size):=⟨a2,a3,y,a4⟩;go_in;go_upto_region 1 with fail;generalize Z:World.alloc _ _=W0;have B0:=jG Z
 have Q00:=hI (jA Z)
 refine Eo fun M00 F00=>?_;refine FN (fun g=>{tmps:=#[.pointer (some ⟨RD,0,none⟩),.pointer (some ⟨w,0,none⟩),.pointer (some ⟨g,0,none⟩),.pointer (some ⟨RD,0,none⟩),.func (.func 228) #[] #[jp TB 0,jp A 0,jp D 0],jV n1,.pointer (some ⟨RD,0,none⟩),.func (.func 228) #[] #[jp TB 0,jp A 0,jp D 0],jV n2,.pointer (some ⟨RD,0,none⟩),.func (.func 228) #[] #[jp TB 0,jp A 0,jp D 0],jV n,.agg #[n1,n2,n,jN,jN,jN,jV 0],undef,undef,undef,undef,undef,undef,undef,undef,undef,undef,undef,undef,undef,undef,undef,undef,undef,undef,undef],defers:=[]}) (fun g W=>Fx A D w W/\eU w0 TB A D RD ba bc l s3 W/\jk W g #[n1,n2,n,jN,jN,jN,jV 0] 102/\jk W w #[jV 0,jV 0,jV 0,jN,jN,jN,jV 0] 102/\w.heap.size<g) ?h2 ?h1
 case h1=>
  refine iH [11] (fun W=>jc W RD 0 (.func (.func 228) #[] #[jp TB 0,jp A 0,jp D 0])) ef ?_;intro J a0 j4;refine Ys fun M0 F0 Q0=>?_;have D1:=M0.rd.cell;have t1: ∀t:aX (fun W=>jc W RD 0 (.func (.func 228) #[] #[jp TB 0,jp A 0,jp D 0])),jc t.w RD 0 (.func (.func 228) #[] #[jp TB 0,jp A 0,jp D 0]):=fun t=>t.h;have a6: ∀t:aX (fun W=>jc W RD 0 (.func (.func 228) #[] #[jp TB 0,jp A 0,jp D 0])),RD<t.w.heap.size:=fun t=>Mt t.h;refine zB [0,3,6,1,4,7] D1 ?_;refine sP 2 10 ef ?_ ?_
  ·refine Oy (C1 J M0) fun K hK j hb ho R d=>?_;have z:=hI (F0.trans hb);have B:=hI (hb.row n8.1 n8.2.1 Q0);refine sP 5 10 ef ?_ ?_
   ·refine Oy (C2 j d) fun K hK V hb ho E M=>?_;have u:=hI (z.trans hb);have Q:=hI (hb.row n8.1 n8.2.1 B);refine sP 8 10 ef ?_ ?_
    ·refine Oy (Y V M) fun K hK W1 hb ho i M2=>?_;have k:=hI (u.trans hb);have Q2:=hI (hb.row n8.1 n8.2.1 Q);refine zB [9] i ?_;refine aS 10 ef ?_;intro K hK;refine Ot ?_;refine Kb fun g hg=>?_;rw[<-hg];generalize hV:World.alloc W1 _=I;have c:jb W1 I:=Ub;have G4:Hid (jk I g #[jV 0,jV 0,jV 0,jN,jN,jN,jV 0] 102):=Um;have M4:=hI (M2.below c);have D0:=M4.rd.cell;refine Ob ?_;have F4:=hI (k.trans (Fx.of_below c));have Q4:=hI ((jm c Q2));refine YW fun HG=>?_;refine aS 11 ef ?_;intro K hK;refine kG (o:=⟨none,.store 102 (.tmp 2) (.tmp 12),_,_,_,none⟩) rfl rfl 102 (.tmp 2) (.tmp 12) rfl g #[n1,n2,n,jN,jN,jN,jV 0] rfl rfl 102 _ G4 ef rfl Qj ?_;refine hK _ _ (fun h=>absurd h eh) ?_;refine eI ef ?_ _;exact Kt
    intro K hK;refine Ot ?_;obtain⟨g,hg⟩: ∃g,g=V.heap.size:=⟨_,rfl⟩;rw[<-hg];generalize hV:World.alloc V _=W1;have c:jb V W1:=Ub;have G:Hid (jk W1 g #[jV 0,jV 0,jV 0,jN,jN,jN,jV 0] 102):=Um;have M2:=hI (M.below c);have i:=M2.rd.cell;refine hK _ _ (fun _=>i) ?_;have k:=hI (u.trans (Fx.of_below c));have Q2:=hI ((jm c Q));have HG:Hid (w.heap.size<g/\g≠A/\g≠D/\g≠TB/\g≠RD):=⟨by rw[hg];exact aD Q,by have:=M.at_.lt;omega,by have:=M.bad.lt;omega,by have:=M.box.lt;omega,by have:=M.rd.lt;omega⟩;refine aS 8 ef ?_;refine Oy (Y W1 M2) fun K hK I hb ho D0 M4=>?_;have F4:=hI (k.trans hb);have Q4:=hI (hb.row n8.1 n8.2.1 Q2);have G4:=hI (hb.row HG.2.1 HG.2.2.1 G);refine zB [9] D0 ?_;refine aS 11 ef ?_;intro K hK;refine kG (o:=⟨none,.store 102 (.tmp 2) (.tmp 12),_,_,_,none⟩) rfl rfl 102 (.tmp 2) (.tmp 12) rfl g #[n1,n2,n,jN,jN,jN,jV 0] rfl rfl 102 _ G4 ef rfl Qj ?_;refine hK _ _ (fun h=>absurd h eh) ?_;refine eI ef ?_ _;exact Kt
   intro K hK;refine Ot ?_;obtain⟨g,hg⟩: ∃g,g=j.heap.size:=⟨_,rfl⟩;rw[<-hg];generalize hV:World.alloc j _=V;have c:jb j V:=Ub;have q:Hid (jk V g #[jV 0,jV 0,jV 0,jN,jN,jN,jV 0] 102):=Um;have M:=hI (d.below c);have E:=M.rd.cell;refine hK _ _ (fun _=>E) ?_;have u:=hI (z.trans (Fx.of_below c));have Q:=hI ((jm c B));have HG:Hid (w.heap.size<g/\g≠A/\g≠D/\g≠TB/\g≠RD):=⟨by rw[hg];exact aD B,by have:=d.at_.lt;omega,by have:=d.bad.lt;omega,by have:=d.box.lt;omega,by have:=d.rd.lt;omega⟩;refine aS 5 ef ?_;refine Oy (C2 V M) fun K hK W1 hb ho i M2=>?_;have k:=hI (u.trans hb);have Q2:=hI (hb.row n8.1 n8.2.1 Q);have G:=hI (hb.row HG.2.1 HG.2.2.1 q);refine aS 8 ef ?_;refine Oy (Y W1 M2) fun K hK I hb ho D0 M4=>?_;have F4:=hI (k.trans hb);have Q4:=hI (hb.row n8.1 n8.2.1 Q2);have G4:=hI (hb.row HG.2.1 HG.2.2.1 G);refine zB [9] D0 ?_;refine aS 11 ef ?_;intro K hK;refine kG (o:=⟨none,.store 102 (.tmp 2) (.tmp 12),_,_,_,none⟩) rfl rfl 102 (.tmp 2) (.tmp 12) rfl g #[n1,n2,n,jN,jN,jN,jV 0] rfl rfl 102 _ G4 ef rfl Qj ?_;refine hK _ _ (fun h=>absurd h eh) ?_;refine eI ef ?_ _;exact Kt
  intro K hK;refine Ot ?_;obtain⟨g,hg⟩: ∃g,g=J.heap.size:=⟨_,rfl⟩;rw[<-hg];generalize hV:World.alloc J _=j;have c:jb J j:=Ub;have G1:Hid (jk j g #[jV 0,jV 0,jV 0,jN,jN,jN,jV 0] 102):=Um;have d:=hI (M0.below c);have R:=d.rd.cell;refine hK _ _ (fun _=>R) ?_;have z:=hI (F0.trans (Fx.of_below c));have B:=hI ((jm c Q0));have HG:Hid (w.heap.size<g/\g≠A/\g≠D/\g≠TB/\g≠RD):=⟨by rw[hg];exact aD Q0,by have:=M0.at_.lt;omega,by have:=M0.bad.lt;omega,by have:=M0.box.lt;omega,by have:=M0.rd.lt;omega⟩;refine aS 2 ef ?_;refine Oy (C1 j d) fun K hK V hb ho E M=>?_;have u:=hI (z.trans hb);have Q:=hI (hb.row n8.1 n8.2.1 B);have q:=hI (hb.row HG.2.1 HG.2.2.1 G1);refine aS 5 ef ?_;refine Oy (C2 V M) fun K hK W1 hb ho i M2=>?_;have k:=hI (u.trans hb);have Q2:=hI (hb.row n8.1 n8.2.1 Q);have G:=hI (hb.row HG.2.1 HG.2.2.1 q);refine aS 8 ef ?_;refine Oy (Y W1 M2) fun K hK I hb ho D0 M4=>?_;have F4:=hI (k.trans hb);have Q4:=hI (hb.row n8.1 n8.2.1 Q2);have G4:=hI (hb.row HG.2.1 HG.2.2.1 G);refine zB [9] D0 ?_;refine aS 11 ef ?_;intro K hK;refine kG (o:=⟨none,.store 102 (.tmp 2) (.tmp 12),_,_,_,none⟩) rfl rfl 102 (.tmp 2) (.tmp 12) rfl g #[n1,n2,n,jN,jN,jN,jV 0] rfl rfl 102 _ G4 ef rfl Qj ?_;refine hK _ _ (fun h=>absurd h eh) ?_;refine eI ef ?_ _;exact Kt
 case h2=>
  rintro g W ⟨hb,ho,hg,hq,y⟩;refine Qa fun a7 MW=>?_;have a8:=hI hg;have a9:=hI hq;have HG:Hid (w.heap.size<g/\g≠A/\g≠D/\g≠TB/\g≠RD):=⟨y,by have:=HAW.o;omega,by have:=HAW.o;omega,by have:=HAW.o;omega,by have:=HAW.o;omega⟩;go_upto_region 2 with fail;refine iH [11] (fun W=>jc W RD 0 (.func (.func 228) #[] #[jp TB 0,jp A 0,jp D 0])) ef ?_;intro J a0 j4;have M0:=hI (MW.below j4);have F0:=hI (a7.trans (Fx.of_below j4));have Q0:=hI ((jm j4 a9));have G0:=hI ((jm j4 a8));have D1:=M0.rd.cell;have t1: ∀t:aX (fun W=>jc W RD 0 (.func (.func 228) #[] #[jp TB 0,jp A 0,jp D 0])),jc t.w RD 0 (.func (.func 228) #[] #[jp TB 0,jp A 0,jp D 0]):=fun t=>t.h;have a6: ∀t:aX (fun W=>jc W RD 0 (.func (.func 228) #[] #[jp TB 0,jp A 0,jp D 0])),RD<t.w.heap.size:=fun t=>Mt t.h;refine zB [0,1,4,5,2,6] D1 ?_;refine aS 3 ef ?_;refine Oe (C4 J M0) fun K hK=>?_;rintro e j ⟨P,pc,rfl,hb,ho,a1⟩;simp[go_sem];have R:=ho.rd.cell;refine hK _ _ (fun _=>R) ?_;have d:=hI ho;have P1:=hI (bW a1 F0.size);have z:=hI (F0.trans hb);have B:=hI (hb.row n8.1 n8.2.1 Q0);have G1:=hI (hb.row HG.2.1 HG.2.2.1 G0);refine zB [8] R ?_;refine aS 7 ef ?_;refine Oe (C5 j d) fun K hK=>?_;rintro e V ⟨O,a,rfl,hb,ho,a1⟩;simp[go_sem];have E:=ho.rd.cell;refine hK _ _ (fun _=>E) ?_;have M:=hI ho;have O2:=hI (bW a1 z.size);have P2:=hI (pR P1 HAW.1 HAW.2.1 hb);have u:=hI (z.trans hb);have Q:=hI (hb.row n8.1 n8.2.1 B);have q:=hI (hb.row HG.2.1 HG.2.2.1 G1);refine aS 9 ef ?_;intro K hK;have c9:=(Mu _ _ 3 _ _ _ q).trans rfl;have fz:=qU q 3;refine Vi ?_;refine .inl ?_;have P3:=hI (kI (o:=3) (js P L pc) P2 q eh);have O3:=hI (kI (o:=3) (js P L pc) O2 q eh);have G:Hid ((V.setCell ⟨g,3,none⟩ (js P L pc)).heap[g]? =some (.cells #[n1,n2,n,js P L pc,jN,jN,jV 0] 102 (0,0))):=qT _ q;have k:=hI (u.setCell jf 3 (js P L pc))
  have H:Below g V (V.setCell ⟨g,3,none⟩ (js P L pc)):=(Nb _ _).setCell (p:=⟨g,3,none⟩) ep _;have M2:=hI (M.belowN H Qp Qp Qp Qp (by have:=n8.o;have:=HG.o;omega));have Q2:=hI ((H.block _ HG.1).trans Q);have i:=M2.rd.cell;refine hK _ _ (fun _=>i) ?_;generalize World.setCell V _ _=W1 at *;refine zB [10] i ?_;refine aS 11 ef ?_;intro K hK;have c9:=(Mu _ _ 4 _ _ _ G).trans rfl;have fz:=qU G 4;refine Vi ?_;refine .inl ?_;have P4:=hI (kI (o:=4) (js O lo a) P3 G eh);have O4:=hI (kI (o:=4) (js O lo a) O3 G eh);have G4:Hid ((W1.setCell ⟨g,4,none⟩ (js O lo a)).heap[g]? =some (.cells #[n1,n2,n,js P L pc,js O lo a,jN,jV 0] 102 (0,0))):=qT _ G;have F4:=hI (k.setCell jf 4 (js O lo a));have H:Below g W1 (W1.setCell ⟨g,4,none⟩ (js O lo a)):=(Nb _ _).setCell (p:=⟨g,4,none⟩) ep _;have M4:=hI (M2.belowN H Qp Qp Qp Qp (by have:=n8.o;have:=HG.o;omega));have Q4:=hI ((H.block _ HG.1).trans Q2);refine hK _ _ (fun h=>absurd h eh) ?_;generalize World.setCell W1 _ _=I at *;refine eI ef ?_ _;have x0:=M4.rd.cell;refine Qw fun b0=>?_;go_upto_region 4 with(go_at_call 240;refine(C6 I M4).mono ?_;rintro e V5 ⟨f,F,rfl,hb,ho,a1⟩;have M5:=hI ho;have L5:=hI (bW a1 F4.size);have P5:=hI (pR P4 HAW.1 HAW.2.1 hb);have O5:=hI (pR O4 HAW.1 HAW.2.1 hb);have F5:=hI (F4.trans hb);have Q5:=hI (hb.row n8.1 n8.2.1 Q4);have T:=hI (hb.row HG.2.1 HG.2.2.1 G4);have c9:=(Mu _ _ 5 _ _ _ T).trans rfl;have fz:=qU T 5);have P6:=hI (kI (o:=5) (js f b F) P5 T eh);have O6:=hI (kI (o:=5) (js f b F) O5 T eh);have L6:=hI (kI (o:=5) (js f b F) L5 T eh);have G6:Hid ((V5.setCell ⟨g,5,none⟩ (js f b F)).heap[g]? =some (.cells #[n1,n2,n,js P L pc,js O lo a,js f b F,jV 0] 102 (0,0))):=qT _ T;have F6:=hI (F5.setCell jf 5 (js f b F))
  have H:Below g V5 (V5.setCell ⟨g,5,none⟩ (js f b F)):=(Nb _ _).setCell (p:=⟨g,5,none⟩) ep _;have M6:=hI (M5.belowN H Qp Qp Qp Qp (by have:=n8.o;have:=HG.o;omega));have Q6:=hI ((H.block _ HG.1).trans Q5);generalize World.setCell V5 _ _=V6 at *;have x0:=M6.rd.cell;refine Qw fun _=>?_;go_upto_region 5 with(go_at_call 228;refine(C7 V6 M6).mono ?_;rintro e V7 ⟨rfl,hb,ho⟩;have M7:=hI ho;have L7:=hI (pR L6 HAW.1 HAW.2.1 hb);have P7:=hI (pR P6 HAW.1 HAW.2.1 hb);have O7:=hI (pR O6 HAW.1 HAW.2.1 hb);have F7:=hI (F6.trans hb);have Q7:=hI (hb.row n8.1 n8.2.1 Q6);have U:=hI (hb.row HG.2.1 HG.2.2.1 G6);have c9:=(Mu _ _ 6 _ _ _ U).trans rfl;have fz:=qU U 6);have P8:=hI (kI (o:=6) (jV N) P7 U eh);have O8:=hI (kI (o:=6) (jV N) O7 U eh);have L8:=hI (kI (o:=6) (jV N) L7 U eh);have G8:Hid ((V7.setCell ⟨g,6,none⟩ (jV N)).heap[g]? =some (.cells #[n1,n2,n,js P L pc,js O lo a,js f b F,N] 102 (0,0))):=qT _ U;have F8:=hI (F7.setCell jf 6 (jV N));have H:Below g V7 (V7.setCell ⟨g,6,none⟩ (jV N)):=(Nb _ _).setCell (p:=⟨g,6,none⟩) ep _;have M8:=hI (M7.belowN H Qp Qp Qp Qp (by have:=n8.o;have:=HG.o;omega));have Q8:=hI ((H.block _ HG.1).trans Q7);generalize World.setCell V7 _ _=V8 at *;go_step;refine Dx rfl 102 (.tmp 2) rfl g rfl 102 _ (0,0) _ G8 underlying102 rfl ef ?_;simp[Act.put];refine bP rfl 102 (.tmp 1) (.tmp 31) rfl w #[n1,n2,n,js P L pc,js O lo a,js f b F,N] _ 102 rfl rfl Q8 ef rfl Qj ?_;have b1:=hI (F8.setRow ep #[n1,n2,n,js P L pc,js O lo a,js f b F,N]);have b2:=hI (M8.setRow (g:=w.heap.size) n8.2.2.1.symm n8.o.1.symm n8.o.2.1.symm n8.o.2.2.2.1.symm n8.o.2.2.2.2 #[n1,n2,n,js P L pc,js O lo a,js f b F,N])
  have b3:=hI (Dp _ w _ #[n1,n2,n,js P L pc,js O lo a,js f b F,N] _ _ Q8);have b4:=mK (C:=#[n1,n2,n,js P L pc,js O lo a,js f b F,N]) P8 Q8 eh;have b5:=mK (C:=#[n1,n2,n,js P L pc,js O lo a,js f b F,N]) O8 Q8 eh;have b6:=mK (C:=#[n1,n2,n,js P L pc,js O lo a,js f b F,N]) L8 Q8 eh;generalize World.setRow _ _ _=b7 at *;refine Vf ?_;refine Nh (v:= .agg #[n1,n2,n,js P L pc,js O lo a,js f b F,N]) (Pb rfl _ _ w 102 _ (0,0) _ rfl b3 underlying102 rfl ef) rfl ?_;exact⟨P,pc,O,a,f,F,rfl,b1,b2,b4,b5,b6⟩
theorem z7y (w0:World) (T A D RD:Nat) (ba:Option Addr) (bc:Nat) (l:List Nat) (M:qO w0 T A D RD ba bc l) (s:RS) (w:World) (hM:eU w0 T A D RD ba bc l s w):
  jW 237 #[.agg #[.func (.func 228) #[] #[jp T 0,jp A 0,jp D 0]],.func (.func 238) #[] #[jp RD 0]] w fun e O=> ∃a c v,e= .returned (js a (aW l (eS l) s).1.length c)/\Fx A D w O/\eU w0 T A D RD ba bc l (aW l (eS l) s).2 O/\aU (iS w) O w 102 7 (js a (aW l (eS l) s).1.length c) (aW l (eS l) s).1 v:=by
 have C0:=hI (oK w0 T A D RD ba bc l M s);have R:=hI fun s W h=>z7x w0 T A D RD ba bc l M s W h;have u:=aW.eq_1 l (eS l) s;generalize nx l s=X at *;obtain⟨n,s1⟩:=X;dsimp only at u C0;refine Yj fun HM U V b Z G=>?_;have H:Hid (T<w.heap.size/\A<w.heap.size/\D<w.heap.size/\RD<w.heap.size/\w0.heap.size<=w.heap.size):=⟨ed,ed,ed,ed,G⟩;clear U V b Z G hM M;by_cases q:n<=99
 ·rw[Np q]at u;have I:=jT q;obtain⟨N,b0⟩: ∃N,N=n.toNat:=⟨_,rfl⟩;rw[<-b0]at u;rw[u];have b5:Hid (∀m s,iI (eS l) (m+1) s=(((eS l) s).1::(iI (eS l) m ((eS l) s).2).1,(iI (eS l) m ((eS l) s).2).2)):=fun m s=>rfl;have b6:Hid (∀s,iI (eS l) 0 s=([],s)):=fun s=>rfl;generalize b1:iI (eS l) N s1=P at *;have HP:=hI b1;have b2:N<=99:=by omega
  have H0:Hid (∀k:Nat,((k:Int)<n↔k<N)):=fun k=>ed
  clear b1 u b0;generalize iI (eS l)=Q at *;generalize(eS l)=F at *;go_in;go_upto_region 2 with fail;generalize i5:World.alloc _ _=W0;have B0:=jG i5
  have x0:jc W0 w 0 (.func (.func 228) #[] #[jp T 0,jp A 0,jp D 0]):=by rw[<-i5];exact wT _ _ _
  refine Qw fun l0=>?_;refine Eo fun M0 F0=>?_;clear i5 B0;go_wp2_with (go_at_call 228;refine(C0 _ M0).mono ?_;rintro e W1 ⟨rfl,hO2,hw2⟩;have F1:=hI (F0.trans hO2);have M1:=hI hw2;clear hO2 hw2 x0 l0);go_loopg [5,7] N (fun g o i wr=> ∃(k:Nat) (E:Option Addr) (d:Nat) (xs:List Rt) (z:RS) (v:List (List Value)),k<=N/\g=N-k/\i= jV k/\o= .slice E k d/\xs.length=k/\P=(xs++(Q (N-k) z).1,(Q (N-k) z).2)/\Fx A D w wr/\eU w0 T A D RD ba bc l z wr/\aU (iS w) wr w 102 7 (js E k d) xs v)
  ·exact⟨0,none,0,[],s1,[],ed,ed,rfl,rfl,rfl,XU,F1,M1,aU.nil⟩
  obtain⟨k,E,d,xs,z,v,c1,rfl,rfl,rfl,J,f,hb,hw2,ho⟩:=hrel;refine Qa fun HO13 b3=>?_;have HE:=hI J;have r:=H0 k;have C:=hI (R z wr hw2);by_cases b:k<N
  ·have hd:=Ni (r.2 b);have e1:N-k=(N-(k+1))+1:=ed;rw[e1,b5.o]at f;have t:=hI f;have HLT:=hI b;generalize F z=Y at *;obtain⟨y,b7⟩:=Y;dsimp only at t C;have a0:k<=1000:=ed;clear f hw2 hb ho J b e1 r;go_wp2_with (first | (go_at_call 238;refine C.mono ?_;rintro e L ⟨a1,pc,a2,a3,a4,a5,rfl,hO2,hw2,a6,a7,a8⟩;refine Uc fun F2 M2=>?_;have K:=F2.size;have O2:=hI (b3.fx (W:=L) (fun b8 x h=>h.fy H.2.1 H.2.2.1 hO2.fy) H.2.1 H.2.2.1 hO2);have P2:=hI ((show iS w L [jV y.id,jV y.E,jV y.X,.slice a1 y.A pc,.slice a2 y.O a3,.slice a4 y.fl a5,jV y.T] y from⟨a1,pc,a2,a3,a4,a5,rfl,bW a6 HO13.size,bW a7 HO13.size,bW a8 HO13.size⟩));have b4:L.ownsRow w 102 7 (js E k d) k (v.flatMap id):=(by have:=O2.own;rw[HE.o]at this;exact this);have a9:=hI b4;clear hO2 hw2 b4) | (at_builtin;refine nT rfl (.tmp 20) (.tmp 23) 26 102 102 _ 7 104 rfl underlying26 CJ rfl eh eh w (js E k d) k _ rfl a9 a0 K [jV y.id,jV y.E,jV y.X,.slice a1 y.A pc,.slice a2 y.O a3,.slice a4 y.fl a5,jV y.T] rfl rfl Qj ?_;intro b9 c8 w8 j p))
   have B:=((Nb _ _).alloc K _).trans (dT (a9.alloc _) ep em p);have F8:=hI (F2.belowN B);have M8:=hI (M2.belowN B H.1 H.2.1 H.2.2.1 H.2.2.2.1 H.2.2.2.2);have Y8:Fy A D L w8:=PJ a9 eh p;have O8:=hI (O2.app (fun b8 x h=>h.fy H.2.1 H.2.2.1 Y8) rfl P2 (by rw[HE.o];exact j));clear B j p Y8;go_roundg (N-(k+1))
   ·have:=HLT.o;go_light;exact⟨k+1,some ⟨b9,0,none⟩,c8,xs++[y],b7,_,ed,ed,ej,rfl,by rw[Mx,HE.o];rfl,by rw[t.o,Dk];rfl,F8,M8,O8⟩
   exact Vx
  obtain rfl:k=N:=ed;have hd:=Mw (fun h=>b (r.1 h));rw[Fi,b6.o]at f;have t:Hid (P=(xs,z)):=(by rw[f,Sh];rfl);have H1:=hI hw2;clear f hw2 hb ho r b;refine ei ?_;rw[t.o];exact⟨E,d,v,ew,HO13,H1,by rw[HE.o];exact b3⟩
 rw[Nm q]at u;have I:=jU q;have c0:decide ((0:Int)<n)=true:=Ni ed;rw[u];go_in;go_upto_region 2 with fail;generalize i5:World.alloc _ _=W0;have B0:=jG i5
 have x0:jc W0 w 0 (.func (.func 228) #[] #[jp T 0,jp A 0,jp D 0]):=by rw[<-i5];exact wT _ _ _
 refine Qw fun _=>?_;refine Eo fun M0 F0=>?_;go_wp2_with (go_at_call 228;refine(C0 _ M0).mono ?_;rintro e W1 ⟨rfl,hO2,hw2⟩;have F1:=hI (F0.trans hO2);have M1:=hI hw2);refine Gu 1 ?_;rw[Hr];refine ei ?_;exact⟨none,0,[],rfl,F1,M1,aU.nil⟩
end Go.Proofs.YtbiehpjhhopjaaaGreat
