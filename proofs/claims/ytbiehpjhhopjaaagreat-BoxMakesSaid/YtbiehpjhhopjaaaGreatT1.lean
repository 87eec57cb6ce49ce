/- Walks, laws. -/
import Derived.WalkKit
import Derived.Deep.Light
import Derived.Lib.Hide
import Derived.BigQuiet
import Derived.Test.YtbiehpjhhopjaaaGreatProg
import Derived.Lib.QuietBelow
import Derived.Deep.RegionHeld3
import Derived.Deep.DeepCutAuto
import Derived.Maps.AppendAt
set_option linter.all false
set_option maxRecDepth 100000
set_option maxHeartbeats 16000000
theorem Go.RowKit.Hid.o {p:Prop}(h:Go.RowKit.Hid p):p:=h
namespace Go.Proofs.YtbiehpjhhopjaaaGreat
open _root_ renaming Array->aL,Bool->aU,Bool.false->aW,Decidable.decide->ab,List->aq,Int->ar,Nat->av,Option->ax,Bool.true->bl,Option.none->bn,Option.some->bt,Decidable->cG,absurd->cv,inferInstance->cx
open Go renaming World->aj,RowKit.Hid->bG,Addr->bR,TypeId->bT,Value->bw,RowKit.Below->cB,Value.slice->cJ,Ending.returned->cL,Obj.cells->cO,Value.int->cW,Value.pointer->cY,Value.agg->cZ,World.setCell->cd,World.alloc->cj,wpQuiet_nil->cl,Act.put->cq,Value.bool->db,IntKind.i64->dr,Value.tuple->dw
variable {N cap k s2:av}{V w' w0:aj}{xs:aq bw}{fr:av × av}{c0 c5 c6 v2:bw}{Q:Exit->Act->aj->Prop}{K:Act->aj->Prop}{F9:Act}
section
open Go.RowKit Go.Sort
structure Jv1 (n:ar)
structure Jn1
structure Jf1 (f:FuncId) (a:aL bw) (w:aj) (Q:Ending->aj->Prop)
def jV (n:ar):Jv1 n:={}
def jN:Jn1:={}
def jW (f:FuncId) (a:aL bw) (w:aj) (Q:Ending->aj->Prop):Jf1 f a w Q:={}
instance {n:ar}:CoeOut (Jv1 n) bw:=⟨fun _=>cW dr n⟩
instance:CoeOut Jn1 bw:=⟨fun _=>cJ bn 0 0⟩
instance {f:FuncId}{a:aL bw}{w:aj}{Q:Ending->aj->Prop}:CoeSort (Jf1 f a w Q) Prop:=⟨fun _=>Calls Tryz.prog f a w Q⟩
instance {f:FuncId}{a:aL bw}{w:aj}{Q:Ending->aj->Prop}:CoeOut (Jf1 f a w Q) Prop:=⟨fun _=>Calls Tryz.prog f a w Q⟩
instance {α:Type}:CoeOut (aq α) av:=⟨fun l=>l.length⟩
instance {α:Type}:CoeOut (aq α) ar:=⟨fun l=>(l.length:ar)⟩
instance:CoeOut aj av:=⟨fun w=>w.heap.size⟩
structure Bx (N:Prop):Prop where
 o:N
section
variable {P N:Prop}(k:N)
def ed (h:P:=by omega):P:=h
def ef (h:P:=by kernel_rfl):P:=h
def ee (h:P:=by simp):P:=h
def ei (s:Bx N->P:=by intro xK;go_wp2_with fail;go_ret;exact xK.o):P:=s ⟨k⟩
def eh (h:P:=by decide):P:=h
def Qr (h:P:=by have:=HEB.o;have:=Z7.o;first | omega | (dsimp only;omega) | (simp;omega) | (simp;done)):P:=h
def Qd (h:P:=by exact fun xa _ _ _ _ h=>by cases xa<;>exact h):P:=h
def em (h:P:=by simp;omega):P:=h
def Vj (s:Bx N->P:=by intro xK;refine .inl ⟨_,_,_,_,_,_,_,_,_,_,_,_,_,_,_,_,_,_,_,⟨rfl,rfl,rfl,rfl,rfl,rfl,rfl,rfl,rfl,rfl,rfl,rfl,rfl,rfl,rfl,rfl,rfl,rfl,rfl⟩,?_⟩;exact xK.o):P:=s ⟨k⟩
def ep (h:P:=by exact Mv _):P:=h
def ew (h:P:=by rw[HE.o];rfl):P:=h
def Qp (h:P:=by have:=HAW.o;have:=HG.o;omega):P:=h
def ZN (s:Bx N->P:=by intro xK;have xa:bG (DF 418 #[jp W 0] (fun xb:aF=>ab (xb.id=id)) p.S W1):=fun xc xd h xe xf xg _=>JK p.S[xd] xf xg id W xc (aP xe hid0);have xh:=hI (show jc W1 (W+1) 0 (jV 0) by rw[<-hWW];simp);have xi:=hI (show jc W1 (W+1) 1 (jV 0) by rw[<-hWW];simp);have xj:=hI (show jc W1 (W+1) 2 (jN) by rw[<-hWW];simp);have xk:=hI (show∀xl,W1.frozen? ⟨W+1,xl,bn⟩=aW by intro xl;rw[<-hWW];simp);have xm:=hI g9;refine(JX 418 #[jp W 0] (fun xb:aF=>ab (xb.id=id)) a1 c1 p.S W1 (HS _ (g9.mono (De l0))) hm JL xa).mono ?_;rintro xn xo ⟨rfl,xp⟩;rw[HF.o];have xq:=(xp.cell (by simp[hz])).trans xh;have xr:=(xp.cell (by simp[hz])).trans xi;have xs:=(xp.cell (by simp[hz])).trans xj;have xt:=fun xl=>(xp.frozen (by simp[hz])).trans (xk xl);revert xa xh xi xj xk xm xo xp xq xr xs xt;exact xK.o):P:=s ⟨k⟩
def Vs (s:Bx N->P:=by intro xK;refine .inl ⟨_,_,_,_,_,_,_,_,_,_,_,_,_,_,_,_,⟨rfl,rfl,rfl,rfl,rfl,rfl,rfl,rfl,rfl,rfl,rfl,rfl,rfl,rfl,rfl,rfl⟩,?_⟩;exact xK.o):P:=s ⟨k⟩
def ej (h:P:=by go_num):P:=h
def Qj (h:P:=by simp[bw.oneCell']):P:=h
def Qc (h:P:=by rw[<-hW];simp):P:=h
def Vk (s:Bx N->P:=by intro xK;refine .inl ⟨_,_,_,_,_,_,_,_,_,_,⟨rfl,rfl,rfl,rfl,rfl,rfl,rfl,rfl,rfl,rfl⟩,?_⟩;exact xK.o):P:=s ⟨k⟩
def Qz (h:P:=by exact⟨aH HE.symm,KW _ (I0 dq osq)⟩):P:=h
def Qa (s:Bx N->P:=by intro xK;have xa:=hI hb;have xb:=hI ho;revert xa xb;exact xK.o):P:=s ⟨k⟩
def Qm (h:P:=by have:=HL.o;omega):P:=h
def Om (s:Bx N->P:=by intro xK;have xa:=Mt pp0;have xb:=Mt y0;revert xa xb;exact xK.o):P:=s ⟨k⟩
def ey (s:Bx N->P:=by intro xK;refine cl ?_;exact xK.o):P:=s ⟨k⟩
def Oe {C:Prop}(c:C)(k:N)(s:C->Bx N->P:=by intro xH xK;intro xa xb;simp[wpOp,go_sem];refine .inl (xH.mono ?_);revert xa xb;exact xK.o):P:=s c ⟨k⟩
def Uh (s:Bx N->P:=by intro xK;refine .inl ⟨_,_,_,_,_,_,_,_,_,_,_,_,⟨rfl,rfl,rfl,rfl,rfl,rfl,rfl,rfl,rfl,rfl,rfl,rfl⟩,?_⟩;exact xK.o):P:=s ⟨k⟩
def Qo (s:Bx N->P:=by intro xK;go_big_quiet_op;go_big_quiet_on;exact xK.o):P:=s ⟨k⟩
def Qb (s:Bx N->P:=by intro xK;have xa:=aQ k;have xb:=aN G9;revert xa xb;exact xK.o):P:=s ⟨k⟩
def Vw (s:Bx N->P:=by intro xK;have xa:=hI ((HB.alloc HB.size _).trans (g9.mono (by have:=HB.size;simp;omega)));revert xa;exact xK.o):P:=s ⟨k⟩
def Kd (s:Bx N->P:=by intro xK;have xa:bG ((x=y->ab (x=y)=bl)/\(x≠y->ab (x=y)=aW)):=⟨fun h=>Ni h,fun h=>Mw h⟩;revert xa;exact xK.o):P:=s ⟨k⟩
def ev (h:P:=by rfl):P:=h
def Qv (s:Bx N->P:=by intro xK;have xa:=My _ _ x0;revert xa;exact xK.o):P:=s ⟨k⟩
def Ov (h:P:=by rw[Nd];omega):P:=h
def Qx (h:P:=by simp[aj.setRow]):P:=h
def Qf (s:Bx N->P:=by intro xK;go_in;go_wp2_with fail;exact xK.o):P:=s ⟨k⟩
def Qu (h:P:=by exact⟨aH HE.symm,K1⟩):P:=h
def Qh (h:P:=by simp[hz]):P:=h
def Oa (h:P:=by exact Nc _ _):P:=h
def Ul (s:Bx N->P:=by intro xK;obtain⟨xa,xb,xc,xd,xe,xf⟩:=dB bx;obtain⟨xg,xh,xi,xj,xk,xl⟩:=dB j7;have xm:=aD bx;have xn:=aD j7;revert xa xb xc xd xe xf xg xh xi xj xk xl xm xn;exact xK.o):P:=s ⟨k⟩
def Ob (s:Bx N->P:=by intro xK;refine hK _ _ (fun _=>D0) ?_;exact xK.o):P:=s ⟨k⟩
def Og (h:P:=by simpa using hi):P:=h
def Oq (h:P:=by unfold maxLen;omega):P:=h
def Ox (h:P:=by rw[HRL.o];exact G9):P:=h
def Qy (h:P:=by exact Nb _ _):P:=h
def Qq (s:Bx N->P:=by intro xK;generalize xa:cj _ _=xb;revert xb xa;exact xK.o):P:=s ⟨k⟩
def Ve (h:P:=by rw[Da];omega):P:=h
def Qn (h:P:=by rw[e]):P:=h
def Uq (h:P:=by simp[cd,Nk,hc]):P:=h
def Qe (s:Bx N->P:=by intro xK;rintro xa xb ⟨rfl,xc⟩;revert xb xc;exact xK.o):P:=s ⟨k⟩
def Ui (h:P:=by rw[Nd];exact he):P:=h
def Xc (s:Bx N->P:=by intro xK;change wpList _ _ _ _ _ wr.drew;generalize xa:wr.drew=xb;have xc:jb wr xb:=(by rw[<-xa];exact(Nb _ _).drew);have xd:=jh HB xc;revert xb xa xc xd;exact xK.o):P:=s ⟨k⟩
def On (s:Bx N->P:=by intro xK;generalize xa:cd _ _ _=xb;revert xb xa;exact xK.o):P:=s ⟨k⟩
def Un (h:P:=by rw[<-hW];exact Nc _ _):P:=h
def Qw (s:Bx N->P:=by intro xK;have xa:=Mt x0;revert xa;exact xK.o):P:=s ⟨k⟩
def Uz (s:Bx N->P:=by intro xK;obtain⟨xa,xb,xc⟩:=fO bx;obtain⟨xd,xe,xf⟩:=fO j7;have xg:=aD bx;have xh:=aD j7;revert xa xb xc xd xe xf xg xh;exact xK.o):P:=s ⟨k⟩
def Zd (s:Bx N->P:=by intro xK;have xa:(l[k].id==n)=bl:=(by rw[Da];exact he);have xb:bG (dA (fun xc=>ab (xc.id=n)) l=(k:ar)):=tK G9 (by simpa using he) j9;revert xa xb;exact xK.o):P:=s ⟨k⟩
def YH (s:Bx N->P:=by intro xK;have xa:=jh HB0 hb6;have xb:jc W6 wo 0 p.R[k].id:=(by rw[<-hW6];simp);have xc:jc W6 wo 1 p.R[k].E:=(by rw[<-hW6];simp);have xd:jc W6 wo 2 p.R[k].X:=(by rw[<-hW6];simp);have xe:jc W6 wo 3 (js ap p.R[k].A.length cp):=(by rw[<-hW6];simp);have xf:jc W6 wo 4 (js ao p.R[k].O.length co):=(by rw[<-hW6];simp);have xg:jc W6 wo 5 (js af p.R[k].fl.length cf):=(by rw[<-hW6];simp);have xh:jc W6 wo 6 p.R[k].T:=(by rw[<-hW6];simp);revert xa xb xc xd xe xf xg xh;exact xK.o):P:=s ⟨k⟩
def Oi (h:P:=by rw[HV.o]):P:=h
def ZS (s:Bx N->P:=by intro xK;have xa:=ji 0 bx;have xb:=ji 1 bx;have xc:=ji 2 bx;have xd:=ji 3 bx;have xe:=ji 4 bx;have xf:=ji 5 bx;have xg:=ji 6 bx;have xh:=ji 0 j7;have xi:=ji 1 j7;have xj:=ji 2 j7;have xk:=ji 3 j7;have xl:=ji 4 j7;have xm:=ji 5 j7;have xn:=ji 6 j7;have xo:=aD bx;have xp:=aD j7;revert xa xb xc xd xe xf xg xh xi xj xk xl xm xn xo xp;exact xK.o):P:=s ⟨k⟩
def Kf (s:Bx N->P:=by intro xK;have xa:bG (jb W0 W0):=Nb _ _;have xb:=jm xa N9;have xc:=jm xa HY0;revert xa xb xc;exact xK.o):P:=s ⟨k⟩
def Ek (h:P:=by rw[Na,Nf hn];rfl):P:=h
def Kg (h:P:=by show _=_;rw[i5];exact Do _ _ _):P:=h
def Ze (h:P:=by go_wp2_with fail;exact Nh (v:=dw #[jV 0,jV 2]) (by simp[results,Tryz.f384,go_sem]) rfl ⟨rfl,K1⟩):P:=h
def El (s:Bx N->P:=by intro xK;have xa:bG (∀xb,jb w xb->aB xb 3 gZ a3 c3 p.G):=fun xb xc=>k3.below lA xc;revert xa;exact xK.o):P:=s ⟨k⟩
def Em (s:Bx N->P:=by intro xK;have xa:bG (∀xb,jb w xb->aB xb 7 fH a4 k4 p.R):=fun xb xc=>g4.below lS xc;revert xa;exact xK.o):P:=s ⟨k⟩
def Vf (s:Bx N->P:=by intro xK;simp[cq];go_wp2_with fail;exact xK.o):P:=s ⟨k⟩
def Ua (h:P:=by rw[Nd];exact h0):P:=h
def Vl (h:P:=by rw[bne,td];rfl):P:=h
def Oz (h:P:=by subst e;rfl):P:=h
def Xd (s:Bx N->P:=by intro xK;go_in;go_wp2_with (go_at_call 373;refine(wD _ _).mono ?_;rintro xa xb ⟨rfl,rfl⟩);go_ret;exact xK.o):P:=s ⟨k⟩
def Kv (h:P:=by rw[<-o9];simp[go_sem,lr,z0,z1,z2,z3,z4,z5,z6]):P:=h
def Vm (h:P:=by rw[T4];decide):P:=h
def Kh (h:P:=by rw[<-o9];simp[go_sem,lz,z0,z1,z2,z3]):P:=h
def Xf (h:P:=by exact⟨dU HE.symm,K0.trans ((Nr W dq osq).mono K0.size)⟩):P:=h
def YJ (s:Bx N->P:=by intro xK;have xa:=EC (kE p p.R[k]) p.R[k].fl p.R[k].fl.length;have xb:=(uV p p.R[k] (aI p.R[k]).length).1;have xc:(aI p.R[k]).length=p.R[k].A.length+p.R[k].O.length:=Mx;have xd:=hMk.1.2.2.2.2.1;have xe:=hMk.1.2.2.2.2.2.1;have xf:=hMk.1.2.2.2.2.2.2.1;show(gO (kE p p.R[k]) p.R[k].fl p.R[k].fl.length).asks.length<=1000;revert xa xb xc xd xe xf;exact xK.o):P:=s ⟨k⟩
def ZU (s:Bx N->P:=by intro xK;have xa:bG (∀xb,jb w xb->aB xb 3 cU a1 k1 p.S):=fun xb xc=>h1.below gN xc;have xd:bG (∀xb,jb w xb->aB xb 2 iA a2 k2 p.P):=fun xb xc=>h2.below lT xc;revert xa xd;exact xK.o):P:=s ⟨k⟩
def Va (s:Bx N->P:=by intro xK;go_upto_region 12 with fail;exact xK.o):P:=s ⟨k⟩
def Kj (h:P:=by rw[<-o9];simp[go_sem,hz1,y0,y1,y2]):P:=h
def Ub (h:P:=by rw[<-hV];exact aR):P:=h
def Vb (s:Bx N->P:=by intro xK;go_upto_region 2 with fail;exact xK.o):P:=s ⟨k⟩
def Zf (h:P:=by exact⟨aH HE.symm,by first | exact⟨_,rfl⟩ | exact⟨_,aj.drewN_drewN _ _ _⟩⟩):P:=h
def Vq (h:P:=by simp<;>omega):P:=h
def En (h:P:=by rw[<-o9];simp[go_sem,lr,z0,z1,z2,z3,z4,z5]):P:=h
def Xj (s:Bx N->P:=by intro xK;simp only[aq.take_succ_cons,aq.take_zero,aq.drop_succ_cons,aq.drop_zero];exact xK.o):P:=s ⟨k⟩
def Zg (s:Bx N->P:=by intro xK;have xa: ∀(args:aL bw) (xb:aj),Sem.run prog (callFunc m args) xb= .ok (.enter m args) xb:=hf;revert xa;exact xK.o):P:=s ⟨k⟩
def Xk (s:Bx N->P:=by intro xK;have xa:=fun xb xc=>KA.trans ((Nr wA xb xc).mono KA.size);have xd:=hI xa;revert xa xd;exact xK.o):P:=s ⟨k⟩
def Vg (s:Bx N->P:=by intro xK;go_upto_region 9 with fail;exact xK.o):P:=s ⟨k⟩
def Vt (s:Bx N->P:=by intro xK;rintro xa xb ⟨rfl,xc,xd⟩;have xe:=hI xc;revert xb xc xd xe;exact xK.o):P:=s ⟨k⟩
def Vy (h:P:=by exact fun h=>by cases h):P:=h
def Uo (h:P:=by have:=g9.size;omega):P:=h
def Uc (s:Bx N->P:=by intro xK;have xa:=hI (HO13.trans hO2);have xb:=hI hw2;revert xa xb;exact xK.o):P:=s ⟨k⟩
def ZX (h:P:=by rw[rB id sz xss i j hi' h.sz (by rw[<-h.sz _ (Nn hi')];exact hj)];exact Nf hj):P:=h
def Uj (h:P:=by exact Mt hc):P:=h
def Kk (h:P:=by rw[Dn];omega):P:=h
def YK (s:Bx N->P:=by intro xK;refine⟨fn,_,assign,body,hy,roundIn_of_wpIn hfn (hassign _ k W _ ⟨_,run_beginRound hl (by rw[hR]),?_⟩)⟩;have xa:(W.putObj (B+1) (.loop {R .ready with state:= .busy})).heap[B+1]? =bt (.loop {R .ready with state:= .busy}):=aj.putObj_heap_same G9;revert xa;exact xK.o):P:=s ⟨k⟩
def Ur (h:P:=by exact⟨aH HE.symm,jP K6 _⟩):P:=h
def Zi (h:P:=by exact⟨aH HE.symm,K2.trans ((Nr W dq osq).mono K2.size)⟩):P:=h
def Vi (s:Bx N->P:=by intro xK;simp[wpOp,go_sem,c9,fz];exact xK.o):P:=s ⟨k⟩
def Uk (h:P:=by exact⟨dU HE.symm,K1⟩):P:=h
def Up (h:P:=by rw[hl];exact hr):P:=h
def Oo (s:Bx N->P:=by intro xK;intro xa xb;simp[wpOp,go_sem];revert xa xb;exact xK.o):P:=s ⟨k⟩
def Ud (h:P:=by exact Nc _ _):P:=h
def Kl (h:P:=by simp[aj.frozen?,hB9]):P:=h
def Eu (h:P:=by exact Nj hN (De hT.lt)):P:=h
def YM (s:Bx N->P:=by intro xK;have xa:bG (∀xb,jb w xb->IL xb ap r.A r.A):=fun xb xc=>kp.below xc;have xd:bG (∀xb,jb w xb->IL xb ao r.O r.O):=fun xb xc=>ko.below xc;have xe:bG (∀xb,jb w xb->aB xb 2 lZ af cf r.fl):=fun xb xc=>kf.below zJ xc;revert xa xd xe;exact xK.o):P:=s ⟨k⟩
def Xm (h:P:=by exact⟨⟨_,rfl⟩,HFR,by rw[<-HE.o];exact HTX⟩):P:=h
def Kx (h:P:=by rw[Dh,hb];simp):P:=h
def Km (h:P:=by exact Nl hk hle):P:=h
def Xn (h:P:=by intro xa xb;cases xb;exact Mv _):P:=h
def Vr (s:Bx N->P:=by intro xK;go_upto_region 1 with fail;exact xK.o):P:=s ⟨k⟩
def Zj (s:Bx N->P:=by intro xK;have xa:bG (dA (fun xb=>ab (xb.id=n)) l= -1):=tJ fun xc xd=>j9 xc xd xd;revert xa;exact xK.o):P:=s ⟨k⟩
def Ya (s:Bx N->P:=by intro xK;have xa:=av.div_lt_of_lt_mul (by rw[Ie];exact hjl);have xb:j % sz<sz:=av.mod_lt _ hz;have xc:=av.div_add_mod' j sz;revert xa xb xc;exact xK.o):P:=s ⟨k⟩
def Ko (h:P:=by rw[o7.o];omega):P:=h
def Zl (h:P:=by simpa [aG,Dg,pP]using hown9):P:=h
def YV (s:Bx N->P:=by intro xK;obtain⟨xa,xb⟩: ∃xa:LoopState->Loop,xa=fun xc=>{state:=xc,pending:=bn,fn,tmps:=a.tmps,params:=ps,assign,body,defers:=B}:=⟨_,rfl⟩;have xd:=run_enterLoop_outer (P:=prog) (w:=w) fn a.tmps ps assign body;revert xa xb xd;exact xK.o):P:=s ⟨k⟩
def Ou (s:Bx N->P:=by intro xK;rintro xa xb ⟨xc,xd,rfl,xe,xf⟩;revert xb xc xd xe xf;exact xK.o):P:=s ⟨k⟩
def Xp (h:P:=by simp[cd,Nk,htA]):P:=h
def Zm (h:P:=by exact⟨_,rfl,Nw _ _ _ _,Nb _ _⟩):P:=h
def Xq (h:P:=by simp[results,Tryz.f384,go_sem]):P:=h
def Yd (s:Bx N->P:=by intro xK;change wpList _ _ _ _ _ W1.drew;generalize xa:W1.drew=xb;have xc:jb W1 xb:=(by rw[<-xa];exact(Nb _ _).drew);revert xb xa xc;exact xK.o):P:=s ⟨k⟩
def Ex (s:Bx N->P:=by intro xK;generalize xa:wo.alloc _=xb;have xc:=jG xa;have xd:=jh HB xc;revert xb xa xc xd;exact xK.o):P:=s ⟨k⟩
def Xt (s:Bx N->P:=by intro xK;have xa:=jm Z8 N9;have xb:=jm Z8 HY0;clear xa xb;exact xK.o):P:=s ⟨k⟩
def Ey (s:Bx N->P:=by intro xK;obtain⟨xa,xb,xc,xd,-⟩:=hl.at_ 0 (aq.length_pos_iff.2 h0);revert xa xb xc xd;exact xK.o):P:=s ⟨k⟩
def Zn (h:P:=by rw[Mw (fun xa=>h2 xa.symm)];rfl):P:=h
def Xu (s:Bx N->P:=by intro xK;simp only[Sd,Ns];exact xK.o):P:=s ⟨k⟩
def Zo (s:Bx N->P:=by intro xK;have xa:=hI e2;have xb:=hI e3;have xc:=hI eA;have xd:=hI eq;have xe:=hI e4;have xf:=hI eB;revert xa xb xc xd xe xf;exact xK.o):P:=s ⟨k⟩
def Uf (h:P:=by subst N7;exact HE):P:=h
def Zq (h:P:=by rw[<-hW];exact Do _ _ _):P:=h
def Uu (h:P:=by simp[go_sem]):P:=h
def Ye (h:P:=by rw[Mx,Dg];simpa using ho):P:=h
def Kz (s:Bx N->P:=by intro xK;simp only[Dw,Sy];exact xK.o):P:=s ⟨k⟩
def Kr (h:P:=by exact⟨dU HE.symm,rfl⟩):P:=h
def Rd (s:Bx N->P:=by intro xK;have xb:bG (∀xd,jb wr xd->aB xd 2 fI xa xc l[k].ends):=fun xd xe=>hxj.below lB xe;have xf:bG (∀xd,jb wr xd->aB xd 2 fI ya yc m[k].ends):=fun xd xe=>hyj.below lB xe;revert xb xf;exact xK.o):P:=s ⟨k⟩
def Zr (h:P:=by rw[<-HOK.o];have:=HE.o;rw[this]):P:=h
def Yf (h:P:=by rw[<-hWN];simp[cd,Nk,this];intro h;omega):P:=h
def Yg (h:P:=by rw[Dh,hb,Dj];exact To):P:=h
def Zs (h:P:=by simpa [cd]using KE.o):P:=h
def Xv (h:P:=by rw[Da];exact he):P:=h
def Ez (h:P:=by rw[oW,HGA.o.size]):P:=h
def Rf (s:Bx N->P:=by intro xK;have xa:=Ng (show jc W g 0 n from aP hbW hn);have xb:=Ng (show jc W w 0 x.id by rw[<-hW];simp);have xc:=Ng (show jc W w 1 x.sec by rw[<-hW];simp);revert xa xb xc;exact xK.o):P:=s ⟨k⟩
def Rg (h:P:=by exact Nh (v:=dw #[]) (by simp[results,Tryz.f308,go_sem]) rfl ⟨rfl,cK.refl _ _,fun _ _ _ _ h _ _=>h,_,HW⟩):P:=h
def Zt (h:P:=by simp[cd];exact hS.hl):P:=h
def Zu (s:Bx N->P:=by intro xK;have xa:=hI (Sf HQ_tks fun xb xc xd=>j9 xb xc xd xc);revert xa;exact xK.o):P:=s ⟨k⟩
def Yh (h:P:=by simp[cd,Nk,hS.hz]):P:=h
def Zx (h:P:=by simp[results,Tryz.f293,go_sem]):P:=h
def Xx (h:P:=by exact Mt (HR j u hj)):P:=h
def Ri (h:P:=by go_ret;exact⟨a4,c4,by rw[HG.o,Mx];rfl,by rw[HG.o];exact bW HF HZ2,K2.trans (HFB.mono HZ2)⟩):P:=h
def Eb (h:P:=by show _<_;simp):P:=h
def Zy (h:P:=by rw[<-o9];simp[go_sem,hz1,y0,y1]):P:=h
def Xy (h:P:=by show _=_;rw[<-i5];simp):P:=h
def Vo (s:Bx N->P:=by intro xK;simp[wpOp,go_sem,cc];exact xK.o):P:=s ⟨k⟩
def Rj (s:Bx N->P:=by intro xK;have xa:bG (∀xb,jb w xb->aB xb 3 cU a ca l):=fun xb xc=>hl.below gN xc;have xd:bG (∀xb,jb w xb->aB xb 3 cU b cb m):=fun xb xc=>hm.below gN xc;revert xa xd;exact xK.o):P:=s ⟨k⟩
def Ec (h:P:=by subst e;exact Np rfl):P:=h
def Uv (h:P:=by exact Sr A6):P:=h
def Rk (h:P:=by exact⟨_,[],rfl,Nw _ _ _ _,rfl,fun xa h=>by simp at h,fun xb h=>by simp at h,Nb _ _⟩):P:=h
def Rl (s:Bx N->P:=by intro xK;have xa:bG (l.length=m.length->(∀xb (h:xb<l.length) (xc:xb<m.length),l[xb]=m[xb])->ab (l=m)=bl):=fun h xd=>Ni (TY h xd);revert xa;exact xK.o):P:=s ⟨k⟩
def Zz (h:P:=by rw[<-o9];simp[go_sem,y0,y3]):P:=h
def Ux (s:Bx N->P:=by intro xK;have xa:=hI (HC1 W0 (jo K0 KR));revert xa;exact xK.o):P:=s ⟨k⟩
def Ed (h:P:=by exact De lg):P:=h
def Ro (s:Bx N->P:=by intro xK;have xa:(W.alloc (cO news.toArray T)).heap[W.heap.size]? =bt (cO news.toArray T (0,0)):=Nc W _;rw[oB,Mu _ _ j _ _ _ xa];revert xa;exact xK.o):P:=s ⟨k⟩
def Rq (s:Bx N->P:=by intro xK;show 0<=(v.outs++[(e:ar)]).getD j 0/\(j+1=r.A.length->r.X≠0->fF p ((aI r).getD j 0) ((v.outs++[(e:ar)]).getD j 0)=r.X);exact xK.o):P:=s ⟨k⟩
def Rr (h:P:=by obtain⟨xa,xb,xc,xd⟩:=h;exact⟨xa,xb,xc,fun xe xf=>by rw[<-he xe xf];exact xd xe xf⟩):P:=h
def Rs (h:P:=by rw[Dc hk,Dg,Dk,Dk];simp[bI]):P:=h
def Ef (h:P:=by exact fun h=>by omega):P:=h
def Ru (h:P:=by have:=F4.row 2 _ rfl;simp[aj.frozen?,show V3.heap[w.heap.size+2]? =_ from this]):P:=h
def Rv (h:P:=by obtain⟨xa,xb,xc,xd⟩:=h;exact⟨xa,(Ny W a u g A6).trans xb,xc,xd⟩):P:=h
def Ym (h:P:=by rw[<-hWN];simp[cd,Nk,this]):P:=h
def Yo (h:P:=by simp[results,Tryz.f383,go_sem,q0,q1,q2]):P:=h
def Yp (h:P:=by rw[<-HN0.o];exact HB0.trans hfr.bel):P:=h
def ZB (h:P:=by rw[<-o9];simp[go_sem,y1]):P:=h
def Rx (h:P:=by rw[Sm (by rw[h.len];exact Mv _)];simp[h.len]):P:=h
def Eg (h:P:=by rw[hR];simp):P:=h
def Yr (h:P:=by simp[wpOp,go_sem];exact .inl ⟨rfl,rfl⟩):P:=h
def Xz (h:P:=by exact {hS with h0:=fun _=>rfl}):P:=h
def XR (h:P:=by exact {hS with h6:=fun _=>rfl}):P:=h
def XS (h:P:=by have:=hp.2;omega):P:=h
def Uy (s:Bx N->P:=by intro xK;show cB _ _ _;rw[<-o9];exact xK.o):P:=s ⟨k⟩
def ZC (s:Bx N->P:=by intro xK;have hd:=bL G9;have xa:k<m.length:=(by rw[<-HLE.o];exact G9);revert hd xa;exact xK.o):P:=s ⟨k⟩
def jd (s:Bx N->P:=by intro xK;simp only[Na];exact xK.o):P:=s ⟨k⟩
def ZD (h:P:=by exact Nl hi h.size):P:=h
def jj (h:P:=by rw[Pa];exact h2):P:=h
def Ry (h:P:=by have:=F.row 0 _ rfl;simp[aj.frozen?,show V2.heap[w.heap.size]? =_ from this]):P:=h
def Ma (s:Bx N->P:=by intro xK;have xa:(W3.putObj (B+1) (.loop (R .ready))).heap[B+1]? =bt (.loop (R .ready)):=aj.putObj_heap_same (aL.getElem?_eq_some_iff.1 hl3).1;revert xa;exact xK.o):P:=s ⟨k⟩
def Mb (h:P:=by have xa:=h.lt;obtain⟨xb,xc,xd,xe⟩:=h;exact⟨xb,(hb.block g xa).trans xc,xd,xe⟩):P:=h
def ZE (s:Bx N->P:=by intro xK;obtain⟨xa,xb,xc,xd,xe,xf,xg⟩:=lU bx;obtain⟨xh,xi,xj,xk,xl,xm,xn⟩:=lU j7;have xo:=aD bx;have xp:=aD j7;revert xa xb xc xd xe xf xg xh xi xj xk xl xm xn xo xp;exact xK.o):P:=s ⟨k⟩
def Eh {C:Prop}(c:C)(k:N)(s:C->Bx N->P:=by intro xH xK;refine xH.mono ?_;rintro xa xb ⟨⟨xc,rfl⟩,xd,xe⟩;revert xb xc xd xe;exact xK.o):P:=s c ⟨k⟩
def Mc (h:P:=by rw[hfl,show i * sz+sz=(i+1) * sz by rw[Ft];omega];exact Ff _ hx):P:=h
def Md (h:P:=by show _=_;rw[Dc G9,Pr];rfl):P:=h
def Me (h:P:=by obtain⟨xa,xb,xc⟩:=Su.1 h;exact hn xa (Tm xb) n xc):P:=h
def ZF (h:P:=by rw[<-hW];simp[go_sem]):P:=h
def ju (h:P:=by exact fun xa=>by omega):P:=h
def jv (h:P:=by rw[hx]at this;exact this):P:=h
def Yv (h:P:=by unfold bR.add;split<;>simp_all):P:=h
def ZG (h:P:=by unfold old;simp;omega):P:=h
def XT (h:P:=by exact De HW1.lt):P:=h
def ZH (h:P:=by simp at hr;exact⟨_,hr.1.symm⟩):P:=h
def Yw (h:P:=by simp[results,Tryz.f120,go_sem]):P:=h
def Yx (h:P:=by simp[results,Tryz.f291,go_sem]):P:=h
def Mk (s:Bx N->P:=by intro xK;have xa:=hI hbW;have xb:bG (JY 416 #[jp w 0] (fun xc:Sg=>ab (xc.id=n)) l W):=fun xd xe h xf=>ll l[xe] n w xd (aP xf hn);revert xa xb;exact xK.o):P:=s ⟨k⟩
def Ml (s:Bx N->P:=by intro xK;have xa:=hI hbW;have xb:bG (zZ 417 #[jp w 0] (fun xc:Pt=>ab (xc.id=n)) l W):=fun xd xe h xf=>kz l[xe] n w xd (aP xf hn);revert xa xb;exact xK.o):P:=s ⟨k⟩
def XU (h:P:=by rw[<-HP.o];rfl):P:=h
def Yz (h:P:=by rw[Mx,Pr];exact n6):P:=h
def XW (h:P:=by subst hn;exact Sl.nil _ _ _):P:=h
def ZJ (s:Bx N->P:=by intro xK;have xa:=hI (HV2 HLE fun xb xc xd=>j9 xb xc xd xc);revert xa;exact xK.o):P:=s ⟨k⟩
def Ei (s:Bx N->P:=by intro xK;obtain⟨xa,xb,xc,xd,xe,xf,xg,xh,xi,xj,xk,xl,xm,xn,xo,xp,xq,xr,xs,xt,xu,xv,xw,xx,xy⟩:=sU XV;revert xa xb xc xd xe xf xg xh xi xj xk xl xm xn xo xp xq xr xs xt xu xv xw xx xy;exact xK.o):P:=s ⟨k⟩
def XY (h:P:=by rw[hz2];omega):P:=h
def YA (s:Bx N->P:=by intro xK;have xa:(r.X != 0)=aW:=(by simp[hx]);have xb:(r.X==0)=bl:=(by simp[hx]);revert xa xb;exact xK.o):P:=s ⟨k⟩
def YB (s:Bx N->P:=by intro xK;have xa:(r.X != 0)=bl:=(by simp[hx]);have xb:(r.X==0)=aW:=(by simp[hx]);revert xa xb;exact xK.o):P:=s ⟨k⟩
def ZK (h:P:=by have:=hs.2.1;omega):P:=h
def Mo (h:P:=by obtain⟨xa,xb,-,xc⟩:=h;rw[Mu W g q xa T _ xb];exact xc q hq):P:=h
def YC (h:P:=by rw[HE2.o,Mx]):P:=h
def Mq (h:P:=by exact hYo _ a w hy (hC l6 w hwt (TK hr) hS) ⟨(hSi _ _).2 hS,H⟩):P:=h
def YD (h:P:=by rw[Po];omega):P:=h
def ZL (h:P:=by simp[cd]):P:=h
def YE (h:P:=by exact⟨by rw[HF.o];rfl,jo KO L9.o⟩):P:=h
def Za (s:Bx N->P:=by intro xK;generalize xa:(W.alloc _).alloc _=xb;have xc:=eN xa;revert xb xa xc;exact xK.o):P:=s ⟨k⟩
def Mr (h:P:=by rw[Mx,Fb]at h1;omega):P:=h
def YF (h:P:=by simp[cd];omega):P:=h
end
def Mt:=@Go.block_lt_of_cell
def Mu:=@Go.cell_of_row
def Mv:=@av.le_refl
def Mw:=@decide_eq_false
def Mx:=@aq.length_append
def My:=@Go.World.block_lt_of_cell?
def Mz:=@Go.wp_region_quiet_below
def Na:=@aq.getD_eq_getElem?_getD
def Nb:=@Go.RowKit.Below.refl
def Nc:=@Go.heap_alloc_new
def Nd:=@beq_eq_false_iff_ne
def Nf:=@aq.getElem?_eq_getElem
def Ng:=@Go.cell_regrown
def Nh:=@Go.bodyPost_ret
def Ni:=@decide_eq_true
def Nj:=@av.le_trans
def Nk:=@aL.getElem?_modify
def Nl:=@av.lt_of_lt_of_le
def Nm:=@if_neg
def Nn:=@aq.getElem_mem
def No:=@aq.getElem_of_mem
def Np:=@if_pos
def Nq:=@Go.setRow_other
def Nr:=@Go.below_regrown
def Ns:=@decide_eq_false_iff_not
def Nt:=@aq.getElem?_cons_succ
def Nu:=@aq.getElem_cons_zero
def Nv:=@Go.heap_alloc_old
def Nw:=@Go.World.ownsRow_nil
def Nx:=@av.lt_succ_self
def Ny:=@Go.RowKit.Below.heap_setCell
def Nz:=@aq.cons_append
def Da:=@beq_iff_eq
def Db:=@aq.getElem?_toArray
def Dc:=@aq.take_succ_eq_append_getElem
def Dd:=@aq.nil_append
def De:=@av.le_of_lt
def Df:=@aq.set_cons_succ
def Dg:=@aq.flatMap_append
def Dh:=@aU.eq_iff_iff
def Di:=@Go.RowKit.Below.setCell
def Dj:=@decide_eq_true_iff
def Dk:=@aq.append_assoc
def Dl:=@aq.getElem_cons_succ
def Dm:=@aq.eq_nil_of_length_eq_zero
def Dn:=@aq.length_take
def Do:=@Go.heap_alloc2_new
def Dp:=@Go.setRow_heap
def Dq:=@aq.mem_cons_self
def Dr:=@decide_eq_true_eq
def Ds:=@ar.eq_ofNat_of_zero_le
def Dt:=@aU.and_eq_true
def Du:=@aq.length_cons
def Dv:=@aq.mem_cons
def Dw:=@aU.false_eq_true
def Dx:=@Go.wpList_load_row
def Dy:=@aq.mem_cons_of_mem
def Dz:=@aL.getElem?_setIfInBounds
def Pa:=@av.zero_add
def Pb:=@Go.results_cell_row
def Pc:=@aL.getElem?_eq_none
def Pd:=@aq.getElem?_append_left
def Pe:=@av.zero_le
def Pf:=@aq.not_mem_nil
def Ph:=@aq.take_length
def Pj:=@Go.World.cell?_of_block
def Pk:=@av.add_zero
def Pm:=@av.not_lt_zero
def Pn:=@aq.length_map
def Po:=@aq.length_drop
def Pp:=@aq.getElem?_map
def Pq:=@ax.some.inj
def Pr:=@aq.map_append
def Ps:=@Go.Calls.regrown_of
def Pv:=@Go.World.size_alloc
def Pw:=@av.lt_or_ge
def Px:=@aq.getElem?_eq_none
def Py:=@trivial
def Pz:=@aq.drop_eq_getElem_cons
def Sa:=@aL.getElem?_eq_getElem
def Sb:=@aq.flatMap_cons
def Sc:=@ar.toNat_natCast
def Sd:=@aU.or_eq_false_iff
def Se:=@Go.info_parts
def Sf:=@aq.ext_getElem
def Sh:=@aq.append_nil
def Si:=@Go.World.ownsRow_made
def Sk:=@aq.take_of_length_le
def Sm:=@aq.getElem_append_right
def Sn:=@Go.Sem.run_bind
def So:=@Go.Result.andThen_ok
def Sp:=@aq.getElem_append_left
def Sr:=@Ne.symm
def Ss:=@decide_eq_decide
def Su:=@aq.mem_flatMap
def Sv:=@aU.false_or
def Sx:=@aq.mem_of_find?_eq_some
def Sy:=@false_iff
def Ta:=@or_false
def Tb:=@av.mul_one
def Tc:=@congrArg
def Td:=@aq.map_eq_flatMap
def Te:=@aq.drop_length
def Tg:=@aq.any_eq_true
def Tj:=@aq.length_set
def Tl:=@aq.length_nil
def Tm:=@aq.mem_of_mem_take
def Tn:=@aq.getElem_take
def To:=@Iff.rfl
def Tp:=@Go.Region.noSelect_spec
def Tt:=@av.eq_zero_or_pos
def Tv:=@aq.mem_singleton
def Tx:=@aq.mem_append
def Ty:=@Go.Sem.run_pure
def Tz:=@av.add_assoc
def Fa:=@aU.true_and
def Fb:=@aq.length_singleton
def Fe:=@true_iff
def Ff:=@av.mul_le_mul_right
def Fg:=@aq.getElem?_append_right
def Fh:=@aL.toList_setIfInBounds
def Fi:=@av.sub_self
def Fj:=@av.le_of_eq
def Fk:=@Go.run_underlying
def Fm:=@Go.Region.free_spec
def Fn:=@Go.Addr.add_lit
def Fq:=@aq.find?_eq_none
def Fs:=@Go.run_convert_bytes_string
def Ft:=@av.add_mul
def Fu:=@Go.getD_set_ne
def Fv:=@av.lt_trichotomy
def Fw:=@av.le_succ_of_le
def Fz:=@aq.take_add_one
def Ga:=@aq.getElem_drop
def Gb:=@aq.drop_eq_nil_of_le
def Gc:=@aq.any_eq_false
def Gd:=@aU.or_true
def Ge:=@aL.getElem?_toList
def Gf:=@aL.getElem?_mapIdx
def Gg:=@aq.getElem_map
def Gh:=@aq.mem_of_mem_drop
def Gi:=@aq.mem_append_left
def Gj:=@aL.replicate_zero
def Gk:=@aL.replicate_succ
def Gl:=@Go.wpOp_mono
def Gm:=@av.min_eq_left
def Gn:=@aq.find?_some
def Gp:=@aU.or_eq_true
def Gq:=@aq.append_toArray
def Gs:=@Go.Oper.semAt_some
def Gv:=@aq.size_toArray
def Gx:=@aq.push_toArray
def Gy:=@aq.length_range
def Gz:=@aq.find?_append
def Ha:=@Go.wp_load_row
def Hb:=@Go.World.ownsRow_lit
def Hd:=@av.pow_succ
def He:=@av.div_div_eq_div_mul
def Hg:=@aL.getElem?_push_lt
def Hh:=@aq.range_succ
def Hi:=@aq.take_append_drop
def Hj:=@aq.set_append_right
def Hk:=@aq.mem_append_right
def Hl:=@Go.wpList_plain
def Hm:=@Go.World.new_ne
def Hp:=@aU.not_false
def Hq:=@if_true
def Ht:=@Go.World.cell?_alloc_lt
def Hu:=@aq.map_cons
def Hv:=@aU.not_true
def Hx:=@decide_not
def Hy:=@ar.natCast_nonneg
def Ia:=@Go.ByteArray.toList_eq
def Ib:=@of_decide_eq_true
def Ic:=@ax.some.injEq
def Ie:=@av.mul_comm
def Ig:=@aq.length_ofFn
def Ii:=@Go.World.cells?_some
def Ij:=@ax.map_some
def Ik:=@av.div_le_self
def Il:=@aq.cons.injEq
def In:=@bne_iff_ne
def Io:=@av.mul_le_mul
def Iq:=@Go.run_loadVar_row
def Ir:=@aq.mem_or_eq_of_mem_set
def It:=@aq.take_append_getElem
end
section
open Go.RowKit
structure Jb (w W:aj)
structure Jc (W:aj) (g o:av) (v:bw)
structure Jk (W:aj) (g:av) (c:aL bw) (T:bT)
structure Jp (g o:av)
structure Js (a:ax bR) (n c:av)
structure Jq (g o n c:av)
def jb (w W:aj):Jb w W:={}
def jc (W:aj) (g o:av) (v:bw):Jc W g o v:={}
def jk (W:aj) (g:av) (c:aL bw) (T:bT):Jk W g c T:={}
def jp (g o:av):Jp g o:={}
def js (a:ax bR) (n c:av):Js a n c:={}
def jq (g o n c:av):Jq g o n c:={}
instance {w W:aj}:CoeSort (Jb w W) Prop:=⟨fun _=>cB w.heap.size w W⟩
instance {w W:aj}:CoeOut (Jb w W) Prop:=⟨fun _=>cB w.heap.size w W⟩
instance {W:aj}{g o:av}{v:bw}:CoeSort (Jc W g o v) Prop:=⟨fun _=>W.cell? ⟨g,o,bn⟩=bt v⟩
instance {W:aj}{g o:av}{v:bw}:CoeOut (Jc W g o v) Prop:=⟨fun _=>W.cell? ⟨g,o,bn⟩=bt v⟩
instance {W:aj}{g:av}{c:aL bw}{T:bT}:CoeSort (Jk W g c T) Prop:=⟨fun _=>W.heap[g]? =bt (cO c T (0,0))⟩
instance {W:aj}{g:av}{c:aL bw}{T:bT}:CoeOut (Jk W g c T) Prop:=⟨fun _=>W.heap[g]? =bt (cO c T (0,0))⟩
instance {g o:av}:CoeOut (Jp g o) bw:=⟨fun _=>cY (bt ⟨g,o,bn⟩)⟩
instance {a:ax bR}{n c:av}:CoeOut (Js a n c) bw:=⟨fun _=>cJ a n c⟩
instance {g o n c:av}:CoeOut (Jq g o n c) bw:=⟨fun _=>cJ (bt ⟨g,o,bn⟩) n c⟩
instance:Coe ar bw:=⟨fun n=>jV n⟩
instance:Coe av bw:=⟨fun n=>jV (n:ar)⟩
def hI {p:Prop} (h:p):bG p:=h
def aR {w:aj}{o:Obj}:cB w w (w.alloc o):=(Nb _ _).alloc ep _
def jt {w W:aj}(h:cB w w W) (k:cB W W V):cB w w V:=h.trans (k.mono h.size)
def jh {w W:aj}(h:bG (cB w w W)) (k:cB W W V):bG (cB w w V):=h.o.trans (k.mono h.o.size)
def jo {w W:aj}(h:bG (cB w w W)) (k:cB W W V):cB w w V:=h.o.trans (k.mono h.o.size)
def jr {W:aj}{g o:av}{c:aL bw}{T:bT}{f:av × av}{v:bw}(h:W.heap[g]? =bt (cO c T f)) (e:c[o]? =bt v:=by rfl):W.cell? ⟨g,o,bn⟩=bt v:=(cell_of_row W g o _ _ _ h).trans e
def jm {w W:aj}{g:av}{o:Obj}(H:cB w w W) (h:bG (w.heap[g]? =bt o)):W.heap[g]? =bt o:=(H.block g (by rcases Pw g w with k | k;exact k;exact cv (h.o.symm.trans (Pc k)) ee)).trans h.o
def jy {a b:ar}(h:a=b):(a==b)=bl/\(a != b)=aW:=by subst h;simp
def jn {a b:ar}(h:a≠b):(a==b)=aW/\(a != b)=bl:=by simp[h]
def ji (i:av) {W:aj}{g:av}{l:aq bw}{T:bT}{f:av × av}{v:bw}(h:W.heap[g]? =bt (cO l.toArray T f)) (e:l[i]? =bt v:=by rfl):W.cell? ⟨g,i,bn⟩=bt v:=by rw[cell_of_row W g i _ _ _ h];simpa using e
section
variable {w W:aj}{o o' o2:Obj}
def jA (h:w.alloc o=W):W.heap[w.heap.size]? =bt o:=h ▸ Nc _ _
def jB (h:(w.alloc o).alloc o'=W):W.heap[w.heap.size]? =bt o:=h ▸ (Nv _ _ ee).trans Oa
def jC (h:(w.alloc o).alloc o'=W):W.heap[w.heap.size+1]? =bt o':=by have:=Nc (w.alloc o) o';rw[Pv]at this;exact h ▸ this
def jD (h:((w.alloc o).alloc o').alloc o2=W):W.heap[w.heap.size]? =bt o:=h ▸ (Nv _ _ em).trans (jB rfl)
def jE (h:((w.alloc o).alloc o').alloc o2=W):W.heap[w.heap.size+1]? =bt o':=h ▸ (Nv _ _ ee).trans (jC rfl)
def jF (h:((w.alloc o).alloc o').alloc o2=W):W.heap[w.heap.size+1+1]? =bt o2:=by have:=Nc ((w.alloc o).alloc o') o2;rw[Pv,Pv]at this;exact h ▸ this
def jG (h:w.alloc o=W):cB w w W:=h ▸ aR
def eN (h:(w.alloc o).alloc o'=W):cB w w W:=h ▸ aR.alloc ee _
def yA (h:((w.alloc o).alloc o').alloc o2=W):cB w w W:=h ▸ (aR.alloc ee _).alloc em _
end
section
variable {k n:av}
def bL (h:k<n):ab ((k:ar)<(n:ar))=bl:=by simp;omega
def bZ (h:¬k<n):ab ((k:ar)<(n:ar))=aW:=by simp;omega
def aQ (k:av):(0:ar)<=(k:ar):=by omega
def aN (h:k<n):(k:ar)<(n:ar):=by omega
def jle (h:k<=n):(k:ar)<=(n:ar):=by omega
end
def jT {p:Prop}[cG p](h:p):decide p=bl:=Ni h
def jU {p:Prop}[cG p](h:¬p):decide p=aW:=Mw h
def jz (o:av) {W:aj}{g:av}{c:aL bw}{T:bT}(h:W.heap[g]? =bt (cO c T (0,0))):W.frozen? ⟨g,o,bn⟩=aW:=by simp[aj.frozen?,h]
def jZ {W:aj}{g:av}{c:aL bw}{T:bT}(h:W.heap[g]? =bt (cO c T (0,0))): ∀o,W.frozen? ⟨g,o,bn⟩=aW:=fun o=>jz o h
end
section
variable {P:Program}{ops:aL Oper}{Q:Exit->Act->aj->Prop}
def zM (n:av) (listed:aL aU):av:=(aq.range n).countP fun j=>listed.getD j bl=aW
def pk {l:aq av}{p q:av->aU}(h: ∀x,q x=bl->p x=bl){i:av}(a:i∈l) (b:l.Nodup) (c:p i=bl) (hq:q i=aW) (he: ∀x,x≠i->q x=p x):l.countP p=l.countP q+1:=by
 induction l with
 | nil=>cases a
 | cons x l I=>
  rw[aq.countP_cons,aq.countP_cons];have H:=aq.nodup_cons.1 b;rcases Dv.1 a with rfl | a
  ·rw[Np c,Nm (by simp[hq])];have:l.countP p=l.countP q:=aq.countP_congr fun y d=>by rw[he y (fun e=>H.1 (e ▸ d))]
   omega
  rw[I a H.2,he x (fun e=>H.1 (e ▸ a))];omega
def pj {l:aL aU}{i:av}(H:l.size=ops.size) (h:l.getD i bl=aW):zM ops.size l=zM ops.size (l.setIfInBounds i bl)+1:=by
 have a:i<l.size:=by
  rcases Pw i l.size with h' | h'
  ·exact h'
  simp[Pc h']at h
 refine pk (i:=i) ?_ em aq.nodup_range (by simpa using h) ?_ ?_
 ·intro x hx;by_cases A6:x=i
  ·subst A6;simpa using h
  simp only[Dr]at hx ⊢;rw[Fu bl Uv]at hx;exact hx
 ·simp[a]
 intro x A6;simp only[Ss];rw[Fu bl Uv]
def XP: ∀(f k:av) (l:aL aU),Region.lexFrom .any ops f k l=bl->(∀j,l.getD j aW=bl->j<k)->
  ∀m o,ops[m]? =bt o->k<=m->m<k+f-> ∀e∈o.after,Region.binds .any e=bl->e.on<m
 | 0,k,l,_,_,m,_,_,h1,h2=>ed
 | f+1,k,l,h,hl,m,o,ho,h1,h2=>by
  simp only[Region.lexFrom,Dt]at h;obtain⟨⟨hi,_⟩,h'⟩:=h;by_cases c:m=k
  ·subst c;have H:m∈Region.ready .any ops l:=Og;obtain⟨_,o',a,b⟩:=mem_ready.1 H;rw[ho]at a;cases a;exact fun e he d=>hl _ (b e he d)
  refine XP f (k+1) _ h' ?_ m o ho ed ed;intro j hj;by_cases A6:j=k
  ·omega
  rw[Fu aW Uv]at hj;have:=hl j hj;omega
def pi (g:Region.lexB .any ops=bl){l:aL aU}(q:l.size=ops.size) (h: ∃j,j<ops.size/\l.getD j bl=aW):Region.ready .any ops l≠[]:=by
 simp only[Region.lexB,Dt]at g;have r:=XP (ops:=ops) ops.size 0 _ g.2 (by intro j hj;exfalso;by_cases b:j<ops.size<;>simp[aL.getD,b]at hj);obtain⟨j,hj,c⟩:=h
 have: ∃k,k<ops.size/\l.getD k bl=aW/\ ∀i,i<k->l.getD i bl=bl:=by
  induction j using av.strongRecOn with
  | _ j I=>
   by_cases hx: ∃i,i<j/\l.getD i bl=aW
   ·obtain⟨i,d,s⟩:=hx;exact I i d ed s
   refine⟨j,hj,c,fun i d=> ?_⟩;cases hc:l.getD i bl with
   | true=>rfl
   | false=>exact cv ⟨i,d,hc⟩ hx
 obtain⟨k,p,f,a⟩:=this
 have H:k∈Region.ready .any ops l:=by
  refine mem_ready.2 ⟨f,ops[k],Sa p,fun e he t=> ?_⟩;have h1:=r k _ (Sa p) ed ed e he t;have h2:=a _ h1;have h3:e.on<l.size:=ed
  simpa [h3]using h2
 intro e;rw[e]at H;cases H
def XO (t:Region.lexB .any ops=bl) (I:aL aU->Act->aj->Prop)
  (d: ∀(i:av) (o:Oper),ops[i]? =bt o-> ∀l a w,I l a w->(∀e∈o.after,Region.binds .any e=bl->l.getD e.on aW=bl)->l.getD i aW=aW->wpOp P ops Q i (fun A s=>I (l.setIfInBounds i bl) A s) a w)
  (b: ∀l a w,I l a w->(∀j,j<ops.size->l.getD j aW=bl)->Q .normal a w):
  ∀(f:av) (l:aL aU) (a:Act) (w:aj),l.size=ops.size->zM ops.size l=f->I l a w->wpAny P .any ops Q f l a w:=by
 have bn: ∀l:aL aU,l.size=ops.size->Region.ready .any ops l=[]-> ∀j,j<ops.size->l.getD j aW=bl:=by
  intro l hi g j hj;cases hc:l.getD j aW with
  | true=>rfl
  | false=>
   have H:j<l.size:=ed;exact cv g (pi t hi ⟨j,hj,by simpa [H]using hc⟩)
 intro f
 induction f with
 | zero=>
  intro l a w hi hl hI
  have c: ∀j,j<ops.size->l.getD j aW=bl:=by
   intro j hj;have:=aq.countP_eq_zero.1 hl j (by simpa using hj);have H:j<l.size:=ed
   simpa [H]using this
  refine⟨?_,b l a w hI c⟩;cases g:Region.ready .any ops l with
  | nil=>rfl
  | cons j r=>
   have u:j∈Region.ready .any ops l:=(by rw[g];exact Dq);obtain⟨h1,o,q,_⟩:=mem_ready.1 u;have hj:=(aL.getElem?_eq_some_iff.1 q).1;have h2:=c j hj;have H:j<l.size:=ed;simp[H]at h1 h2;rw[h1]at h2;cases h2
 | succ f v=>
  intro l a w hi hl hI;refine⟨fun g=>b l a w hI (bn l hi g),fun i x=> ?_⟩;obtain⟨h1,o,q,hd⟩:=mem_ready.1 x;have p:i<l.size:=by rw[hi];exact(aL.getElem?_eq_some_iff.1 q).1
  refine Gl (fun A s h'=>v _ A s Og ?_ h') (d i o q l a w hI hd (by simpa [p]using h1));have:=pj (ops:=ops) hi h1;omega
def pf {id:av}{a:Act}{w:aj}(c:P.follows .mixedOrders=bl) (d:Region.lexB .any ops=bl) (I:aL aU->Act->aj->Prop)
  (h0:I (aL.replicate ops.size aW) a {w with drawn:=w.drawn+1})
  (H: ∀(i:av) (o:Oper),ops[i]? =bt o-> ∀l a w,I l a w->(∀e∈o.after,Region.binds .any e=bl->l.getD e.on aW=bl)->l.getD i aW=aW->wpOp P ops Q i (fun A f=>I (l.setIfInBounds i bl) A f) a w)
  (b: ∀l a w,I l a w->(∀j,j<ops.size->l.getD j aW=bl)->Q .normal a w):(Code.region id ops bl).wp P Q a w:=by
 refine wp_region_any c (XO d I H b _ _ _ _ ee ?_ h0);unfold zM;rw[aq.countP_eq_length.2 (fun j hj=>by simp at hj;simp[hj])];simp
def tN {id:av}{a:Act}{w:aj}(l:P.follows .mixedOrders=bl) (p:Region.lexB .any ops=bl) (I:(av->aU)->Act->aj->Prop)
  (h0:I (fun _=>aW) a {w with drawn:=w.drawn+1})
  (H: ∀(i:av) (o:Oper),ops[i]? =bt o-> ∀(f:av->aU) a w,I f a w->(∀e∈o.after,Region.binds .any e=bl->f e.on=bl)->f i=aW->wpOp P ops Q i (fun A d=>I (fun j=>ab (j=i) || f j) A d) a w)
  (b: ∀(f:av->aU) a w,I f a w->(∀j,j<ops.size->f j=bl)->Q .normal a w):(Code.region id ops bl).wp P Q a w:=by
 refine pf l p (fun L a w=>L.size=ops.size/\I (fun j=>L.getD j aW) a w) ⟨ee,?_⟩ ?_ (fun L a w h=>b _ a w h.2)
 ·have e:(fun j=>(aL.replicate ops.size aW).getD j aW)=fun _=>aW:=by
   funext j
   by_cases hj:j<ops.size<;>simp[aL.getD,hj]
  rw[e];exact h0
 intro i o g L a w ⟨hi,hI⟩ hd c;have q:i<L.size:=by rw[hi];exact(aL.getElem?_eq_some_iff.1 g).1
 refine Gl (fun A d h=>⟨Og,?_⟩) (H i o g _ a w hI hd c)
 have e:(fun j=>(L.setIfInBounds i bl).getD j aW)=fun j=>ab (j=i) || L.getD j aW:=by
  funext j
  by_cases hj:j=i
  ·subst hj;simp[q]
  rw[Fu aW (Sr hj)];simp[hj]
 rw[e];exact h
end
open Go.RowKit Tryz
structure IL (w:aj) (a:ax bR) (len:av) (l:aq ar):Prop where
 len:l.length=len
 cell: ∀i (h:i<l.length),∃b off,a=bt ⟨b,off,bn⟩/\jc w b (off+i) l[i]
def IL.below {w c:aj}{a:ax bR}{len:av}{l:aq ar}(h:IL w a len l) (H:jb w c):IL c a len l:=
 ⟨h.len,fun i d=>by
  obtain⟨b,off,e,hc⟩:=h.cell i d
  exact⟨b,off,e,(H.cell (p:=⟨b,off+i,bn⟩) Uj).trans hc⟩⟩
def aH {a b:aU}(h:a=b):Ending.returned (db a)=cL (db b):=by rw[h]
def dU {k:IntKind}{a b:ar}(h:a=b):Ending.returned (cW k a)=cL (cW k b):=by rw[h]
def lH (l m:aq ar):aU:=ab (l=m)
def DZ (w:aj) (b:aU) (e:Ending) (w':aj):Prop:=e=cL (db b)/\ ∃n,w'=w.drewN n
def XN {l m:aq ar}(h:l.length≠m.length):lH l m=aW:=by
 unfold lH;rw[Ns];rintro rfl;exact h rfl
def XM {l m:aq ar}(h1:k<l.length) (h2:k<m.length) (h:l[k]≠m[k]):lH l m=aW:=by
 unfold lH;rw[Ns];rintro rfl;exact h rfl
def XL {l m:aq ar}(hl:l.length=m.length) (h: ∀j (h1:j<l.length) (h2:j<m.length),l[j]=m[j]):lH l m=bl:=by
 unfold lH;rw[Dj];exact Sf hl h
def pe (a b:ax bR) (L lb ca C:av) (l m:aq ar) (w:aj) (hl:IL w a L l) (p:IL w b lb m) (x:L<=17592186044416) (y:lb<=17592186044416):
  jW 99 #[js a L ca,js b lb C] w (DZ w (lH l m)):=by
 have t:=hI hl;have u:=hI p;have HRL:=hI hl.len;have H:=hI p.len;clear hl p;by_cases c:L=lb
 ·subst c;have r:((L:ar) != (L:ar))=aW:=by simp
  go_in;go_wp2_with fail
  go_loopw [13] (fun i wr=> ∃k:av,k<=L/\i= jV k/\(∃q,wr=w.drewN q)/\ ∀j (h1:j<l.length) (h2:j<m.length),j<k->l[j]=m[j]) (fun i _=>L-(intOf i).toNat)
  case atStart=>exact⟨0,ed,rfl,⟨0,rfl⟩,fun j h1 h2 h0=>by omega⟩
  case round=>
   obtain⟨k,z,rfl,⟨q,rfl⟩,d⟩:=hrel;have e:=hI d;clear d;by_cases G9:k<L
   ·have hd:=bL G9;have f:k<l.length:=Ox;have g:k<m.length:=(by rw[H.o];exact G9);obtain⟨b1,o1,rfl,A⟩:=t.cell k f;obtain⟨b2,o2,rfl,v⟩:=u.cell k g;refine Qb fun _ _=>?_;by_cases he:l[k]=m[k]
    ·have s:(l[k] != m[k])=aW:=(by rw[he];simp);have HE:=hI he;clear he;go_wp2_with fail;go_quiet (fail);go_wp2_with fail
     go_roundw
     case rel=>
      refine⟨k+1,ed,ej,⟨_,rfl⟩,fun j h1 h2 hj=> ?_⟩;by_cases N7:j=k
      ·exact Uf
      exact e j h1 h2 ed
     case measure=>simp[intOf];omega
    have s:(l[k] != m[k])=bl:=(by rw[In];exact he);have HE:=hI (XM f g he);clear he;go_wp2_with fail;go_quiet (fail);go_wp2_with fail;go_ret;exact⟨aH HE.symm,by first | exact⟨_,rfl⟩ | exact⟨_,aj.drewN_drewN _ _ _⟩⟩
   obtain rfl:k=L:=ed;have HE:=hI (XL (HRL.trans H.symm) (fun j h1 h2=>e j h1 h2 (by rw[<-HRL.o];exact h1)));refine ei ?_;exact Zf
 have r:((L:ar) != (lb:ar))=bl:=by rw[In];omega
 have HE:bG (lH l m=aW):=XN (by rw[HRL.o,H.o];exact c);clear c;go_in;refine ei ?_;exact⟨aH HE.symm,0,rfl⟩
def ri (a b:ax bR) (L lb ca C:av) (l m:aq ar) (w:aj) (hl:IL w a L l) (p:IL w b lb m) (x:L<=17592186044416) (y:lb<=17592186044416):
  jW 97 #[js a L ca,js b lb C] w (DZ w (lH l m)):=by
 have t:=hI hl;have u:=hI p;have HRL:=hI hl.len;have H:=hI p.len;clear hl p;by_cases c:L=lb
 ·subst c;have r:((L:ar) != (L:ar))=aW:=by simp
  go_in;go_wp2_with fail
  go_loopw [5] (fun i wr=> ∃k:av,k<=L/\i= jV k/\(∃q,wr=w.drewN q)/\ ∀j (h1:j<l.length) (h2:j<m.length),j<k->l[j]=m[j]) (fun i _=>L-(intOf i).toNat)
  case atStart=>exact⟨0,ed,rfl,⟨0,rfl⟩,fun j h1 h2 h0=>by omega⟩
  case round=>
   obtain⟨k,z,rfl,⟨q,rfl⟩,d⟩:=hrel;have e:=hI d;clear d;by_cases G9:k<L
   ·have hd:=bL G9;have f:k<l.length:=Ox;have g:k<m.length:=(by rw[H.o];exact G9);obtain⟨b1,o1,rfl,A⟩:=t.cell k f;obtain⟨b2,o2,rfl,v⟩:=u.cell k g;refine Qb fun _ _=>?_;by_cases he:l[k]=m[k]
    ·have s:(l[k] != m[k])=aW:=(by rw[he];simp);have HE:=hI he;clear he;go_wp2_with fail;go_quiet (fail);go_wp2_with fail
     go_roundw
     case rel=>
      refine⟨k+1,ed,ej,⟨_,rfl⟩,fun j h1 h2 hj=> ?_⟩;by_cases N7:j=k
      ·exact Uf
      exact e j h1 h2 ed
     case measure=>simp[intOf];omega
    have s:(l[k] != m[k])=bl:=(by rw[In];exact he);have HE:=hI (XM f g he);clear he;go_wp2_with fail;go_quiet (fail);go_wp2_with fail;go_ret;exact⟨aH HE.symm,by first | exact⟨_,rfl⟩ | exact⟨_,aj.drewN_drewN _ _ _⟩⟩
   obtain rfl:k=L:=ed;have HE:=hI (XL (HRL.trans H.symm) (fun j h1 h2=>e j h1 h2 (by rw[<-HRL.o];exact h1)));refine ei ?_;exact Zf
 have r:((L:ar) != (lb:ar))=bl:=by rw[In];omega
 have HE:bG (lH l m=aW):=XN (by rw[HRL.o,H.o];exact c);clear c;go_in;refine ei ?_;exact⟨aH HE.symm,0,rfl⟩
open Go.Sort
def eP (w:aj) (v:bw) (l:aq ar):Prop:= ∃a len cap,v=cJ a len cap/\IL w a len l
def eP.below {w b:aj}{v:bw}{l:aq ar}(h:eP w v l) (H:jb w b):eP b v l:=by
 obtain⟨a,n,c,e,hl⟩:=h;exact⟨a,n,c,e,hl.below H⟩
structure mA (N:av) (w0 w:aj):Prop where
 os:w.os=w0.os
 tape:w.tape=w0.tape
 output:w.output=w0.output
 size:N<=w.heap.size
 block: ∀b,b<N->w.heap[b]? =w0.heap[b]?
def mA.below {w a:aj}(h:mA N w0 w) (H:jb w a):mA N w0 a:=
 ⟨H.os.trans h.os,H.tape.trans h.tape,H.output.trans h.output,Nj h.size H.size,fun b h'=>(H.block b (Nl h' h.size)).trans (h.block b h')⟩
def mA.setCell {w:aj}(h:mA N w0 w){p:bR}(a:N<=p.block) (u:bw):mA N w0 (w.setCell p u):=
 ⟨h.os,h.tape,h.output,by simpa [cd]using h.size,fun b H=>(Ny w p u b ed).trans (h.block b H)⟩
def Below.of_old {B:av}{w v:aj}(h:mA N w0 w) (H:cB B v w0) (hle:B<=N) (a:v.heap.size<=N):cB B v w:=
 ⟨h.os.trans H.os,h.tape.trans H.tape,h.output.trans H.output,Nj a h.size,fun k hk=>(h.block k Km).trans (H.block k hk)⟩
def aP {W w1:aj}{p:bR}{v:bw}(H:jb W w1) (h:W.cell? p=bt v):w1.cell? p=bt v:=(H.cell (Mt h)).trans h
def jP {B:av}{a w:aj}(h:cB B a w) (n:av):cB B a (w.drewN n):=⟨h.os,h.tape,h.output,h.size,h.block⟩
section
open Go.RowKit
def DY {W:aj}{g:av}{c1:bw}{T:bT}(h:W.heap[g]? =bt (cO #[c0,c1] T fr)):jc W g 0 c0/\jc W g 1 c1:=
  ⟨jr h,jr h⟩
def fO {W:aj}{g:av}{c1 c2:bw}{T:bT}(h:W.heap[g]? =bt (cO #[c0,c1,c2] T fr)):jc W g 0 c0/\jc W g 1 c1/\jc W g 2 c2:=
  ⟨jr h,jr h,jr h⟩
def sX {W:aj}{g:av}{c1 c2 c3:bw}{T:bT}(h:W.heap[g]? =bt (cO #[c0,c1,c2,c3] T fr)):jc W g 0 c0/\jc W g 1 c1/\jc W g 2 c2/\jc W g 3 c3:=
  ⟨jr h,jr h,jr h,jr h⟩
def dB {W:aj}{g:av}{c1 c2 c3 c4:bw}{T:bT}(h:W.heap[g]? =bt (cO #[c0,c1,c2,c3,c4,c5] T fr)):jc W g 0 c0/\jc W g 1 c1/\jc W g 2 c2/\jc W g 3 c3/\jc W g 4 c4/\jc W g 5 c5:=
  ⟨jr h,jr h,jr h,jr h,jr h,jr h⟩
def lU {W:aj}{g:av}{c1 c2 c3 c4:bw}{T:bT}(h:W.heap[g]? =bt (cO #[c0,c1,c2,c3,c4,c5,c6] T fr)):jc W g 0 c0/\jc W g 1 c1/\jc W g 2 c2/\jc W g 3 c3/\jc W g 4 c4/\jc W g 5 c5/\jc W g 6 c6:=
  ⟨jr h,jr h,jr h,jr h,jr h,jr h,jr h⟩
def wU {P:Program}{ops:aL Oper}{i:av}{a:Act}{w:aj}{w9:aj}(h:wpOp P ops Q i (fun A b=>A=F9/\b=w9) a w) (H:K F9 w9):wpOp P ops Q i K a w:=
  Gl (fun A b c=>by obtain⟨rfl,rfl⟩:=c;exact H) h
def tz {P:Program}{ops:aL Oper}{i:av}{a:Act}{w:aj}{R:aj->Prop}(h:wpOp P ops Q i (fun A b=>A=F9/\R b) a w) (H: ∀b,R b->K F9 b):wpOp P ops Q i K a w:=
  Gl (fun A b c=>by obtain⟨rfl,d⟩:=c;exact H b d) h
end
structure Jn where
 tt:ar
 en:ar
structure aF where
 id:ar
 pt:ar
 ends:aq Jn
structure Pt where
 id:ar
 sec:ar
structure Sg where
 id:ar
 sec:ar
 en:ar
structure Fl where
 pt:ar
 lie:ar
structure Rt where
 id:ar
 E:ar
 X:ar
 A:aq ar
 O:aq ar
 fl:aq Fl
 T:ar
structure Pl where
 ver:ar
 par:ar
 S:aq aF
 P:aq Pt
 G:aq Sg
 R:aq Rt
structure dV where
 pt:ar
 lie:ar
 pl:ar
structure Wy where
 A:aq ar
 O:aq ar
 asks:aq dV
 near:ar
structure Tk where
 id:ar
 is:ar
structure Sw where
 id:ar
 lie:ar
 call:ar
structure Lk where
 id:ar
 ph:ar
 gone:ar
 left:ar
structure St where
 tks:aq Tk
 sws:aq Sw
 lks:aq Lk
instance:DecidableEq Jn:=fun a b=>decidable_of_iff (a.tt=b.tt∧a.en=b.en) (by cases a;cases b;simp)
instance:DecidableEq aF:=fun a b=>decidable_of_iff (a.id=b.id∧a.pt=b.pt∧a.ends=b.ends) (by cases a;cases b;simp)
instance:DecidableEq Pt:=fun a b=>decidable_of_iff (a.id=b.id∧a.sec=b.sec) (by cases a;cases b;simp)
instance:DecidableEq Sg:=fun a b=>decidable_of_iff (a.id=b.id∧a.sec=b.sec∧a.en=b.en) (by cases a;cases b;simp)
instance:DecidableEq Fl:=fun a b=>decidable_of_iff (a.pt=b.pt∧a.lie=b.lie) (by cases a;cases b;simp)
instance:DecidableEq Rt:=fun a b=>decidable_of_iff (a.id=b.id∧a.E=b.E∧a.X=b.X∧a.A=b.A∧a.O=b.O∧a.fl=b.fl∧a.T=b.T) (by cases a;cases b;simp)
instance:DecidableEq dV:=fun a b=>decidable_of_iff (a.pt=b.pt∧a.lie=b.lie∧a.pl=b.pl) (by cases a;cases b;simp)
instance:DecidableEq Tk:=fun a b=>decidable_of_iff (a.id=b.id∧a.is=b.is) (by cases a;cases b;simp)
instance:DecidableEq Sw:=fun a b=>decidable_of_iff (a.id=b.id∧a.lie=b.lie∧a.call=b.call) (by cases a;cases b;simp)
instance:DecidableEq Lk:=fun a b=>decidable_of_iff (a.id=b.id∧a.ph=b.ph∧a.gone=b.gone∧a.left=b.left) (by cases a;cases b;simp)
def Rt.fit (r:Rt):Prop:=r.A.length≤17592186044416∧r.O.length≤17592186044416∧r.fl.length≤8796093022208
structure Pl.Fit (p:Pl):Prop where
 S:p.S.length≤1000
 ends: ∀i (h:i<p.S.length),p.S[i].ends.length≤8796093022208
 P:p.P.length≤1000
 G:p.G.length≤1000
 R:p.R.length≤1000
 rt: ∀i (h:i<p.R.length),p.R[i].fit
def St.fit (s:St):Prop:=s.tks.length≤1000∧s.sws.length≤1000∧s.lks.length≤1000
def aF.Shaped (s:aF):Prop:=(s.pt=0∧s.ends.length=2)∨(1≤s.pt∧s.pt≤99∧s.ends.length=3)
instance (s:aF):cG s.Shaped:=by unfold aF.Shaped;exact cx
def mU (l:aq aF) (s:aF) (e:av) (j:Jn):Prop:=
 (j.tt=0∧j.en=0)∨(¬(j.tt=s.id∧j.en=e)∧ ∃t∈l,t.id=j.tt∧0≤j.en∧t.ends[j.en.toNat]? =bt ⟨s.id,e⟩)
instance (l:aq aF) (s:aF) (e:av) (j:Jn):cG (mU l s e j):=by unfold mU;exact cx
def eR (l:aq aF) (k:av):Prop:=
 ∀i (h:i<l.length),i<k→(1≤l[i].id∧l[i].id≤99∧l[i].Shaped)∧ ∀m (hm:m<i),l[m].id<l[i].id∧(l[i].pt≠0→l[m].pt≠l[i].pt)
def pA (l:aq aF) (k:av):Prop:= ∀i (h:i<l.length),i<k→ ∀e (he:e<l[i].ends.length),mU l l[i] e l[i].ends[e]
def kM (l:aq aF):Prop:=l.length≤16∧eR l l.length∧pA l l.length
instance (l:aq aF) (k:av):cG (eR l k):=by unfold eR;exact cx
instance (l:aq aF) (k:av):cG (pA l k):=by unfold pA;exact cx
instance (l:aq aF):cG (kM l):=by unfold kM;exact cx
def dA {α:Type}(p:α→aU) (l:aq α):ar:=match l.findIdx? p with | some i=>(i:ar) | none=> -1
def tK {α:Type}{p:α→aU}{l:aq α}(a:k<l.length) (b:p l[k]=bl) (H: ∀j (h:j<l.length),j<k→p l[j]=aW):dA p l=k:=by
 unfold dA;have:l.findIdx? p=bt k:=aq.findIdx?_eq_some_iff_getElem.2 ⟨a,b,fun j hj=>by rw[H j (by omega) hj];simp⟩;rw[this]
def tJ {α:Type}{p:α→aU}{l:aq α}(H: ∀j (h:j<l.length),p l[j]=aW):dA p l= -1:=by
 unfold dA
 have:l.findIdx? p=bn:=aq.findIdx?_eq_none_iff.2 fun x hx=>by
  obtain⟨i,a,rfl⟩:=aq.getElem_of_mem hx;exact H i a
 rw[this]
def kF {α:Type}(p:α→aU) (l:aq α):(dA p l= -1∧ ∀j (h:j<l.length),p l[j]=aW)∨ ∃k,∃h:k<l.length,dA p l=(k:ar)∧p l[k]=bl∧ ∀j (h:j<l.length),j<k→p l[j]=aW:=by
 unfold dA;cases hf:l.findIdx? p with
 | none=>exact .inl ⟨rfl,fun j h=>aq.findIdx?_eq_none_iff.1 hf _ (aq.getElem_mem h)⟩
 | some k=>
  obtain⟨h1,h2,h3⟩:=aq.findIdx?_eq_some_iff_getElem.1 hf;exact .inr ⟨k,h1,rfl,h2,fun j h hj=>by have:=h3 j hj;simpa using this⟩
def dE {α:Type}(f:α→ar) (l:aq α) (k:av):Prop:= ∀i (h:i<l.length),i<k→(1≤f l[i]∧f l[i]≤99)∧ ∀h':0<i,f l[i-1]<f l[i]
instance {α:Type}(f:α→ar) (l:aq α) (k:av):cG (dE f l k):=by unfold dE;exact cx
def fZ (l:aq aF) (k:av):av:=((l.take k).filter fun s=>ab (s.pt≠0)).length
def kL (l:aq aF) (k:av) (q:av):ar:=match (l.take k).find? (fun s=>ab (0<q∧s.pt=(q:ar)))with | some s=>s.id | none=>0
def kH (p:Pl):Prop:=(dE Pt.id p.P p.P.length∧(p.P.length:ar)≤6)∧fZ p.S p.S.length=p.P.length∧ ∀i (h:i<p.P.length),∃s∈p.S,s.id=p.P[i].sec∧s.pt=p.P[i].id
instance (p:Pl):cG (kH p):=by unfold kH;exact cx
def ml (l:aq aF):fZ l 0=0:=by simp[fZ]
def mj {l:aq aF}(h:k<l.length):fZ l (k+1)=fZ l k+if l[k].pt≠0 then 1 else 0:=by
 unfold fZ;rw[aq.take_succ_eq_append_getElem h,aq.filter_append,aq.length_append]
 congr 1
 by_cases e:l[k].pt≠0<;>simp[e]
def EH (l:aq aF) (k:av):fZ l k≤l.length:=by
 unfold fZ;exact av.le_trans (aq.length_filter_le _ _) (by rw[aq.length_take];omega)
def si (l:aq aF) (q:av):kL l 0 q=0:=by simp[kL]
def sf {l:aq aF}(h:k<l.length) (h0: ¬0<l[k].pt) (q:av):kL l k q=kL l (k+1) q:=by
 unfold kL;rw[aq.take_succ_eq_append_getElem h,aq.find?_append]
 have H:[l[k]].find? (fun s=>ab (0<q∧s.pt=(q:ar)))=bn:=by
  rw[aq.find?_eq_none];intro x hx;rw[aq.mem_singleton]at hx;subst hx;simp;omega
 rw[H];cases (l.take k).find? (fun s=>ab (0<q∧s.pt=(q:ar)))<;>rfl
def se {l:aq aF}(h:k<l.length) (a:eR l l.length) (p:av) (h0:0<p) (b:l[k].pt=(p:ar)) (q:av):(if q=p then l[k].id else kL l k q)=kL l (k+1) q:=by
 unfold kL;rw[aq.take_succ_eq_append_getElem h,aq.find?_append];by_cases hq:q=p
 ·subst hq;rw[if_pos rfl]
  have H:(l.take k).find? (fun s=>ab (0<q∧s.pt=(q:ar)))=bn:=by
   rw[aq.find?_eq_none];intro x hx;obtain⟨i,c,rfl⟩:=aq.getElem_of_mem hx;rw[aq.length_take]at c;rw[aq.getElem_take];have:=((a k h h).2 i (by omega)).2 (by omega);simp;omega
  rw[H];simp[b,h0]
 rw[if_neg hq]
 have H:[l[k]].find? (fun s=>ab (0<q∧s.pt=(q:ar)))=bn:=by
  rw[aq.find?_eq_none];intro x hx;rw[aq.mem_singleton]at hx;subst hx;simp;omega
 rw[H];cases (l.take k).find? (fun s=>ab (0<q∧s.pt=(q:ar)))<;>rfl
def sd {l:aq aF}(a:eR l l.length) (q:av) (h0:0<q) (n:ar):(n≠0∧kL l l.length q=n)↔ ∃s∈l,s.id=n∧s.pt=(q:ar):=by
 unfold kL;rw[aq.take_length];constructor
 ·rintro⟨h1,h2⟩;cases hf:l.find? (fun s=>ab (0<q∧s.pt=(q:ar)))with
  | none=>rw[hf]at h2;exact cv h2.symm h1
  | some s=>
   rw[hf]at h2;have h3:=aq.find?_some hf;simp at h3;exact⟨s,aq.mem_of_find?_eq_some hf,h2,h3.2⟩
 rintro⟨s,b,h1,h2⟩;obtain⟨i,H,rfl⟩:=aq.getElem_of_mem b;have c:=(a i H H).1;refine⟨by omega,?_⟩;cases hf:l.find? (fun s=>ab (0<q∧s.pt=(q:ar)))with
 | none=>
  have:=aq.find?_eq_none.1 hf l[i] (aq.getElem_mem H);simp[h2,h0]at this
 | some t=>
  have h3:=aq.find?_some hf;simp at h3;obtain⟨j,hj,rfl⟩:=aq.getElem_of_mem (aq.mem_of_find?_eq_some hf)
  have:i=j:=by
   rcases av.lt_trichotomy i j with h | h | h
   ·have:=((a j hj hj).2 i h).2 (by omega);omega
   ·exact h
   have:=((a i H H).2 j h).2 (by omega);omega
  subst this;exact h1
def dW {α:Type}(f:α→ar) (z:α) (l:aq α) (n:ar):α:=(l.find? fun x=>ab (f x=n)).getD z
def dX {α:Type}(f:α→ar) (l:aq α) (n:ar):aU:=l.any fun x=>ab (f x=n)
def MC {α:Type}{f:α→ar}{z:α}{l:aq α}{n:ar}(h: ∀j (h:j<l.length),ab (f l[j]=n)=aW):dW f z l n=z∧dX f l n=aW:=by
 constructor
 ·unfold dW;rw[aq.find?_eq_none.2]
  ·rfl
  intro x hx;obtain⟨i,H,rfl⟩:=aq.getElem_of_mem hx;simp[h i H]
 unfold dX;rw[aq.any_eq_false];intro x hx;obtain⟨i,H,rfl⟩:=aq.getElem_of_mem hx;simp[h i H]
def tF {α:Type}{f:α→ar}{z:α}{l:aq α}{n:ar}(H:k<l.length) (h1:ab (f l[k]=n)=bl) (h2: ∀j (h:j<l.length),j<k→ab (f l[j]=n)=aW):dW f z l n=l[k]∧dX f l n=bl:=by
 constructor
 ·unfold dW;have:(l.find? fun x=>ab (f x=n))=bt l[k]:=aq.find?_eq_some_iff_getElem.2 ⟨h1,k,H,rfl,fun j hj=>by rw[h2 j (by omega) hj];rfl⟩;rw[this];rfl
 unfold dX;rw[aq.any_eq_true];exact⟨l[k],aq.getElem_mem H,h1⟩
def qK {α:Type}{f:α→ar}{z:α}{l:aq α}{n:ar}(h:dX f l n=bl):dW f z l n∈l∧f (dW f z l n)=n:=by
 unfold dX at h;rw[aq.any_eq_true]at h;obtain⟨x,hx,h1⟩:=h;unfold dW;cases hf:l.find? fun x=>ab (f x=n)with
 | none=>exact cv h1 (by have:=aq.find?_eq_none.1 hf x hx;simpa using this)
 | some y=>exact⟨aq.mem_of_find?_eq_some hf,by have:=aq.find?_some hf;simpa using this⟩
def nV (f:av→ar) (n:ar):Prop:=0≤n∧n≤99∧0<f n.toNat
instance (f:av→ar) (n:ar):cG (nV f n):=by unfold nV;exact cx
def rW (f:av→ar) (x:Sg):Prop:=nV f x.sec∧0≤x.en∧x.en<f x.sec.toNat
instance (f:av→ar) (x:Sg):cG (rW f x):=by unfold rW;exact cx
def rD (f:av→ar) (l:aq Sg) (k:av):Prop:= ∀i (h:i<l.length),i<k→rW f l[i]∧ ∀m (hm:m<i),¬(l[m].sec=l[i].sec∧l[m].en=l[i].en)
instance (f:av→ar) (l:aq Sg) (k:av):cG (rD f l k):=by unfold rD;exact cx
def lV (f:av→ar) (l:aq Sg):Prop:=(dE Sg.id l l.length∧(l.length:ar)≤10)∧rD f l l.length
instance (f:av→ar) (l:aq Sg):cG (lV f l):=by unfold lV;exact cx
def uO (x:Sg):av:=x.sec.toNat * 3+x.en.toNat
def pQ (l:aq Sg) (k:av) (q:av):aU:=(l.take k).any fun x=>ab (uO x=q)
def rz (l:aq Sg) (q:av):pQ l 0 q=aW:=by simp[pQ]
def ry {l:aq Sg}(h:k<l.length) (p:av) (H:uO l[k]=p) (q:av):(if q=p then bl else pQ l k q)=pQ l (k+1) q:=by
 unfold pQ;rw[aq.take_succ_eq_append_getElem h,aq.any_append];by_cases hq:q=p
 ·rw[if_pos hq];simp[H,hq]
 rw[if_neg hq];have: ¬p=q:=fun e=>hq e.symm;simp[H,this]
def ks {f:av→ar}(h3: ∀q,f q≤3){x y:Sg}(hx:rW f x) (H:rW f y):uO x=uO y↔(x.sec=y.sec∧x.en=y.en):=by
 obtain⟨⟨a1,a2,a3⟩,a4,a5⟩:=hx;obtain⟨⟨b1,b2,b3⟩,b4,b5⟩:=H;have:=h3 x.sec.toNat;have:=h3 y.sec.toNat;unfold uO;omega
def rx {f:av→ar}(h3: ∀q,f q≤3){l:aq Sg}(h:k<l.length) (b:rD f l k) (c:rW f l[k]):
  pQ l k (uO l[k])=bl↔ ¬ ∀m (e:m<k),¬(l[m].sec=l[k].sec∧l[m].en=l[k].en):=by
 unfold pQ;rw[aq.any_eq_true];constructor
 ·rintro⟨x,hx,a⟩ H;obtain⟨i,g,rfl⟩:=aq.getElem_of_mem hx;rw[aq.length_take]at g;rw[aq.getElem_take]at a;simp only[decide_eq_true_eq]at a;exact H i (by omega) ((ks h3 (b i (by omega) (by omega)).1 c).1 a)
 intro d;simp only[Classical.not_forall,Classical.not_not]at d;obtain⟨m,e,he⟩:=d;refine⟨l[m],aq.mem_iff_getElem.2 ⟨m,by rw[aq.length_take];omega,by rw[aq.getElem_take]⟩,?_⟩;simp only[decide_eq_true_eq];exact(ks h3 (b m (by omega) (by omega)).1 c).2 he
def ru {f:av→ar}{l:aq Sg}(h:k<l.length) (a:rD f l k) (b:rW f l[k]) (H: ∀m (e:m<k),¬(l[m].sec=l[k].sec∧l[m].en=l[k].en)):rD f l (k+1):=by
 intro i c d;rcases av.lt_or_ge i k with h' | h'
 ·exact a i c h'
 obtain rfl:i=k:=by omega
 exact⟨b,H⟩
def oU (l:aq Sg) (r:Rt):Prop:=
 dX Sg.id l r.E=bl∧(r.X≠0→dX Sg.id l r.X=bl∧r.X≠r.E)∧(r.X=0→r.O.length=0)∧
 1≤r.A.length∧r.A.length≤6∧r.O.length≤2∧r.fl.length≤3∧1≤r.T∧r.T≤9
instance (l:aq Sg) (r:Rt):cG (oU l r):=by unfold oU;exact cx
def pS (f:av→ar) (e:ar) (l:aq ar) (k:av):Prop:= ∀i (h:i<l.length),i<k→nV f l[i]∧l[i]≠e∧ ∀m (hm:m<i),l[m]≠l[i]
instance (f:av→ar) (e:ar) (l:aq ar) (k:av):cG (pS f e l k):=by unfold pS;exact cx
def zP (q:aq Pt) (l:aq Fl) (i:av) (h:i<l.length):Prop:=dX Pt.id q l[i].pt=bl∧(∀h':0<i,l[i-1].pt<l[i].pt)∧(l[i].lie=1∨l[i].lie=2)
instance (q:aq Pt) (l:aq Fl) (i:av) (h:i<l.length):cG (zP q l i h):=by unfold zP;exact cx
def sJ (q:aq Pt) (l:aq Fl) (k:av):Prop:= ∀i (h:i<l.length),i<k→zP q l i h
instance (q:aq Pt) (l:aq Fl) (k:av):cG (sJ q l k):=by unfold sJ;exact cx
def zO (l:aq Sg) (r:Rt):ar:=(dW Sg.id ⟨0,0,0⟩ l r.E).sec
def iU (f:av→ar) (l:aq Sg) (q:aq Pt) (r:Rt):Prop:=
 oU l r∧pS f (zO l r) (r.A++r.O) (r.A++r.O).length∧sJ q r.fl r.fl.length
instance (f:av→ar) (l:aq Sg) (q:aq Pt) (r:Rt):cG (iU f l q r):=by unfold iU;exact cx
def mT (e:ar) (l:aq ar) (k:av) (q:av):aU:=ab ((q:ar)=e) || (l.take k).any fun x=>ab (x=(q:ar))
def qs (e:ar) (l:aq ar) (q:av):mT e l 0 q=ab ((q:ar)=e):=by simp[mT]
def qr (e:ar){l:aq ar}(h:k<l.length) (p:av) (H:l[k]=(p:ar)) (q:av):(if q=p then bl else mT e l k q)=mT e l (k+1) q:=by
 unfold mT;rw[aq.take_succ_eq_append_getElem h,aq.any_append];by_cases hq:q=p
 ·rw[if_pos hq];simp[H,hq]
 rw[if_neg hq];have: ¬(p:ar)=(q:ar):=by omega
 simp[H,this]
def qp (e:ar){l:aq ar}(h:k<l.length) (p:av) (b:l[k]=(p:ar)):mT e l k p=bl↔ ¬(l[k]≠e∧ ∀m (a:m<k),l[m]≠l[k]):=by
 unfold mT;rw[b];constructor
 ·intro hx;rintro⟨h1,h2⟩;rw[aU.or_eq_true]at hx;rcases hx with hx | hx
  ·exact h1 (by simpa using hx)
  rw[aq.any_eq_true]at hx;obtain⟨x,hx,H⟩:=hx;obtain⟨i,c,rfl⟩:=aq.getElem_of_mem hx;rw[aq.length_take]at c;rw[aq.getElem_take]at H;exact h2 i (by omega) (by simpa using H)
 intro d;rw[aU.or_eq_true];by_cases h1:(p:ar)=e
 ·exact .inl (by simpa using h1)
 right;have h2: ¬ ∀m (a:m<k),l[m]≠(p:ar):=fun h2=>d ⟨h1,h2⟩;simp only[Classical.not_forall,Ne,Classical.not_not]at h2;obtain⟨m,a,he⟩:=h2;rw[aq.any_eq_true];exact⟨l[m],aq.mem_iff_getElem.2 ⟨m,by rw[aq.length_take];omega,by rw[aq.getElem_take]⟩,by simpa using he⟩
def qo {f:av→ar}{e:ar}{l:aq ar}(h:k<l.length) (H:pS f e l k) (a:nV f l[k]∧l[k]≠e∧ ∀m (d:m<k),l[m]≠l[k]):pS f e l (k+1):=by
 intro i b c;rcases av.lt_or_ge i k with h' | h'
 ·exact H i b h'
 obtain rfl:i=k:=by omega
 exact a
def EF {q:aq Pt}{l:aq Fl}(h:k<l.length) (H:sJ q l k) (a:zP q l k h):sJ q l (k+1):=by
 intro i b c;rcases av.lt_or_ge i k with h' | h'
 ·exact H i b h'
 obtain rfl:i=k:=by omega
 exact a
def AE (p:Pl):Prop:=1≤p.ver∧p.ver≤2147483647∧0≤p.par∧p.par<p.ver∧kM p.S
instance (p:Pl):cG (AE p):=by unfold AE;exact cx
def AC (f:av→ar) (p:Pl):Prop:=kH p∧lV f p.G∧(dE Rt.id p.R p.R.length∧(p.R.length:ar)≤16)
instance (f:av→ar) (p:Pl):cG (AC f p):=by unfold AC;exact cx
def uY (f:av→ar) (p:Pl) (k:av):Prop:= ∀i (h:i<p.R.length),i<k→iU f p.G p.P p.R[i]
instance (f:av→ar) (p:Pl) (k:av):cG (uY f p k):=by unfold uY;exact cx
def qn {f:av→ar}{p:Pl}(h:k<p.R.length) (H:uY f p k) (a:iU f p.G p.P p.R[k]):uY f p (k+1):=by
 intro i b c;rcases av.lt_or_ge i k with h' | h'
 ·exact H i b h'
 obtain rfl:i=k:=by omega
 exact a
def rC (pt a b:ar):ar:=
 if pt=0 then(if(a=0∧b=1)∨(a=1∧b=0)then 3 else 0)
 else if(a=0∧b=1)∨(a=1∧b=0)then 1
 else if(a=0∧b=2)∨(a=2∧b=0)then 2 else 0
def lO (s:aF) (a b:ar):ar:=if¬s.Shaped then 8 else if a<0∨2<a∨b<0∨2<b∨rC s.pt a b=0 then 2 else 0
def nU (s:aF) (a b:ar):ar:=if lO s a b=0 then(rC s.pt a b).tmod 3 else 0
structure Wk where
 inn:Jn
 asks:aq dV
 outs:aq Jn
 lost:aU
def lE:aF:=⟨0,0,[]⟩
def qJ (l:aq aF) (k:Wk) (id:ar):Prop:=dX aF.id l id=bl∧k.inn.tt=id
instance (l:aq aF) (k:Wk) (id:ar):cG (qJ l k id):=by unfold qJ;exact cx
def kP (l:aq aF) (k:Wk) (id:ar):aF:=if qJ l k id then dW aF.id lE l id else lE
def fG (l:aq aF) (k:Wk) (id:ar):Wk:=if qJ l k id then k else {k with lost:=bl}
def kB (k:Wk) (pt lie pl:ar):Wk:=if 0<pt∧0<lie then {k with asks:=k.asks++[⟨pt,lie,pl⟩]}else k
def oT (s:aF) (k:Wk) (right:av→Jn→aU) (e:av):aU:= !k.lost&&ab (lO s k.inn.en e=0)&&right e (s.ends.getD e ⟨0,0⟩)
def mN (s:aF) (k:Wk) (id pl:ar) (right:av→Jn→aU):Wk:=
 match (aq.range s.ends.length).find? (oT s k right)with
 | some e=>{kB k s.pt (nU s k.inn.en e) pl with inn:=s.ends.getD e ⟨0,0⟩,outs:=k.outs++[⟨id,e⟩]}
 | none=>{k with lost:=bl}
def lD (l:aq aF) (k:Wk) (id pl:ar) (right:av→Jn→aU):Wk:=mN (kP l k id) (fG l k id) id pl right
def pO (l:aq aF) (k:Wk) (id pl:ar):Wk:=
 if(fG l k id).lost=aW∧0<k.inn.en then kB (fG l k id) (kP l k id).pt k.inn.en pl else fG l k id
def mI:Sg:=⟨0,0,0⟩
def iZ (p:Pl) (id:ar):Sg:=dW Sg.id mI p.G id
def aI (r:Rt):aq ar:=r.A++r.O
def zN (p:Pl) (r:Rt):Jn:=(dW aF.id lE p.S (iZ p r.E).sec).ends.getD (iZ p r.E).en.toNat ⟨0,0⟩
def rV (_:av) (j:Jn):aU:=ab (j.tt=0∧j.en=0)
def tE (s:ar) (x:Sg) (e:av) (_:Jn):aU:=ab (s=x.sec∧(e:ar)=x.en)
def uX (n:ar) (_:av) (j:Jn):aU:=ab (j.tt=n)
def eW (p:Pl) (r:Rt) (i:av) (k:Wk):Wk:=
 if i+1=r.A.length∧r.X=0 then lD p.S k ((aI r).getD i 0) i rV
 else if i+1=r.A.length then lD p.S k ((aI r).getD i 0) i (tE ((aI r).getD i 0) (iZ p r.X))
 else if i+1=(aI r).length then pO p.S k ((aI r).getD i 0) i
 else lD p.S k ((aI r).getD i 0) i (uX ((aI r).getD (i+1) 0))
def eM (p:Pl) (r:Rt):av→Wk
 | 0=>⟨zN p r,[],[],aW⟩
 | i+1=>eW p r i (eM p r i)
def kE (p:Pl) (r:Rt):Wk:=eM p r (aI r).length
def gO (k:Wk) (l:aq Fl):av→Wk
 | 0=>k
 | i+1=>kB (gO k l i) (l.getD i ⟨0,0⟩).pt (l.getD i ⟨0,0⟩).lie (-1)
def LD (p:Pl) (r:Rt):Wk:=gO (kE p r) r.fl r.fl.length
def cP (p:Pl) (r:Rt):Wy:=⟨r.A,r.O,(LD p r).asks,(iZ p r.E).sec⟩
def gK (p:Pl) (r:Rt):aq Jn:=(kE p r).outs
def kr {f:av→aU}{n:av}(H:k<n) (h1:f k=bl) (h2: ∀e,e<k→f e=aW):(aq.range n).find? f=bt k:=by
 rw[aq.find?_range_eq_some];exact⟨h1,aq.mem_range.2 H,fun e he=>by rw[h2 e he];rfl⟩
def qm {f:av→aU}{n:av}(h2: ∀e,e<n→f e=aW):(aq.range n).find? f=bn:=by
 rw[aq.find?_range_eq_none];exact fun e he=>by rw[h2 e he];rfl
def qk {s:aF}{k:Wk}{id pl:ar}{right:av→Jn→aU}{e:av}(H:e<s.ends.length) (h1:oT s k right e=bl) (h2: ∀i,i<e→oT s k right i=aW):
  mN s k id pl right={kB k s.pt (nU s k.inn.en e) pl with inn:=s.ends[e],outs:=k.outs++[⟨id,e⟩]}:=by
 unfold mN;rw[kr H h1 h2];simp[aq.getD_eq_getElem?_getD,aq.getElem?_eq_getElem H]
def qj {s:aF}{k:Wk}{id pl:ar}{right:av→Jn→aU}(h2: ∀i,i<s.ends.length→oT s k right i=aW):mN s k id pl right={k with lost:=bl}:=by
 unfold mN;rw[qm h2]
def ED (k:Wk) (a b c:ar):(kB k a b c).outs=k.outs:=by unfold kB;split<;>rfl
def LC (k:Wk) (a b c:ar):(kB k a b c).asks.length≤k.asks.length+1:=by unfold kB;split<;>simp
def tD (l:aq aF) (k:Wk) (id:ar):(fG l k id).asks=k.asks:=by unfold fG;split<;>rfl
def uW (l:aq aF) (k:Wk) (id:ar):(fG l k id).outs=k.outs:=by unfold fG;split<;>rfl
def qi (l:aq aF) (k:Wk) (id:ar):(fG l k id).inn=k.inn:=by unfold fG;split<;>rfl
def kq (l:aq aF) (k:Wk) (id:ar) (h:k.lost=bl):(fG l k id).lost=bl:=by unfold fG;split<;>simp[h]
def qh (s:aF) (k:Wk) (id pl:ar) (right:av→Jn→aU):(mN s k id pl right).asks.length≤k.asks.length+1∧(mN s k id pl right).outs.length≤k.outs.length+1:=by
 unfold mN;split
 ·exact⟨LC _ _ _ _,by simp⟩
 exact⟨by simp,by simp⟩
def km (s:aF) (k:Wk) (id pl:ar) (right:av→Jn→aU) (h:(mN s k id pl right).lost=aW):k.lost=aW∧(mN s k id pl right).outs.length=k.outs.length+1:=by
 unfold mN at h ⊢;split
 ·rename_i e he
  have:=aq.find?_some he;unfold oT at this;simp at this;exact⟨this.1.1,by simp⟩
 rename_i he
 rw[he]at h;simp at h
def KY (l:aq aF) (k:Wk) (id pl:ar) (right:av→Jn→aU) (h:(lD l k id pl right).lost=aW):k.lost=aW∧(lD l k id pl right).outs.length=k.outs.length+1:=by
 unfold lD at h ⊢;obtain⟨h1,h2⟩:=km _ _ _ _ _ h;rw[uW]at h2;refine⟨?_,h2⟩;cases hk:k.lost with
 | false=>rfl
 | true=>rw[kq _ _ _ hk]at h1;cases h1
def qf (l:aq aF) (k:Wk) (id pl:ar) (h:(pO l k id pl).lost=aW):k.lost=aW∧(pO l k id pl).outs=k.outs:=by
 unfold pO at h ⊢
 have hl:(fG l k id).lost=aW:=by
  split at h
  ·rename_i h1;exact h1.1
  exact h
 refine⟨?_,?_⟩
 ·cases hk:k.lost with
  | false=>rfl
  | true=>rw[kq _ _ _ hk]at hl;cases hl
 split
 ·rw[ED,uW]
 rw[uW]
def qe (p:Pl) (r:Rt) (i:av) (k:Wk):(eW p r i k).asks.length≤k.asks.length+1∧(eW p r i k).outs.length≤k.outs.length+1:=by
 have H: ∀id pl right,(lD p.S k id pl right).asks.length≤k.asks.length+1∧(lD p.S k id pl right).outs.length≤k.outs.length+1:=by
  intro id pl right;have:=qh (kP p.S k id) (fG p.S k id) id pl right;rw[tD,uW]at this;exact this
 unfold eW;split
 ·exact H _ _ _
 split
 ·exact H _ _ _
 split
 ·unfold pO;split
  ·have:=LC (fG p.S k ((aI r).getD i 0)) (kP p.S k ((aI r).getD i 0)).pt k.inn.en i;rw[tD]at this;rw[ED,uW];exact⟨this,by simp⟩
  rw[tD,uW];simp
 exact H _ _ _
def uV (p:Pl) (r:Rt): ∀i,(eM p r i).asks.length≤i∧(eM p r i).outs.length≤i
 | 0=>by simp[eM]
 | i+1=>by
  have h1:=uV p r i;have h2:=qe p r i (eM p r i);show(eW p r i (eM p r i)).asks.length≤_∧(eW p r i (eM p r i)).outs.length≤_;omega
def kl (p:Pl) (r:Rt) (i:av) (k:Wk) (h:(eW p r i k).lost=aW):k.lost=aW∧k.outs.length≤(eW p r i k).outs.length∧(i<r.A.length→(eW p r i k).outs.length=k.outs.length+1):=by
 have hl:r.A.length≤(aI r).length:=by unfold aI;simp
 unfold eW at h ⊢;split
 ·rename_i c;rw[if_pos c]at h
  have:=KY _ _ _ _ _ h;exact⟨this.1,by omega,fun _=>this.2⟩
 rename_i c;rw[if_neg c]at h
 split
 ·rename_i c;rw[if_pos c]at h
  have:=KY _ _ _ _ _ h;exact⟨this.1,by omega,fun _=>this.2⟩
 rename_i c1;rw[if_neg c1]at h
 split
 ·rename_i C;rw[if_pos C]at h
  have:=qf _ _ _ _ h;exact⟨this.1,by rw[this.2];omega,fun H=>by omega⟩
 rename_i C;rw[if_neg C]at h
 have:=KY _ _ _ _ _ h;exact⟨this.1,by omega,fun _=>this.2⟩
def kj (p:Pl) (r:Rt): ∀i,(eM p r i).lost=aW→min i r.A.length≤(eM p r i).outs.length
 | 0,_=>by simp
 | i+1,h=>by
  have h:(eW p r i (eM p r i)).lost=aW:=h;obtain⟨h1,h2,h3⟩:=kl p r i _ h;have h4:=kj p r i h1;show _≤(eW p r i (eM p r i)).outs.length;by_cases H:i<r.A.length
  ·have:=h3 H;omega
  omega
def qd (p:Pl) (r:Rt) (h:(kE p r).lost=aW):r.A.length≤(gK p r).length:=by
 have:=kj p r (aI r).length h;have hl:r.A.length≤(aI r).length:=by unfold aI;simp
 unfold gK kE;omega
def kh (k:Wk) (l:aq Fl): ∀i,(gO k l i).outs=k.outs
 | 0=>rfl
 | i+1=>by rw[gO,ED,kh k l i]
def EC (k:Wk) (l:aq Fl): ∀i,(gO k l i).asks.length≤k.asks.length+i
 | 0=>av.le_refl _
 | i+1=>by
  have h1:=EC k l i;have h2:=LC (gO k l i) (l.getD i ⟨0,0⟩).pt (l.getD i ⟨0,0⟩).lie (-1);rw[gO];omega
def oD (l:aq dV):Prop:= ∀a∈l,1≤a.pt∧a.pt≤99
def KU {k:Wk}{pt lie pl:ar}(h:oD k.asks) (b:pt≤99):oD (kB k pt lie pl).asks:=by
 unfold kB;split
 ·rename_i c
  intro a H;rcases aq.mem_append.1 H with H | H
  ·exact h a H
  rw[aq.mem_singleton]at H;subst H;exact⟨by show 1≤pt;omega,b⟩
 exact h
def ke {l:aq aF}(a:eR l l.length) (k:Wk) (id:ar):(kP l k id).pt≤99:=by
 unfold kP;split
 ·rename_i c
  obtain⟨i,H,he⟩:=aq.getElem_of_mem (qK (z:=lE) c.1).1;rw[←he];rcases(a i H H).1.2.2 with h | h<;>omega
 show(0:ar)≤99;omega
def qb {s:aF}{k:Wk}{id pl:ar}{right:av→Jn→aU}(h:oD k.asks) (H:s.pt≤99):oD (mN s k id pl right).asks:=by
 unfold mN;split
 ·exact KU h H
 exact h
def pz {p:Pl}(a:eR p.S p.S.length) (r:Rt) (i:av) (k:Wk) (h:oD k.asks):oD (eW p r i k).asks:=by
 have H: ∀id pl right,oD (lD p.S k id pl right).asks:=fun id pl right=>qb (by rw[tD];exact h) (ke a _ _);unfold eW;split
 ·exact H _ _ _
 split
 ·exact H _ _ _
 split
 ·unfold pO;split
  ·exact KU (by rw[tD];exact h) (ke a _ _)
  rw[tD];exact h
 exact H _ _ _
def kd {p:Pl}(H:eR p.S p.S.length) (r:Rt): ∀i,oD (eM p r i).asks
 | 0=>fun a b=>by simp[eM]at b
 | i+1=>pz H r i _ (kd H r i)
def jx {k:Wk}{l:aq Fl}(h:oD k.asks) (hl: ∀f∈l,f.pt≤99): ∀i,oD (gO k l i).asks
 | 0=>h
 | i+1=>KU (jx h hl i) (by
  rw[aq.getD_eq_getElem?_getD];cases he:l[i]? with
  | none=>show(0:ar)≤99;omega
  | some f=>exact hl f (aq.mem_of_getElem? he))
def jw {p:Pl}{r:Rt}(a:eR p.S p.S.length) (b:dE Pt.id p.P p.P.length) (hF:sJ p.P r.fl r.fl.length):oD (cP p r).asks:=
 jx (kd a r _) (fun f c=>by
  obtain⟨i,H,rfl⟩:=aq.getElem_of_mem c;have h1:=qK (z:=(⟨0,0⟩:Pt)) (hF i H H).1;obtain⟨j,hj,he⟩:=aq.getElem_of_mem h1.1;have h2:=(b j hj hj).1;have h3:p.P[j].id=r.fl[i].pt:=by rw[he];exact h1.2
  omega) _
def tI (l:aq dV) (k:av):Prop:= ∀i (h:i<l.length),i<k→ ∀m (hm:m<i),l[m].pt≠l[i].pt
instance (l:aq dV) (k:av):cG (tI l k):=by unfold tI;exact cx
def nS (l:aq dV):Prop:=tI l l.length
instance (l:aq dV):cG (nS l):=by unfold nS;exact cx
def XQ {l:aq dV}(h:k<l.length) (H:tI l k) (a: ∀m (d:m<k),l[m].pt≠l[k].pt):tI l (k+1):=by
 intro i b c;rcases av.lt_or_ge i k with h' | h'
 ·exact H i b h'
 obtain rfl:i=k:=by omega
 exact a
def pN (l:aq dV) (k:av) (q:av):aU:=(l.take k).any fun x=>ab (x.pt=(q:ar))
def py (l:aq dV) (q:av):pN l 0 q=aW:=by simp[pN]
def px {l:aq dV}(h:k<l.length) (p:av) (H:l[k].pt=(p:ar)) (q:av):(if q=p then bl else pN l k q)=pN l (k+1) q:=by
 unfold pN;rw[aq.take_succ_eq_append_getElem h,aq.any_append];by_cases hq:q=p
 ·rw[if_pos hq];simp[H,hq]
 rw[if_neg hq];have: ¬(p:ar)=(q:ar):=by omega
 simp[H,this]
def pw {l:aq dV}(h:k<l.length) (p:av) (b:l[k].pt=(p:ar)):pN l k p=bl↔ ¬ ∀m (c:m<k),l[m].pt≠l[k].pt:=by
 unfold pN;rw[b,aq.any_eq_true];constructor
 ·rintro⟨x,hx,hq⟩ H;obtain⟨i,d,rfl⟩:=aq.getElem_of_mem hx;rw[aq.length_take]at d;rw[aq.getElem_take]at hq;exact H i (by omega) (by simpa using hq)
 intro a;simp only[Classical.not_forall,Ne,Classical.not_not]at a;obtain⟨m,c,he⟩:=a;exact⟨l[m],aq.mem_iff_getElem.2 ⟨m,by rw[aq.length_take];omega,by rw[aq.getElem_take]⟩,by simpa using he⟩
def tB (r:Rt) (i:av) (j:Jn) (x:Sg):Prop:=x.sec=j.tt∧x.en=j.en∧(i+1<r.A.length∨x.id≠r.X)
instance (r:Rt) (i:av) (j:Jn) (x:Sg):cG (tB r i j x):=by unfold tB;exact cx
def vB (p:Pl) (r:Rt) (i:av) (j:Jn) (k:av):Prop:= ∀m (h:m<p.G.length),m<k→ ¬tB r i j p.G[m]
instance (p:Pl) (r:Rt) (i:av) (j:Jn) (k:av):cG (vB p r i j k):=by unfold vB;exact cx
def tH (p:Pl) (r:Rt) (outs:aq Jn) (k:av):Prop:= ∀i (h:i<outs.length),i<k→vB p r i outs[i] p.G.length
instance (p:Pl) (r:Rt) (outs:aq Jn) (k:av):cG (tH p r outs k):=by unfold tH;exact cx
def oC (p:Pl) (r:Rt) (outs:aq Jn):Prop:=tH p r outs r.A.length
instance (p:Pl) (r:Rt) (outs:aq Jn):cG (oC p r outs):=by unfold oC;exact cx
def KQ {p:Pl}{r:Rt}{i:av}{j:Jn}(h:k<p.G.length) (H:vB p r i j k) (a: ¬tB r i j p.G[k]):vB p r i j (k+1):=by
 intro m b c;rcases av.lt_or_ge m k with h' | h'
 ·exact H m b h'
 obtain rfl:m=k:=by omega
 exact a
def pu {p:Pl}{r:Rt}{outs:aq Jn}(h:k<outs.length) (H:tH p r outs k) (a:vB p r k outs[k] p.G.length):tH p r outs (k+1):=by
 intro i b c;rcases av.lt_or_ge i k with h' | h'
 ·exact H i b h'
 obtain rfl:i=k:=by omega
 exact a
def wF (p:Pl) (k:av):Prop:= ∀i (h:i<p.R.length),i<k→(kE p p.R[i]).lost=aW
instance (p:Pl) (k:av):cG (wF p k):=by unfold wF;exact cx
def uU (p:Pl):Prop:=wF p p.R.length
instance (p:Pl):cG (uU p):=by unfold uU;exact cx
def po {p:Pl}(h:k<p.R.length) (H:wF p k) (a:(kE p p.R[k]).lost=aW):wF p (k+1):=by
 intro i b c;rcases av.lt_or_ge i k with h' | h'
 ·exact H i b h'
 obtain rfl:i=k:=by omega
 exact a
def AD (p:Pl) (r:Rt):Prop:=nS (cP p r).asks∧oC p r (gK p r)
instance (p:Pl) (r:Rt):cG (AD p r):=by unfold AD;exact cx
def uQ (p:Pl) (k:av):Prop:= ∀i (h:i<p.R.length),i<k→AD p p.R[i]
instance (p:Pl) (k:av):cG (uQ p k):=by unfold uQ;exact cx
def pm {p:Pl}(h:k<p.R.length) (H:uQ p k) (a:AD p p.R[k]):uQ p (k+1):=by
 intro i b c;rcases av.lt_or_ge i k with h' | h'
 ·exact H i b h'
 obtain rfl:i=k:=by omega
 exact a
def pB (x:Tk) (y:aF):Prop:=x.id=y.id∧x.is≤2
instance (x:Tk) (y:aF):cG (pB x y):=by unfold pB;exact cx
def oI (x:Sw) (y:Pt):Prop:=x.id=y.id∧(0≤x.lie∧x.lie≤2)∧(0≤x.call∧x.call≤2)
instance (x:Sw) (y:Pt):cG (oI x y):=by unfold oI;exact cx
def kX (l:Lk) (r:Rt):Prop:=
 ((l.ph=0∨l.ph=1)∧l.gone=0∧l.left=0)∨(l.ph=2∧0≤l.gone∧l.gone≤(r.A.length:ar)-1∧l.left=0)∨
 (l.ph=3∧l.gone=(r.A.length:ar)-1∧1≤l.left∧l.left≤r.T)∨(l.ph=4∧l.gone=0∧1≤l.left∧l.left≤r.T)
instance (l:Lk) (r:Rt):cG (kX l r):=by unfold kX;exact cx
def oV (x:Lk) (y:Rt):Prop:=x.id=y.id∧kX x y
instance (x:Lk) (y:Rt):cG (oV x y):=by unfold oV;exact cx
def qI {α β:Type}(R:α→β→Prop) (l:aq α) (m:aq β) (k:av):Prop:= ∀i (h:i<l.length) (h':i<m.length),i<k→R l[i] m[i]
instance {α β:Type}(R:α→β→Prop) [∀a b,cG (R a b)] (l:aq α) (m:aq β) (k:av):cG (qI R l m k):=by unfold qI;exact cx
def iN {α β:Type}(R:α→β→Prop) (l:aq α) (m:aq β):Prop:=l.length=m.length∧qI R l m l.length
instance {α β:Type}(R:α→β→Prop) [∀a b,cG (R a b)] (l:aq α) (m:aq β):cG (iN R l m):=by unfold iN;exact cx
def KM {α β:Type}{R:α→β→Prop}{l:aq α}{m:aq β}(h:k<l.length) (h':k<m.length) (a:qI R l m k) (b:R l[k] m[k]):qI R l m (k+1):=by
 intro i c H d;rcases av.lt_or_ge i k with q | q
 ·exact a i c H q
 obtain rfl:i=k:=by omega
 exact b
def lC (w:Wy) (l:Lk):aq ar:=if l.ph=0 then []else w.A.drop (min (max l.gone 0).toNat w.A.length)++w.O
def mG (w:Wy) (l:Lk):aq dV:=if l.ph=0 then []else w.asks.filter fun a=>ab (a.pl<0∨l.gone≤a.pl)
structure Gr where
 H:av→ar
 A:av→ar
 ok:aU
def mF (id:ar) (g:Gr) (s:ar):Gr:=⟨fun q=>if q=s.toNat then id else g.H q,g.A,g.ok&&ab (g.H s.toNat=0)⟩
def lN (id:ar):aq ar→Gr→Gr
 | [],g=>g
 | s::r,g=>if(mF id g s).ok then lN id r (mF id g s)else mF id g s
def mE (call:ar→ar) (g:Gr) (a:dV):Gr:=⟨g.H,fun q=>if q=a.pt.toNat then a.lie else g.A q,g.ok&&ab (call a.pt=a.lie)⟩
def lK (call:ar→ar):aq dV→Gr→Gr
 | [],g=>g
 | a::r,g=>if(mE call g a).ok then lK call r (mE call g a)else mE call g a
def sZ (call:ar→ar) (w:Wy) (l:Lk) (g:Gr):Gr:=lK call (mG w l) (lN l.id (lC w l) g)
def nF:Lk:=⟨0,0,0,0⟩
def nE:Rt:=⟨0,0,0,[],[],[],0⟩
def iJ (l:aq Sw) (pt:ar):ar:=(dW Sw.id ⟨0,0,0⟩ l pt).call
def jO (p:Pl) (s:St):av→Gr
 | 0=>⟨fun _=>0,fun _=>0,bl⟩
 | i+1=>sZ (iJ s.sws) (cP p (p.R.getD i nE)) (s.lks.getD i nF) (jO p s i)
def sY (p:Pl) (s:St):Gr:=jO p s s.lks.length
def jR (p:Pl) (s:St):Prop:=iN pB s.tks p.S∧iN oI s.sws p.P∧iN oV s.lks p.R
instance (p:Pl) (s:St):cG (jR p s):=by unfold jR;exact cx
def nR (p:Pl) (s:St):Prop:=jR p s∧(sY p s).ok=bl
instance (p:Pl) (s:St):cG (nR p s):=by unfold nR;exact cx
def nQ {α:Type}(R:aj->aq bw->α->Prop):Prop:= ∀w w' vs x,jb w w'->R w vs x->R w' vs x
structure aB {α:Type}(w:aj) (sz:av) (R:aj->aq bw->α->Prop) (a:ax bR) (cap:av) (l:aq α):Prop where
 le:l.length<=cap
 nil:a=bn->cap=0
 at_: ∀i (h:i<l.length),∃b off vs,a=bt ⟨b,off,bn⟩/\vs.length=sz/\(∀j (hj:j<vs.length),jc w b (off+i * sz+j) vs[j])/\R w vs l[i]
def Sl {α:Type}(w:aj) (sz:av) (R:aj->aq bw->α->Prop) (v:bw) (l:aq α):Prop:= ∃a cap,v=cJ a l cap/\aB w sz R a cap l
def aB.below {α:Type}{w:aj}{sz:av}{R:aj->aq bw->α->Prop}{a:ax bR}{l:aq α}(d:nQ R) (h:aB w sz R a cap l) (H:jb w w'):aB w' sz R a cap l:=
 ⟨h.le,h.nil,fun i f=>by
  obtain⟨b,off,V,e,hl,c,g⟩:=h.at_ i f
  exact⟨b,off,V,e,hl,fun j hj=>(H.cell (Mt (c j hj))).trans (c j hj),d _ _ _ _ H g⟩⟩
def Sl.below {α:Type}{w:aj}{sz:av}{R:aj->aq bw->α->Prop}{v:bw}{l:aq α}(H:nQ R) (h:Sl w sz R v l) (b:jb w w'):Sl w' sz R v l:=by
 obtain⟨a,cap,e,h⟩:=h;exact⟨a,cap,e,h.below H b⟩
def Sl.nil {α:Type}(w:aj) (sz:av) (R:aj->aq bw->α->Prop):Sl w sz R (jN) []:=⟨bn,0,rfl,Mv _,fun _=>rfl,fun i h=>by simp at h⟩
def rh (w:aj) (vs:aq bw) (x:ar):Prop:=vs=[cW dr x]
def fI (w:aj) (vs:aq bw) (x:Jn):Prop:=vs=[cW dr x.tt,cW dr x.en]
def iA (w:aj) (vs:aq bw) (x:Pt):Prop:=vs=[cW dr x.id,cW dr x.sec]
def gZ (w:aj) (vs:aq bw) (x:Sg):Prop:=vs=[cW dr x.id,cW dr x.sec,cW dr x.en]
def lZ (w:aj) (vs:aq bw) (x:Fl):Prop:=vs=[cW dr x.pt,cW dr x.lie]
def qH (w:aj) (vs:aq bw) (x:dV):Prop:=vs=[cW dr x.pt,cW dr x.lie,cW dr x.pl]
def nX (w:aj) (vs:aq bw) (x:Tk):Prop:=vs=[cW dr x.id,cW .u8 x.is]
def mR (w:aj) (vs:aq bw) (x:Sw):Prop:=vs=[cW dr x.id,cW dr x.lie,cW dr x.call]
def mS (w:aj) (vs:aq bw) (x:Lk):Prop:=vs=[cW dr x.id,cW .u8 x.ph,cW dr x.gone,cW dr x.left]
def vH (w:aj) (v:bw) (l:aq Jn):Prop:=Sl w 2 fI v l
def cU (w:aj) (vs:aq bw) (x:aF):Prop:= ∃e,vs=[cW dr x.id,cW dr x.pt,e]/\vH w e x.ends
def rf (w:aj) (v:bw) (l:aq aF):Prop:=Sl w 3 cU v l
def Pts (w:aj) (v:bw) (l:aq Pt):Prop:=Sl w 2 iA v l
def Sgs (w:aj) (v:bw) (l:aq Sg):Prop:=Sl w 3 gZ v l
def Fls (w:aj) (v:bw) (l:aq Fl):Prop:=Sl w 2 lZ v l
def zL (w:aj) (v:bw) (l:aq dV):Prop:=Sl w 3 qH v l
def Tks (w:aj) (v:bw) (l:aq Tk):Prop:=Sl w 2 nX v l
def Sws (w:aj) (v:bw) (l:aq Sw):Prop:=Sl w 3 mR v l
def Lks (w:aj) (v:bw) (l:aq Lk):Prop:=Sl w 4 mS v l
structure dY (w:aj) (p o f:bw) (x:Rt):Prop where
 A:eP w p x.A
 O:eP w o x.O
 fl:Fls w f x.fl
def fH (w:aj) (vs:aq bw) (x:Rt):Prop:= ∃p o f,vs=[cW dr x.id,cW dr x.E,cW dr x.X,p,o,f,cW dr x.T]/\dY w p o f x
def Rts (w:aj) (v:bw) (l:aq Rt):Prop:=Sl w 7 fH v l
def lB:nQ fI:=fun _ _ _ _ _ h=>h
def lT:nQ iA:=fun _ _ _ _ _ h=>h
def lA:nQ gZ:=fun _ _ _ _ _ h=>h
def zJ:nQ lZ:=fun _ _ _ _ _ h=>h
def DX:nQ qH:=fun _ _ _ _ _ h=>h
def rU:nQ nX:=fun _ _ _ _ _ h=>h
def qG:nQ mR:=fun _ _ _ _ _ h=>h
def qF:nQ mS:=fun _ _ _ _ _ h=>h
def gN:nQ cU:=fun _ _ _ _ H ⟨e,h1,h2⟩=>⟨e,h1,h2.below lB H⟩
def dY.below {w:aj}{p o f:bw}{x:Rt}(h:dY w p o f x) (H:jb w w'):dY w' p o f x:=⟨h.A.below H,h.O.below H,h.fl.below zJ H⟩
def lS:nQ fH:=fun _ _ _ _ H ⟨p,o,f,h1,h2⟩=>⟨p,o,f,h1,h2.below H⟩
structure bN (w:aj) (s p g r:bw) (x:Pl):Prop where
 S:rf w s x.S
 P:Pts w p x.P
 G:Sgs w g x.G
 R:Rts w r x.R
def bN.below {w:aj}{s p g r:bw}{x:Pl}(h:bN w s p g r x) (H:jb w w'):bN w' s p g r x:=
 ⟨h.S.below gN H,h.P.below lT H,h.G.below lA H,h.R.below lS H⟩
def aT (x:Pl) (s p g r:bw):bw:=cZ #[x.ver,x.par,s,p,g,r]
structure fU (w:aj) (t s l:bw) (x:St):Prop where
 tks:Tks w t x.tks
 sws:Sws w s x.sws
 lks:Lks w l x.lks
def fU.below {w:aj}{t s l:bw}{x:St}(h:fU w t s l x) (H:jb w w'):fU w' t s l x:=
 ⟨h.tks.below rU H,h.sws.below qG H,h.lks.below qF H⟩
section
variable {w:aj}{a:ax bR}{cap:av}
def aB.jn {l:aq Jn}(h:aB w 2 fI a cap l){i:av}(c:i<l.length): ∃b off,a=bt ⟨b,off,bn⟩/\jc w b (off+i * 2) l[i].tt/\jc w b (off+i * 2+1) l[i].en:=by
 obtain⟨b,off,V,e,hl,H,rfl⟩:=h.at_ i c;exact⟨b,off,e,H 0 ee,H 1 ee⟩
def aB.pt {l:aq Pt}(h:aB w 2 iA a cap l){i:av}(c:i<l.length): ∃b off,a=bt ⟨b,off,bn⟩/\jc w b (off+i * 2) l[i].id/\jc w b (off+i * 2+1) l[i].sec:=by
 obtain⟨b,off,V,e,hl,H,rfl⟩:=h.at_ i c;exact⟨b,off,e,H 0 ee,H 1 ee⟩
def aB.fl {l:aq Fl}(h:aB w 2 lZ a cap l){i:av}(c:i<l.length): ∃b off,a=bt ⟨b,off,bn⟩/\jc w b (off+i * 2) l[i].pt/\jc w b (off+i * 2+1) l[i].lie:=by
 obtain⟨b,off,V,e,hl,H,rfl⟩:=h.at_ i c;exact⟨b,off,e,H 0 ee,H 1 ee⟩
def aB.sg {l:aq Sg}(h:aB w 3 gZ a cap l){i:av}(c:i<l.length): ∃b off,a=bt ⟨b,off,bn⟩/\jc w b (off+i * 3) l[i].id/\jc w b (off+i * 3+1) l[i].sec/\jc w b (off+i * 3+2) l[i].en:=by
 obtain⟨b,off,V,e,hl,H,rfl⟩:=h.at_ i c;exact⟨b,off,e,H 0 ee,H 1 ee,H 2 ee⟩
def aB.ask {l:aq dV}(h:aB w 3 qH a cap l){i:av}(c:i<l.length): ∃b off,a=bt ⟨b,off,bn⟩/\jc w b (off+i * 3) l[i].pt/\jc w b (off+i * 3+1) l[i].lie/\jc w b (off+i * 3+2) l[i].pl:=by
 obtain⟨b,off,V,e,hl,H,rfl⟩:=h.at_ i c;exact⟨b,off,e,H 0 ee,H 1 ee,H 2 ee⟩
def aB.tk {l:aq Tk}(h:aB w 2 nX a cap l){i:av}(c:i<l.length): ∃b off,a=bt ⟨b,off,bn⟩/\jc w b (off+i * 2) l[i].id/\jc w b (off+i * 2+1) (cW .u8 l[i].is):=by
 obtain⟨b,off,V,e,hl,H,rfl⟩:=h.at_ i c;exact⟨b,off,e,H 0 ee,H 1 ee⟩
def aB.sw {l:aq Sw}(h:aB w 3 mR a cap l){i:av}(c:i<l.length): ∃b off,a=bt ⟨b,off,bn⟩/\jc w b (off+i * 3) l[i].id/\jc w b (off+i * 3+1) l[i].lie/\jc w b (off+i * 3+2) l[i].call:=by
 obtain⟨b,off,V,e,hl,H,rfl⟩:=h.at_ i c;exact⟨b,off,e,H 0 ee,H 1 ee,H 2 ee⟩
def aB.lk {l:aq Lk}(h:aB w 4 mS a cap l){i:av}(c:i<l.length): ∃b off,a=bt ⟨b,off,bn⟩/\jc w b (off+i * 4) l[i].id/\jc w b (off+i * 4+1) (cW .u8 l[i].ph)/\jc w b (off+i * 4+2) l[i].gone/\jc w b (off+i * 4+3) l[i].left:=by
 obtain⟨b,off,V,e,hl,H,rfl⟩:=h.at_ i c;exact⟨b,off,e,H 0 ee,H 1 ee,H 2 ee,H 3 ee⟩
def aB.sec {l:aq aF}(h:aB w 3 cU a cap l){i:av}(d:i<l.length): ∃b off A c,a=bt ⟨b,off,bn⟩/\jc w b (off+i * 3) l[i].id/\jc w b (off+i * 3+1) l[i].pt/\jc w b (off+i * 3+2) (js A l[i].ends.length c)/\aB w 2 fI A c l[i].ends:=by
 obtain⟨b,off,V,e,hl,H,x,rfl,A,c,rfl,hx⟩:=h.at_ i d;exact⟨b,off,A,c,e,H 0 ee,H 1 ee,H 2 ee,hx⟩
def aB.rt {l:aq Rt}(h:aB w 7 fH a cap l){i:av}(c:i<l.length): ∃b off p o f,a=bt ⟨b,off,bn⟩/\jc w b (off+i * 7) l[i].id/\jc w b (off+i * 7+1) l[i].E/\jc w b (off+i * 7+2) l[i].X/\
  jc w b (off+i * 7+3) p/\jc w b (off+i * 7+4) o/\jc w b (off+i * 7+5) f/\jc w b (off+i * 7+6) l[i].T/\dY w p o f l[i]:=by
 obtain⟨b,off,V,e,hl,H,p,o,f,rfl,hx⟩:=h.at_ i c;exact⟨b,off,p,o,f,e,H 0 ee,H 1 ee,H 2 ee,H 3 ee,H 4 ee,H 5 ee,H 6 ee,hx⟩
end
def eD (w w':aj):Prop:= ∀a v,w.cell? a=bt v->w'.cell? a=bt v
def eD.trans {a b c:aj}(h:eD a b) (k:eD b c):eD a c:=fun p v e=>k p v (h p v e)
def eD.of_below {w:aj}(H:jb w w'):eD w w':=fun a v h=>(H.cell (Mt h)).trans h
def aY {α:Type}(R:aj->aq bw->α->Prop):Prop:= ∀w w' vs x,eD w w'->R w vs x->R w' vs x
def aY.keeps {α:Type}{R:aj->aq bw->α->Prop}(h:aY R):nQ R:=fun w w' V x H b=>h w w' V x (eD.of_below H) b
def aB.ext {α:Type}{w:aj}{sz:av}{R:aj->aq bw->α->Prop}{a:ax bR}{l:aq α}(H:aY R) (h:aB w sz R a cap l) (he:eD w w'):aB w' sz R a cap l:=
 ⟨h.le,h.nil,fun i c=>by
  obtain⟨b,off,V,e,hl,d,f⟩:=h.at_ i c
  exact⟨b,off,V,e,hl,fun j hj=>he _ _ (d j hj),H _ _ _ _ he f⟩⟩
def Sl.ext {α:Type}{w:aj}{sz:av}{R:aj->aq bw->α->Prop}{v:bw}{l:aq α}(H:aY R) (h:Sl w sz R v l) (he:eD w w'):Sl w' sz R v l:=by
 obtain⟨a,cap,e,h⟩:=h;exact⟨a,cap,e,h.ext H he⟩
def IL.ext {w:aj}{a:ax bR}{len:av}{l:aq ar}(h:IL w a len l) (he:eD w w'):IL w' a len l:=
 ⟨h.len,fun i H=>by
  obtain⟨b,off,e,c⟩:=h.cell i H
  exact⟨b,off,e,he _ _ c⟩⟩
def eP.ext {w:aj}{v:bw}{l:aq ar}(h:eP w v l) (he:eD w w'):eP w' v l:=by
 obtain⟨a,n,c,e,hl⟩:=h;exact⟨a,n,c,e,hl.ext he⟩
def DW:aY fI:=fun _ _ _ _ _ h=>h
def XK:aY qH:=fun _ _ _ _ _ h=>h
def DJ (M:bT->aU):Obj->Obj
 | .cells c t fr=>if M t then cO #[] t fr else cO c t fr
 | o=>o
def jQ (M:bT->aU) (w:aj):aj:={w with heap:=w.heap.map (DJ M)}
def zI {M:bT->aU}{w:aj}{c:aL bw}{t:bT}(h:w.heap[k]? =bt (cO c t fr)) (H:M t=aW):(jQ M w).heap[k]? =bt (cO c t fr):=by
 simp[jQ,h,DJ,H]
def KL {M:bT->aU}{w:aj}{a:bR}{v:bw}(h:(jQ M w).cell? a=bt v): ∃c t fr,w.heap[a.block]? =bt (cO c t fr)/\M t=aW:=by
 unfold aj.cell? at h;simp only[jQ,aL.getElem?_map]at h;cases ho:w.heap[a.block]? with
 | none=>rw[ho]at h;simp at h
 | some o=>
  rw[ho]at h;cases o with
  | cells c t fr=>
   refine⟨c,t,fr,rfl,?_⟩;cases hm:M t with
   | false=>rfl
   | true=>simp[DJ,hm]at h
  | _=>simp[DJ]at h
def re {M:bT->aU}{w:aj}{a:bR}{v:bw}(h:(jQ M w).cell? a=bt v) (H: ∀c t fr,w.heap[a.block]? =bt (cO c t fr)->M t=aW->w'.heap[a.block]? =bt (cO c t fr)):(jQ M w').cell? a=bt v:=by
 obtain⟨c,t,fr,h1,h2⟩:=KL h;rw[Pj (w:=jQ M w)]
 ·exact h
 rw[zI h1 h2,zI (H c t fr h1 h2) h2]
def DI (M:bT->aU) (w:aj):eD (jQ M w) w:=fun a v h=>by
 obtain⟨c,t,fr,h1,h2⟩:=KL h;rw[Pj (w:=jQ M w)]
 ·exact h
 rw[zI h1 h2,h1]
def dS (M:bT->aU) (w w':aj):Prop:= ∀(k:av) (c:aL bw) (t:bT) (fr:av × av),w.heap[k]? =bt (cO c t fr)->M t=aW->w'.heap[k]? =bt (cO c t fr)
def dS.ext {M:bT->aU}{w:aj}(h:dS M w w'):eD (jQ M w) (jQ M w'):=fun a v e=>re e fun c t fr h1 h2=>h _ c t fr h1 h2
def aD {w:aj}{o:Obj}(h:w.heap[k]? =bt o):k<w.heap.size:=by
 rcases Pw k w with q | q
 ·exact q
 rw[Pc q]at h;cases h
def dS.of_below {M:bT->aU}{w:aj}(H:jb w w'):dS M w w':=fun k c t fr h _=>(H.block k (aD h)).trans h
def dS.trans {M:bT->aU}{a b c:aj}(h:dS M a b) (k:dS M b c):dS M a c:=fun i x t fr e m=>k i x t fr (h i x t fr e m) m
def oB (g j:av):(⟨g,0,bn⟩:bR).add j=⟨g,j,bn⟩:=by unfold bR.add;split<;>simp_all
def fD {w:aj}{base:av}{e:bT}{sz:av}{v:bw}{n:av}(h:w.ownsRow base e sz v n xs)(H:v.ownBlock=bt k): ∃c,jk w k c e/\base<=k:=by
 rcases h.2 with⟨rfl,_⟩ | ⟨g,cap,cur,rfl,b,d,_⟩
 ·simp[bw.ownBlock]at H
 simp[bw.ownBlock]at H;subst H;exact⟨cur,d,b⟩
def rT {w:aj}{b1 b2:av}{e1 e2:bT}{s1:av}{v1:bw}{n1 n2:av}{x1 x2:aq bw}(h1:w.ownsRow b1 e1 s1 v1 n1 x1) (h2:w.ownsRow b2 e2 s2 v2 n2 x2) (H:e1≠e2):v1.ownBlock=bn\/v1.ownBlock≠v2.ownBlock:=by
 cases hv:v1.ownBlock with
 | none=>exact .inl rfl
 | some k=>
  right;intro e;obtain⟨c1,q1,-⟩:=fD h1 hv;obtain⟨c2,q,-⟩:=fD h2 e.symm;rw[q1]at q
  injection q with q
  injection q with _ q
  exact H q
def bU {w:aj}{base:av}{e:bT}{sz:av}{v:bw}{n:av}(h:w.ownsRow base e sz v n xs) (c:jb w w'):w'.ownsRow base e sz v n xs:=by
 refine⟨h.1,?_⟩;rcases h.2 with d | ⟨g,cap,cur,rfl,b,H,rest⟩
 ·exact .inl d
 exact .inr ⟨g,cap,cur,rfl,b,(c.block g (aD H)).trans H,rest⟩
def zH {M:bT->aU}{w:aj}{base:av}{e:bT}{sz:av}{v:bw}{n:av}(h:w.ownsRow base e sz v n xs) (he:M e=aW):(jQ M w).ownsRow base e sz v n xs:=by
 refine⟨h.1,?_⟩;rcases h.2 with c | ⟨g,cap,cur,rfl,H,b,rest⟩
 ·exact .inl c
 exact .inr ⟨g,cap,cur,rfl,H,zI b he,rest⟩
def bW {w:aj}{base base':av}{e:bT}{sz:av}{v:bw}{n:av}(h:w.ownsRow base e sz v n xs) (b:base'<=base):w.ownsRow base' e sz v n xs:=by
 refine⟨h.1,?_⟩;rcases h.2 with c | ⟨g,cap,cur,rfl,H,rest⟩
 ·exact .inl c
 exact .inr ⟨g,cap,cur,rfl,Nj b H,rest⟩
def aV {w:aj}{base:av}{e:bT}{sz:av}{v:bw}{n:av}(h:w.ownsRow base e sz v n xs){a:bR}(d:a.block<base) (u:bw):(w.setCell a u).ownsRow base e sz v n xs:=by
 refine⟨h.1,?_⟩;rcases h.2 with c | ⟨g,cap,cur,rfl,H,b,rest⟩
 ·exact .inl c
 exact .inr ⟨g,cap,cur,rfl,H,(Ny w a u g ed).trans b,rest⟩
def uT {M:bT->aU}{w:aj}{base:av}{e:bT}{sz:av}{v:bw}{n:av}(h:w.ownsRow base e sz v n xs) (he:M e=bl) (d:w.grownBy w' v.ownBlock):dS M w w':=fun k c t fr H b=>by
 refine(d.block k (aD H) fun E=> ?_).trans H;obtain⟨C,q,-⟩:=fD h E.symm;rw[H]at q
 injection q with q
 injection q with _ q
 subst q;rw[he]at b;cases b
def dT {w:aj}{base B:av}{e:bT}{sz:av}{v:bw}{n:av}(h:w.ownsRow base e sz v n xs) (b:B<=base) (H:B<=w.heap.size) (c:w.grownBy w' v.ownBlock):cB B w w':=
 (Nb B w).grown c H fun k d=>Nj b (h.lt k d).1
def rB {α:Type}(f:α->aq bw) (sz:av): ∀(l:aq α) (i j:av) (hi:i<l.length),(∀x∈l,(f x).length=sz)->j<sz->(l.flatMap f)[i * sz+j]? =(f l[i])[j]?
 | [],i,j,hi,_,_=>by simp at hi
 | x::l,0,j,_,hs,hj=>by
  rw[Sb,av.zero_mul,Pa,Pd (by rw[hs x Dq];exact hj)];rfl
 | x::l,i+1,j,hi,hs,hj=>by
  have hx:=hs x Dq;rw[Sb,Fg (by rw[hx,Ft];omega),hx];have e:(i+1) * sz+j-sz=i * sz+j:=by rw[Ft];omega
  rw[e,rB f sz l i j Og (fun y H=>hs y (Dy _ H)) hj];rfl
def pC {α:Type}(f:α->aq bw) (sz:av): ∀(l:aq α),(∀x∈l,(f x).length=sz)->(l.flatMap f).length=l.length * sz
 | [],_=>ee
 | x::l,hs=>by
  rw[Sb,Mx,hs x Dq,pC f sz l (fun y H=>hs y (Dy _ H)),Du,Ft];omega
def kK {α:Type}{w:aj}{base:av}{e:bT}{sz:av}{v:bw}{l:aq α}{f:α->aq bw}{R:aj->aq bw->α->Prop}(h:w.ownsRow base e sz v l (l.flatMap f)) (b: ∀x∈l,(f x).length=sz) (d: ∀i (H:i<l.length),R w (f l[i]) l[i]):Sl w sz R v l:=by
 rcases h.2 with⟨rfl,h0⟩ | ⟨g,cap,cur,rfl,k,n,o,p,q,r⟩
 ·have hn:=Dm h0;exact XW
 refine⟨bt ⟨g,0,bn⟩,cap,rfl,o,(fun h=>nomatch h),fun i H=>⟨g,0,f l[i],rfl,b _ (Nn H),fun j hj=> ?_,d i H⟩⟩;have c:j<sz:=by rw[<-b _ (Nn H)];exact hj
 have h1:(l.flatMap f)[i * sz+j]? =bt (f l[i])[j]:=by
  rw[rB f sz l i j H b c,Nf hj]
 have h2:=h.cells (g:=g) rfl (i * sz+j) _ h1;rw[oB]at h2;exact jj
def DH {w:aj}{base:av}{e:bT}{v:bw}{l:aq ar}(h:w.ownsRow base e 1 v l (l.map (cW dr))):eP w v l:=by
 rcases h.2 with⟨rfl,h0⟩ | ⟨g,cap,cur,rfl,H,b,d,f,j,k⟩
 ·have c:=Dm h0;subst c;exact⟨bn,0,0,rfl,rfl,fun i hz=>by simp at hz⟩
 refine⟨bt ⟨g,0,bn⟩,l.length,cap,rfl,rfl,fun i hz=>⟨g,0,rfl,?_⟩⟩;have h2:=h.cells (g:=g) rfl i ↑l[i] Qh;rw[oB]at h2;exact jj
def pP (x:dV):aq bw:=[jV x.pt,jV x.lie,jV x.pl]
def nG (x:Jn):aq bw:=[jV x.tt,jV x.en]
def aG (w:aj) (base:av) (v:bw) (l:aq dV):Prop:=w.ownsRow base 281 3 v l (l.flatMap pP)
def fA (w:aj) (base:av) (v:bw) (l:aq Jn):Prop:=w.ownsRow base 133 2 v l (l.flatMap nG)
def aG.sl {w:aj}{base:av}{v:bw}{l:aq dV}(h:aG w base v l):zL w v l:=kK (f:=pP) h (fun _ _=>rfl) fun _ _=>rfl
def fA.sl {w:aj}{base:av}{v:bw}{l:aq Jn}(h:fA w base v l):vH w v l:=kK (f:=nG) h (fun _ _=>rfl) fun _ _=>rfl
def aG.nil (w:aj) (base:av):aG w base (jN) []:=Nw w base 281 3
def fA.nil (w:aj) (base:av):fA w base (jN) []:=Nw w base 133 2
structure cR {α:Type}(M:bT->aU) (w:aj) (base:av) (T:bT) (sz:av) (R:aj->aq bw->α->Prop) (v:bw) (l:aq α) (xss:aq (aq bw)):Prop where
 own:w.ownsRow base T sz v xss (xss.flatMap id)
 len:xss.length=l.length
 sz: ∀x∈xss,x.length=sz
 rd: ∀i (h:i<xss.length) (h':i<l.length),R (jQ M w) xss[i] l[i]
section
variable {α:Type}{M:bT->aU}{w w':aj}{base:av}{T:bT}{sz:av}{R:aj->aq bw->α->Prop}{v:bw}{l:aq α}{xss:aq (aq bw)}
def cR.nil:cR M w base T sz R (jN) ([]:aq α) []:=⟨Nw w base T sz,rfl,fun x h=>by simp at h,fun i h=>by simp at h⟩
def cR.below (h:cR M w base T sz R v l xss) (b:aY R) (H:jb w w'):cR M w' base T sz R v l xss:=
 ⟨bU h.own H,h.len,h.sz,fun i h1 h2=>b _ _ _ _ (dS.of_below H).ext (h.rd i h1 h2)⟩
def cR.app (h:cR M w base T sz R v l xss) (b:aY R) (d:M T=bl){V:aq bw}{x:α}(HE:V.length=sz) (hx:R (jQ M w) V x){v':bw}(hi:w'.ownsRow base T sz v' (xss.length+1) (xss.flatMap id++V)) (f:w.grownBy w' v.ownBlock):cR M w' base T sz R v' (l++[x]) (xss++[V]):=by
 have c:=(uT h.own d f).ext;refine⟨Og,by simp[h.len],fun y N7=> ?_,fun i h1 h2=> ?_⟩
 ·rcases Tx.1 N7 with N7 | N7
  ·exact h.sz y N7
  rw[Tv]at N7;exact Uf
 by_cases H:i<xss.length
 ·rw[Sp H,Sp (by rw[<-h.len];exact H)];exact b _ _ _ _ c (h.rd i H (by rw[<-h.len];exact H))
 have e:i=xss.length:=Mr;subst e;have e2:(l++[x])[xss.length]=x:=Rx;rw[e2];simp only[Sm ep,Fi,Nu];exact b _ _ _ _ c hx
def cR.other (h:cR M w base T sz R v l xss) (c:aY R){b2:av}{t:bT}{n2:av}{x2:aq bw}(h2:w.ownsRow b2 t s2 v2 n2 x2) (d:M t=bl) (H:T≠t) (b:w.grownBy w' v2.ownBlock):cR M w' base T sz R v l xss:=
 ⟨h.own.kept b (rT h.own h2 H),h.len,h.sz,fun i h1 h3=>c _ _ _ _ (uT h2 d b).ext (h.rd i h1 h3)⟩
def cR.sl (h:cR M w base T sz R v l xss) (b:aY R):Sl w sz R v l:=by
 have hl:=h.len;rcases h.own.2 with⟨rfl,h0⟩ | ⟨g,cap,cur,rfl,c,d,e,f,k,n⟩
 ·have hn:l=[]:=Dm ed;exact XW
 refine⟨bt ⟨g,0,bn⟩,cap,by rw[hl],by rw[<-hl];exact e,(fun h=>nomatch h),fun i H=> ?_⟩;have hi':i<xss.length:=by rw[hl];exact H
 refine⟨g,0,xss[i],rfl,h.sz _ (Nn hi'),fun j hj=> ?_,b _ _ _ _ (DI M w) (h.rd i hi' H)⟩
 have h1:(xss.flatMap id)[i * sz+j]? =bt xss[i][j]:=by
  exact ZX
 have h2:=h.own.cells (g:=g) rfl (i * sz+j) _ h1;rw[oB]at h2;exact jj
end
def nT {W:aj}{ops:aL Oper}{rest:aq Oper}{o:Oper}{a:Act}(c:o.guard=bn) (s x:Operand) (t e T:bT) (z:bw) (size b:av)
  (D:o.op= .call {callee:= .builtin .append,args:=#[s,x],argTypes:=#[t,t]}) (E:prog.underlying t=bt (.slice e)) (d:(prog.info? e).map (fun i=>(i.zero,i.size,i.bytes))=bt (bt z,size,b))
  (f:z.cells.size=size) (k:0<size) (p:b<=1000) (base:av) (v:bw) (n:av) (xs:aq bw) (F:a.eval s=v) (H:W.ownsRow base e size v n xs) (I:n<=1000) (q:base<=W.heap.size)
  (news:aq bw) (hx:a.eval x=cJ (bt ⟨W,0,bn⟩) 1 1) (hl:news.length=size) (h1: ∀u∈news,u.oneCell'=bl)
  (h: ∀(B C:av) w',w'.ownsRow base e size (jq B 0 (n+1) C) (n+1) (xs++news)->(W.alloc (cO news.toArray T)).grownBy w' v.ownBlock->wpList prog ops Q rest (a.put o.dst (jq B 0 (n+1) C)) w'):
  wpList prog ops Q (o::rest) a (W.alloc (cO news.toArray T)):=by
 obtain⟨i0,d,r,y,A⟩:=Se d;refine wpList_append_own_at _ c s x t D base e i0 z size b E d r y A f k v n xs F (H.alloc _) ⟨W,0,bn⟩ 1 1 news hx (by rw[hl,av.one_mul]) ?_ h1 Oq ?_ em ?_
 ·intro j u hj;refine Ro fun _=>?_
  simpa using hj
 ·have:(n+1) * b<=1001 * 1000:=Io ed p
  omega
 intro v' w' h2 h3 _ _;rcases h2.2 with⟨_,h0⟩ | ⟨g,cap,cur,rfl,_⟩
 ·omega
 exact h g cap w' h2 h3
def vL:(prog.info? 281).map (fun i=>(i.zero,i.size,i.bytes))=bt (bt (cZ #[jV 0,jV 0,jV 0]),3,24):=by kernel_rfl
def AB:(prog.info? 133).map (fun i=>(i.zero,i.size,i.bytes))=bt (bt (cZ #[jV 0,jV 0]),2,16):=by kernel_rfl
def tG (a:ax bR) (cap:av) (l:aq aF) (n:ar) (w:aj) (hl:aB w 3 cU a cap l) (f:l.length<=1000):
  jW 255 #[js a l cap,n] w fun e w'=>e=cL (jV (dA (fun x=>ab (x.id=n)) l))/\w=w':=by
 have d:=hI hl;go_in;go_wp2_with fail
 go_loop [5] (fun i=> ∃k:av,k<=l.length/\i= jV k/\ ∀j (h:j<l.length),j<k->ab (l[j].id=n)=aW) (fun i=>l.length-(intOf i).toNat)
 case atStart=>exact⟨0,ed,rfl,fun j h h0=>by omega⟩
 case round=>
  obtain⟨k,g,rfl,H⟩:=hrel;have j9:=hI H;by_cases G9:k<l.length
  ·have hd:=bL G9;obtain⟨b,off,_,_,rfl,o,-⟩:=d.sec G9;have c0:=aQ k;have c1:=aN G9;by_cases he:l[k].id=n
   ·refine Zd fun c HE=>?_;go_wp2_with fail;go_ret;exact Kr
   have c:(l[k].id==n)=aW:=Ui;have HE:=hI (jU he);go_wp2_with fail;go_round
   case rel=>
    refine⟨k+1,ed,ej,fun j h hj=> ?_⟩;by_cases N7:j=k
    ·exact Uf
    exact j9 j h ed
   case measure=>simp[intOf];omega
  obtain rfl:k=l.length:=ed;refine Zj fun HE=>?_;go_wp2_with fail;go_ret;exact Kr
def qz (a:ax bR) (cap:av) (l:aq Pt) (n:ar) (w:aj) (hl:aB w 2 iA a cap l) (f:l.length<=1000):
  jW 257 #[js a l cap,n] w fun e w'=>e=cL (jV (dA (fun x=>ab (x.id=n)) l))/\w=w':=by
 have d:=hI hl;go_in;go_wp2_with fail
 go_loop [5] (fun i=> ∃k:av,k<=l.length/\i= jV k/\ ∀j (h:j<l.length),j<k->ab (l[j].id=n)=aW) (fun i=>l.length-(intOf i).toNat)
 case atStart=>exact⟨0,ed,rfl,fun j h h0=>by omega⟩
 case round=>
  obtain⟨k,g,rfl,H⟩:=hrel;have j9:=hI H;by_cases G9:k<l.length
  ·have hd:=bL G9;obtain⟨b,off,rfl,o,-⟩:=d.pt G9;have c0:=aQ k;have c1:=aN G9;by_cases he:l[k].id=n
   ·refine Zd fun c HE=>?_;go_wp2_with fail;go_ret;exact Kr
   have c:(l[k].id==n)=aW:=Ui;have HE:=hI (jU he);go_wp2_with fail;go_round
   case rel=>
    refine⟨k+1,ed,ej,fun j h hj=> ?_⟩;by_cases N7:j=k
    ·exact Uf
    exact j9 j h ed
   case measure=>simp[intOf];omega
  obtain rfl:k=l.length:=ed;refine Zj fun HE=>?_;go_wp2_with fail;go_ret;exact Kr
def wE (a:ax bR) (cap:av) (l:aq Sg) (n:ar) (w:aj) (hl:aB w 3 gZ a cap l) (f:l.length<=1000):
  jW 311 #[js a l cap,n] w fun e w'=>e=cL (jV (dA (fun x=>ab (x.id=n)) l))/\w=w':=by
 have d:=hI hl;go_in;go_wp2_with fail
 go_loop [5] (fun i=> ∃k:av,k<=l.length/\i= jV k/\ ∀j (h:j<l.length),j<k->ab (l[j].id=n)=aW) (fun i=>l.length-(intOf i).toNat)
 case atStart=>exact⟨0,ed,rfl,fun j h h0=>by omega⟩
 case round=>
  obtain⟨k,g,rfl,H⟩:=hrel;have j9:=hI H;by_cases G9:k<l.length
  ·have hd:=bL G9;obtain⟨b,off,rfl,o,-⟩:=d.sg G9;have c0:=aQ k;have c1:=aN G9;by_cases he:l[k].id=n
   ·refine Zd fun c HE=>?_;go_wp2_with fail;go_ret;exact Kr
   have c:(l[k].id==n)=aW:=Ui;have HE:=hI (jU he);go_wp2_with fail;go_round
   case rel=>
    refine⟨k+1,ed,ej,fun j h hj=> ?_⟩;by_cases N7:j=k
    ·exact Uf
    exact j9 j h ed
   case measure=>simp[intOf];omega
  obtain rfl:k=l.length:=ed;refine Zj fun HE=>?_;go_wp2_with fail;go_ret;exact Kr
def qy (a:ax bR) (cap:av) (l:aq Rt) (n:ar) (w:aj) (hl:aB w 7 fH a cap l) (f:l.length<=1000):
  jW 218 #[js a l cap,n] w fun e w'=>e=cL (jV (dA (fun x=>ab (x.id=n)) l))/\w=w':=by
 have d:=hI hl;go_in;go_wp2_with fail
 go_loop [5] (fun i=> ∃k:av,k<=l.length/\i= jV k/\ ∀j (h:j<l.length),j<k->ab (l[j].id=n)=aW) (fun i=>l.length-(intOf i).toNat)
 case atStart=>exact⟨0,ed,rfl,fun j h h0=>by omega⟩
 case round=>
  obtain⟨k,g,rfl,H⟩:=hrel;have j9:=hI H;by_cases G9:k<l.length
  ·have hd:=bL G9;obtain⟨b,off,_,_,_,rfl,o,-⟩:=d.rt G9;have c0:=aQ k;have c1:=aN G9;by_cases he:l[k].id=n
   ·refine Zd fun c HE=>?_;go_wp2_with fail;go_ret;exact Kr
   have c:(l[k].id==n)=aW:=Ui;have HE:=hI (jU he);go_wp2_with fail;go_round
   case rel=>
    refine⟨k+1,ed,ej,fun j h hj=> ?_⟩;by_cases N7:j=k
    ·exact Uf
    exact j9 j h ed
   case measure=>simp[intOf];omega
  obtain rfl:k=l.length:=ed;refine Zj fun HE=>?_;go_wp2_with fail;go_ret;exact Kr
def AA (a b c d:ar) (w:aj):Sem.run prog (binOp .eql 133 (cZ #[a,b]) (cZ #[c,d])) w= .ok (db (ab (a=c/\b=d))) w:=by
 by_cases h1:a=c
 ·by_cases h2:b=d
  ·simp[go_sem,h1,h2]
  simp[go_sem,h1,h2]
 simp[go_sem,h1]
def XI (a b c d:ar) (w:aj):Sem.run prog (binOp .neq 133 (cZ #[a,b]) (cZ #[c,d])) w= .ok (db (!ab (a=c/\b=d))) w:=by
 by_cases h1:a=c
 ·by_cases h2:b=d
  ·simp[go_sem,h1,h2]
  simp[go_sem,h1,h2]
 simp[go_sem,h1]
def qw (v:bw) (w:aj):Sem.run prog (Instr.typeAssert (.iface 143 v) 20 143 bl) w= .ok (dw #[v,db bl]) w:=by kernel_rfl
def qv (v:bw) (w:aj):Sem.run prog (Instr.typeAssert (.iface 145 v) 20 143 bl) w= .ok (dw #[cZ #[jV 0,jV 0],db aW]) w:=by kernel_rfl
def qu (v:bw) (w:aj):Sem.run prog (Instr.typeAssert (.iface 145 v) 20 145 bl) w= .ok (dw #[v,db bl]) w:=by kernel_rfl
def qt (v:bw) (w:aj):Sem.run prog (Instr.typeAssert (.iface 102 v) 20 143 bl) w= .ok (dw #[cZ #[jV 0,jV 0],db aW]) w:=by kernel_rfl
def oh (v:bw) (w:aj):Sem.run prog (Instr.typeAssert (.iface 102 v) 20 145 bl) w= .ok (dw #[cZ #[jV 0,jV 0,jV 0],db aW]) w:=by kernel_rfl
def og (v:bw) (w:aj):Sem.run prog (Instr.typeAssert (.iface 102 v) 20 102 bl) w= .ok (dw #[v,db bl]) w:=by kernel_rfl
def KJ (id sec:ar) (w:aj):jW 413 #[cZ #[id,sec]] w fun e w'=>e=cL (jV id)/\jb w w':=by
 have h1:=qw;go_in;refine ei ?_;exact⟨rfl,aR.alloc ee _⟩
def KH (id sec en:ar) (w:aj):jW 414 #[cZ #[id,sec,en]] w fun e w'=>e=cL (jV id)/\jb w w':=by
 have h1:=qv;have h2:=qu;go_in;refine ei ?_;exact⟨rfl,aR.alloc ee _⟩
def XH (id E exit t:ar) (a b c:ax bR) (L lb d ca C f:av) (w:aj):jW 372 #[cZ #[id,E,exit,js a L ca,js b lb C,js c d f,t]] w fun e w'=>e=cL (jV id)/\jb w w':=by
 have h1:=qt;have h2:=oh;have h3:=og;go_in;refine ei ?_;exact⟨rfl,aR.alloc ee _⟩
def jY (s:aF) (a:ax bR) (c:av):bw:=cZ #[s.id,s.pt,js a s.ends c]
def wD (n:ar) (w:aj):jW 373 #[n] w fun e W=>e=cL (db (ab (1<=n)&&ab (n<=99)))/\w=W:=by
 go_in;go_wp2
 all_goals
  go_ret;refine⟨aH ?_,rfl⟩;simp<;>omega
def DG (s:aF) (a:ax bR) (c:av) (w:aj):jW 374 #[jY s a c] w fun e W=>e=cL (db (decide s.Shaped))/\jb w W:=by
 have H:bG (s.Shaped↔((s.pt=0/\s.ends.length=2)\/(1<=s.pt/\s.pt<=99/\s.ends.length=3))):=To;unfold jY;generalize s.ends.length=n at *;generalize s.pt=q at *;by_cases h0:q=0
 ·subst h0;by_cases h2:n=2
  ·subst h2;go_in;go_wp2_with (go_at_call 373;refine(wD _ _).mono ?_;rintro e W ⟨rfl,rfl⟩);go_ret;exact⟨aH (by have h:=H.o;simp at h;simp[h]),aR⟩
  have hd:((n:ar)==2)=aW:=Ov;go_in;go_wp2_with (go_at_call 373;refine(wD _ _).mono ?_;rintro e W ⟨rfl,rfl⟩);go_ret;exact⟨aH (by have h:=H.o;simp[h2]at h;simp[h]),aR⟩
 have hd:(q==0)=aW:=by rw[Nd];exact h0
 by_cases h1:1<=q/\q<=99
 ·have e1:(ab (1<=q)&&ab (q<=99))=bl:=(by simp[h1]);by_cases h3:n=3
  ·subst h3;go_in;go_wp2_with (go_at_call 373;refine(wD _ _).mono ?_;rintro e W ⟨rfl,rfl⟩);go_ret;exact⟨aH (by have h:=H.o;simp[h0,h1]at h;simp[h]),aR⟩
  have hd:((n:ar)==3)=aW:=Ov;refine Xd ?_;exact⟨aH (by have h:=H.o;simp[h0,h3]at h;simp[h]),aR⟩
 have e1:(ab (1<=q)&&ab (q<=99))=aW:=by
  cases hh:(ab (1<=q)&&ab (q<=99))with
  | false=>rfl
  | true=>simp at hh;exact cv hh h1
 refine Xd ?_;exact⟨aH (by have h:=H.o;simp[h0]at h;simp[h];intro a b;exact cv ⟨a,b⟩ h1),aR⟩
def oe (s:aF) (a:ax bR) (c:av) (w:aj):jW 309 #[jY s a c] w fun e W=>e=cL (db (decide s.Shaped))/\jb w W:=by
 have H:bG (s.Shaped↔((s.pt=0/\s.ends.length=2)\/(1<=s.pt/\s.pt<=99/\s.ends.length=3))):=To;unfold jY;generalize s.ends.length=n at *;generalize s.pt=q at *;by_cases h0:q=0
 ·subst h0;go_in;go_wp2;go_ret;exact⟨aH (by have h:=H.o;simp at h;rw[Dh];simp[h];try omega),aR⟩
 have hd:(q==0)=aW:=by exact Ua
 go_in;go_wp2
 all_goals
  go_ret;exact⟨aH (by have h:=H.o;simp[h0]at h;rw[Dh];simp[h];try omega),aR⟩
def nP (a b:ar):ar:=if a<b then-1 else if b<a then 1 else 0
def od (n:ar) (w:aj):jW 401 #[n] w fun e W=>e=cL (db aW)/\w=W:=by
 go_in;go_wp2;go_ret;exact⟨aH ee,rfl⟩
def nz (a b:ar) (w:aj):jW 412 #[a,b] w fun e W=>e=cL (jV (nP a b))/\w=W:=by
 have H:bG (nP a b=if a<b then-1 else if b<a then 1 else 0):=rfl;go_in;go_wp2_with (go_at_call 401;refine(od _ _).mono ?_;rintro e W ⟨rfl,rfl⟩)
 all_goals
  go_ret;refine⟨dU ?_,rfl⟩;rw[H.o];split<;>(try split)<;>first | rfl | omega
def KG (s:aF) (a:ax bR) (c:av) (n:ar) (w:aj):jW 411 #[jY s a c,n] w fun e W=>e=cL (jV (nP s.id n))/\jb w W:=by
 unfold jY;go_in;go_wp2_with (go_at_call 412;refine(nz _ _ _).mono ?_;rintro e W ⟨rfl,rfl⟩);go_ret;exact⟨rfl,aR⟩
def wC (l:aq aF):Prop:= ∀i j (hi:i<l.length) (hj:j<l.length),i<j->l[i].id<l[j].id
def KD (l:aq aF) (n:ar) (k:av) (b:aU):Prop:=k<=l.length/\(b=bl-> ∃h:k<l.length,l[k].id=n)/\(b=aW-> ∀j (h:j<l.length),l[j].id≠n)
def XF (l:aq aF) (n:ar) (w:aj) (e:Ending) (w':aj):Prop:= ∃k b,e=cL (dw #[jV ((k:av):ar),db b])/\KD l n k b/\jb w w'
theorem ny (a:ax bR) (cap:av) (l:aq aF) (n:ar) (w:aj) (hl:aB w 3 cU a cap l) (O:l.length<=1000) (I:wC l):
  jW 410 #[js a l cap,n,.func (.func 411) #[] #[]] w (XF l n w):=by
 have G:bG (∀d,jb w d->aB d 3 cU a cap l):=fun d x=>hl.below gN x;have y:=hI I;go_in;go_wp2
 go_loopw [9,10] (fun i j wr=> ∃p q:av,p<=q/\q<=l.length/\i= jV p/\j= jV q/\jb w wr/\(∀m (h:m<l.length),m<p->l[m].id<n)/\(∀m (h:m<l.length),q<=m->n<=l[m].id)) (fun i j _=>(intOf j).toNat-(intOf i).toNat)
 case atStart=>exact⟨0,l.length,ed,ed,rfl,rfl,Nb _ _,fun m h h0=>by omega,fun m h h0=>by omega⟩
 case round=>
  obtain⟨p,q,J,hq,rfl,rfl,x,hb,ho⟩:=hrel;refine Qa fun g r=>?_;have o:=hI x;by_cases s:p<q
  ·have hd:=bL s;obtain⟨m,L⟩: ∃m,(p+q) / 2=m:=⟨_,rfl⟩;have M:((p:ar)+(q:ar)) / 2=(m:ar):=ed;have B:p<=m:=ed;have N:m<q:=ed;have f:m<l.length:=ed;obtain⟨b,off,A,C,rfl,x0,x1,x2,-⟩:=(G _ o).sec f;have c0:=aQ m;have c1:=aN f;by_cases he:l[m].id<n
   ·have HE:=hI he;have hx:nP l[m].id n= -1:=by unfold nP;rw[Np he]
    have u:bG (∀W,jW 411 #[cZ #[l[m].id,l[m].pt,js A l[m].ends.length C],n] W fun e d=>e=cL (jV (-1))/\jb W d):=fun W=>by
     have:=KG l[m] A C n W;exact jv
    go_wp2_with fail;refine(u _).mono ?_;rintro e w1 ⟨rfl,c⟩;have K:=jh o c;go_wp2
    go_roundw
    case rel=>
     refine⟨m+1,q,ed,hq,ej,rfl,K,fun t h v=> ?_,r⟩;by_cases N7:t=m
     ·exact Uf
     have:=y t m h f ed;have:=HE.o;omega
    case measure=>simp[intOf];omega
   have HE:=hI he;have hx:0<=nP l[m].id n:=(by unfold nP;rw[Nm he];split<;>omega);have hz:ab (nP l[m].id n<0)=aW:=em;have u:bG (∀W,jW 411 #[cZ #[l[m].id,l[m].pt,js A l[m].ends.length C],n] W fun e d=>e=cL (jV (nP l[m].id n))/\jb W d):=fun W=>KG l[m] A C n W;generalize nP l[m].id n=z at *;go_wp2_with fail;refine(u _).mono ?_;rintro e w1 ⟨rfl,c⟩;have K:=jh o c;go_wp2
   go_roundw
   case rel=>
    refine⟨p,m,B,ed,rfl,rfl,K,g,fun t h v=> ?_⟩;by_cases N7:t=m
    ·subst N7;have:=HE.o;omega
    have:=y m t f h ed;have:=HE.o;omega
   case measure=>simp[intOf];omega
  obtain rfl:p=q:=ed;have hd:=bZ s;by_cases H:p<l.length
  ·have D:=bL H;obtain⟨b,off,A,C,rfl,x0,x1,x2,-⟩:=(G _ o).sec H;have c0:=aQ p;have c1:=aN H;have u:bG (∀W,jW 411 #[cZ #[l[p].id,l[p].pt,js A l[p].ends.length C],n] W fun e d=>e=cL (jV (nP l[p].id n))/\jb W d):=fun W=>KG l[p] A C n W
   have k:bG (KD l n p (nP l[p].id n==0)):=by
    refine⟨hq,fun h=>⟨H,?_⟩,fun h j hj=> ?_⟩
    ·have h:=Da.1 h;unfold nP at h;split at h
     ·omega
     split at h<;>omega
    have h:=Nd.1 h;have h1:=r p H ep
    have h2:l[p].id≠n:=by
     intro e;apply h;unfold nP;rw[e];simp
    by_cases E:j<p
    ·have:=g j hj E;omega
    by_cases F:j=p
    ·subst F;exact h2
    have:=y p j H hj ed;omega
   generalize nP l[p].id n=z at *;go_wp2_with fail;refine(u _).mono ?_;rintro e w1 ⟨rfl,c⟩;have K:=jh o c;go_wp2
   go_ret2
   exact⟨p,_,rfl,k,K⟩
  have D:=bZ H;have k:bG (KD l n p aW):=⟨hq,fun h=>by simp at h,fun _ j hj=>by have:=g j hj ed;omega⟩;go_wp2
  go_ret2
  exact⟨p,_,rfl,k,o⟩
def nw (a:ax bR) (cap:av) (l:aq aF) (n:ar) (w:aj) (hl:aB w 3 cU a cap l) (H:l.length<=1000) (c:wC l):
  jW 375 #[js a l cap,n] w (XF l n w):=by
 have d:=hI (ny a cap l n w hl H c);go_in;go_wp2_with fail;refine d.mono ?_;refine Ou fun _ k b hb ho=>?_;refine Qa fun f g=>?_;go_wp2
 go_ret2
 exact⟨k,b,rfl,f,g⟩
def nv (a:ax bR) (cap:av) (l:aq aF) (n:ar) (w:aj) (hl:aB w 3 cU a cap l) (H:l.length<=1000):
  jW 255 #[js a l cap,n] w fun e W=>e=cL (jV (dA (fun x=>ab (x.id=n)) l))/\jb w W:=
 (tG a cap l n w hl H).mono fun e W ⟨h1,h2⟩=>⟨h1,by subst h2;exact Nb _ _⟩
def XE {l:aq aF}(b:wC l){s:aF}{e:av}{j:Jn}(H:k<l.length) (a:l[k].id=j.tt) (hz: ¬(j.tt=0/\j.en=0)):
  mU l s e j↔(¬(j.tt=s.id/\j.en=e)/\0<=j.en/\l[k].ends[j.en.toNat]? =bt ⟨s.id,e⟩):=by
 unfold mU;constructor
 ·rintro(h | ⟨h1,t,ht,h2,h3,h4⟩)
  ·exact cv h hz
  obtain⟨i,c,rfl⟩:=No ht
  have:i=k:=by
   rcases Fv i k with h | h | h
   ·have:=b i k c H h;omega
   ·exact h
   have:=b k i H c h;omega
  subst this;exact⟨h1,h3,h4⟩
 rintro⟨h1,h3,h4⟩;exact .inr ⟨h1,l[k],Nn H,a,h3,h4⟩
def me {l:aq aF}{s:aF}{e:av}{j:Jn}(H: ∀i (h:i<l.length),ab (l[i].id=j.tt)=aW) (hz: ¬(j.tt=0/\j.en=0)): ¬mU l s e j:=by
 rintro(h | ⟨h1,t,ht,h2,h3,h4⟩)
 ·exact hz h
 obtain⟨i,a,rfl⟩:=No ht;have:=H i a;simp[h2]at this
def bY (w:aj) (b:aU) (e:Ending) (w':aj):Prop:=e=cL (db b)/\jb w w'
structure nu (l:aq aF) (sid:ar) (e:av) (j:Jn) (b:aU):Prop where
 zero:(j.tt=0/\j.en=0)->b=bl
 none:(∀i (h:i<l.length),ab (l[i].id=j.tt)=aW)-> ¬(j.tt=0/\j.en=0)->b=aW
 at_: ∀k (h:k<l.length),l[k].id=j.tt-> ¬(j.tt=0/\j.en=0)->(b=bl↔(¬(j.tt=sid/\j.en=e)/\0<=j.en/\l[k].ends[j.en.toNat]? =bt ⟨sid,e⟩))
theorem nt (a:ax bR) (cap:av) (l:aq aF) (sid s:ar) (n o2 N C:av) (e:av) (he:e<N) (j:Jn) (B:aU) (w:aj) (hl:aB w 3 cU a cap l) (x0:jc w n (o2+e * 2) j.tt) (A:jc w n (o2+e * 2+1) j.en) (O:l.length<=1000) (ho: ∀i (h:i<l.length),l[i].ends.length<=8796093022208) (P:N<=8796093022208) (hb:nu l sid e j B):
  jW 310 #[js a l cap,cZ #[sid,s,jq n o2 N C],jV (e:ar)] w (bY w B):=by
 have D:bG (∀W,jb w W->aB W 3 cU a cap l):=fun W c=>hl.below gN c;have c0:=aQ e
 have c1:=aN he
 refine Qw fun _=>?_;have y:=hI hb;have p:=hI ho;obtain⟨jt,J⟩:=j;simp only[]at x0 A;have k0:jb w ((w.alloc (cO #[sid,s,jq n o2 N C] 80)).alloc (cO #[jt,J] 133)):=aR.alloc ee _;have K1:=hI k0;by_cases hz:jt=0/\J=0
 ·have HE:=hI (y.zero hz);obtain⟨rfl,rfl⟩:=hz;go_in;go_wp2;go_ret;exact Qu
 have E:=hI hz
 have F:((jt==0)=aW\/((jt==0)=bl/\(J==0)=aW)):=by
  by_cases h0:jt=0
  ·right;exact⟨by rw[Da];exact h0,by rw[Nd];intro h;exact hz ⟨h0,h⟩⟩
  left;exact Ua
 have rest:jW 310 #[js a l cap,cZ #[sid,s,jq n o2 N C],jV (e:ar)] w (bY w B):=by
  rcases F with h1 | ⟨h1,h2⟩
  all_goals
   go_in;go_wp2_with fail;refine(nv a cap l jt _ (D _ K1) O).mono ?_;rintro e0 w1 ⟨rfl,c⟩;have f0:jc w1 w 0 sid:=aP c (by simp);have f1:jc w1 w 1 s:=aP c ee;have f2:jc w1 w 2 (jq n o2 N C):=aP c ee;have g0:jc w1 (w+1) 0 jt:=aP c ee;have g1:jc w1 (w+1) 1 J:=aP c ee;have K6:=hI (jo K1 c);rcases kF (fun x:aF=>ab (x.id=jt)) l with⟨G,I⟩ | ⟨k,G9,G,hi,-⟩
   ·rw[G];have HE:=hI (y.none I E);go_wp2;go_quiet (fail);go_wp2;go_ret;exact Ur
   rw[G];have q:=hI (y.at_ k G9 Og E);obtain⟨b,off,T,L,rfl,X,x1,x2,d⟩:=(D _ K6).sec G9;have r:=hI d;have Q:=p k G9;refine Qb fun _ _=>?_;have d2:ab ((k:ar)<0)=aW:=ee;generalize R:l[k].ends=t at *;by_cases M:J<0
   ·have t1:=jT M;have HE:bG (B=aW):=by show _=_;cases hbb:B with | false=>rfl | true=>have:=q.1 hbb;simp only[]at this;omega
    go_wp2;go_quiet (fail);go_wp2;go_ret;exact Ur
   have t1:=jU M;by_cases u:(t:ar)<=J
   ·have t2:=jT u
    have HE:bG (B=aW):=by
     show _=_;cases hbb:B with
     | false=>rfl
     | true=>
      have:=q.1 hbb;simp only[]at this;rw[Px ed]at this;simp at this
    go_wp2;go_quiet (fail);go_wp2_with fail;go_ret;exact Ur
   have t2:=jU u;obtain⟨m,rfl⟩:=Ds (by omega:0<=J);have f:m<t.length:=ed;by_cases z:jt=sid/\(m:ar)=e
   ·have HE:bG (B=aW):=by show _=_;cases hbb:B with | false=>rfl | true=>have:=q.1 hbb;simp only[]at this;exact cv z this.1
    obtain⟨rfl,v⟩:=z;have t3:((m:ar)==(e:ar))=bl:=(by rw[Da];exact v);clear v;go_wp2_with fail;go_quiet (fail);go_wp2;go_ret;exact Ur
   obtain⟨o,o3,rfl,y0,y1⟩:=r.jn f
   have HE:bG (B=bl↔(t[m].tt=sid/\t[m].en=(e:ar))):=by
    show _↔_;rw[q.o];simp only[Sc,Nf f,Ic];constructor
    ·rintro⟨-,-,h⟩;rw[h];exact⟨rfl,rfl⟩
    rintro⟨h1,h2⟩;refine⟨z,ed,?_⟩;cases hx:t[m]with
    | mk t0 t1=>rw[hx]at h1 h2;simp only[]at h1 h2;rw[h1,h2]
   have m0:=aQ m;have m1:=aN f
   have g:((jt==sid)=aW\/((jt==sid)=bl/\((m:ar)==(e:ar))=aW)):=by
    by_cases h0:jt=sid
    ·right;exact⟨by rw[Da];exact h0,by rw[Nd];intro h;exact z ⟨h0,h⟩⟩
    left;exact Ua
   generalize t[m].tt=z0 at *;generalize t[m].en=z1 at *;rcases g with q1 | ⟨q1,q2⟩
   all_goals
    go_wp2;go_quiet (fail);go_wp2;obtain⟨w2,H⟩: ∃w2,w2=w1.drewN nq:=⟨_,rfl⟩;have X2:jc w2 b (off+k * 3+2) (jq o o3 t L):=(by rw[H];exact x2);have G1:jc w2 (w+1) 1 (jV (m:ar)):=(by rw[H];exact g1);have Y0:jc w2 o (o3+m * 2) z0:=(by rw[H];exact y0);have Y1:jc w2 o (o3+m * 2+1) z1:=(by rw[H];exact y1);have F0:jc w2 w 0 sid:=(by rw[H];exact f0);rw[<-H];have K2:bG (jb w w2):=(by show cB _ _ _;rw[H];exact jP K6 _);have n1:=Hm w2 _ X2;have n2:=Hm w2 _ Y0;have n3:=Hm w2 _ Y1;have n4:=Hm w2 _ G1;have n5:=Hm w2 _ F0;have l5:w.heap.size<w2.heap.size:=Mt F0;clear H X x1 x2 y0 y1 g0 g1 f0 f1 f2 D r y p E q
    go_region_held3 (fun W=>jc W b (off+k * 3+2) (jq o o3 t L)/\jc W (w+1) 1 (jV (m:ar))/\jc W o (o3+m * 2) z0/\jc W o (o3+m * 2+1) z1) (go_keep) (fail)
    go_wp2
    all_goals
     go_ret;refine⟨aH ?_,?_⟩
     ·have h:=HE.o;rw[Dh,h];simp
      try omega
     exact(K2.drew).alloc (Nj K2.size ep) _
 exact rest
def nr (a:ax bR) (cap:av) (l:aq aF) (s:aF) (a2:ax bR) (c:av) (e:av) (he:e<s.ends.length) (w:aj) (hl:aB w 3 cU a cap l) (g:aB w 2 fI a2 c s.ends) (j:l.length<=1000) (H: ∀i (h:i<l.length),l[i].ends.length<=8796093022208) (b:s.ends.length<=8796093022208) (n:wC l):
  jW 310 #[js a l cap,jY s a2 c,jV (e:ar)] w (bY w (ab (mU l s e s.ends[e]))):=by
 obtain⟨b2,o2,rfl,d,f⟩:=g.jn he;refine nt a cap l s.id s.pt b2 o2 s.ends c e he s.ends[e] _ w hl d f j H b ⟨fun h=>Ni (.inl h),fun h1 h2=>Mw (me h1 h2),fun k o h1 h2=> ?_⟩;rw[Dj];exact XE n o h1 h2
def mD (m:FuncId):Prop:= ∀(args:aL bw) (w:aj),Sem.run prog (callFunc m args) w= .ok (.enter m args) w
def np {α:Type}(p:α->aU) (l:aq α):ab (0<=dA p l)=l.any p:=by
 rcases kF p l with⟨h1,h2⟩ | ⟨k,H,h1,h2,-⟩
 ·rw[h1]
  symm
  rw[show ab ((0:ar)<= -1)=aW from rfl,Gc];intro x hx;obtain⟨i,a,rfl⟩:=No hx;simp[h2 i a]
 rw[h1]
 symm
 rw[show ab ((0:ar)<=(k:ar))=bl by simp,Tg];exact⟨l[k],Nn H,h2⟩
def zZ (m:FuncId) (caps:aL bw) (pr:Pt->aU) (l:aq Pt) (w:aj):Prop:=
 ∀W i (h:i<l.length),jb w W->jW m (#[cZ #[l[i].id,l[i].sec]]++caps) W fun e w'=>e=cL (db (pr l[i]))/\jb W w'
def JZ (m:FuncId) (c:aL bw) (pr:Pt->aU) (a:ax bR) (cap:av) (l:aq Pt) (w:aj) (hl:aB w 2 iA a cap l) (s:l.length<=1000) (hf:mD m) (f:zZ m c pr l w):
  jW 207 #[js a l cap,.func (.func m) #[] c] w fun e W=>e=cL (jV (dA pr l))/\jb w W:=by
 have q:bG (∀W,jb w W->aB W 2 iA a cap l):=fun W hb=>hl.below lT hb;refine Zg fun _=>?_;have o:=hI f;clear hl f hf;go_in;go_wp2_with fail;go_loopg [8] l.length (fun g i wr=> ∃k:av,k<=l.length/\g=l.length-k/\i= jV k/\jb w wr/\ ∀j (h:j<l.length),j<k->pr l[j]=aW)
 ·exact⟨0,ed,ed,rfl,Nb _ _,fun j h h0=>by omega⟩
 obtain⟨k,t,rfl,rfl,hb,ho⟩:=hrel;refine Qa fun n d=>?_;clear hb ho;by_cases G9:k<l.length
 ·have hd:=bL G9;obtain⟨b,off,rfl,x0,x1⟩:=(q _ n).pt G9;refine Qb fun _ _=>?_;have A7:=hI (o wr k G9 n);cases hp:pr l[k]with
  | true=>
   have HE:=hI (tK G9 hp d);rw[hp]at A7;clear hp;go_wp2_with fail;refine A7.mono ?_;rintro e0 w1 ⟨rfl,H⟩;have K1:=jh n H;clear H A7;refine ei ?_;exact Uk
  | false=>
   have HE:bG (∀j (h:j<l.length),j<k+1->pr l[j]=aW):=fun j h hj=>by
    by_cases p:j=k
    ·subst p;exact hp
    exact d j h ed
   rw[hp]at A7;clear hp;go_wp2_with fail;refine A7.mono ?_;rintro e0 w1 ⟨rfl,H⟩;have K1:=jh n H;clear H A7;go_wp2_with fail;go_roundg (l.length-(k+1))
   ·go_light;exact⟨k+1,ed,ed,ej,K1,HE⟩
   go_light;omega
 obtain rfl:k=l.length:=ed;have HE:=hI (tJ fun j hj=>d j hj hj);refine ei ?_;exact⟨dU HE.symm,n⟩
def nl (m:FuncId) (c:aL bw) (pr:Pt->aU) (a:ax bR) (cap:av) (l:aq Pt) (w:aj) (hl:aB w 2 iA a cap l) (d:l.length<=1000) (f:mD m) (H:zZ m c pr l w):
  jW 118 #[js a l cap,.func (.func m) #[] c] w fun e W=>e=cL (db (l.any pr))/\jb w W:=by
 have A7:=hI (JZ m c pr a cap l w hl d f H);have g:=hI (np pr l);clear hl H;go_in;go_wp2_with fail;refine A7.mono ?_;rintro e w1 ⟨rfl,b⟩;have i:=hI b;clear b;generalize dA pr l=x at *;refine ei ?_;exact⟨aH g,i⟩
def JY (m:FuncId) (caps:aL bw) (pr:Sg->aU) (l:aq Sg) (w:aj):Prop:=
 ∀W i (h:i<l.length),jb w W->jW m (#[cZ #[l[i].id,l[i].sec,l[i].en]]++caps) W fun e w'=>e=cL (db (pr l[i]))/\jb W w'
def mb (m:FuncId) (c:aL bw) (pr:Sg->aU) (a:ax bR) (cap:av) (l:aq Sg) (w:aj) (hl:aB w 3 gZ a cap l) (s:l.length<=1000) (hf:mD m) (f:JY m c pr l w):
  jW 415 #[js a l cap,.func (.func m) #[] c] w fun e W=>e=cL (jV (dA pr l))/\jb w W:=by
 have q:bG (∀W,jb w W->aB W 3 gZ a cap l):=fun W hb=>hl.below lA hb;refine Zg fun _=>?_;have o:=hI f;clear hl f hf;go_in;go_wp2_with fail;go_loopg [8] l.length (fun g i wr=> ∃k:av,k<=l.length/\g=l.length-k/\i= jV k/\jb w wr/\ ∀j (h:j<l.length),j<k->pr l[j]=aW)
 ·exact⟨0,ed,ed,rfl,Nb _ _,fun j h h0=>by omega⟩
 obtain⟨k,t,rfl,rfl,hb,ho⟩:=hrel;refine Qa fun n d=>?_;clear hb ho;by_cases G9:k<l.length
 ·have hd:=bL G9;obtain⟨b,off,rfl,x0,x1,x2⟩:=(q _ n).sg G9;refine Qb fun _ _=>?_;have A7:=hI (o wr k G9 n);cases hp:pr l[k]with
  | true=>
   have HE:=hI (tK G9 hp d);rw[hp]at A7;clear hp;go_wp2_with fail;refine A7.mono ?_;rintro e0 w1 ⟨rfl,H⟩;have K1:=jh n H;clear H A7;refine ei ?_;exact Uk
  | false=>
   have HE:bG (∀j (h:j<l.length),j<k+1->pr l[j]=aW):=fun j h hj=>by
    by_cases p:j=k
    ·subst p;exact hp
    exact d j h ed
   rw[hp]at A7;clear hp;go_wp2_with fail;refine A7.mono ?_;rintro e0 w1 ⟨rfl,H⟩;have K1:=jh n H;clear H A7;go_wp2_with fail;go_roundg (l.length-(k+1))
   ·go_light;exact⟨k+1,ed,ed,ej,K1,HE⟩
   go_light;omega
 obtain rfl:k=l.length:=ed;have HE:=hI (tJ fun j hj=>d j hj hj);refine ei ?_;exact⟨dU HE.symm,n⟩
def DF (m:FuncId) (caps:aL bw) (pr:aF->aU) (l:aq aF) (w:aj):Prop:=
 ∀W i (h:i<l.length),jb w W-> ∀a' c',aB W 2 fI a' c' l[i].ends->jW m (#[cZ #[l[i].id,l[i].pt,js a' l[i].ends.length c']]++caps) W fun e w'=>e=cL (db (pr l[i]))/\jb W w'
def JX (m:FuncId) (c:aL bw) (pr:aF->aU) (a:ax bR) (cap:av) (l:aq aF) (w:aj) (hl:aB w 3 cU a cap l) (t:l.length<=1000) (hf:mD m) (f:DF m c pr l w):
  jW 206 #[js a l cap,.func (.func m) #[] c] w fun e W=>e=cL (jV (dA pr l))/\jb w W:=by
 have r:bG (∀W,jb w W->aB W 3 cU a cap l):=fun W hb=>hl.below gN hb;refine Zg fun _=>?_;have o:=hI f;clear hl f hf;go_in;go_wp2_with fail;go_loopg [8] l.length (fun g i wr=> ∃k:av,k<=l.length/\g=l.length-k/\i= jV k/\jb w wr/\ ∀j (h:j<l.length),j<k->pr l[j]=aW)
 ·exact⟨0,ed,ed,rfl,Nb _ _,fun j h h0=>by omega⟩
 obtain⟨k,u,rfl,rfl,hb,ho⟩:=hrel;refine Qa fun n d=>?_;clear hb ho;by_cases G9:k<l.length
 ·have hd:=bL G9;obtain⟨b,off,A,C,rfl,x0,x1,x2,p⟩:=(r _ n).sec G9;refine Qb fun _ _=>?_;have A7:=hI (o wr k G9 n A C p);cases hp:pr l[k]with
  | true=>
   have HE:=hI (tK G9 hp d);rw[hp]at A7;clear hp;go_wp2_with fail;refine A7.mono ?_;rintro e0 w1 ⟨rfl,H⟩;have K1:=jh n H;clear H A7;refine ei ?_;exact Uk
  | false=>
   have HE:bG (∀j (h:j<l.length),j<k+1->pr l[j]=aW):=fun j h hj=>by
    by_cases q:j=k
    ·subst q;exact hp
    exact d j h ed
   rw[hp]at A7;clear hp;go_wp2_with fail;refine A7.mono ?_;rintro e0 w1 ⟨rfl,H⟩;have K1:=jh n H;clear H A7;go_wp2_with fail;go_roundg (l.length-(k+1))
   ·go_light;exact⟨k+1,ed,ed,ej,K1,HE⟩
   go_light;omega
 obtain rfl:k=l.length:=ed;have HE:=hI (tJ fun j hj=>d j hj hj);refine ei ?_;exact⟨dU HE.symm,n⟩
def rX:av→av→aq av
 | 0,n=>[n]
 | f+1,n=>if n<128 then [n]else(128+n % 128)::rX f (n / 128)
def cD (n:av):aq av:=rX n n
def rq (f g n:av) (H:n≤f) (a:n≤g):rX f n=rX g n:=by
 induction f generalizing g n with
 | zero=>
  obtain rfl:n=0:=by omega
  cases g with
  | zero=>rfl
  | succ g=>simp[rX]
 | succ f i=>
  cases g with
  | zero=>
   obtain rfl:n=0:=(by omega);simp[rX]
  | succ g=>
   unfold rX;by_cases h:n<128
   ·rw[if_pos h,if_pos h]
   rw[if_neg h,if_neg h,i g (n / 128) (by omega) (by omega)]
def qL {n:av}(h:n<128):cD n=[n]:=by
 unfold cD;cases n with
 | zero=>rfl
 | succ n=>unfold rX;rw[if_pos h]
def tM {n:av}(h:128≤n):cD n=(128+n % 128)::cD (n / 128):=by
 unfold cD;cases n with
 | zero=>omega
 | succ n=>
  rw[rX,if_neg (by omega),rq n ((n+1) / 128) _ (by omega) (by omega)]
def wG (n:av): ∀i (h:i<(cD n).length),(cD n)[i]<256:=by
 induction n using av.strongRecOn with
 | _ n I=>
  intro i h;by_cases h1:n<128
  ·simp only[qL h1]at h ⊢;have:i=0:=(by simpa using h);subst this;show n<256;omega
  simp only[tM (av.le_of_not_lt h1)]at h ⊢;cases i with
  | zero=>show 128+n % 128<256;omega
  | succ i=>exact I (n / 128) (by omega) i (by simpa using h)
def tL (n:av):0<(cD n).length:=by
 by_cases h:n<128
 ·rw[qL h];simp
 rw[tM (by omega)];simp
def uP {n:av}(h:n<34359738368):(cD n).length≤5:=by
 have e1: ∀m,m<128→(cD m).length≤1:=fun m H=>by rw[qL H];simp
 have st: ∀(m k b:av),(∀x,x<b→(cD x).length≤k)→m<128 * b→0<b→(cD m).length≤k+1:=fun m k b hx H a=>by
  by_cases h1:m<128
  ·rw[qL h1];simp
  rw[tM (av.le_of_not_lt h1),aq.length_cons];exact av.succ_le_succ (hx _ (by omega))
 have e2: ∀m,m<16384→(cD m).length≤2:=fun m H=>st m 1 128 e1 H (by omega);have e3: ∀m,m<2097152→(cD m).length≤3:=fun m H=>st m 2 16384 e2 H (by omega);have e4: ∀m,m<268435456→(cD m).length≤4:=fun m H=>st m 3 2097152 e3 H (by omega);exact st n 4 268435456 e4 h (by omega)
