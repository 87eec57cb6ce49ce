/-
 plan.route,walked.
-/
import Derived.Test.YtbiehpjhhopjaaaGreatTTrackD
import Derived.Test.YtbiehpjhhopjaaaGreatTPlanE
import Derived.Test.YtbiehpjhhopjaaaGreatTData
import Derived.Deep.CutBlock
set_option linter.unusedVariables false
set_option linter.unusedSimpArgs false
set_option maxRecDepth 100000
set_option maxHeartbeats 16000000
namespace Go.Proofs.YtbiehpjhhopjaaaGreat
open Go.RowKit Go.Sort
theorem ILv.at_ {w:World}{v:Value}{l:List Int}(h:ILv w v l): ∃a c,v= .slice a l.length c∧IL w a l.length l:=by
 obtain⟨a,n,c,e,hl⟩:=h;obtain rfl:=hl.len;exact⟨a,c,e,hl⟩
theorem zsx (p:Pl) (r:Rt) (s q g rr vp vo vf:Value) (cs:Array Value) (f:Nat→Int) (w:World) (hp:PlM w s q g rr p) (hf:p.Fit) (hr:RtM w vp vo vf r) (hcs:IntArr cs f) (h3: ∀q,f q≤3) (hsg:zcm f p.G):
  Calls Tryz.prog 300 #[plV p s q g rr,.agg #[r.id,r.E,r.X,vp,vo,vf,r.T],.agg cs] w (zae w (decide (zb2 f p.G p.P r))):=by
 have HCS:=hI hcs;have HSG:=hI hsg;obtain⟨⟨a1,c1,rfl,k1⟩,⟨a2,c2,rfl,k2⟩,⟨a3,c3,rfl,k3⟩,⟨a4,c4,rfl,k4⟩⟩:=hp;obtain⟨ap,cp,rfl,kp⟩:=hr.A.at_;obtain⟨ao,co,rfl,ko⟩:=hr.O.at_;obtain⟨af,cf,rfl,kf⟩:=hr.fl;have HQ:Hid (∀w',jb w w'→SlA w' 2 RPt a2 c2 p.P):=fun w' hb=>k2.below zct hb;have HG:Hid (∀w',jb w w'→SlA w' 3 RSg a3 c3 p.G):=fun w' hb=>k3.below zcu hb;have HP:Hid (∀w',jb w w'→IL w' ap r.A.length r.A):=fun w' hb=>kp.below hb;have HO:Hid (∀w',jb w w'→IL w' ao r.O.length r.O):=fun w' hb=>ko.below hb;have HFL:Hid (∀w',jb w w'→SlA w' 2 RFl af cf r.fl):=fun w' hb=>kf.below zgi hb;have HN:Hid (¬zd8 p.G r→decide (zb2 f p.G p.P r)=false):=fun h=>decide_eq_false fun h'=>h h'.1;have HI:Hid (zd8 p.G r→(zb2 f p.G p.P r↔(zen f (zhk p.G r) (r.A++r.O) (r.A++r.O).length∧FlA p.P r.fl r.fl.length))):=fun h=>⟨fun x=>x.2,fun x=>⟨h,x⟩⟩;have HB2:Hid (∀b,(b=true↔zb2 f p.G p.P r)→decide (zb2 f p.G p.P r)=b):=fun b hb=>by rw[Bool.eq_iff_iff,decide_eq_true_iff];exact hb.symm
 have hq:=hf.P;have hs:=hf.G;clear k1 k2 k3 k4 kp ko kf hf hcs h3 hsg hr;unfold plV;generalize decide (zb2 f p.G p.P r)=B at *;go_enter Tryz.func300,Tryz.ntmps300;go_wp2_with fail;generalize hW:((w.alloc _).alloc _).alloc _=W;have K0:Hid (jb w W):=by show Below _ _ _;rw[←hW];exact(jal.alloc (by simp) _).alloc (by simp;omega) _
 have hz:W.heap.size=w.heap.size+3:=by rw[←hW];simp
 have GA:jc W w.heap.size 3 (js a2 p.P.length c2):=by rw[←hW];simp[go_sem]
 have GB:jc W w.heap.size 4 (js a3 p.G.length c3):=by rw[←hW];simp[go_sem]
 have G1:jc W (w.heap.size+1) 1 r.E:=by rw[←hW];simp[go_sem]
 have G2:jc W (w.heap.size+1) 2 r.X:=by rw[←hW];simp[go_sem]
 have G3:jc W (w.heap.size+1) 3 (js ap r.A.length cp):=by rw[←hW];simp[go_sem]
 have G4:jc W (w.heap.size+1) 4 (js ao r.O.length co):=by rw[←hW];simp[go_sem]
 have G5:jc W (w.heap.size+1) 5 (js af r.fl.length cf):=by rw[←hW];simp[go_sem]
 have G6:jc W (w.heap.size+1) 6 r.T:=by rw[←hW];simp[go_sem]
 have GC:jk W (w.heap.size+2) cs 168:=by rw[←hW];have:=heap_alloc_new ((w.alloc (.cells #[p.ver,p.par,js a1 p.S.length c1,js a2 p.P.length c2,js a3 p.G.length c3,js a4 p.R.length c4] 28)).alloc (.cells #[r.id,r.E,r.X,js ap r.A.length cp,js ao r.O.length co,js af r.fl.length cf,r.T] 102)) (.cells cs 168 (0,0));simpa using this
 clear hW;refine(zmp a3 c3 p.G r.E _ (HG _ K0) hs).mono ?_;rintro e w1 ⟨rfl,hb1⟩;have K1:=jh K0 hb1
 have HES:Hid (za2 Sg.id p.G r.E=true→0≤(za1 Sg.id ⟨0,0,0⟩ p.G r.E).sec∧(za1 Sg.id ⟨0,0,0⟩ p.G r.E).sec≤99):=fun h=>by
  have h1:=(ze8 (z:=⟨0,0,0⟩) h).1;obtain⟨i,hi,he⟩:=List.getElem_of_mem h1;have:=(HSG.2 i hi hi).1.1;rw[he]at this;exact⟨this.1,this.2.1⟩
 have HEE:Hid (zhk p.G r=(za1 Sg.id ⟨0,0,0⟩ p.G r.E).sec):=rfl
 have HHD:Hid (zd8 p.G r↔za2 Sg.id p.G r.E=true∧(r.X≠0→za2 Sg.id p.G r.X=true∧r.X≠r.E)∧(r.X=0→r.O.length=0)∧
  1≤r.A.length∧r.A.length≤6∧r.O.length≤2∧r.fl.length≤3∧1≤r.T∧r.T≤9):=Iff.rfl
 generalize za1 Sg.id ⟨0,0,0⟩ p.G r.E=E1 at *;have gB:jc w1 w.heap.size 4 (js a3 p.G.length c3):=(hb1.cell (by simp[hz])).trans GB;have g2:jc w1 (w.heap.size+1) 2 r.X:=(hb1.cell (by simp[hz])).trans G2;have hz1:w.heap.size+3≤w1.heap.size:=by have:=hb1.size;omega
 have l0:w.heap.size<w1.heap.size:=by omega
 have l1:w.heap.size+1<w1.heap.size:=by omega
 go_wp2_with fail;generalize hW1:w1.alloc _=W1;have hbW:jb w1 W1:=by rw[←hW1];exact jal
 have hzW:W1.heap.size=w1.heap.size+1:=by rw[←hW1];simp
 have GE:jc W1 w1.heap.size 1 E1.sec:=by rw[←hW1];simp
 have KW1:=jh K1 hbW;clear hW1;refine(zmp a3 c3 p.G r.X _ (HG _ KW1) hs).mono ?_;rintro e w2 ⟨rfl,hb2⟩;have K2:=jh KW1 hb2;have hb12:jb W w2:=hb1.trans ((hbW.mono hb1.size).trans (hb2.mono (Nat.le_trans hb1.size hbW.size)));have gA:jc w2 w.heap.size 3 (js a2 p.P.length c2):=(hb12.cell (by simp[hz])).trans GA;have g1:jc w2 (w.heap.size+1) 1 r.E:=(hb12.cell (by simp[hz])).trans G1;have g2:jc w2 (w.heap.size+1) 2 r.X:=(hb12.cell (by simp[hz])).trans G2;have g3:jc w2 (w.heap.size+1) 3 (js ap r.A.length cp):=(hb12.cell (by simp[hz])).trans G3;have g4:jc w2 (w.heap.size+1) 4 (js ao r.O.length co):=(hb12.cell (by simp[hz])).trans G4;have g5:jc w2 (w.heap.size+1) 5 (js af r.fl.length cf):=(hb12.cell (by simp[hz])).trans G5;have g6:jc w2 (w.heap.size+1) 6 r.T:=(hb12.cell (by simp[hz])).trans G6;have gC:jk w2 (w.heap.size+2) cs 168:=(hb12.block _ (by omega)).trans GC;have gE:jc w2 w1.heap.size 1 E1.sec:=(hb2.cell (by simp[hzW])).trans GE;have hz2:w1.heap.size+1≤w2.heap.size:=by have:=hb2.size;omega
 clear hb1 hbW hb2 hb12 GA GB G1 G2 G3 G4 G5 G6 GC GE hzW gB;generalize za2 Sg.id p.G r.X=i2 at *;generalize za2 Sg.id p.G r.E=i1 at *;generalize za1 Sg.id ⟨0,0,0⟩ p.G r.X=E2 at *;go_upto_block 0 with fail;generalize hW2:w2.alloc _=W2;have hbW:jb w2 W2:=by rw[←hW2];exact jal
 have hzW:W2.heap.size=w2.heap.size+1:=by rw[←hW2];simp
 have KW2:=jh K2 hbW;have vA:jc W2 w.heap.size 3 (js a2 p.P.length c2):=zac hbW gA;have v1:jc W2 (w.heap.size+1) 1 r.E:=zac hbW g1;have v2:jc W2 (w.heap.size+1) 2 r.X:=zac hbW g2;have v3:jc W2 (w.heap.size+1) 3 (js ap r.A.length cp):=zac hbW g3;have v4:jc W2 (w.heap.size+1) 4 (js ao r.O.length co):=zac hbW g4;have v5:jc W2 (w.heap.size+1) 5 (js af r.fl.length cf):=zac hbW g5;have v6:jc W2 (w.heap.size+1) 6 r.T:=zac hbW g6;have vE:jc W2 w1.heap.size 1 E1.sec:=zac hbW gE;have vC:jk W2 (w.heap.size+2) cs 168:=(hbW.block _ (by omega)).trans gC;have HVC:=hI vC;clear hbW hW2 gA g1 g2 g3 g4 g5 g6 gC gE vC;have HVA:=hI vA;have HVE:=hI vE;clear vA vE;go_cut []from 20 to 85 (fun wc=>zd8 p.G r∧wc=W2)
 case first=>
  by_cases hh:zd8 p.G r
  ·have HH:=hI hh;obtain⟨d1,d2,d3,d4,d5,d6,d7,d8,d9⟩:=HHD.1 hh;have t1:decide ((r.A.length:Int)<1)=false:=(by simp;omega);have t2:decide ((6:Int)<(r.A.length:Int))=false:=(by simp;omega);have t3:decide ((2:Int)<(r.O.length:Int))=false:=(by simp;omega);have t4:decide ((3:Int)<(r.fl.length:Int))=false:=(by simp;omega);have t5:decide (r.T<1)=false:=(by simp;omega);have t6:decide ((9:Int)<r.T)=false:=(by simp;omega);by_cases hx:r.X=0
   ·have e1:(r.X != 0)=false:=(by simp[hx]);have e2:(r.X==0)=true:=(by simp[hx]);have o2:decide (0<r.O.length)=false:=(by rw[d3 hx];rfl);clear hx d2 d3 d4 d5 d6 d7 d8 d9 hh;go_wp2_with fail;go_meet
    case rel=>exact⟨HH,rfl⟩
   ·have e1:(r.X != 0)=true:=(by simp[hx]);have e2:(r.X==0)=false:=(by simp[hx]);have e3:(r.X==r.E)=false:=(by have:=(d2 hx).2;simpa using this);have e4:=(d2 hx).1;clear hx d2 d3 d4 d5 d6 d7 d8 d9 hh;go_wp2_with fail;go_meet
    case rel=>exact⟨HH,rfl⟩
  ·have HE:=hI (HN hh);have HNN:Hid (¬(i1=true∧(r.X≠0→i2=true∧r.X≠r.E)∧(r.X=0→r.O.length=0)∧1≤r.A.length∧r.A.length≤6∧r.O.length≤2∧r.fl.length≤3∧1≤r.T∧r.T≤9)):=fun h=>hh (HHD.2 h);clear hh;cases i1 with
   | false=>
    go_wp2_with fail;go_ret;exact⟨zab HE.symm,KW2⟩
   | true=>
    by_cases hx:r.X=0
    ·have e1:(r.X != 0)=false:=(by simp[hx]);have e2:(r.X==0)=true:=(by simp[hx]);have HX:=hI hx;clear hx;by_cases ho:0<r.O.length
     ·have o2:decide (0<r.O.length)=true:=(by simp only[decide_eq_true_eq];omega);clear ho;go_wp2_with fail;go_ret;exact⟨zab HE.symm,KW2⟩
     ·have o2:decide (0<r.O.length)=false:=(by simp only[decide_eq_false_iff_not];omega);have HO0:=hI ho;clear ho;go_wp2_with fail
      all_goals first
       | (go_ret;exact⟨zab HE.symm,KW2⟩)
       | (exact absurd ⟨trivial,fun h=>absurd HX.out h,fun _=>by have:=HO0.out;omega,by omega,by omega,by omega,by omega,by omega,by omega⟩ HNN)
    ·have e1:(r.X != 0)=true:=(by simp[hx]);have e2:(r.X==0)=false:=(by simp[hx]);have HX:=hI hx;clear hx;cases i2 with
     | false=>
      go_wp2_with fail;go_ret;exact⟨zab HE.symm,KW2⟩
     | true=>
      by_cases he:r.X=r.E
      ·have e3:(r.X==r.E)=true:=(by simpa using he);clear he;go_wp2_with fail;go_ret;exact⟨zab HE.symm,KW2⟩
      ·have e3:(r.X==r.E)=false:=(by simpa using he);have HEN:=hI he;clear he;go_wp2_with fail
       all_goals first
        | (go_ret;exact⟨zab HE.symm,KW2⟩)
        | (exact absurd ⟨trivial,fun _=>⟨trivial,HEN⟩,fun h=>absurd h HX,by omega,by omega,by omega,by omega,by omega,by omega⟩ HNN)
 case rest=>
  obtain⟨hh,rfl⟩:=hcut;obtain⟨d1,-,-,d4,d5,d6,d7,-,-⟩:=HHD.1 hh;obtain⟨m1,m2⟩:=HES d1;have HIF:=hI (HI hh);rw[HEE.out]at HIF;have m3:E1.sec<100:=by omega
  have vE:=HVE.out;have z0:Tryz.zeroCells279[E1.sec.toNat]? =some (.bool false):=zir _ (by omega);have ll0:w.heap.size<wc.heap.size:=by omega
  have KWL:Hid (w.heap.size+2<wc.heap.size):=by show _<_;omega
  have ll1:w.heap.size+1<wc.heap.size:=by omega
  have ll2:w1.heap.size<wc.heap.size:=by omega
  clear hh d1 d4 v1 v2 v6 hzW hz2 hz1 l0 l1 hz g2;go_upto_block 1 with fail
  have zrow:BoolRow (wc.alloc (.cells (Tryz.zeroCells279.setIfInBounds E1.sec.toNat (.bool true)) 279)) wc.heap.size 100 279 (zdk E1.sec (r.A++r.O) 0):=by
   refine BoolRow.congr (f:=fun q=>decide ((q:Int)=E1.sec)) ⟨_,heap_alloc_new wc _,by rw[Array.size_setIfInBounds,zg2];simp,fun q hq=> ?_⟩ fun q _=>(zq4 _ _ q).symm;rw[Array.getElem?_setIfInBounds,zg2];by_cases e:E1.sec.toNat=q
   ·rw[if_pos e,if_pos (by rw[Array.size_replicate];omega)];have:(q:Int)=E1.sec:=(by omega);simp[this]
   ·rw[if_neg e];have: ¬(q:Int)=E1.sec:=(by omega);simp[this,hq]
  generalize hW3:World.alloc _ _=W3;have hb3:jb wc W3:=by rw[←hW3];exact jal.alloc (by simp) _
  have zrow3:Hid (BoolRow W3 wc.heap.size 100 279 (zdk E1.sec (r.A++r.O) 0)):=by show BoolRow _ _ _ _ _;rw[←hW3];exact zrow.below jal
  have L0:Hid (jc W3 (wc.heap.size+1) 0 (js ap r.A.length cp)):=by show _=_;rw[←hW3];simp
  have L1:Hid (jc W3 (wc.heap.size+1) 1 (js ao r.O.length co)):=by show _=_;rw[←hW3];simp
  have HB3:=hI hb3;clear hW3 zrow hb3 vE m1 m2 m3 z0 v3 v4;have HBS:Hid (∃bs:Nat→Nat,bs 0=0∧bs 1=r.A.length∧bs 2=(r.A++r.O).length):=⟨fun k=>if k=0 then 0 else if k=1 then r.A.length else(r.A++r.O).length,rfl,rfl,rfl⟩;obtain⟨bs,b0,b1,b2⟩:=HBS.out;go_wp2_with fail;go_loopg [95] 2 (fun g i wr=> ∃k:Nat,k≤2∧g=2-k∧i= .int .i64 k∧jb wc wr∧jc wr (wc.heap.size+1) 0 (js ap r.A.length cp)∧jc wr (wc.heap.size+1) 1 (js ao r.O.length co)∧BoolRow wr wc.heap.size 100 279 (zdk E1.sec (r.A++r.O) (bs k))∧zen f E1.sec (r.A++r.O) (bs k))
  case atStart=>exact⟨0,by omega,by omega,rfl,HB3,L0,L1,by rw[b0];exact zrow3,fun i hi h=>absurd h (by omega)⟩
  case round=>
   obtain⟨k,hk,rfl,rfl,hb,hL0,hL1,hR,hA⟩:=hrel;obtain⟨wo,rfl⟩: ∃wo:World,wo=wr:=⟨_,rfl⟩;have HB:=hI hb;have HBW:=jh KW2 hb;have HR:=hI hR;have HA:=hI hA;clear hb hR hA;by_cases hlt:k<2
   ·have hdk:decide ((k:Int)<2)=true:=by simp;omega
    have HK:Hid (∃(a:Option Addr) (c:Nat) (l:List Int),jc wo (wc.heap.size+1) k (js a l.length c)∧(∀w',jb w w'→IL w' a l.length l)∧l.length≤6∧bs k+l.length=bs (k+1)∧bs (k+1)≤(r.A++r.O).length∧ ∀j (h:j<l.length) (h':bs k+j<(r.A++r.O).length),l[j]=(r.A++r.O)[bs k+j]):=by
     rcases(show k=0∨k=1 by omega)with rfl | rfl
     ·exact⟨ap,cp,r.A,hL0,HP,d5,by rw[b0,b1];omega,by rw[b1];simp,fun j h h'=>by simp only[b0,Nat.zero_add];rw[List.getElem_append_left h]⟩
     ·exact⟨ao,co,r.O,hL1,HO,by omega,by rw[b1,b2];simp,by rw[b2];exact Nat.le_refl _,fun j h h'=>by simp only[b1];rw[List.getElem_append_right (by omega)];congr 1;omega⟩
    obtain⟨al,cl,l,x0,hIL,hl6,hbs,hbl,hwh⟩:=HK.out;have HIL:=hI hIL;have HBS':=hI hbs;have HBL:=hI hbl;have HWH:=hI hwh;have c0:(0:Int)≤(k:Int):=(by omega);have c1:(k:Int)<2:=(by omega);have HL0:=hI hL0;have HL1:=hI hL1;clear hIL hbs hbl hwh hL0 hL1;go_wp2_with fail;go_loopg [101] l.length (fun g i wm=> ∃m:Nat,m≤l.length∧g=l.length-m∧i= .int .i64 m∧jb wc wm∧jc wm (wc.heap.size+1) 0 (js ap r.A.length cp)∧jc wm (wc.heap.size+1) 1 (js ao r.O.length co)∧BoolRow wm wc.heap.size 100 279 (zdk E1.sec (r.A++r.O) (bs k+m))∧zen f E1.sec (r.A++r.O) (bs k+m))
    case atStart=>exact⟨0,by omega,by omega,rfl,HB,HL0,HL1,HR,HA⟩
    case round=>
     obtain⟨m,hm,rfl,rfl,hb,hL0,hL1,hR,hA⟩:=hrel;obtain⟨wm,rfl⟩: ∃wm:World,wm=wr:=⟨_,rfl⟩;have HBm:=hI hb;have HBWm:=jh KW2 hb;have HRm:=hI hR;have HAm:=hI hA;have HL0m:=hI hL0;have HL1m:=hI hL1;clear hb hR hA hL0 hL1 x0;by_cases hlm:m<l.length
     ·obtain⟨b,off,rfl,x1⟩:=(HIL _ HBWm).cell m hlm;have e0:(0:Int)≤(m:Int):=(by omega);have e1:(m:Int)<(l.length:Int):=(by omega);have hlw:bs k+m<(r.A++r.O).length:=(by have:=HBS'.out;have:=HBL.out;omega);have hel:=HWH m hlm hlw;have HRow:Hid (jk wm (w.heap.size+1+1) cs 168):=(HBm.block _ (by have:=KWL.out;omega)).trans HVC;have HCZ:Hid ((Tryz.prog.info? 168).map (·.size)=some cs.size):=(by show _=_;rw[zhv,HCS.out.1]);have HTH:Hid (Calls Tryz.prog 379 #[.agg cs,l[m]] wm (zae wm (decide (zds f l[m])))):=zmv cs f l[m] wm HCS
      have HBAD:Hid (¬(zds f l[m]∧l[m]≠E1.sec∧ ∀n (hn:n<bs k+m),(r.A++r.O)[n]≠l[m])→B=false):=fun h=>HB2 false (by
       have h5:=HIF.out;rw[h5];simp only[Bool.false_eq_true,false_iff];intro hx;have h6:=hx.1 _ hlw hlw;rw[←hel]at h6
       exact h h6)
      have HEL:=hI hel;clear hel;by_cases ht:zds f l[m]
      ·have hth:=ht;have ht':=decide_eq_true ht;clear ht;rw[ht']at HTH;have n0:(0:Int)≤l[m]:=hth.1;have n1:l[m]<100:=(by have:=hth.2.1;omega);have HMI:Hid (zdk E1.sec (r.A++r.O) (bs k+m) l[m].toNat=true↔ ¬((r.A++r.O)[bs k+m]≠E1.sec∧ ∀n (hn:n<bs k+m),(r.A++r.O)[n]≠(r.A++r.O)[bs k+m])):=zq6 E1.sec hlw l[m].toNat (by rw[←HEL.out];omega);have HTD:=hI hth;clear hth;cases hmt:zdk E1.sec (r.A++r.O) (bs k+m) l[m].toNat with
       | true=>
        have HE:Hid (B=false):=HBAD fun h=>HMI.1 hmt (by rw[←HEL.out];exact h.2)
        have HYM:Hid (∀W',jb wm W'→jc W' wc.heap.size l[m].toNat (.bool true)):=fun W' hb=>by
         have:=(HRm.below hb).cell (q:=l[m].toNat) (by omega);rw[hmt]at this;exact this
        clear hmt;go_upto_region 23 with fail;go_step;refine wpList_load_row rfl 168 (.tmp 5) rfl (w.heap.size+1+1) rfl 168 cs (0,0) _ HRow Tryz.underlying168 rfl HCZ ?_;simp[Act.put];go_wp2_with fail;refine HTH.mono ?_;rintro e wn ⟨rfl,hbn⟩;have KN:=jh HBWm hbn;have y9:=HYM _ hbn;clear hbn;go_wp2_with fail;go_ret;exact⟨zab HE.symm,KN⟩
       | false=>
        have HPA:Hid (zen f E1.sec (r.A++r.O) (bs k+m+1)):=zq7 hlw HAm (by
         have h9:(r.A++r.O)[bs k+m]≠E1.sec∧ ∀n (hn:n<bs k+m),(r.A++r.O)[n]≠(r.A++r.O)[bs k+m]:=Classical.not_not.1 fun hn=>by
          have:=HMI.2 hn;rw[hmt]at this;cases this
         refine⟨?_,h9⟩;rw[←HEL.out]
         exact HTD)
        have HYM:Hid (∀W',jb wm W'→jc W' wc.heap.size l[m].toNat (.bool false)):=fun W' hb=>by
         have:=(HRm.below hb).cell (q:=l[m].toNat) (by omega);rw[hmt]at this;exact this
        have HST:Hid (∀W',BoolRow W' wc.heap.size 100 279 (zdk E1.sec (r.A++r.O) (bs k+m))→BoolRow (W'.setCell ⟨wc.heap.size,l[m].toNat,none⟩ (.bool true)) wc.heap.size 100 279 (zdk E1.sec (r.A++r.O) (bs k+m+1))):=fun W' h=>by
         refine(h.set (q:=l[m].toNat) (by omega) _).congr fun q hq=> ?_;exact zq5 E1.sec hlw l[m].toNat (by rw[←HEL.out];omega) q
        clear hmt;go_upto_region 23 with fail;go_step;refine wpList_load_row rfl 168 (.tmp 5) rfl (w.heap.size+1+1) rfl 168 cs (0,0) _ HRow Tryz.underlying168 rfl HCZ ?_;simp[Act.put];go_wp2_with fail;refine HTH.mono ?_;rintro e wn ⟨rfl,hbn⟩;have KN:=jh HBm hbn;have y9:=HYM _ hbn;have HRn:=hI (HRm.below hbn);have y8:=HRn.frozen l[m].toNat;have Q0:Hid (jc wn (wc.heap.size+1) 0 (js ap r.A.length cp)):=zac hbn HL0m;have Q1:Hid (jc wn (wc.heap.size+1) 1 (js ao r.O.length co)):=zac hbn HL1m;clear hbn;go_wp2_with fail;go_roundg (l.length-(m+1))
        case measure=>go_light;omega
        case rel=>go_light;exact⟨m+1,by omega,by omega,by go_num,KN.setCell (Nat.le_refl _) _,(World.cell?_setCell_other _ _ _ _ (by simp)).trans Q0,(World.cell?_setCell_other _ _ _ _ (by simp)).trans Q1,HST _ HRn,HPA⟩
      ·have HE:=hI (HBAD fun h=>ht h.1);have ht':=decide_eq_false ht;clear ht;rw[ht']at HTH;go_upto_region 23 with fail;go_step;refine wpList_load_row rfl 168 (.tmp 5) rfl (w.heap.size+1+1) rfl 168 cs (0,0) _ HRow Tryz.underlying168 rfl HCZ ?_;simp[Act.put];go_wp2_with fail;refine HTH.mono ?_;rintro e wn ⟨rfl,hbn⟩;have KN:=jh HBWm hbn;clear hbn;go_wp2_with fail;go_ret;exact⟨zab HE.symm,KN⟩
     ·obtain rfl:m=l.length:=(by omega);have HR':Hid (BoolRow wm wc.heap.size 100 279 (zdk E1.sec (r.A++r.O) (bs (k+1)))):=(by show BoolRow _ _ _ _ _;rw[←HBS'.out];exact HRm);have HA':Hid (zen f E1.sec (r.A++r.O) (bs (k+1))):=(by show zen _ _ _ _;rw[←HBS'.out];exact HAm);clear HRm HAm;go_wp2_with fail;go_roundg (2-(k+1))
      case measure=>go_light;omega
      case rel=>go_light;exact⟨k+1,by omega,by omega,by go_num,HBm,HL0m,HL1m,HR',HA'⟩
   ·obtain rfl:k=2:=(by omega);have HAF:Hid (zen f E1.sec (r.A++r.O) (r.A++r.O).length):=(by show zen _ _ _ _;rw[←b2];exact HA);have HV5:Hid (∀W',jb wo W'→jc W' (w.heap.size+1) 5 (js af r.fl.length cf)):=fun W' hb=>(hb.cell (Nat.lt_of_lt_of_le ll1 HB.size)).trans ((HB.cell ll1).trans v5);have HV3:Hid (∀W',jb wo W'→jc W' w.heap.size 3 (js a2 p.P.length c2)):=fun W' hb=>(hb.cell (Nat.lt_of_lt_of_le ll0 HB.size)).trans ((HB.cell ll0).trans HVA);have w5:=HV5 wo (Below.refl _ _);clear hL0 hL1 b0 b1 b2 v5;go_wp2_with fail;go_loopg [121] r.fl.length (fun g i wj=> ∃n:Nat,n≤r.fl.length∧g=r.fl.length-n∧i= .int .i64 n∧jb wo wj∧FlA p.P r.fl n)
    case atStart=>exact⟨0,by omega,by omega,rfl,Below.refl _ _,fun i hi h=>absurd h (by omega)⟩
    case round=>
     obtain⟨n,hn,rfl,rfl,hb,hA⟩:=hrel;obtain⟨wj,rfl⟩: ∃wj:World,wj=wr:=⟨_,rfl⟩;have HBj:=hI hb;have HBWj:=jh HBW hb;have HFA:=hI hA;clear hb hA w5;by_cases hln:n<r.fl.length
     ·obtain⟨b,off,rfl,x0,x1⟩:=(HFL _ HBWj).fl hln;have e0:(0:Int)≤(n:Int):=(by omega);have e1:(n:Int)<(r.fl.length:Int):=(by omega);have l8:=World.block_lt_of_cell? _ _ x0;have x3:=HV3 _ HBj;have l7:=World.block_lt_of_cell? _ _ x3;go_wp2_with fail;generalize hW4:wj.alloc _=W4;have hb4:jb wj W4:=(by rw[←hW4];exact jal);have hz4:W4.heap.size=wj.heap.size+1:=(by rw[←hW4];simp);have G0:jc W4 wj.heap.size 0 r.fl[n].pt:=(by rw[←hW4];simp);have G1:jc W4 wj.heap.size 1 r.fl[n].lie:=(by rw[←hW4];simp);have K4:=jh HBWj hb4;have K4o:=jh HBj hb4;clear hW4 hb4 x0 x1 x3 l8 l7;refine(zsb a2 c2 p.P r.fl[n].pt _ (HQ _ K4) hq).mono ?_;rintro e w5 ⟨rfl,hb5⟩;have K5:=jh K4 hb5;have K5o:=jh K4o hb5;have g0:jc w5 wj.heap.size 0 r.fl[n].pt:=(hb5.cell (by simp[hz4])).trans G0;have g1:jc w5 wj.heap.size 1 r.fl[n].lie:=(hb5.cell (by simp[hz4])).trans G1;clear hb5 G0 G1 hz4;generalize za1 Pt.id ⟨0,0⟩ p.P r.fl[n].pt=E3 at *;go_upto_region 32 with fail;generalize hW6:w5.alloc _=W6;have hb6:jb w5 W6:=(by rw[←hW6];exact jal);have K6:=jh K5 hb6;have K6o:=jh K5o hb6;have y0:jc W6 wj.heap.size 0 r.fl[n].pt:=zac hb6 g0;have y1:jc W6 wj.heap.size 1 r.fl[n].lie:=zac hb6 g1;have y5:=HV5 _ K6o;clear hb6 hW6 g0 g1
      have HBAD:Hid (¬zhj p.P r.fl n hln→B=false):=fun h=>HB2 false (by
       have h5:=HIF.out;rw[h5];simp only[Bool.false_eq_true,false_iff]
       exact fun hx=>h (hx.2 n hln hln))
      cases hone:za2 Pt.id p.P r.fl[n].pt with
      | false=>
       have HE:=hI (HBAD fun h=>by have:=h.1;rw[hone]at this;cases this);clear hone;go_quiet (fail);go_wp2_with fail;go_ret;exact⟨zab HE.symm,zb6 K6 _⟩
      | true=>
       have HONE:=hI hone;clear hone;rcases Nat.eq_zero_or_pos n with hn0 | hn0
       ·have t0':decide (0<n)=false:=(by simp;omega);have HN0:=hI hn0;clear hn0;have HLT:Hid (∀h':0<n,r.fl[n-1].pt<r.fl[n].pt):=fun h'=>absurd h' (by have:=HN0.out;omega);by_cases hl1:r.fl[n].lie=1
        ·have q1:(r.fl[n].lie != 1)=false:=(by simp[hl1]);have HFS:=hI (zii hln HFA ⟨HONE,HLT,.inl hl1⟩);clear hl1;go_quiet (fail);go_wp2_with fail;go_roundg (r.fl.length-(n+1))
         case measure=>go_light;omega
         case rel=>go_light;exact⟨n+1,by omega,by omega,by go_num,zb6 K6o _,HFS⟩
        ·have q1:(r.fl[n].lie != 1)=true:=(by simp[hl1]);by_cases hl2:r.fl[n].lie=2
         ·have q2:(r.fl[n].lie != 2)=false:=(by simp[hl2]);have HFS:=hI (zii hln HFA ⟨HONE,HLT,.inr hl2⟩);clear hl1 hl2;go_quiet (fail);go_wp2_with fail;go_roundg (r.fl.length-(n+1))
          case measure=>go_light;omega
          case rel=>go_light;exact⟨n+1,by omega,by omega,by go_num,zb6 K6o _,HFS⟩
         ·have q2:(r.fl[n].lie != 2)=true:=(by simp[hl2]);have HE:=hI (HBAD fun h=>by rcases h.2.2 with h | h<;>contradiction);clear hl1 hl2;go_quiet (fail);go_wp2_with fail;go_ret;exact⟨zab HE.symm,zb6 K6 _⟩
       ·have t0':decide (0<n)=true:=(by simp;omega);have hn1:n-1<r.fl.length:=by omega
        have HZ:Hid (jc W6 b (off+(n-1) * 2) r.fl[n-1].pt):=by
         obtain⟨b',off',e,z0,-⟩:=(HFL _ K6).fl hn1;cases e;exact z0
        have z0:=HZ.out;have i0:(0:Int)≤(n:Int)-1:=(by omega);have i2:((n:Int)-1).toNat=n-1:=(by omega);by_cases hlt:r.fl[n].pt≤r.fl[n-1].pt
        ·have q0:decide (r.fl[n].pt≤r.fl[n-1].pt)=true:=(by simpa using hlt);have HE:=hI (HBAD fun h=>by have:=h.2.1 hn0;omega);clear hlt hn0;go_quiet (fail);go_wp2_with fail;go_ret;exact⟨zab HE.symm,zb6 K6 _⟩
        ·have q0:decide (r.fl[n].pt≤r.fl[n-1].pt)=false:=(by simpa using hlt);have HLT:Hid (∀h':0<n,r.fl[n-1].pt<r.fl[n].pt):=fun h'=>by omega
         clear hlt hn0;by_cases hl1:r.fl[n].lie=1
         ·have q1:(r.fl[n].lie != 1)=false:=(by simp[hl1]);have HFS:=hI (zii hln HFA ⟨HONE,HLT,.inl hl1⟩);clear hl1;go_quiet (fail);go_wp2_with fail;go_roundg (r.fl.length-(n+1))
          case measure=>go_light;omega
          case rel=>go_light;exact⟨n+1,by omega,by omega,by go_num,zb6 K6o _,HFS⟩
         ·have q1:(r.fl[n].lie != 1)=true:=(by simp[hl1]);by_cases hl2:r.fl[n].lie=2
          ·have q2:(r.fl[n].lie != 2)=false:=(by simp[hl2]);have HFS:=hI (zii hln HFA ⟨HONE,HLT,.inr hl2⟩);clear hl1 hl2;go_quiet (fail);go_wp2_with fail;go_roundg (r.fl.length-(n+1))
           case measure=>go_light;omega
           case rel=>go_light;exact⟨n+1,by omega,by omega,by go_num,zb6 K6o _,HFS⟩
          ·have q2:(r.fl[n].lie != 2)=true:=(by simp[hl2]);have HE:=hI (HBAD fun h=>by rcases h.2.2 with h | h<;>contradiction);clear hl1 hl2;go_quiet (fail);go_wp2_with fail;go_ret;exact⟨zab HE.symm,zb6 K6 _⟩
     ·obtain rfl:n=r.fl.length:=(by omega);have HE:Hid (B=true):=HB2 true (by have h5:=HIF.out;rw[h5];simp only[true_iff];exact⟨HAF,HFA⟩);go_wp2_with fail;go_ret;exact⟨zab HE.symm,HBWj⟩
end Go.Proofs.YtbiehpjhhopjaaaGreat
