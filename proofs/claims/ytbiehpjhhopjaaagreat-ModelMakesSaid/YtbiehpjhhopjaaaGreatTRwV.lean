/-
 Whether a state may be,as the references have it,walked. (Written by wip/tools/gen_rwv.py.)
-/
import Derived.Test.YtbiehpjhhopjaaaGreatTRwU
set_option linter.unusedVariables false
set_option linter.unusedSimpArgs false
set_option maxRecDepth 100000
set_option maxHeartbeats 16000000
namespace Go.Proofs.YtbiehpjhhopjaaaGreat
open Go.RowKit Go.Sort
theorem zx0 (p:Pl) (st:St) (s q gg rr t sw lk:Value) (w:World) (hp:PlM w s q gg rr p) (hf:p.Fit) (hs:StM w t sw lk st) (hsf:st.fit):
  Calls Tryz.prog 133 #[plV p s q gg rr,stV t sw lk] w (zae w (decide (zde p st))):=by
 have HPS:Hid (∀W,jb w W→Calls Tryz.prog 62 #[plV p s q gg rr] W (zae W (decide (zaj p)))):=fun W hb=>zhf p s q gg rr W (hp.below hb) hf;have HPA:Hid (∀W,jb w W→Calls Tryz.prog 220 #[plV p s q gg rr,stV t sw lk] W (zae W (decide (StA p st)))):=fun W hb=>zxh p st s q gg rr t sw lk W (hp.below hb) hf (hs.below hb) hsf;have HPT:Hid (∀W n,jb w W→Calls Tryz.prog 223 #[plV p s q gg rr,.int .i64 n] W (zfp W (fix (fun x=>decide (x.id=n)) p.P))):=fun W n hb=>zv0 p s q gg rr n W (hp.below hb) hf;obtain⟨HK,hHK⟩: ∃HK:Nat→List Int,HK=fun k=>zc0 (zao p (p.R.getD k zRt)) (st.lks.getD k zLk):=⟨_,rfl⟩;obtain⟨HQ,hHQ⟩: ∃HQ:Nat→List Ask,HQ=fun k=>zc8 (zao p (p.R.getD k zRt)) (st.lks.getD k zLk):=⟨_,rfl⟩
 have HC:Hid (zaj p→StA p st→ ∀k (hk:k<st.lks.length) W,jb w W→Calls Tryz.prog 221 #[plV p s q gg rr,.agg #[st.lks[k].id,.int .u8 st.lks[k].ph,st.lks[k].gone,st.lks[k].left],k] W (zjg W (HK k))):=fun hPS hA k hk W hb=>by
  have hle:st.lks.length≤p.R.length:=Nat.le_of_eq hA.2.2.1;have hPM:=((zgq p).1 hPS).1;obtain⟨x,hx⟩:=zjj hPS (Nat.lt_of_lt_of_le hk hle);have:=zxa p s q gg rr k (Nat.lt_of_lt_of_le hk hle) st.lks[k] W (hp.below hb) hf hPM x hx;rw[←zpm p]at this;rw[hHK]
  simpa [List.getD_eq_getElem?_getD,hk,Nat.lt_of_lt_of_le hk hle]using this
 have HCA:Hid (zaj p→StA p st→ ∀k (hk:k<st.lks.length) W,jb w W→Calls Tryz.prog 222 #[plV p s q gg rr,.agg #[st.lks[k].id,.int .u8 st.lks[k].ph,st.lks[k].gone,st.lks[k].left],k] W (zpq W (HQ k))):=fun hPS hA k hk W hb=>by
  have hle:st.lks.length≤p.R.length:=Nat.le_of_eq hA.2.2.1;have hPM:=((zgq p).1 hPS).1;obtain⟨x,hx⟩:=zjj hPS (Nat.lt_of_lt_of_le hk hle);have:=zxf p s q gg rr k (Nat.lt_of_lt_of_le hk hle) st.lks[k] W (hp.below hb) hf hPM x hx;rw[←zlm hPM (Nat.lt_of_lt_of_le hk hle) hx]at this;rw[hHQ]
  simpa [List.getD_eq_getElem?_getD,hk,Nat.lt_of_lt_of_le hk hle]using this
 have HKL:Hid (zaj p→StA p st→ ∀k,k<st.lks.length→(HK k).length≤1000∧ ∀s∈HK k,0≤s∧s≤99):=fun hPS hA k hk=>by
  have hle:st.lks.length≤p.R.length:=Nat.le_of_eq hA.2.2.1;have hPM:=((zgq p).1 hPS).1;have h1:=zxm hPM (Nat.lt_of_lt_of_le hk hle) st.lks[k];have h2:=zxl hPS (Nat.lt_of_lt_of_le hk hle) st.lks[k];rw[hHK]
  simpa [List.getD_eq_getElem?_getD,hk,Nat.lt_of_lt_of_le hk hle]using And.intro h1 h2
 have HQL:Hid (zaj p→StA p st→ ∀k,k<st.lks.length→(HQ k).length≤1000∧ ∀a∈HQ k,(1≤a.pt∧a.pt≤99)∧ ∃i,∃hi:i<st.sws.length,fix (fun x=>decide (x.id=a.pt)) p.P=(i:Int)∧st.sws[i].call=zbz st.sws a.pt):=fun hPS hA k hk=>by
  have hle:st.lks.length≤p.R.length:=Nat.le_of_eq hA.2.2.1;have hkr:=Nat.lt_of_lt_of_le hk hle;have hPM:=((zgq p).1 hPS).1;obtain⟨x,hx⟩:=zjj hPS hkr;have h1:=zxn (zlk hPM hkr x) st.lks[k];rw[←zlm hPM hkr hx]at h1;have e:HQ k=zc8 (zao p p.R[k]) st.lks[k]:=by rw[hHQ];simp[List.getD_eq_getElem?_getD,hk,hkr]
  rw[e];exact⟨h1,fun a ha=>⟨zpv hPS hkr _ a ha,zxv hA (zxu hPS hkr _ a ha)⟩⟩
 have HX1:Hid (∀k x,zbt p st k=some x→k<st.lks.length→zbw (HK k) x.1=none→decide (zde p st)=false):=fun k x h1 h2 h3=>zp2 (zxw h1 h2 (by rw[hHK]at h3;exact h3));have HX2:Hid (∀k x G,zbt p st k=some x→k<st.lks.length→zbw (HK k) x.1=some G→zbx (zbz st.sws) (HQ k) x.2=none→decide (zde p st)=false):=fun k x G h1 h2 h3 h4=>zp2 (zxx h1 h2 (by rw[hHK]at h3;exact h3) (by rw[hHQ]at h4;exact h4));have HX3:Hid (∀k x G A,zbt p st k=some x→zbw (HK k) x.1=some G→zbx (zbz st.sws) (HQ k) x.2=some A→zbt p st (k+1)=some (G,A)):=fun k x G A h1 h3 h4=>zxy h1 (by rw[hHK]at h3;exact h3) (by rw[hHQ]at h4;exact h4);have HX4:Hid (zaj p→StA p st→ ∀x,zbt p st st.lks.length=some x→decide (zde p st)=true):=fun h1 h2 x h3=>zxz h1 h2 h3;have HX0:Hid (zbt p st 0=some (fun _=>false,fun _=>0)):=rfl;have HNP:Hid (¬zaj p→decide (zde p st)=false):=fun h=>decide_eq_false fun h2=>h h2.1;have HNA:Hid (¬StA p st→decide (zde p st)=false):=fun h=>decide_eq_false fun h2=>h h2.2.1;clear hHK hHQ;generalize decide (zde p st)=B at *;generalize zbz st.sws=CL at *;generalize zbt p st=LR at *;obtain⟨a1,k1,rfl,-⟩:=hp.S;obtain⟨a2,k2,rfl,-⟩:=hp.P;obtain⟨a3,k3,rfl,-⟩:=hp.G;obtain⟨a4,k4,rfl,-⟩:=hp.R;obtain⟨b1,d1,rfl,-⟩:=hs.tks;obtain⟨b2,d2,rfl,g6⟩:=hs.sws;obtain⟨b3,d3,rfl,g7⟩:=hs.lks;have HSW:Hid (∀W,jb w W→SlA W 3 RSw b2 d2 st.sws):=fun W hb=>g6.below zc6 hb;have HLK:Hid (∀W,jb w W→SlA W 4 RLk b3 d3 st.lks):=fun W hb=>g7.below zc7 hb;have LL:=hsf.2.2;have LW:=hsf.2.1;clear hp hf hs hsf g6 g7;unfold plV stV at *;go_enter Tryz.func133,Tryz.ntmps133;go_upto_region 1 with fail;generalize hW0:World.alloc _ _=W0;have K0:Hid (jb w W0):=by show Below _ _ _;rw[←hW0];exact jal.alloc (by simp) _
 have HP0:Hid (jk W0 w.heap.size #[p.ver,p.par,js a1 p.S.length k1,js a2 p.P.length k2,js a3 p.G.length k3,js a4 p.R.length k4] 28):=by show _=_;rw[←hW0];exact(heap_alloc_old _ _ (by simp)).trans (heap_alloc_new _ _)
 have HS0:Hid (jk W0 (w.heap.size+1) #[js b1 st.tks.length d1,js b2 st.sws.length d2,js b3 st.lks.length d3] 33):=by show _=_;rw[←hW0];exact heap_alloc2_new _ _ _
 clear hW0;have KR:Hid (jb W0 W0):=Below.refl _ _;have bx0:=jm KR.out HP0.out;have bx1:=jm KR.out HS0.out;obtain⟨pp0,pp1,pp2,pp3,pp4,pp5⟩:=zan (bx0);obtain⟨ss0,ss1,ss2⟩:=zap (bx1);have lb:=block_lt_of_cell pp0;have ls:=block_lt_of_cell ss2;clear bx0 bx1;by_cases hPS:zaj p
 ·rw[decide_eq_true hPS]at HPS;by_cases hA:StA p st
  ·rw[decide_eq_true hA]at HPA;have HC2:=hI (HC.out hPS hA);have HCA2:=hI (HCA.out hPS hA);have HKL2:=hI (HKL.out hPS hA);have HQL2:=hI (HQL.out hPS hA);have HX42:=hI (HX4.out hPS hA);clear hPS hA HC HCA HKL HQL HX4 HNP HNA;go_wp2_with fail;refine(HPS.out W0 K0.out).mono ?_;rintro e W1 ⟨rfl,hb⟩;have HB1:Hid (jb W0 W1):=hb;have KB1:=jh K0 hb;clear hb pp0 pp1 pp2 pp3 pp4 pp5 ss0 ss1 ss2 lb ls;have bx0:=jm HB1.out HP0.out;have bx1:=jm HB1.out HS0.out;obtain⟨pp0,pp1,pp2,pp3,pp4,pp5⟩:=zan (bx0);obtain⟨ss0,ss1,ss2⟩:=zap (bx1);have lb:=block_lt_of_cell pp0;have ls:=block_lt_of_cell ss2;clear bx0 bx1;go_wp2_with fail;refine(HPA.out W1 KB1.out).mono ?_;rintro e W2 ⟨rfl,hb⟩;have HB2:=jh HB1 hb;clear hb pp0 pp1 pp2 pp3 pp4 pp5 ss0 ss1 ss2 lb ls HB1 KB1;go_wp2_with fail;have hR1:BoolRow ((W2.alloc (.cells Tryz.zeroCells279 279)).alloc (.cells Tryz.zeroCells168 168)) W2.heap.size 100 279 (fun _=>false):=(BoolRow.new W2 _ _ (by rw[zg2];simp) zir).below jal
   have hR2:IntRow ((W2.alloc (.cells Tryz.zeroCells279 279)).alloc (.cells Tryz.zeroCells168 168)) (W2.heap.size+1) 100 168 (fun _=>0):=by
    have:=IntRow.new (W2.alloc (.cells Tryz.zeroCells279 279)) Tryz.zeroCells168 168 (n:=100) (by rw[zhu];simp) zkg;rw[show(W2.alloc (.cells Tryz.zeroCells279 279)).heap.size=W2.heap.size+1 by simp]at this;exact this
   have HR1:=hI hR1;have HR2:=hI hR2;clear hR1 hR2;have LB0:Hid (W0.heap.size≤W2.heap.size):=HB2.out.size;go_wp2_with fail;go_loopg [7] st.lks.length (fun g i wr=> ∃(k:Nat) (H:Nat→Bool) (A:Nat→Int),k≤st.lks.length∧g=st.lks.length-k∧i= .int .i64 k∧jb W0 wr∧BoolRow wr W2.heap.size 100 279 H∧IntRow wr (W2.heap.size+1) 100 168 A∧LR k=some (H,A))
   case atStart=>exact⟨0,_,_,by omega,by omega,rfl,(HB2.out.alloc HB2.out.size _).alloc (by have:=HB2.out.size;simp;omega) _,HR1.out,HR2.out,HX0.out⟩
   case round=>
    obtain⟨k,H,A,hk,rfl,rfl,hb,hr1,hr2,hlr⟩:=hrel;have HB:=hI hb;have HR1k:=hI hr1;have HR2k:=hI hr2;have HLR:=hI hlr;have HBW:=jh K0 hb;have bx0:=jm hb HP0.out;have bx1:=jm hb HS0.out;obtain⟨pp0,pp1,pp2,pp3,pp4,pp5⟩:=zan (bx0);have ss1:jc wr (w.heap.size+1) 1 (js b2 st.sws.length d2):=jr bx1;have ss2:jc wr (w.heap.size+1) 2 (js b3 st.lks.length d3):=jr bx1;have lb:=block_lt_of_cell pp0;have ls:=block_lt_of_cell ss2;clear bx0 bx1;clear hb hr1 hr2 hlr HR1 HR2;by_cases hlt:k<st.lks.length
    ·have hd:decide ((k:Int)<(st.lks.length:Int))=true:=(by simp;omega);obtain⟨gl,ol,vs,eb,hvl,hvc,hvr⟩:=(HLK.out wr HBW.out).at_ k hlt;obtain rfl:vs=[.int .i64 st.lks[k].id,.int .u8 st.lks[k].ph,.int .i64 st.lks[k].gone,.int .i64 st.lks[k].left]:=hvr;subst eb;have y0:jc wr gl (ol+k * 4) st.lks[k].id:=hvc 0 (by simp);have y1:jc wr gl (ol+k * 4+1) (.int .u8 st.lks[k].ph):=hvc 1 (by simp);have y2:jc wr gl (ol+k * 4+2) st.lks[k].gone:=hvc 2 (by simp);have y3:jc wr gl (ol+k * 4+3) st.lks[k].left:=hvc 3 (by simp);have ly:=block_lt_of_cell y0;clear hvc hvl;have c0:(0:Int)≤(k:Int):=(by omega);have c1:(k:Int)<(st.lks.length:Int):=(by omega);go_upto_region 8 with fail
     go_still_tail 7,(by kernel_rfl)
     change wpList _ _ _ _ _ wr.drew;generalize hWD:wr.drew=WD;have hbD:jb wr WD:=(by rw[←hWD];exact(Below.refl _ _).drew);have HBD:=jh HBW hbD;have HBD0:=jh HB hbD;have HR1D:=hI (HR1k.out.below hbD);have HR2D:=hI (HR2k.out.below hbD);have HCk:=hI (HC2.out k hlt WD HBD.out);obtain⟨hkl,hkp⟩:=HKL2.out k hlt;have HKP:=hI hkp;have HE1:=hI (HX1.out k _ HLR.out hlt);have HE2:Hid (∀G,zbw (HK k) H=some G→zbx CL (HQ k) A=none→B=false):=fun G h1 h2=>HX2.out k _ G HLR.out hlt h1 h2;have HE3:Hid (∀G A',zbw (HK k) H=some G→zbx CL (HQ k) A=some A'→LR (k+1)=some (G,A')):=fun G A' h1 h2=>HX3.out k _ G A' HLR.out h1 h2;have HCq:=hI (HCA2.out k hlt);obtain⟨hql,hqp⟩:=HQL2.out k hlt;have HQP:=hI hqp;clear hWD hbD hkp hqp pp0 pp1 pp2 pp3 pp4 pp5 ss1 ss2 lb ls y0 y1 y2 y3 ly HLR HB HBW HR1k HR2k;generalize HK k=LH at *;generalize HQ k=LQ at *;go_wp2_with fail;refine HCk.out.mono ?_;rintro e WH ⟨ah,ch,rfl,ho,hb1⟩;have HO:Hid (IntOwn WH WD.heap.size (js ah LH.length ch) LH):=ho;have HBH:=jh HBD0 hb1;have HR1H:=hI (HR1D.out.below hb1);have HR2H:=hI (HR2D.out.below hb1);have LTA:Hid (W2.heap.size+1<WD.heap.size):=HR2D.out.lt;clear ho hb1 HCk HBD HBD0 HR1D HR2D;go_wp2_with fail;go_loopg [9] LH.length (fun g i wq=> ∃(m:Nat) (G:Nat→Bool),m≤LH.length∧g=LH.length-m∧i= .int .i64 m∧jb W0 wq∧BoolRow wq W2.heap.size 100 279 G∧IntRow wq (W2.heap.size+1) 100 168 A∧IntOwn wq WD.heap.size (js ah LH.length ch) LH∧zbw (LH.take m) H=some G)
     case atStart=>exact⟨0,H,by omega,by omega,rfl,HBH.out,HR1H.out,HR2H.out,HO.out,rfl⟩
     case round=>
      obtain⟨m,G,hm,rfl,rfl,hb,hr1,hr2,ho,hg⟩:=hrel;obtain⟨wo,rfl⟩: ∃wo:World,wo=wr:=⟨_,rfl⟩;have HBm:=hI hb;have HR1m:=hI hr1;have HR2m:=hI hr2;have HOm:=hI ho;have HGm:=hI hg;have HBWm:=jh K0 hb;clear hb hr1 hr2 ho hg HR1H HR2H HO HBH;by_cases hml:m<LH.length
      ·have hd2:decide ((m:Int)<(LH.length:Int))=true:=(by simp;omega);obtain⟨g,off,rfl,x0⟩:=(IntOwn.il HOm.out).cell m hml;have lx:=block_lt_of_cell x0;have lw:=HR1m.out.lt;have hkp:=HKP.out LH[m] (List.getElem_mem hml);have p0:(0:Int)≤LH[m]:=hkp.1;have p1:LH[m]<100:=(by omega);have m0:(0:Int)≤(m:Int):=(by omega);have m1:(m:Int)<(LH.length:Int):=(by omega);have v2:=HR1m.out.cell (q:=LH[m].toNat) (by omega);have v3:=HR1m.out.frozen LH[m].toNat;cases hmet:G LH[m].toNat with
       | true=>
        rw[hmet]at v2;have HE:Hid (B=false):=HE1.out ((zp0 hml HGm.out).1 hmet);clear hmet hkp;go_wp2_with fail;go_ret;exact⟨by rw[HE.out];rfl,HBWm.out⟩
       | false=>
        rw[hmet]at v2;have HG2:=hI ((zp0 hml HGm.out).2 hmet);have HROW:Hid (∀W',BoolRow W' W2.heap.size 100 279 G→BoolRow (W'.setCell ⟨W2.heap.size,LH[m].toNat,none⟩ (.bool true)) W2.heap.size 100 279 (zh5 G LH[m].toNat)):=fun W' h=>h.set (q:=LH[m].toNat) (by omega) true;clear hmet hkp;go_wp2_with fail;go_roundg (LH.length-(m+1))
        case measure=>go_light;omega
        case rel=>
         go_light;exact⟨m+1,_,by omega,by omega,by go_num,HBm.out.setCell LB0.out _,HROW.out _ HR1m.out,HR2m.out.other (by simp),zag HOm.out (a:=⟨W2.heap.size,_,none⟩) (Nat.lt_of_succ_lt LTA.out) _,HG2.out⟩
      ·have hd2:decide ((m:Int)<(LH.length:Int))=false:=by simp;omega
       have HG:Hid (zbw LH H=some G):=by
        have:=HGm.out;rw[List.take_of_length_le (by omega)]at this;exact this
       have bx0:=jm HBm.out HP0.out;have bx1:=jm HBm.out HS0.out;obtain⟨pp0,pp1,pp2,pp3,pp4,pp5⟩:=zan (bx0);have ss1:jc wo (w.heap.size+1) 1 (js b2 st.sws.length d2):=jr bx1;have ss2:jc wo (w.heap.size+1) 2 (jq gl ol st.lks.length d3):=jr bx1;have lb:=block_lt_of_cell pp0;have ls:=block_lt_of_cell ss2;clear bx0 bx1;obtain⟨gl2,ol2,vs2,eb2,hvl2,hvc2,hvr2⟩:=(HLK.out wo HBWm.out).at_ k hlt;obtain rfl:vs2=[.int .i64 st.lks[k].id,.int .u8 st.lks[k].ph,.int .i64 st.lks[k].gone,.int .i64 st.lks[k].left]:=hvr2;cases eb2;have y0:jc wo gl (ol+k * 4) st.lks[k].id:=hvc2 0 (by simp);have y1:jc wo gl (ol+k * 4+1) (.int .u8 st.lks[k].ph):=hvc2 1 (by simp);have y2:jc wo gl (ol+k * 4+2) st.lks[k].gone:=hvc2 2 (by simp);have y3:jc wo gl (ol+k * 4+3) st.lks[k].left:=hvc2 3 (by simp);have ly:=block_lt_of_cell y0;clear hvc2 hvl2;go_upto_region 15 with fail
       go_still_tail 7,(by kernel_rfl)
       change wpList _ _ _ _ _ wo.drew;generalize hWE:wo.drew=WE;have hbE:jb wo WE:=(by rw[←hWE];exact(Below.refl _ _).drew);have HBE:=jh HBWm hbE;have HBE0:=jh HBm hbE;have HR1E:=hI (HR1m.out.below hbE);have HR2E:=hI (HR2m.out.below hbE);have HCk:=hI (HCq.out WE HBE.out);have HF2:=hI (HE2.out G HG.out);have HF3:=hI (fun A'=>HE3.out G A' HG.out);clear hWE hbE pp0 pp1 pp2 pp3 pp4 pp5 ss1 ss2 lb ls y0 y1 y2 y3 ly HBm HBWm HR1m HR2m HOm HGm HE1 HE2 HE3 HCq HKP;go_wp2_with fail;refine HCk.out.mono ?_;rintro e WQ ⟨aq,cq,rfl,ho,hb1⟩;have HO:Hid (AskOwn WQ WE.heap.size (js aq LQ.length cq) LQ):=ho;have HBH:=jh HBE0 hb1;have HR1H:=hI (HR1E.out.below hb1);have HR2H:=hI (HR2E.out.below hb1);have LTB:Hid (W2.heap.size+1<WE.heap.size):=HR2E.out.lt;clear ho hb1 HCk HBE HBE0 HR1E HR2E;go_wp2_with fail;go_loopg [11] LQ.length (fun g i wq=> ∃(m:Nat) (C:Nat→Int),m≤LQ.length∧g=LQ.length-m∧i= .int .i64 m∧jb W0 wq∧BoolRow wq W2.heap.size 100 279 G∧IntRow wq (W2.heap.size+1) 100 168 C∧AskOwn wq WE.heap.size (js aq LQ.length cq) LQ∧zbx CL (LQ.take m) A=some C)
       case atStart=>exact⟨0,A,by omega,by omega,rfl,HBH.out,HR1H.out,HR2H.out,HO.out,rfl⟩
       case round=>
        obtain⟨m,C,hm,rfl,rfl,hb,hr1,hr2,ho,hg⟩:=hrel;obtain⟨wo,rfl⟩: ∃wo:World,wo=wr:=⟨_,rfl⟩;have HBm:=hI hb;have HR1m:=hI hr1;have HR2m:=hI hr2;have HOm:=hI ho;have HGm:=hI hg;clear hb hr1 hr2 ho hg HR1H HR2H HO HBH;by_cases hml:m<LQ.length
        ·have hd2:decide ((m:Int)<(LQ.length:Int))=true:=by simp;omega
         have HI:SlA wo 3 ze1 aq cq LQ:=by
          obtain⟨a',c',e',h'⟩:=AskOwn.sl HOm.out;cases e';exact h'
         obtain⟨g,off,vx,rfl,hxl,hxc,hxr⟩:=HI.at_ m hml;obtain rfl:vx=[.int .i64 LQ[m].pt,.int .i64 LQ[m].lie,.int .i64 LQ[m].pl]:=hxr;have x0:jc wo g (off+m * 3) LQ[m].pt:=hxc 0 (by simp);have x1:jc wo g (off+m * 3+1) LQ[m].lie:=hxc 1 (by simp);have x2:jc wo g (off+m * 3+2) LQ[m].pl:=hxc 2 (by simp);clear hxl hxc HI;have lx:=block_lt_of_cell x0;have m0:(0:Int)≤(m:Int):=(by omega);have m1:(m:Int)<(LQ.length:Int):=(by omega);obtain⟨⟨q1,q2⟩,i,hi,hfx,hcl⟩:=HQP.out LQ[m] (List.getElem_mem hml);have p0:(0:Int)≤LQ[m].pt:=(by omega);have p1:LQ[m].pt<100:=(by omega);have i0:(0:Int)≤(i:Int):=(by omega);have i1:(i:Int)<(st.sws.length:Int):=(by omega);have HFX:=hI hfx;have HCL:=hI hcl;clear hfx hcl;go_upto_region 20 with fail;generalize hWX:World.alloc _ _=WX;have hbX:jb wo WX:=(by rw[←hWX];exact jal);have HBX:=jh HBm hbX;have HBWX:=jh K0 HBX.out;have hz:jk WX wo.heap.size #[LQ[m].pt,LQ[m].lie,LQ[m].pl] 281:=(by rw[←hWX];exact heap_alloc_new _ _);have HR1X:=hI (HR1m.out.below hbX);have HR2X:=hI (HR2m.out.below hbX);have HOX:Hid (AskOwn WX WE.heap.size (jq g off LQ.length cq) LQ):=zau HOm.out hbX;have z0:jc WX wo.heap.size 0 LQ[m].pt:=jr hz;have z1:jc WX wo.heap.size 1 LQ[m].lie:=jr hz;have bx0:=jm HBX.out HP0.out;have bx1:=jm HBX.out HS0.out;obtain⟨pp0,pp1,pp2,pp3,pp4,pp5⟩:=zan (bx0);have ss1:jc WX (w.heap.size+1) 1 (js b2 st.sws.length d2):=jr bx1;have ss2:jc WX (w.heap.size+1) 2 (jq gl ol st.lks.length d3):=jr bx1;have lb:=block_lt_of_cell pp0;have ls:=block_lt_of_cell ss2;clear bx0 bx1;obtain⟨gs,os,vw,ebs,hsl,hsc,hsr⟩:=(HSW.out WX HBWX.out).at_ i hi;obtain rfl:vw=[.int .i64 st.sws[i].id,.int .i64 st.sws[i].lie,.int .i64 st.sws[i].call]:=hsr;subst ebs;have w2:jc WX gs (os+i * 3+2) st.sws[i].call:=hsc 2 (by simp);have t2:=HR2X.out.cell (q:=LQ[m].pt.toNat) (by omega);clear hsl hsc hz x0 x1 x2 lx hWX hbX HBm HR1m HR2m HOm;have hR: ∀(d:Nat) (os:Array Obj),jb w (grow (redrawn WX d) os):=fun d os=>HBWX.out.trans ((below_regrown WX d os).mono HBWX.out.size)
         have cH:Hid (∀(d:Nat) (os:Array Obj),Calls Tryz.prog 223 #[.agg #[p.ver,p.par,js a1 p.S.length k1,js a2 p.P.length k2,js a3 p.G.length k3,js a4 p.R.length k4],LQ[m].pt] (grow (redrawn WX d) os) fun e w''=>e= .returned (.int .i64 (i:Int))∧ ∃p:Regrown,w''=grow (redrawn WX p.d) p.os):=fun d os=>by
          have:=Calls.regrown_of (HPT.out _ LQ[m].pt (hR d os));rw[HFX.out]at this;exact this
         have Z0:=cell_regrown z0;have Z1:=cell_regrown z1;have P0:=cell_regrown pp0;have P1:=cell_regrown pp1;have P2:=cell_regrown pp2;have P3:=cell_regrown pp3;have P4:=cell_regrown pp4;have P5:=cell_regrown pp5;have S1:=cell_regrown ss1;have X2:=cell_regrown w2;have T2:=cell_regrown t2;clear hR z0 z1 pp0 pp1 pp2 pp3 pp4 pp5 ss1 ss2 w2 t2 lb ls;have HBAD:Hid ((C LQ[m].pt.toNat≠0∧C LQ[m].pt.toNat≠LQ[m].lie)∨CL LQ[m].pt≠LQ[m].lie→B=false):=fun h=>HF2.out ((zp1 hml HGm.out).1 h);have HGOOD:=hI ((zp1 hml HGm.out).2);have HCQ:Hid (CL LQ[m].pt=st.sws[i].call):=HCL.out.symm;have HYB:Hid (∀d os,jb W0 (grow (redrawn WX d) os)):=fun d os=>HBX.out.trans ((below_regrown WX d os).mono HBX.out.size);have HYW:Hid (∀d os,jb WX (grow (redrawn WX d) os)):=fun d os=>below_regrown WX d os;have hpt:LQ[m].pt.toNat<100:=(by omega);by_cases h1:C LQ[m].pt.toNat=0
         ·obtain⟨ta1,tb1⟩:=jy h1;by_cases h3:st.sws[i].call=LQ[m].lie
          ·obtain⟨ta3,tb3⟩:=jy h3;have HG2:=hI (HGOOD.out (by rw[HCQ.out];rintro(⟨k1,k2⟩ | k3);exact k1 h1;exact k3 h3))
           try clear h3
           try clear h2
           try clear h1
           refine wp_region_quiet_below (by kernel_rfl) (by kernel_rfl) ?_
           repeat (go_big_quiet_step (first | (with_reducible exact cH.out _ _)))
           refine wpQuiet_nil ?_;rintro _ ⟨⟨dq,osq⟩,rfl⟩;have z0:=Z0 dq osq;have z1:=Z1 dq osq;have hY:=HYW.out dq osq;have HY0:=hI (HYB.out dq osq);clear Z0 Z1 P0 P1 P2 P3 P4 P5 S1 X2 T2 cH HYB HYW;generalize grow (redrawn WX dq) osq=WY at *;have HR1Y:=hI (HR1X.out.below hY);have HR2Y:=hI (HR2X.out.below hY);have HOY:=hI (zau HOX.out hY);have lz:=block_lt_of_cell z0;have v2:=HR2Y.out.cell (q:=LQ[m].pt.toNat) hpt;have v3:=HR2Y.out.frozen LQ[m].pt.toNat;have lw:=HR2Y.out.lt;clear hY;go_wp2_with fail;go_roundg (LQ.length-(m+1))
           case measure=>go_light;omega
           case rel=>
            go_light;exact⟨m+1,_,by omega,by omega,by go_num,HY0.out.setCell (Nat.le_succ_of_le LB0.out) _,HR1Y.out.other (by simp),HR2Y.out.set (q:=LQ[m].pt.toNat) hpt _,zag HOY.out (a:=⟨W2.heap.size+1,_,none⟩) LTB.out _,HG2.out⟩
          ·obtain⟨ta3,tb3⟩:=jn h3;have HE:=hI (HBAD.out (.inr (by rw[HCQ.out];exact h3)))
           try clear h3
           try clear h2
           try clear h1
           refine wp_region_quiet_below (by kernel_rfl) (by kernel_rfl) ?_
           repeat (go_big_quiet_step (first | (with_reducible exact cH.out _ _)))
           refine wpQuiet_nil ?_;rintro _ ⟨⟨dq,osq⟩,rfl⟩;go_wp2_with fail;go_ret;exact⟨by rw[HE.out];rfl,K0.out.trans ((HYB.out dq osq).mono K0.out.size)⟩
         ·obtain⟨ta1,tb1⟩:=jn h1;by_cases h2:C LQ[m].pt.toNat=LQ[m].lie
          ·obtain⟨ta2,tb2⟩:=jy h2;by_cases h3:st.sws[i].call=LQ[m].lie
           ·obtain⟨ta3,tb3⟩:=jy h3;have HG2:=hI (HGOOD.out (by rw[HCQ.out];rintro(⟨k1,k2⟩ | k3);exact k2 h2;exact k3 h3))
            try clear h3
            try clear h2
            try clear h1
            refine wp_region_quiet_below (by kernel_rfl) (by kernel_rfl) ?_
            repeat (go_big_quiet_step (first | (with_reducible exact cH.out _ _)))
            refine wpQuiet_nil ?_;rintro _ ⟨⟨dq,osq⟩,rfl⟩;have z0:=Z0 dq osq;have z1:=Z1 dq osq;have hY:=HYW.out dq osq;have HY0:=hI (HYB.out dq osq);clear Z0 Z1 P0 P1 P2 P3 P4 P5 S1 X2 T2 cH HYB HYW;generalize grow (redrawn WX dq) osq=WY at *;have HR1Y:=hI (HR1X.out.below hY);have HR2Y:=hI (HR2X.out.below hY);have HOY:=hI (zau HOX.out hY);have lz:=block_lt_of_cell z0;have v2:=HR2Y.out.cell (q:=LQ[m].pt.toNat) hpt;have v3:=HR2Y.out.frozen LQ[m].pt.toNat;have lw:=HR2Y.out.lt;clear hY;go_wp2_with fail;go_roundg (LQ.length-(m+1))
            case measure=>go_light;omega
            case rel=>
             go_light;exact⟨m+1,_,by omega,by omega,by go_num,HY0.out.setCell (Nat.le_succ_of_le LB0.out) _,HR1Y.out.other (by simp),HR2Y.out.set (q:=LQ[m].pt.toNat) hpt _,zag HOY.out (a:=⟨W2.heap.size+1,_,none⟩) LTB.out _,HG2.out⟩
           ·obtain⟨ta3,tb3⟩:=jn h3;have HE:=hI (HBAD.out (.inr (by rw[HCQ.out];exact h3)))
            try clear h3
            try clear h2
            try clear h1
            refine wp_region_quiet_below (by kernel_rfl) (by kernel_rfl) ?_
            repeat (go_big_quiet_step (first | (with_reducible exact cH.out _ _)))
            refine wpQuiet_nil ?_;rintro _ ⟨⟨dq,osq⟩,rfl⟩;go_wp2_with fail;go_ret;exact⟨by rw[HE.out];rfl,K0.out.trans ((HYB.out dq osq).mono K0.out.size)⟩
          ·obtain⟨ta2,tb2⟩:=jn h2;have HE:=hI (HBAD.out (.inl ⟨h1,h2⟩))
           try clear h3
           try clear h2
           try clear h1
           refine wp_region_quiet_below (by kernel_rfl) (by kernel_rfl) ?_
           repeat (go_big_quiet_step (first | (with_reducible exact cH.out _ _)))
           refine wpQuiet_nil ?_;rintro _ ⟨⟨dq,osq⟩,rfl⟩;go_wp2_with fail;go_ret;exact⟨by rw[HE.out];rfl,K0.out.trans ((HYB.out dq osq).mono K0.out.size)⟩
        ·have hd2:decide ((m:Int)<(LQ.length:Int))=false:=by simp;omega
         have HG2:Hid (zbx CL LQ A=some C):=by
          have:=HGm.out;rw[List.take_of_length_le (by omega)]at this;exact this
         have HN:=hI (HF3.out C HG2.out);go_wp2_with fail;go_roundg (st.lks.length-(k+1))
         case measure=>go_light;omega
         case rel=>go_light;exact⟨k+1,G,C,by omega,by omega,by go_num,HBm.out,HR1m.out,HR2m.out,HN.out⟩
    ·obtain rfl:k=st.lks.length:=(by omega);have hd:decide ((st.lks.length:Int)<(st.lks.length:Int))=false:=(by simp);have HV:Hid (B=true):=HX42.out _ HLR.out;go_wp2_with fail;go_ret;exact⟨by rw[HV.out];rfl,HBW.out⟩
  ·rw[decide_eq_false hA]at HPA;have HV:=hI (HNA.out hA);clear hPS hA HC HCA HKL HQL HX4 HNP HNA HX0 HX1 HX2 HX3;go_wp2_with fail;refine(HPS.out W0 K0.out).mono ?_;rintro e W1 ⟨rfl,hb⟩;have HB1:Hid (jb W0 W1):=hb;have KB1:=jh K0 hb;clear hb pp0 pp1 pp2 pp3 pp4 pp5 ss0 ss1 ss2 lb ls;have bx0:=jm HB1.out HP0.out;have bx1:=jm HB1.out HS0.out;obtain⟨pp0,pp1,pp2,pp3,pp4,pp5⟩:=zan (bx0);obtain⟨ss0,ss1,ss2⟩:=zap (bx1);have lb:=block_lt_of_cell pp0;have ls:=block_lt_of_cell ss2;clear bx0 bx1;go_wp2_with fail;refine(HPA.out W1 KB1.out).mono ?_;rintro e W2 ⟨rfl,hb⟩;have HB2:=jh KB1 hb;clear hb pp0 pp1 pp2 pp3 pp4 pp5 ss0 ss1 ss2 lb ls HB1 KB1;go_wp2_with fail;go_ret;exact⟨by rw[HV.out];rfl,HB2.out⟩
 ·rw[decide_eq_false hPS]at HPS;have HV:=hI (HNP.out hPS);clear hPS HC HCA HKL HQL HX4 HNP HNA HX0 HX1 HX2 HX3;go_wp2_with fail;refine(HPS.out W0 K0.out).mono ?_;rintro e W1 ⟨rfl,hb⟩;have KB1:=jh K0 hb;clear hb pp0 pp1 pp2 pp3 pp4 pp5 ss0 ss1 ss2 lb ls;go_wp2_with fail;go_ret;exact⟨by rw[HV.out];rfl,KB1.out⟩
end Go.Proofs.YtbiehpjhhopjaaaGreat
