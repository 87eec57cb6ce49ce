/-
 plan.Check,walked.
-/
import Derived.Test.YtbiehpjhhopjaaaGreatTPlanF
import Derived.Test.YtbiehpjhhopjaaaGreatTData
import Derived.Deep.WholeRow
import Derived.Test.YtbiehpjhhopjaaaGreatTPlanA
import Derived.Test.YtbiehpjhhopjaaaGreatTTrackC
import Derived.Test.YtbiehpjhhopjaaaGreatTIxfn
import Derived.Test.YtbiehpjhhopjaaaGreatTPlanE
set_option linter.unusedVariables false
set_option linter.unusedSimpArgs false
set_option maxRecDepth 100000
set_option maxHeartbeats 16000000
namespace Go.Proofs.YtbiehpjhhopjaaaGreat
open Go.RowKit Go.Sort
theorem zbh {P:Program}{ops:Array Oper}{rest:List Oper}{o:Oper}{a:Act}{w:World}{Q:Exit→Act→World→Prop}(hgd:o.guard=none) (ty:TypeId) (x y:Operand) (ho:o.op= .store ty x y)
  (g:Nat) (cells old:Array Value) (t:TypeId) (hx:a.eval x= .pointer (some ⟨g,0,none⟩)) (hy:a.eval y= .agg cells) (hg:jk w g old t) (hi:(P.info? ty).map (·.size)=some cells.size)
  (hs:old.size=cells.size) (h1:cells.all (·.oneCell')=true)
  (h:wpList P ops Q rest (a.put o.dst undef) (w.setRow g cells)):wpList P ops Q (o::rest) a w:=
 wpList_plain hgd fun _ hK=>by
  unfold Oper.wp execOp;simp only[ho,hx,hy,Instr.storeAt,Instr.sureAddr,Sem.run_bind,Sem.run_pure,Result.andThen_ok,run_storeVar_row w g t ty old cells hg hi hs h1];exact hK _ _ h
theorem zsy {P:Program}{ops:Array Oper}{rest:List Oper}{o:Oper}{a:Act}{w:World}{Q:Exit→Act→World→Prop}(hgd:o.guard=none) (ty:TypeId) (x y:Operand) (ho:o.op= .store ty x y)
  (cells old:Array Value) (hx:a.eval x= .pointer (some ⟨w.heap.size,0,none⟩)) (hy:a.eval y= .agg cells) (hi:(P.info? ty).map (·.size)=some cells.size)
  (hs:old.size=cells.size) (h1:cells.all (·.oneCell')=true)
  (h:wpList P ops Q rest (a.put o.dst undef) (w.alloc (.cells cells ty))):wpList P ops Q (o::rest) a (w.alloc (.cells old ty)):=
 zbh hgd ty x y ho w.heap.size cells old ty hx hy (heap_alloc_new _ _) hi hs h1 (by rw[World.setRow_alloc_new];exact h)
theorem IntArr.one {cs:Array Value}{f:Nat→Int}(h:IntArr cs f):cs.all (·.oneCell')=true:=by
 rw[Array.all_eq_true];intro i hi;have h2:=h.2 i (by rw[←h.1];exact hi);rw[Array.getElem?_eq_getElem hi]at h2;rw[Option.some.inj h2];rfl
theorem zsz {l:List Sec}(hA:za4 l l.length) (q:Nat):zax l l.length q≤3:=by
 unfold zax;rw[List.take_length];cases hf:l.find? (fun s=>decide (s.id=(q:Int)))with
 | none=>simp
 | some s=>
  obtain⟨i,hi,rfl⟩:=List.getElem_of_mem (List.mem_of_find?_eq_some hf);rcases(hA i hi hi).1.2.2 with h | h
  ·simp;omega
  ·simp;omega
def zaq (p:Pl):Prop:=zgb p∧zgx (zax p.S p.S.length) p∧zgc (zax p.S p.S.length) p p.R.length
instance (p:Pl):Decidable (zaq p):=by unfold zaq;exact inferInstance
theorem zs0 (p:Pl) (s q g r:Value) (w:World) (hp:PlM w s q g r p) (hf:p.Fit):Calls Tryz.prog 208 #[plV p s q g r] w (zdz w (if zaq p then 0 else 8)):=by
 have HPM:Hid (∀w',jb w w'→PlM w' s q g r p):=fun w' hb=>hp.below hb;have HPT:Hid (∀w',jb w w'→za4 p.S p.S.length→Calls Tryz.prog 297 #[plV p s q g r] w' (zae w' (decide (zcf p)))):=fun w' hb hA=>zso p s q g r w' (hp.below hb) hf hA;have HSI:Hid (∀w' cs f,jb w w'→IntArr cs f→(∀q,f q≤3)→Calls Tryz.prog 298 #[plV p s q g r,.agg cs] w' (zae w' (decide (zcm f p.G)))):=fun w' cs f hb h1 h2=>zsw p s q g r cs f w' (hp.below hb) hf h1 h2
 have HRO:Hid (∀w' (x:Rt) vp vo vf cs f,jb w w'→RtM w' vp vo vf x→IntArr cs f→(∀q,f q≤3)→zcm f p.G→Calls Tryz.prog 300 #[plV p s q g r,.agg #[x.id,x.E,x.X,vp,vo,vf,x.T],.agg cs] w' (zae w' (decide (zb2 f p.G p.P x)))):=
  fun w' x vp vo vf cs f hb hr h1 h2 h3=>zsx p x s q g r vp vo vf cs f w' (hp.below hb) hf hr h1 h2 h3
 have HE:Hid (∀n:Int,(zaq p→n=0)→(¬zaq p→n=8)→(if zaq p then(0:Int)else 8)=n):=fun n h1 h2=>by
  by_cases h:zaq p
  ·rw[if_pos h,h1 h]
  ·rw[if_neg h,h2 h]
 have HU:Hid (zaq p↔zgb p∧zgx (zax p.S p.S.length) p∧zgc (zax p.S p.S.length) p p.R.length):=Iff.rfl;obtain⟨⟨a1,c1,rfl,k1⟩,⟨a2,c2,rfl,k2⟩,⟨a3,c3,rfl,k3⟩,⟨a4,c4,rfl,k4⟩⟩:=hp;have HS:Hid (∀w',jb w w'→SlA w' 3 zas a1 c1 p.S):=fun w' hb=>k1.below zbo hb;have HR:Hid (∀w',jb w w'→SlA w' 7 RRt a4 c4 p.R):=fun w' hb=>k4.below zcv hb;have hs:=hf.S;have hr:=hf.R;have HEN:=hI hf.ends;have HH:Hid (zgb p↔1≤p.ver∧p.ver≤2147483647∧0≤p.par∧p.par<p.ver∧zb8 p.S):=Iff.rfl;clear k1 k2 k3 k4 hf;unfold plV at *;generalize(if zaq p then(0:Int)else 8)=E at *;have HB:Hid (¬zgb p→E=8):=fun h=>HE 8 (fun h'=>absurd (HU.1 h').1 h) (fun _=>rfl);go_enter Tryz.func208,Tryz.ntmps208;go_upto_region 1 with fail;generalize hW:w.alloc _=W;have hbW:jb w W:=by rw[←hW];exact jal
 have K0:=hI hbW;have y0:jc W w.heap.size 0 p.ver:=by rw[←hW];simp
 have y1:jc W w.heap.size 1 p.par:=by rw[←hW];simp
 have y2:jc W w.heap.size 2 (js a1 p.S.length c1):=by rw[←hW];simp
 have y3:jc W w.heap.size 3 (js a2 p.P.length c2):=by rw[←hW];simp
 have y4:jc W w.heap.size 4 (js a3 p.G.length c3):=by rw[←hW];simp
 have y5:jc W w.heap.size 5 (js a4 p.R.length c4):=by rw[←hW];simp
 have hz:w.heap.size<W.heap.size:=by rw[←hW];simp
 have HY:Hid (∀W',jb W W'→(jc W' w.heap.size 0 p.ver∧jc W' w.heap.size 1 p.par∧jc W' w.heap.size 2 (js a1 p.S.length c1)∧jc W' w.heap.size 3 (js a2 p.P.length c2)∧jc W' w.heap.size 4 (js a3 p.G.length c3)∧jc W' w.heap.size 5 (js a4 p.R.length c4))∧jb w W'):=fun W' hb=>
  ⟨⟨zac hb y0,zac hb y1,zac hb y2,zac hb y3,zac hb y4,zac hb y5⟩,jt hbW hb⟩
 clear hW hbW;go_wp2_with fail
 all_goals try (go_ret;exact⟨za0 (HB (fun h=>by obtain⟨h1,h2,h3,h4,-⟩:=HH.1 h;omega)).symm,K0⟩)
 have HPH:Hid (zb8 p.S→zgb p):=fun h=>HH.2 ⟨by omega,by omega,by omega,by omega,h⟩;refine(zsu a1 c1 p.S _ (HS _ K0) hs HEN).mono ?_;rintro e w1 ⟨rfl,hb1⟩;have HB1:=hI hb1;obtain⟨⟨z0,z1,z2,z3,z4,z5⟩,hb01⟩:=HY _ hb1;have K1:=hI hb01;have l1:w.heap.size<w1.heap.size:=Nat.lt_of_lt_of_le hz hb1.size;clear y0 y1 y2 y3 y4 y5 hb01 hb1;by_cases hsm:zb8 p.S
 ·rw[if_pos hsm];have HPD:=hI (HPH hsm);have HSA:=hI hsm.2.1;have H3:Hid (∀q,zax p.S p.S.length q≤3):=zsz hsm.2.1;clear hsm;go_wp2_with fail;refine(zsk a1 c1 p.S _ (HS _ K1) hs HSA).mono ?_;rintro e w2 ⟨cs,rfl,hcs,hb2⟩;have HCS:=hI hcs;have HB2:=jh HB1 hb2;have hz0:Tryz.zeroCells168.size=cs.size:=by rw[zhu,hcs.1];simp
  clear hb2 hcs;go_upto_region 4 with(refine zsy rfl 168 _ _ rfl cs Tryz.zeroCells168 rfl rfl (by rw[zhv,HCS.out.1]) hz0 HCS.one ?_);generalize hW5:w2.alloc _=W5;have HB5:Hid (jb W W5):=by show Below _ _ _;rw[←hW5];exact HB2.alloc HB2.size _
  have HGC:Hid (∀W',jb W5 W'→jk W' w2.heap.size cs 168):=fun W' hb=>(hb.block _ (by rw[←hW5];simp)).trans (by rw[←hW5];exact heap_alloc_new _ _);clear hW5 hz0 z0 z1 z2 z3 z4 z5 l1;obtain⟨⟨z0,z1,z2,z3,z4,z5⟩,hb05⟩:=HY _ HB5;have K5:=hI hb05;have HCZ:Hid ((Tryz.prog.info? 168).map (·.size)=some cs.size):=by show _=_;rw[zhv,HCS.out.1]
  clear hb05;have HMB:Hid (¬zgx (zax p.S p.S.length) p→E=8):=fun h=>HE 8 (fun h'=>absurd (HU.1 h').2.1 h) (fun _=>rfl);go_wp2_with fail;refine(HPT _ K5 HSA).mono ?_;rintro e w6 ⟨rfl,hb6⟩;have HB6:Hid (jb W5 w6):=hb6;have HB06:=jh HB5 hb6;obtain⟨⟨x0,x1,x2,x3,x4,x5⟩,hb06⟩:=HY _ HB06;have K6:=hI hb06;have HG6:=hI (HGC _ HB6);clear hb6 hb06 z0 z1 z2 z3 z4 z5;by_cases hpm:zcf p
  ·have hd:=decide_eq_true hpm;rw[hd];have HPTM:=hI hpm;clear hd hpm;go_wp2_with fail;refine wp_load_row 168 (.tmp 3) rfl w2.heap.size rfl 168 cs (0,0) _ HG6 Tryz.underlying168 rfl HCZ ?_;simp[Act.put];go_wp2_with fail;refine(HSI _ cs _ K6 HCS H3).mono ?_;rintro e w7 ⟨rfl,hb7⟩;have HB7:=jh HB6 hb7;have HB07:=jh HB5 HB7;clear hb7 x0 x1 x2 x3 x4 x5;obtain⟨⟨x0,x1,x2,x3,x4,x5⟩,hb07⟩:=HY _ HB07;have K7:=hI hb07;clear hb07;by_cases hsi:zcm (zax p.S p.S.length) p.G
   ·have hd:=decide_eq_true hsi;rw[hd];have HSIM:=hI hsi;clear hd hsi;go_wp2_with fail;refine(zsh a4 c4 p.R 16 _ (HR _ K7) hr).mono ?_;rintro e w8 ⟨rfl,hb8⟩;have HB8:=jh HB7 hb8;have HB08:=jh HB5 HB8;clear hb8 x0 x1 x2 x3 x4 x5;obtain⟨⟨x0,x1,x2,x3,x4,x5⟩,hb08⟩:=HY _ HB08;have K8:=hI hb08;clear hb08;by_cases hri:zat Rt.id p.R p.R.length∧(p.R.length:Int)≤16
    ·have hd:=decide_eq_true hri;rw[hd];have HMID:Hid (zgx (zax p.S p.S.length) p):=⟨HPTM,HSIM,hri⟩;clear hd hri;go_wp2_with fail;go_loopg [53] p.R.length (fun g i wr=> ∃k:Nat,k≤p.R.length∧g=p.R.length-k∧i= .int .i64 k∧jb W5 wr∧zgc (zax p.S p.S.length) p k)
     case atStart=>exact⟨0,by omega,by omega,rfl,HB8,fun i hi h=>absurd h (by omega)⟩
     case round=>
      obtain⟨k,hk,rfl,rfl,hb,hA⟩:=hrel;obtain⟨wo,rfl⟩: ∃wo:World,wo=wr:=⟨_,rfl⟩;have HB:=hI hb;have HA:=hI hA;have HB0:=jh HB5 hb;clear hb hA x0 x1 x2 x3 x4 x5;obtain⟨-,hb0⟩:=HY _ HB0;have KO:=hI hb0;clear hb0;by_cases hlt:k<p.R.length
      ·obtain⟨b,off,vp,vo,vf,rfl,r0,r1,r2,r3,r4,r5,r6,hrm⟩:=(HR _ KO).rt hlt;obtain⟨ap,cp,rfl,-⟩:=hrm.A.at_;obtain⟨ao,co,rfl,-⟩:=hrm.O.at_;obtain⟨af,cf,rfl,-⟩:=hrm.fl;have HRM:=hI hrm;have e0:(0:Int)≤(k:Int):=(by omega);have e1:(k:Int)<(p.R.length:Int):=(by omega);have l9:=World.block_lt_of_cell? _ _ r0;clear hrm;go_upto_region 9 with fail;generalize hW9:wo.alloc _=W9;have hb9:jb wo W9:=(by rw[←hW9];exact jal);have HB9:=jh HB hb9;have HB09:=jh HB5 HB9;have q0:jc W9 wo.heap.size 0 p.R[k].id:=(by rw[←hW9];simp);have q1:jc W9 wo.heap.size 1 p.R[k].E:=(by rw[←hW9];simp);have q2:jc W9 wo.heap.size 2 p.R[k].X:=(by rw[←hW9];simp);have q3:jc W9 wo.heap.size 3 (js ap p.R[k].A.length cp):=(by rw[←hW9];simp);have q4:jc W9 wo.heap.size 4 (js ao p.R[k].O.length co):=(by rw[←hW9];simp);have q5:jc W9 wo.heap.size 5 (js af p.R[k].fl.length cf):=(by rw[←hW9];simp);have q6:jc W9 wo.heap.size 6 p.R[k].T:=(by rw[←hW9];simp);have HRM9:=hI (HRM.below hb9);have HG9:=hI (HGC _ HB9);clear hW9 hb9 r0 r1 r2 r3 r4 r5 r6 l9;obtain⟨⟨x0,x1,x2,x3,x4,x5⟩,hb09⟩:=HY _ HB09;have K9:=hI hb09;clear hb09;have HCL:Hid (Calls Tryz.prog 300 _ W9 _):=HRO W9 p.R[k] _ _ _ cs _ K9 HRM9 HCS H3 HSIM;go_wp2_with fail;refine wp_load_row 168 (.tmp 3) rfl w2.heap.size rfl 168 cs (0,0) _ HG9 Tryz.underlying168 rfl HCZ ?_;simp[Act.put];go_wp2_with fail;refine HCL.mono ?_;rintro e w10 ⟨rfl,hb10⟩;have HB10:=jh HB9 hb10;have K10:=jh K9 hb10;clear hb10 HCL;by_cases hrt:zb2 (zax p.S p.S.length) p.G p.P p.R[k]
       ·have HST:=hI (zq8 hlt HA hrt);have hd:=decide_eq_true hrt;rw[hd];clear hd hrt;go_wp2_with fail;go_roundg (p.R.length-(k+1))
        case measure=>go_light;omega
        case rel=>go_light;exact⟨k+1,by omega,by omega,by go_num,HB10,HST⟩
       ·have HE8:Hid (E=8):=HE 8 (fun h'=>absurd ((HU.1 h').2.2 k hlt hlt) hrt) (fun _=>rfl);have hd:=decide_eq_false hrt;rw[hd];clear hd hrt;go_wp2_with fail;go_ret;exact⟨za0 HE8.symm,K10⟩
      ·obtain rfl:k=p.R.length:=(by omega);have HE0:Hid (E=0):=HE 0 (fun _=>rfl) (fun h'=>absurd (HU.2 ⟨HPD,HMID,HA⟩) h');go_wp2_with fail;go_ret;exact⟨za0 HE0.symm,KO⟩
    ·have HE8:=hI (HMB fun h=>hri h.2.2);have hd:=decide_eq_false hri;rw[hd];clear hd hri;go_wp2_with fail;go_ret;exact⟨za0 HE8.symm,K8⟩
   ·have HE8:=hI (HMB fun h=>hsi h.2.1);have hd:=decide_eq_false hsi;rw[hd];clear hd hsi;go_wp2_with fail;go_ret;exact⟨za0 HE8.symm,K7⟩
  ·have HE8:=hI (HMB fun h=>hpm h.1);have hd:=decide_eq_false hpm;rw[hd];clear hd hpm;go_wp2_with fail;go_ret;exact⟨za0 HE8.symm,K6⟩
 ·rw[if_neg hsm];have HE8:=hI (HB fun h=>hsm (HH.1 h).2.2.2.2);clear hsm;go_wp2_with fail;go_ret;exact⟨za0 HE8.symm,K1⟩
theorem zs1 (a:Option Addr) (cap:Nat) (l:List Ask) (w:World) (hl:SlA w 3 ze1 a cap l) (hm:l.length≤1000) (hfit:zdu l):
  Calls Tryz.prog 121 #[js a l.length cap] w (zae w (decide (zdv l))):=by
 have HL:Hid (∀w',jb w w'→SlA w' 3 ze1 a cap l):=fun w' hb=>hl.below zil hb;have HF:=hI hfit;have HB2:Hid (∀b,(b=true↔zdv l)→decide (zdv l)=b):=fun b hb=>by rw[Bool.eq_iff_iff,decide_eq_true_iff];exact hb.symm
 have HI:Hid (zdv l↔zfl l l.length):=Iff.rfl;clear hl hfit;generalize decide (zdv l)=B at *;go_enter Tryz.func121,Tryz.ntmps121;go_wp2_with fail;have hR0:BoolRow (w.alloc (.cells Tryz.zeroCells279 279)) w.heap.size 100 279 (zex l 0):=(BoolRow.new w _ _ (by rw[zg2];simp) zir).congr fun q _=>(zrj l q).symm;have HR0:=hI hR0;clear hR0;go_loopg [8] l.length (fun g i wr=> ∃k:Nat,k≤l.length∧g=l.length-k∧i= .int .i64 k∧jb w wr∧BoolRow wr w.heap.size 100 279 (zex l k)∧zfl l k)
 case atStart=>exact⟨0,by omega,by omega,rfl,jal,HR0,fun i hi h=>absurd h (by omega)⟩
 case round=>
  obtain⟨k,hk,rfl,rfl,hb,hR,hA⟩:=hrel;obtain⟨wo,rfl⟩: ∃wo:World,wo=wr:=⟨_,rfl⟩;have HB:=hI hb;have HR:=hI hR;have HA:=hI hA;clear hb hR hA;by_cases hlt:k<l.length
  ·have hdk:decide ((k:Int)<(l.length:Int))=true:=(by simp;omega);obtain⟨b,off,rfl,x0,x1,x2⟩:=(HL _ HB).ask hlt;have c0:(0:Int)≤(k:Int):=(by omega);have c1:(k:Int)<(l.length:Int):=(by omega);have l1:=World.block_lt_of_cell? _ _ x0;have lw:=HR.lt;have hfk:=HF l[k] (List.getElem_mem hlt);have p0:(0:Int)≤l[k].pt:=(by omega);have p1:l[k].pt<100:=(by omega);have hpn:l[k].pt=((l[k].pt.toNat:Nat):Int):=(by omega);have v2:=HR.cell (q:=l[k].pt.toNat) (by omega);have v3:=HR.frozen l[k].pt.toNat;have HIF:=hI (zrl hlt l[k].pt.toNat hpn);have hne:wo.heap.size≠w.heap.size:=(by omega);cases hmet:zex l k l[k].pt.toNat with
   | true=>
    rw[hmet]at v2
    have HE:Hid (B=false):=HB2 false (by
     simp only[Bool.false_eq_true,false_iff]
     exact fun h=>(HIF.1 hmet) (h k hlt hlt))
    clear hmet hpn hfk;go_wp2_with fail;go_ret;exact⟨zab HE.symm,HB.alloc HB.size _⟩
   | false=>
    rw[hmet]at v2
    have HST:Hid (zfl l (k+1)):=zmf hlt HA (fun m hm e=>by
     have:=HIF.2 (fun h=>h m hm e);rw[hmet]at this
     cases this)
    have HROW:Hid (∀W',BoolRow W' w.heap.size 100 279 (zex l k)→BoolRow (W'.setCell ⟨w.heap.size,l[k].pt.toNat,none⟩ (.bool true)) w.heap.size 100 279 (zex l (k+1))):=fun W' h=>
     (h.set (q:=l[k].pt.toNat) (by omega) true).congr fun q hq=>zrk hlt l[k].pt.toNat hpn q
    clear hmet hpn hfk;go_wp2_with fail;go_roundg (l.length-(k+1))
    case measure=>go_light;omega
    case rel=>
     go_light;refine⟨k+1,by omega,by omega,by go_num,?_,?_,HST⟩
     ·exact(HB.setCell (Nat.le_refl _) _).alloc (by simpa [World.setCell]using HB.out.size) _
     ·exact(HROW _ HR).below jal
  ·obtain rfl:k=l.length:=(by omega);have hdk:decide ((l.length:Int)<(l.length:Int))=false:=(by simp);have HE:Hid (B=true):=HB2 true (by simp only[true_iff];exact HA);go_wp2_with fail;go_ret;exact⟨zab HE.symm,HB⟩
theorem zs2 (p:Pl) (r:Rt) (s q gg rr vp vo vf:Value) (a:Option Addr) (cap:Nat) (outs:List Jn) (w:World) (hp:PlM w s q gg rr p) (hf:p.Fit) (hr:RtM w vp vo vf r) (ho:SlA w 2 RJn a cap outs) (hm:outs.length≤1000) (h6:r.A.length≤6) (hlen:r.A.length≤outs.length):
  Calls Tryz.prog 122 #[plV p s q gg rr,.agg #[r.id,r.E,r.X,vp,vo,vf,r.T],js a outs.length cap] w (zae w (decide (zea p r outs))):=by
 obtain⟨a1,c1,rfl,k1⟩:=hp.S;obtain⟨a2,c2,rfl,k2⟩:=hp.P;obtain⟨a3,c3,rfl,k3⟩:=hp.G;obtain⟨a4,c4,rfl,k4⟩:=hp.R;obtain⟨ap,cp,rfl,-⟩:=hr.A.at_;obtain⟨ao,co,rfl,-⟩:=hr.O.at_;obtain⟨af,cf,rfl,-⟩:=hr.fl;have HG:Hid (∀w',jb w w'→SlA w' 3 RSg a3 c3 p.G):=fun w' hb=>k3.below zcu hb;have HO:Hid (∀w',jb w w'→SlA w' 2 RJn a cap outs):=fun w' hb=>ho.below zcn hb;have hs:=hf.G;have hcap:=ho.le;have HB2:Hid (∀b,(b=true↔zea p r outs)→decide (zea p r outs)=b):=fun b hb=>by rw[Bool.eq_iff_iff,decide_eq_true_iff];exact hb.symm
 have HCI:Hid (zea p r outs↔zfm p r outs r.A.length):=Iff.rfl;clear k1 k2 k3 k4 hp hf hr ho;unfold plV;generalize decide (zea p r outs)=B at *;have hsl0:(0:Int)≤(r.A.length:Int):=by omega
 have hsl1:(r.A.length:Int)≤(cap:Int):=by omega
 go_enter Tryz.func122,Tryz.ntmps122;go_wp2_with fail;generalize hW:(w.alloc _).alloc _=W;have hbW:jb w W:=by rw[←hW];exact jal.alloc (by simp) _
 have K0:=hI hbW
 have HY:Hid (∀W',jb W W'→jc W' w.heap.size 4 (js a3 p.G.length c3)∧jc W' (w.heap.size+1) 2 r.X∧jc W' (w.heap.size+1) 3 (js ap r.A.length cp)∧w.heap.size+1<W'.heap.size):=fun W' hb=>
  ⟨zac hb (by rw[←hW];simp[go_sem]),zac hb (by rw[←hW];simp[go_sem]),zac hb (by rw[←hW];simp[go_sem]),Nat.lt_of_lt_of_le (by rw[←hW];simp) hb.size⟩
 clear hW hbW;go_loopg [17] r.A.length (fun g j wr=> ∃i:Nat,i≤r.A.length∧g=r.A.length-i∧j= .int .i64 i∧jb W wr∧zfm p r outs i)
 case atStart=>exact⟨0,by omega,by omega,rfl,Below.refl _ _,fun i hi h=>absurd h (by omega)⟩
 case round=>
  obtain⟨i,hi,rfl,rfl,hb,hA⟩:=hrel;obtain⟨w1o,rfl⟩: ∃wo:World,wo=wr:=⟨_,rfl⟩;have HB:=hI hb;have HA:=hI hA;have HBW:=jh K0 hb;clear hb hA;by_cases hlt:i<r.A.length
  ·have hdk:decide ((i:Int)<(r.A.length:Int))=true:=(by simp;omega);have hio:i<outs.length:=(by omega);obtain⟨b,off,rfl,x0,x1⟩:=(HO _ HBW).jn hio;have c0:(0:Int)≤(i:Int):=(by omega);have c1:(i:Int)<(r.A.length:Int):=(by omega);have l1:=World.block_lt_of_cell? _ _ x0;obtain⟨y4,y2,y3,ly⟩:=HY _ HB;have ly0:w.heap.size<w1o.heap.size:=(by omega);go_wp2_with fail;generalize hWJ:w1o.alloc _=WJ;have hbJ:jb w1o WJ:=(by rw[←hWJ];exact jal);have HBJ:=jh HB hbJ;have HBO:=jh HBW hbJ;have HJ:Hid (∀W',jb WJ W'→jc W' w1o.heap.size 0 outs[i].to∧jc W' w1o.heap.size 1 outs[i].en∧w1o.heap.size<W'.heap.size):=fun W' hb=>⟨zac hb (by rw[←hWJ];simp),zac hb (by rw[←hWJ];simp),Nat.lt_of_lt_of_le (by rw[←hWJ];simp) hb.size⟩;clear hWJ hbJ x0 x1 l1 y4 y2 y3 ly ly0;go_loopg [25] p.G.length (fun g j wr=> ∃m:Nat,m≤p.G.length∧g=p.G.length-m∧j= .int .i64 m∧jb WJ wr∧zfb p r i outs[i] m)
   case atStart=>exact⟨0,by omega,by omega,rfl,Below.refl _ _,fun i hi h=>absurd h (by omega)⟩
   case round=>
    obtain⟨m,hm2,rfl,rfl,hb,hA⟩:=hrel;obtain⟨w2o,rfl⟩: ∃wo:World,wo=wr:=⟨_,rfl⟩;have HMB:=hI hb;have HMA:=hI hA;have HM0:=jh HBO hb;have HMW:=jh HBJ hb;clear hb hA;by_cases hmt:m<p.G.length
    ·have hdm:decide ((m:Int)<(p.G.length:Int))=true:=(by simp;omega);obtain⟨b2,off2,rfl,x0,x1,x2⟩:=(HG _ HM0).sg hmt;have e0:(0:Int)≤(m:Int):=(by omega);have e1:(m:Int)<(p.G.length:Int):=(by omega);have l1:=World.block_lt_of_cell? _ _ x0;obtain⟨j0,j1,lj⟩:=HJ _ HMB;obtain⟨y4,y2,y3,ly⟩:=HY _ HMW;by_cases h1:p.G[m].sec=outs[i].to
     ·have t1:(p.G[m].sec==outs[i].to)=true:=(by rw[beq_iff_eq];exact h1);by_cases h2:p.G[m].en=outs[i].en
      ·have t2:(p.G[m].en==outs[i].en)=true:=(by rw[beq_iff_eq];exact h2);by_cases h3:i+1<r.A.length
       ·have t3:decide ((i:Int)<(r.A.length:Int)-1)=true:=by simp;omega
        have HE:Hid (B=false):=HB2 false (by
         simp only[Bool.false_eq_true,false_iff]
         exact fun h=>(HCI.1 h) i (by omega) hlt m hmt hmt ⟨h1,h2,.inl h3⟩)
        clear h1 h2 h3;go_wp2_with fail;go_ret;exact⟨zab HE.symm,(jo HBO HMB).alloc (Nat.le_trans HBO.size HMB.size) _⟩
       ·have t3:decide ((i:Int)<(r.A.length:Int)-1)=false:=(by simp;omega);by_cases h4:p.G[m].id=r.X
        ·have t4:(p.G[m].id != r.X)=false:=(by simp[h4]);have HG:Hid (¬zf1 r i outs[i] p.G[m]):=fun h=>h.2.2.elim (fun k=>h3 k) (fun k=>k h4);have HST:Hid (zfb p r i outs[i] (m+1)):=zjz hmt HMA HG;clear h1 h2 h3 h4;go_wp2_with fail;go_roundg (p.G.length-(m+1))
         case measure=>go_light;omega
         case rel=>go_light;exact⟨m+1,by omega,by omega,by go_num,HMB.alloc HMB.size _,HST⟩
        ·have t4:(p.G[m].id != r.X)=true:=by simp[h4]
         have HE:Hid (B=false):=HB2 false (by
          simp only[Bool.false_eq_true,false_iff]
          exact fun h=>(HCI.1 h) i (by omega) hlt m hmt hmt ⟨h1,h2,.inr h4⟩)
         clear h1 h2 h3 h4;go_wp2_with fail;go_ret;exact⟨zab HE.symm,(jo HBO HMB).alloc (Nat.le_trans HBO.size HMB.size) _⟩
      ·have t2:(p.G[m].en==outs[i].en)=false:=(by rw[beq_eq_false_iff_ne];exact h2);have HG:Hid (¬zf1 r i outs[i] p.G[m]):=fun h=>h2 h.2.1;have HST:Hid (zfb p r i outs[i] (m+1)):=zjz hmt HMA HG;clear h1 h2;go_wp2_with fail;go_roundg (p.G.length-(m+1))
       case measure=>go_light;omega
       case rel=>go_light;exact⟨m+1,by omega,by omega,by go_num,HMB.alloc HMB.size _,HST⟩
     ·have t1:(p.G[m].sec==outs[i].to)=false:=(by rw[beq_eq_false_iff_ne];exact h1);have HG:Hid (¬zf1 r i outs[i] p.G[m]):=fun h=>h1 h.1;have HST:Hid (zfb p r i outs[i] (m+1)):=zjz hmt HMA HG;clear h1;go_wp2_with fail;go_roundg (p.G.length-(m+1))
      case measure=>go_light;omega
      case rel=>go_light;exact⟨m+1,by omega,by omega,by go_num,HMB.alloc HMB.size _,HST⟩
    ·obtain rfl:m=p.G.length:=(by omega);have hdm:decide ((p.G.length:Int)<(p.G.length:Int))=false:=(by simp);have HST:Hid (zfm p r outs (i+1)):=zrm hio HA HMA;go_wp2_with fail;go_roundg (r.A.length-(i+1))
     case measure=>go_light;omega
     case rel=>go_light;exact⟨i+1,by omega,by omega,by go_num,HMW,HST⟩
  ·obtain rfl:i=r.A.length:=(by omega);have hdk:decide ((r.A.length:Int)<(r.A.length:Int))=false:=(by simp);have HE:Hid (B=true):=HB2 true (by simp only[true_iff];exact HA);go_wp2_with fail;go_ret;exact⟨zab HE.symm,HBW⟩
def zis:Array Value:=#[.int .i64 0,.int .i64 3,.int .i64 0,.int .i64 3,.int .i64 0,.int .i64 0,.int .i64 0,.int .i64 0,.int .i64 0]
def zit:Array Value:=#[.int .i64 0,.int .i64 1,.int .i64 2,.int .i64 1,.int .i64 0,.int .i64 0,.int .i64 2,.int .i64 0,.int .i64 0]
theorem zs3 (s:Sec) (a:Option Addr) (c:Nat) (w:World):
  Calls Tryz.prog 419 #[zcd s a c] w fun e w'=>e= .returned (.agg (if s.pt=0 then zis else zit))∧jb w w':=by
 unfold zcd;generalize s.ends.length=n at *;generalize s.pt=q at *;generalize s.id=z at *;by_cases h0:q=0
 ·subst h0;rw[if_pos rfl];go_enter Tryz.func419,Tryz.ntmps419;go_wp2_with fail;exact bodyPost_ret (v:= .agg zis) (by simp[results,Tryz.f419,go_sem,zis]) rfl ⟨rfl,jal.alloc (by simp) _⟩
 ·have hd:(q==0)=false:=by rw[beq_eq_false_iff_ne];exact h0
  rw[if_neg h0];clear h0;go_enter Tryz.func419,Tryz.ntmps419;go_wp2_with fail;exact bodyPost_ret (v:= .agg zit) (by simp[results,Tryz.f419,go_sem,zit]) rfl ⟨rfl,jal.alloc (by simp) _⟩
theorem zs4 (a b c d e f g h i:Int) (w:World):Sem.run Tryz.prog (Instr.index 481 (.agg #[a,b,c,d,e,f,g,h,i]) (.int .i64 0)) w= .ok (.agg #[a,b,c]) w:=by kernel_rfl
theorem zs5 (a b c d e f g h i:Int) (w:World):Sem.run Tryz.prog (Instr.index 481 (.agg #[a,b,c,d,e,f,g,h,i]) (.int .i64 1)) w= .ok (.agg #[d,e,f]) w:=by kernel_rfl
theorem zs6 (a b c d e f g h i:Int) (w:World):Sem.run Tryz.prog (Instr.index 481 (.agg #[a,b,c,d,e,f,g,h,i]) (.int .i64 2)) w= .ok (.agg #[g,h,i]) w:=by kernel_rfl
theorem zs7 (a b c:Int) (w:World):Sem.run Tryz.prog (Instr.index 479 (.agg #[a,b,c]) (.int .i64 0)) w= .ok (.int .i64 a) w:=by kernel_rfl
theorem zs8 (a b c:Int) (w:World):Sem.run Tryz.prog (Instr.index 479 (.agg #[a,b,c]) (.int .i64 1)) w= .ok (.int .i64 b) w:=by kernel_rfl
theorem zs9 (a b c:Int) (w:World):Sem.run Tryz.prog (Instr.index 479 (.agg #[a,b,c]) (.int .i64 2)) w= .ok (.int .i64 c) w:=by kernel_rfl
def zgj (w:World) (s:Sec) (x y:Int) (e:Ending) (w':World):Prop:=e= .returned (.tuple #[.int .i64 (zdt s x y),.int .i64 (zc3 s x y)])∧jb w w'
theorem zta (s:Sec) (a:Option Addr) (c:Nat) (x y:Int) (w:World) (hs: ¬s.Shaped):Calls Tryz.prog 384 #[zcd s a c,x,y] w (zgj w s x y):=by
 have hE:zc3 s x y=8:=by unfold zc3;rw[if_pos hs]
 have hL:zdt s x y=0:=by unfold zdt;rw[hE];rfl
 unfold zgj;rw[hE,hL];have HC:=hI (fun w=>zip s a c w);have hd:decide s.Shaped=false:=decide_eq_false hs;rw[hd]at HC;unfold zcd at *;clear hE hL hs hd;go_enter Tryz.func384,Tryz.ntmps384;go_wp2_with fail;refine(HC _).mono ?_;rintro e w1 ⟨rfl,hb1⟩;have K1:Hid (jb w w1):=jal.trans (hb1.mono (by simp));clear hb1 HC;go_wp2_with fail;exact bodyPost_ret (v:= .tuple #[.int .i64 0,.int .i64 8]) (by simp[results,Tryz.f384,go_sem]) rfl ⟨rfl,K1⟩
theorem ztb (s:Sec) (a:Option Addr) (c:Nat) (x y:Int) (w:World) (hs:s.Shaped) (hr:x<0∨2<x∨y<0∨2<y):Calls Tryz.prog 384 #[zcd s a c,x,y] w (zgj w s x y):=by
 have hE:zc3 s x y=2:=by
  unfold zc3;rw[if_neg (fun h=>h hs),if_pos];rcases hr with h | h | h | h
  ·exact .inl h
  ·exact .inr (.inl h)
  ·exact .inr (.inr (.inl h))
  ·exact .inr (.inr (.inr (.inl h)))
 have hL:zdt s x y=0:=by unfold zdt;rw[hE];rfl
 unfold zgj;rw[hE,hL];have HC:=hI (fun w=>zip s a c w);have hd:decide s.Shaped=true:=decide_eq_true hs;rw[hd]at HC;unfold zcd at *;have HR:=hI hr;clear hE hL hs hd hr;go_enter Tryz.func384,Tryz.ntmps384;go_wp2_with fail;refine(HC _).mono ?_;rintro e w1 ⟨rfl,hb1⟩;have K1:Hid (jb w w1):=jal.trans (hb1.mono (by simp));clear hb1 HC;by_cases h1:x<0
 ·have t1:decide (x<0)=true:=by simpa using h1
  clear h1;go_wp2_with fail;exact bodyPost_ret (v:= .tuple #[.int .i64 0,.int .i64 2]) (by simp[results,Tryz.f384,go_sem]) rfl ⟨rfl,K1⟩
 ·have t1:decide (x<0)=false:=by simpa using h1
  by_cases h2:2<x
  ·have t2:decide (2<x)=true:=(by simpa using h2);clear h1 h2;go_wp2_with fail;exact bodyPost_ret (v:= .tuple #[.int .i64 0,.int .i64 2]) (by simp[results,Tryz.f384,go_sem]) rfl ⟨rfl,K1⟩
  ·have t2:decide (2<x)=false:=(by simpa using h2);by_cases h3:y<0
   ·have t3:decide (y<0)=true:=(by simpa using h3);clear h1 h2 h3;go_wp2_with fail;exact bodyPost_ret (v:= .tuple #[.int .i64 0,.int .i64 2]) (by simp[results,Tryz.f384,go_sem]) rfl ⟨rfl,K1⟩
   ·have t3:decide (y<0)=false:=(by simpa using h3);have t4:decide (2<y)=true:=(by have:=HR.out;simp only[decide_eq_true_eq];omega);clear h1 h2 h3;go_wp2_with fail;exact bodyPost_ret (v:= .tuple #[.int .i64 0,.int .i64 2]) (by simp[results,Tryz.f384,go_sem]) rfl ⟨rfl,K1⟩
theorem ztc (s:Sec) (a:Option Addr) (c:Nat) (x y:Int) (w:World) (hs:s.Shaped) (hx:x=0∨x=1∨x=2) (hy:y=0∨y=1∨y=2):Calls Tryz.prog 384 #[zcd s a c,x,y] w (zgj w s x y):=by
 have j0:=zs4;have j1:=zs5;have j2:=zs6;have m0:=zs7;have m1:=zs8;have m2:=zs9;have HC:=hI (fun w=>zip s a c w);have HW:=hI (fun w=>zs3 s a c w);have hd:decide s.Shaped=true:=decide_eq_true hs;rw[hd]at HC;have HE:Hid (zc3 s x y=if x<0∨2<x∨y<0∨2<y∨zfa s.pt x y=0 then 2 else 0):=by show _=_;unfold zc3;rw[if_neg (fun h=>h hs)]
 have HL:Hid (zdt s x y=if zc3 s x y=0 then(zfa s.pt x y).tmod 3 else 0):=rfl
 have HT:Hid (zfa s.pt x y=if s.pt=0 then(if(x=0∧y=1)∨(x=1∧y=0)then 3 else 0)
 else if(x=0∧y=1)∨(x=1∧y=0)then 1
 else if(x=0∧y=2)∨(x=2∧y=0)then 2 else 0):=rfl
 unfold zgj;clear hs hd;generalize zfa s.pt x y=T at *;generalize zdt s x y=TL at *;generalize zc3 s x y=TE at *;unfold zcd at *;generalize s.pt=q at *;by_cases hp:q=0
 ·subst hp;rw[if_pos rfl]at HW HT;unfold zis at *;rcases hx with rfl | rfl | rfl<;>rcases hy with rfl | rfl | rfl
  all_goals
   have hT:=HT.out;simp at hT;subst hT;have hE:=HE.out;simp at hE;subst hE;have hL:=HL.out;simp at hL;subst hL;clear HE HL HT;go_enter Tryz.func384,Tryz.ntmps384;go_wp2_with fail;refine(HC _).mono ?_;rintro e w1 ⟨rfl,hb1⟩;have K1:Hid (jb w w1):=jal.trans (hb1.mono (by simp));have z0:jc w1 w.heap.size 0 s.id:=zac hb1 (by simp);have z1:jc w1 w.heap.size 1 (.int .i64 0):=zac hb1 (by simp);have z2:jc w1 w.heap.size 2 (js a s.ends.length c):=zac hb1 (by simp);clear hb1 HC;go_wp2_with fail;refine(HW _).mono ?_;rintro e w2 ⟨rfl,hb2⟩;have K2:=jh K1 hb2;have z0:jc w2 w.heap.size 0 s.id:=zac hb2 z0;have z1:jc w2 w.heap.size 1 (.int .i64 0):=zac hb2 z1;have z2:jc w2 w.heap.size 2 (js a s.ends.length c):=zac hb2 z2;clear hb2;go_wp2_with fail
   first
    | exact bodyPost_ret (v:= .tuple #[.int .i64 0,.int .i64 2]) (by simp[results,Tryz.f384,go_sem]) rfl ⟨rfl,K2⟩
    | (refine(HW _).mono ?_
       rintro e w3 ⟨rfl,hb3⟩;have K3:=jh K2 hb3;clear hb3 HW;go_wp2_with fail
       exact bodyPost_ret (v:= .tuple #[_,.int .i64 0]) (by simp[results,Tryz.f384,go_sem]) rfl ⟨rfl,K3⟩)
 ·rw[if_neg hp]at HW HT;unfold zit at *;clear hp;rcases hx with rfl | rfl | rfl<;>rcases hy with rfl | rfl | rfl
  all_goals
   have hT:=HT.out;simp at hT;subst hT;have hE:=HE.out;simp at hE;subst hE;have hL:=HL.out;simp at hL;subst hL;clear HE HL HT;go_enter Tryz.func384,Tryz.ntmps384;go_wp2_with fail;refine(HC _).mono ?_;rintro e w1 ⟨rfl,hb1⟩;have K1:Hid (jb w w1):=jal.trans (hb1.mono (by simp));have z0:jc w1 w.heap.size 0 s.id:=zac hb1 (by simp);have z1:jc w1 w.heap.size 1 q:=zac hb1 (by simp);have z2:jc w1 w.heap.size 2 (js a s.ends.length c):=zac hb1 (by simp);clear hb1 HC;go_wp2_with fail;refine(HW _).mono ?_;rintro e w2 ⟨rfl,hb2⟩;have K2:=jh K1 hb2;have z0:jc w2 w.heap.size 0 s.id:=zac hb2 z0;have z1:jc w2 w.heap.size 1 q:=zac hb2 z1;have z2:jc w2 w.heap.size 2 (js a s.ends.length c):=zac hb2 z2;clear hb2;go_wp2_with fail
   first
    | exact bodyPost_ret (v:= .tuple #[.int .i64 0,.int .i64 2]) (by simp[results,Tryz.f384,go_sem]) rfl ⟨rfl,K2⟩
    | (refine(HW _).mono ?_
       rintro e w3 ⟨rfl,hb3⟩;have K3:=jh K2 hb3;clear hb3 HW;go_wp2_with fail
       exact bodyPost_ret (v:= .tuple #[_,.int .i64 0]) (by simp[results,Tryz.f384,go_sem]) rfl ⟨rfl,K3⟩)
theorem ztd (s:Sec) (a:Option Addr) (c:Nat) (x y:Int) (w:World):Calls Tryz.prog 384 #[zcd s a c,x,y] w (zgj w s x y):=by
 by_cases hs:s.Shaped
 ·by_cases hr:x<0∨2<x∨y<0∨2<y
  ·exact ztb s a c x y w hs hr
  ·exact ztc s a c x y w hs (by omega) (by omega)
 ·exact zta s a c x y w hs
def MW:TypeId→Bool:=fun t=>t==281 || t==133
structure Off (g:Nat) (W W':World):Prop where
 below:Below g W W'
 rest: ∀k c t fr,W.heap[k]? =some (.cells c t fr)→k≠g→MW t=false→W'.heap[k]? =some (.cells c t fr)
theorem Off.refl (g:Nat) (W:World):Off g W W:=⟨Below.refl _ _,fun _ _ _ _ h _ _=>h⟩
theorem Off.trans {g:Nat}{a b c:World}(h:Off g a b) (k:Off g b c):Off g a c:=⟨h.below.trans k.below,fun i x t fr e n m=>k.rest i x t fr (h.rest i x t fr e n m) n m⟩
theorem Off.of_below {g:Nat}{W W':World}(hb:jb W W') (hg:g≤W.heap.size):Off g W W':=⟨hb.mono hg,fun k c t fr h _ _=>(hb.block k (zad h)).trans h⟩
theorem Off.setCell (g o:Nat) (W:World) (v:Value):Off g W (W.setCell ⟨g,o,none⟩ v):=⟨(Below.refl g W).setCell (p:=⟨g,o,none⟩) (Nat.le_refl g) v,fun k c t fr h n _=>(Below.heap_setCell W _ v k n).trans h⟩
theorem Off.grown {g:Nat}{W W':World}{base:Nat}{e:TypeId}{sz:Nat}{v:Value}{n:Nat}{xs:List Value}(h:W.ownsRow base e sz v n xs) (hb:g≤base) (hg:g≤W.heap.size) (he:MW e=true) (hgr:W.grownBy W' v.ownBlock):Off g W W':=
 ⟨zcw h hb hg hgr,fun k c t fr hk _ m=>zhp h he hgr k c t fr hk m⟩
structure WkM (W:World) (g:Nat) (p:Pl) (s q gg r:Value) (k:Wk) (va vo:Value):Prop where
 blk:jk W g #[p.ver,p.par,s,q,gg,r,k.inn.to,k.inn.en,va,vo,.bool k.lost] 369
 asks:AskOwn W (g+1) va k.asks
 outs:JnOwn W (g+1) vo k.outs
section
variable {W W':World}{g:Nat}{p:Pl}{s q gg r va vo:Value}{k:Wk}
theorem WkM.lt (h:WkM W g p s q gg r k va vo):g<W.heap.size:=zad h.blk
theorem WkM.below (h:WkM W g p s q gg r k va vo) (hb:jb W W'):WkM W' g p s q gg r k va vo:=⟨(hb.block g h.lt).trans h.blk,zau h.asks hb,zau h.outs hb⟩
theorem WkM.S (h:WkM W g p s q gg r k va vo):jc W g 2 s:=jr h.blk
theorem WkM.to (h:WkM W g p s q gg r k va vo):jc W g 6 k.inn.to:=jr h.blk
theorem WkM.en (h:WkM W g p s q gg r k va vo):jc W g 7 k.inn.en:=jr h.blk
theorem WkM.cva (h:WkM W g p s q gg r k va vo):jc W g 8 va:=jr h.blk
theorem WkM.cvo (h:WkM W g p s q gg r k va vo):jc W g 9 vo:=jr h.blk
theorem WkM.lost (h:WkM W g p s q gg r k va vo):jc W g 10 (.bool k.lost):=jr h.blk
theorem WkM.frozen (h:WkM W g p s q gg r k va vo) (o:Nat):W.frozen? ⟨g,o,none⟩=false:=by simp[World.frozen?,h.blk]
theorem WkM.setLost (h:WkM W g p s q gg r k va vo):WkM (W.setCell ⟨g,10,none⟩ (.bool true)) g p s q gg r {k with lost:=true} va vo:=
 ⟨by simp[World.setCell,Array.getElem?_modify,h.blk],zag h.asks (by simp) _,zag h.outs (by simp) _⟩
theorem WkM.setIn (h:WkM W g p s q gg r k va vo) (j:Jn):WkM ((W.setCell ⟨g,6,none⟩ ↑j.to).setCell ⟨g,7,none⟩ ↑j.en) g p s q gg r {k with inn:=j} va vo:=
 ⟨by simp[World.setCell,Array.getElem?_modify,h.blk],zag (zag h.asks (by simp) _) (by simp) _,zag (zag h.outs (by simp) _) (by simp) _⟩
end
theorem zkj:zdb 418:=fun args w=>by simp[go_sem]
theorem zkk (x:Sec) (a:Option Addr) (c:Nat) (n:Int) (g:Nat) (w:World) (hn:jc w g 0 n):
  Calls Tryz.prog 418 #[zcd x a c,jp g 0] w (zae w (decide (x.id=n))):=by
 have HE:Hid (∀b,(b=true↔x.id=n)→b=decide (x.id=n)):=fun b hb=>by rw[Bool.eq_iff_iff,hb];simp
 generalize decide (x.id=n)=B at *;have l0:=World.block_lt_of_cell? _ _ hn;unfold zcd;go_enter Tryz.func418,Tryz.ntmps418;go_wp2_with fail;go_ret;exact⟨zab (HE _ (by simp)),jal⟩
theorem zmy {B:Nat}{a b:World}(h:Below B a b) (p:Addr) (v:Value):Below B (a.setCell p v) (b.setCell p v):=
 ⟨h.os,h.tape,h.output,by simpa [World.setCell]using h.size,fun k hk=>by
  simp only[World.setCell,Array.getElem?_modify]
  rw[h.block k hk]⟩
theorem zal {B:Nat}{a w:World}(h:Below B a w) (n:Nat):Below B a (w.drewN n):=⟨h.os,h.tape,h.output,h.size,h.block⟩
def zkl (W:World) (g:Nat) (p:Pl) (s q gg r va vo:Value) (k:Wk) (id:Int) (e:Ending) (W':World):Prop:=
 ∃a c,e= .returned (zcd (zcs p.S k id) a c)∧SlA W' 2 RJn a c (zcs p.S k id).ends∧WkM W' g p s q gg r (wkS p.S k id) va vo∧Off g W W'
theorem zmz (g:Nat) (p:Pl) (a1:Option Addr) (c1:Nat) (q gg r va vo:Value) (k:Wk) (id:Int) (W:World) (hW:WkM W g p (js a1 p.S.length c1) q gg r k va vo) (hS: ∀W',Below g W W'→SlA W' 3 zas a1 c1 p.S) (hm:p.S.length≤1000):
  Calls Tryz.prog 383 #[jp g 0,id] W (zkl W g p (js a1 p.S.length c1) q gg r va vo k id):=by
 have HW:=hI hW;have HS:=hI hS;have l0:=hW.lt;have y2:=hW.S;clear hW;have HN:=hI (hS W (Below.refl _ _));clear hS;rcases zce (fun x:Sec=>decide (x.id=id)) p.S with⟨h1,h2⟩ | ⟨n,hn,h1,h2,h3⟩
 ·obtain⟨e1,e2⟩:=zju (z:=zcy) h2;have hin: ¬zez p.S k id:=fun h=>by rw[zez,e2]at h;exact absurd h.1 (by simp)
  have HE:Hid (zcs p.S k id=zcy∧wkS p.S k id={k with lost:=true}):=⟨if_neg hin,if_neg hin⟩;have HF:=hI h1;clear e1 e2 h1 h2 hin;go_enter Tryz.func383,Tryz.ntmps383;go_wp2_with fail;generalize hWW:(W.alloc _).alloc _=W1;have hb1:jb W W1:=by rw[←hWW];exact jal.alloc (by simp) _
  have hz:W1.heap.size=W.heap.size+2:=by rw[←hWW];simp
  have hid0:jc W1 W.heap.size 0 id:=by rw[←hWW];simp
  have HS1:Hid (ziq 418 #[jp W.heap.size 0] (fun x:Sec=>decide (x.id=id)) p.S W1):=fun W' i h hb a c _=>zkk p.S[i] a c id W.heap.size W' (zac hb hid0);have Y0:=hI (show jc W1 (W.heap.size+1) 0 (.int .i64 0) by rw[←hWW];simp);have Y1:=hI (show jc W1 (W.heap.size+1) 1 (.int .i64 0) by rw[←hWW];simp);have Y2:=hI (show jc W1 (W.heap.size+1) 2 (.slice none 0 0) by rw[←hWW];simp);have F0:=hI (show∀o,W1.frozen? ⟨W.heap.size+1,o,none⟩=false by intro o;rw[←hWW];simp);have KW:=hI hb1;clear hWW;refine(zka 418 #[jp W.heap.size 0] (fun x:Sec=>decide (x.id=id)) a1 c1 p.S W1 (HS _ (hb1.mono (Nat.le_of_lt l0))) hm zkj HS1).mono ?_;rintro e w1 ⟨rfl,hb2⟩;rw[HF.out];have y0:jc w1 (W.heap.size+1) 0 (.int .i64 0):=(hb2.cell (by simp[hz])).trans Y0;have y1:jc w1 (W.heap.size+1) 1 (.int .i64 0):=(hb2.cell (by simp[hz])).trans Y1;have y3:jc w1 (W.heap.size+1) 2 (.slice none 0 0):=(hb2.cell (by simp[hz])).trans Y2;have f0: ∀o,w1.frozen? ⟨W.heap.size+1,o,none⟩=false:=fun o=>(hb2.frozen (by simp[hz])).trans (F0 o);have lz:W.heap.size+1<w1.heap.size:=by have:=hb2.size;omega
  have KB:=jh KW hb2;have hw1:=HW.below KB;have u10:=hw1.lost;have v10:=hw1.frozen 10;clear hb1 hb2 hz hid0 hw1 HS1 y2;go_wp2_with fail;go_quiet (fail);go_wp2_with fail;generalize hWE:World.setCell _ _ _=WE;have q0:jc WE (W.heap.size+1) 0 (.int .i64 0):=by rw[←hWE];simp[go_sem,lz,y0,y1,y3]
  have q1:jc WE (W.heap.size+1) 1 (.int .i64 0):=by rw[←hWE];simp[go_sem,lz,y0,y1,y3]
  have q2:jc WE (W.heap.size+1) 2 (.slice none 0 0):=by rw[←hWE];simp[go_sem,lz,y0,y1,y3]
  have KE:Hid (Below W.heap.size (W.setCell ⟨g,10,none⟩ (.bool true)) WE):=by show Below _ _ _;rw[←hWE];exact Below.setCell (Below.setCell (Below.setCell (zmy (zal KB _) _ _) (by simp) _) (by simp) _) (by simp) _
  clear hWE;refine bodyPost_ret (v:= .agg #[.int .i64 0,.int .i64 0,.slice none 0 0]) (by simp[results,Tryz.f383,go_sem,q0,q1,q2]) rfl ⟨none,0,?_,?_,?_,?_⟩
  ·rw[HE.out.1];rfl
  ·rw[HE.out.1];exact⟨Nat.le_refl _,fun _=>rfl,fun i h=>by simp[zcy]at h⟩
  ·rw[HE.out.2];exact(HW.setLost).below (by simpa [World.setCell]using KE.out)
  ·exact(Off.setCell _ _ _ _).trans (Off.of_below (by simpa [World.setCell]using KE.out) (by simp[World.setCell];omega))
 ·obtain⟨e1,e2⟩:=zfy (z:=zcy) hn h2 h3;have HF:=hI h1;have t0:decide ((n:Int)<0)=false:=by simp
  clear h1 h2 h3;by_cases hto:k.inn.to=id
  ·have hin:zez p.S k id:=⟨e2,hto⟩;have HE:Hid (zcs p.S k id=p.S[n]∧wkS p.S k id=k):=⟨(if_pos hin).trans e1,if_pos hin⟩;have t1:(k.inn.to != id)=false:=(by simp[hto]);clear e1 e2 hin hto;go_enter Tryz.func383,Tryz.ntmps383;go_wp2_with fail;generalize hWW:(W.alloc _).alloc _=W1;have hb1:jb W W1:=(by rw[←hWW];exact jal.alloc (by simp) _);have hz:W1.heap.size=W.heap.size+2:=(by rw[←hWW];simp);have hid0:jc W1 W.heap.size 0 id:=(by rw[←hWW];simp);have HS1:Hid (ziq 418 #[jp W.heap.size 0] (fun x:Sec=>decide (x.id=id)) p.S W1):=fun W' i h hb a c _=>zkk p.S[i] a c id W.heap.size W' (zac hb hid0);have Y0:=hI (show jc W1 (W.heap.size+1) 0 (.int .i64 0) by rw[←hWW];simp);have Y1:=hI (show jc W1 (W.heap.size+1) 1 (.int .i64 0) by rw[←hWW];simp);have Y2:=hI (show jc W1 (W.heap.size+1) 2 (.slice none 0 0) by rw[←hWW];simp);have F0:=hI (show∀o,W1.frozen? ⟨W.heap.size+1,o,none⟩=false by intro o;rw[←hWW];simp);have KW:=hI hb1;clear hWW;refine(zka 418 #[jp W.heap.size 0] (fun x:Sec=>decide (x.id=id)) a1 c1 p.S W1 (HS _ (hb1.mono (Nat.le_of_lt l0))) hm zkj HS1).mono ?_;rintro e w1 ⟨rfl,hb2⟩;rw[HF.out];have y0:jc w1 (W.heap.size+1) 0 (.int .i64 0):=(hb2.cell (by simp[hz])).trans Y0;have y1:jc w1 (W.heap.size+1) 1 (.int .i64 0):=(hb2.cell (by simp[hz])).trans Y1;have y3:jc w1 (W.heap.size+1) 2 (.slice none 0 0):=(hb2.cell (by simp[hz])).trans Y2;have f0: ∀o,w1.frozen? ⟨W.heap.size+1,o,none⟩=false:=fun o=>(hb2.frozen (by simp[hz])).trans (F0 o);have yid:jc w1 W.heap.size 0 id:=(hb2.cell (by simp[hz])).trans hid0;have lz:W.heap.size+1<w1.heap.size:=(by have:=hb2.size;omega);have KB:=jh KW hb2;have hw1:=HW.below KB;have u2:=hw1.S;have u6:=hw1.to;clear hb1 hb2 hz hid0 hw1 HS1 y2;obtain⟨b,off,a',c',rfl,x0,x1,x2,hends⟩:=HN.sec hn;have HX:=hI hends;have xb:b<W.heap.size:=World.block_lt_of_cell? _ _ x0;have x0:=zac KB x0;have x1:=zac KB x1;have x2:=zac KB x2;have i0:(0:Int)≤(n:Int):=(by omega);have i1:(n:Int)<(p.S.length:Int):=(by omega);clear hends xb;go_wp2_with fail;go_quiet (fail);go_wp2_with fail;generalize hWE:World.setCell _ _ _=WE;have q0:jc WE (W.heap.size+1) 0 p.S[n].id:=(by rw[←hWE];simp[go_sem,lz,y0,y1,y3]);have q1:jc WE (W.heap.size+1) 1 p.S[n].pt:=(by rw[←hWE];simp[go_sem,lz,y0,y1,y3]);have q2:jc WE (W.heap.size+1) 2 (js a' p.S[n].ends.length c'):=(by rw[←hWE];simp[go_sem,lz,y0,y1,y3]);have KE:Hid (jb W WE):=(by show Below _ _ _;rw[←hWE];exact Below.setCell (Below.setCell (Below.setCell (zal KB _) (by simp) _) (by simp) _) (by simp) _);clear hWE
   refine bodyPost_ret (v:= .agg #[p.S[n].id,p.S[n].pt,js a' p.S[n].ends.length c']) (by simp[results,Tryz.f383,go_sem,q0,q1,q2]) rfl ⟨a',c',?_,?_,?_,?_⟩
   ·rw[HE.out.1];rfl
   ·rw[HE.out.1];exact HX.below zcn KE
   ·rw[HE.out.2];exact HW.below KE
   ·exact Off.of_below KE (Nat.le_of_lt l0)
  ·have hin: ¬zez p.S k id:=fun h=>hto h.2;have HE:Hid (zcs p.S k id=zcy∧wkS p.S k id={k with lost:=true}):=⟨if_neg hin,if_neg hin⟩;have t1:(k.inn.to != id)=true:=(by simp[hto]);clear e1 e2 hin hto;go_enter Tryz.func383,Tryz.ntmps383;go_wp2_with fail;generalize hWW:(W.alloc _).alloc _=W1;have hb1:jb W W1:=(by rw[←hWW];exact jal.alloc (by simp) _);have hz:W1.heap.size=W.heap.size+2:=(by rw[←hWW];simp);have hid0:jc W1 W.heap.size 0 id:=(by rw[←hWW];simp);have HS1:Hid (ziq 418 #[jp W.heap.size 0] (fun x:Sec=>decide (x.id=id)) p.S W1):=fun W' i h hb a c _=>zkk p.S[i] a c id W.heap.size W' (zac hb hid0);have Y0:=hI (show jc W1 (W.heap.size+1) 0 (.int .i64 0) by rw[←hWW];simp);have Y1:=hI (show jc W1 (W.heap.size+1) 1 (.int .i64 0) by rw[←hWW];simp);have Y2:=hI (show jc W1 (W.heap.size+1) 2 (.slice none 0 0) by rw[←hWW];simp);have F0:=hI (show∀o,W1.frozen? ⟨W.heap.size+1,o,none⟩=false by intro o;rw[←hWW];simp);have KW:=hI hb1;clear hWW;refine(zka 418 #[jp W.heap.size 0] (fun x:Sec=>decide (x.id=id)) a1 c1 p.S W1 (HS _ (hb1.mono (Nat.le_of_lt l0))) hm zkj HS1).mono ?_;rintro e w1 ⟨rfl,hb2⟩;rw[HF.out];have y0:jc w1 (W.heap.size+1) 0 (.int .i64 0):=(hb2.cell (by simp[hz])).trans Y0;have y1:jc w1 (W.heap.size+1) 1 (.int .i64 0):=(hb2.cell (by simp[hz])).trans Y1;have y3:jc w1 (W.heap.size+1) 2 (.slice none 0 0):=(hb2.cell (by simp[hz])).trans Y2;have f0: ∀o,w1.frozen? ⟨W.heap.size+1,o,none⟩=false:=fun o=>(hb2.frozen (by simp[hz])).trans (F0 o);have yid:jc w1 W.heap.size 0 id:=(hb2.cell (by simp[hz])).trans hid0;have lz:W.heap.size+1<w1.heap.size:=(by have:=hb2.size;omega);have KB:=jh KW hb2;have hw1:=HW.below KB;have u6:=hw1.to;have u10:=hw1.lost;have v10:=hw1.frozen 10;clear hb1 hb2 hz hid0 hw1 HS1 y2;go_wp2_with fail;go_quiet (fail);go_wp2_with fail;generalize hWE:World.setCell _ _ _=WE;have q0:jc WE (W.heap.size+1) 0 (.int .i64 0):=(by rw[←hWE];simp[go_sem,lz,y0,y1,y3]);have q1:jc WE (W.heap.size+1) 1 (.int .i64 0):=(by rw[←hWE];simp[go_sem,lz,y0,y1,y3]);have q2:jc WE (W.heap.size+1) 2 (.slice none 0 0):=(by rw[←hWE];simp[go_sem,lz,y0,y1,y3]);have KE:Hid (Below W.heap.size (W.setCell ⟨g,10,none⟩ (.bool true)) WE):=(by show Below _ _ _;rw[←hWE];exact Below.setCell (Below.setCell (Below.setCell (zmy (zal KB _) _ _) (by simp) _) (by simp) _) (by simp) _);clear hWE;refine bodyPost_ret (v:= .agg #[.int .i64 0,.int .i64 0,.slice none 0 0]) (by simp[results,Tryz.f383,go_sem,q0,q1,q2]) rfl ⟨none,0,?_,?_,?_,?_⟩
   ·rw[HE.out.1];rfl
   ·rw[HE.out.1];exact⟨Nat.le_refl _,fun _=>rfl,fun i h=>by simp[zcy]at h⟩
   ·rw[HE.out.2];exact(HW.setLost).below (by simpa [World.setCell]using KE.out)
   ·exact(Off.setCell _ _ _ _).trans (Off.of_below (by simpa [World.setCell]using KE.out) (by simp[World.setCell];omega))
end Go.Proofs.YtbiehpjhhopjaaaGreat
