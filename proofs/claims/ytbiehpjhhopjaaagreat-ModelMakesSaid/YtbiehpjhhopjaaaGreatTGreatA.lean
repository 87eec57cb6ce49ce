/-
 The references' equality of states,walked. (Written by wip/tools/gen_eqt.py.)
-/
import Derived.Test.YtbiehpjhhopjaaaGreatTNoneA
import Derived.Test.YtbiehpjhhopjaaaGreatTTwinR
import Derived.Test.YtbiehpjhhopjaaaGreatTPlanA
import Derived.Deep.LoopGhost
import Derived.Deep.Light
set_option linter.unusedVariables false
set_option linter.unusedSimpArgs false
set_option maxRecDepth 100000
set_option maxHeartbeats 16000000
namespace Go.Proofs.YtbiehpjhhopjaaaGreat
open Go.RowKit Go.Sort
theorem zyr (x y:St) (t s l t' s' l':Value) (w:World) (hx:StM w t s l x) (hy:StM w t' s' l' y) (hxf:x.fit) (hyf:y.fit):
  Calls Tryz.prog 69 #[.agg #[t,s,l],.agg #[t',s',l']] w (zae w (decide (x=y))):=by
 obtain⟨a1,a2,rfl,ma1⟩:=hx.tks;obtain⟨a3,a4,rfl,ma3⟩:=hx.sws;obtain⟨a5,a6,rfl,ma5⟩:=hx.lks;obtain⟨b1,b2,rfl,mb1⟩:=hy.tks;obtain⟨b3,b4,rfl,mb3⟩:=hy.sws;obtain⟨b5,b6,rfl,mb5⟩:=hy.lks;have HTX:Hid (∀W,jb w W→SlA W 2 RTk a1 a2 x.tks):=fun W hb=>ma1.below ze2 hb;have HTY:Hid (∀W,jb w W→SlA W 2 RTk b1 b2 y.tks):=fun W hb=>mb1.below ze2 hb;have HSX:Hid (∀W,jb w W→SlA W 3 RSw a3 a4 x.sws):=fun W hb=>ma3.below zc6 hb;have HSY:Hid (∀W,jb w W→SlA W 3 RSw b3 b4 y.sws):=fun W hb=>mb3.below zc6 hb;have HLX:Hid (∀W,jb w W→SlA W 4 RLk a5 a6 x.lks):=fun W hb=>ma5.below zc7 hb;have HLY:Hid (∀W,jb w W→SlA W 4 RLk b5 b6 y.lks):=fun W hb=>mb5.below zc7 hb;have k1:=hxf.1;have k2:=hxf.2.1;have k3:=hxf.2.2;have k4:=hyf.1;have k5:=hyf.2.1;have k6:=hyf.2.2;have HV:Hid ((x=y→decide (x=y)=true)∧(x≠y→decide (x=y)=false)):=⟨fun h=>decide_eq_true h,fun h=>decide_eq_false h⟩;clear hx hy hxf hyf ma1 ma3 ma5 mb1 mb3 mb5;generalize decide (x=y)=B at *;go_enter Tryz.func69,Tryz.ntmps69;go_upto_region 1 with fail;obtain⟨W0,hW0⟩: ∃W0,W0=(w.alloc (.cells #[js a1 x.tks.length a2,js a3 x.sws.length a4,js a5 x.lks.length a6] 33)).alloc (.cells #[js b1 y.tks.length b2,js b3 y.sws.length b4,js b5 y.lks.length b6] 33):=⟨_,rfl⟩;rw[←hW0];have K0:Hid (jb w W0):=by show Below _ _ _;rw[hW0];exact jal.alloc (by simp) _
 have HX0:Hid (jk W0 w.heap.size #[js a1 x.tks.length a2,js a3 x.sws.length a4,js a5 x.lks.length a6] 33):=by show _=_;rw[hW0];exact(heap_alloc_old _ _ (by simp)).trans (heap_alloc_new _ _)
 have HY0:Hid (jk W0 (w.heap.size+1) #[js b1 y.tks.length b2,js b3 y.sws.length b4,js b5 y.lks.length b6] 33):=by show _=_;rw[hW0];exact heap_alloc2_new _ _ _
 clear hW0;have KR:Hid (jb W0 W0):=Below.refl _ _;have bx:=jm KR HX0;have by_:=jm KR HY0;obtain⟨xx0,xx1,xx2⟩:=zap bx;obtain⟨yy0,yy1,yy2⟩:=zap by_;have lx:=zad bx;have ly:=zad by_;clear bx by_;by_cases hq0:x.tks.length=y.tks.length
 ·have tq0:((x.tks.length:Int)==(y.tks.length:Int))=true:=by rw[beq_iff_eq];omega
  have tn0:((x.tks.length:Int) != (y.tks.length:Int))=false:=by rw[bne,tq0];rfl
  have HQ_tks:=hI hq0;clear hq0;by_cases hq1:x.sws.length=y.sws.length
  ·have tq1:((x.sws.length:Int)==(y.sws.length:Int))=true:=(by rw[beq_iff_eq];omega);have tn1:((x.sws.length:Int) != (y.sws.length:Int))=false:=(by rw[bne,tq1];rfl);have HQ_sws:=hI hq1;clear hq1;by_cases hq2:x.lks.length=y.lks.length
   ·have tq2:((x.lks.length:Int)==(y.lks.length:Int))=true:=(by rw[beq_iff_eq];omega);have tn2:((x.lks.length:Int) != (y.lks.length:Int))=false:=(by rw[bne,tq2];rfl);have HQ_lks:=hI hq2;clear hq2;go_wp2_with fail;go_loopg [5] x.tks.length (fun g i wr=> ∃k:Nat,k≤x.tks.length∧g=x.tks.length-k∧i= .int .i64 k∧jb W0 wr∧ ∀j (h:j<x.tks.length) (h':j<y.tks.length),j<k→x.tks[j]=y.tks[j])
    case atStart=>exact⟨0,by omega,by omega,rfl,KR,fun j _ _ hj=>absurd hj (Nat.not_lt_zero _)⟩
    case round=>
     obtain⟨k,hk,rfl,rfl,hb,hno⟩:=hrel;have HBr:=hI hb;have KBr:=jh K0 hb;have HNO:=hI hno;clear hb hno;clear xx0 yy0 xx1 yy1 xx2 yy2 lx ly;have bx:=jm HBr HX0;have by_:=jm HBr HY0;obtain⟨xx0,xx1,xx2⟩:=zap bx;obtain⟨yy0,yy1,yy2⟩:=zap by_;have lx:=zad bx;have ly:=zad by_;clear bx by_;by_cases hlt:k<x.tks.length
     ·have hd:decide ((k:Int)<(x.tks.length:Int))=true:=(by simp;omega);have hlm:k<y.tks.length:=(by rw[←HQ_tks.out];exact hlt);have c0:(0:Int)≤(k:Int):=(by omega);have c1:(k:Int)<(x.tks.length:Int):=(by omega);have c2:(k:Int)<(y.tks.length:Int):=(by omega);obtain⟨g,off,vs,rfl,hxl,hxc,hxr⟩:=(HTX wr KBr).at_ k hlt;obtain rfl:vs=[.int .i64 x.tks[k].id,.int .u8 x.tks[k].is]:=hxr;obtain⟨g2,off2,vs2,rfl,hyl,hyc,hyr⟩:=(HTY wr KBr).at_ k hlm;obtain rfl:vs2=[.int .i64 y.tks[k].id,.int .u8 y.tks[k].is]:=hyr;have x0:=hxc 0 (by simp);have y0:=hyc 0 (by simp);have x1:=hxc 1 (by simp);have y1:=hyc 1 (by simp);simp only[Nat.add_zero,List.getElem_cons_zero,List.getElem_cons_succ]at x0 y0 x1 y1;have l1x:=block_lt_of_cell x0;have l1y:=block_lt_of_cell y0;clear hxl hxc hyl hyc;by_cases hr0:x.tks[k].id=y.tks[k].id
      ·obtain⟨sq0,sn0⟩:=jy hr0;have HR0:=hI hr0;clear hr0;by_cases hr1:x.tks[k].is=y.tks[k].is
       ·obtain⟨sq1,sn1⟩:=jy hr1;have HR1:=hI hr1;clear hr1
        have HN:Hid (∀j (h:j<x.tks.length) (h':j<y.tks.length),j<k+1→x.tks[j]=y.tks[j]):=fun j j1 j2 j3=>by
         by_cases hjk:j=k
         ·subst hjk;exact zof HR0 HR1
         ·exact HNO j j1 j2 (by omega)
        go_upto_region 6 with fail;go_quiet (fail);go_wp2_with fail;go_roundg (x.tks.length-(k+1))
        case measure=>go_light;omega
        case rel=>go_light;exact⟨k+1,by omega,by omega,by go_num,zal HBr _,HN⟩
       ·obtain⟨sq1,sn1⟩:=jn hr1;have HE:Hid (B=false):=HV.2 fun e=>hr1 (by subst e;rfl);clear hr1;go_upto_region 6 with fail;go_quiet (fail);go_wp2_with fail;go_ret;exact⟨by rw[HE.out];rfl,K0.trans ((zal HBr _).mono K0.size)⟩
      ·obtain⟨sq0,sn0⟩:=jn hr0;have HE:Hid (B=false):=HV.2 fun e=>hr0 (by subst e;rfl);clear hr0;go_upto_region 6 with fail;go_quiet (fail);go_wp2_with fail;go_ret;exact⟨by rw[HE.out];rfl,K0.trans ((zal HBr _).mono K0.size)⟩
     ·obtain rfl:k=x.tks.length:=(by omega);have hd:decide ((x.tks.length:Int)<(x.tks.length:Int))=false:=(by simp);have HL_tks:Hid (x.tks=y.tks):=List.ext_getElem HQ_tks fun j j1 j2=>HNO j j1 j2 j1;clear HNO;obtain⟨w_tks,rfl⟩: ∃w':World,w'=wr:=⟨_,rfl⟩;go_wp2_with fail;go_loopg [6] x.sws.length (fun g i wr=> ∃k:Nat,k≤x.sws.length∧g=x.sws.length-k∧i= .int .i64 k∧jb W0 wr∧ ∀j (h:j<x.sws.length) (h':j<y.sws.length),j<k→x.sws[j]=y.sws[j])
      case atStart=>exact⟨0,by omega,by omega,rfl,HBr,fun j _ _ hj=>absurd hj (Nat.not_lt_zero _)⟩
      case round=>
       obtain⟨k,hk,rfl,rfl,hb,hno⟩:=hrel;have HBr:=hI hb;have KBr:=jh K0 hb;have HNO:=hI hno;clear hb hno;clear xx0 yy0 xx1 yy1 xx2 yy2 lx ly;have bx:=jm HBr HX0;have by_:=jm HBr HY0;obtain⟨xx0,xx1,xx2⟩:=zap bx;obtain⟨yy0,yy1,yy2⟩:=zap by_;have lx:=zad bx;have ly:=zad by_;clear bx by_;by_cases hlt:k<x.sws.length
       ·have hd:decide ((k:Int)<(x.sws.length:Int))=true:=(by simp;omega);have hlm:k<y.sws.length:=(by rw[←HQ_sws.out];exact hlt);have c0:(0:Int)≤(k:Int):=(by omega);have c1:(k:Int)<(x.sws.length:Int):=(by omega);have c2:(k:Int)<(y.sws.length:Int):=(by omega);obtain⟨g,off,vs,rfl,hxl,hxc,hxr⟩:=(HSX wr KBr).at_ k hlt;obtain rfl:vs=[.int .i64 x.sws[k].id,.int .i64 x.sws[k].lie,.int .i64 x.sws[k].call]:=hxr;obtain⟨g2,off2,vs2,rfl,hyl,hyc,hyr⟩:=(HSY wr KBr).at_ k hlm;obtain rfl:vs2=[.int .i64 y.sws[k].id,.int .i64 y.sws[k].lie,.int .i64 y.sws[k].call]:=hyr;have x0:=hxc 0 (by simp);have y0:=hyc 0 (by simp);have x1:=hxc 1 (by simp);have y1:=hyc 1 (by simp);have x2:=hxc 2 (by simp);have y2:=hyc 2 (by simp);simp only[Nat.add_zero,List.getElem_cons_zero,List.getElem_cons_succ]at x0 y0 x1 y1 x2 y2;have l1x:=block_lt_of_cell x0;have l1y:=block_lt_of_cell y0;clear hxl hxc hyl hyc;by_cases hr0:x.sws[k].id=y.sws[k].id
        ·obtain⟨sq0,sn0⟩:=jy hr0;have HR0:=hI hr0;clear hr0;by_cases hr1:x.sws[k].lie=y.sws[k].lie
         ·obtain⟨sq1,sn1⟩:=jy hr1;have HR1:=hI hr1;clear hr1;by_cases hr2:x.sws[k].call=y.sws[k].call
          ·obtain⟨sq2,sn2⟩:=jy hr2;have HR2:=hI hr2;clear hr2
           have HN:Hid (∀j (h:j<x.sws.length) (h':j<y.sws.length),j<k+1→x.sws[j]=y.sws[j]):=fun j j1 j2 j3=>by
            by_cases hjk:j=k
            ·subst hjk;exact zog HR0 HR1 HR2
            ·exact HNO j j1 j2 (by omega)
           go_upto_region 11 with fail;go_quiet (fail);go_wp2_with fail;go_roundg (x.sws.length-(k+1))
           case measure=>go_light;omega
           case rel=>go_light;exact⟨k+1,by omega,by omega,by go_num,zal HBr _,HN⟩
          ·obtain⟨sq2,sn2⟩:=jn hr2;have HE:Hid (B=false):=HV.2 fun e=>hr2 (by subst e;rfl);clear hr2;go_upto_region 11 with fail;go_quiet (fail);go_wp2_with fail;go_ret;exact⟨by rw[HE.out];rfl,K0.trans ((zal HBr _).mono K0.size)⟩
         ·obtain⟨sq1,sn1⟩:=jn hr1;have HE:Hid (B=false):=HV.2 fun e=>hr1 (by subst e;rfl);clear hr1;go_upto_region 11 with fail;go_quiet (fail);go_wp2_with fail;go_ret;exact⟨by rw[HE.out];rfl,K0.trans ((zal HBr _).mono K0.size)⟩
        ·obtain⟨sq0,sn0⟩:=jn hr0;have HE:Hid (B=false):=HV.2 fun e=>hr0 (by subst e;rfl);clear hr0;go_upto_region 11 with fail;go_quiet (fail);go_wp2_with fail;go_ret;exact⟨by rw[HE.out];rfl,K0.trans ((zal HBr _).mono K0.size)⟩
       ·obtain rfl:k=x.sws.length:=(by omega);have hd:decide ((x.sws.length:Int)<(x.sws.length:Int))=false:=(by simp);have HL_sws:Hid (x.sws=y.sws):=List.ext_getElem HQ_sws fun j j1 j2=>HNO j j1 j2 j1;clear HNO;obtain⟨w_sws,rfl⟩: ∃w':World,w'=wr:=⟨_,rfl⟩;go_wp2_with fail;go_loopg [7] x.lks.length (fun g i wr=> ∃k:Nat,k≤x.lks.length∧g=x.lks.length-k∧i= .int .i64 k∧jb W0 wr∧ ∀j (h:j<x.lks.length) (h':j<y.lks.length),j<k→x.lks[j]=y.lks[j])
        case atStart=>exact⟨0,by omega,by omega,rfl,HBr,fun j _ _ hj=>absurd hj (Nat.not_lt_zero _)⟩
        case round=>
         obtain⟨k,hk,rfl,rfl,hb,hno⟩:=hrel;have HBr:=hI hb;have KBr:=jh K0 hb;have HNO:=hI hno;clear hb hno;clear xx0 yy0 xx1 yy1 xx2 yy2 lx ly;have bx:=jm HBr HX0;have by_:=jm HBr HY0;obtain⟨xx0,xx1,xx2⟩:=zap bx;obtain⟨yy0,yy1,yy2⟩:=zap by_;have lx:=zad bx;have ly:=zad by_;clear bx by_;by_cases hlt:k<x.lks.length
         ·have hd:decide ((k:Int)<(x.lks.length:Int))=true:=(by simp;omega);have hlm:k<y.lks.length:=(by rw[←HQ_lks.out];exact hlt);have c0:(0:Int)≤(k:Int):=(by omega);have c1:(k:Int)<(x.lks.length:Int):=(by omega);have c2:(k:Int)<(y.lks.length:Int):=(by omega);obtain⟨g,off,vs,rfl,hxl,hxc,hxr⟩:=(HLX wr KBr).at_ k hlt;obtain rfl:vs=[.int .i64 x.lks[k].id,.int .u8 x.lks[k].ph,.int .i64 x.lks[k].gone,.int .i64 x.lks[k].left]:=hxr;obtain⟨g2,off2,vs2,rfl,hyl,hyc,hyr⟩:=(HLY wr KBr).at_ k hlm;obtain rfl:vs2=[.int .i64 y.lks[k].id,.int .u8 y.lks[k].ph,.int .i64 y.lks[k].gone,.int .i64 y.lks[k].left]:=hyr;have x0:=hxc 0 (by simp);have y0:=hyc 0 (by simp);have x1:=hxc 1 (by simp);have y1:=hyc 1 (by simp);have x2:=hxc 2 (by simp);have y2:=hyc 2 (by simp);have x3:=hxc 3 (by simp);have y3:=hyc 3 (by simp);simp only[Nat.add_zero,List.getElem_cons_zero,List.getElem_cons_succ]at x0 y0 x1 y1 x2 y2 x3 y3;have l1x:=block_lt_of_cell x0;have l1y:=block_lt_of_cell y0;clear hxl hxc hyl hyc;by_cases hr0:x.lks[k].id=y.lks[k].id
          ·obtain⟨sq0,sn0⟩:=jy hr0;have HR0:=hI hr0;clear hr0;by_cases hr1:x.lks[k].ph=y.lks[k].ph
           ·obtain⟨sq1,sn1⟩:=jy hr1;have HR1:=hI hr1;clear hr1;by_cases hr2:x.lks[k].gone=y.lks[k].gone
            ·obtain⟨sq2,sn2⟩:=jy hr2;have HR2:=hI hr2;clear hr2;by_cases hr3:x.lks[k].left=y.lks[k].left
             ·obtain⟨sq3,sn3⟩:=jy hr3;have HR3:=hI hr3;clear hr3
              have HN:Hid (∀j (h:j<x.lks.length) (h':j<y.lks.length),j<k+1→x.lks[j]=y.lks[j]):=fun j j1 j2 j3=>by
               by_cases hjk:j=k
               ·subst hjk;exact zoj HR0 HR1 HR2 HR3
               ·exact HNO j j1 j2 (by omega)
              go_upto_region 16 with fail;go_quiet (fail);go_wp2_with fail;go_roundg (x.lks.length-(k+1))
              case measure=>go_light;omega
              case rel=>go_light;exact⟨k+1,by omega,by omega,by go_num,zal HBr _,HN⟩
             ·obtain⟨sq3,sn3⟩:=jn hr3;have HE:Hid (B=false):=HV.2 fun e=>hr3 (by subst e;rfl);clear hr3;go_upto_region 16 with fail;go_quiet (fail);go_wp2_with fail;go_ret;exact⟨by rw[HE.out];rfl,K0.trans ((zal HBr _).mono K0.size)⟩
            ·obtain⟨sq2,sn2⟩:=jn hr2;have HE:Hid (B=false):=HV.2 fun e=>hr2 (by subst e;rfl);clear hr2;go_upto_region 16 with fail;go_quiet (fail);go_wp2_with fail;go_ret;exact⟨by rw[HE.out];rfl,K0.trans ((zal HBr _).mono K0.size)⟩
           ·obtain⟨sq1,sn1⟩:=jn hr1;have HE:Hid (B=false):=HV.2 fun e=>hr1 (by subst e;rfl);clear hr1;go_upto_region 16 with fail;go_quiet (fail);go_wp2_with fail;go_ret;exact⟨by rw[HE.out];rfl,K0.trans ((zal HBr _).mono K0.size)⟩
          ·obtain⟨sq0,sn0⟩:=jn hr0;have HE:Hid (B=false):=HV.2 fun e=>hr0 (by subst e;rfl);clear hr0;go_upto_region 16 with fail;go_quiet (fail);go_wp2_with fail;go_ret;exact⟨by rw[HE.out];rfl,K0.trans ((zal HBr _).mono K0.size)⟩
         ·obtain rfl:k=x.lks.length:=(by omega);have hd:decide ((x.lks.length:Int)<(x.lks.length:Int))=false:=(by simp);have HL_lks:Hid (x.lks=y.lks):=List.ext_getElem HQ_lks fun j j1 j2=>HNO j j1 j2 j1;clear HNO;obtain⟨w_lks,rfl⟩: ∃w':World,w'=wr:=⟨_,rfl⟩;have HE:Hid (B=true):=HV.1 (zi9 HL_tks HL_sws HL_lks);go_wp2_with fail;go_ret;exact⟨by rw[HE.out];rfl,jo K0 HBr⟩
   ·have tq2:((x.lks.length:Int)==(y.lks.length:Int))=false:=(by rw[beq_eq_false_iff_ne];omega);have tn2:((x.lks.length:Int) != (y.lks.length:Int))=true:=(by rw[bne,tq2];rfl);have HE:Hid (B=false):=HV.2 fun e=>hq2 (by rw[e]);clear hq2;go_wp2_with fail;go_ret;exact⟨by rw[HE.out];rfl,jo K0 KR⟩
  ·have tq1:((x.sws.length:Int)==(y.sws.length:Int))=false:=(by rw[beq_eq_false_iff_ne];omega);have tn1:((x.sws.length:Int) != (y.sws.length:Int))=true:=(by rw[bne,tq1];rfl);have HE:Hid (B=false):=HV.2 fun e=>hq1 (by rw[e]);clear hq1;go_wp2_with fail;go_ret;exact⟨by rw[HE.out];rfl,jo K0 KR⟩
 ·have tq0:((x.tks.length:Int)==(y.tks.length:Int))=false:=by rw[beq_eq_false_iff_ne];omega
  have tn0:((x.tks.length:Int) != (y.tks.length:Int))=true:=by rw[bne,tq0];rfl
  have HE:Hid (B=false):=HV.2 fun e=>hq0 (by rw[e]);clear hq0;go_wp2_with fail;go_ret;exact⟨by rw[HE.out];rfl,jo K0 KR⟩
theorem zys (x y:St) (t s l t' s' l':Value) (w:World) (hx:StM w t s l x) (hy:StM w t' s' l' y) (hxf:x.fit) (hyf:y.fit):
  Calls Tryz.prog 74 #[.agg #[t,s,l],.agg #[t',s',l']] w (zae w (zcx x y)):=by
 obtain⟨a1,a2,rfl,ma1⟩:=hx.tks;obtain⟨a3,a4,rfl,ma3⟩:=hx.sws;obtain⟨a5,a6,rfl,ma5⟩:=hx.lks;obtain⟨b1,b2,rfl,mb1⟩:=hy.tks;obtain⟨b3,b4,rfl,mb3⟩:=hy.sws;obtain⟨b5,b6,rfl,mb5⟩:=hy.lks;have HSX:Hid (∀W,jb w W→SlA W 3 RSw a3 a4 x.sws):=fun W hb=>ma3.below zc6 hb;have HSY:Hid (∀W,jb w W→SlA W 3 RSw b3 b4 y.sws):=fun W hb=>mb3.below zc6 hb;have HLX:Hid (∀W,jb w W→SlA W 4 RLk a5 a6 x.lks):=fun W hb=>ma5.below zc7 hb;have HLY:Hid (∀W,jb w W→SlA W 4 RLk b5 b6 y.lks):=fun W hb=>mb5.below zc7 hb;have k2:=hxf.2.1;have k3:=hxf.2.2;have k5:=hyf.2.1;have k6:=hyf.2.2;have hkey:zcx x y=true↔(x.sws.length=y.sws.length∧ ∀i (h:i<x.sws.length) (h':i<y.sws.length),zbq x.sws[i] y.sws[i]=true)∧(x.lks.length=y.lks.length∧ ∀i (h:i<x.lks.length) (h':i<y.lks.length),zbi x.lks[i] y.lks[i]=true):=by unfold zcx;rw[Bool.and_eq_true,allEq2_iff,allEq2_iff]
 have hno: ∀P:Prop,(zcx x y=true→P)→ ¬P→zcx x y=false:=fun P h1 h2=>by cases h:zcx x y with | false=>rfl | true=>exact absurd (h1 h) h2
 have HV:Hid (True∧(¬(x.sws.length=y.sws.length)→zcx x y=false)∧(¬(x.lks.length=y.lks.length)→zcx x y=false)):=⟨trivial,hno _ fun h=>(hkey.1 h).1.1,hno _ fun h=>(hkey.1 h).2.1⟩;have HVS:Hid (∀k (h:k<x.sws.length) (h':k<y.sws.length),zbq x.sws[k] y.sws[k]=false→zcx x y=false):=fun k h h' h3=>hno _ (fun h4=>(hkey.1 h4).1.2 k h h') (by rw[h3];decide);have HVL:Hid (∀k (h:k<x.lks.length) (h':k<y.lks.length),zbi x.lks[k] y.lks[k]=false→zcx x y=false):=fun k h h' h3=>hno _ (fun h4=>(hkey.1 h4).2.2 k h h') (by rw[h3];decide);have HV1:Hid (x.sws.length=y.sws.length→x.lks.length=y.lks.length→(∀i (h:i<x.sws.length) (h':i<y.sws.length),zbq x.sws[i] y.sws[i]=true)→(∀i (h:i<x.lks.length) (h':i<y.lks.length),zbi x.lks[i] y.lks[i]=true)→zcx x y=true):=fun h1 h2 h3 h4=>hkey.2 ⟨⟨h1,h3⟩,h2,h4⟩;clear hx hy hxf hyf ma1 ma3 ma5 mb1 mb3 mb5 hkey hno;generalize zcx x y=B at *;go_enter Tryz.func74,Tryz.ntmps74;go_upto_region 1 with fail;obtain⟨W0,hW0⟩: ∃W0,W0=(w.alloc (.cells #[js a1 x.tks.length a2,js a3 x.sws.length a4,js a5 x.lks.length a6] 33)).alloc (.cells #[js b1 y.tks.length b2,js b3 y.sws.length b4,js b5 y.lks.length b6] 33):=⟨_,rfl⟩;rw[←hW0];have K0:Hid (jb w W0):=by show Below _ _ _;rw[hW0];exact jal.alloc (by simp) _
 have HX0:Hid (jk W0 w.heap.size #[js a1 x.tks.length a2,js a3 x.sws.length a4,js a5 x.lks.length a6] 33):=by show _=_;rw[hW0];exact(heap_alloc_old _ _ (by simp)).trans (heap_alloc_new _ _)
 have HY0:Hid (jk W0 (w.heap.size+1) #[js b1 y.tks.length b2,js b3 y.sws.length b4,js b5 y.lks.length b6] 33):=by show _=_;rw[hW0];exact heap_alloc2_new _ _ _
 clear hW0;have KR:Hid (jb W0 W0):=Below.refl _ _;have bx:=jm KR HX0;have by_:=jm KR HY0;obtain⟨xx0,xx1,xx2⟩:=zap bx;obtain⟨yy0,yy1,yy2⟩:=zap by_;have lx:=zad bx;have ly:=zad by_;clear bx by_;by_cases hq0:x.sws.length=y.sws.length
 ·have tq0:((x.sws.length:Int)==(y.sws.length:Int))=true:=by rw[beq_iff_eq];omega
  have tn0:((x.sws.length:Int) != (y.sws.length:Int))=false:=by rw[bne,tq0];rfl
  have HQ_sws:=hI hq0;clear hq0;by_cases hq1:x.lks.length=y.lks.length
  ·have tq1:((x.lks.length:Int)==(y.lks.length:Int))=true:=(by rw[beq_iff_eq];omega);have tn1:((x.lks.length:Int) != (y.lks.length:Int))=false:=(by rw[bne,tq1];rfl);have HQ_lks:=hI hq1;clear hq1;go_wp2_with fail;go_loopg [5] x.sws.length (fun g i wr=> ∃k:Nat,k≤x.sws.length∧g=x.sws.length-k∧i= .int .i64 k∧jb W0 wr∧ ∀j (h:j<x.sws.length) (h':j<y.sws.length),j<k→zbq x.sws[j] y.sws[j]=true)
   case atStart=>exact⟨0,by omega,by omega,rfl,KR,fun j _ _ hj=>absurd hj (Nat.not_lt_zero _)⟩
   case round=>
    obtain⟨k,hk,rfl,rfl,hb,hno⟩:=hrel;have HBr:=hI hb;have KBr:=jh K0 hb;have HNO:=hI hno;clear hb hno;clear xx0 yy0 xx1 yy1 xx2 yy2 lx ly;have bx:=jm HBr HX0;have by_:=jm HBr HY0;obtain⟨xx0,xx1,xx2⟩:=zap bx;obtain⟨yy0,yy1,yy2⟩:=zap by_;have lx:=zad bx;have ly:=zad by_;clear bx by_;by_cases hlt:k<x.sws.length
    ·have hd:decide ((k:Int)<(x.sws.length:Int))=true:=(by simp;omega);have hlm:k<y.sws.length:=(by rw[←HQ_sws.out];exact hlt);have c0:(0:Int)≤(k:Int):=(by omega);have c1:(k:Int)<(x.sws.length:Int):=(by omega);have c2:(k:Int)<(y.sws.length:Int):=(by omega);obtain⟨g,off,vs,rfl,hxl,hxc,hxr⟩:=(HSX wr KBr).at_ k hlt;obtain rfl:vs=[.int .i64 x.sws[k].id,.int .i64 x.sws[k].lie,.int .i64 x.sws[k].call]:=hxr;obtain⟨g2,off2,vs2,rfl,hyl,hyc,hyr⟩:=(HSY wr KBr).at_ k hlm;obtain rfl:vs2=[.int .i64 y.sws[k].id,.int .i64 y.sws[k].lie,.int .i64 y.sws[k].call]:=hyr;have x0:=hxc 0 (by simp);have y0:=hyc 0 (by simp);have x1:=hxc 1 (by simp);have y1:=hyc 1 (by simp);have x2:=hxc 2 (by simp);have y2:=hyc 2 (by simp);simp only[Nat.add_zero,List.getElem_cons_zero,List.getElem_cons_succ]at x0 y0 x1 y1 x2 y2;have l1x:=block_lt_of_cell x0;have l1y:=block_lt_of_cell y0;clear hxl hxc hyl hyc;by_cases hr0:x.sws[k].id=y.sws[k].id
     ·obtain⟨sq0,sn0⟩:=jy hr0;have HR0:=hI hr0;clear hr0;by_cases hr1:x.sws[k].call=y.sws[k].call
      ·obtain⟨sq1,sn1⟩:=jy hr1;have HR1:=hI hr1;clear hr1
       have HN:Hid (∀j (h:j<x.sws.length) (h':j<y.sws.length),j<k+1→zbq x.sws[j] y.sws[j]=true):=fun j j1 j2 j3=>by
        by_cases hjk:j=k
        ·subst hjk;unfold zbq;simp[HR0.out,HR1.out]
        ·exact HNO j j1 j2 (by omega)
       go_upto_region 6 with fail;go_quiet (fail);go_wp2_with fail;go_roundg (x.sws.length-(k+1))
       case measure=>go_light;omega
       case rel=>go_light;exact⟨k+1,by omega,by omega,by go_num,zal HBr _,HN⟩
      ·obtain⟨sq1,sn1⟩:=jn hr1;have HE:Hid (B=false):=HVS k hlt hlm (by unfold zbq;simp[hr1]);clear hr1;go_upto_region 6 with fail;go_quiet (fail);go_wp2_with fail;go_ret;exact⟨by rw[HE.out];rfl,K0.trans ((zal HBr _).mono K0.size)⟩
     ·obtain⟨sq0,sn0⟩:=jn hr0;have HE:Hid (B=false):=HVS k hlt hlm (by unfold zbq;simp[hr0]);clear hr0;go_upto_region 6 with fail;go_quiet (fail);go_wp2_with fail;go_ret;exact⟨by rw[HE.out];rfl,K0.trans ((zal HBr _).mono K0.size)⟩
    ·obtain rfl:k=x.sws.length:=(by omega);have hd:decide ((x.sws.length:Int)<(x.sws.length:Int))=false:=(by simp);have HL_sws:Hid (∀j (h:j<x.sws.length) (h':j<y.sws.length),zbq x.sws[j] y.sws[j]=true):=fun j j1 j2=>HNO j j1 j2 j1;clear HNO;obtain⟨w_sws,rfl⟩: ∃w':World,w'=wr:=⟨_,rfl⟩;go_wp2_with fail;go_loopg [6] x.lks.length (fun g i wr=> ∃k:Nat,k≤x.lks.length∧g=x.lks.length-k∧i= .int .i64 k∧jb W0 wr∧ ∀j (h:j<x.lks.length) (h':j<y.lks.length),j<k→zbi x.lks[j] y.lks[j]=true)
     case atStart=>exact⟨0,by omega,by omega,rfl,HBr,fun j _ _ hj=>absurd hj (Nat.not_lt_zero _)⟩
     case round=>
      obtain⟨k,hk,rfl,rfl,hb,hno⟩:=hrel;have HBr:=hI hb;have KBr:=jh K0 hb;have HNO:=hI hno;clear hb hno;clear xx0 yy0 xx1 yy1 xx2 yy2 lx ly;have bx:=jm HBr HX0;have by_:=jm HBr HY0;obtain⟨xx0,xx1,xx2⟩:=zap bx;obtain⟨yy0,yy1,yy2⟩:=zap by_;have lx:=zad bx;have ly:=zad by_;clear bx by_;by_cases hlt:k<x.lks.length
      ·have hd:decide ((k:Int)<(x.lks.length:Int))=true:=(by simp;omega);have hlm:k<y.lks.length:=(by rw[←HQ_lks.out];exact hlt);have c0:(0:Int)≤(k:Int):=(by omega);have c1:(k:Int)<(x.lks.length:Int):=(by omega);have c2:(k:Int)<(y.lks.length:Int):=(by omega);obtain⟨g,off,vs,rfl,hxl,hxc,hxr⟩:=(HLX wr KBr).at_ k hlt;obtain rfl:vs=[.int .i64 x.lks[k].id,.int .u8 x.lks[k].ph,.int .i64 x.lks[k].gone,.int .i64 x.lks[k].left]:=hxr;obtain⟨g2,off2,vs2,rfl,hyl,hyc,hyr⟩:=(HLY wr KBr).at_ k hlm;obtain rfl:vs2=[.int .i64 y.lks[k].id,.int .u8 y.lks[k].ph,.int .i64 y.lks[k].gone,.int .i64 y.lks[k].left]:=hyr;have x0:=hxc 0 (by simp);have y0:=hyc 0 (by simp);have x1:=hxc 1 (by simp);have y1:=hyc 1 (by simp);have x2:=hxc 2 (by simp);have y2:=hyc 2 (by simp);have x3:=hxc 3 (by simp);have y3:=hyc 3 (by simp);simp only[Nat.add_zero,List.getElem_cons_zero,List.getElem_cons_succ]at x0 y0 x1 y1 x2 y2 x3 y3;have l1x:=block_lt_of_cell x0;have l1y:=block_lt_of_cell y0;clear hxl hxc hyl hyc;by_cases hr0:x.lks[k].id=y.lks[k].id
       ·obtain⟨sq0,sn0⟩:=jy hr0;have HR0:=hI hr0;clear hr0;by_cases hr1:x.lks[k].ph=y.lks[k].ph
        ·obtain⟨sq1,sn1⟩:=jy hr1;have HR1:=hI hr1;clear hr1;by_cases hr2:x.lks[k].gone=y.lks[k].gone
         ·obtain⟨sq2,sn2⟩:=jy hr2;have HR2:=hI hr2;clear hr2
          have HN:Hid (∀j (h:j<x.lks.length) (h':j<y.lks.length),j<k+1→zbi x.lks[j] y.lks[j]=true):=fun j j1 j2 j3=>by
           by_cases hjk:j=k
           ·subst hjk;unfold zbi;simp[HR0.out,HR1.out,HR2.out]
           ·exact HNO j j1 j2 (by omega)
          go_upto_region 11 with fail;go_quiet (fail);go_wp2_with fail;go_roundg (x.lks.length-(k+1))
          case measure=>go_light;omega
          case rel=>go_light;exact⟨k+1,by omega,by omega,by go_num,zal HBr _,HN⟩
         ·obtain⟨sq2,sn2⟩:=jn hr2;have HE:Hid (B=false):=HVL k hlt hlm (by unfold zbi;simp[hr2]);clear hr2;go_upto_region 11 with fail;go_quiet (fail);go_wp2_with fail;go_ret;exact⟨by rw[HE.out];rfl,K0.trans ((zal HBr _).mono K0.size)⟩
        ·obtain⟨sq1,sn1⟩:=jn hr1;have HE:Hid (B=false):=HVL k hlt hlm (by unfold zbi;simp[hr1]);clear hr1;go_upto_region 11 with fail;go_quiet (fail);go_wp2_with fail;go_ret;exact⟨by rw[HE.out];rfl,K0.trans ((zal HBr _).mono K0.size)⟩
       ·obtain⟨sq0,sn0⟩:=jn hr0;have HE:Hid (B=false):=HVL k hlt hlm (by unfold zbi;simp[hr0]);clear hr0;go_upto_region 11 with fail;go_quiet (fail);go_wp2_with fail;go_ret;exact⟨by rw[HE.out];rfl,K0.trans ((zal HBr _).mono K0.size)⟩
      ·obtain rfl:k=x.lks.length:=(by omega);have hd:decide ((x.lks.length:Int)<(x.lks.length:Int))=false:=(by simp);have HL_lks:Hid (∀j (h:j<x.lks.length) (h':j<y.lks.length),zbi x.lks[j] y.lks[j]=true):=fun j j1 j2=>HNO j j1 j2 j1;clear HNO;obtain⟨w_lks,rfl⟩: ∃w':World,w'=wr:=⟨_,rfl⟩;have HE:Hid (B=true):=HV1 HQ_sws HQ_lks HL_sws HL_lks;go_wp2_with fail;go_ret;exact⟨by rw[HE.out];rfl,jo K0 HBr⟩
  ·have tq1:((x.lks.length:Int)==(y.lks.length:Int))=false:=(by rw[beq_eq_false_iff_ne];omega);have tn1:((x.lks.length:Int) != (y.lks.length:Int))=true:=(by rw[bne,tq1];rfl);have HE:Hid (B=false):=HV.2.2 hq1;clear hq1;go_wp2_with fail;go_ret;exact⟨by rw[HE.out];rfl,jo K0 KR⟩
 ·have tq0:((x.sws.length:Int)==(y.sws.length:Int))=false:=by rw[beq_eq_false_iff_ne];omega
  have tn0:((x.sws.length:Int) != (y.sws.length:Int))=true:=by rw[bne,tq0];rfl
  have HE:Hid (B=false):=HV.2.1 hq0;clear hq0;go_wp2_with fail;go_ret;exact⟨by rw[HE.out];rfl,jo K0 KR⟩
theorem zyt (x y:Hs) (a a':Nat→Option Addr) (c c':Nat→Nat) (w:World) (hx:HsM w a c x) (hy:HsM w a' c' y) (hxf:x.Fit) (hyf:y.Fit):
  Calls Tryz.prog 22 #[hsV a c x,hsV a' c' y] w (zae w (zfq x y)):=by
 have HP:Hid (∀W,jb w W→HsM W a c x∧HsM W a' c' y):=fun W hb=>⟨hx.below hb,hy.below hb⟩;have HF:Hid (x.Fit∧y.Fit):=⟨hxf,hyf⟩;clear hx hy hxf hyf;unfold hsV;go_enter Tryz.func22,Tryz.ntmps22;go_upto_region 1 with fail;generalize hW0:World.alloc _ _=W0;have K0:Hid (jb w W0):=by show Below _ _ _;rw[←hW0];exact jal.alloc (by simp) _
 have X0:jk W0 w.heap.size (hsA a c x) 35:=by rw[←hW0];exact(heap_alloc_old _ _ (by simp)).trans (heap_alloc_new _ _)
 have Y0:jk W0 (w.heap.size+1) (hsA a' c' y) 35:=by rw[←hW0];exact heap_alloc2_new _ _ _
 clear hW0;have HW:Hid (∀W,jb W0 W→HsM W a c x∧HsM W a' c' y):=fun W hb=>HP W (jo K0 hb);have c1:=RgC.of (v:= .bool (decide (x.pl=y.pl))) fun W hb=>zha x.pl y.pl _ _ _ _ _ _ _ _ W (HW W hb).1.pl (HW W hb).2.pl HF.1.pl HF.2.pl;unfold plV at c1;have c2:=RgC.of (v:= .bool (decide (x.bk=y.bk))) fun W hb=>zha x.bk y.bk _ _ _ _ _ _ _ _ W (HW W hb).1.bk (HW W hb).2.bk HF.1.bk HF.2.bk;unfold plV at c2;have c5:=RgC.of (v:= .bool (zcx x.st y.st)) fun W hb=>zwh x.st y.st _ _ _ _ _ _ W (HW W hb).1.st (HW W hb).2.st HF.1.st HF.2.st;have HE:Hid (zfq x y=(decide (x.pl=y.pl)&&(decide (x.bk=y.bk)&&((x.high==y.high)&&((x.halted==y.halted)&&zcx x.st y.st))))):=rfl;generalize decide (x.pl=y.pl)=b1 at *;generalize decide (x.bk=y.bk)=b2 at *;obtain⟨b3,t3⟩: ∃b,(x.high==y.high)=b:=⟨_,rfl⟩;rw[t3]at HE;obtain⟨b4,t4⟩: ∃b,(x.halted==y.halted)=b:=⟨_,rfl⟩;rw[t4]at HE;generalize zcx x.st y.st=b5 at *;have C1:=hI c1;have C2:=hI c2;have C5:=hI c5;obtain⟨x0,x1,x2,x3,x4,x5,x6,x7,x8,x9,x10,x11,x12,x13,x14,x15,x16,x17,x18,x19,x20,x21,x22,x23,x24⟩:=zef X0;obtain⟨y0,y1,y2,y3,y4,y5,y6,y7,y8,y9,y10,y11,y12,y13,y14,y15,y16,y17,y18,y19,y20,y21,y22,y23,y24⟩:=zef Y0;clear c1 c2 c5 X0 Y0 HP HW HF;generalize zfq x y=B at *;rcases zot b1 b2 b3 b4 b5 with rfl | ⟨rfl,rfl⟩ | ⟨rfl,rfl,rfl⟩ | ⟨rfl,rfl,rfl,rfl⟩ | ⟨rfl,rfl,rfl,rfl,rfl⟩ | ⟨rfl,rfl,rfl,rfl,rfl⟩
 all_goals
  refine zee ?_
  repeat (go_big_quiet_step (first | (with_reducible exact C1.out _ _) | (with_reducible exact C2.out _ _) | (with_reducible exact C5.out _ _)))
  refine wpQuiet_nil ?_;rintro _ ⟨⟨dq,osq⟩,rfl⟩;go_wp2_with fail;go_ret;exact⟨by rw[HE.out];rfl,K0.trans ((below_regrown W0 dq osq).mono K0.size)⟩
theorem zyu (x y:Hs) (a a':Nat→Option Addr) (c c':Nat→Nat) (w:World) (hx:HsM w a c x) (hy:HsM w a' c' y) (hxf:x.Fit) (hyf:y.Fit):
  Calls Tryz.prog 23 #[hsV a c x,hsV a' c' y] w (zae w (zfq x y)):=by
 have HP:Hid (∀W,jb w W→HsM W a c x∧HsM W a' c' y):=fun W hb=>⟨hx.below hb,hy.below hb⟩;have HF:Hid (x.Fit∧y.Fit):=⟨hxf,hyf⟩;clear hx hy hxf hyf;unfold hsV;go_enter Tryz.func23,Tryz.ntmps23;go_upto_region 1 with fail;generalize hW0:World.alloc _ _=W0;have K0:Hid (jb w W0):=by show Below _ _ _;rw[←hW0];exact jal.alloc (by simp) _
 have X0:jk W0 w.heap.size (hsA a c x) 35:=by rw[←hW0];exact(heap_alloc_old _ _ (by simp)).trans (heap_alloc_new _ _)
 have Y0:jk W0 (w.heap.size+1) (hsA a' c' y) 35:=by rw[←hW0];exact heap_alloc2_new _ _ _
 clear hW0;have HW:Hid (∀W,jb W0 W→HsM W a c x∧HsM W a' c' y):=fun W hb=>HP W (jo K0 hb);have c1:=RgC.of (v:= .bool (decide (x.pl=y.pl))) fun W hb=>zh2 x.pl y.pl _ _ _ _ _ _ _ _ W (HW W hb).1.pl (HW W hb).2.pl HF.1.pl HF.2.pl;unfold plV at c1;have c2:=RgC.of (v:= .bool (decide (x.bk=y.bk))) fun W hb=>zh2 x.bk y.bk _ _ _ _ _ _ _ _ W (HW W hb).1.bk (HW W hb).2.bk HF.1.bk HF.2.bk;unfold plV at c2;have c5:=RgC.of (v:= .bool (zcx x.st y.st)) fun W hb=>zys x.st y.st _ _ _ _ _ _ W (HW W hb).1.st (HW W hb).2.st HF.1.st HF.2.st;have HE:Hid (zfq x y=(decide (x.pl=y.pl)&&(decide (x.bk=y.bk)&&((x.high==y.high)&&((x.halted==y.halted)&&zcx x.st y.st))))):=rfl;generalize decide (x.pl=y.pl)=b1 at *;generalize decide (x.bk=y.bk)=b2 at *;obtain⟨b3,t3⟩: ∃b,(x.high==y.high)=b:=⟨_,rfl⟩;rw[t3]at HE;obtain⟨b4,t4⟩: ∃b,(x.halted==y.halted)=b:=⟨_,rfl⟩;rw[t4]at HE;generalize zcx x.st y.st=b5 at *;have C1:=hI c1;have C2:=hI c2;have C5:=hI c5;obtain⟨x0,x1,x2,x3,x4,x5,x6,x7,x8,x9,x10,x11,x12,x13,x14,x15,x16,x17,x18,x19,x20,x21,x22,x23,x24⟩:=zef X0;obtain⟨y0,y1,y2,y3,y4,y5,y6,y7,y8,y9,y10,y11,y12,y13,y14,y15,y16,y17,y18,y19,y20,y21,y22,y23,y24⟩:=zef Y0;clear c1 c2 c5 X0 Y0 HP HW HF;generalize zfq x y=B at *;rcases zot b1 b2 b3 b4 b5 with rfl | ⟨rfl,rfl⟩ | ⟨rfl,rfl,rfl⟩ | ⟨rfl,rfl,rfl,rfl⟩ | ⟨rfl,rfl,rfl,rfl,rfl⟩ | ⟨rfl,rfl,rfl,rfl,rfl⟩
 all_goals
  refine zee ?_
  repeat (go_big_quiet_step (first | (with_reducible exact C1.out _ _) | (with_reducible exact C2.out _ _) | (with_reducible exact C5.out _ _)))
  refine wpQuiet_nil ?_;rintro _ ⟨⟨dq,osq⟩,rfl⟩;go_wp2_with fail;go_ret;exact⟨by rw[HE.out];rfl,K0.trans ((below_regrown W0 dq osq).mono K0.size)⟩
theorem zyv (x y:Hs) (a a':Nat→Option Addr) (c c':Nat→Nat) (w:World) (hx:HsM w a c x) (hy:HsM w a' c' y) (hxf:x.Fit) (hyf:y.Fit):
  Calls Tryz.prog 21 #[hsV a c x,hsV a' c' y] w (zae w (decide (x=y))):=by
 have HP:Hid (∀W,jb w W→HsM W a c x∧HsM W a' c' y):=fun W hb=>⟨hx.below hb,hy.below hb⟩;have HF:Hid (x.Fit∧y.Fit):=⟨hxf,hyf⟩;clear hx hy hxf hyf;unfold hsV;go_enter Tryz.func21,Tryz.ntmps21;go_upto_region 1 with fail;generalize hW0:World.alloc _ _=W0;have K0:Hid (jb w W0):=by show Below _ _ _;rw[←hW0];exact jal.alloc (by simp) _
 have X0:jk W0 w.heap.size (hsA a c x) 35:=by rw[←hW0];exact(heap_alloc_old _ _ (by simp)).trans (heap_alloc_new _ _)
 have Y0:jk W0 (w.heap.size+1) (hsA a' c' y) 35:=by rw[←hW0];exact heap_alloc2_new _ _ _
 clear hW0;have HW:Hid (∀W,jb W0 W→HsM W a c x∧HsM W a' c' y):=fun W hb=>HP W (jo K0 hb);have c1:=RgC.of (v:= .bool (decide (x.pl=y.pl))) fun W hb=>zha x.pl y.pl _ _ _ _ _ _ _ _ W (HW W hb).1.pl (HW W hb).2.pl HF.1.pl HF.2.pl;unfold plV at c1;have c2:=RgC.of (v:= .bool (decide (x.bk=y.bk))) fun W hb=>zha x.bk y.bk _ _ _ _ _ _ _ _ W (HW W hb).1.bk (HW W hb).2.bk HF.1.bk HF.2.bk;unfold plV at c2;have c3:=RgC.of (v:= .bool (decide (x.nx=y.nx))) fun W hb=>zha x.nx y.nx _ _ _ _ _ _ _ _ W (HW W hb).1.nx (HW W hb).2.nx HF.1.nx HF.2.nx;unfold plV at c3;have c6:=RgC.of (v:= .bool (decide (x.st=y.st))) fun W hb=>zoo x.st y.st _ _ _ _ _ _ W (HW W hb).1.st (HW W hb).2.st HF.1.st HF.2.st;have c7:=RgC.of (v:= .bool (decide (x.key=y.key))) fun W hb=>znw _ _ _ _ x.key y.key W (HW W hb).1.key (HW W hb).2.key HF.1.kb HF.2.kb;have c8:=RgC.of (v:= .bool (decide (x.buf=y.buf))) fun W hb=>znw _ _ _ _ x.buf y.buf W (HW W hb).1.buf (HW W hb).2.buf HF.1.bb HF.2.bb
 have HE:Hid (decide (x=y)=(decide (x.pl=y.pl)&&(decide (x.bk=y.bk)&&(decide (x.nx=y.nx)&&((x.high==y.high)&&((x.halted==y.halted)&&(decide (x.st=y.st)&&(decide (x.key=y.key)&&decide (x.buf=y.buf))))))))):=hI (by
  rw[Bool.eq_iff_iff];simp only[decide_eq_true_iff,Bool.and_eq_true,beq_iff_eq,zos];constructor
  ·rintro⟨h_key,h_pl,h_bk,h_high,h_st,h_buf,h_nx,h_halted⟩;exact⟨h_pl,h_bk,h_nx,h_high,h_halted,h_st,h_key,h_buf⟩
  ·rintro⟨h_pl,h_bk,h_nx,h_high,h_halted,h_st,h_key,h_buf⟩;exact⟨h_key,h_pl,h_bk,h_high,h_st,h_buf,h_nx,h_halted⟩)
 generalize decide (x.pl=y.pl)=b1 at *;generalize decide (x.bk=y.bk)=b2 at *;generalize decide (x.nx=y.nx)=b3 at *;obtain⟨b4,t4⟩: ∃b,(x.high==y.high)=b:=⟨_,rfl⟩;rw[t4]at HE;obtain⟨b5,t5⟩: ∃b,(x.halted==y.halted)=b:=⟨_,rfl⟩;rw[t5]at HE;generalize decide (x.st=y.st)=b6 at *;generalize decide (x.key=y.key)=b7 at *;generalize decide (x.buf=y.buf)=b8 at *;have C1:=hI c1;have C2:=hI c2;have C3:=hI c3;have C6:=hI c6;have C7:=hI c7;have C8:=hI c8;obtain⟨x0,x1,x2,x3,x4,x5,x6,x7,x8,x9,x10,x11,x12,x13,x14,x15,x16,x17,x18,x19,x20,x21,x22,x23,x24⟩:=zef X0;obtain⟨y0,y1,y2,y3,y4,y5,y6,y7,y8,y9,y10,y11,y12,y13,y14,y15,y16,y17,y18,y19,y20,y21,y22,y23,y24⟩:=zef Y0;clear c1 c2 c3 c6 c7 c8 X0 Y0 HP HW HF;generalize decide (x=y)=B at *;rcases zou b1 b2 b3 b4 b5 b6 b7 b8 with rfl | ⟨rfl,rfl⟩ | ⟨rfl,rfl,rfl⟩ | ⟨rfl,rfl,rfl,rfl⟩ | ⟨rfl,rfl,rfl,rfl,rfl⟩ | ⟨rfl,rfl,rfl,rfl,rfl,rfl⟩ | ⟨rfl,rfl,rfl,rfl,rfl,rfl,rfl⟩ | ⟨rfl,rfl,rfl,rfl,rfl,rfl,rfl,rfl⟩ | ⟨rfl,rfl,rfl,rfl,rfl,rfl,rfl,rfl⟩
 all_goals
  refine zee ?_
  repeat (go_big_quiet_step (first | (with_reducible exact C1.out _ _) | (with_reducible exact C2.out _ _) | (with_reducible exact C3.out _ _) | (with_reducible exact C6.out _ _) | (with_reducible exact C7.out _ _) | (with_reducible exact C8.out _ _)))
  refine wpQuiet_nil ?_;rintro _ ⟨⟨dq,osq⟩,rfl⟩;go_wp2_with fail;go_ret;exact⟨by rw[HE.out];rfl,K0.trans ((below_regrown W0 dq osq).mono K0.size)⟩
theorem zjn (x y:Hs) (a a':Nat→Option Addr) (c c':Nat→Nat) (w:World) (hx:HsM w a c x) (hy:HsM w a' c' y) (hxf:x.Fit) (hyf:y.Fit):
  Calls Tryz.prog 18 #[hsV a c x,hsV a' c' y] w (zae w (decide (x=y))):=by
 have HP:Hid (∀W,jb w W→HsM W a c x∧HsM W a' c' y):=fun W hb=>⟨hx.below hb,hy.below hb⟩;have HF:Hid (x.Fit∧y.Fit):=⟨hxf,hyf⟩;clear hx hy hxf hyf;unfold hsV;go_enter Tryz.func18,Tryz.ntmps18;go_upto_region 1 with fail;generalize hW0:World.alloc _ _=W0;have K0:Hid (jb w W0):=by show Below _ _ _;rw[←hW0];exact jal.alloc (by simp) _
 have X0:jk W0 w.heap.size (hsA a c x) 35:=by rw[←hW0];exact(heap_alloc_old _ _ (by simp)).trans (heap_alloc_new _ _)
 have Y0:jk W0 (w.heap.size+1) (hsA a' c' y) 35:=by rw[←hW0];exact heap_alloc2_new _ _ _
 clear hW0;have HW:Hid (∀W,jb W0 W→HsM W a c x∧HsM W a' c' y):=fun W hb=>HP W (jo K0 hb);have q1:=fun(d:Nat) (os:Array Obj)=>zg8 (HW _ (below_regrown W0 d os)).1.key;have r1:=fun(d:Nat) (os:Array Obj)=>zg8 (HW _ (below_regrown W0 d os)).2.key;have t1:=zk4 HF.1.kb HF.2.kb;have c2:=RgC.of (v:= .bool (decide (x.pl=y.pl))) fun W hb=>zh2 x.pl y.pl _ _ _ _ _ _ _ _ W (HW W hb).1.pl (HW W hb).2.pl HF.1.pl HF.2.pl;unfold plV at c2;have c3:=RgC.of (v:= .bool (decide (x.bk=y.bk))) fun W hb=>zh2 x.bk y.bk _ _ _ _ _ _ _ _ W (HW W hb).1.bk (HW W hb).2.bk HF.1.bk HF.2.bk;unfold plV at c3;have c5:=RgC.of (v:= .bool (decide (x.st=y.st))) fun W hb=>zyr x.st y.st _ _ _ _ _ _ W (HW W hb).1.st (HW W hb).2.st HF.1.st HF.2.st;have q6:=fun(d:Nat) (os:Array Obj)=>zg8 (HW _ (below_regrown W0 d os)).1.buf;have r6:=fun(d:Nat) (os:Array Obj)=>zg8 (HW _ (below_regrown W0 d os)).2.buf;have t6:=zk4 HF.1.bb HF.2.bb;have c7:=RgC.of (v:= .bool (decide (x.nx=y.nx))) fun W hb=>zh2 x.nx y.nx _ _ _ _ _ _ _ _ W (HW W hb).1.nx (HW W hb).2.nx HF.1.nx HF.2.nx;unfold plV at c7
 have HE:Hid (decide (x=y)=(decide (x.key=y.key)&&(decide (x.pl=y.pl)&&(decide (x.bk=y.bk)&&((x.high==y.high)&&(decide (x.st=y.st)&&(decide (x.buf=y.buf)&&(decide (x.nx=y.nx)&&(x.halted==y.halted))))))))):=hI (by
  rw[Bool.eq_iff_iff]
  simp only[decide_eq_true_iff,Bool.and_eq_true,beq_iff_eq,zos])
 generalize decide (x.key=y.key)=b1 at *;generalize Go.strOfNums x.key=S0 at *;generalize Go.strOfNums y.key=T0 at *;generalize decide (x.pl=y.pl)=b2 at *;generalize decide (x.bk=y.bk)=b3 at *;obtain⟨b4,t4⟩: ∃b,(x.high==y.high)=b:=⟨_,rfl⟩;rw[t4]at HE;generalize decide (x.st=y.st)=b5 at *;generalize decide (x.buf=y.buf)=b6 at *;generalize Go.strOfNums x.buf=S5 at *;generalize Go.strOfNums y.buf=T5 at *;generalize decide (x.nx=y.nx)=b7 at *;obtain⟨b8,t8⟩: ∃b,(x.halted==y.halted)=b:=⟨_,rfl⟩;rw[t8]at HE;have C2:=hI c2;have C3:=hI c3;have C5:=hI c5;have C7:=hI c7;obtain⟨x0,x1,x2,x3,x4,x5,x6,x7,x8,x9,x10,x11,x12,x13,x14,x15,x16,x17,x18,x19,x20,x21,x22,x23,x24⟩:=zef X0;obtain⟨y0,y1,y2,y3,y4,y5,y6,y7,y8,y9,y10,y11,y12,y13,y14,y15,y16,y17,y18,y19,y20,y21,y22,y23,y24⟩:=zef Y0;clear c2 c3 c5 c7 X0 Y0 HP HW HF;generalize decide (x=y)=B at *;rcases zou b1 b2 b3 b4 b5 b6 b7 b8 with rfl | ⟨rfl,rfl⟩ | ⟨rfl,rfl,rfl⟩ | ⟨rfl,rfl,rfl,rfl⟩ | ⟨rfl,rfl,rfl,rfl,rfl⟩ | ⟨rfl,rfl,rfl,rfl,rfl,rfl⟩ | ⟨rfl,rfl,rfl,rfl,rfl,rfl,rfl⟩ | ⟨rfl,rfl,rfl,rfl,rfl,rfl,rfl,rfl⟩ | ⟨rfl,rfl,rfl,rfl,rfl,rfl,rfl,rfl⟩
 all_goals
  refine zee ?_
  repeat (go_big_quiet_step (first | (with_reducible exact C2.out _ _) | (with_reducible exact C3.out _ _) | (with_reducible exact C5.out _ _) | (with_reducible exact C7.out _ _)))
  refine wpQuiet_nil ?_;rintro _ ⟨⟨dq,osq⟩,rfl⟩;go_wp2_with fail;go_ret;exact⟨by rw[HE.out];rfl,K0.trans ((below_regrown W0 dq osq).mono K0.size)⟩
def zgv (w:World) (R:Prop) (e:Ending) (w':World):Prop:= ∃b,e= .returned (.bool b)∧(b=false→R)∧jb w w'
theorem zyw (t s l:Value) (x:St) (w:World) (hx:StM w t s l x):Calls Tryz.prog 34 #[.agg #[t,s,l]] w (zgv w x.fit):=by
 obtain⟨a1,c1,rfl,-⟩:=hx.tks;obtain⟨a2,c2,rfl,-⟩:=hx.sws;obtain⟨a3,c3,rfl,-⟩:=hx.lks;clear hx;have HF:Hid (x.tks.length≤200→x.sws.length≤200→x.lks.length≤200→x.fit):=fun h1 h2 h3=>⟨by omega,by omega,by omega⟩;go_enter Tryz.func34,Tryz.ntmps34;go_wp2_with fail
 all_goals
  go_ret;refine⟨_,rfl,fun h=> ?_,jal⟩;simp at h<;>exact HF (by omega) (by omega) (by omega)
end Go.Proofs.YtbiehpjhhopjaaaGreat
