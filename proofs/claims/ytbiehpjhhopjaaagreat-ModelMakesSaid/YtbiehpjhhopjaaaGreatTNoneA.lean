/-
 The references' equalities of sections,routes and plans,walked. (Written by wip/tools/gen_eqr.py.)
-/
import Derived.Test.YtbiehpjhhopjaaaGreatTEqH
set_option linter.unusedVariables false
set_option linter.unusedSimpArgs false
set_option maxRecDepth 100000
set_option maxHeartbeats 16000000
namespace Go.Proofs.YtbiehpjhhopjaaaGreat
open Go.RowKit Go.Sort
theorem zwi (x y:Sec) (a b:Option Addr) (c d:Nat) (w:World) (hx:SlA w 2 RJn a c x.ends) (hy:SlA w 2 RJn b d y.ends) (h1:x.ends.length≤8796093022208) (h2:y.ends.length≤8796093022208):
  Calls Tryz.prog 224 #[.agg #[x.id,x.pt,js a x.ends.length c],.agg #[y.id,y.pt,js b y.ends.length d]] w (zae w (decide (x=y))):=by
 have HLX:Hid (∀W,jb w W→SlA W 2 RJn a c x.ends):=fun W hb=>hx.below zcn hb;have HLY:Hid (∀W,jb w W→SlA W 2 RJn b d y.ends):=fun W hb=>hy.below zcn hb;have HV:Hid ((x=y→decide (x=y)=true)∧(x≠y→decide (x=y)=false)):=⟨fun h=>decide_eq_true h,fun h=>decide_eq_false h⟩;clear hx hy;generalize decide (x=y)=B at *;go_enter Tryz.func224,Tryz.ntmps224;go_upto_region 1 with fail;obtain⟨W0,hW0⟩: ∃W0,W0=(w.alloc (.cells #[x.id,x.pt,js a x.ends.length c] 80)).alloc (.cells #[y.id,y.pt,js b y.ends.length d] 80):=⟨_,rfl⟩;rw[←hW0];have K0:Hid (jb w W0):=by show Below _ _ _;rw[hW0];exact jal.alloc (by simp) _
 have HX0:Hid (jk W0 w.heap.size #[x.id,x.pt,js a x.ends.length c] 80):=by show _=_;rw[hW0];exact(heap_alloc_old _ _ (by simp)).trans (heap_alloc_new _ _)
 have HY0:Hid (jk W0 (w.heap.size+1) #[y.id,y.pt,js b y.ends.length d] 80):=by show _=_;rw[hW0];exact heap_alloc2_new _ _ _
 clear hW0;have KR:Hid (jb W0 W0):=Below.refl _ _;have bx:=jm KR HX0;have by_:=jm KR HY0;obtain⟨xx0,xx1,xx2⟩:=zap bx;obtain⟨yy0,yy1,yy2⟩:=zap by_;have lx:=zad bx;have ly:=zad by_;clear bx by_;by_cases hq0:x.id=y.id
 ·have tq0:(x.id==y.id)=true:=by rw[beq_iff_eq];exact hq0
  have tn0:(x.id != y.id)=false:=by rw[bne,tq0];rfl
  have HQ_id:=hI hq0;clear hq0;by_cases hq1:x.pt=y.pt
  ·obtain⟨tq1,tn1⟩:=jy hq1;have HQ_pt:=hI hq1;clear hq1;by_cases hq2:x.ends.length=y.ends.length
   ·have tq2:((x.ends.length:Int)==(y.ends.length:Int))=true:=(by rw[beq_iff_eq];omega);have tn2:((x.ends.length:Int) != (y.ends.length:Int))=false:=(by rw[bne,tq2];rfl);have HQ_ends:=hI hq2;clear hq2;go_wp2_with fail;go_loopg [5] x.ends.length (fun g i wr=> ∃k:Nat,k≤x.ends.length∧g=x.ends.length-k∧i= .int .i64 k∧jb W0 wr∧ ∀j (h:j<x.ends.length) (h':j<y.ends.length),j<k→x.ends[j]=y.ends[j])
    case atStart=>exact⟨0,by omega,by omega,rfl,KR,fun j _ _ hj=>absurd hj (Nat.not_lt_zero _)⟩
    case round=>
     obtain⟨k,hk,rfl,rfl,hb,hno⟩:=hrel;have HBr:=hI hb;have KBr:=jh K0 hb;have HNO:=hI hno;clear hb hno;clear xx0 yy0 xx1 yy1 xx2 yy2 lx ly;have bx:=jm HBr HX0;have by_:=jm HBr HY0;obtain⟨xx0,xx1,xx2⟩:=zap bx;obtain⟨yy0,yy1,yy2⟩:=zap by_;have lx:=zad bx;have ly:=zad by_;clear bx by_;by_cases hlt:k<x.ends.length
     ·have hd:decide ((k:Int)<(x.ends.length:Int))=true:=(by simp;omega);have hlm:k<y.ends.length:=(by rw[←HQ_ends.out];exact hlt);have c0:(0:Int)≤(k:Int):=(by omega);have c1:(k:Int)<(x.ends.length:Int):=(by omega);have c2:(k:Int)<(y.ends.length:Int):=(by omega);obtain⟨g,off,vs,rfl,hxl,hxc,hxr⟩:=(HLX wr KBr).at_ k hlt;obtain rfl:vs=[.int .i64 x.ends[k].to,.int .i64 x.ends[k].en]:=hxr;obtain⟨g2,off2,vs2,rfl,hyl,hyc,hyr⟩:=(HLY wr KBr).at_ k hlm;obtain rfl:vs2=[.int .i64 y.ends[k].to,.int .i64 y.ends[k].en]:=hyr;have x0:=hxc 0 (by simp);have y0:=hyc 0 (by simp);have x1:=hxc 1 (by simp);have y1:=hyc 1 (by simp);simp only[Nat.add_zero,List.getElem_cons_zero,List.getElem_cons_succ]at x0 y0 x1 y1;have l1x:=block_lt_of_cell x0;have l1y:=block_lt_of_cell y0;clear hxl hxc hyl hyc;by_cases hr0:x.ends[k].to=y.ends[k].to
      ·obtain⟨sq0,sn0⟩:=jy hr0;have HR0:=hI hr0;clear hr0;by_cases hr1:x.ends[k].en=y.ends[k].en
       ·obtain⟨sq1,sn1⟩:=jy hr1;have HR1:=hI hr1;clear hr1
        have HN:Hid (∀j (h:j<x.ends.length) (h':j<y.ends.length),j<k+1→x.ends[j]=y.ends[j]):=fun j j1 j2 j3=>by
         by_cases hjk:j=k
         ·subst hjk;exact zoh HR0 HR1
         ·exact HNO j j1 j2 (by omega)
        go_upto_region 6 with fail;go_quiet (fail);go_wp2_with fail;go_roundg (x.ends.length-(k+1))
        case measure=>go_light;omega
        case rel=>go_light;exact⟨k+1,by omega,by omega,by go_num,zal HBr _,HN⟩
       ·obtain⟨sq1,sn1⟩:=jn hr1;have HE:Hid (B=false):=HV.2 fun e=>hr1 (by subst e;rfl);clear hr1;go_upto_region 6 with fail;go_quiet (fail);go_wp2_with fail;go_ret;exact⟨by rw[HE.out];rfl,K0.trans ((zal HBr _).mono K0.size)⟩
      ·obtain⟨sq0,sn0⟩:=jn hr0;have HE:Hid (B=false):=HV.2 fun e=>hr0 (by subst e;rfl);clear hr0;go_upto_region 6 with fail;go_quiet (fail);go_wp2_with fail;go_ret;exact⟨by rw[HE.out];rfl,K0.trans ((zal HBr _).mono K0.size)⟩
     ·obtain rfl:k=x.ends.length:=(by omega);have HL_ends:Hid (x.ends=y.ends):=List.ext_getElem HQ_ends fun j j1 j2=>HNO j j1 j2 j1;clear HNO;obtain⟨w_ends,rfl⟩: ∃w':World,w'=wr:=⟨_,rfl⟩;have HE:Hid (B=true):=HV.1 (zol HQ_id HQ_pt HL_ends);go_wp2_with fail;go_ret;exact⟨by rw[HE.out];rfl,jo K0 HBr⟩
   ·have tq2:((x.ends.length:Int)==(y.ends.length:Int))=false:=(by rw[beq_eq_false_iff_ne];omega);have tn2:((x.ends.length:Int) != (y.ends.length:Int))=true:=(by rw[bne,tq2];rfl);have HE:Hid (B=false):=HV.2 fun e=>hq2 (by rw[e]);clear hq2;go_wp2_with fail;go_ret;exact⟨by rw[HE.out];rfl,jo K0 KR⟩
  ·obtain⟨tq1,tn1⟩:=jn hq1;have HE:Hid (B=false):=HV.2 fun e=>hq1 (by rw[e]);clear hq1;go_wp2_with fail;go_ret;exact⟨by rw[HE.out];rfl,jo K0 KR⟩
 ·have tq0:(x.id==y.id)=false:=by rw[beq_eq_false_iff_ne];exact hq0
  have tn0:(x.id != y.id)=true:=by rw[bne,tq0];rfl
  have HE:Hid (B=false):=HV.2 fun e=>hq0 (by rw[e]);clear hq0;go_wp2_with fail;go_ret;exact⟨by rw[HE.out];rfl,jo K0 KR⟩
theorem zwj (a b:Option Addr) (ca cb:Nat) (l m:List Sec) (w:World) (hl:SlA w 3 zas a ca l) (hm:SlA w 3 zas b cb m) (h1:l.length≤1000) (h2:m.length≤1000) (he1: ∀i (h:i<l.length),l[i].ends.length≤8796093022208) (he2: ∀i (h:i<m.length),m[i].ends.length≤8796093022208):
  Calls Tryz.prog 138 #[js a l.length ca,js b m.length cb] w (zae w (decide (l=m))):=by
 have HL:Hid (∀W,jb w W→SlA W 3 zas a ca l):=fun W hb=>hl.below zbo hb;have HM:Hid (∀W,jb w W→SlA W 3 zas b cb m):=fun W hb=>hm.below zbo hb;have HE1:=hI he1;have HE2:=hI he2;clear he1 he2;have HV1:Hid (l.length≠m.length→decide (l=m)=false):=fun h=>decide_eq_false fun e=>h (by rw[e]);have HV2:Hid (l.length=m.length→(∀k (h:k<l.length) (h':k<m.length),l[k]=m[k])→decide (l=m)=true):=fun h h3=>decide_eq_true (zf7 h h3);have HV3:Hid (∀k (h:k<l.length) (h':k<m.length),l[k]≠m[k]→decide (l=m)=false):=fun k h h' h3=>decide_eq_false fun e=>h3 (by subst e;rfl);clear hl hm;generalize decide (l=m)=B at *;go_enter Tryz.func138,Tryz.ntmps138;by_cases hlen:l.length=m.length
 ·have HLE:=hI hlen;have td:((l.length:Int)==(m.length:Int))=true:=by rw[beq_iff_eq];omega
  have te:((l.length:Int) != (m.length:Int))=false:=by rw[bne,td];rfl
  clear hlen;go_wp2_with fail;go_loopg [5] l.length (fun g i wr=> ∃k:Nat,k≤l.length∧g=l.length-k∧i= .int .i64 k∧jb w wr∧ ∀j (h:j<l.length) (h':j<m.length),j<k→l[j]=m[j])
  case atStart=>exact⟨0,by omega,by omega,rfl,Below.refl _ _,fun j _ _ hj=>absurd hj (Nat.not_lt_zero _)⟩
  case round=>
   obtain⟨k,hk,rfl,rfl,hb,hno⟩:=hrel;have HB:=hI hb;have HNO:=hI hno;clear hb hno;by_cases hlt:k<l.length
   ·have hd:decide ((k:Int)<(l.length:Int))=true:=(by simp;omega);have hlm:k<m.length:=(by rw[←HLE.out];exact hlt);obtain⟨g,off,xa,xc,rfl,x0,x1,x2,hxj⟩:=(HL wr HB).sec hlt;obtain⟨g2,off2,ya,yc,rfl,y0,y1,y2,hyj⟩:=(HM wr HB).sec hlm;have HXJ:Hid (∀W,jb wr W→SlA W 2 RJn xa xc l[k].ends):=fun W hb=>hxj.below zcn hb;have HYJ:Hid (∀W,jb wr W→SlA W 2 RJn ya yc m[k].ends):=fun W hb=>hyj.below zcn hb;have lx:=block_lt_of_cell x0;have ly:=block_lt_of_cell y0;clear hxj hyj;have c0:(0:Int)≤(k:Int):=(by omega);have c1:(k:Int)<(l.length:Int):=(by omega);have c2:(k:Int)<(m.length:Int):=(by omega);go_upto_region 6 with fail
    go_still_tail 8,(by kernel_rfl)
    change wpList _ _ _ _ _ wr.drew;generalize hWD:wr.drew=W9;have hb9:jb wr W9:=(by rw[←hWD];exact(Below.refl _ _).drew);have HB9:=jh HB hb9;have HCk:Hid (Calls Tryz.prog 224 #[.agg #[l[k].id,l[k].pt,js xa l[k].ends.length xc],.agg #[m[k].id,m[k].pt,js ya m[k].ends.length yc]] W9 (zae W9 (decide (l[k]=m[k])))):=zwi l[k] m[k] xa ya xc yc W9 (HXJ W9 hb9) (HYJ W9 hb9) (HE1 k hlt) (HE2 k hlm);have HV3k:=hI (HV3 k hlt hlm)
    have HNk:Hid (l[k]=m[k]→ ∀j (h:j<l.length) (h':j<m.length),j<k+1→l[j]=m[j]):=fun h j j1 j2 j3=>by
     by_cases hjk:j=k
     ·subst hjk;exact h
     ·exact HNO j j1 j2 (by omega)
    clear hb9 hWD;by_cases hE:l[k]=m[k]
    ·rw[decide_eq_true hE]at HCk;have HN:=hI (HNk hE);clear hE;go_wp2_with fail;refine HCk.mono ?_;rintro e W3 ⟨rfl,hb⟩;have HB3:=jh HB9 hb;clear hb HCk;go_wp2_with fail;go_roundg (l.length-(k+1))
     case measure=>go_light;omega
     case rel=>go_light;exact⟨k+1,by omega,by omega,by go_num,HB3,HN⟩
    ·rw[decide_eq_false hE]at HCk;have HE:=hI (HV3k hE);clear hE;go_wp2_with fail;refine HCk.mono ?_;rintro e W3 ⟨rfl,hb⟩;have HB3:=jh HB9 hb;clear hb HCk;go_wp2_with fail;go_ret;exact⟨by rw[HE.out];rfl,HB3⟩
   ·obtain rfl:k=l.length:=(by omega);have HE:Hid (B=true):=HV2 HLE fun j j1 j2=>HNO j j1 j2 j1;go_wp2_with fail;go_ret;exact⟨by rw[HE.out];rfl,HB⟩
 ·have HE:=hI (HV1 hlen);have td:((l.length:Int)==(m.length:Int))=false:=by rw[beq_eq_false_iff_ne];omega
  have te:((l.length:Int) != (m.length:Int))=true:=by rw[bne,td];rfl
  clear hlen;go_wp2_with fail;go_ret;exact⟨by rw[HE.out];rfl,Below.refl _ _⟩
theorem zop (a b:Option Addr) (ca cb:Nat) (l m:List Int) (w:World) (hl:ILv w (js a l.length ca) l) (hm:ILv w (js b m.length cb) m) (h1:l.length≤17592186044416) (h2:m.length≤17592186044416):
  Calls Tryz.prog 97 #[js a l.length ca,js b m.length cb] w (zae w (eqB l m)):=by
 obtain⟨_,_,e1,k1⟩:=hl.at_;obtain⟨_,_,e2,k2⟩:=hm.at_;cases e1;cases e2;refine(zqv _ _ _ _ _ _ l m w k1 k2 (by omega) (by omega)).mono ?_;rintro e w' h;unfold zig at h;obtain⟨h,n,hn⟩:=h;exact⟨h,by rw[hn];exact zal (Below.refl _ _) _⟩
theorem zwk (x y:Rt) (a1 a3 a5 b1 b3 b5:Option Addr) (a2 a4 a6 b2 b4 b6:Nat) (w:World) (hx:RtM w (js a1 x.A.length a2) (js a3 x.O.length a4) (js a5 x.fl.length a6) x) (hy:RtM w (js b1 y.A.length b2) (js b3 y.O.length b4) (js b5 y.fl.length b6) y) (h1:x.fit) (h2:y.fit):
  Calls Tryz.prog 139 #[.agg #[x.id,x.E,x.X,js a1 x.A.length a2,js a3 x.O.length a4,js a5 x.fl.length a6,x.T],.agg #[y.id,y.E,y.X,js b1 y.A.length b2,js b3 y.O.length b4,js b5 y.fl.length b6,y.T]] w (zae w (decide (x=y))):=by
 have HXM:Hid (∀W,jb w W→RtM W (js a1 x.A.length a2) (js a3 x.O.length a4) (js a5 x.fl.length a6) x):=fun W hb=>hx.below hb;have HYM:Hid (∀W,jb w W→RtM W (js b1 y.A.length b2) (js b3 y.O.length b4) (js b5 y.fl.length b6) y):=fun W hb=>hy.below hb;have HC1:Hid (∀W,jb w W→Calls Tryz.prog 97 #[js a1 x.A.length a2,js b1 y.A.length b2] W (zae W (eqB x.A y.A))):=fun W hb=>zop _ _ _ _ _ _ W (HXM W hb).A (HYM W hb).A h1.1 h2.1;have HC2:Hid (∀W,jb w W→Calls Tryz.prog 97 #[js a3 x.O.length a4,js b3 y.O.length b4] W (zae W (eqB x.O y.O))):=fun W hb=>zop _ _ _ _ _ _ W (HXM W hb).O (HYM W hb).O h1.2.1 h2.2.1
 have HLX:Hid (∀W,jb w W→SlA W 2 RFl a5 a6 x.fl):=fun W hb=>by
  obtain⟨_,_,e1,k1⟩:=(HXM W hb).fl;cases e1;exact k1
 have HLY:Hid (∀W,jb w W→SlA W 2 RFl b5 b6 y.fl):=fun W hb=>by
  obtain⟨_,_,e1,k1⟩:=(HYM W hb).fl;cases e1;exact k1
 have h3:x.fl.length≤8796093022208:=h1.2.2;have h4:y.fl.length≤8796093022208:=h2.2.2;have HV:Hid ((x=y→decide (x=y)=true)∧(x≠y→decide (x=y)=false)):=⟨fun h=>decide_eq_true h,fun h=>decide_eq_false h⟩;clear hx hy HXM HYM h1 h2;generalize decide (x=y)=B at *;go_enter Tryz.func139,Tryz.ntmps139;go_upto_region 1 with fail;obtain⟨W0,hW0⟩: ∃W0,W0=(w.alloc (.cells #[x.id,x.E,x.X,js a1 x.A.length a2,js a3 x.O.length a4,js a5 x.fl.length a6,x.T] 102)).alloc (.cells #[y.id,y.E,y.X,js b1 y.A.length b2,js b3 y.O.length b4,js b5 y.fl.length b6,y.T] 102):=⟨_,rfl⟩;rw[←hW0];have K0:Hid (jb w W0):=by show Below _ _ _;rw[hW0];exact jal.alloc (by simp) _
 have HX0:Hid (jk W0 w.heap.size #[x.id,x.E,x.X,js a1 x.A.length a2,js a3 x.O.length a4,js a5 x.fl.length a6,x.T] 102):=by show _=_;rw[hW0];exact(heap_alloc_old _ _ (by simp)).trans (heap_alloc_new _ _)
 have HY0:Hid (jk W0 (w.heap.size+1) #[y.id,y.E,y.X,js b1 y.A.length b2,js b3 y.O.length b4,js b5 y.fl.length b6,y.T] 102):=by show _=_;rw[hW0];exact heap_alloc2_new _ _ _
 clear hW0;have KR:Hid (jb W0 W0):=Below.refl _ _;have bx:=jm KR HX0;have by_:=jm KR HY0;obtain⟨xx0,xx1,xx2,xx3,xx4,xx5,xx6⟩:=zb7 bx;obtain⟨yy0,yy1,yy2,yy3,yy4,yy5,yy6⟩:=zb7 by_;have lx:=zad bx;have ly:=zad by_;clear bx by_;by_cases hq0:x.id=y.id
 ·have tq0:(x.id==y.id)=true:=by rw[beq_iff_eq];exact hq0
  have tn0:(x.id != y.id)=false:=by rw[bne,tq0];rfl
  have HQ_id:=hI hq0;clear hq0;by_cases hq1:x.E=y.E
  ·obtain⟨tq1,tn1⟩:=jy hq1;have HQ_entry:=hI hq1;clear hq1;by_cases hq2:x.X=y.X
   ·obtain⟨tq2,tn2⟩:=jy hq2;have HQ_exit:=hI hq2;clear hq2;by_cases hq3:x.T=y.T
    ·obtain⟨tq3,tn3⟩:=jy hq3;have HQ_timer:=hI hq3;clear hq3;by_cases hq4:x.A=y.A
     ·have HQ_path:=hI hq4;have HCk:=hI (HC1 W0 (jo K0 KR));rw[show(eqB x.A y.A)=true from decide_eq_true hq4]at HCk;clear hq4;go_wp2_with fail;refine HCk.mono ?_;rintro e W5 ⟨rfl,hb⟩;have HB5:=jh KR hb;clear hb;clear xx0 yy0 xx1 yy1 xx2 yy2 xx3 yy3 xx4 yy4 xx5 yy5 xx6 yy6 lx ly;have bx:=jm HB5 HX0;have by_:=jm HB5 HY0;obtain⟨xx0,xx1,xx2,xx3,xx4,xx5,xx6⟩:=zb7 bx;obtain⟨yy0,yy1,yy2,yy3,yy4,yy5,yy6⟩:=zb7 by_;have lx:=zad bx;have ly:=zad by_;clear bx by_;by_cases hq5:x.O=y.O
      ·have HQ_over:=hI hq5;have HCk:=hI (HC2 W5 (jo K0 HB5));rw[show(eqB x.O y.O)=true from decide_eq_true hq5]at HCk;clear hq5;go_wp2_with fail;refine HCk.mono ?_;rintro e W6 ⟨rfl,hb⟩;have HB6:=jh HB5 hb;clear hb;clear xx0 yy0 xx1 yy1 xx2 yy2 xx3 yy3 xx4 yy4 xx5 yy5 xx6 yy6 lx ly;have bx:=jm HB6 HX0;have by_:=jm HB6 HY0;obtain⟨xx0,xx1,xx2,xx3,xx4,xx5,xx6⟩:=zb7 bx;obtain⟨yy0,yy1,yy2,yy3,yy4,yy5,yy6⟩:=zb7 by_;have lx:=zad bx;have ly:=zad by_;clear bx by_;by_cases hq6:x.fl.length=y.fl.length
       ·have tq6:((x.fl.length:Int)==(y.fl.length:Int))=true:=(by rw[beq_iff_eq];omega);have tn6:((x.fl.length:Int) != (y.fl.length:Int))=false:=(by rw[bne,tq6];rfl);have HQ_fl:=hI hq6;clear hq6;go_wp2_with fail;go_loopg [5] x.fl.length (fun g i wr=> ∃k:Nat,k≤x.fl.length∧g=x.fl.length-k∧i= .int .i64 k∧jb W0 wr∧ ∀j (h:j<x.fl.length) (h':j<y.fl.length),j<k→x.fl[j]=y.fl[j])
        case atStart=>exact⟨0,by omega,by omega,rfl,HB6,fun j _ _ hj=>absurd hj (Nat.not_lt_zero _)⟩
        case round=>
         obtain⟨k,hk,rfl,rfl,hb,hno⟩:=hrel;have HBr:=hI hb;have KBr:=jh K0 hb;have HNO:=hI hno;clear hb hno;clear xx0 yy0 xx1 yy1 xx2 yy2 xx3 yy3 xx4 yy4 xx5 yy5 xx6 yy6 lx ly;have bx:=jm HBr HX0;have by_:=jm HBr HY0;obtain⟨xx0,xx1,xx2,xx3,xx4,xx5,xx6⟩:=zb7 bx;obtain⟨yy0,yy1,yy2,yy3,yy4,yy5,yy6⟩:=zb7 by_;have lx:=zad bx;have ly:=zad by_;clear bx by_;by_cases hlt:k<x.fl.length
         ·have hd:decide ((k:Int)<(x.fl.length:Int))=true:=(by simp;omega);have hlm:k<y.fl.length:=(by rw[←HQ_fl.out];exact hlt);have c0:(0:Int)≤(k:Int):=(by omega);have c1:(k:Int)<(x.fl.length:Int):=(by omega);have c2:(k:Int)<(y.fl.length:Int):=(by omega);obtain⟨g,off,vs,rfl,hxl,hxc,hxr⟩:=(HLX wr KBr).at_ k hlt;obtain rfl:vs=[.int .i64 x.fl[k].pt,.int .i64 x.fl[k].lie]:=hxr;obtain⟨g2,off2,vs2,rfl,hyl,hyc,hyr⟩:=(HLY wr KBr).at_ k hlm;obtain rfl:vs2=[.int .i64 y.fl[k].pt,.int .i64 y.fl[k].lie]:=hyr;have x0:=hxc 0 (by simp);have y0:=hyc 0 (by simp);have x1:=hxc 1 (by simp);have y1:=hyc 1 (by simp);simp only[Nat.add_zero,List.getElem_cons_zero,List.getElem_cons_succ]at x0 y0 x1 y1;have l1x:=block_lt_of_cell x0;have l1y:=block_lt_of_cell y0;clear hxl hxc hyl hyc;by_cases hr0:x.fl[k].pt=y.fl[k].pt
          ·obtain⟨sq0,sn0⟩:=jy hr0;have HR0:=hI hr0;clear hr0;by_cases hr1:x.fl[k].lie=y.fl[k].lie
           ·obtain⟨sq1,sn1⟩:=jy hr1;have HR1:=hI hr1;clear hr1
            have HN:Hid (∀j (h:j<x.fl.length) (h':j<y.fl.length),j<k+1→x.fl[j]=y.fl[j]):=fun j j1 j2 j3=>by
             by_cases hjk:j=k
             ·subst hjk;exact zoi HR0 HR1
             ·exact HNO j j1 j2 (by omega)
            go_upto_region 6 with fail;go_quiet (fail);go_wp2_with fail;go_roundg (x.fl.length-(k+1))
            case measure=>go_light;omega
            case rel=>go_light;exact⟨k+1,by omega,by omega,by go_num,zal HBr _,HN⟩
           ·obtain⟨sq1,sn1⟩:=jn hr1;have HE:Hid (B=false):=HV.2 fun e=>hr1 (by subst e;rfl);clear hr1;go_upto_region 6 with fail;go_quiet (fail);go_wp2_with fail;go_ret;exact⟨by rw[HE.out];rfl,K0.trans ((zal HBr _).mono K0.size)⟩
          ·obtain⟨sq0,sn0⟩:=jn hr0;have HE:Hid (B=false):=HV.2 fun e=>hr0 (by subst e;rfl);clear hr0;go_upto_region 6 with fail;go_quiet (fail);go_wp2_with fail;go_ret;exact⟨by rw[HE.out];rfl,K0.trans ((zal HBr _).mono K0.size)⟩
         ·obtain rfl:k=x.fl.length:=(by omega);have HL_fl:Hid (x.fl=y.fl):=List.ext_getElem HQ_fl fun j j1 j2=>HNO j j1 j2 j1;clear HNO;obtain⟨w_fl,rfl⟩: ∃w':World,w'=wr:=⟨_,rfl⟩;have HE:Hid (B=true):=HV.1 (zom HQ_id HQ_entry HQ_exit HQ_path HQ_over HL_fl HQ_timer);go_wp2_with fail;go_ret;exact⟨by rw[HE.out];rfl,jo K0 HBr⟩
       ·have tq6:((x.fl.length:Int)==(y.fl.length:Int))=false:=(by rw[beq_eq_false_iff_ne];omega);have tn6:((x.fl.length:Int) != (y.fl.length:Int))=true:=(by rw[bne,tq6];rfl);have HE:Hid (B=false):=HV.2 fun e=>hq6 (by rw[e]);clear hq6;go_wp2_with fail;go_ret;exact⟨by rw[HE.out];rfl,jo K0 HB6⟩
      ·have HE:Hid (B=false):=HV.2 fun e=>hq5 (by rw[e]);have HCk:=hI (HC2 W5 (jo K0 HB5));rw[show(eqB x.O y.O)=false from decide_eq_false hq5]at HCk;clear hq5;go_wp2_with fail;refine HCk.mono ?_;rintro e W6 ⟨rfl,hb⟩;have HB6:=jh HB5 hb;clear hb;clear xx0 yy0 xx1 yy1 xx2 yy2 xx3 yy3 xx4 yy4 xx5 yy5 xx6 yy6 lx ly;have bx:=jm HB6 HX0;have by_:=jm HB6 HY0;clear bx by_;go_wp2_with fail;go_ret;exact⟨by rw[HE.out];rfl,jo K0 HB6⟩
     ·have HE:Hid (B=false):=HV.2 fun e=>hq4 (by rw[e]);have HCk:=hI (HC1 W0 (jo K0 KR));rw[show(eqB x.A y.A)=false from decide_eq_false hq4]at HCk;clear hq4;go_wp2_with fail;refine HCk.mono ?_;rintro e W5 ⟨rfl,hb⟩;have HB5:=jh KR hb;clear hb;clear xx0 yy0 xx1 yy1 xx2 yy2 xx3 yy3 xx4 yy4 xx5 yy5 xx6 yy6 lx ly;have bx:=jm HB5 HX0;have by_:=jm HB5 HY0;clear bx by_;go_wp2_with fail;go_ret;exact⟨by rw[HE.out];rfl,jo K0 HB5⟩
    ·obtain⟨tq3,tn3⟩:=jn hq3;have HE:Hid (B=false):=HV.2 fun e=>hq3 (by rw[e]);clear hq3;go_wp2_with fail;go_ret;exact⟨by rw[HE.out];rfl,jo K0 KR⟩
   ·obtain⟨tq2,tn2⟩:=jn hq2;have HE:Hid (B=false):=HV.2 fun e=>hq2 (by rw[e]);clear hq2;go_wp2_with fail;go_ret;exact⟨by rw[HE.out];rfl,jo K0 KR⟩
  ·obtain⟨tq1,tn1⟩:=jn hq1;have HE:Hid (B=false):=HV.2 fun e=>hq1 (by rw[e]);clear hq1;go_wp2_with fail;go_ret;exact⟨by rw[HE.out];rfl,jo K0 KR⟩
 ·have tq0:(x.id==y.id)=false:=by rw[beq_eq_false_iff_ne];exact hq0
  have tn0:(x.id != y.id)=true:=by rw[bne,tq0];rfl
  have HE:Hid (B=false):=HV.2 fun e=>hq0 (by rw[e]);clear hq0;go_wp2_with fail;go_ret;exact⟨by rw[HE.out];rfl,jo K0 KR⟩
theorem zh2 (x y:Pl) (s q g r s' q' g' r':Value) (w:World) (hx:PlM w s q g r x) (hy:PlM w s' q' g' r' y) (hxf:x.Fit) (hyf:y.Fit):
  Calls Tryz.prog 68 #[plV x s q g r,plV y s' q' g' r'] w (zae w (decide (x=y))):=by
 obtain⟨a1,a2,rfl,ma1⟩:=hx.S;obtain⟨a3,a4,rfl,ma3⟩:=hx.P;obtain⟨a5,a6,rfl,ma5⟩:=hx.G;obtain⟨a7,a8,rfl,ma7⟩:=hx.R;obtain⟨b1,b2,rfl,mb1⟩:=hy.S;obtain⟨b3,b4,rfl,mb3⟩:=hy.P;obtain⟨b5,b6,rfl,mb5⟩:=hy.G;obtain⟨b7,b8,rfl,mb7⟩:=hy.R;have HC1:Hid (∀W,jb w W→Calls Tryz.prog 138 #[js a1 x.S.length a2,js b1 y.S.length b2] W (zae W (decide (x.S=y.S)))):=fun W hb=>zwj _ _ _ _ _ _ W (ma1.below zbo hb) (mb1.below zbo hb) hxf.S hyf.S hxf.ends hyf.ends;have HPX:Hid (∀W,jb w W→SlA W 2 RPt a3 a4 x.P):=fun W hb=>ma3.below zct hb;have HPY:Hid (∀W,jb w W→SlA W 2 RPt b3 b4 y.P):=fun W hb=>mb3.below zct hb;have HGX:Hid (∀W,jb w W→SlA W 3 RSg a5 a6 x.G):=fun W hb=>ma5.below zcu hb;have HGY:Hid (∀W,jb w W→SlA W 3 RSg b5 b6 y.G):=fun W hb=>mb5.below zcu hb;have HRX:Hid (∀W,jb w W→SlA W 7 RRt a7 a8 x.R):=fun W hb=>ma7.below zcv hb;have HRY:Hid (∀W,jb w W→SlA W 7 RRt b7 b8 y.R):=fun W hb=>mb7.below zcv hb;have HXF:=hI hxf;have HYF:=hI hyf;have k1:x.P.length≤1000:=hxf.P;have k2:y.P.length≤1000:=hyf.P;have k3:x.G.length≤1000:=hxf.G;have k4:y.G.length≤1000:=hyf.G;have k5:x.R.length≤1000:=hxf.R;have k6:y.R.length≤1000:=hyf.R;have HV:Hid ((x=y→decide (x=y)=true)∧(x≠y→decide (x=y)=false)):=⟨fun h=>decide_eq_true h,fun h=>decide_eq_false h⟩;clear hx hy hxf hyf ma1 ma3 ma5 ma7 mb1 mb3 mb5 mb7;generalize decide (x=y)=B at *;unfold plV;go_enter Tryz.func68,Tryz.ntmps68;go_upto_region 1 with fail;obtain⟨W0,hW0⟩: ∃W0,W0=(w.alloc (.cells #[x.ver,x.par,js a1 x.S.length a2,js a3 x.P.length a4,js a5 x.G.length a6,js a7 x.R.length a8] 28)).alloc (.cells #[y.ver,y.par,js b1 y.S.length b2,js b3 y.P.length b4,js b5 y.G.length b6,js b7 y.R.length b8] 28):=⟨_,rfl⟩;rw[←hW0];have K0:Hid (jb w W0):=by show Below _ _ _;rw[hW0];exact jal.alloc (by simp) _
 have HX0:Hid (jk W0 w.heap.size #[x.ver,x.par,js a1 x.S.length a2,js a3 x.P.length a4,js a5 x.G.length a6,js a7 x.R.length a8] 28):=by show _=_;rw[hW0];exact(heap_alloc_old _ _ (by simp)).trans (heap_alloc_new _ _)
 have HY0:Hid (jk W0 (w.heap.size+1) #[y.ver,y.par,js b1 y.S.length b2,js b3 y.P.length b4,js b5 y.G.length b6,js b7 y.R.length b8] 28):=by show _=_;rw[hW0];exact heap_alloc2_new _ _ _
 clear hW0;have KR:Hid (jb W0 W0):=Below.refl _ _;have bx:=jm KR HX0;have by_:=jm KR HY0;obtain⟨xx0,xx1,xx2,xx3,xx4,xx5⟩:=zan bx;obtain⟨yy0,yy1,yy2,yy3,yy4,yy5⟩:=zan by_;have lx:=zad bx;have ly:=zad by_;clear bx by_;by_cases hq0:x.ver=y.ver
 ·have tq0:(x.ver==y.ver)=true:=by rw[beq_iff_eq];exact hq0
  have tn0:(x.ver != y.ver)=false:=by rw[bne,tq0];rfl
  have HQ_ver:=hI hq0;clear hq0;by_cases hq1:x.par=y.par
  ·obtain⟨tq1,tn1⟩:=jy hq1;have HQ_par:=hI hq1;clear hq1;by_cases hq2:x.S=y.S
   ·have HQ_secs:=hI hq2;have HCk:=hI (HC1 W0 (jo K0 KR));rw[show(decide (x.S=y.S))=true from decide_eq_true hq2]at HCk;clear hq2;go_wp2_with fail;refine HCk.mono ?_;rintro e W3 ⟨rfl,hb⟩;have HB3:=jh KR hb;clear hb;clear xx0 yy0 xx1 yy1 xx2 yy2 xx3 yy3 xx4 yy4 xx5 yy5 lx ly;have bx:=jm HB3 HX0;have by_:=jm HB3 HY0;obtain⟨xx0,xx1,xx2,xx3,xx4,xx5⟩:=zan bx;obtain⟨yy0,yy1,yy2,yy3,yy4,yy5⟩:=zan by_;have lx:=zad bx;have ly:=zad by_;clear bx by_;by_cases hq3:x.P.length=y.P.length
    ·have tq3:((x.P.length:Int)==(y.P.length:Int))=true:=(by rw[beq_iff_eq];omega);have tn3:((x.P.length:Int) != (y.P.length:Int))=false:=(by rw[bne,tq3];rfl);have HQ_pts:=hI hq3;clear hq3;by_cases hq4:x.G.length=y.G.length
     ·have tq4:((x.G.length:Int)==(y.G.length:Int))=true:=(by rw[beq_iff_eq];omega);have tn4:((x.G.length:Int) != (y.G.length:Int))=false:=(by rw[bne,tq4];rfl);have HQ_sigs:=hI hq4;clear hq4;by_cases hq5:x.R.length=y.R.length
      ·have tq5:((x.R.length:Int)==(y.R.length:Int))=true:=(by rw[beq_iff_eq];omega);have tn5:((x.R.length:Int) != (y.R.length:Int))=false:=(by rw[bne,tq5];rfl);have HQ_rts:=hI hq5;clear hq5;go_wp2_with fail;go_loopg [5] x.P.length (fun g i wr=> ∃k:Nat,k≤x.P.length∧g=x.P.length-k∧i= .int .i64 k∧jb W0 wr∧ ∀j (h:j<x.P.length) (h':j<y.P.length),j<k→x.P[j]=y.P[j])
       case atStart=>exact⟨0,by omega,by omega,rfl,HB3,fun j _ _ hj=>absurd hj (Nat.not_lt_zero _)⟩
       case round=>
        obtain⟨k,hk,rfl,rfl,hb,hno⟩:=hrel;have HBr:=hI hb;have KBr:=jh K0 hb;have HNO:=hI hno;clear hb hno;clear xx0 yy0 xx1 yy1 xx2 yy2 xx3 yy3 xx4 yy4 xx5 yy5 lx ly;have bx:=jm HBr HX0;have by_:=jm HBr HY0;obtain⟨xx0,xx1,xx2,xx3,xx4,xx5⟩:=zan bx;obtain⟨yy0,yy1,yy2,yy3,yy4,yy5⟩:=zan by_;have lx:=zad bx;have ly:=zad by_;clear bx by_;by_cases hlt:k<x.P.length
        ·have hd:decide ((k:Int)<(x.P.length:Int))=true:=(by simp;omega);have hlm:k<y.P.length:=(by rw[←HQ_pts.out];exact hlt);have c0:(0:Int)≤(k:Int):=(by omega);have c1:(k:Int)<(x.P.length:Int):=(by omega);have c2:(k:Int)<(y.P.length:Int):=(by omega);obtain⟨g,off,vs,rfl,hxl,hxc,hxr⟩:=(HPX wr KBr).at_ k hlt;obtain rfl:vs=[.int .i64 x.P[k].id,.int .i64 x.P[k].sec]:=hxr;obtain⟨g2,off2,vs2,rfl,hyl,hyc,hyr⟩:=(HPY wr KBr).at_ k hlm;obtain rfl:vs2=[.int .i64 y.P[k].id,.int .i64 y.P[k].sec]:=hyr;have x0:=hxc 0 (by simp);have y0:=hyc 0 (by simp);have x1:=hxc 1 (by simp);have y1:=hyc 1 (by simp);simp only[Nat.add_zero,List.getElem_cons_zero,List.getElem_cons_succ]at x0 y0 x1 y1;have l1x:=block_lt_of_cell x0;have l1y:=block_lt_of_cell y0;clear hxl hxc hyl hyc;by_cases hr0:x.P[k].id=y.P[k].id
         ·obtain⟨sq0,sn0⟩:=jy hr0;have HR0:=hI hr0;clear hr0;by_cases hr1:x.P[k].sec=y.P[k].sec
          ·obtain⟨sq1,sn1⟩:=jy hr1;have HR1:=hI hr1;clear hr1
           have HN:Hid (∀j (h:j<x.P.length) (h':j<y.P.length),j<k+1→x.P[j]=y.P[j]):=fun j j1 j2 j3=>by
            by_cases hjk:j=k
            ·subst hjk;exact zod HR0 HR1
            ·exact HNO j j1 j2 (by omega)
           go_upto_region 6 with fail;go_quiet (fail);go_wp2_with fail;go_roundg (x.P.length-(k+1))
           case measure=>go_light;omega
           case rel=>go_light;exact⟨k+1,by omega,by omega,by go_num,zal HBr _,HN⟩
          ·obtain⟨sq1,sn1⟩:=jn hr1;have HE:Hid (B=false):=HV.2 fun e=>hr1 (by subst e;rfl);clear hr1;go_upto_region 6 with fail;go_quiet (fail);go_wp2_with fail;go_ret;exact⟨by rw[HE.out];rfl,K0.trans ((zal HBr _).mono K0.size)⟩
         ·obtain⟨sq0,sn0⟩:=jn hr0;have HE:Hid (B=false):=HV.2 fun e=>hr0 (by subst e;rfl);clear hr0;go_upto_region 6 with fail;go_quiet (fail);go_wp2_with fail;go_ret;exact⟨by rw[HE.out];rfl,K0.trans ((zal HBr _).mono K0.size)⟩
        ·obtain rfl:k=x.P.length:=(by omega);have HL_pts:Hid (x.P=y.P):=List.ext_getElem HQ_pts fun j j1 j2=>HNO j j1 j2 j1;clear HNO;obtain⟨w_pts,rfl⟩: ∃w':World,w'=wr:=⟨_,rfl⟩;go_wp2_with fail;go_loopg [6] x.G.length (fun g i wr=> ∃k:Nat,k≤x.G.length∧g=x.G.length-k∧i= .int .i64 k∧jb W0 wr∧ ∀j (h:j<x.G.length) (h':j<y.G.length),j<k→x.G[j]=y.G[j])
         case atStart=>exact⟨0,by omega,by omega,rfl,HBr,fun j _ _ hj=>absurd hj (Nat.not_lt_zero _)⟩
         case round=>
          obtain⟨k,hk,rfl,rfl,hb,hno⟩:=hrel;have HBr:=hI hb;have KBr:=jh K0 hb;have HNO:=hI hno;clear hb hno;clear xx0 yy0 xx1 yy1 xx2 yy2 xx3 yy3 xx4 yy4 xx5 yy5 lx ly;have bx:=jm HBr HX0;have by_:=jm HBr HY0;obtain⟨xx0,xx1,xx2,xx3,xx4,xx5⟩:=zan bx;obtain⟨yy0,yy1,yy2,yy3,yy4,yy5⟩:=zan by_;have lx:=zad bx;have ly:=zad by_;clear bx by_;by_cases hlt:k<x.G.length
          ·have hd:decide ((k:Int)<(x.G.length:Int))=true:=(by simp;omega);have hlm:k<y.G.length:=(by rw[←HQ_sigs.out];exact hlt);have c0:(0:Int)≤(k:Int):=(by omega);have c1:(k:Int)<(x.G.length:Int):=(by omega);have c2:(k:Int)<(y.G.length:Int):=(by omega);obtain⟨g,off,vs,rfl,hxl,hxc,hxr⟩:=(HGX wr KBr).at_ k hlt;obtain rfl:vs=[.int .i64 x.G[k].id,.int .i64 x.G[k].sec,.int .i64 x.G[k].en]:=hxr;obtain⟨g2,off2,vs2,rfl,hyl,hyc,hyr⟩:=(HGY wr KBr).at_ k hlm;obtain rfl:vs2=[.int .i64 y.G[k].id,.int .i64 y.G[k].sec,.int .i64 y.G[k].en]:=hyr;have x0:=hxc 0 (by simp);have y0:=hyc 0 (by simp);have x1:=hxc 1 (by simp);have y1:=hyc 1 (by simp);have x2:=hxc 2 (by simp);have y2:=hyc 2 (by simp);simp only[Nat.add_zero,List.getElem_cons_zero,List.getElem_cons_succ]at x0 y0 x1 y1 x2 y2;have l1x:=block_lt_of_cell x0;have l1y:=block_lt_of_cell y0;clear hxl hxc hyl hyc;by_cases hr0:x.G[k].id=y.G[k].id
           ·obtain⟨sq0,sn0⟩:=jy hr0;have HR0:=hI hr0;clear hr0;by_cases hr1:x.G[k].sec=y.G[k].sec
            ·obtain⟨sq1,sn1⟩:=jy hr1;have HR1:=hI hr1;clear hr1;by_cases hr2:x.G[k].en=y.G[k].en
             ·obtain⟨sq2,sn2⟩:=jy hr2;have HR2:=hI hr2;clear hr2
              have HN:Hid (∀j (h:j<x.G.length) (h':j<y.G.length),j<k+1→x.G[j]=y.G[j]):=fun j j1 j2 j3=>by
               by_cases hjk:j=k
               ·subst hjk;exact zoe HR0 HR1 HR2
               ·exact HNO j j1 j2 (by omega)
              go_upto_region 11 with fail;go_quiet (fail);go_wp2_with fail;go_roundg (x.G.length-(k+1))
              case measure=>go_light;omega
              case rel=>go_light;exact⟨k+1,by omega,by omega,by go_num,zal HBr _,HN⟩
             ·obtain⟨sq2,sn2⟩:=jn hr2;have HE:Hid (B=false):=HV.2 fun e=>hr2 (by subst e;rfl);clear hr2;go_upto_region 11 with fail;go_quiet (fail);go_wp2_with fail;go_ret;exact⟨by rw[HE.out];rfl,K0.trans ((zal HBr _).mono K0.size)⟩
            ·obtain⟨sq1,sn1⟩:=jn hr1;have HE:Hid (B=false):=HV.2 fun e=>hr1 (by subst e;rfl);clear hr1;go_upto_region 11 with fail;go_quiet (fail);go_wp2_with fail;go_ret;exact⟨by rw[HE.out];rfl,K0.trans ((zal HBr _).mono K0.size)⟩
           ·obtain⟨sq0,sn0⟩:=jn hr0;have HE:Hid (B=false):=HV.2 fun e=>hr0 (by subst e;rfl);clear hr0;go_upto_region 11 with fail;go_quiet (fail);go_wp2_with fail;go_ret;exact⟨by rw[HE.out];rfl,K0.trans ((zal HBr _).mono K0.size)⟩
          ·obtain rfl:k=x.G.length:=(by omega);have HL_sigs:Hid (x.G=y.G):=List.ext_getElem HQ_sigs fun j j1 j2=>HNO j j1 j2 j1;clear HNO;obtain⟨w_sigs,rfl⟩: ∃w':World,w'=wr:=⟨_,rfl⟩;go_wp2_with fail;go_loopg [7] x.R.length (fun g i wr=> ∃k:Nat,k≤x.R.length∧g=x.R.length-k∧i= .int .i64 k∧jb W0 wr∧ ∀j (h:j<x.R.length) (h':j<y.R.length),j<k→x.R[j]=y.R[j])
           case atStart=>exact⟨0,by omega,by omega,rfl,HBr,fun j _ _ hj=>absurd hj (Nat.not_lt_zero _)⟩
           case round=>
            obtain⟨k,hk,rfl,rfl,hb,hno⟩:=hrel;have HBr:=hI hb;have KBr:=jh K0 hb;have HNO:=hI hno;clear hb hno;clear xx0 yy0 xx1 yy1 xx2 yy2 xx3 yy3 xx4 yy4 xx5 yy5 lx ly;have bx:=jm HBr HX0;have by_:=jm HBr HY0;obtain⟨xx0,xx1,xx2,xx3,xx4,xx5⟩:=zan bx;obtain⟨yy0,yy1,yy2,yy3,yy4,yy5⟩:=zan by_;have lx:=zad bx;have ly:=zad by_;clear bx by_;by_cases hlt:k<x.R.length
            ·have hd:decide ((k:Int)<(x.R.length:Int))=true:=(by simp;omega);have hlm:k<y.R.length:=(by rw[←HQ_rts.out];exact hlt);have c0:(0:Int)≤(k:Int):=(by omega);have c1:(k:Int)<(x.R.length:Int):=(by omega);have c2:(k:Int)<(y.R.length:Int):=(by omega);obtain⟨gu,ofu,up,uo,uf,rfl,u0,u1,u2,u3,u4,u5,u6,hum⟩:=(HRX wr KBr).rt hlt;obtain⟨up1,up2,rfl,-⟩:=hum.A.at_;obtain⟨uo1,uo2,rfl,-⟩:=hum.O.at_;obtain⟨uf1,uf2,rfl,-⟩:=hum.fl;have HUJ:Hid (∀W,jb wr W→RtM W (js up1 x.R[k].A.length up2) (js uo1 x.R[k].O.length uo2) (js uf1 x.R[k].fl.length uf2) x.R[k]):=fun W hb=>hum.below hb;have lu:=block_lt_of_cell u0;clear hum;obtain⟨gv,ofv,vp,vo,vf,rfl,v0,v1,v2,v3,v4,v5,v6,hvm⟩:=(HRY wr KBr).rt hlm;obtain⟨vp1,vp2,rfl,-⟩:=hvm.A.at_;obtain⟨vo1,vo2,rfl,-⟩:=hvm.O.at_;obtain⟨vf1,vf2,rfl,-⟩:=hvm.fl;have HVJ:Hid (∀W,jb wr W→RtM W (js vp1 y.R[k].A.length vp2) (js vo1 y.R[k].O.length vo2) (js vf1 y.R[k].fl.length vf2) y.R[k]):=fun W hb=>hvm.below hb;have lv:=block_lt_of_cell v0;clear hvm;go_upto_region 16 with fail
             go_still_tail 10,(by kernel_rfl)
             change wpList _ _ _ _ _ wr.drew;generalize hWD:wr.drew=W9;have hb9:jb wr W9:=(by rw[←hWD];exact(Below.refl _ _).drew);have HB9:=jh HBr hb9;have HCk:Hid (Calls Tryz.prog 139 #[.agg #[x.R[k].id,x.R[k].E,x.R[k].X,js up1 x.R[k].A.length up2,js uo1 x.R[k].O.length uo2,js uf1 x.R[k].fl.length uf2,x.R[k].T],.agg #[y.R[k].id,y.R[k].E,y.R[k].X,js vp1 y.R[k].A.length vp2,js vo1 y.R[k].O.length vo2,js vf1 y.R[k].fl.length vf2,y.R[k].T]] W9 (zae W9 (decide (x.R[k]=y.R[k])))):=zwk x.R[k] y.R[k] up1 uo1 uf1 vp1 vo1 vf1 up2 uo2 uf2 vp2 vo2 vf2 W9 (HUJ W9 hb9) (HVJ W9 hb9) (HXF.rt k hlt) (HYF.rt k hlm)
             have HNk:Hid (x.R[k]=y.R[k]→ ∀j (h:j<x.R.length) (h':j<y.R.length),j<k+1→x.R[j]=y.R[j]):=fun h j j1 j2 j3=>by
              by_cases hjk:j=k
              ·subst hjk;exact h
              ·exact HNO j j1 j2 (by omega)
             clear hb9 hWD;by_cases hE:x.R[k]=y.R[k]
             ·rw[decide_eq_true hE]at HCk;have HN:=hI (HNk hE);clear hE;go_wp2_with fail;refine HCk.mono ?_;rintro e W3 ⟨rfl,hb⟩;have HB3:=jh HB9 hb;clear hb HCk;go_wp2_with fail;go_roundg (x.R.length-(k+1))
              case measure=>go_light;omega
              case rel=>go_light;exact⟨k+1,by omega,by omega,by go_num,HB3,HN⟩
             ·rw[decide_eq_false hE]at HCk;have HE:Hid (B=false):=HV.2 fun e=>hE (by subst e;rfl);clear hE;go_wp2_with fail;refine HCk.mono ?_;rintro e W3 ⟨rfl,hb⟩;have HB3:=jh HB9 hb;clear hb HCk;go_wp2_with fail;go_ret;exact⟨by rw[HE.out];rfl,jo K0 HB3⟩
            ·obtain rfl:k=x.R.length:=(by omega);have HL_rts:Hid (x.R=y.R):=List.ext_getElem HQ_rts fun j j1 j2=>HNO j j1 j2 j1;clear HNO;obtain⟨w_rts,rfl⟩: ∃w':World,w'=wr:=⟨_,rfl⟩;have HE:Hid (B=true):=HV.1 (zi8 HQ_ver HQ_par HQ_secs HL_pts HL_sigs HL_rts);go_wp2_with fail;go_ret;exact⟨by rw[HE.out];rfl,jo K0 HBr⟩
      ·have tq5:((x.R.length:Int)==(y.R.length:Int))=false:=(by rw[beq_eq_false_iff_ne];omega);have tn5:((x.R.length:Int) != (y.R.length:Int))=true:=(by rw[bne,tq5];rfl);have HE:Hid (B=false):=HV.2 fun e=>hq5 (by rw[e]);clear hq5;go_wp2_with fail;go_ret;exact⟨by rw[HE.out];rfl,jo K0 HB3⟩
     ·have tq4:((x.G.length:Int)==(y.G.length:Int))=false:=(by rw[beq_eq_false_iff_ne];omega);have tn4:((x.G.length:Int) != (y.G.length:Int))=true:=(by rw[bne,tq4];rfl);have HE:Hid (B=false):=HV.2 fun e=>hq4 (by rw[e]);clear hq4;go_wp2_with fail;go_ret;exact⟨by rw[HE.out];rfl,jo K0 HB3⟩
    ·have tq3:((x.P.length:Int)==(y.P.length:Int))=false:=(by rw[beq_eq_false_iff_ne];omega);have tn3:((x.P.length:Int) != (y.P.length:Int))=true:=(by rw[bne,tq3];rfl);have HE:Hid (B=false):=HV.2 fun e=>hq3 (by rw[e]);clear hq3;go_wp2_with fail;go_ret;exact⟨by rw[HE.out];rfl,jo K0 HB3⟩
   ·have HE:Hid (B=false):=HV.2 fun e=>hq2 (by rw[e]);have HCk:=hI (HC1 W0 (jo K0 KR));rw[show(decide (x.S=y.S))=false from decide_eq_false hq2]at HCk;clear hq2;go_wp2_with fail;refine HCk.mono ?_;rintro e W3 ⟨rfl,hb⟩;have HB3:=jh KR hb;clear hb;clear xx0 yy0 xx1 yy1 xx2 yy2 xx3 yy3 xx4 yy4 xx5 yy5 lx ly;have bx:=jm HB3 HX0;have by_:=jm HB3 HY0;clear bx by_;go_wp2_with fail;go_ret;exact⟨by rw[HE.out];rfl,jo K0 HB3⟩
  ·obtain⟨tq1,tn1⟩:=jn hq1;have HE:Hid (B=false):=HV.2 fun e=>hq1 (by rw[e]);clear hq1;go_wp2_with fail;go_ret;exact⟨by rw[HE.out];rfl,jo K0 KR⟩
 ·have tq0:(x.ver==y.ver)=false:=by rw[beq_eq_false_iff_ne];exact hq0
  have tn0:(x.ver != y.ver)=true:=by rw[bne,tq0];rfl
  have HE:Hid (B=false):=HV.2 fun e=>hq0 (by rw[e]);clear hq0;go_wp2_with fail;go_ret;exact⟨by rw[HE.out];rfl,jo K0 KR⟩
def zPl:Pl:=⟨0,0,[],[],[],[]⟩
theorem zgr:zPl.Fit:=⟨by decide,fun i h=>absurd h (Nat.not_lt_zero _),by decide,by decide,by decide,fun i h=>absurd h (Nat.not_lt_zero _)⟩
theorem zff (W:World):PlM W (.slice none 0 0) (.slice none 0 0) (.slice none 0 0) (.slice none 0 0) zPl:=⟨Sl.nil _ _ _,Sl.nil _ _ _,Sl.nil _ _ _,Sl.nil _ _ _⟩
theorem zoq (x:Pl):x=zPl↔x.ver=0∧x.par=0∧x.S.length=0∧x.P.length=0∧x.G.length=0∧x.R.length=0:=by
 constructor
 ·rintro rfl;exact⟨rfl,rfl,rfl,rfl,rfl,rfl⟩
 ·rintro⟨h1,h2,h3,h4,h5,h6⟩;exact zi8 h1 h2 (List.eq_nil_of_length_eq_zero h3) (List.eq_nil_of_length_eq_zero h4) (List.eq_nil_of_length_eq_zero h5) (List.eq_nil_of_length_eq_zero h6)
theorem zla (x:Pl) (s q g r:Value) (w:World) (hx:PlM w s q g r x) (hxf:x.Fit):
  Calls Tryz.prog 83 #[plV x s q g r] w (zae w (decide (x=zPl))):=by
 obtain⟨a1,a2,rfl,-⟩:=hx.S;obtain⟨a3,a4,rfl,-⟩:=hx.P;obtain⟨a5,a6,rfl,-⟩:=hx.G;obtain⟨a7,a8,rfl,-⟩:=hx.R;have HV:Hid ((x.ver=0∧x.par=0∧x.S.length=0∧x.P.length=0∧x.G.length=0∧x.R.length=0→decide (x=zPl)=true)∧(¬(x.ver=0∧x.par=0∧x.S.length=0∧x.P.length=0∧x.G.length=0∧x.R.length=0)→decide (x=zPl)=false)):=⟨fun h=>decide_eq_true ((zoq x).2 h),fun h=>decide_eq_false fun e=>h ((zoq x).1 e)⟩;clear hx hxf;generalize decide (x=zPl)=B at *;unfold plV at *;go_enter Tryz.func83,Tryz.ntmps83;go_upto_region 1 with fail;generalize hW0:World.alloc _ _=W0;have K0:Hid (jb w W0):=by show Below _ _ _;rw[←hW0];exact jal
 have hx0:jk W0 w.heap.size #[x.ver,x.par,js a1 x.S.length a2,js a3 x.P.length a4,js a5 x.G.length a6,js a7 x.R.length a8] 28:=by rw[←hW0];exact heap_alloc_new _ _
 clear hW0;obtain⟨pp0,pp1,pp2,pp3,pp4,pp5⟩:=zan hx0;have lp:=zad hx0;clear hx0;by_cases hq0:x.ver=0
 ·have tq0:(x.ver==0)=true:=by rw[beq_iff_eq];exact hq0
  have HQ0:=hI hq0;clear hq0;by_cases hq1:x.par=0
  ·have tq1:(x.par==0)=true:=(by rw[beq_iff_eq];exact hq1);have HQ1:=hI hq1;clear hq1;by_cases hq2:x.S.length=0
   ·have tq2:((x.S.length:Int)==0)=true:=(by rw[beq_iff_eq];omega);have HQ2:=hI hq2;clear hq2;by_cases hq3:x.P.length=0
    ·have tq3:((x.P.length:Int)==0)=true:=(by rw[beq_iff_eq];omega);have HQ3:=hI hq3;clear hq3;by_cases hq4:x.G.length=0
     ·have tq4:((x.G.length:Int)==0)=true:=(by rw[beq_iff_eq];omega);have HQ4:=hI hq4;clear hq4;by_cases hq5:x.R.length=0
      ·have tq5:((x.R.length:Int)==0)=true:=(by rw[beq_iff_eq];omega);have HQ5:=hI hq5;clear hq5;have HE:Hid (B=true):=HV.1 ⟨HQ0,HQ1,HQ2,HQ3,HQ4,HQ5⟩;go_wp2_with fail;go_ret;exact⟨by rw[HE.out];rfl,K0⟩
      ·have tq5:((x.R.length:Int)==0)=false:=(by rw[beq_eq_false_iff_ne];omega);have HE:Hid (B=false):=HV.2 fun h=>hq5 h.2.2.2.2.2;clear hq5;go_wp2_with fail;go_ret;exact⟨by rw[HE.out];rfl,K0⟩
     ·have tq4:((x.G.length:Int)==0)=false:=(by rw[beq_eq_false_iff_ne];omega);have HE:Hid (B=false):=HV.2 fun h=>hq4 h.2.2.2.2.1;clear hq4;go_wp2_with fail;go_ret;exact⟨by rw[HE.out];rfl,K0⟩
    ·have tq3:((x.P.length:Int)==0)=false:=(by rw[beq_eq_false_iff_ne];omega);have HE:Hid (B=false):=HV.2 fun h=>hq3 h.2.2.2.1;clear hq3;go_wp2_with fail;go_ret;exact⟨by rw[HE.out];rfl,K0⟩
   ·have tq2:((x.S.length:Int)==0)=false:=(by rw[beq_eq_false_iff_ne];omega);have HE:Hid (B=false):=HV.2 fun h=>hq2 h.2.2.1;clear hq2;go_wp2_with fail;go_ret;exact⟨by rw[HE.out];rfl,K0⟩
  ·have tq1:(x.par==0)=false:=(by rw[beq_eq_false_iff_ne];exact hq1);have HE:Hid (B=false):=HV.2 fun h=>hq1 h.2.1;clear hq1;go_wp2_with fail;go_ret;exact⟨by rw[HE.out];rfl,K0⟩
 ·have tq0:(x.ver==0)=false:=by rw[beq_eq_false_iff_ne];exact hq0
  have HE:Hid (B=false):=HV.2 fun h=>hq0 h.1;clear hq0;go_wp2_with fail;go_ret;exact⟨by rw[HE.out];rfl,K0⟩
theorem zh3 (x:Pl) (s q g r:Value) (w:World) (hx:PlM w s q g r x) (hxf:x.Fit):
  Calls Tryz.prog 80 #[plV x s q g r] w (zae w (decide (x=zPl))):=by
 have HC:Hid (∀W,jb w W→Calls Tryz.prog 70 #[plV x s q g r,.agg #[.int .i64 0,.int .i64 0,.slice none 0 0,.slice none 0 0,.slice none 0 0,.slice none 0 0]] W (zae W (decide (x=zPl)))):=fun W hb=>zha x zPl s q g r _ _ _ _ W (hx.below hb) (zff W) hxf zgr;obtain⟨a1,a2,rfl,-⟩:=hx.S;obtain⟨a3,a4,rfl,-⟩:=hx.P;obtain⟨a5,a6,rfl,-⟩:=hx.G;obtain⟨a7,a8,rfl,-⟩:=hx.R;clear hx hxf;generalize decide (x=zPl)=B at *;unfold plV at *;go_enter Tryz.func80,Tryz.ntmps80;go_upto_region 1 with fail;generalize hW0:World.alloc _ _=W0;have K0:Hid (jb w W0):=by show Below _ _ _;rw[←hW0];exact jal
 have hx0:jk W0 w.heap.size #[x.ver,x.par,js a1 x.S.length a2,js a3 x.P.length a4,js a5 x.G.length a6,js a7 x.R.length a8] 28:=by rw[←hW0];exact heap_alloc_new _ _
 clear hW0;obtain⟨pp0,pp1,pp2,pp3,pp4,pp5⟩:=zan hx0;have lp:=zad hx0;clear hx0;go_wp2_with fail;refine(HC W0 K0).mono ?_;rintro e W1 ⟨rfl,hb⟩;have KB:=jh K0 hb;clear hb;go_wp2_with fail;go_ret;exact⟨rfl,KB⟩
end Go.Proofs.YtbiehpjhhopjaaaGreat
