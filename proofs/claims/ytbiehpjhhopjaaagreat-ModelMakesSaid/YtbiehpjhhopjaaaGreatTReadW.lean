/-
 Is a plan great (the references' GreatPlan,12),walked. (Written by wip/tools/gen_grp.py.)
-/
import Derived.Test.YtbiehpjhhopjaaaGreatTNoneA
import Derived.Test.YtbiehpjhhopjaaaGreatTGreatA
import Derived.Test.YtbiehpjhhopjaaaGreatTTwinR
import Derived.Test.YtbiehpjhhopjaaaGreatTHsJ
import Derived.Test.YtbiehpjhhopjaaaGreatTPlanA
import Derived.WalkKit
import Derived.ProofKit
import Derived.OpenShut
import Derived.ShutString
import Derived.ChangeOld
import Derived.Below
import Derived.Lib.SmallJoins
import Derived.SizedLaws
import Derived.Handed
set_option linter.unusedVariables false
set_option linter.unusedSimpArgs false
set_option maxRecDepth 100000
set_option maxHeartbeats 16000000
namespace Go.Proofs.YtbiehpjhhopjaaaGreat
open Go.RowKit Go.Sort
def Pl.few (x:Pl):Prop:=x.S.length≤100∧x.P.length≤100∧x.G.length≤100∧x.R.length≤100
def Pl.Wide (x:Pl):Prop:=(∀i (h:i<x.S.length),x.S[i].ends.length≤8796093022208)∧ ∀i (h:i<x.R.length),x.R[i].fit
theorem zjo (x:Pl) (s q g r:Value) (w:World) (hx:PlM w s q g r x) (hxf:x.Wide):
  Calls Tryz.prog 12 #[plV x s q g r] w (zgv w x.few):=by
 obtain⟨a1,a2,rfl,m1⟩:=hx.S;obtain⟨a3,a4,rfl,-⟩:=hx.P;obtain⟨a5,a6,rfl,-⟩:=hx.G;obtain⟨a7,a8,rfl,m7⟩:=hx.R;have HSE:Hid (∀W,jb w W→SlA W 3 zas a1 a2 x.S):=fun W hb=>m1.below zbo hb;have HRT:Hid (∀W,jb w W→SlA W 7 RRt a7 a8 x.R):=fun W hb=>m7.below zcv hb;have HRE:Hid (∀i (h:i<x.S.length),x.S[i].ends.length≤20000000000000):=fun i h=>by have:=hxf.1 i h;omega
 have HRF:Hid (∀i (h:i<x.R.length),x.R[i].A.length≤20000000000000∧x.R[i].O.length≤20000000000000∧x.R[i].fl.length≤20000000000000):=fun i h=>by have:=hxf.2 i h;unfold Rt.fit at this;omega
 clear hx hxf m1 m7;unfold plV;go_enter Tryz.func12,Tryz.ntmps12;go_upto_region 1 with fail;generalize hW0:World.alloc _ _=W0;have K0:Hid (jb w W0):=by show Below _ _ _;rw[←hW0];exact jal
 have HX0:Hid (jk W0 w.heap.size #[x.ver,x.par,js a1 x.S.length a2,js a3 x.P.length a4,js a5 x.G.length a6,js a7 x.R.length a8] 28):=by show _=_;rw[←hW0];exact heap_alloc_new _ _
 clear hW0;have KR:Hid (jb W0 W0):=Below.refl _ _;have bx:=jm KR.out HX0.out;obtain⟨pp0,pp1,pp2,pp3,pp4,pp5⟩:=zan bx;have lp:=zad bx;clear bx;by_cases hq0:x.S.length≤100
 ·have tq0:decide ((100:Int)<(x.S.length:Int))=false:=by simp;omega
  have HQ0:=hI hq0;by_cases hq1:x.P.length≤100
  ·have tq1:decide ((100:Int)<(x.P.length:Int))=false:=(by simp;omega);have HQ1:=hI hq1;by_cases hq2:x.G.length≤100
   ·have tq2:decide ((100:Int)<(x.G.length:Int))=false:=(by simp;omega);have HQ2:=hI hq2;by_cases hq3:x.R.length≤100
    ·have tq3:decide ((100:Int)<(x.R.length:Int))=false:=(by simp;omega);have HQ3:=hI hq3;clear hq0 hq1 hq2;go_wp2_with fail;go_loopg [3,4] x.S.length (fun g n i wr=> ∃(k:Nat) (v:Int),k≤x.S.length∧g=x.S.length-k∧n= .int .i64 v∧i= .int .i64 k∧0≤v∧v≤1000 * k∧wr=W0)
     case atStart=>exact⟨0,0,by omega,by omega,rfl,rfl,by omega,by omega,rfl⟩
     case round=>
      obtain⟨k,v,hk,rfl,rfl,rfl,hv0,hv1,hw⟩:=hrel;obtain rfl:=hw.symm;clear hw;by_cases hlt:k<x.S.length
      ·have hd:decide ((k:Int)<(x.S.length:Int))=true:=(by simp;omega);have hk100:x.S.length≤100:=HQ0.out;obtain⟨g,off,ya,yc,rfl,y0,y1,y2,-⟩:=(HSE.out W0 K0.out).sec hlt;have hre:=HRE.out k hlt;have ly:=block_lt_of_cell y2;have c0:(0:Int)≤(k:Int):=(by omega);have c1:(k:Int)<(x.S.length:Int):=(by omega);clear y0 y1;generalize x.S[k].ends.length=n1 at *;by_cases hm1:(n1:Int)≤1000
       ·go_wp2_with fail;go_roundg (x.S.length-(k+1))
        case measure=>go_light;omega
        case rel=>go_light;exact⟨k+1,v+n1,by omega,by omega,by go_num,by go_num,by omega,by omega,rfl⟩
       ·go_wp2_with fail;go_roundg (x.S.length-(k+1))
        case measure=>go_light;omega
        case rel=>go_light;exact⟨k+1,v+1000,by omega,by omega,by go_num,by go_num,by omega,by omega,rfl⟩

      ·obtain rfl:k=x.S.length:=(by omega);have hd:decide ((x.S.length:Int)<(x.S.length:Int))=false:=(by simp);have hv2:v≤100000:=(by have:=HQ0.out;omega);have HB:Hid (jb W0 W0):=Below.refl _ _;have hk3:x.R.length≤100:=HQ3.out;clear hk hv1;go_wp2_with fail;go_loopg [3,5] x.R.length (fun g n i wr=> ∃(k:Nat) (v:Int),k≤x.R.length∧g=x.R.length-k∧n= .int .i64 v∧i= .int .i64 k∧0≤v∧v≤100000+3000 * k∧jb W0 wr)
       case atStart=>exact⟨0,v,by omega,by omega,rfl,rfl,hv0,by omega,HB.out⟩
       case round=>
        obtain⟨k,v,hk,rfl,rfl,rfl,hv0,hv1,hb⟩:=hrel;have HB:=hI hb;have KB:=jh K0 hb;clear hb;have bx:=jm HB.out HX0.out;obtain⟨pp0,pp1,pp2,pp3,pp4,pp5⟩:=zan bx;have lp:=zad bx;clear bx;by_cases hlt:k<x.R.length
        ·have hd:decide ((k:Int)<(x.R.length:Int))=true:=(by simp;omega);obtain⟨g,off,up,uo,uf,rfl,u0_,u1_,u2_,y3,y4,y5,y6,hrm⟩:=(HRT.out wr KB.out).rt hlt;obtain⟨p1,p2,rfl,-⟩:=hrm.A.at_;obtain⟨o1,o2,rfl,-⟩:=hrm.O.at_;obtain⟨f1,f2,rfl,-⟩:=hrm.fl;have ly:=block_lt_of_cell y3;have hrf:=HRF.out k hlt;have c0:(0:Int)≤(k:Int):=(by omega);have c1:(k:Int)<(x.R.length:Int):=(by omega);clear hrm u0_ u1_ u2_ y6;generalize x.R[k].A.length=n1 at *;generalize x.R[k].O.length=n2 at *;generalize x.R[k].fl.length=n3 at *;go_upto_region 11 with fail;by_cases hm1:(n1:Int)≤1000
         ·by_cases hm2:(n2:Int)≤1000
          ·by_cases hm3:(n3:Int)≤1000
           ·go_quiet (fail);go_wp2_with fail;go_roundg (x.R.length-(k+1))
            case measure=>go_light;omega
            case rel=>go_light;exact⟨k+1,v+(n1:Int)+(n2:Int)+(n3:Int),by omega,by omega,by go_num,by go_num,by omega,by omega,zal HB.out _⟩
           ·go_quiet (fail);go_wp2_with fail;go_roundg (x.R.length-(k+1))
            case measure=>go_light;omega
            case rel=>go_light;exact⟨k+1,v+(n1:Int)+(n2:Int)+1000,by omega,by omega,by go_num,by go_num,by omega,by omega,zal HB.out _⟩
          ·by_cases hm3:(n3:Int)≤1000
           ·go_quiet (fail);go_wp2_with fail;go_roundg (x.R.length-(k+1))
            case measure=>go_light;omega
            case rel=>go_light;exact⟨k+1,v+(n1:Int)+1000+(n3:Int),by omega,by omega,by go_num,by go_num,by omega,by omega,zal HB.out _⟩
           ·go_quiet (fail);go_wp2_with fail;go_roundg (x.R.length-(k+1))
            case measure=>go_light;omega
            case rel=>go_light;exact⟨k+1,v+(n1:Int)+1000+1000,by omega,by omega,by go_num,by go_num,by omega,by omega,zal HB.out _⟩
         ·by_cases hm2:(n2:Int)≤1000
          ·by_cases hm3:(n3:Int)≤1000
           ·go_quiet (fail);go_wp2_with fail;go_roundg (x.R.length-(k+1))
            case measure=>go_light;omega
            case rel=>go_light;exact⟨k+1,v+1000+(n2:Int)+(n3:Int),by omega,by omega,by go_num,by go_num,by omega,by omega,zal HB.out _⟩
           ·go_quiet (fail);go_wp2_with fail;go_roundg (x.R.length-(k+1))
            case measure=>go_light;omega
            case rel=>go_light;exact⟨k+1,v+1000+(n2:Int)+1000,by omega,by omega,by go_num,by go_num,by omega,by omega,zal HB.out _⟩
          ·by_cases hm3:(n3:Int)≤1000
           ·go_quiet (fail);go_wp2_with fail;go_roundg (x.R.length-(k+1))
            case measure=>go_light;omega
            case rel=>go_light;exact⟨k+1,v+1000+1000+(n3:Int),by omega,by omega,by go_num,by go_num,by omega,by omega,zal HB.out _⟩
           ·go_quiet (fail);go_wp2_with fail;go_roundg (x.R.length-(k+1))
            case measure=>go_light;omega
            case rel=>go_light;exact⟨k+1,v+1000+1000+1000,by omega,by omega,by go_num,by go_num,by omega,by omega,zal HB.out _⟩

        ·obtain rfl:k=x.R.length:=(by omega);have hd:decide ((x.R.length:Int)<(x.R.length:Int))=false:=(by simp);have HR:Hid x.few:=⟨HQ0.out,HQ1.out,HQ2.out,HQ3.out⟩;by_cases hv:v≤1000
         ·have tv:decide ((1000:Int)<v)=false:=(by simp;omega);go_wp2_with fail;go_ret;exact⟨false,rfl,fun _=>HR.out,KB.out⟩
         ·have tv:decide ((1000:Int)<v)=true:=(by simp;omega);go_wp2_with fail;go_ret;exact⟨true,rfl,(fun h=>by cases h),KB.out⟩
    ·have tq3:decide ((100:Int)<(x.R.length:Int))=true:=(by simp;omega);clear hq3;go_wp2_with fail;go_ret;exact⟨true,rfl,(fun h=>by cases h),K0.out⟩
   ·have tq2:decide ((100:Int)<(x.G.length:Int))=true:=(by simp;omega);clear hq2;go_wp2_with fail;go_ret;exact⟨true,rfl,(fun h=>by cases h),K0.out⟩
  ·have tq1:decide ((100:Int)<(x.P.length:Int))=true:=(by simp;omega);clear hq1;go_wp2_with fail;go_ret;exact⟨true,rfl,(fun h=>by cases h),K0.out⟩
 ·have tq0:decide ((100:Int)<(x.S.length:Int))=true:=by simp;omega
  clear hq0;go_wp2_with fail;go_ret;exact⟨true,rfl,(fun h=>by cases h),K0.out⟩
structure Hs.Wide (x:Hs):Prop where
 pl:x.pl.Wide
 bk:x.bk.Wide
 nx:x.nx.Wide
 kb:zd3 x.key
 bb:zd3 x.buf
theorem Pl.Wide.fit {x:Pl}(h:x.Wide) (k:x.few):x.Fit:=⟨by have:=k.1;omega,h.1,by have:=k.2.1;omega,by have:=k.2.2.1;omega,by have:=k.2.2.2;omega,h.2⟩
theorem zqi (x:Hs) (a:Nat→Option Addr) (c:Nat→Nat) (w:World) (hx:HsM w a c x) (hxw:x.Wide):
  Calls Tryz.prog 11 #[hsV a c x] w (zgv w x.Fit):=by
 have HG:Hid (∀W,jb w W→Calls Tryz.prog 12 #[.agg #[x.pl.ver,x.pl.par,js (a 1) x.pl.S.length (c 1),js (a 2) x.pl.P.length (c 2),js (a 3) x.pl.G.length (c 3),js (a 4) x.pl.R.length (c 4)]] W (zgv W x.pl.few)):=fun W hb=>zjo x.pl _ _ _ _ W (hx.below hb).pl hxw.pl;have HG1:Hid (∀W,jb w W→Calls Tryz.prog 12 #[.agg #[x.bk.ver,x.bk.par,js (a 5) x.bk.S.length (c 5),js (a 6) x.bk.P.length (c 6),js (a 7) x.bk.G.length (c 7),js (a 8) x.bk.R.length (c 8)]] W (zgv W x.bk.few)):=fun W hb=>zjo x.bk _ _ _ _ W (hx.below hb).bk hxw.bk;have HG2:Hid (∀W,jb w W→Calls Tryz.prog 12 #[.agg #[x.nx.ver,x.nx.par,js (a 13) x.nx.S.length (c 13),js (a 14) x.nx.P.length (c 14),js (a 15) x.nx.G.length (c 15),js (a 16) x.nx.R.length (c 16)]] W (zgv W x.nx.few)):=fun W hb=>zjo x.nx _ _ _ _ W (hx.below hb).nx hxw.nx;have HG3:Hid (∀W,jb w W→Calls Tryz.prog 34 #[.agg #[js (a 9) x.st.tks.length (c 9),js (a 10) x.st.sws.length (c 10),js (a 11) x.st.lks.length (c 11)]] W (zgv W x.st.fit)):=fun W hb=>zyw _ _ _ x.st W (hx.below hb).st;have HXW:=hI hxw;clear hx hxw;unfold hsV;go_enter Tryz.func11,Tryz.ntmps11;go_upto_region 1 with fail;generalize hW0:World.alloc _ _=W0;have K0:Hid (jb w W0):=by show Below _ _ _;rw[←hW0];exact jal
 have HX0:Hid (jk W0 w.heap.size (hsA a c x) 35):=by show _=_;rw[←hW0];exact heap_alloc_new _ _
 clear hW0;have XX:Hid (∀W,jb W0 W→jk W w.heap.size (hsA a c x) 35):=fun W hb=>(jm hb HX0.out);obtain⟨x0,x1,x2,x3,x4,x5,x6,x7,x8,x9,x10,x11,x12,x13,x14,x15,x16,x17,x18,x19,x20,x21,x22,x23,x24⟩:=zdp HX0.out;have lb:=zad HX0.out;by_cases hk:x.key.length≤1000
 ·have t0:decide ((1000:Int)<(x.key.length:Int))=false:=by simp;omega
  by_cases hbf:x.buf.length≤5000
  ·have t1:decide ((5000:Int)<(x.buf.length:Int))=false:=(by simp;omega);go_wp2_with fail;refine(HG.out W0 K0.out).mono ?_;rintro e W1 ⟨r1,rfl,hf1,hb⟩;have KR1:Hid (jb W0 W1):=hb;have F1:=hI hf1;clear hb hf1 x0 x1 x2 x3 x4 x5 x6 x7 x8 x9 x10 x11 x12 x13 x14 x15 x16 x17 x18 x19 x20 x21 x22 x23 x24 lb;obtain⟨x0,x1,x2,x3,x4,x5,x6,x7,x8,x9,x10,x11,x12,x13,x14,x15,x16,x17,x18,x19,x20,x21,x22,x23,x24⟩:=zdp (XX.out _ KR1.out);have lb:=zad (XX.out _ KR1.out);cases r1
   case true=>
    go_wp2_with fail;go_ret;exact⟨true,rfl,(fun h=>by cases h),jo K0 KR1.out⟩
   go_wp2_with fail;refine(HG1.out W1 (jo K0 KR1.out)).mono ?_;rintro e W2 ⟨r2,rfl,hf2,hb⟩;have KR2:=jh KR1 hb;have F2:=hI hf2;clear hb hf2 x0 x1 x2 x3 x4 x5 x6 x7 x8 x9 x10 x11 x12 x13 x14 x15 x16 x17 x18 x19 x20 x21 x22 x23 x24 lb;obtain⟨x0,x1,x2,x3,x4,x5,x6,x7,x8,x9,x10,x11,x12,x13,x14,x15,x16,x17,x18,x19,x20,x21,x22,x23,x24⟩:=zdp (XX.out _ KR2.out);have lb:=zad (XX.out _ KR2.out);cases r2
   case true=>
    go_wp2_with fail;go_ret;exact⟨true,rfl,(fun h=>by cases h),jo K0 KR2.out⟩
   go_wp2_with fail;refine(HG2.out W2 (jo K0 KR2.out)).mono ?_;rintro e W3 ⟨r3,rfl,hf3,hb⟩;have KR3:=jh KR2 hb;have F3:=hI hf3;clear hb hf3 x0 x1 x2 x3 x4 x5 x6 x7 x8 x9 x10 x11 x12 x13 x14 x15 x16 x17 x18 x19 x20 x21 x22 x23 x24 lb;obtain⟨x0,x1,x2,x3,x4,x5,x6,x7,x8,x9,x10,x11,x12,x13,x14,x15,x16,x17,x18,x19,x20,x21,x22,x23,x24⟩:=zdp (XX.out _ KR3.out);have lb:=zad (XX.out _ KR3.out);cases r3
   case true=>
    go_wp2_with fail;go_ret;exact⟨true,rfl,(fun h=>by cases h),jo K0 KR3.out⟩
   go_wp2_with fail;refine(HG3.out W3 (jo K0 KR3.out)).mono ?_;rintro e W4 ⟨r4,rfl,hf4,hb⟩;have KR4:=jh KR3 hb;have F4:=hI hf4;clear hb hf4 x0 x1 x2 x3 x4 x5 x6 x7 x8 x9 x10 x11 x12 x13 x14 x15 x16 x17 x18 x19 x20 x21 x22 x23 x24 lb;go_wp2_with fail;go_ret;exact⟨r4,rfl,(fun h=>⟨HXW.out.pl.fit (F1.out trivial),HXW.out.bk.fit (F2.out trivial),HXW.out.nx.fit (F3.out trivial),F4.out h,hk,hbf,HXW.out.kb,HXW.out.bb⟩),jo K0 KR4.out⟩
  ·have t1:decide ((5000:Int)<(x.buf.length:Int))=true:=(by simp;omega);go_wp2_with fail;go_ret;exact⟨true,rfl,(fun h=>by cases h),K0.out⟩
 ·have t0:decide ((1000:Int)<(x.key.length:Int))=true:=by simp;omega
  go_wp2_with fail;go_ret;exact⟨true,rfl,(fun h=>by cases h),K0.out⟩
theorem zid {ops:Array Oper}{rest:List Oper}{o:Oper}{act:Act}{w:World}{Q:Exit→Act→World→Prop}{g:Nat}{a:Nat→Option Addr}{c:Nat→Nat}{x:Hs}(hw:Region.wanted o (yielded ops act.tmps)=true) (p:Operand) (ho:o.op= .load 35 p) (hx:act.eval p= .pointer (some ⟨g,0,none⟩))
  (hg:jk w g (hsA a c x) 35) (h:wpList Tryz.prog ops Q rest (act.put o.dst (.agg (hsA a c x))) w):wpList Tryz.prog ops Q (o::rest) act w:=by
 unfold wpList;rw[if_pos hw];exact .inl (wp_load_row 35 p ho g hx 35 (hsA a c x) (0,0) _ hg Tryz.underlying35 rfl zaw h)
theorem zyx {p:Pl}(h:p.Fit):(zaf p).fit:=by
 have h1:=h.S;have h2:=h.P;have h3:=h.R;unfold St.fit zaf;simp;omega
theorem zlu:zHs.Fit:=⟨zgr,zgr,zgr,zp3,by decide,by decide,fun x h=>(nomatch h),fun x h=>(nomatch h)⟩
theorem zyy {key:List Int}{p:Pl}(h1:key.length≤1000) (h2:zd3 key) (h3:p.Fit):(zbd key p).1.Fit:=by
 unfold zbd;split
 ·split
  ·exact⟨h3,zgr,zgr,zyx h3,h1,Nat.zero_le _,h2,fun x h=>(nomatch h)⟩
  ·exact zlu
 ·exact zlu
theorem zyz {x:Hs}(h:x.Fit):(zby x).1.Fit:=by
 unfold zby;cases zbc x
 ·exact zlu
 ·show(zck x).Fit;unfold zck;cases x.halted
  ·have:=h.st;refine⟨h.pl,h.bk,zgr,?_,h.key,Nat.zero_le _,h.kb,fun x h=>(nomatch h)⟩;unfold St.fit za5 at *;simp;omega
  ·exact h
theorem zy0 (key:List Int) (ka:Option Addr) (kc:Nat) (p:Pl) (s q g r:Value) (x y:Hs) (a a':Nat→Option Addr) (c c':Nat→Nat) (w:World) (hk:SlA w 1 RBy ka kc key) (hkb:zd3 key) (hp:PlM w s q g r p) (hpw:p.Wide) (hx:HsM w a c x) (hxw:x.Wide) (hy:HsM w a' c' y) (hyw:y.Wide):
  Calls Tryz.prog 3 #[js ka key.length kc,plV p s q g r,hsV a c x,hsV a' c' y] w fun e w'=>e= .returned (.bool true)∧jb w w':=by
 have HP:Hid (∀W,jb w W→SlA W 1 RBy ka kc key∧PlM W s q g r p∧HsM W a c x∧HsM W a' c' y):=fun W hb=>⟨hk.below zh0 hb,hp.below hb,hx.below hb,hy.below hb⟩;have HW:Hid (zd3 key∧p.Wide∧x.Wide∧y.Wide):=⟨hkb,hpw,hxw,hyw⟩;obtain⟨a1,a2,rfl,-⟩:=hp.S;obtain⟨a3,a4,rfl,-⟩:=hp.P;obtain⟨a5,a6,rfl,-⟩:=hp.G;obtain⟨a7,a8,rfl,-⟩:=hp.R;clear hk hp hx hy hkb hpw hxw hyw;unfold hsV plV;go_enter Tryz.func3,Tryz.ntmps3;go_upto_region 1 with fail;generalize hW0:World.alloc (World.alloc (World.alloc _ _) _) _=W0;have F:Hid (Fr w [(#[p.ver,p.par,js a1 p.S.length a2,js a3 p.P.length a4,js a5 p.G.length a6,js a7 p.R.length a8],28),(hsA a c x,35),(hsA a' c' y,35)] W0):=by show Fr _ _ _;rw[←hW0];exact(((Fr.start w).alloc rfl _ 28).alloc (by simp) _ 35).alloc (by simp) _ 35
 clear hW0;go_step;refine zid (by rfl) _ rfl rfl (F.out.row 1 _ rfl) ?_;simp[Act.put];go_wp2_with fail;refine(zqi x a c W0 (HP.out W0 F.out.bel).2.2.1 HW.out.2.2.1).mono ?_;rintro e W1 ⟨r1,rfl,hf1,hb⟩;replace F:=hI (F.out.below hb);have F1:=hI hf1;clear hb hf1;cases r1
 case true=>
  go_wp2_with fail;go_ret;exact⟨rfl,F.out.bel⟩
 go_wp2_with (refine zid (by rfl) _ rfl rfl (F.out.row 2 _ rfl) ?_;simp[Act.put]);refine(zqi y a' c' W1 (HP.out W1 F.out.bel).2.2.2 HW.out.2.2.2).mono ?_;rintro e W2 ⟨r2,rfl,hf2,hb⟩;replace F:=hI (F.out.below hb);have F2:=hI hf2;clear hb hf2;cases r2
 case true=>
  go_wp2_with fail;go_ret;exact⟨rfl,F.out.bel⟩
 by_cases hkl:key.length≤1000
 case neg=>
  have t0:decide ((1000:Int)<(key.length:Int))=true:=by simp;omega
  clear hkl;go_wp2_with fail;go_ret;exact⟨rfl,F.out.bel⟩
 have t0:decide ((1000:Int)<(key.length:Int))=false:=by simp;omega
 have HKL:=hI hkl;clear hkl;have p0:jc W2 w.heap.size 0 p.ver:=jr (F.out.row 0 _ rfl);have p1:jc W2 w.heap.size 1 p.par:=jr (F.out.row 0 _ rfl);have p2:jc W2 w.heap.size 2 (js a1 p.S.length a2):=jr (F.out.row 0 _ rfl);have p3:jc W2 w.heap.size 3 (js a3 p.P.length a4):=jr (F.out.row 0 _ rfl);have p4:jc W2 w.heap.size 4 (js a5 p.G.length a6):=jr (F.out.row 0 _ rfl);have p5:jc W2 w.heap.size 5 (js a7 p.R.length a8):=jr (F.out.row 0 _ rfl);go_wp2_with fail;refine(zjo p _ _ _ _ W2 (HP.out W2 F.out.bel).2.1 HW.out.2.1).mono ?_;rintro e W3 ⟨r3,rfl,hf3,hb⟩;replace F:=hI (F.out.below hb);have F3:=hI hf3;clear hb hf3 t0;clear p0 p1 p2 p3 p4 p5;cases r3
 case true=>
  go_wp2_with fail;go_ret;exact⟨rfl,F.out.bel⟩
 have HX:Hid (x.Fit∧y.Fit∧p.Fit):=⟨F1.out trivial,F2.out trivial,HW.out.2.1.fit (F3.out rfl)⟩;clear F1 F2 F3;go_upto_region 3 with fail;have p0:jc W3 w.heap.size 0 p.ver:=jr (F.out.row 0 _ rfl);have p1:jc W3 w.heap.size 1 p.par:=jr (F.out.row 0 _ rfl);have p2:jc W3 w.heap.size 2 (js a1 p.S.length a2):=jr (F.out.row 0 _ rfl);have p3:jc W3 w.heap.size 3 (js a3 p.P.length a4):=jr (F.out.row 0 _ rfl);have p4:jc W3 w.heap.size 4 (js a5 p.G.length a6):=jr (F.out.row 0 _ rfl);have p5:jc W3 w.heap.size 5 (js a7 p.R.length a8):=jr (F.out.row 0 _ rfl);go_wp2_with fail;refine(zyp key ka kc p _ _ _ _ W3 (HP.out W3 F.out.bel).1 (HP.out W3 F.out.bel).2.1 HX.out.2.2).mono ?_;rintro e W4 ⟨m1,n1,rfl,h1,hb⟩;unfold hsV;replace F:=hI (F.out.below hb);have hM:=h1;clear hb h1;clear p0 p1 p2 p3 p4 p5;have E0:Hid (Fr W4 [(hsA nA nC zHs,35)] (W4.alloc (.cells (hsA nA nC zHs) 35))):=(Fr.start W4).alloc rfl _ 35;go_upto_region 4 with(refine zbh rfl 35 (.tmp 9) (.tmp 37) rfl W4.heap.size (hsA m1 n1 (zbd key p).1) _ 35 rfl rfl (E0.out.row 0 _ rfl) zaw rfl (zcr _ _ _) ?_);generalize hWE:World.setRow (World.alloc W4 _) _ _=W4x;have E:Fr W4 [(hsA m1 n1 (zbd key p).1,35)] W4x:=by rw[←hWE];exact E0.out.setRow 0 rfl _
 have HR1:Hid (jk W4x W4.heap.size (hsA m1 n1 (zbd key p).1) 35):=E.row 0 _ rfl;have HM1:Hid (HsM W4x m1 n1 (zbd key p).1):=hM.below E.bel;replace F:=hI (F.out.below E.bel);clear hWE E0 E hM;generalize W4.heap.size=g1 at *
 try dsimp only[Act.put]
 have p0:jc W4x w.heap.size 0 p.ver:=jr (F.out.row 0 _ rfl);have p1:jc W4x w.heap.size 1 p.par:=jr (F.out.row 0 _ rfl);have p2:jc W4x w.heap.size 2 (js a1 p.S.length a2):=jr (F.out.row 0 _ rfl);have p3:jc W4x w.heap.size 3 (js a3 p.P.length a4):=jr (F.out.row 0 _ rfl);have p4:jc W4x w.heap.size 4 (js a5 p.G.length a6):=jr (F.out.row 0 _ rfl);have p5:jc W4x w.heap.size 5 (js a7 p.R.length a8):=jr (F.out.row 0 _ rfl);go_wp2_with fail;refine(zyo key ka kc p _ _ _ _ W4x (HP.out W4x F.out.bel).1 (HP.out W4x F.out.bel).2.1 HX.out.2.2).mono ?_;rintro e W5 ⟨m2,n2,rfl,h1,hb⟩;unfold hsV;replace F:=hI (F.out.below hb);replace HR1:=hI ((jm hb HR1.out));replace HM1:=hI (HM1.out.below hb);have hM:=h1;clear hb h1;clear p0 p1 p2 p3 p4 p5;have E0:Hid (Fr W5 [(hsA nA nC zHs,35)] (W5.alloc (.cells (hsA nA nC zHs) 35))):=(Fr.start W5).alloc rfl _ 35;go_upto_region 5 with(refine zbh rfl 35 (.tmp 11) (.tmp 43) rfl W5.heap.size (hsA m2 n2 (zbd key p).1) _ 35 rfl rfl (E0.out.row 0 _ rfl) zaw rfl (zcr _ _ _) ?_);generalize hWE:World.setRow (World.alloc W5 _) _ _=W5x;have E:Fr W5 [(hsA m2 n2 (zbd key p).1,35)] W5x:=by rw[←hWE];exact E0.out.setRow 0 rfl _
 have HR2:Hid (jk W5x W5.heap.size (hsA m2 n2 (zbd key p).1) 35):=E.row 0 _ rfl;have HM2:Hid (HsM W5x m2 n2 (zbd key p).1):=hM.below E.bel;replace F:=hI (F.out.below E.bel);replace HR1:=hI ((jm E.bel HR1.out));replace HM1:=hI (HM1.out.below E.bel);clear hWE E0 E hM;generalize W5.heap.size=g2 at *
 try dsimp only[Act.put]
 go_step;refine zid (by rfl) _ rfl rfl (F.out.row 1 _ rfl) ?_;simp[Act.put];go_wp2_with fail;refine(zyq x a c W5x (HP.out W5x F.out.bel).2.2.1 HX.out.1).mono ?_;rintro e W6 ⟨m3,n3,rfl,h1,hb⟩;unfold hsV;replace F:=hI (F.out.below hb);replace HR1:=hI ((jm hb HR1.out));replace HM1:=hI (HM1.out.below hb);replace HR2:=hI ((jm hb HR2.out));replace HM2:=hI (HM2.out.below hb);have hM:=h1;clear hb h1;have E0:Hid (Fr W6 [(hsA nA nC zHs,35)] (W6.alloc (.cells (hsA nA nC zHs) 35))):=(Fr.start W6).alloc rfl _ 35;go_upto_region 6 with(refine zbh rfl 35 (.tmp 13) (.tmp 48) rfl W6.heap.size (hsA m3 n3 (zby x).1) _ 35 rfl rfl (E0.out.row 0 _ rfl) zaw rfl (zcr _ _ _) ?_);generalize hWE:World.setRow (World.alloc W6 _) _ _=W6x;have E:Fr W6 [(hsA m3 n3 (zby x).1,35)] W6x:=by rw[←hWE];exact E0.out.setRow 0 rfl _
 have HR3:Hid (jk W6x W6.heap.size (hsA m3 n3 (zby x).1) 35):=E.row 0 _ rfl;have HM3:Hid (HsM W6x m3 n3 (zby x).1):=hM.below E.bel;replace F:=hI (F.out.below E.bel);replace HR1:=hI ((jm E.bel HR1.out));replace HM1:=hI (HM1.out.below E.bel);replace HR2:=hI ((jm E.bel HR2.out));replace HM2:=hI (HM2.out.below E.bel);clear hWE E0 E hM;generalize W6.heap.size=g3 at *
 try dsimp only[Act.put]
 go_step;refine zid (by rfl) _ rfl rfl (F.out.row 1 _ rfl) ?_;simp[Act.put];go_wp2_with fail;refine(zym x a c W6x (HP.out W6x F.out.bel).2.2.1 HX.out.1).mono ?_;rintro e W7 ⟨m4,n4,rfl,h1,hb⟩;unfold hsV;replace F:=hI (F.out.below hb);replace HR1:=hI ((jm hb HR1.out));replace HM1:=hI (HM1.out.below hb);replace HR2:=hI ((jm hb HR2.out));replace HM2:=hI (HM2.out.below hb);replace HR3:=hI ((jm hb HR3.out));replace HM3:=hI (HM3.out.below hb);have hM:=h1;clear hb h1;have E0:Hid (Fr W7 [(hsA nA nC zHs,35)] (W7.alloc (.cells (hsA nA nC zHs) 35))):=(Fr.start W7).alloc rfl _ 35;go_upto_region 7 with(refine zbh rfl 35 (.tmp 15) (.tmp 53) rfl W7.heap.size (hsA m4 n4 (zby x).1) _ 35 rfl rfl (E0.out.row 0 _ rfl) zaw rfl (zcr _ _ _) ?_);generalize hWE:World.setRow (World.alloc W7 _) _ _=W7x;have E:Fr W7 [(hsA m4 n4 (zby x).1,35)] W7x:=by rw[←hWE];exact E0.out.setRow 0 rfl _
 have HR4:Hid (jk W7x W7.heap.size (hsA m4 n4 (zby x).1) 35):=E.row 0 _ rfl;have HM4:Hid (HsM W7x m4 n4 (zby x).1):=hM.below E.bel;replace F:=hI (F.out.below E.bel);replace HR1:=hI ((jm E.bel HR1.out));replace HM1:=hI (HM1.out.below E.bel);replace HR2:=hI ((jm E.bel HR2.out));replace HM2:=hI (HM2.out.below E.bel);replace HR3:=hI ((jm E.bel HR3.out));replace HM3:=hI (HM3.out.below E.bel);clear hWE E0 E hM;generalize W7.heap.size=g4 at *
 try dsimp only[Act.put]
 go_step;refine zid (by rfl) _ rfl rfl (F.out.row 1 _ rfl) ?_;simp[Act.put];go_wp2_with fail;refine(zqc x a c W7x (HP.out W7x F.out.bel).2.2.1 HX.out.1).mono ?_;rintro e W8 ⟨m5,n5,rfl,h1,hb⟩;unfold hsV;replace F:=hI (F.out.below hb);replace HR1:=hI ((jm hb HR1.out));replace HM1:=hI (HM1.out.below hb);replace HR2:=hI ((jm hb HR2.out));replace HM2:=hI (HM2.out.below hb);replace HR3:=hI ((jm hb HR3.out));replace HM3:=hI (HM3.out.below hb);replace HR4:=hI ((jm hb HR4.out));replace HM4:=hI (HM4.out.below hb);have hM:=h1.ext (ze5 _ _);clear hb h1;have E0:Hid (Fr W8 [(hsA nA nC zHs,35)] (W8.alloc (.cells (hsA nA nC zHs) 35))):=(Fr.start W8).alloc rfl _ 35;go_upto_region 8 with(refine zbh rfl 35 (.tmp 17) (.tmp 56) rfl W8.heap.size (hsA m5 n5 x) _ 35 rfl rfl (E0.out.row 0 _ rfl) zaw rfl (zcr _ _ _) ?_);generalize hWE:World.setRow (World.alloc W8 _) _ _=W8x;have E:Fr W8 [(hsA m5 n5 x,35)] W8x:=by rw[←hWE];exact E0.out.setRow 0 rfl _
 have HR5:Hid (jk W8x W8.heap.size (hsA m5 n5 x) 35):=E.row 0 _ rfl;have HM5:Hid (HsM W8x m5 n5 x):=hM.below E.bel;replace F:=hI (F.out.below E.bel);replace HR1:=hI ((jm E.bel HR1.out));replace HM1:=hI (HM1.out.below E.bel);replace HR2:=hI ((jm E.bel HR2.out));replace HM2:=hI (HM2.out.below E.bel);replace HR3:=hI ((jm E.bel HR3.out));replace HM3:=hI (HM3.out.below E.bel);replace HR4:=hI ((jm E.bel HR4.out));replace HM4:=hI (HM4.out.below E.bel);clear hWE E0 E hM;generalize W8.heap.size=g5 at *
 try dsimp only[Act.put]
 have HT:Hid ((zbd key p).1.Fit∧(zby x).1.Fit):=⟨zyy HKL.out HW.out.1 HX.out.2.2,zyz HX.out.1⟩;have k1:=RgC.of (v:= .bool true) fun W hb=>by have:=zjn (zbd key p).1 (zbd key p).1 m1 m2 n1 n2 W (HM1.out.below hb) (HM2.out.below hb) HT.out.1 HT.out.1;rw[decide_eq_true rfl]at this;exact this
 have k2:=RgC.of (v:= .bool true) fun W hb=>by have:=zjn (zby x).1 (zby x).1 m3 m4 n3 n4 W (HM3.out.below hb) (HM4.out.below hb) HT.out.2 HT.out.2;rw[decide_eq_true rfl]at this;exact this
 have k3:=RgC.of (v:= .bool true) fun W hb=>by have:=zjn x x m5 a n5 c W (HM5.out.below hb) (HP.out W (jt F.out.bel hb)).2.2.1 HX.out.1 HX.out.1;rw[decide_eq_true rfl]at this;exact this
 unfold hsV at k1 k2 k3;have C1:=hI k1;have C2:=hI k2;have C3:=hI k3;have RA:Hid (jk W8x (w.heap.size+1) (hsA a c x) 35):=(F.out.row 1 _ rfl);clear k1 k2 k3;generalize(zbd key p).2=E1 at *;generalize(zby x).2=E2 at *;refine zee ?_
 repeat (first | (go_big_quiet_want;(first | refine zfi HR1.out _ rfl rfl ?_ | refine zfi HR2.out _ rfl rfl ?_ | refine zfi HR3.out _ rfl rfl ?_ | refine zfi HR4.out _ rfl rfl ?_ | refine zfi HR5.out _ rfl rfl ?_ | refine zfi RA.out _ rfl rfl ?_);simp[Act.put];go_big_quiet_on) | go_big_quiet_step (first | (with_reducible exact C1.out _ _) | (with_reducible exact C2.out _ _) | (with_reducible exact C3.out _ _)))
 refine wpQuiet_nil ?_;rintro _ ⟨⟨dq,osq⟩,rfl⟩;replace F:=hI (F.out.below (below_regrown W8x dq osq));generalize grow (redrawn W8x dq) osq=W9 at *;clear C1 C2 C3 RA HR1 HR2 HR3 HR4 HR5 HM1 HM2 HM3 HM4 HM5;go_upto_region 10 with fail;obtain⟨E,hE⟩: ∃E,(if zbc x=true then 0 else 8:Int)=E:=⟨_,rfl⟩;have HV:Hid (∀W,jb W9 W→HsM W a c x∧HsM W a' c' y):=fun W hb=>(HP.out W (jt F.out.bel hb)).2.2;have k1:=RgC.of (v:= .int .i64 E) fun W hb=>by rw[←hE];exact zp7 x a c W (HV.out W hb).1 HX.out.1
 have k2:=RgC.of (v:= .int .i64 E) fun W hb=>by rw[←hE];exact zya x a c W (HV.out W hb).1 HX.out.1
 have k3:=RgC.of (v:= .bool (decide (x=y))) fun W hb=>zyv x y a a' c c' W (HV.out W hb).1 (HV.out W hb).2 HX.out.1 HX.out.2.1;have k4:=RgC.of (v:= .bool (decide (x=y))) fun W hb=>zjn x y a a' c c' W (HV.out W hb).1 (HV.out W hb).2 HX.out.1 HX.out.2.1;have k5:=RgC.of (v:= .bool (zfq x y)) fun W hb=>zyt x y a a' c c' W (HV.out W hb).1 (HV.out W hb).2 HX.out.1 HX.out.2.1;have k6:=RgC.of (v:= .bool (zfq x y)) fun W hb=>zyu x y a a' c c' W (HV.out W hb).1 (HV.out W hb).2 HX.out.1 HX.out.2.1;unfold hsV at k1 k2 k3 k4 k5 k6;generalize decide (x=y)=bS at *;generalize zfq x y=bK at *;have C1:=hI k1;have C2:=hI k2;have C3:=hI k3;have C4:=hI k4;have C5:=hI k5;have C6:=hI k6;have RA:Hid (jk W9 (w.heap.size+1) (hsA a c x) 35):=(F.out.row 1 _ rfl);have RB:Hid (jk W9 (w.heap.size+2) (hsA a' c' y) 35):=(F.out.row 2 _ rfl);have tE:(E==E)=true:=by simp
 clear k1 k2 k3 k4 k5 k6 hE HV;refine wp_region_quiet_below (by kernel_rfl) (by kernel_rfl) ?_;cases bS<;>cases bK
 all_goals
  repeat (first | (go_big_quiet_want;(first | refine zfi RA.out _ rfl rfl ?_ | refine zfi RB.out _ rfl rfl ?_);simp[Act.put];go_big_quiet_on) | go_big_quiet_step (first | (with_reducible exact C1.out _ _) | (with_reducible exact C2.out _ _) | (with_reducible exact C3.out _ _) | (with_reducible exact C4.out _ _) | (with_reducible exact C5.out _ _) | (with_reducible exact C6.out _ _)))
  refine wpQuiet_nil ?_;rintro _ ⟨⟨dq,osq⟩,rfl⟩;go_wp2_with fail;go_ret;exact⟨rfl,F.out.bel.trans ((below_regrown W9 dq osq).mono F.out.bel.size)⟩
end Go.Proofs.YtbiehpjhhopjaaaGreat
namespace Go.Proofs.YtbiehpjhhopjaaaGreat
open Go.ChangeShapes Go.WideShapes Go.ChangeAt Go.RowKit Go.Deep
theorem zy1:ownKnob Tryz.prog.godebug=none:=by kernel_rfl
theorem zjp:laidOutB Tryz.prog=true:=by kernel_rfl
section
variable {H:Type}{enc:TypeId × Value→H}{W:World}{base:Nat}{sp:Nat→Bool}{hd:Bool}
def zlv:DataW H→DataW H→Prop
 | .slice es _,d=>d∈es
 | _,_=>False
theorem zqj {α:Type}{t e:TypeId}{sz:Nat}{R:World→List Value→α→Prop}(ht:Tryz.prog.underlying t=some (.slice e)) (hc:Tryz.prog.cellsOf e=sz) (hz:0<sz)
  {n:Nat}{v:Value}{y:DataW H × List MemPlace}(hR: ∀n cs z,DataW.trod enc Tryz.prog W base sp hd n e cs=some z→cs.length=sz→zlv y.1 z.1→ ∃x,R W cs x)
  (h:DataW.trod enc Tryz.prog W base sp hd n t [v]=some y): ∃l:List α,Sl W sz R v l:=by
 rcases open_slice ht h with⟨hcs,_⟩ | ⟨a,len,cap,m,k,D,Pl,hcs,hb,hl,hm,hmm,rfl,hx⟩
 ·cases hcs;exact⟨[],Sl.nil W sz R⟩
 ·cases hcs;have hlm:len≤m:=by rw[hmm];split<;>omega
  have each: ∀i:Fin len,∃q:α × List Value,W.cells? base (a.add (i.1 * sz)) sz=some q.2∧R W q.2 q.1:=by
   intro i;obtain⟨cs',h1,h2⟩:=hx i.1 (by have:=i.2;omega);rw[hc]at h1;obtain⟨_,hlen,_⟩:=World.cells?_some h1;obtain⟨x,hr⟩:=hR _ _ _ h2 hlen (List.mem_map.2 ⟨i.1,List.mem_range.2 i.2,rfl⟩);exact⟨(x,cs'),h1,hr⟩
  obtain⟨f,hf⟩:=Classical.axiomOfChoice each;refine⟨List.ofFn fun i=>(f i).1,some a,cap,by rw[List.length_ofFn],by rw[List.length_ofFn];exact hl,(fun h=>nomatch h),fun i hi=> ?_⟩;have hi':i<len:=by rw[List.length_ofFn]at hi;exact hi
  obtain⟨hq,hr⟩:=hf ⟨i,hi'⟩;obtain⟨_,hlen,hcell⟩:=World.cells?_some hq
  have hspot:a.spot=none:=by
   obtain⟨hq0,_⟩:=hf ⟨0,by omega⟩;obtain⟨_,hlen0,hcell0⟩:=World.cells?_some hq0;have h0:=hcell0 0 hz;rw[List.getElem?_eq_getElem (by omega)]at h0
   simpa [Addr.add]using World.cell?_spot h0
  obtain⟨b,off,spot⟩:=a;have hs:spot=none:=hspot;subst hs;refine⟨b,off,(f ⟨i,hi'⟩).2,rfl,hlen,fun j hj=> ?_,?_⟩
  ·have h1:=hcell j (by omega);rw[List.getElem?_eq_getElem hj]at h1
   have e:((⟨b,off,none⟩:Addr).add (i * sz)).add j=⟨b,off+i * sz+j,none⟩:=by
    unfold Addr.add;by_cases e1:i * sz=0<;>by_cases e2:j=0<;>simp[e1,e2,Nat.add_assoc]
   rw[←e];exact h1
  ·rw[List.getElem_ofFn];exact hr
theorem zie {α:Type}{t e:TypeId}{sz:Nat}{R:World→List Value→α→Prop}(ht:Tryz.prog.underlying t=some (.slice e)) (hc:Tryz.prog.cellsOf e=sz) (hz:0<sz)
  (hR: ∀n cs y,DataW.trod enc Tryz.prog W base sp hd n e cs=some y→cs.length=sz→ ∃x,R W cs x)
  {n:Nat}{v:Value}{y:DataW H × List MemPlace}(h:DataW.trod enc Tryz.prog W base sp hd n t [v]=some y): ∃l:List α,Sl W sz R v l:=
 zqj ht hc hz (fun n cs z h1 h2 _=>hR n cs z h1 h2) h
theorem zbm {t:TypeId}{fs:Array Field}(hs:Tryz.prog.underlying t=some (.struct fs)){n:Nat}{cs:List Value}{y:DataW H × List MemPlace}(h:DataW.trod enc Tryz.prog W base sp hd n t cs=some y) (j:Nat) (f:Field) (hf:fs[j]? =some f)
  (u:TypeId) (hu:f.type=u) (o:Nat) (ho:f.offset=o) (hc:Tryz.prog.cellsOf u=1){v:Value}(hv:cs[o]? =some v): ∃m z,DataW.trod enc Tryz.prog W base sp hd m u [v]=some z:=by
 obtain⟨xs,m,_,_,_,hxl,hall⟩:=DataW.trod_struct hs h;have h1:=hall j f hf;rw[hu,hc,ho]at h1;have hj:j<fs.size:=(Array.getElem?_eq_some_iff.1 hf).1
 have h2:(cs.drop o).take 1=[v]:=by
  obtain⟨hlt,e⟩:=List.getElem?_eq_some_iff.1 hv;rw[List.drop_eq_getElem_cons hlt];simp[e]
 rw[h2,List.getElem?_eq_getElem (by omega)]at h1;exact⟨m,_,h1⟩
theorem zb4 {n:Nat}{v:Value}{y:DataW H × List MemPlace}(h:DataW.trod enc Tryz.prog W base sp hd n 3 [v]=some y): ∃x,v= .int .i64 x:=by
 obtain⟨x,e,_⟩:=DataW.trod_int Tryz.underlying3 h;cases e;exact⟨x,rfl⟩
theorem zqk {n:Nat}{v:Value}{y:DataW H × List MemPlace}(h:DataW.trod enc Tryz.prog W base sp hd n 5 [v]=some y): ∃x,v= .int .u8 x:=by
 obtain⟨x,e,_⟩:=DataW.trod_int Tryz.underlying5 h;cases e;exact⟨x,rfl⟩
theorem zb5:Tryz.prog.cellsOf 3=1:=by kernel_rfl
theorem zlw:Tryz.prog.cellsOf 5=1:=by kernel_rfl
theorem zy2 {n:Nat}{cs:List Value}{y:DataW H × List MemPlace}(h:DataW.trod enc Tryz.prog W base sp hd n 133 cs=some y) (hl:cs.length=2): ∃x,RJn W cs x:=by
 match cs,hl with
 | [c0,c1],_=>
  obtain⟨_,_,h0⟩:=zbm Tryz.underlying133 h 0 _ rfl 3 rfl 0 rfl zb5 rfl;obtain⟨_,_,h1⟩:=zbm Tryz.underlying133 h 1 _ rfl 3 rfl 1 rfl zb5 rfl;obtain⟨x0,rfl⟩:=zb4 h0;obtain⟨x1,rfl⟩:=zb4 h1;exact⟨⟨x0,x1⟩,rfl⟩
theorem zy3 {n:Nat}{cs:List Value}{y:DataW H × List MemPlace}(h:DataW.trod enc Tryz.prog W base sp hd n 143 cs=some y) (hl:cs.length=2): ∃x,RPt W cs x:=by
 match cs,hl with
 | [c0,c1],_=>
  obtain⟨_,_,h0⟩:=zbm Tryz.underlying143 h 0 _ rfl 3 rfl 0 rfl zb5 rfl;obtain⟨_,_,h1⟩:=zbm Tryz.underlying143 h 1 _ rfl 3 rfl 1 rfl zb5 rfl;obtain⟨x0,rfl⟩:=zb4 h0;obtain⟨x1,rfl⟩:=zb4 h1;exact⟨⟨x0,x1⟩,rfl⟩
theorem zy4 {n:Nat}{cs:List Value}{y:DataW H × List MemPlace}(h:DataW.trod enc Tryz.prog W base sp hd n 207 cs=some y) (hl:cs.length=2): ∃x,RFl W cs x:=by
 match cs,hl with
 | [c0,c1],_=>
  obtain⟨_,_,h0⟩:=zbm Tryz.underlying207 h 0 _ rfl 3 rfl 0 rfl zb5 rfl;obtain⟨_,_,h1⟩:=zbm Tryz.underlying207 h 1 _ rfl 3 rfl 1 rfl zb5 rfl;obtain⟨x0,rfl⟩:=zb4 h0;obtain⟨x1,rfl⟩:=zb4 h1;exact⟨⟨x0,x1⟩,rfl⟩
theorem zy5 {n:Nat}{cs:List Value}{y:DataW H × List MemPlace}(h:DataW.trod enc Tryz.prog W base sp hd n 106 cs=some y) (hl:cs.length=2): ∃x,RTk W cs x:=by
 match cs,hl with
 | [c0,c1],_=>
  obtain⟨_,_,h0⟩:=zbm Tryz.underlying106 h 0 _ rfl 3 rfl 0 rfl zb5 rfl;obtain⟨_,_,h1⟩:=zbm Tryz.underlying106 h 1 _ rfl 5 rfl 1 rfl zlw rfl;obtain⟨x0,rfl⟩:=zb4 h0;obtain⟨x1,rfl⟩:=zqk h1;exact⟨⟨x0,x1⟩,rfl⟩
theorem zy6 {n:Nat}{cs:List Value}{y:DataW H × List MemPlace}(h:DataW.trod enc Tryz.prog W base sp hd n 145 cs=some y) (hl:cs.length=3): ∃x,RSg W cs x:=by
 match cs,hl with
 | [c0,c1,c2],_=>
  obtain⟨_,_,h0⟩:=zbm Tryz.underlying145 h 0 _ rfl 3 rfl 0 rfl zb5 rfl;obtain⟨_,_,h1⟩:=zbm Tryz.underlying145 h 1 _ rfl 3 rfl 1 rfl zb5 rfl;obtain⟨_,_,h2⟩:=zbm Tryz.underlying145 h 2 _ rfl 3 rfl 2 rfl zb5 rfl;obtain⟨x0,rfl⟩:=zb4 h0;obtain⟨x1,rfl⟩:=zb4 h1;obtain⟨x2,rfl⟩:=zb4 h2;exact⟨⟨x0,x1,x2⟩,rfl⟩
theorem zy7 {n:Nat}{cs:List Value}{y:DataW H × List MemPlace}(h:DataW.trod enc Tryz.prog W base sp hd n 108 cs=some y) (hl:cs.length=3): ∃x,RSw W cs x:=by
 match cs,hl with
 | [c0,c1,c2],_=>
  obtain⟨_,_,h0⟩:=zbm Tryz.underlying108 h 0 _ rfl 3 rfl 0 rfl zb5 rfl;obtain⟨_,_,h1⟩:=zbm Tryz.underlying108 h 1 _ rfl 3 rfl 1 rfl zb5 rfl;obtain⟨_,_,h2⟩:=zbm Tryz.underlying108 h 2 _ rfl 3 rfl 2 rfl zb5 rfl;obtain⟨x0,rfl⟩:=zb4 h0;obtain⟨x1,rfl⟩:=zb4 h1;obtain⟨x2,rfl⟩:=zb4 h2;exact⟨⟨x0,x1,x2⟩,rfl⟩
theorem zy8 {n:Nat}{cs:List Value}{y:DataW H × List MemPlace}(h:DataW.trod enc Tryz.prog W base sp hd n 99 cs=some y) (hl:cs.length=4): ∃x,RLk W cs x:=by
 match cs,hl with
 | [c0,c1,c2,c3],_=>
  obtain⟨_,_,h0⟩:=zbm Tryz.underlying99 h 0 _ rfl 3 rfl 0 rfl zb5 rfl;obtain⟨_,_,h1⟩:=zbm Tryz.underlying99 h 1 _ rfl 5 rfl 1 rfl zlw rfl;obtain⟨_,_,h2⟩:=zbm Tryz.underlying99 h 2 _ rfl 3 rfl 2 rfl zb5 rfl;obtain⟨_,_,h3⟩:=zbm Tryz.underlying99 h 3 _ rfl 3 rfl 3 rfl zb5 rfl;obtain⟨x0,rfl⟩:=zb4 h0;obtain⟨x1,rfl⟩:=zqk h1;obtain⟨x2,rfl⟩:=zb4 h2;obtain⟨x3,rfl⟩:=zb4 h3;exact⟨⟨x0,x1,x2,x3⟩,rfl⟩
theorem zy9:Tryz.prog.cellsOf 78=1:=by kernel_rfl
theorem zql:Tryz.prog.cellsOf 54=1:=by kernel_rfl
theorem zza:Tryz.prog.cellsOf 100=1:=by kernel_rfl
theorem zzb:Tryz.prog.cellsOf 133=2:=by kernel_rfl
theorem zzc:Tryz.prog.cellsOf 143=2:=by kernel_rfl
theorem zzd:Tryz.prog.cellsOf 207=2:=by kernel_rfl
theorem zze:Tryz.prog.cellsOf 106=2:=by kernel_rfl
theorem zzf:Tryz.prog.cellsOf 145=3:=by kernel_rfl
theorem zzg:Tryz.prog.cellsOf 108=3:=by kernel_rfl
theorem zzh:Tryz.prog.cellsOf 99=4:=by kernel_rfl
theorem zzi:Tryz.prog.cellsOf 80=3:=by kernel_rfl
theorem zzj:Tryz.prog.cellsOf 102=7:=by kernel_rfl
theorem zzk {α:Type}{cs:Array α}(h:cs.size=6): ∃c0 c1 c2 c3 c4 c5,cs=#[c0,c1,c2,c3,c4,c5]:=by
 obtain⟨l⟩:=cs
 match l,h with
 | [c0,c1,c2,c3,c4,c5],_=>exact⟨c0,c1,c2,c3,c4,c5,rfl⟩
theorem zjq:Tryz.prog.cellsOf 28=6:=by kernel_rfl
theorem zzl:Tryz.prog.cellsOf 33=3:=by kernel_rfl
theorem zzm:Tryz.prog.cellsOf 23=1:=by kernel_rfl
theorem zzn:Tryz.prog.cellsOf 24=1:=by kernel_rfl
theorem zzo:Tryz.prog.cellsOf 25=1:=by kernel_rfl
theorem zzp:Tryz.prog.cellsOf 26=1:=by kernel_rfl
theorem zzq:Tryz.prog.cellsOf 29=1:=by kernel_rfl
theorem zzr:Tryz.prog.cellsOf 30=1:=by kernel_rfl
theorem zzs:Tryz.prog.cellsOf 31=1:=by kernel_rfl
end
theorem zzt {H:Type}{enc:TypeId × Value→H}{a:Assume}{C:Checked}{os:Os}{f:FuncId}{fn:Func}{s:ChangeSpec}{conds:List PathCond}{apart fresh handsOn again:Bool}
  (own:ownKnob C.prog.godebug=none) (started:os.Started) (noInit:C.prog.inits.idxOf? f=none) (hfn:C.prog.funcs[f]? =some fn)
  (witness: ∃(w:World) (tape:Tape) (i:Input),w.os=os∧(w.forCall tape i).Shaped C.prog∧i.vars=[]∧Input.okWide C.prog (w.forCall tape i) .any w.heap.size f i∧
   s.pre6 enc C.prog fn conds apart (w.forCall tape i).memory i.args∧a.holds C.prog (lone (Frame.enter C.prog f i.args .normal) [] (w.forCall tape i)))
  (contract: ∀(W:World) (base:Nat) (args:Array Value) (ds gs:List (DataW H)) (before:List MemPlace),
   (∀(j:Nat) t v,fn.params[j]? =some t→args[j]? =some v→Value.okWide C.prog W .any base t v)→
   DataW.Whole enc C.prog fn.params.toList s.vars apart W args.toList ds gs before→
   (DataW.weightsEach C.prog (fn.params.toList++s.plain.varTypes C.prog) (ds++gs)).all (· ≤reachBytes)=true→
   Calls C.prog f args W fun e W'=> ∃v,e= .returned v∧s.post enc C.prog fn apart fresh handsOn again W args v W'):
  ReturnsInHanded a C os f .any (s.pre6 enc C.prog fn conds apart) (s.post enc C.prog fn apart fresh handsOn again):=by
 have e:s.pre6 enc C.prog fn conds apart=fun w args=>(s.pre enc C.prog fn conds apart w args∧True)∧sizedMet enc C.prog fn (OpenSpec.ofChange s) apart w args:=by
  funext w args
  simp[ChangeSpec.pre6]
 rw[e]at witness ⊢;exact returnsInHanded_of_change_and (X:=fun _ _=>True) (fun _ _ _ _ h=>h) own started noInit hfn witness fun W base args ds gs before h1 h2 _ h4 _ _=>contract W base args ds gs before h1 h2 h4
section
variable {H:Type}{enc:TypeId × Value→H}{W:World}{base:Nat}{sp:Nat→Bool}{hd:Bool}
def Light (t:TypeId) (d:DataW H):Prop:= ∀n∈d.weights Tryz.prog t,n≤reachBytes
theorem zjr {ts:List TypeId}{ds:List (DataW H)}(h:(DataW.weightsEach Tryz.prog ts ds).all (· ≤reachBytes)=true) (j:Nat){t:TypeId}{d:DataW H}(ht:ts[j]? =some t) (hd:ds[j]? =some d):Light t d:=
 fun n hn=>by simpa using List.all_eq_true.1 h _ (DataW.weights_mem_each ht hd n hn)
theorem zzu {e:TypeId}{l:List (DataW H)}(h: ∀n∈DataW.weightsAll Tryz.prog e l,n≤reachBytes){d:DataW H}(hd:d∈l):Light e d:=by
 induction l with
 | nil=>cases hd
 | cons x r ih=>
  unfold DataW.weightsAll at h;rcases List.mem_cons.1 hd with rfl | hd
  ·exact fun n hn=>h n (List.mem_append_left _ hn)
  ·exact ih (fun n hn=>h n (List.mem_append_right _ hn)) hd
theorem zzv {t e:TypeId}(ht:Tryz.prog.underlying t=some (.slice e)): ∀ {d:DataW H},Light t d→ ∀z,zlv d z→Light e z
 | .slice es ss,hl,z,hz=>by
  unfold Light at hl;simp only[DataW.weights,ht]at hl;exact zzu (fun n hn=>hl n (List.mem_cons_of_mem _ (List.mem_append_left _ hn))) hz
 | .lit _,_,_,hz | .nil,_,_,hz | .ptr _,_,_,hz | .agg _,_,_,hz | .iface _ _,_,_,hz | .map _,_,_,hz | .held _,_,_,hz=>nomatch hz
theorem slW {α:Type}{t e:TypeId}{sz b:Nat}{R:World→List Value→α→Prop}{φ:α→Prop}(ht:Tryz.prog.underlying t=some (.slice e)) (hc:Tryz.prog.cellsOf e=sz) (hz:0<sz) (hb:Tryz.prog.bytesOf e=b)
  (hR: ∀n cs y,DataW.trod enc Tryz.prog W base sp hd n e cs=some y→cs.length=sz→Light e y.1→ ∃x,R W cs x∧φ x)
  {n:Nat}{v:Value}{y:DataW H × List MemPlace}(h:DataW.trod enc Tryz.prog W base sp hd n t [v]=some y) (hl:Light t y.1): ∃l:List α,Sl W sz R v l∧l.length * b≤reachBytes∧ ∀x∈l,φ x:=by
 have hE: ∀z,zlv y.1 z→Light e z:=zzv ht hl;obtain⟨l,a,cap,rfl,hle,hnil,hat⟩:=zqj (R:=fun w cs x=>R w cs x∧φ x) ht hc hz (fun n cs z h1 h2 h3=>hR n cs z h1 h2 (hE _ h3)) h;refine⟨l,⟨a,cap,rfl,hle,hnil,fun i hi=> ?_⟩,?_,fun x hx=> ?_⟩
 ·obtain⟨b,off,vs,h1,h2,h3,h4,_⟩:=hat i hi;exact⟨b,off,vs,h1,h2,h3,h4⟩
 ·rcases open_slice ht h with⟨hcs,_⟩ | ⟨a,len,cap,m,k,D,Pl,hcs,_,hlc,_,hmm,rfl,hx⟩
  ·have e:l.length=0:=by
    have:=List.singleton_inj.1 hcs;simp only[Value.slice.injEq]at this;exact this.2.1
   rw[e];simp
  ·have e:l.length=len:=by
    have:=List.singleton_inj.1 hcs;simp only[Value.slice.injEq]at this;exact this.2.1
   unfold Light at hl;simp only[DataW.weights,ht,hb]at hl;have h1:=hl _ (List.mem_cons_self ..);simp only[List.length_map,List.length_range]at h1;rw[e];exact Nat.le_trans (Nat.mul_le_mul_right b (Nat.le_add_right _ _)) h1
 ·obtain⟨i,hi,rfl⟩:=List.mem_iff_getElem.1 hx;obtain⟨_,_,_,_,_,_,_,h⟩:=hat i hi;exact h
theorem zek {t:TypeId}{fs:Array Field}(hs:Tryz.prog.underlying t=some (.struct fs)){n:Nat}{cs:List Value}{y:DataW H × List MemPlace}(h:DataW.trod enc Tryz.prog W base sp hd n t cs=some y) (hl:Light t y.1) (j:Nat) (f:Field) (hf:fs[j]? =some f)
  (u:TypeId) (hu:f.type=u) (o:Nat) (ho:f.offset=o) (k:Nat) (hc:Tryz.prog.cellsOf u=k){vs:List Value}(hv:(cs.drop o).take k=vs): ∃m z,DataW.trod enc Tryz.prog W base sp hd m u vs=some z∧Light u z.1:=by
 obtain⟨xs,m,_,rfl,_,hxl,hall⟩:=DataW.trod_struct hs h;have h1:=hall j f hf;rw[hu,hc,ho,hv]at h1;have hj:j<fs.size:=(Array.getElem?_eq_some_iff.1 hf).1;rw[List.getElem?_eq_getElem (by omega)]at h1;refine⟨m,_,h1,fun k hk=> ?_⟩;unfold Light at hl;simp only[DataW.weights,hs]at hl;refine hl k (DataW.weights_mem_each (j:=j) ?_ ?_ k hk)
 ·rw[List.getElem?_map,Array.getElem?_toList,hf];simp[hu]
 ·rw[List.getElem?_map,List.getElem?_eq_getElem (by omega)];rfl
theorem u8W {n:Nat}{v:Value}{y:DataW H × List MemPlace}(h:DataW.trod enc Tryz.prog W base sp hd n 5 [v]=some y): ∃x,v= .int .u8 x∧0≤x∧x≤255:=by
 obtain⟨x,e,_,hw⟩:=DataW.trod_int Tryz.underlying5 h;cases e;refine⟨x,rfl,?_⟩
 simpa [Lit.wf,IntKind.min,IntKind.max,IntKind.signed,IntKind.bits]using hw
theorem zlx {n:Nat}{v:Value}{y:DataW H × List MemPlace}(h:DataW.trod enc Tryz.prog W base sp hd n 22 [v]=some y) (hl:Light 22 y.1): ∃l,Sl W 1 RBy v l∧zd3 l:=by
 obtain⟨l,h1,_,h2⟩:=slW (R:=RBy) (φ:=fun x=>0≤x∧x≤255) (b:=1) Tryz.underlying22 zlw (by decide) (by kernel_rfl) (fun n cs y hy hc _=>by
  match cs,hc with
  | [c],_=>
   obtain⟨x,rfl,hx⟩:=u8W hy
   exact⟨x,rfl,hx⟩) h hl
 exact⟨l,h1,h2⟩
theorem zqm {n:Nat}{v:Value}{y:DataW H × List MemPlace}(h:DataW.trod enc Tryz.prog W base sp hd n 54 [v]=some y) (hl:Light 54 y.1): ∃l,ILv W v l∧l.length≤17592186044416:=by
 obtain⟨l,⟨a,cap,rfl,h2⟩,h3,_⟩:=slW (R:=zrp) (φ:=fun _=>True) (b:=8) Tryz.underlying54 zb5 (by decide) (by kernel_rfl) (fun m cs y hy hl _=>by
  match cs,hl with
  | [c],_=>
   obtain⟨x,rfl⟩:=zb4 hy
   exact⟨x,rfl,trivial⟩) h hl
 refine⟨l,⟨a,l.length,cap,rfl,rfl,fun i hi=> ?_⟩,by unfold reachBytes at h3;omega⟩;obtain⟨b,off,vs,e,_,hc,rfl⟩:=h2.at_ i hi;exact⟨b,off,e,by simpa using hc 0 (by simp)⟩
theorem zzw {n:Nat}{cs:List Value}{y:DataW H × List MemPlace}(h:DataW.trod enc Tryz.prog W base sp hd n 80 cs=some y) (hl:cs.length=3) (hw:Light 80 y.1): ∃x,zas W cs x∧x.ends.length≤8796093022208:=by
 match cs,hl with
 | [c0,c1,c2],_=>
  obtain⟨_,_,h0⟩:=zbm Tryz.underlying80 h 0 _ rfl 3 rfl 0 rfl zb5 rfl;obtain⟨_,_,h1⟩:=zbm Tryz.underlying80 h 1 _ rfl 3 rfl 1 rfl zb5 rfl;obtain⟨_,_,h2,hw2⟩:=zek Tryz.underlying80 h hw 2 _ rfl 78 rfl 2 rfl 1 zy9 rfl;obtain⟨x0,rfl⟩:=zb4 h0;obtain⟨x1,rfl⟩:=zb4 h1;obtain⟨l,hl,hb,_⟩:=slW (R:=RJn) (φ:=fun _=>True) (b:=16) Tryz.underlying78 zzb (by decide) (by kernel_rfl) (fun _ _ _ a b _=>(zy2 a b).imp fun _ h=>⟨h,trivial⟩) h2 hw2;exact⟨⟨x0,x1,l⟩,⟨c2,rfl,hl⟩,by unfold reachBytes at hb;show l.length≤_;omega⟩
theorem rtW {n:Nat}{cs:List Value}{y:DataW H × List MemPlace}(h:DataW.trod enc Tryz.prog W base sp hd n 102 cs=some y) (hl:cs.length=7) (hw:Light 102 y.1): ∃x,RRt W cs x∧x.fit:=by
 match cs,hl with
 | [c0,c1,c2,c3,c4,c5,c6],_=>
  obtain⟨_,_,h0⟩:=zbm Tryz.underlying102 h 0 _ rfl 3 rfl 0 rfl zb5 rfl;obtain⟨_,_,h1⟩:=zbm Tryz.underlying102 h 1 _ rfl 3 rfl 1 rfl zb5 rfl;obtain⟨_,_,h2⟩:=zbm Tryz.underlying102 h 2 _ rfl 3 rfl 2 rfl zb5 rfl;obtain⟨_,_,h3,w3⟩:=zek Tryz.underlying102 h hw 3 _ rfl 54 rfl 3 rfl 1 zql rfl;obtain⟨_,_,h4,w4⟩:=zek Tryz.underlying102 h hw 4 _ rfl 54 rfl 4 rfl 1 zql rfl;obtain⟨_,_,h5,w5⟩:=zek Tryz.underlying102 h hw 5 _ rfl 100 rfl 5 rfl 1 zza rfl;obtain⟨_,_,h6⟩:=zbm Tryz.underlying102 h 6 _ rfl 3 rfl 6 rfl zb5 rfl;obtain⟨x0,rfl⟩:=zb4 h0;obtain⟨x1,rfl⟩:=zb4 h1;obtain⟨x2,rfl⟩:=zb4 h2;obtain⟨x6,rfl⟩:=zb4 h6;obtain⟨l3,k3,b3⟩:=zqm h3 w3;obtain⟨l4,k4,b4⟩:=zqm h4 w4;obtain⟨l5,k5,b5,_⟩:=slW (R:=RFl) (φ:=fun _=>True) (b:=16) Tryz.underlying100 zzd (by decide) (by kernel_rfl) (fun _ _ _ a b _=>(zy4 a b).imp fun _ h=>⟨h,trivial⟩) h5 w5;exact⟨⟨x0,x1,x2,l3,l4,l5,x6⟩,⟨c3,c4,c5,rfl,k3,k4,k5⟩,b3,b4,by unfold reachBytes at b5;show l5.length≤_;omega⟩
theorem zjs {n:Nat}{c0 c1 c2 c3 c4 c5:Value}{y:DataW H × List MemPlace}(h:DataW.trod enc Tryz.prog W base sp hd n 28 [c0,c1,c2,c3,c4,c5]=some y) (hw:Light 28 y.1):
  ∃x:Pl,c0=↑x.ver∧c1=↑x.par∧PlM W c2 c3 c4 c5 x∧x.Wide:=by
 obtain⟨_,_,h0⟩:=zbm Tryz.underlying28 h 0 _ rfl 3 rfl 0 rfl zb5 rfl;obtain⟨_,_,h1⟩:=zbm Tryz.underlying28 h 1 _ rfl 3 rfl 1 rfl zb5 rfl;obtain⟨_,_,h2,w2⟩:=zek Tryz.underlying28 h hw 2 _ rfl 23 rfl 2 rfl 1 zzm rfl;obtain⟨_,_,h3⟩:=zbm Tryz.underlying28 h 3 _ rfl 24 rfl 3 rfl zzn rfl;obtain⟨_,_,h4⟩:=zbm Tryz.underlying28 h 4 _ rfl 25 rfl 4 rfl zzo rfl;obtain⟨_,_,h5,w5⟩:=zek Tryz.underlying28 h hw 5 _ rfl 26 rfl 5 rfl 1 zzp rfl;obtain⟨x0,rfl⟩:=zb4 h0;obtain⟨x1,rfl⟩:=zb4 h1;obtain⟨l2,k2,_,b2⟩:=slW (R:=zas) (φ:=fun x=>x.ends.length≤8796093022208) (b:=40) Tryz.underlying23 zzi (by decide) (by kernel_rfl) (fun _ _ _=>zzw) h2 w2;obtain⟨l3,k3⟩:=zie (R:=RPt) Tryz.underlying24 zzc (by decide) (fun _ _ _=>zy3) h3;obtain⟨l4,k4⟩:=zie (R:=RSg) Tryz.underlying25 zzf (by decide) (fun _ _ _=>zy6) h4;obtain⟨l5,k5,_,b5⟩:=slW (R:=RRt) (φ:=Rt.fit) (b:=104) Tryz.underlying26 zzj (by decide) (by kernel_rfl) (fun _ _ _=>rtW) h5 w5;exact⟨⟨x0,x1,l2,l3,l4,l5⟩,rfl,rfl,⟨k2,k3,k4,k5⟩,fun i hi=>b2 _ (List.getElem_mem hi),fun i hi=>b5 _ (List.getElem_mem hi)⟩
theorem zzx {n:Nat}{c0 c1 c2:Value}{y:DataW H × List MemPlace}(h:DataW.trod enc Tryz.prog W base sp hd n 33 [c0,c1,c2]=some y): ∃x,StM W c0 c1 c2 x:=by
 obtain⟨_,_,h0⟩:=zbm Tryz.underlying33 h 0 _ rfl 29 rfl 0 rfl zzq rfl;obtain⟨_,_,h1⟩:=zbm Tryz.underlying33 h 1 _ rfl 30 rfl 1 rfl zzr rfl;obtain⟨_,_,h2⟩:=zbm Tryz.underlying33 h 2 _ rfl 31 rfl 2 rfl zzs rfl;obtain⟨l0,k0⟩:=zie (R:=RTk) Tryz.underlying29 zze (by decide) (fun _ _ _=>zy5) h0;obtain⟨l1,k1⟩:=zie (R:=RSw) Tryz.underlying30 zzg (by decide) (fun _ _ _=>zy7) h1;obtain⟨l2,k2⟩:=zie (R:=RLk) Tryz.underlying31 zzh (by decide) (fun _ _ _=>zy8) h2;exact⟨⟨l0,l1,l2⟩,k0,k1,k2⟩
theorem zzy {r:Reach}{b0:Nat}{v:Value}{d:DataW H}{p:List MemPlace}(hv:Value.okWide Tryz.prog W r b0 28 v) (h:DataW.Trod enc Tryz.prog W base sp hd 28 v d p) (hl:Light 28 d): ∃s q g rr x,v=plV x s q g rr∧PlM W s q g rr x∧x.Wide:=by
 obtain⟨cs,rfl,hsz⟩:=okWide_struct Tryz.underlying28 hv;obtain⟨c0,c1,c2,c3,c4,c5,rfl⟩:=zzk (hsz.trans zjq);obtain⟨n,h⟩:=h;obtain⟨x,rfl,rfl,h1,h2⟩:=zjs (show DataW.trod enc Tryz.prog W base sp hd n 28 [c0,c1,c2,c3,c4,c5]=some (d,p)from h) hl;exact⟨c2,c3,c4,c5,x,rfl,h1,h2⟩
theorem zzz {v:Value}{d:DataW H}{p:List MemPlace}{r:Reach}{b0:Nat}(hv:Value.okWide Tryz.prog W r b0 22 v) (h:DataW.Trod enc Tryz.prog W base sp hd 22 v d p) (hl:Light 22 d): ∃a c l,v= .slice a (List.length l) c∧SlA W 1 RBy a c l∧zd3 l:=by
 obtain⟨n,h⟩:=h;obtain⟨a0,l0,c0,rfl⟩:=okWide_slice Tryz.underlying22 hv;obtain⟨l,⟨a,c,e,h1⟩,h2⟩:=zlx (v:= .slice a0 l0 c0) h hl;exact⟨a,c,l,e,h1,h2⟩
theorem zz0:Tryz.prog.cellsOf 35=25:=by kernel_rfl
theorem zqn:Tryz.prog.cellsOf 22=1:=by kernel_rfl
theorem zz1:Tryz.prog.cellsOf 4=1:=by kernel_rfl
theorem zqo {r:Reach}{b0:Nat}{v:Value}{d:DataW H}{p:List MemPlace}(hv:Value.okWide Tryz.prog W r b0 35 v) (h:DataW.Trod enc Tryz.prog W base sp hd 35 v d p) (hl:Light 35 d): ∃a c x,v=hsV a c x∧HsM W a c x∧x.Wide:=by
 obtain⟨cs,rfl,hsz⟩:=okWide_struct Tryz.underlying35 hv;replace hsz:=hsz.trans zz0;obtain⟨l⟩:=cs
 match l,hsz with
 | [c0,c1,c2,c3,c4,c5,c6,c7,c8,c9,c10,c11,c12,c13,c14,c15,c16,c17,c18,c19,c20,c21,c22,c23,c24],_=>
  obtain⟨n,h⟩:=h;have h:DataW.trod enc Tryz.prog W base sp hd n 35 [c0,c1,c2,c3,c4,c5,c6,c7,c8,c9,c10,c11,c12,c13,c14,c15,c16,c17,c18,c19,c20,c21,c22,c23,c24]=some (d,p):=h;obtain⟨_,_,h0,w0⟩:=zek Tryz.underlying35 h hl 0 _ rfl 22 rfl 0 rfl 1 zqn rfl;obtain⟨_,_,h1,w1⟩:=zek Tryz.underlying35 h hl 1 _ rfl 28 rfl 1 rfl 6 zjq rfl;obtain⟨_,_,h2,w2⟩:=zek Tryz.underlying35 h hl 2 _ rfl 28 rfl 7 rfl 6 zjq rfl;obtain⟨_,_,h3,_⟩:=zek Tryz.underlying35 h hl 3 _ rfl 3 rfl 13 rfl 1 zb5 rfl;obtain⟨_,_,h4,_⟩:=zek Tryz.underlying35 h hl 4 _ rfl 33 rfl 14 rfl 3 zzl rfl;obtain⟨_,_,h5,w5⟩:=zek Tryz.underlying35 h hl 5 _ rfl 22 rfl 17 rfl 1 zqn rfl;obtain⟨_,_,h6,w6⟩:=zek Tryz.underlying35 h hl 6 _ rfl 28 rfl 18 rfl 6 zjq rfl;obtain⟨_,_,h7,_⟩:=zek Tryz.underlying35 h hl 7 _ rfl 4 rfl 24 rfl 1 zz1 rfl;clear h hl hv;obtain⟨key,⟨a0,k0,rfl,m0⟩,b0⟩:=zlx h0 w0;obtain⟨pl,rfl,rfl,m1,v1⟩:=zjs h1 w1;obtain⟨bk,rfl,rfl,m2,v2⟩:=zjs h2 w2;obtain⟨hi,rfl⟩:=zb4 h3;obtain⟨st,m4⟩:=zzx h4;obtain⟨buf,⟨a5,k5,rfl,m5⟩,b5⟩:=zlx h5 w5;obtain⟨nx,rfl,rfl,m6,v6⟩:=zjs h6 w6;obtain⟨b,e,_⟩:=DataW.trod_bool Tryz.underlying4 h7;cases e;clear h0 h1 h2 h3 h4 h5 h6 h7 w0 w1 w2 w5 w6;obtain⟨p1,q1,rfl,-⟩:=id m1.S;obtain⟨p2,q2,rfl,-⟩:=id m1.P;obtain⟨p3,q3,rfl,-⟩:=id m1.G;obtain⟨p4,q4,rfl,-⟩:=id m1.R;obtain⟨p5,q5,rfl,-⟩:=id m2.S;obtain⟨p6,q6,rfl,-⟩:=id m2.P;obtain⟨p7,q7,rfl,-⟩:=id m2.G;obtain⟨p8,q8,rfl,-⟩:=id m2.R;obtain⟨p9,q9,rfl,-⟩:=id m4.tks;obtain⟨p10,q10,rfl,-⟩:=id m4.sws;obtain⟨p11,q11,rfl,-⟩:=id m4.lks;obtain⟨p13,q13,rfl,-⟩:=id m6.S;obtain⟨p14,q14,rfl,-⟩:=id m6.P;obtain⟨p15,q15,rfl,-⟩:=id m6.G;obtain⟨p16,q16,rfl,-⟩:=id m6.R
  exact⟨(#[a0,p1,p2,p3,p4,p5,p6,p7,p8,p9,p10,p11,a5,p13,p14,p15,p16].getD · none),(#[k0,q1,q2,q3,q4,q5,q6,q7,q8,q9,q10,q11,k5,q13,q14,q15,q16].getD · 0),
   ⟨key,pl,bk,hi,st,buf,nx,b⟩,rfl,⟨m0,m1,m2,m4,m5,m6⟩,⟨v1,v2,v6,b0,b5⟩⟩
end
end Go.Proofs.YtbiehpjhhopjaaaGreat
