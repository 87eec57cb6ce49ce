/-
 plan.rise,walked at points,signals and routes.
-/
import Derived.Test.YtbiehpjhhopjaaaGreatTPlanA
import Derived.Test.YtbiehpjhhopjaaaGreatTData
import Derived.Test.YtbiehpjhhopjaaaGreatTTrackD
import Derived.Laws.Rows
import Derived.Test.YtbiehpjhhopjaaaGreatTIxfn
set_option linter.unusedVariables false
set_option linter.unusedSimpArgs false
set_option maxRecDepth 100000
set_option maxHeartbeats 16000000
namespace Go.Proofs.YtbiehpjhhopjaaaGreat
open Go.RowKit Go.Sort
theorem zke {α:Type}{f:α→Int}{l:List α}{k:Nat}(h:k<l.length) (hA:zat f l k) (h1:1≤f l[k]∧f l[k]≤99) (h2: ∀h':0<k,f l[k-1]<f l[k]):zat f l (k+1):=by
 intro i hi hik;by_cases e:i=k
 ·subst e;exact⟨h1,h2⟩
 ·exact hA i hi (by omega)
theorem zkf {α:Type}{f:α→Int}{l:List α}{k:Nat}(h:k<l.length) (hb: ¬((1≤f l[k]∧f l[k]≤99)∧ ∀h':0<k,f l[k-1]<f l[k])): ¬zat f l l.length:=fun hA=>hb (hA k h h)
theorem zsf (a:Option Addr) (cap:Nat) (l:List Pt) (most:Int) (w:World) (hl:SlA w 2 RPt a cap l) (hm:l.length≤1000):
  Calls Tryz.prog 376 #[js a l.length cap,most] w (zae w (decide (zat Pt.id l l.length∧(l.length:Int)≤most))):=by
 have HL:Hid (∀w',jb w w'→SlA w' 2 RPt a cap l):=fun w' hb=>hl.below zct hb;clear hl;have HN:Hid (¬zat Pt.id l l.length→decide (zat Pt.id l l.length∧(l.length:Int)≤most)=false):=fun h=>decide_eq_false fun h'=>h h'.1;have HY:Hid (zat Pt.id l l.length→decide (zat Pt.id l l.length∧(l.length:Int)≤most)=decide ((l.length:Int)≤most)):=fun h=>by simp[h]
 generalize decide (zat Pt.id l l.length∧(l.length:Int)≤most)=B at *;go_enter Tryz.func376,Tryz.ntmps376;go_wp2_with fail;go_loopg [10] l.length (fun g i wr=> ∃k:Nat,k≤l.length∧g=l.length-k∧i= .int .i64 k∧jb w wr∧zat Pt.id l k)
 case atStart=>exact⟨0,by omega,by omega,rfl,Below.refl _ _,fun i h h0=>by omega⟩
 case round=>
  obtain⟨k,hk,rfl,rfl,hb,hA⟩:=hrel;obtain⟨wo,rfl⟩: ∃wo:World,wo=wr:=⟨_,rfl⟩;have HB:=hI hb;have HA:=hI hA;clear hb hA;by_cases hlt:k<l.length
  ·have HBAD:Hid (¬((1≤l[k].id∧l[k].id≤99)∧ ∀h':0<k,l[k-1].id<l[k].id)→B=false):=fun h=>HN (zkf hlt h);have HOK:Hid ((1≤l[k].id∧l[k].id≤99)→(∀h':0<k,l[k-1].id<l[k].id)→zat Pt.id l (k+1)):=fun h1 h2=>zke hlt HA h1 h2
   have HPREV:Hid (∀h':0<k,∃hk1:k-1<l.length,∀w',jb w w'→ ∃b off,a=some ⟨b,off,none⟩∧jc w' b (off+(k-1) * 2) l[k-1].id∧jc w' b (off+(k-1) * 2+1) l[k-1].sec):=fun h'=>⟨by omega,fun w' hb=>by
    exact(HL _ hb).pt (by omega)⟩
   obtain⟨b,off,rfl,x0,x1⟩:=(HL _ HB).pt hlt;have c0:(0:Int)≤(k:Int):=(by omega);have c1:(k:Int)<(l.length:Int):=(by omega);have HID:Hid (∀W,Calls Tryz.prog 413 #[.agg #[l[k].id,l[k].sec]] W fun e w'=>e= .returned ↑l[k].id∧jb W w'):=fun W=>zj4 _ _ W;generalize l[k].id=ki at *;by_cases q1:ki<1
   ·have HE:=hI (HBAD (fun h=>by omega));go_wp2_with fail;refine(HID _).mono ?_;rintro e0 w1 ⟨rfl,hb1⟩;have K1:Hid (jb w w1):=(HB.alloc HB.size _).trans (hb1.mono (by have:=HB.size;simp;omega));clear hb1 HID;go_wp2_with fail;go_ret;exact⟨zab HE.symm,K1⟩
   ·have s1:decide (ki<1)=false:=(by simp;omega);by_cases q2:99<ki
    ·have HE:=hI (HBAD (fun h=>by omega));go_wp2_with fail;refine(HID _).mono ?_;rintro e0 w1 ⟨rfl,hb1⟩;have K1:Hid (jb w w1):=(HB.alloc HB.size _).trans (hb1.mono (by have:=HB.size;simp;omega));clear hb1 HID;go_wp2_with fail;go_ret;exact⟨zab HE.symm,K1⟩
    ·have s2:decide (99<ki)=false:=(by simp;omega);rcases Nat.eq_zero_or_pos k with hk0 | hk0
     ·have t0':decide (0<k)=false:=(by simp;omega);have HO:=hI (HOK ⟨by omega,by omega⟩ (fun h'=>by omega));clear hk0;go_wp2_with fail;refine(HID _).mono ?_;rintro e0 w1 ⟨rfl,hb1⟩;have K1:Hid (jb w w1):=(HB.alloc HB.size _).trans (hb1.mono (by have:=HB.size;simp;omega));clear hb1 HID;go_wp2_with fail;go_roundg (l.length-(k+1))
      case measure=>go_light;omega
      case rel=>go_light;exact⟨k+1,by omega,by omega,by go_num,K1,HO⟩
     ·obtain⟨hk1,hpv⟩:=HPREV hk0;have HPV:=hI hpv;have i2:((k:Int)-1).toNat=k-1:=(by omega);clear hpv;go_wp2_with fail;refine(HID _).mono ?_;rintro e0 w1 ⟨rfl,hb1⟩;have K1:Hid (jb w w1):=(HB.alloc HB.size _).trans (hb1.mono (by have:=HB.size;simp;omega));obtain⟨b2,off2,e2,y0,y1⟩:=HPV w1 K1;cases e2;have HID2:Hid (∀W,Calls Tryz.prog 413 #[.agg #[l[k-1].id,l[k-1].sec]] W fun e w'=>e= .returned ↑l[k-1].id∧jb W w'):=fun W=>zj4 _ _ W;clear hb1 HID;by_cases q3:ki≤l[k-1].id
      ·have HE:=hI (HBAD (fun h=>by have:=h.2 hk0;omega));go_wp2_with fail;refine(HID2 _).mono ?_;rintro e1 w2 ⟨rfl,hb2⟩;have K2:=jh K1 hb2;clear hb2 HID2;go_wp2_with fail;go_ret;exact⟨zab HE.symm,K2⟩
      ·have s3:decide (ki≤l[k-1].id)=false:=(by simp;omega);have HO:=hI (HOK ⟨by omega,by omega⟩ (fun h'=>by omega));go_wp2_with fail;refine(HID2 _).mono ?_;rintro e1 w2 ⟨rfl,hb2⟩;have K2:=jh K1 hb2;clear hb2 HID2;go_wp2_with fail;go_roundg (l.length-(k+1))
       case measure=>go_light;omega
       case rel=>go_light;exact⟨k+1,by omega,by omega,by go_num,K2,HO⟩
  ·obtain rfl:k=l.length:=(by omega);have HE:=hI (HY HA);go_wp2_with fail;go_ret;exact⟨zab HE.symm,HB⟩
theorem zsg (a:Option Addr) (cap:Nat) (l:List Sg) (most:Int) (w:World) (hl:SlA w 3 RSg a cap l) (hm:l.length≤1000):
  Calls Tryz.prog 378 #[js a l.length cap,most] w (zae w (decide (zat Sg.id l l.length∧(l.length:Int)≤most))):=by
 have HL:Hid (∀w',jb w w'→SlA w' 3 RSg a cap l):=fun w' hb=>hl.below zcu hb;clear hl;have HN:Hid (¬zat Sg.id l l.length→decide (zat Sg.id l l.length∧(l.length:Int)≤most)=false):=fun h=>decide_eq_false fun h'=>h h'.1;have HY:Hid (zat Sg.id l l.length→decide (zat Sg.id l l.length∧(l.length:Int)≤most)=decide ((l.length:Int)≤most)):=fun h=>by simp[h]
 generalize decide (zat Sg.id l l.length∧(l.length:Int)≤most)=B at *;go_enter Tryz.func378,Tryz.ntmps378;go_wp2_with fail;go_loopg [10] l.length (fun g i wr=> ∃k:Nat,k≤l.length∧g=l.length-k∧i= .int .i64 k∧jb w wr∧zat Sg.id l k)
 case atStart=>exact⟨0,by omega,by omega,rfl,Below.refl _ _,fun i h h0=>by omega⟩
 case round=>
  obtain⟨k,hk,rfl,rfl,hb,hA⟩:=hrel;obtain⟨wo,rfl⟩: ∃wo:World,wo=wr:=⟨_,rfl⟩;have HB:=hI hb;have HA:=hI hA;clear hb hA;by_cases hlt:k<l.length
  ·have HBAD:Hid (¬((1≤l[k].id∧l[k].id≤99)∧ ∀h':0<k,l[k-1].id<l[k].id)→B=false):=fun h=>HN (zkf hlt h);have HOK:Hid ((1≤l[k].id∧l[k].id≤99)→(∀h':0<k,l[k-1].id<l[k].id)→zat Sg.id l (k+1)):=fun h1 h2=>zke hlt HA h1 h2
   have HPREV:Hid (∀h':0<k,∃hk1:k-1<l.length,∀w',jb w w'→ ∃b off,a=some ⟨b,off,none⟩∧jc w' b (off+(k-1) * 3) l[k-1].id∧jc w' b (off+(k-1) * 3+1) l[k-1].sec∧jc w' b (off+(k-1) * 3+2) l[k-1].en):=fun h'=>⟨by omega,fun w' hb=>by
    exact(HL _ hb).sg (by omega)⟩
   obtain⟨b,off,rfl,x0,x1,x2⟩:=(HL _ HB).sg hlt;have c0:(0:Int)≤(k:Int):=(by omega);have c1:(k:Int)<(l.length:Int):=(by omega);have HID:Hid (∀W,Calls Tryz.prog 414 #[.agg #[l[k].id,l[k].sec,l[k].en]] W fun e w'=>e= .returned ↑l[k].id∧jb W w'):=fun W=>zj5 _ _ _ W;generalize l[k].id=ki at *;by_cases q1:ki<1
   ·have HE:=hI (HBAD (fun h=>by omega));go_wp2_with fail;refine(HID _).mono ?_;rintro e0 w1 ⟨rfl,hb1⟩;have K1:Hid (jb w w1):=(HB.alloc HB.size _).trans (hb1.mono (by have:=HB.size;simp;omega));clear hb1 HID;go_wp2_with fail;go_ret;exact⟨zab HE.symm,K1⟩
   ·have s1:decide (ki<1)=false:=(by simp;omega);by_cases q2:99<ki
    ·have HE:=hI (HBAD (fun h=>by omega));go_wp2_with fail;refine(HID _).mono ?_;rintro e0 w1 ⟨rfl,hb1⟩;have K1:Hid (jb w w1):=(HB.alloc HB.size _).trans (hb1.mono (by have:=HB.size;simp;omega));clear hb1 HID;go_wp2_with fail;go_ret;exact⟨zab HE.symm,K1⟩
    ·have s2:decide (99<ki)=false:=(by simp;omega);rcases Nat.eq_zero_or_pos k with hk0 | hk0
     ·have t0':decide (0<k)=false:=(by simp;omega);have HO:=hI (HOK ⟨by omega,by omega⟩ (fun h'=>by omega));clear hk0;go_wp2_with fail;refine(HID _).mono ?_;rintro e0 w1 ⟨rfl,hb1⟩;have K1:Hid (jb w w1):=(HB.alloc HB.size _).trans (hb1.mono (by have:=HB.size;simp;omega));clear hb1 HID;go_wp2_with fail;go_roundg (l.length-(k+1))
      case measure=>go_light;omega
      case rel=>go_light;exact⟨k+1,by omega,by omega,by go_num,K1,HO⟩
     ·obtain⟨hk1,hpv⟩:=HPREV hk0;have HPV:=hI hpv;have i2:((k:Int)-1).toNat=k-1:=(by omega);clear hpv;go_wp2_with fail;refine(HID _).mono ?_;rintro e0 w1 ⟨rfl,hb1⟩;have K1:Hid (jb w w1):=(HB.alloc HB.size _).trans (hb1.mono (by have:=HB.size;simp;omega));obtain⟨b2,off2,e2,y0,y1,y2⟩:=HPV w1 K1;cases e2;have HID2:Hid (∀W,Calls Tryz.prog 414 #[.agg #[l[k-1].id,l[k-1].sec,l[k-1].en]] W fun e w'=>e= .returned ↑l[k-1].id∧jb W w'):=fun W=>zj5 _ _ _ W;clear hb1 HID;by_cases q3:ki≤l[k-1].id
      ·have HE:=hI (HBAD (fun h=>by have:=h.2 hk0;omega));go_wp2_with fail;refine(HID2 _).mono ?_;rintro e1 w2 ⟨rfl,hb2⟩;have K2:=jh K1 hb2;clear hb2 HID2;go_wp2_with fail;go_ret;exact⟨zab HE.symm,K2⟩
      ·have s3:decide (ki≤l[k-1].id)=false:=(by simp;omega);have HO:=hI (HOK ⟨by omega,by omega⟩ (fun h'=>by omega));go_wp2_with fail;refine(HID2 _).mono ?_;rintro e1 w2 ⟨rfl,hb2⟩;have K2:=jh K1 hb2;clear hb2 HID2;go_wp2_with fail;go_roundg (l.length-(k+1))
       case measure=>go_light;omega
       case rel=>go_light;exact⟨k+1,by omega,by omega,by go_num,K2,HO⟩
  ·obtain rfl:k=l.length:=(by omega);have HE:=hI (HY HA);go_wp2_with fail;go_ret;exact⟨zab HE.symm,HB⟩
theorem zsh (a:Option Addr) (cap:Nat) (l:List Rt) (most:Int) (w:World) (hl:SlA w 7 RRt a cap l) (hm:l.length≤1000):
  Calls Tryz.prog 299 #[js a l.length cap,most] w (zae w (decide (zat Rt.id l l.length∧(l.length:Int)≤most))):=by
 have HL:Hid (∀w',jb w w'→SlA w' 7 RRt a cap l):=fun w' hb=>hl.below zcv hb;clear hl;have HN:Hid (¬zat Rt.id l l.length→decide (zat Rt.id l l.length∧(l.length:Int)≤most)=false):=fun h=>decide_eq_false fun h'=>h h'.1;have HY:Hid (zat Rt.id l l.length→decide (zat Rt.id l l.length∧(l.length:Int)≤most)=decide ((l.length:Int)≤most)):=fun h=>by simp[h]
 generalize decide (zat Rt.id l l.length∧(l.length:Int)≤most)=B at *;go_enter Tryz.func299,Tryz.ntmps299;go_wp2_with fail;go_loopg [10] l.length (fun g i wr=> ∃k:Nat,k≤l.length∧g=l.length-k∧i= .int .i64 k∧jb w wr∧zat Rt.id l k)
 case atStart=>exact⟨0,by omega,by omega,rfl,Below.refl _ _,fun i h h0=>by omega⟩
 case round=>
  obtain⟨k,hk,rfl,rfl,hb,hA⟩:=hrel;obtain⟨wo,rfl⟩: ∃wo:World,wo=wr:=⟨_,rfl⟩;have HB:=hI hb;have HA:=hI hA;clear hb hA;by_cases hlt:k<l.length
  ·have HBAD:Hid (¬((1≤l[k].id∧l[k].id≤99)∧ ∀h':0<k,l[k-1].id<l[k].id)→B=false):=fun h=>HN (zkf hlt h);have HOK:Hid ((1≤l[k].id∧l[k].id≤99)→(∀h':0<k,l[k-1].id<l[k].id)→zat Rt.id l (k+1)):=fun h1 h2=>zke hlt HA h1 h2
   have HPREV:Hid (∀h':0<k,∃hk1:k-1<l.length,∀w',jb w w'→ ∃b off p1 p2 p3 o1 o2 o3 f1 f3,a=some ⟨b,off,none⟩∧jc w' b (off+(k-1) * 7) l[k-1].id∧jc w' b (off+(k-1) * 7+1) l[k-1].E∧jc w' b (off+(k-1) * 7+2) l[k-1].X∧jc w' b (off+(k-1) * 7+3) (js p1 p2 p3)∧jc w' b (off+(k-1) * 7+4) (js o1 o2 o3)∧jc w' b (off+(k-1) * 7+5) (js f1 l[k-1].fl.length f3)∧jc w' b (off+(k-1) * 7+6) l[k-1].T):=fun h'=>⟨by omega,fun w' hb=>by
    obtain⟨b,off,pv,ov,fv,e,x0,x1,x2,x3,x4,x5,x6,⟨p1,p2,p3,rfl,-⟩,⟨o1,o2,o3,rfl,-⟩,⟨f1,f3,rfl,-⟩⟩:=(HL _ hb).rt (show k-1<l.length by omega)
    exact⟨b,off,p1,p2,p3,o1,o2,o3,f1,f3,e,x0,x1,x2,x3,x4,x5,x6⟩⟩
   obtain⟨b,off,pv,ov,fv,rfl,x0,x1,x2,x3,x4,x5,x6,hrt⟩:=(HL _ HB).rt hlt;obtain⟨⟨p1,p2,p3,rfl,-⟩,⟨o1,o2,o3,rfl,-⟩,⟨f1,f3,rfl,-⟩⟩:=hrt;have c0:(0:Int)≤(k:Int):=(by omega);have c1:(k:Int)<(l.length:Int):=(by omega);have HID:Hid (∀W,Calls Tryz.prog 372 #[.agg #[l[k].id,l[k].E,l[k].X,js p1 p2 p3,js o1 o2 o3,js f1 l[k].fl.length f3,l[k].T]] W fun e w'=>e= .returned ↑l[k].id∧jb W w'):=fun W=>zmi _ _ _ _ _ _ _ _ _ _ _ _ _ W;generalize l[k].id=ki at *;by_cases q1:ki<1
   ·have HE:=hI (HBAD (fun h=>by omega));go_wp2_with fail;refine(HID _).mono ?_;rintro e0 w1 ⟨rfl,hb1⟩;have K1:Hid (jb w w1):=(HB.alloc HB.size _).trans (hb1.mono (by have:=HB.size;simp;omega));clear hb1 HID;go_wp2_with fail;go_ret;exact⟨zab HE.symm,K1⟩
   ·have s1:decide (ki<1)=false:=(by simp;omega);by_cases q2:99<ki
    ·have HE:=hI (HBAD (fun h=>by omega));go_wp2_with fail;refine(HID _).mono ?_;rintro e0 w1 ⟨rfl,hb1⟩;have K1:Hid (jb w w1):=(HB.alloc HB.size _).trans (hb1.mono (by have:=HB.size;simp;omega));clear hb1 HID;go_wp2_with fail;go_ret;exact⟨zab HE.symm,K1⟩
    ·have s2:decide (99<ki)=false:=(by simp;omega);rcases Nat.eq_zero_or_pos k with hk0 | hk0
     ·have t0':decide (0<k)=false:=(by simp;omega);have HO:=hI (HOK ⟨by omega,by omega⟩ (fun h'=>by omega));clear hk0;go_wp2_with fail;refine(HID _).mono ?_;rintro e0 w1 ⟨rfl,hb1⟩;have K1:Hid (jb w w1):=(HB.alloc HB.size _).trans (hb1.mono (by have:=HB.size;simp;omega));clear hb1 HID;go_wp2_with fail;go_roundg (l.length-(k+1))
      case measure=>go_light;omega
      case rel=>go_light;exact⟨k+1,by omega,by omega,by go_num,K1,HO⟩
     ·obtain⟨hk1,hpv⟩:=HPREV hk0;have HPV:=hI hpv;have i2:((k:Int)-1).toNat=k-1:=(by omega);clear hpv;go_wp2_with fail;refine(HID _).mono ?_;rintro e0 w1 ⟨rfl,hb1⟩;have K1:Hid (jb w w1):=(HB.alloc HB.size _).trans (hb1.mono (by have:=HB.size;simp;omega));obtain⟨b2,off2,q1,q2,q3,r1,r2,r3,g1,g3,e2,y0,y1,y2,y3,y4,y5,y6⟩:=HPV w1 K1;cases e2;have HID2:Hid (∀W,Calls Tryz.prog 372 #[.agg #[l[k-1].id,l[k-1].E,l[k-1].X,js q1 q2 q3,js r1 r2 r3,js g1 l[k-1].fl.length g3,l[k-1].T]] W fun e w'=>e= .returned ↑l[k-1].id∧jb W w'):=fun W=>zmi _ _ _ _ _ _ _ _ _ _ _ _ _ W;clear hb1 HID;by_cases q3:ki≤l[k-1].id
      ·have HE:=hI (HBAD (fun h=>by have:=h.2 hk0;omega));go_wp2_with fail;refine(HID2 _).mono ?_;rintro e1 w2 ⟨rfl,hb2⟩;have K2:=jh K1 hb2;clear hb2 HID2;go_wp2_with fail;go_ret;exact⟨zab HE.symm,K2⟩
      ·have s3:decide (ki≤l[k-1].id)=false:=(by simp;omega);have HO:=hI (HOK ⟨by omega,by omega⟩ (fun h'=>by omega));go_wp2_with fail;refine(HID2 _).mono ?_;rintro e1 w2 ⟨rfl,hb2⟩;have K2:=jh K1 hb2;clear hb2 HID2;go_wp2_with fail;go_roundg (l.length-(k+1))
       case measure=>go_light;omega
       case rel=>go_light;exact⟨k+1,by omega,by omega,by go_num,K2,HO⟩
  ·obtain rfl:k=l.length:=(by omega);have HE:=hI (HY HA);go_wp2_with fail;go_ret;exact⟨zab HE.symm,HB⟩
def IntArr (cs:Array Value) (f:Nat→Int):Prop:=cs.size=100∧ ∀q,q<100→cs[q]? =some (.int .i64 (f q))
theorem zmv (cs:Array Value) (f:Nat→Int) (id:Int) (w:World) (h:IntArr cs f):
  Calls Tryz.prog 379 #[.agg cs,id] w (zae w (decide (0≤id∧id≤99∧0<f id.toNat))):=by
 have HC:=hI h;clear h;have HE:Hid (∀b,(b=true↔(0≤id∧id≤99∧0<f id.toNat))→b=decide (0≤id∧id≤99∧0<f id.toNat)):=fun b hb=>by rw[Bool.eq_iff_iff,hb];simp
 generalize decide (0≤id∧id≤99∧0<f id.toNat)=B at *;by_cases h1:0≤id∧id≤99
 ·obtain⟨n,rfl⟩:=Int.eq_ofNat_of_zero_le h1.1;have h0:n<100:=by omega
  have hc:=HC.2 n h0;have i1:(n:Int)<100:=by omega
  go_enter Tryz.func379,Tryz.ntmps379;go_wp2_with fail;go_ret;exact⟨zab (HE _ (by simp;omega)),jal⟩
 ·by_cases h2:0≤id
  ·have t2:decide (id≤99)=false:=(by simp;omega);clear h1;go_enter Tryz.func379,Tryz.ntmps379;go_wp2_with fail;go_ret;exact⟨zab (HE _ (by simp at t2;simp;omega)),jal⟩
  ·have t1:decide (0≤id)=false:=(by simpa using h2);clear h1;go_enter Tryz.func379,Tryz.ntmps379;go_wp2_with fail;go_ret;exact⟨zab (HE _ (by simp at t1;simp;omega)),jal⟩
def IntRow (W:World) (g n:Nat) (T:TypeId) (f:Nat→Int):Prop:= ∃cur:Array Value,jk W g cur T∧cur.size=n∧ ∀q,q<n→cur[q]? =some (.int .i64 (f q))
section
variable {W W':World}{g n:Nat}{T:TypeId}{f:Nat→Int}
theorem IntRow.lt (h:IntRow W g n T f):g<W.heap.size:=by
 obtain⟨cur,hc,-,-⟩:=h;rcases Nat.lt_or_ge g W.heap.size with h | h
 ·exact h
 ·rw[Array.getElem?_eq_none h]at hc;cases hc
theorem IntRow.cell (h:IntRow W g n T f){q:Nat}(hq:q<n):jc W g q (.int .i64 (f q)):=by
 obtain⟨cur,hc,-,hx⟩:=h;rw[cell_of_row W g q cur T _ hc];exact hx q hq
theorem IntRow.frozen (h:IntRow W g n T f) (q:Nat):W.frozen? ⟨g,q,none⟩=false:=by
 obtain⟨cur,hc,-,-⟩:=h;simp[World.frozen?,hc]
theorem IntRow.below (h:IntRow W g n T f) (hb:jb W W'):IntRow W' g n T f:=by
 have hl:=h.lt;obtain⟨cur,hc,hs,hx⟩:=h;exact⟨cur,(hb.block g hl).trans hc,hs,hx⟩
theorem IntRow.set (h:IntRow W g n T f){q:Nat}(hq:q<n) (b:Int):IntRow (W.setCell ⟨g,q,none⟩ (.int .i64 b)) g n T (fun i=>if i=q then b else f i):=by
 obtain⟨cur,hc,hs,hx⟩:=h;refine⟨cur.setIfInBounds q (.int .i64 b),by simp[World.setCell,Array.getElem?_modify,hc],by simp[hs],fun i hi=> ?_⟩;rw[Array.getElem?_setIfInBounds];by_cases hiq:q=i
 ·subst hiq;simp[hs,hq]
 ·rw[if_neg hiq];simp only[if_neg (Ne.symm hiq)];exact hx i hi
theorem IntRow.new (W:World) (cs:Array Value) (T:TypeId) (hs:cs.size=n) (hx: ∀q,q<n→cs[q]? =some (.int .i64 0)):IntRow (W.alloc (.cells cs T)) W.heap.size n T (fun _=>0):=⟨cs,heap_alloc_new W _,hs,hx⟩
theorem IntRow.congr (h:IntRow W g n T f){f':Nat→Int}(he: ∀q,q<n→f q=f' q):IntRow W g n T f':=by
 obtain⟨cur,hc,hs,hx⟩:=h;exact⟨cur,hc,hs,fun q hq=>by rw[←he q hq];exact hx q hq⟩
end
theorem zhu:Tryz.zeroCells168=Array.replicate 100 (.int .i64 0):=by kernel_rfl
theorem zkg (q:Nat) (h:q<100):Tryz.zeroCells168[q]? =some (.int .i64 0):=by rw[zhu];simp[h]
def zax (l:List Sec) (k:Nat) (q:Nat):Int:=match (l.take k).find? (fun s=>decide (s.id=(q:Int)))with | some s=>s.ends.length | none=>0
theorem zsi (l:List Sec) (q:Nat):zax l 0 q=0:=by unfold zax;simp
theorem zsj {l:List Sec}{k:Nat}(h:k<l.length) (hr:zg1 l) (p:Nat) (hp:l[k].id=(p:Int)) (q:Nat):(if q=p then(l[k].ends.length:Int)else zax l k q)=zax l (k+1) q:=by
 unfold zax;have e:l.take (k+1)=l.take k++[l[k]]:=List.take_succ_eq_append_getElem h;rw[e,List.find?_append];by_cases hq:q=p
 ·subst hq;rw[if_pos rfl]
  have hn:(l.take k).find? (fun s=>decide (s.id=(q:Int)))=none:=by
   rw[List.find?_eq_none];intro x hx;obtain⟨i,hi,rfl⟩:=List.getElem_of_mem hx;rw[List.length_take]at hi;rw[List.getElem_take];have:=hr i k (by omega) h (by omega);simp;omega
  rw[hn];simp[hp]
 ·rw[if_neg hq]
  have hn:[l[k]].find? (fun s=>decide (s.id=(q:Int)))=none:=by
   rw[List.find?_eq_none];intro x hx;rw[List.mem_singleton]at hx;subst hx;simp;omega
  rw[hn];cases (l.take k).find? (fun s=>decide (s.id=(q:Int)))<;>rfl
theorem zhv:(Tryz.prog.info? 168).map (·.size)=some 100:=by kernel_rfl
theorem zsk (a:Option Addr) (cap:Nat) (l:List Sec) (w:World) (hl:SlA w 3 zas a cap l) (hm:l.length≤1000) (hA:za4 l l.length):
  Calls Tryz.prog 296 #[js a l.length cap] w fun e w'=> ∃cs,e= .returned (.agg cs)∧IntArr cs (zax l l.length)∧jb w w':=by
 have HL:Hid (∀w',jb w w'→SlA w' 3 zas a cap l):=fun w' hb=>hl.below zbo hb;have HA:=hI hA;clear hl hA;go_enter Tryz.func296,Tryz.ntmps296;go_wp2_with fail;have hR0:IntRow (w.alloc (.cells Tryz.zeroCells168 168)) w.heap.size 100 168 (zax l 0):=(IntRow.new w _ _ (by rw[zhu];simp) zkg).congr fun q _=>(zsi l q).symm;have HR0:=hI hR0;clear hR0;go_loopg [7] l.length (fun g i wr=> ∃k:Nat,k≤l.length∧g=l.length-k∧i= .int .i64 k∧jb w wr∧IntRow wr w.heap.size 100 168 (zax l k))
 case atStart=>exact⟨0,by omega,by omega,rfl,jal,HR0⟩
 case round=>
  obtain⟨k,hk,rfl,rfl,hb,hR⟩:=hrel;obtain⟨wo,rfl⟩: ∃wo:World,wo=wr:=⟨_,rfl⟩;have HB:=hI hb;have HR:=hI hR;clear hb hR;by_cases hlt:k<l.length
  ·obtain⟨b,off,a',c',rfl,x0,x1,x2,hends⟩:=(HL _ HB).sec hlt;have c0:(0:Int)≤(k:Int):=(by omega);have c1:(k:Int)<(l.length:Int):=(by omega);have lw:=HR.lt;have hid:=(HA k hlt hlt).1
   have HST:Hid (∀W',IntRow W' w.heap.size 100 168 (zax l k)→IntRow (W'.setCell ⟨w.heap.size,l[k].id.toNat,none⟩ (.int .i64 (l[k].ends.length:Int))) w.heap.size 100 168 (zax l (k+1))):=fun W' h=>by
    refine(h.set (q:=l[k].id.toNat) (by omega) _).congr fun q hq=> ?_;exact zsj hlt (zkb HA) l[k].id.toNat (by omega) q
   have p0:(0:Int)≤l[k].id:=(by omega);have p1:l[k].id<100:=(by omega);have v2:=HR.cell (q:=l[k].id.toNat) (by omega);have v3:=HR.frozen l[k].id.toNat;clear hends hid;go_wp2_with fail;go_roundg (l.length-(k+1))
   case measure=>go_light;omega
   case rel=>go_light;exact⟨k+1,by omega,by omega,by go_num,(HB.setCell (Nat.le_refl _) _).alloc (HB.setCell (p:=⟨w.heap.size,l[k].id.toNat,none⟩) (Nat.le_refl _) (.int .i64 (l[k].ends.length:Int))).size _,(HST _ HR).below jal⟩
  ·obtain rfl:k=l.length:=(by omega);obtain⟨cur,hc,hs,hx⟩:=HR.out;have HC:=hI hc;have HX:Hid (IntArr cur (zax l l.length)):=⟨hs,hx⟩;have HS:=hI hs;clear hc hs hx;go_wp2_with fail;exact bodyPost_ret (v:= .agg cur) (results_cell_row rfl _ _ _ _ _ _ _ rfl HC Tryz.underlying168 rfl (by rw[zhv,HS.out])) rfl ⟨cur,rfl,HX,HB⟩
theorem zsl:zdb 377:=fun args w=>by simp[go_sem]
theorem zsm (x:Pt) (g:Nat) (f:Nat→Int) (w:World) (hr:IntRow w g 100 168 f) (h1:1≤x.id) (h2:x.id≤99):
  Calls Tryz.prog 377 #[.agg #[x.id,x.sec],jp g 0] w (zae w (decide (x.sec=0∨f x.id.toNat≠x.sec))):=by
 obtain⟨id,sec⟩:=x;simp only[]at h1 h2 ⊢;obtain⟨n,rfl⟩:=Int.eq_ofNat_of_zero_le (show 0≤id by omega);have hc:=hr.cell (q:=n) (by omega);have hl:=hr.lt;have hne:w.heap.size≠g:=by omega
 have HE:Hid (∀b,(b=true↔(sec=0∨f n≠sec))→b=decide (sec=0∨f ((n:Int)).toNat≠sec)):=fun b hb=>by rw[Bool.eq_iff_iff,hb];simp
 have i0:(0:Int)≤(n:Int):=by omega
 have i1:(n:Int)<100:=by omega
 generalize decide (sec=0∨f ((n:Int)).toNat≠sec)=B at *;generalize f n=v at *;clear hr;by_cases h0:sec=0
 ·have e0:(sec==0)=true:=by rw[beq_iff_eq];exact h0
  have HB:=hI (HE true (by simp[h0]));clear h0;go_enter Tryz.func377,Tryz.ntmps377;go_wp2_with fail;go_quiet (fail);go_wp2_with fail;go_ret;exact⟨zab HB,zb6 jal _⟩
 ·have e0:(sec==0)=false:=by rw[beq_eq_false_iff_ne];exact h0
  have HB:=hI (HE (v != sec) (by simp[h0]));clear h0;go_enter Tryz.func377,Tryz.ntmps377;go_wp2_with fail;go_quiet (fail);go_wp2_with fail;go_ret;exact⟨zab HB,zb6 jal _⟩
theorem zsn {p:Pl}(hA:za4 p.S p.S.length) (hR:zat Pt.id p.P p.P.length) (hm:(p.P.length:Int)≤6):
  zcf p↔(zbj p.S p.S.length=p.P.length∧p.P.any (fun x=>decide (x.sec=0∨zcl p.S p.S.length x.id.toNat≠x.sec))=false):=by
 unfold zcf;rw[List.any_eq_false]
 have key: ∀i (h:i<p.P.length),(∃s∈p.S,s.id=p.P[i].sec∧s.pt=p.P[i].id)↔ ¬(decide (p.P[i].sec=0∨zcl p.S p.S.length p.P[i].id.toNat≠p.P[i].sec)=true):=by
  intro i h;have hid:=(hR i h h).1;have:=zqz hA p.P[i].id.toNat (by omega) p.P[i].sec;rw[show((p.P[i].id.toNat:Nat):Int)=p.P[i].id by omega]at this;rw[←this];simp
 constructor
 ·rintro⟨_,h1,h2⟩;refine⟨h1,fun x hx=> ?_⟩;obtain⟨i,hi,rfl⟩:=List.getElem_of_mem hx;exact(key i hi).1 (h2 i hi)
 ·rintro⟨h1,h2⟩;exact⟨⟨hR,hm⟩,h1,fun i hi=>(key i hi).2 (h2 _ (List.getElem_mem hi))⟩
theorem zso (p:Pl) (s q g r:Value) (w:World) (hp:PlM w s q g r p) (hf:p.Fit) (hA:za4 p.S p.S.length):
  Calls Tryz.prog 297 #[plV p s q g r] w (zae w (decide (zcf p))):=by
 have HP:Hid (∀w',jb w w'→PlM w' s q g r p):=fun w' hb=>hp.below hb;have HF:=hI hf;have HA:=hI hA;obtain⟨⟨a1,c1,rfl,k1⟩,⟨a2,c2,rfl,k2⟩,⟨a3,c3,rfl,k3⟩,⟨a4,c4,rfl,k4⟩⟩:=hp;have HS:Hid (∀w',jb w w'→SlA w' 3 zas a1 c1 p.S):=fun w' hb=>k1.below zbo hb;have HQ:Hid (∀w',jb w w'→SlA w' 2 RPt a2 c2 p.P):=fun w' hb=>k2.below zct hb;have HN:Hid (decide (zat Pt.id p.P p.P.length∧(p.P.length:Int)≤6)=false→decide (zcf p)=false):=fun h=>decide_eq_false fun h'=>(decide_eq_false_iff_not.1 h) h'.1
 have HI:Hid (decide (zat Pt.id p.P p.P.length∧(p.P.length:Int)≤6)=true→(zcf p↔(zbj p.S p.S.length=p.P.length∧p.P.any (fun x=>decide (x.sec=0∨zcl p.S p.S.length x.id.toNat≠x.sec))=false))):=fun h=>by
  have h:=decide_eq_true_iff.1 h;exact zsn hA h.1 h.2
 have HRI:Hid (decide (zat Pt.id p.P p.P.length∧(p.P.length:Int)≤6)=true→zat Pt.id p.P p.P.length):=fun h=>(decide_eq_true_iff.1 h).1;have HB2:Hid (∀b,(b=true↔zcf p)→decide (zcf p)=b):=fun b hb=>by rw[Bool.eq_iff_iff,decide_eq_true_iff];exact hb.symm
 have hs:=hf.S;have hq:=hf.P;clear k1 k2 k3 k4 hf hA;unfold plV;generalize decide (zcf p)=B at *;go_enter Tryz.func297,Tryz.ntmps297;go_wp2_with fail;have K0:Hid (jb w (w.alloc (.cells #[p.ver,p.par,js a1 p.S.length c1,js a2 p.P.length c2,js a3 p.G.length c3,js a4 p.R.length c4] 28))):=jal;refine(zsf a2 c2 p.P 6 _ (HQ _ K0) hq).mono ?_;rintro e w1 ⟨rfl,hb1⟩;have K1:=jh K0 hb1;have f2:jc w1 w.heap.size 2 (js a1 p.S.length c1):=zac hb1 (by simp);have f3:jc w1 w.heap.size 3 (js a2 p.P.length c2):=zac hb1 (by simp);clear hb1;cases hri:decide (zat Pt.id p.P p.P.length∧(p.P.length:Int)≤6)with
 | false=>
  have HE:=hI (HN hri);go_wp2_with fail;go_ret;exact⟨zab HE.symm,K1⟩
 | true=>
  have HII:=hI (HI hri);have HRR:=hI (HRI hri);clear hri;have l1:=World.block_lt_of_cell? _ _ f2;go_wp2_with fail;have KA:Hid (jb w (w1.alloc (.cells Tryz.zeroCells168 168))):=K1.alloc (K1.size) _;have KS:=hI K1.out.size;have hR0:IntRow (w1.alloc (.cells Tryz.zeroCells168 168)) w1.heap.size 100 168 (zcl p.S 0):=(IntRow.new w1 _ _ (by rw[zhu];simp) zkg).congr fun q _=>(zqw p.S q).symm;have HR0:=hI hR0;have H3:Hid (∀W',jb w1 W'→jc W' w.heap.size 3 (js a2 p.P.length c2)):=fun W' hb=>zac hb f3;clear hR0;have hlen:=hs;go_loopg [4,14] p.S.length (fun g m i wr=> ∃k:Nat,k≤p.S.length∧g=p.S.length-k∧i= .int .i64 k∧m= .int .i64 (zbj p.S k)∧jb w1 wr∧IntRow wr w1.heap.size 100 168 (zcl p.S k))
  case atStart=>exact⟨0,by omega,by omega,rfl,by rw[zl2];rfl,jal,HR0⟩
  case round=>
   obtain⟨k,hk,rfl,rfl,rfl,hb,hR⟩:=hrel;obtain⟨wo,rfl⟩: ∃wo:World,wo=wr:=⟨_,rfl⟩;have HB:=hI hb;have HBW:=jh K1 hb;have HR:=hI hR;clear hb hR;by_cases hlt:k<p.S.length
   ·have hdk:decide ((k:Int)<(p.S.length:Int))=true:=(by simp;omega);obtain⟨b,off,a',c',rfl,x0,x1,x2,hends⟩:=(HS _ HBW).sec hlt;have c0:(0:Int)≤(k:Int):=(by omega);have c1:(k:Int)<(p.S.length:Int):=(by omega);have l2:=World.block_lt_of_cell? _ _ x0;have lw:=HR.lt;have hid:=(HA k hlt hlt).1;have hcs:=zl3 hlt;have hcl:=zih p.S k;have HA2:=hI HA.out;rcases hid.2.2 with⟨hz,-⟩ | ⟨hp1,hp2,-⟩
    ·have t0:decide ((0:Int)<p.S[k].pt)=false:=(by simp;omega);have HST:Hid (∀W',IntRow W' w1.heap.size 100 168 (zcl p.S k)→IntRow W' w1.heap.size 100 168 (zcl p.S (k+1))):=fun W' h=>h.congr fun q _=>zqx hlt (by omega) q;have HC:Hid (zbj p.S (k+1)=zbj p.S k):=(by rw[hcs,if_neg (by omega)];rfl);clear hcs hid hz;generalize zbj p.S k=c at *;go_wp2_with fail;go_roundg (p.S.length-(k+1))
     case measure=>go_light;omega
     case rel=>go_light;exact⟨k+1,by omega,by omega,by go_num,by rw[HC.out],HB.alloc HB.size _,(HST _ HR).below jal⟩
    ·have t0:decide ((0:Int)<p.S[k].pt)=true:=by simp;omega
     have HST:Hid (∀W',IntRow W' w1.heap.size 100 168 (zcl p.S k)→IntRow (W'.setCell ⟨w1.heap.size,p.S[k].pt.toNat,none⟩ ↑p.S[k].id) w1.heap.size 100 168 (zcl p.S (k+1))):=fun W' h=>by
      refine(h.set (q:=p.S[k].pt.toNat) (by omega) _).congr fun q hq=> ?_;exact zqy hlt HA p.S[k].pt.toNat (by omega) (by omega) q
     have HC:Hid (zbj p.S (k+1)=zbj p.S k+1):=(by rw[hcs,if_pos (by omega)];rfl);have p0:(0:Int)≤p.S[k].pt:=(by omega);have p1:p.S[k].pt<100:=(by omega);have v2:=HR.cell (q:=p.S[k].pt.toNat) (by omega);have v3:=HR.frozen p.S[k].pt.toNat;clear hcs hid;generalize zbj p.S k=c at *;go_wp2_with fail;go_roundg (p.S.length-(k+1))
     case measure=>go_light;omega
     case rel=>go_light;exact⟨k+1,by omega,by omega,by go_num,by rw[HC.out];go_num,(HB.setCell (Nat.le_refl _) _).alloc (HB.setCell (p:=⟨w1.heap.size,p.S[k].pt.toNat,none⟩) (Nat.le_refl _) ↑p.S[k].id).size _,(HST _ HR).below jal⟩
   ·obtain rfl:k=p.S.length:=(by omega);have hdk:decide ((p.S.length:Int)<(p.S.length:Int))=false:=(by simp);have f3':=H3 _ HB;have hcl:=zih p.S p.S.length;by_cases hc:zbj p.S p.S.length=p.P.length
    ·have HQ':=hI (HQ _ HBW)
     have HSY:Hid (zhs 377 #[jp w1.heap.size 0] (fun x=>decide (x.sec=0∨zcl p.S p.S.length x.id.toNat≠x.sec)) p.P wo):=fun W i h hb=>
      zsm p.P[i] _ _ W (HR.below hb) (HRR i h h).1.1 (HRR i h h).1.2
     have HZ:Hid (B= !(p.P.any (fun x=>decide (x.sec=0∨zcl p.S p.S.length x.id.toNat≠x.sec)))):=HB2 _ (by rw[HII.out];simp[hc]);rw[hc]at *;clear hc;generalize(fun x:Pt=>decide (x.sec=0∨zcl p.S p.S.length x.id.toNat≠x.sec))=pr at *;go_wp2_with fail;refine(zsa 377 #[jp w1.heap.size 0] pr a2 c2 p.P _ HQ' hq zsl HSY).mono ?_;rintro e w2 ⟨rfl,hb2⟩;have KZ:=jh HBW hb2;clear hb2;generalize p.P.any pr=c at *;go_wp2_with fail;go_ret;exact⟨zab HZ.symm,KZ⟩
    ·have e0:((zbj p.S p.S.length:Int)==(p.P.length:Int))=false:=(by rw[beq_eq_false_iff_ne];omega);have HZ:Hid (B=false):=HB2 false (by rw[HII.out];simp[hc]);clear hc;generalize zbj p.S p.S.length=c at *;go_wp2_with fail;go_ret;exact⟨zab HZ.symm,HBW⟩
end Go.Proofs.YtbiehpjhhopjaaaGreat
