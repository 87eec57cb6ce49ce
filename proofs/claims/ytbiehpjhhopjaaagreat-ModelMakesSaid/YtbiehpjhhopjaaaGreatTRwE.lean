/-
 A route's sections,and the references' word on a route,walked. (Written by wip/tools/gen_rwd.py.)
-/
import Derived.Test.YtbiehpjhhopjaaaGreatTRwC
set_option linter.unusedVariables false
set_option linter.unusedSimpArgs false
set_option maxRecDepth 100000
set_option maxHeartbeats 16000000
namespace Go.Proofs.YtbiehpjhhopjaaaGreat
open Go.RowKit Go.Sort
def zjg (w:World) (l:List Int) (e:Ending) (w':World):Prop:= ∃a c,e= .returned (js a l.length c)∧IntOwn w' w.heap.size (js a l.length c) l∧jb w w'
theorem zfs (w:World) (B:Nat):IntOwn w B (.slice none 0 0) []:=World.ownsRow_nil w B 3 1
theorem zlg (r:Rt) (p1 o1 f1:Option Addr) (p3 o3 f3:Nat) (w:World) (hr:RtM w (js p1 r.A.length p3) (js o1 r.O.length o3) (js f1 r.fl.length f3) r) (hl:r.A.length+r.O.length≤17592186044416):
  Calls Tryz.prog 312 #[.agg #[r.id,r.E,r.X,js p1 r.A.length p3,js o1 r.O.length o3,js f1 r.fl.length f3,r.T]] w (zjg w (zaa r)):=by
 have HP:Hid (∀W,jb w W→IL W p1 r.A.length r.A):=fun W hb=>by
  obtain⟨a,n,c,e,h⟩:=hr.A.below hb;cases e;exact h
 have HO:Hid (∀W,jb w W→IL W o1 r.O.length r.O):=fun W hb=>by
  obtain⟨a,n,c,e,h⟩:=hr.O.below hb;cases e;exact h
 clear hr;go_enter Tryz.func312,Tryz.ntmps312;go_upto_region 1 with fail;generalize hW0:World.alloc _ _=W0;have K0:Hid (jb w W0):=by show Below _ _ _;rw[←hW0];exact jal
 have s0:W0.heap.size=w.heap.size+1:=by rw[←hW0];simp
 have y3:jc W0 w.heap.size 3 (js p1 r.A.length p3):=by rw[←hW0];simp
 have y4:Hid (jc W0 w.heap.size 4 (js o1 r.O.length o3)):=by show _=_;rw[←hW0];simp
 have HS0:=hI s0;clear hW0 s0;have hle:=HS0.out;have hlen:([]:List Int).length+r.A.length≤17592186044416:=by simp;omega
 have hbs:W0.heap.size≤W0.heap.size:=Nat.le_refl _;go_upto_region 3 with(at_builtin;refine zgk rfl _ _ rfl W0.heap.size (.slice none 0 0) [] rfl (zfs _ _) p1 p3 r.A rfl (HP _ K0) hlen hbs ?_;intro a3 c3 w3 hown hgr);have hb3:jb W0 w3:=zcw (zfs W0 W0.heap.size) (Nat.le_refl _) (Nat.le_refl _) hgr;rw[List.nil_append]at hown;have K3:Hid (jb w w3):=K0.trans (hb3.mono (by omega));have z4:jc w3 w.heap.size 4 (js o1 r.O.length o3):=zac hb3 y4;have HO3:=hI hown;have hbs3:W0.heap.size≤w3.heap.size:=hb3.size;clear hown hgr hb3 y3 hbs hlen;go_wp2_with (at_builtin;refine zgk rfl _ _ rfl W0.heap.size (js a3 r.A.length c3) r.A rfl HO3 o1 o3 r.O rfl (HO _ K3) hl hbs3 ?_;intro a4 c4 w4 hown4 hgr4);have hb4:Below W0.heap.size w3 w4:=zcw HO3 (Nat.le_refl _) hbs3 hgr4;go_ret;refine⟨a4,c4,?_,zav hown4 (by omega),K3.trans (hb4.mono (by omega))⟩;rw[zes];rfl
def AtR (p:Pl) (e:Int) (l:List Int) (j:Nat) (h:j<l.length):Prop:=(∃m,∃hm:m<p.S.length,fix (fun x=>decide (x.id=l[j])) p.S=(m:Int))∧l[j]≠e∧ ∀m (hm:m<j),l[m]≠l[j]
def FlR (p:Pl) (l:List Fl) (j:Nat) (h:j<l.length):Prop:=(∃m,∃hm:m<p.P.length,fix (fun x=>decide (x.id=l[j].pt)) p.P=(m:Int))∧(∀h':0<j,l[j-1].pt<l[j].pt)∧1≤l[j].lie∧l[j].lie≤2
theorem fixp_of {α:Type}{f:α→Int}{l:List α}{n:Int}:za2 f l n=true↔ ∃m,∃hm:m<l.length,fix (fun x=>decide (f x=n)) l=(m:Int):=by
 constructor
 ·intro h;rcases zce (fun x=>decide (f x=n)) l with⟨_,h2⟩ | ⟨k,hk,e,h1,_⟩
  ·unfold za2 at h;rw[List.any_eq_true]at h;obtain⟨x,hx,e⟩:=h;obtain⟨i,hi,rfl⟩:=List.getElem_of_mem hx;rw[h2 i hi]at e;cases e
  ·exact⟨k,hk,e⟩
 ·rintro⟨m,hm,e⟩;rcases zce (fun x=>decide (f x=n)) l with⟨e',_⟩ | ⟨k,hk,e',h1,_⟩
  ·rw[e']at e;omega
  ·unfold za2;rw[List.any_eq_true];exact⟨l[k],List.getElem_mem _,h1⟩
theorem zw0 {p:Pl}(hA:za4 p.S p.S.length){r:Rt}{k:Nat}(hk:k<p.G.length) (hF:fix (fun x=>decide (x.id=r.E)) p.G=(k:Int)):
  zb2 (zax p.S p.S.length) p.G p.P r↔zd8 p.G r∧(∀j (h:j<(zaa r).length),AtR p p.G[k].sec (zaa r) j h)∧ ∀j (h:j<r.fl.length),FlR p r.fl j h:=by
 have he:zhk p.G r=p.G[k].sec:=by
  unfold zhk;rcases zce (fun x:Sg=>decide (x.id=r.E)) p.G with⟨e,_⟩ | ⟨m,hm,e,h1,h2⟩
  ·rw[e]at hF;omega
  ·have:m=k:=(by rw[e]at hF;omega);subst this;rw[(zfy hm h1 h2).1]
 unfold zb2;rw[he];refine and_congr Iff.rfl (and_congr ?_ ?_)
 ·constructor
  ·intro h j hj;obtain⟨h1,h2,h3⟩:=h j hj hj;exact⟨fixp_of.1 (zi7 h1),h2,h3⟩
  ·intro h j hj _;obtain⟨h1,h2,h3⟩:=h j hj;exact⟨zn3 hA (fixp_of.2 h1),h2,h3⟩
 ·constructor
  ·intro h j hj;obtain⟨h1,h2,h3⟩:=h j hj hj;exact⟨fixp_of.1 h1,h2,by omega,by omega⟩
  ·intro h j hj _;obtain⟨h1,h2,h3,h4⟩:=h j hj;exact⟨fixp_of.2 h1,h2,by omega⟩
def ze6 (l:List Sg) (r:Rt):Prop:=za2 Sg.id l r.E=true∧(r.X≠0→za2 Sg.id l r.X=true∧r.X≠r.E)∧(r.X=0→r.O.length=0)
instance (l:List Sg) (r:Rt):Decidable (ze6 l r):=by unfold ze6;exact inferInstance
theorem zf8 {B:Nat}{w w':World}(h:w=w'):Below B w w':=by subst h;exact Below.refl _ _
theorem zw1 (p:Pl) (s q gg rr:Value) (r:Rt) (c5 c6 c7:Value) (w:World) (hp:PlM w s q gg rr p) (hf:p.Fit) (hA:za4 p.S p.S.length) (hr:RtM w c5 c6 c7 r) (hrf:r.fit):
  Calls Tryz.prog 215 #[plV p s q gg rr,.agg #[r.id,r.E,r.X,c5,c6,c7,r.T]] w (zae w (decide (zb2 (zax p.S p.S.length) p.G p.P r))):=by
 have HH0:Hid (¬zd8 p.G r→decide (zb2 (zax p.S p.S.length) p.G p.P r)=false):=fun h=>by
  rw[decide_eq_false_iff_not];exact fun hh=>h hh.1
 have HREF:Hid (∀k (hk:k<p.G.length),fix (fun x=>decide (x.id=r.E)) p.G=(k:Int)→(zb2 (zax p.S p.S.length) p.G p.P r↔zd8 p.G r∧(∀j (h:j<(zaa r).length),AtR p p.G[k].sec (zaa r) j h)∧ ∀j (h:j<r.fl.length),FlR p r.fl j h)):=fun k hk h=>zw0 hA hk h;have HB:Hid (∀b:Bool,(b=true↔zb2 (zax p.S p.S.length) p.G p.P r)→decide (zb2 (zax p.S p.S.length) p.G p.P r)=b):=fun b h=>by rw[Bool.eq_iff_iff,h,decide_eq_true_iff]
 have HH1:Hid (zd8 p.G r↔ze6 p.G r∧1≤r.A.length∧r.A.length≤6∧r.O.length≤2∧r.fl.length≤3∧1≤r.T∧r.T≤9):=by
  show _↔_;unfold zd8 ze6;constructor
  ·rintro⟨h1,h2,h3,h4⟩;exact⟨⟨h1,h2,h3⟩,h4⟩
  ·rintro⟨⟨h1,h2,h3⟩,h4⟩;exact⟨h1,h2,h3,h4⟩
 generalize decide (zb2 (zax p.S p.S.length) p.G p.P r)=B at *;obtain⟨p1,pn,p3,rfl,ip⟩:=hr.A;obtain⟨o1,on,o3,rfl,io⟩:=hr.O;obtain rfl:=ip.len;obtain rfl:=io.len;obtain⟨f1,f3,rfl,hfl⟩:=hr.fl;have HFL:Hid (∀W,jb w W→SlA W 2 RFl f1 f3 r.fl):=fun W hb=>hfl.below zgi hb;have HRM:Hid (∀W,jb w W→RtM W (js p1 r.A.length p3) (js o1 r.O.length o3) (js f1 r.fl.length f3) r):=fun W hb=>hr.below hb;obtain⟨a1,k1,rfl,h1⟩:=hp.S;obtain⟨a2,k2,rfl,h2⟩:=hp.P;obtain⟨a3,k3,rfl,h3⟩:=hp.G;obtain⟨a4,k4,rfl,-⟩:=hp.R;have HSE:Hid (∀W,jb w W→SlA W 3 zas a1 k1 p.S):=fun W hb=>h1.below zbo hb;have HPT:Hid (∀W,jb w W→SlA W 2 RPt a2 k2 p.P):=fun W hb=>h2.below zct hb;have HSG:Hid (∀W,jb w W→SlA W 3 RSg a3 k3 p.G):=fun W hb=>h3.below zcu hb;have LS:=hI hf.S;have LP:=hI hf.P;have LG:=hI hf.G;have hrf1:=hrf.1;have hrf2:=hrf.2.1;have hrf3:=hrf.2.2;clear hp hf hA hr hrf hfl h1 h2 h3 ip io;unfold plV;go_enter Tryz.func215,Tryz.ntmps215;go_upto_region 1 with fail;generalize hW0:World.alloc _ _=W0;have K0:Hid (jb w W0):=by show Below _ _ _;rw[←hW0];exact jal.alloc (by simp) _
 have BX0:Hid (jk W0 w.heap.size #[p.ver,p.par,js a1 p.S.length k1,js a2 p.P.length k2,js a3 p.G.length k3,js a4 p.R.length k4] 28∧jk W0 (w.heap.size+1) #[r.id,r.E,r.X,js p1 r.A.length p3,js o1 r.O.length o3,js f1 r.fl.length f3,r.T] 102):=by
  show _∧_;rw[←hW0];exact⟨(heap_alloc_old _ _ (by simp)).trans (heap_alloc_new _ _),heap_alloc2_new _ _ _⟩
 clear hW0;have pp4:jc W0 w.heap.size 4 (js a3 p.G.length k3):=jr (BX0).1;have rr1:jc W0 (w.heap.size+1) 1 r.E:=jr (BX0).2;have rr2:jc W0 (w.heap.size+1) 2 r.X:=jr (BX0).2;have rr4:jc W0 (w.heap.size+1) 4 (js o1 r.O.length o3):=jr (BX0).2;have lb:=block_lt_of_cell pp4;have lr:=block_lt_of_cell rr1;have hsg:=LG.out;have HC1:Hid (∀b:Bool,(b=true↔ ¬ze6 p.G r)→b= !decide (ze6 p.G r)):=fun b h=>by rw[Bool.eq_iff_iff,h];simp
 have HIF:Hid (∀n,za2 Sg.id p.G n=true↔ ∃m,∃hm:m<p.G.length,fix (fun x=>decide (x.id=n)) p.G=(m:Int)):=fun n=>fixp_of;have HCD:Hid (ze6 p.G r↔za2 Sg.id p.G r.E=true∧(r.X≠0→za2 Sg.id p.G r.X=true∧r.X≠r.E)∧(r.X=0→r.O.length=0)):=Iff.rfl;have HDC:Hid (decide (ze6 p.G r)=true↔ze6 p.G r):=decide_eq_true_iff;generalize hC:decide (ze6 p.G r)=D at *;clear hC;go_wp2_with fail;refine(zgz a3 k3 p.G r.E W0 (HSG _ K0) hsg).mono ?_;rintro e w' ⟨rfl,rfl⟩;have hfc:=hI (zce (fun x:Sg=>decide (x.id=r.E)) p.G);generalize hF:fix (fun x:Sg=>decide (x.id=r.E)) p.G=F at *;have HFF:=hI hF;clear hF;have hfx:=hI (zce (fun x:Sg=>decide (x.id=r.X)) p.G);go_upto_region 2 with fail;go_cut [48]from 16 to 48 (fun v wc=>v= .bool (!D)∧wc=W0)
 case first=>
  rcases hfc.out with⟨hF1,hF2⟩ | ⟨k,hk,hF1,hF2,hF3⟩
  ·subst hF1;have HV:=hI (HC1 true (by rw[HCD.out];simp only[true_iff];rintro⟨h1,_⟩;obtain⟨m,hm,e⟩:=(HIF _).1 h1;rw[HFF.out]at e;omega));go_wp2_with fail;go_meet
   case rel=>exact⟨by rw[HV.out],rfl⟩
  ·subst hF1;have u1:decide ((k:Int)<0)=false:=(by simp);have HE1:Hid (za2 Sg.id p.G r.E=true):=(HIF _).2 ⟨k,hk,HFF⟩;by_cases hx:r.X=0
   ·have e1:(r.X != 0)=false:=(by simp[hx]);have e2:(r.X==0)=true:=(by simp[hx]);by_cases ho:r.O.length=0
    ·have o1':((r.O.length:Int) != 0)=false:=(by simp[ho]);have HV:=hI (HC1 false (by rw[HCD.out];simp only[Bool.false_eq_true,false_iff,Classical.not_not];exact⟨HE1,fun h=>absurd hx h,fun _=>ho⟩));clear hx ho hF2 hF3;go_wp2_with fail;go_meet
     case rel=>exact⟨by rw[HV.out],rfl⟩
    ·have o1':((r.O.length:Int) != 0)=true:=(by simp[ho]);have HV:=hI (HC1 true (by rw[HCD.out];simp only[true_iff];rintro⟨_,_,h⟩;exact ho (h hx)));clear hx ho hF2 hF3;go_wp2_with fail;go_meet
     case rel=>exact⟨by rw[HV.out],rfl⟩
   ·have e1:(r.X != 0)=true:=(by simp[hx]);have e2:(r.X==0)=false:=(by simp[hx]);have HX:=hI hx;clear hx hF2 hF3;rcases hfx.out with⟨hG1,hG2⟩ | ⟨k2',hk2,hG1,hG2,hG3⟩
    ·have HG:=hI hG1;clear hG1 hG2;go_wp2_with fail;refine(zgz a3 k3 p.G r.X W0 (HSG _ K0) hsg).mono ?_;rintro e w' ⟨rfl,rfl⟩;rw[HG.out];have HV:=hI (HC1 true (by rw[HCD.out];simp only[true_iff];rintro⟨_,h,_⟩;obtain⟨m,hm,e⟩:=(HIF _).1 (h HX).1;rw[HG.out]at e;omega));go_wp2_with fail;go_meet
     case rel=>exact⟨by rw[HV.out],rfl⟩
    ·have HG:=hI hG1;clear hG1 hG2 hG3;have u3:decide ((k2':Int)<0)=false:=(by simp);by_cases hxe:r.X=r.E
     ·have u4:(r.X==r.E)=true:=(by rw[beq_iff_eq];exact hxe);have HV:=hI (HC1 true (by rw[HCD.out];simp only[true_iff];rintro⟨_,h,_⟩;exact(h HX).2 hxe));clear hxe;go_wp2_with fail;refine(zgz a3 k3 p.G r.X W0 (HSG _ K0) hsg).mono ?_;rintro e w' ⟨rfl,rfl⟩;rw[HG.out];go_wp2_with fail;go_meet
      case rel=>exact⟨by rw[HV.out],rfl⟩
     ·have u4:(r.X==r.E)=false:=(by rw[beq_eq_false_iff_ne];exact hxe);have HV:=hI (HC1 false (by rw[HCD.out];simp only[Bool.false_eq_true,false_iff,Classical.not_not];exact⟨HE1,fun _=>⟨(HIF _).2 ⟨k2',hk2,HG⟩,hxe⟩,fun h=>absurd h HX⟩));clear hxe;go_wp2_with fail;refine(zgz a3 k3 p.G r.X W0 (HSG _ K0) hsg).mono ?_;rintro e w' ⟨rfl,rfl⟩;rw[HG.out];go_wp2_with fail;go_meet
      case rel=>exact⟨by rw[HV.out],rfl⟩
 case rest=>
  obtain⟨rfl,hw⟩:=hcut;obtain rfl:=hw.symm;clear hw;clear pp4 rr2 rr4 lb hsg;by_cases hc:ze6 p.G r
  ·have hv:(!D)=false:=(by rw[HDC.out.2 hc];rfl);rw[hv];clear hv;have rr3:jc W0 (w.heap.size+1) 3 (js p1 r.A.length p3):=jr (BX0).2;have rr4:jc W0 (w.heap.size+1) 4 (js o1 r.O.length o3):=jr (BX0).2;have rr5:jc W0 (w.heap.size+1) 5 (js f1 r.fl.length f3):=jr (BX0).2;have rr6:jc W0 (w.heap.size+1) 6 r.T:=jr (BX0).2;by_cases h1:r.A.length<1
   ·have t1:decide ((r.A.length:Int)<1)=true:=(by simp only[decide_eq_true_eq];omega);have HE:=hI (HH0 (fun hh=>by have:=HH1.1 hh;omega));clear h1;go_wp2_with fail;go_ret;exact⟨zab HE.symm,K0⟩
   ·have t60:decide ((r.A.length:Int)<1)=false:=(by simp only[decide_eq_false_iff_not];omega);have H60:=hI h1;clear h1;by_cases h1:6<r.A.length
    ·have t1:decide ((6:Int)<(r.A.length:Int))=true:=(by simp only[decide_eq_true_eq];omega);have HE:=hI (HH0 (fun hh=>by have:=HH1.1 hh;omega));clear h1;go_wp2_with fail;go_ret;exact⟨zab HE.symm,K0⟩
    ·have t50:decide ((6:Int)<(r.A.length:Int))=false:=(by simp only[decide_eq_false_iff_not];omega);have H50:=hI h1;clear h1;by_cases h1:2<r.O.length
     ·have t1:decide ((2:Int)<(r.O.length:Int))=true:=(by simp only[decide_eq_true_eq];omega);have HE:=hI (HH0 (fun hh=>by have:=HH1.1 hh;omega));clear h1;go_wp2_with fail;go_ret;exact⟨zab HE.symm,K0⟩
     ·have t40:decide ((2:Int)<(r.O.length:Int))=false:=(by simp only[decide_eq_false_iff_not];omega);have H40:=hI h1;clear h1;by_cases h1:3<r.fl.length
      ·have t1:decide ((3:Int)<(r.fl.length:Int))=true:=(by simp only[decide_eq_true_eq];omega);have HE:=hI (HH0 (fun hh=>by have:=HH1.1 hh;omega));clear h1;go_wp2_with fail;go_ret;exact⟨zab HE.symm,K0⟩
      ·have t30:decide ((3:Int)<(r.fl.length:Int))=false:=(by simp only[decide_eq_false_iff_not];omega);have H30:=hI h1;clear h1;by_cases h1:r.T<1
       ·have t1:decide (r.T<1)=true:=(by simp only[decide_eq_true_eq];omega);have HE:=hI (HH0 (fun hh=>by have:=HH1.1 hh;omega));clear h1;go_wp2_with fail;go_ret;exact⟨zab HE.symm,K0⟩
       ·have t20:decide (r.T<1)=false:=(by simp only[decide_eq_false_iff_not];omega);have H20:=hI h1;clear h1;by_cases h1:9<r.T
        ·have t1:decide ((9:Int)<r.T)=true:=(by simp only[decide_eq_true_eq];omega);have HE:=hI (HH0 (fun hh=>by have:=HH1.1 hh;omega));clear h1;go_wp2_with fail;go_ret;exact⟨zab HE.symm,K0⟩
        ·have t10:decide ((9:Int)<r.T)=false:=(by simp only[decide_eq_false_iff_not];omega);have H10:=hI h1;clear h1;have HHD:Hid (zd8 p.G r):=HH1.2 ⟨hc,by have:=H60.out;omega,by have:=H50.out;omega,by have:=H40.out;omega,by have:=H30.out;omega,by have:=H20.out;omega,by have:=H10.out;omega⟩;have hl8:r.A.length+r.O.length≤1000:=(by have:=H50.out;have:=H40.out;omega);obtain⟨k,hk,hFk⟩:=(HIF _).1 (HCD.1 hc).1;rw[HFF.out]at hFk;subst hFk;have HRF:=hI (HREF k hk rfl);have HBAD1:Hid (∀j (h:j<(zaa r).length),¬AtR p p.G[k].sec (zaa r) j h→B=false):=fun j h hn=>HB false (by simp only[Bool.false_eq_true,false_iff];exact fun hh=>hn ((HRF.1 hh).2.1 j h));have HBAD2:Hid (∀j (h:j<r.fl.length),¬FlR p r.fl j h→B=false):=fun j h hn=>HB false (by simp only[Bool.false_eq_true,false_iff];exact fun hh=>hn ((HRF.1 hh).2.2 j h));have HOK:Hid ((∀j (h:j<(zaa r).length),AtR p p.G[k].sec (zaa r) j h)→(∀j (h:j<r.fl.length),FlR p r.fl j h)→B=true):=fun h1 h2=>HB true (by simp only[true_iff];exact HRF.2 ⟨HHD,h1,h2⟩);clear HRF HREF HB HH0 HH1 HC1 HCD HIF hfc hfx HFF hc;have rr0:jc W0 (w.heap.size+1) 0 r.id:=jr (BX0).2;have rr2:jc W0 (w.heap.size+1) 2 r.X:=jr (BX0).2;have rr3:jc W0 (w.heap.size+1) 3 (js p1 r.A.length p3):=jr (BX0).2;have rr4:jc W0 (w.heap.size+1) 4 (js o1 r.O.length o3):=jr (BX0).2;have rr5:jc W0 (w.heap.size+1) 5 (js f1 r.fl.length f3):=jr (BX0).2;have rr6:jc W0 (w.heap.size+1) 6 r.T:=jr (BX0).2;go_wp2_with fail;refine(zlg r p1 o1 f1 p3 o3 f3 W0 (HRM _ K0) (by omega)).mono ?_;rintro e W1 ⟨aa,ca,rfl,hown,hb1⟩;have hall:(zaa r).length≤1000:=by rw[zes];omega
         have HIL:Hid (∀W,jb W1 W→IL W aa (zaa r).length (zaa r)):=fun W hb=>by
          obtain⟨a,n,c,e,h⟩:=hown.ilv.below hb;cases e;exact h
         have K1:=jh K0 hb1;have BX1:Hid (jk W1 w.heap.size #[p.ver,p.par,js a1 p.S.length k1,js a2 p.P.length k2,js a3 p.G.length k3,js a4 p.R.length k4] 28∧jk W1 (w.heap.size+1) #[r.id,r.E,r.X,js p1 r.A.length p3,js o1 r.O.length o3,js f1 r.fl.length f3,r.T] 102):=⟨(jm hb1 BX0.1),(jm hb1 BX0.2)⟩;have BXW:Hid (∀W,jb W1 W→jk W w.heap.size #[p.ver,p.par,js a1 p.S.length k1,js a2 p.P.length k2,js a3 p.G.length k3,js a4 p.R.length k4] 28∧jk W (w.heap.size+1) #[r.id,r.E,r.X,js p1 r.A.length p3,js o1 r.O.length o3,js f1 r.fl.length f3,r.T] 102):=fun W hb=>⟨(jm hb BX1.1),(jm hb BX1.2)⟩;have KW:Hid (∀W,jb W1 W→jb w W):=fun W hb=>jo K1 hb;generalize hL:zaa r=L at *;clear hown hb1 rr0 rr1 rr2 rr3 rr4 rr5 rr6 lr K0 BX0 hl8 hL t10 t20 t30 t40 t50 t60;go_wp2_with fail;go_loopg [7] L.length (fun g i wr=> ∃k':Nat,k'≤L.length∧g=L.length-k'∧i= .int .i64 k'∧jb W1 wr∧ ∀j (h:j<L.length),j<k'→AtR p p.G[k].sec L j h)
         case atStart=>exact⟨0,by omega,by omega,rfl,Below.refl _ _,fun j h hj=>by omega⟩
         case round=>
          obtain⟨n,hn,rfl,rfl,hb,hno⟩:=hrel;obtain⟨wo,rfl⟩: ∃wo:World,wo=wr:=⟨_,rfl⟩;have HNO:=hI hno;have KO:=hI hb;have KWO:=hI (KW _ hb);have BXO:=hI (BXW _ hb);clear hb hno;by_cases hlt:n<L.length
          ·have pp2:jc wo w.heap.size 2 (js a1 p.S.length k1):=jr (BXO).1;have pp4:jc wo w.heap.size 4 (js a3 p.G.length k3):=jr (BXO).1;have hd1:decide ((n:Int)<(L.length:Int))=true:=(by simp;omega);obtain⟨b,off,hae,x0⟩:=(HIL _ KO).cell n hlt;have HAE:=hI hae;subst hae;have c0:(0:Int)≤(n:Int):=(by omega);have c1:(n:Int)<(L.length:Int):=(by omega);obtain⟨b',off',rfl,s0,s1,s2⟩:=(HSG _ KWO).sg hk;have d0:(0:Int)≤(k:Int):=(by omega);have d1:(k:Int)<(p.G.length:Int):=(by omega);have hR: ∀(d:Nat) (os:Array Obj),jb W1 (grow (redrawn wo d) os):=fun d os=>KO.trans ((below_regrown wo d os).mono KO.size);have HRW:=hI hR;have X0:=cell_regrown x0;have S1:=cell_regrown s1;have P2:=cell_regrown pp2;have P4:=cell_regrown pp4;have hcc:=fun(d:Nat) (os:Array Obj)=>Calls.regrown_of ((zf5 a1 k1 p.S L[n] _ (HSE _ (KW _ (hR d os))) LS).mono fun e w' h=>(⟨h.1,zf8 h.2⟩:e=_∧Below (grow (redrawn wo d) os).heap.size (grow (redrawn wo d) os) w'));have hfc:=hI (zce (fun x:Sec=>decide (x.id=L[n])) p.S);generalize hF:fix (fun x:Sec=>decide (x.id=L[n])) p.S=F at *;have HFF:=hI hF;have cC:=hI hcc;clear hcc hF hR x0 s0 s1 s2 pp2 pp4;rcases hfc.out with⟨hF1,-⟩ | ⟨m,hm,hF1,-,-⟩
           ·subst hF1;have HE:=hI (HBAD1 n hlt (fun hh=>by obtain⟨m,hm,e⟩:=hh.1;rw[HFF.out]at e;omega));clear hfc;go_upto_region 10 with fail;refine wp_region_quiet_below (by kernel_rfl) (by kernel_rfl) ?_
            repeat (go_big_quiet_step ((with_reducible exact cC.out _ _)))
            refine wpQuiet_nil ?_;rintro _ ⟨⟨dq,osq⟩,rfl⟩;go_wp2_with fail;go_ret;exact⟨zab HE.symm,KW _ (HRW dq osq)⟩
           ·subst hF1;have u1:decide ((m:Int)<0)=false:=(by simp);clear hfc;by_cases h3:L[n]=p.G[k].sec
            ·have u2:(L[n]==p.G[k].sec)=true:=(by rw[beq_iff_eq];exact h3);have HE:=hI (HBAD1 n hlt (fun hh=>hh.2.1 h3));clear h3;go_upto_region 10 with fail;refine wp_region_quiet_below (by kernel_rfl) (by kernel_rfl) ?_
             repeat (go_big_quiet_step ((with_reducible exact cC.out _ _)))
             refine wpQuiet_nil ?_;rintro _ ⟨⟨dq,osq⟩,rfl⟩;go_wp2_with fail;go_ret;exact⟨zab HE.symm,KW _ (HRW dq osq)⟩
            ·have u2:(L[n]==p.G[k].sec)=false:=(by rw[beq_eq_false_iff_ne];exact h3);have HA1:Hid ((∃m,∃hm:m<p.S.length,fix (fun x=>decide (x.id=L[n])) p.S=(m:Int))∧L[n]≠p.G[k].sec):=⟨⟨m,hm,HFF⟩,h3⟩;clear h3;go_upto_region 10 with fail;refine wp_region_quiet_below (by kernel_rfl) (by kernel_rfl) ?_
             repeat (go_big_quiet_step ((with_reducible exact cC.out _ _)))
             refine wpQuiet_nil ?_;rintro _ ⟨⟨dq,osq⟩,rfl⟩;have HBW:=hI (HRW dq osq);generalize hWN:grow (redrawn wo dq) osq=wn at *;clear hWN HRW X0 S1 P2 P4 cC HFF;go_wp2_with fail;go_loopg [8] n (fun g i wr=> ∃m':Nat,m'≤n∧g=n-m'∧i= .int .i64 m'∧jb W1 wr∧ ∀j (h:j<n),j<m'→L[j]≠L[n])
             case atStart=>exact⟨0,by omega,by omega,rfl,HBW,fun j h hj=>by omega⟩
             case round=>
              obtain⟨m2,hm2,rfl,rfl,hb,hno⟩:=hrel;obtain⟨wi,rfl⟩: ∃wi:World,wi=wr:=⟨_,rfl⟩;have HNI:=hI hno;have KI:=hI hb;clear hb hno;by_cases hlt2:m2<n
              ·have hd3:decide ((m2:Int)<(n:Int))=true:=(by simp;omega);have hml:m2<L.length:=(by omega);obtain⟨b5,off5,hbe,x0⟩:=(HIL _ KI).cell n hlt;cases hbe;obtain⟨b6,off6,hbe,z0⟩:=(HIL _ KI).cell m2 hml;cases hbe;have e0:(0:Int)≤(m2:Int):=(by omega);have e1:(m2:Int)<(L.length:Int):=(by omega);have hR: ∀(d:Nat) (os:Array Obj),jb W1 (grow (redrawn wi d) os):=fun d os=>KI.trans ((below_regrown wi d os).mono KI.size);have HRW:=hI hR;have X0:=cell_regrown x0;have Z0:=cell_regrown z0;clear x0 z0 hR;by_cases h6:L[m2]=L[n]
               ·have u6:(L[m2]==L[n])=true:=(by rw[beq_iff_eq];exact h6);have HE:=hI (HBAD1 n hlt (fun hh=>hh.2.2 m2 hlt2 h6));clear h6;go_upto_region 15 with fail;refine wp_region_quiet_below (by kernel_rfl) (by kernel_rfl) ?_
                repeat (go_big_quiet_step (fail))
                refine wpQuiet_nil ?_;rintro _ ⟨⟨dq,osq⟩,rfl⟩;go_wp2_with fail;go_ret;exact⟨zab HE.symm,KW _ (HRW dq osq)⟩
               ·have u6:(L[m2]==L[n])=false:=(by rw[beq_eq_false_iff_ne];exact h6);have HG:=hI h6;clear h6;go_upto_region 15 with fail;refine wp_region_quiet_below (by kernel_rfl) (by kernel_rfl) ?_
                repeat (go_big_quiet_step (fail))
                refine wpQuiet_nil ?_;rintro _ ⟨⟨dq,osq⟩,rfl⟩;go_wp2_with fail;go_roundg (n-(m2+1))
                case measure=>go_light;omega
                case rel=>
                 go_light;refine⟨m2+1,by omega,by omega,by go_num,HRW dq osq,fun j h hj=> ?_⟩;by_cases hjk:j=m2
                 ·subst hjk;exact HG
                 ·exact HNI j h (by omega)
              ·obtain rfl:m2=n:=(by omega);have hd3:decide ((m2:Int)<(m2:Int))=false:=(by simp);have HG:Hid (AtR p p.G[k].sec L m2 hlt):=⟨HA1.1,HA1.2,fun j hj=>HNI j hj hj⟩;go_wp2_with fail;go_roundg (L.length-(m2+1))
               case measure=>go_light;omega
               case rel=>
                go_light;refine⟨m2+1,by omega,by omega,by go_num,KI,fun j h hj=> ?_⟩;by_cases hjk:j=m2
                ·subst hjk;exact HG
                ·exact HNO j h (by omega)
          ·obtain rfl:n=L.length:=(by omega);have HOK2:Hid ((∀j (h:j<r.fl.length),FlR p r.fl j h)→B=true):=fun h2=>HOK (fun j h=>HNO j h h) h2;have KO2:=hI KO.out;clear HOK HNO KO KWO BXO HBAD1;go_wp2_with fail;go_loopg [9] r.fl.length (fun g i wr=> ∃k':Nat,k'≤r.fl.length∧g=r.fl.length-k'∧i= .int .i64 k'∧jb W1 wr∧ ∀j (h:j<r.fl.length),j<k'→FlR p r.fl j h)
           case atStart=>exact⟨0,by omega,by omega,rfl,KO2,fun j h hj=>by omega⟩
           case round=>
            obtain⟨n,hn,rfl,rfl,hb,hno⟩:=hrel;obtain⟨wo,rfl⟩: ∃wo:World,wo=wr:=⟨_,rfl⟩;have HNO:=hI hno;have KO:=hI hb;have KWO:=hI (KW _ hb);have BXO:=hI (BXW _ hb);clear hb hno;have pp3:jc wo w.heap.size 3 (js a2 p.P.length k2):=jr (BXO).1;have rr5:jc wo (w.heap.size+1) 5 (js f1 r.fl.length f3):=jr (BXO).2;by_cases hlt:n<r.fl.length
            ·have hd2:decide ((n:Int)<(r.fl.length:Int))=true:=(by simp;omega);obtain⟨b,off,rfl,x0,x1⟩:=(HFL _ KWO).fl hlt;have c0:(0:Int)≤(n:Int):=(by omega);have c1:(n:Int)<(r.fl.length:Int):=(by omega);have l2:=World.block_lt_of_cell? _ _ x0;go_upto_region 21 with fail;generalize hWA:World.alloc _ _=wA;have hbA:jb wo wA:=(by rw[←hWA];exact jal);have y0:jc wA wo.heap.size 0 r.fl[n].pt:=(by rw[←hWA];simp);have y1:jc wA wo.heap.size 1 r.fl[n].lie:=(by rw[←hWA];simp);have KA:=jh KO hbA;have g3:=zac hbA pp3;have g5:=zac hbA rr5;clear hWA hbA x0 x1 pp3 rr5 l2;have hR: ∀(d:Nat) (os:Array Obj),jb W1 (grow (redrawn wA d) os):=fun d os=>KA.trans ((below_regrown wA d os).mono KA.size);have HRW:=hI hR;have Y0:=cell_regrown y0;have Y1:=cell_regrown y1;have G3:=cell_regrown g3;have G5:=cell_regrown g5;have hcc:=fun(d:Nat) (os:Array Obj)=>Calls.regrown_of ((zrs a2 k2 p.P r.fl[n].pt _ (HPT _ (KW _ (hR d os))) LP).mono fun e w' h=>(⟨h.1,zf8 h.2⟩:e=_∧Below (grow (redrawn wA d) os).heap.size (grow (redrawn wA d) os) w'));have hfc:=hI (zce (fun x:Pt=>decide (x.id=r.fl[n].pt)) p.P);generalize hF:fix (fun x:Pt=>decide (x.id=r.fl[n].pt)) p.P=F at *;have HFF:=hI hF;have cC:=hI hcc;clear hcc hF hR y0 y1 g3 g5;rcases hfc.out with⟨hF1,-⟩ | ⟨m,hm,hF1,-,-⟩
             ·subst hF1;have HE:=hI (HBAD2 n hlt (fun hh=>by obtain⟨m,hm,e⟩:=hh.1;rw[HFF.out]at e;omega));go_upto_region 21 with fail;refine wp_region_quiet_below (by kernel_rfl) (by kernel_rfl) ?_
              repeat (go_big_quiet_step ((with_reducible exact cC.out _ _)))
              refine wpQuiet_nil ?_;rintro _ ⟨⟨dq,osq⟩,rfl⟩;go_wp2_with fail;go_ret;exact⟨zab HE.symm,KW _ (HRW dq osq)⟩
             ·subst hF1;have u1:decide ((m:Int)<0)=false:=(by simp);clear hfc;by_cases h3:0<n
              ·have u3:decide ((0:Int)<(n:Int))=true:=(by simp;omega);obtain⟨b8,off8,hbe,z0,z1⟩:=(HFL _ (KW _ KA)).fl (i:=n-1) (by omega);cases hbe;have Z0:=cell_regrown z0;have e0:(0:Int)≤(n:Int)-1:=(by omega);have e1:(n:Int)-1<(r.fl.length:Int):=(by omega);have et:((n:Int)-1).toNat=n-1:=(by omega);clear z0 z1;by_cases h4:r.fl[n].pt≤r.fl[n-1].pt
               ·have HE:=hI (HBAD2 n hlt (fun hh=>by have:=hh.2.1 h3;omega));go_upto_region 21 with fail;refine wp_region_quiet_below (by kernel_rfl) (by kernel_rfl) ?_
                repeat (go_big_quiet_step ((with_reducible exact cC.out _ _)))
                refine wpQuiet_nil ?_;rintro _ ⟨⟨dq,osq⟩,rfl⟩;go_wp2_with fail;go_ret;exact⟨zab HE.symm,KW _ (HRW dq osq)⟩
               ·have u4:decide (r.fl[n].pt≤r.fl[n-1].pt)=false:=(by simp;omega);by_cases h5:r.fl[n].lie<1
                ·have HE:=hI (HBAD2 n hlt (fun hh=>by have:=hh.2.2.1;omega));go_upto_region 21 with fail;refine wp_region_quiet_below (by kernel_rfl) (by kernel_rfl) ?_
                 repeat (go_big_quiet_step ((with_reducible exact cC.out _ _)))
                 refine wpQuiet_nil ?_;rintro _ ⟨⟨dq,osq⟩,rfl⟩;go_wp2_with fail;go_ret;exact⟨zab HE.symm,KW _ (HRW dq osq)⟩
                ·have u5:decide (r.fl[n].lie<1)=false:=(by simp;omega);by_cases h6:2<r.fl[n].lie
                 ·have HE:=hI (HBAD2 n hlt (fun hh=>by have:=hh.2.2.2;omega));go_upto_region 21 with fail;refine wp_region_quiet_below (by kernel_rfl) (by kernel_rfl) ?_
                  repeat (go_big_quiet_step ((with_reducible exact cC.out _ _)))
                  refine wpQuiet_nil ?_;rintro _ ⟨⟨dq,osq⟩,rfl⟩;go_wp2_with fail;go_ret;exact⟨zab HE.symm,KW _ (HRW dq osq)⟩
                 ·have u6:decide ((2:Int)<r.fl[n].lie)=false:=(by simp;omega);have HG:Hid (FlR p r.fl n hlt):=⟨⟨m,hm,HFF⟩,fun _=>by omega,by omega,by omega⟩;clear h5 h6;go_upto_region 21 with fail;refine wp_region_quiet_below (by kernel_rfl) (by kernel_rfl) ?_
                  repeat (go_big_quiet_step ((with_reducible exact cC.out _ _)))
                  refine wpQuiet_nil ?_;rintro _ ⟨⟨dq,osq⟩,rfl⟩;go_wp2_with fail;go_roundg (r.fl.length-(n+1))
                  case measure=>go_light;omega
                  case rel=>
                   go_light;refine⟨n+1,by omega,by omega,by go_num,HRW dq osq,fun j h hj=> ?_⟩;by_cases hjk:j=n
                   ·subst hjk;exact HG
                   ·exact HNO j h (by omega)
              ·have u3:decide ((0:Int)<(n:Int))=false:=(by simp;omega);by_cases h5:r.fl[n].lie<1
               ·have HE:=hI (HBAD2 n hlt (fun hh=>by have:=hh.2.2.1;omega));go_upto_region 21 with fail;refine wp_region_quiet_below (by kernel_rfl) (by kernel_rfl) ?_
                repeat (go_big_quiet_step ((with_reducible exact cC.out _ _)))
                refine wpQuiet_nil ?_;rintro _ ⟨⟨dq,osq⟩,rfl⟩;go_wp2_with fail;go_ret;exact⟨zab HE.symm,KW _ (HRW dq osq)⟩
               ·have u5:decide (r.fl[n].lie<1)=false:=(by simp;omega);by_cases h6:2<r.fl[n].lie
                ·have HE:=hI (HBAD2 n hlt (fun hh=>by have:=hh.2.2.2;omega));go_upto_region 21 with fail;refine wp_region_quiet_below (by kernel_rfl) (by kernel_rfl) ?_
                 repeat (go_big_quiet_step ((with_reducible exact cC.out _ _)))
                 refine wpQuiet_nil ?_;rintro _ ⟨⟨dq,osq⟩,rfl⟩;go_wp2_with fail;go_ret;exact⟨zab HE.symm,KW _ (HRW dq osq)⟩
                ·have u6:decide ((2:Int)<r.fl[n].lie)=false:=(by simp;omega);have HG:Hid (FlR p r.fl n hlt):=⟨⟨m,hm,HFF⟩,fun h=>absurd h h3,by omega,by omega⟩;clear h5 h6;go_upto_region 21 with fail;refine wp_region_quiet_below (by kernel_rfl) (by kernel_rfl) ?_
                 repeat (go_big_quiet_step ((with_reducible exact cC.out _ _)))
                 refine wpQuiet_nil ?_;rintro _ ⟨⟨dq,osq⟩,rfl⟩;go_wp2_with fail;go_roundg (r.fl.length-(n+1))
                 case measure=>go_light;omega
                 case rel=>
                  go_light;refine⟨n+1,by omega,by omega,by go_num,HRW dq osq,fun j h hj=> ?_⟩;by_cases hjk:j=n
                  ·subst hjk;exact HG
                  ·exact HNO j h (by omega)
            ·obtain rfl:n=r.fl.length:=(by omega);have HE:=hI (HOK2 (fun j h=>HNO j h h));go_wp2_with fail;go_ret;exact⟨zab HE.symm,KWO⟩
  ·have hv:(!D)=true:=by
    cases hD:D with
    | false=>rfl
    | true=>exact absurd (HDC.1 hD) hc
   rw[hv];have HE:=hI (HH0 (fun hh=>hc (HH1.1 hh).1));clear hv;go_wp2_with fail;go_ret;exact⟨zab HE.symm,K0⟩
def RsR (p:Pl) (j:Nat) (h:j<p.R.length):Prop:=(1≤p.R[j].id∧p.R[j].id≤99)∧(∀h':0<j,p.R[j-1].id<p.R[j].id)∧zb2 (zax p.S p.S.length) p.G p.P p.R[j]
theorem zw2 (p:Pl):zaq p↔(1≤p.ver∧p.ver≤2147483647∧0≤p.par∧p.par<p.ver)∧(p.R.length:Int)≤16∧zb8 p.S∧zcf p∧zcm (zax p.S p.S.length) p.G∧ ∀j (h:j<p.R.length),RsR p j h:=by
 constructor
 ·rintro⟨⟨h1,h2,h3,h4,h5⟩,⟨h6,h7,h8,h9⟩,h10⟩;exact⟨⟨h1,h2,h3,h4⟩,h9,h5,h6,h7,fun j h=>⟨(h8 j h h).1,(h8 j h h).2,h10 j h h⟩⟩
 ·rintro⟨⟨h1,h2,h3,h4⟩,h9,h5,h6,h7,h8⟩;exact⟨⟨h1,h2,h3,h4,h5⟩,⟨h6,h7,fun j h _=>⟨(h8 j h).1,(h8 j h).2.1⟩,h9⟩,fun j h _=>(h8 j h).2.2⟩
theorem zw3 (p:Pl) (s q gg rr:Value) (w:World) (hp:PlM w s q gg rr p) (hf:p.Fit):Calls Tryz.prog 129 #[plV p s q gg rr] w (zae w (decide (zaq p))):=by
 have HREF:Hid (zaq p↔(1≤p.ver∧p.ver≤2147483647∧0≤p.par∧p.par<p.ver)∧(p.R.length:Int)≤16∧zb8 p.S∧zcf p∧zcm (zax p.S p.S.length) p.G∧ ∀j (h:j<p.R.length),RsR p j h):=zw2 p;have HB:Hid (∀b:Bool,(b=true↔zaq p)→decide (zaq p)=b):=fun b h=>by rw[Bool.eq_iff_iff,h,decide_eq_true_iff]
 have HNO:Hid (¬zaq p→decide (zaq p)=false):=fun h=>decide_eq_false h;generalize decide (zaq p)=B at *;have HP:Hid (∀W,jb w W→PlM W s q gg rr p):=fun W hb=>hp.below hb;obtain⟨a1,k1,rfl,h1⟩:=hp.S;obtain⟨a2,k2,rfl,-⟩:=hp.P;obtain⟨a3,k3,rfl,-⟩:=hp.G;obtain⟨a4,k4,rfl,h4⟩:=hp.R;have HRT:Hid (∀W,jb w W→SlA W 7 RRt a4 k4 p.R):=fun W hb=>h4.below zcv hb;have HC1:Hid (∀W,jb w W→Calls Tryz.prog 212 #[js a1 p.S.length k1] W (zae W (decide (zb8 p.S)))):=fun W hb=>zse a1 k1 p.S W (h1.below zbo hb) hf.S hf.ends;have HC2:Hid (zb8 p.S→ ∀W,jb w W→Calls Tryz.prog 213 #[.agg #[p.ver,p.par,js a1 p.S.length k1,js a2 p.P.length k2,js a3 p.G.length k3,js a4 p.R.length k4]] W (zae W (decide (zcf p)))):=fun h W hb=>zwx p _ _ _ _ W (HP W hb) hf h.2.1;have HC3:Hid (zb8 p.S→ ∀W,jb w W→Calls Tryz.prog 214 #[.agg #[p.ver,p.par,js a1 p.S.length k1,js a2 p.P.length k2,js a3 p.G.length k3,js a4 p.R.length k4]] W (zae W (decide (zcm (zax p.S p.S.length) p.G)))):=fun h W hb=>zwz p _ _ _ _ W (HP W hb) hf h.2.1;have HC4:Hid (zb8 p.S→ ∀(k:Nat) (hk:k<p.R.length) W vp vo vf,jb w W→RtM W vp vo vf p.R[k]→Calls Tryz.prog 215 #[.agg #[p.ver,p.par,js a1 p.S.length k1,js a2 p.P.length k2,js a3 p.G.length k3,js a4 p.R.length k4],.agg #[p.R[k].id,p.R[k].E,p.R[k].X,vp,vo,vf,p.R[k].T]] W (zae W (decide (zb2 (zax p.S p.S.length) p.G p.P p.R[k])))):=fun h k hk W vp vo vf hb hm=>zw1 p _ _ _ _ p.R[k] vp vo vf W (HP W hb) hf h.2.1 hm (hf.rt k hk);have hrl:=hf.R;clear hp hf h1 h4 HP;unfold plV;go_enter Tryz.func129,Tryz.ntmps129;go_upto_region 1 with fail;generalize hW0:World.alloc _ _=W0;have K0:Hid (jb w W0):=by show Below _ _ _;rw[←hW0];exact jal
 have BX0:Hid (jk W0 w.heap.size #[p.ver,p.par,js a1 p.S.length k1,js a2 p.P.length k2,js a3 p.G.length k3,js a4 p.R.length k4] 28):=by show _=_;rw[←hW0];exact heap_alloc_new _ _
 have BXW:Hid (∀W,jb W0 W→jk W w.heap.size #[p.ver,p.par,js a1 p.S.length k1,js a2 p.P.length k2,js a3 p.G.length k3,js a4 p.R.length k4] 28):=fun W hb=>(jm hb BX0);have KW:Hid (∀W,jb W0 W→jb w W):=fun W hb=>jo K0 hb;clear hW0;obtain⟨pp0,pp1,pp2,pp3,pp4,pp5⟩:=zan (BX0);by_cases h1:p.ver<1
 ·have t1:decide (p.ver<1)=true:=by simp only[decide_eq_true_eq];omega
  have HE:=hI (HNO (fun hh=>by have hz:=HREF.1 hh;have:=hz.1;have:=hz.2.1;omega));clear h1;go_wp2_with fail;go_ret;exact⟨zab HE.symm,K0⟩
 ·have t50:decide (p.ver<1)=false:=by simp only[decide_eq_false_iff_not];omega
  have H50:=hI h1;clear h1;by_cases h1:2147483647<p.ver
  ·have t1:decide ((2147483647:Int)<p.ver)=true:=(by simp only[decide_eq_true_eq];omega);have HE:=hI (HNO (fun hh=>by have hz:=HREF.1 hh;have:=hz.1;have:=hz.2.1;omega));clear h1;go_wp2_with fail;go_ret;exact⟨zab HE.symm,K0⟩
  ·have t40:decide ((2147483647:Int)<p.ver)=false:=(by simp only[decide_eq_false_iff_not];omega);have H40:=hI h1;clear h1;by_cases h1:p.par<0
   ·have t1:decide (p.par<0)=true:=(by simp only[decide_eq_true_eq];omega);have HE:=hI (HNO (fun hh=>by have hz:=HREF.1 hh;have:=hz.1;have:=hz.2.1;omega));clear h1;go_wp2_with fail;go_ret;exact⟨zab HE.symm,K0⟩
   ·have t30:decide (p.par<0)=false:=(by simp only[decide_eq_false_iff_not];omega);have H30:=hI h1;clear h1;by_cases h1:p.ver≤p.par
    ·have t1:decide (p.ver≤p.par)=true:=(by simp only[decide_eq_true_eq];omega);have HE:=hI (HNO (fun hh=>by have hz:=HREF.1 hh;have:=hz.1;have:=hz.2.1;omega));clear h1;go_wp2_with fail;go_ret;exact⟨zab HE.symm,K0⟩
    ·have t20:decide (p.ver≤p.par)=false:=(by simp only[decide_eq_false_iff_not];omega);have H20:=hI h1;clear h1;by_cases h1:16<p.R.length
     ·have t1:decide ((16:Int)<(p.R.length:Int))=true:=(by simp only[decide_eq_true_eq];omega);have HE:=hI (HNO (fun hh=>by have hz:=HREF.1 hh;have:=hz.1;have:=hz.2.1;omega));clear h1;go_wp2_with fail;go_ret;exact⟨zab HE.symm,K0⟩
     ·have t10:decide ((16:Int)<(p.R.length:Int))=false:=(by simp only[decide_eq_false_iff_not];omega);have H10:=hI h1;clear h1;have B0:Hid (jb W0 W0):=Below.refl _ _;go_wp2_with fail;refine(HC1 W0 K0).mono ?_;rintro e W1 ⟨rfl,hb1⟩;have B1:=jh B0 hb1;have bx1:=BXW _ B1;clear hb1 pp0 pp1 pp2 pp3 pp4 pp5;obtain⟨pp0,pp1,pp2,pp3,pp4,pp5⟩:=zan (bx1);clear bx1;by_cases hs1:zb8 p.S
      ·rw[decide_eq_true hs1];have S1:=hI hs1;clear hs1;go_wp2_with fail;refine(HC2 S1 W1 (KW _ B1)).mono ?_;rintro e W2 ⟨rfl,hb2⟩;have B2:=jh B1 hb2;have bx2:=BXW _ B2;clear hb2 pp0 pp1 pp2 pp3 pp4 pp5;obtain⟨pp0,pp1,pp2,pp3,pp4,pp5⟩:=zan (bx2);clear bx2;by_cases hs2:zcf p
       ·rw[decide_eq_true hs2];have S2:=hI hs2;clear hs2;go_wp2_with fail;refine(HC3 S1 W2 (KW _ B2)).mono ?_;rintro e W3 ⟨rfl,hb3⟩;have B3:=jh B2 hb3;have bx3:=BXW _ B3;clear hb3 pp0 pp1 pp2 pp3 pp4 pp5;obtain⟨pp0,pp1,pp2,pp3,pp4,pp5⟩:=zan (bx3);clear bx3;by_cases hs3:zcm (zax p.S p.S.length) p.G
        ·rw[decide_eq_true hs3];have S3:=hI hs3;clear hs3;clear pp0 pp1 pp2 pp3 pp4 pp5 t10 t20 t30 t40 t50;have HG0:Hid ((∀j (h:j<p.R.length),RsR p j h)→B=true):=fun h=>HB true (by simp only[true_iff];exact HREF.2 ⟨⟨by have:=H50.out;omega,by have:=H40.out;omega,by have:=H30.out;omega,by have:=H20.out;omega⟩,by have:=H10.out;omega,S1,S2,S3,h⟩);have HBAD:Hid (∀j (h:j<p.R.length),¬RsR p j h→B=false):=fun j h hn=>HNO (fun hh=>hn ((HREF.1 hh).2.2.2.2.2 j h));have HC5:=hI (HC4 S1);clear HREF HB HNO HC1 HC2 HC3 HC4;go_wp2_with fail;go_loopg [3] p.R.length (fun g i wr=> ∃k:Nat,k≤p.R.length∧g=p.R.length-k∧i= .int .i64 k∧jb W0 wr∧ ∀j (h:j<p.R.length),j<k→RsR p j h)
         case atStart=>exact⟨0,by omega,by omega,rfl,B3,fun j h hj=>by omega⟩
         case round=>
          obtain⟨k,hk,rfl,rfl,hb,hno⟩:=hrel;obtain⟨wo,rfl⟩: ∃wo:World,wo=wr:=⟨_,rfl⟩;have HNI:=hI hno;have KO:=hI hb;have KWO:=hI (KW _ hb);have bxo:=BXW _ hb;clear hb hno;have pp5:jc wo w.heap.size 5 (js a4 p.R.length k4):=jr bxo;have HBX:=hI bxo;clear bxo;by_cases hlt:k<p.R.length
          ·have hd1:decide ((k:Int)<(p.R.length:Int))=true:=(by simp;omega);obtain⟨b,off,vp,vo,vf,rfl,x0,x1,x2,x3,x4,x5,x6,hrm⟩:=(HRT _ KWO).rt hlt;obtain⟨v1,v2,v3,rfl,-⟩:=hrm.A;obtain⟨v4,v5,v6,rfl,-⟩:=hrm.O;obtain⟨v7,v8,rfl,-⟩:=hrm.fl;have HM:=hI hrm;have c0:(0:Int)≤(k:Int):=(by omega);have c1:(k:Int)<(p.R.length:Int):=(by omega);have l2:=World.block_lt_of_cell? _ _ x0;clear hrm;go_upto_region 9 with fail;generalize hWA:World.alloc _ _=wA;have hbA:jb wo wA:=(by rw[←hWA];exact jal);have hya:jk wA wo.heap.size #[p.R[k].id,p.R[k].E,p.R[k].X,js v1 v2 v3,js v4 v5 v6,js v7 p.R[k].fl.length v8,p.R[k].T] 102:=(by rw[←hWA];exact heap_alloc_new _ _);have KA:=jh KO hbA;have HMA:=hI (HM.below hbA);have bxa:=BXW _ KA;obtain⟨gg0,gg1,gg2,gg3,gg4,gg5⟩:=zan (bxa);obtain⟨y0,y1,y2,y3,y4,y5,y6⟩:=zb7 hya;clear hWA hbA x0 x1 x2 x3 x4 x5 x6 pp5 l2 hya bxa;have hR: ∀(d:Nat) (os:Array Obj),jb W0 (grow (redrawn wA d) os):=fun d os=>KA.trans ((below_regrown wA d os).mono KA.size);have HRW:=hI hR;have G0:=cell_regrown gg0;have G1:=cell_regrown gg1;have G2:=cell_regrown gg2;have G3:=cell_regrown gg3;have G4:=cell_regrown gg4;have G5:=cell_regrown gg5;have Y0:=cell_regrown y0;have Y1:=cell_regrown y1;have Y2:=cell_regrown y2;have Y3:=cell_regrown y3;have Y4:=cell_regrown y4;have Y5:=cell_regrown y5;have Y6:=cell_regrown y6;have hcc:=fun(d:Nat) (os:Array Obj)=>Calls.regrown_of (HC5 k hlt (grow (redrawn wA d) os) _ _ _ (KW _ (hR d os)) (HMA.below (below_regrown wA d os)));clear hR gg0 gg1 gg2 gg3 gg4 gg5 y0 y1 y2 y3 y4 y5 y6;by_cases h1:p.R[k].id<1
           ·clear hcc;have HE:=hI (HBAD k hlt (fun hh=>by have:=hh.1.1;omega));go_upto_region 9 with fail;refine wp_region_quiet_below (by kernel_rfl) (by kernel_rfl) ?_
            repeat (go_big_quiet_step (fail))
            refine wpQuiet_nil ?_;rintro _ ⟨⟨dq,osq⟩,rfl⟩;go_wp2_with fail;go_ret;exact⟨zab HE.symm,KW _ (HRW dq osq)⟩
           ·have u1:decide (p.R[k].id<1)=false:=(by simp;omega);by_cases h2:99<p.R[k].id
            ·clear hcc;have HE:=hI (HBAD k hlt (fun hh=>by have:=hh.1.2;omega));go_upto_region 9 with fail;refine wp_region_quiet_below (by kernel_rfl) (by kernel_rfl) ?_
             repeat (go_big_quiet_step (fail))
             refine wpQuiet_nil ?_;rintro _ ⟨⟨dq,osq⟩,rfl⟩;go_wp2_with fail;go_ret;exact⟨zab HE.symm,KW _ (HRW dq osq)⟩
            ·have u2:decide (99<p.R[k].id)=false:=(by simp;omega);by_cases h3:0<k
             ·have u3:decide ((0:Int)<(k:Int))=true:=(by simp;omega);obtain⟨b',off',_,_,_,hbe,z0,-⟩:=(HRT _ (KW _ KA)).rt (i:=k-1) (by omega);cases hbe;have Z0:=cell_regrown z0;have e0:(0:Int)≤(k:Int)-1:=(by omega);have e1:(k:Int)-1<(p.R.length:Int):=(by omega);have et:((k:Int)-1).toNat=k-1:=(by omega);clear z0;by_cases h4:p.R[k].id≤p.R[k-1].id
              ·clear hcc;have HE:=hI (HBAD k hlt (fun hh=>by have:=hh.2.1 h3;omega));go_upto_region 9 with fail;refine wp_region_quiet_below (by kernel_rfl) (by kernel_rfl) ?_
               repeat (go_big_quiet_step (fail))
               refine wpQuiet_nil ?_;rintro _ ⟨⟨dq,osq⟩,rfl⟩;go_wp2_with fail;go_ret;exact⟨zab HE.symm,KW _ (HRW dq osq)⟩
              ·have u6:decide (p.R[k].id≤p.R[k-1].id)=false:=(by simp;omega);by_cases h7:zb2 (zax p.S p.S.length) p.G p.P p.R[k]
               ·rw[decide_eq_true h7]at hcc;have cC:Hid (∀(d:Nat) (os:Array Obj),Calls Tryz.prog 215 #[.agg #[p.ver,p.par,js a1 p.S.length k1,js a2 p.P.length k2,js a3 p.G.length k3,jq b off p.R.length k4],.agg #[p.R[k].id,p.R[k].E,p.R[k].X,js v1 v2 v3,js v4 v5 v6,js v7 p.R[k].fl.length v8,p.R[k].T]] (grow (redrawn wA d) os) fun e w''=>e= .returned (.bool true)∧ ∃p:Regrown,w''=grow (redrawn wA p.d) p.os):=hcc;have HG:Hid (RsR p k hlt):=⟨⟨by omega,by omega⟩,fun _=>by omega,h7⟩;clear hcc h7;go_upto_region 9 with fail;refine wp_region_quiet_below (by kernel_rfl) (by kernel_rfl) ?_
                repeat (go_big_quiet_step ((with_reducible exact cC.out _ _)))
                refine wpQuiet_nil ?_;rintro _ ⟨⟨dq,osq⟩,rfl⟩;go_wp2_with fail;go_roundg (p.R.length-(k+1))
                case measure=>go_light;omega
                case rel=>
                 go_light;refine⟨k+1,by omega,by omega,by go_num,HRW dq osq,fun j h hj=> ?_⟩;by_cases hjk:j=k
                 ·subst hjk;exact HG
                 ·exact HNI j h (by omega)
               ·rw[decide_eq_false h7]at hcc;have cC:Hid (∀(d:Nat) (os:Array Obj),Calls Tryz.prog 215 #[.agg #[p.ver,p.par,js a1 p.S.length k1,js a2 p.P.length k2,js a3 p.G.length k3,jq b off p.R.length k4],.agg #[p.R[k].id,p.R[k].E,p.R[k].X,js v1 v2 v3,js v4 v5 v6,js v7 p.R[k].fl.length v8,p.R[k].T]] (grow (redrawn wA d) os) fun e w''=>e= .returned (.bool false)∧ ∃p:Regrown,w''=grow (redrawn wA p.d) p.os):=hcc;clear hcc;have HE:=hI (HBAD k hlt (fun hh=>h7 hh.2.2));go_upto_region 9 with fail;refine wp_region_quiet_below (by kernel_rfl) (by kernel_rfl) ?_
                repeat (go_big_quiet_step ((with_reducible exact cC.out _ _)))
                refine wpQuiet_nil ?_;rintro _ ⟨⟨dq,osq⟩,rfl⟩;go_wp2_with fail;go_ret;exact⟨zab HE.symm,KW _ (HRW dq osq)⟩
             ·have u3:decide ((0:Int)<(k:Int))=false:=(by simp;omega);by_cases h7:zb2 (zax p.S p.S.length) p.G p.P p.R[k]
              ·rw[decide_eq_true h7]at hcc;have cC:Hid (∀(d:Nat) (os:Array Obj),Calls Tryz.prog 215 #[.agg #[p.ver,p.par,js a1 p.S.length k1,js a2 p.P.length k2,js a3 p.G.length k3,jq b off p.R.length k4],.agg #[p.R[k].id,p.R[k].E,p.R[k].X,js v1 v2 v3,js v4 v5 v6,js v7 p.R[k].fl.length v8,p.R[k].T]] (grow (redrawn wA d) os) fun e w''=>e= .returned (.bool true)∧ ∃p:Regrown,w''=grow (redrawn wA p.d) p.os):=hcc;have HG:Hid (RsR p k hlt):=⟨⟨by omega,by omega⟩,fun h=>absurd h h3,h7⟩;clear hcc h7;go_upto_region 9 with fail;refine wp_region_quiet_below (by kernel_rfl) (by kernel_rfl) ?_
               repeat (go_big_quiet_step ((with_reducible exact cC.out _ _)))
               refine wpQuiet_nil ?_;rintro _ ⟨⟨dq,osq⟩,rfl⟩;go_wp2_with fail;go_roundg (p.R.length-(k+1))
               case measure=>go_light;omega
               case rel=>
                go_light;refine⟨k+1,by omega,by omega,by go_num,HRW dq osq,fun j h hj=> ?_⟩;by_cases hjk:j=k
                ·subst hjk;exact HG
                ·exact HNI j h (by omega)
              ·rw[decide_eq_false h7]at hcc;have cC:Hid (∀(d:Nat) (os:Array Obj),Calls Tryz.prog 215 #[.agg #[p.ver,p.par,js a1 p.S.length k1,js a2 p.P.length k2,js a3 p.G.length k3,jq b off p.R.length k4],.agg #[p.R[k].id,p.R[k].E,p.R[k].X,js v1 v2 v3,js v4 v5 v6,js v7 p.R[k].fl.length v8,p.R[k].T]] (grow (redrawn wA d) os) fun e w''=>e= .returned (.bool false)∧ ∃p:Regrown,w''=grow (redrawn wA p.d) p.os):=hcc;clear hcc;have HE:=hI (HBAD k hlt (fun hh=>h7 hh.2.2));go_upto_region 9 with fail;refine wp_region_quiet_below (by kernel_rfl) (by kernel_rfl) ?_
               repeat (go_big_quiet_step ((with_reducible exact cC.out _ _)))
               refine wpQuiet_nil ?_;rintro _ ⟨⟨dq,osq⟩,rfl⟩;go_wp2_with fail;go_ret;exact⟨zab HE.symm,KW _ (HRW dq osq)⟩
          ·obtain rfl:k=p.R.length:=(by omega);have HE:=hI (HG0 (fun j h=>HNI j h h));go_wp2_with fail;go_ret;exact⟨zab HE.symm,KWO⟩
        ·rw[decide_eq_false hs3];have HE:=hI (HNO (fun hh=>hs3 (HREF.1 hh).2.2.2.2.1));clear hs3;go_wp2_with fail;go_ret;exact⟨zab HE.symm,(KW _ B3)⟩
       ·rw[decide_eq_false hs2];have HE:=hI (HNO (fun hh=>hs2 (HREF.1 hh).2.2.2.1));clear hs2;go_wp2_with fail;go_ret;exact⟨zab HE.symm,(KW _ B2)⟩
      ·rw[decide_eq_false hs1];have HE:=hI (HNO (fun hh=>hs1 (HREF.1 hh).2.2.1));clear hs1;go_wp2_with fail;go_ret;exact⟨zab HE.symm,(KW _ B1)⟩
end Go.Proofs.YtbiehpjhhopjaaaGreat
