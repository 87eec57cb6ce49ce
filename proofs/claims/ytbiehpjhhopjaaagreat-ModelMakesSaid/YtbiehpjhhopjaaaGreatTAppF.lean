/-
 The references' check of a plan and a state,and whether an element is not free,walked. (Written by wip/tools/gen_rww.py.)
-/
import Derived.Test.YtbiehpjhhopjaaaGreatTRwV
import Derived.Test.YtbiehpjhhopjaaaGreatTTwinR
import Derived.Test.YtbiehpjhhopjaaaGreatTPlanE
import Derived.Test.YtbiehpjhhopjaaaGreatTSeqA
import Derived.Test.YtbiehpjhhopjaaaGreatTTwinP
import Derived.Test.YtbiehpjhhopjaaaGreatTStateB
import Derived.Test.YtbiehpjhhopjaaaGreatTRwM
set_option linter.unusedVariables false
set_option linter.unusedSimpArgs false
set_option maxRecDepth 100000
set_option maxHeartbeats 16000000
namespace Go.Proofs.YtbiehpjhhopjaaaGreat
open Go.RowKit Go.Sort
theorem zx1 (p:Pl) (st:St):zbu p st=if zaj p then(if zde p st then 0 else 8)else 100:=by
 unfold zbu;by_cases h:zaj p
 ·rw[if_pos h,if_pos h];by_cases h2:zdi p st
  ·rw[if_pos h2,if_pos (show zde p st from⟨h,(zpw h).1 h2⟩)]
  ·rw[if_neg h2,if_neg (show¬zde p st from fun h3=>h2 ((zpw h).2 h3.2))]
 ·rw[if_neg h,if_neg h]
def zSt:St:=⟨[],[],[]⟩
theorem zp3:zSt.fit:=⟨by decide,by decide,by decide⟩
theorem zp4 (W:World):StM W (.slice none 0 0) (.slice none 0 0) (.slice none 0 0) zSt:=⟨Sl.nil _ _ _,Sl.nil _ _ _,Sl.nil _ _ _⟩
theorem zlq (x:Pl) (s q g r:Value) (w:World) (hx:PlM w s q g r x) (hxf:x.Fit):
  Calls Tryz.prog 86 #[plV x s q g r] w (zae w (decide (zaj x))):=by
 have HC:Hid (∀W,jb w W→Calls Tryz.prog 58 #[plV x s q g r] W (zdz W (if zaj x then 0 else 100))):=fun W hb=>ziv x s q g r W (hx.below hb) hxf;have HV:Hid (((if zaj x then(0:Int)else 100)==0)=decide (zaj x)):=hI (by split<;>simp[*]);obtain⟨a1,a2,rfl,-⟩:=hx.S;obtain⟨a3,a4,rfl,-⟩:=hx.P;obtain⟨a5,a6,rfl,-⟩:=hx.G;obtain⟨a7,a8,rfl,-⟩:=hx.R;clear hx hxf;generalize(if zaj x then(0:Int)else 100)=E at *;generalize decide (zaj x)=B at *;unfold plV at *;go_enter Tryz.func86,Tryz.ntmps86;go_upto_region 1 with fail;generalize hW0:World.alloc _ _=W0;have K0:Hid (jb w W0):=by show Below _ _ _;rw[←hW0];exact jal
 have hx0:jk W0 w.heap.size #[x.ver,x.par,js a1 x.S.length a2,js a3 x.P.length a4,js a5 x.G.length a6,js a7 x.R.length a8] 28:=by rw[←hW0];exact heap_alloc_new _ _
 clear hW0;have C:=hI (RgC.of fun W hb=>HC.out W (jo K0 hb));have p0:=cell_regrown ((cell_of_row W0 _ 0 _ _ _ hx0).trans rfl);have p1:=cell_regrown ((cell_of_row W0 _ 1 _ _ _ hx0).trans rfl);have p2:=cell_regrown ((cell_of_row W0 _ 2 _ _ _ hx0).trans rfl);have p3:=cell_regrown ((cell_of_row W0 _ 3 _ _ _ hx0).trans rfl);have p4:=cell_regrown ((cell_of_row W0 _ 4 _ _ _ hx0).trans rfl);have p5:=cell_regrown ((cell_of_row W0 _ 5 _ _ _ hx0).trans rfl);clear hx0;refine zee ?_
 repeat (go_big_quiet_step (with_reducible exact C.out _ _))
 refine wpQuiet_nil ?_;rintro _ ⟨⟨dq,osq⟩,rfl⟩;go_wp2_with fail;go_ret;exact⟨by rw[←HV.out];rfl,K0.out.trans ((below_regrown W0 dq osq).mono K0.out.size)⟩
def zx2 (x:Hs):Bool:=(decide ((x.key.length:Int)≤64)&&(decide (x.pl=zPl)&&(decide (x.bk=zPl)&&(decide (x.nx=zPl)&&((x.high==0)&&(((x.buf.length:Int)==0)&&decide (x.st=zSt)))))))
def zp5 (x:Hs):Bool:=(decide ((x.key.length:Int)≤64)&&(decide (0<x.key.length)&&(decide (zaj x.pl)&&(decide (x.pl.ver≤x.high)&&(decide (x.high≤2147483647)&&(decide ((x.buf.length:Int)≤2048)&&((zbu x.pl x.st==0)&&((decide (x.bk=zPl) || (decide (zaj x.bk)&&(x.bk.ver==x.pl.par)))&&(decide (x.nx=zPl) || decide (zaj x.nx))))))))))
def zbc (x:Hs):Bool:=bif x.halted then zx2 x else zp5 x
theorem zp6 (b0 b1 b2 b3 b4 b5 b6:Bool):(b0=false)∨(b0=true∧b1=false)∨(b0=true∧b1=true∧b2=false)∨(b0=true∧b1=true∧b2=true∧b3=false)∨(b0=true∧b1=true∧b2=true∧b3=true∧b4=false)∨(b0=true∧b1=true∧b2=true∧b3=true∧b4=true∧b5=false)∨(b0=true∧b1=true∧b2=true∧b3=true∧b4=true∧b5=true∧b6=false)∨(b0=true∧b1=true∧b2=true∧b3=true∧b4=true∧b5=true∧b6=true):=by
 cases b0
 ·simp
 cases b1
 ·simp
 cases b2
 ·simp
 cases b3
 ·simp
 cases b4
 ·simp
 cases b5
 ·simp
 cases b6
 ·simp
 simp
theorem zx3 (b0 b1 b2 b3 b4 b5 b6 n1 r1 e1 n2 r2:Bool):b0=false∨(b0=true∧b1=false)∨(b0=true∧b1=true∧b2=false)∨(b0=true∧b1=true∧b2=true∧b3=false)∨(b0=true∧b1=true∧b2=true∧b3=true∧b4=false)∨(b0=true∧b1=true∧b2=true∧b3=true∧b4=true∧b5=false)∨(b0=true∧b1=true∧b2=true∧b3=true∧b4=true∧b5=true∧b6=false)∨(b0=true∧b1=true∧b2=true∧b3=true∧b4=true∧b5=true∧b6=true∧n1=false∧r1=false)∨(b0=true∧b1=true∧b2=true∧b3=true∧b4=true∧b5=true∧b6=true∧n1=false∧r1=true∧e1=false)∨(b0=true∧b1=true∧b2=true∧b3=true∧b4=true∧b5=true∧b6=true∧n1=true∧n2=true)∨(b0=true∧b1=true∧b2=true∧b3=true∧b4=true∧b5=true∧b6=true∧n1=true∧n2=false∧r2=true)∨(b0=true∧b1=true∧b2=true∧b3=true∧b4=true∧b5=true∧b6=true∧n1=true∧n2=false∧r2=false)∨(b0=true∧b1=true∧b2=true∧b3=true∧b4=true∧b5=true∧b6=true∧n1=false∧r1=true∧e1=true∧n2=true)∨(b0=true∧b1=true∧b2=true∧b3=true∧b4=true∧b5=true∧b6=true∧n1=false∧r1=true∧e1=true∧n2=false∧r2=true)∨(b0=true∧b1=true∧b2=true∧b3=true∧b4=true∧b5=true∧b6=true∧n1=false∧r1=true∧e1=true∧n2=false∧r2=false):=by
 cases b0
 ·simp
 cases b1
 ·simp
 cases b2
 ·simp
 cases b3
 ·simp
 cases b4
 ·simp
 cases b5
 ·simp
 cases b6
 ·simp
 cases n1<;>cases r1<;>cases e1<;>cases n2<;>cases r2<;>simp
theorem zx4 (x:Hs) (a:Nat→Option Addr) (c:Nat→Nat) (w:World) (hx:HsM w a c x) (hxf:x.Fit):
  Calls Tryz.prog 31 #[hsV a c x] w (zdz w (if zbc x=true then 0 else 8)):=by
 have HP:Hid (∀W,jb w W→HsM W a c x):=fun W hb=>hx.below hb;have HF:Hid x.Fit:=hxf;obtain⟨R,hR⟩: ∃R,(if zbc x=true then 0 else 8:Int)=R:=⟨_,rfl⟩;rw[hR];have HR:=hI hR;clear hR;clear hx hxf;unfold hsV;go_enter Tryz.func31,Tryz.ntmps31;go_upto_region 1 with fail;generalize hW0:World.alloc _ _=W0;have K0:Hid (jb w W0):=by show Below _ _ _;rw[←hW0];exact jal
 have HX0:Hid (jk W0 w.heap.size (hsA a c x) 35):=by show _=_;rw[←hW0];exact heap_alloc_new _ _
 clear hW0;have HW:Hid (∀W,jb W0 W→HsM W a c x):=fun W hb=>HP.out W (jo K0 hb);obtain⟨x0,x1,x2,x3,x4,x5,x6,x7,x8,x9,x10,x11,x12,x13,x14,x15,x16,x17,x18,x19,x20,x21,x22,x23,x24⟩:=zdp HX0.out;obtain⟨b0,t0⟩: ∃b,decide ((x.key.length:Int)≤64)=b:=⟨_,rfl⟩;cases hh:x.halted
 case true=>
  have HE:Hid (zbc x=(decide ((x.key.length:Int)≤64)&&(decide (x.pl=zPl)&&(decide (x.bk=zPl)&&(decide (x.nx=zPl)&&((x.high==0)&&(((x.buf.length:Int)==0)&&decide (x.st=zSt)))))))):=by show zbc x=_;unfold zbc;rw[hh];rfl
  go_upto_region 4 with fail;clear x0 x1 x2 x3 x4 x5 x6 x7 x8 x9 x10 x11 x12 x13 x14 x15 x16 x17 x18 x19 x20 x21 x22 x23 x24 hh;have c1:=RgC.of (v:= .bool (decide (x.pl=zPl))) fun W hb=>zh3 x.pl _ _ _ _ W (HW.out W hb).pl HF.out.pl;unfold plV at c1;have Cc1:=hI c1;have c2:=RgC.of (v:= .bool (decide (x.bk=zPl))) fun W hb=>zh3 x.bk _ _ _ _ W (HW.out W hb).bk HF.out.bk;unfold plV at c2;have Cc2:=hI c2;have c3:=RgC.of (v:= .bool (decide (x.nx=zPl))) fun W hb=>zh3 x.nx _ _ _ _ W (HW.out W hb).nx HF.out.nx;unfold plV at c3;have Cc3:=hI c3;have c4:=RgC.of (v:= .bool (decide (x.st=zSt))) fun W hb=>zoo x.st zSt _ _ _ (.slice none 0 0) (.slice none 0 0) (.slice none 0 0) W (HW.out W hb).st (zp4 W) HF.out.st zp3;have Cc4:=hI c4;clear c1 c2 c3 c4;obtain⟨x0,x1,x2,x3,x4,x5,x6,x7,x8,x9,x10,x11,x12,x13,x14,x15,x16,x17,x18,x19,x20,x21,x22,x23,x24⟩:=zef HX0.out;obtain⟨b4,t4⟩: ∃b,(x.high==0)=b:=⟨_,rfl⟩;obtain⟨b5,t5⟩: ∃b,((x.buf.length:Int)==0)=b:=⟨_,rfl⟩;rw[t0,t4,t5]at HE;generalize decide (x.pl=zPl)=b1 at *;generalize decide (x.bk=zPl)=b2 at *;generalize decide (x.nx=zPl)=b3 at *;generalize decide (x.st=zSt)=b6 at *;clear HP HW HF HX0;generalize zbc x=B at *;refine zee ?_;rcases zp6 b0 b1 b2 b3 b4 b5 b6 with rfl | ⟨rfl,rfl⟩ | ⟨rfl,rfl,rfl⟩ | ⟨rfl,rfl,rfl,rfl⟩ | ⟨rfl,rfl,rfl,rfl,rfl⟩ | ⟨rfl,rfl,rfl,rfl,rfl,rfl⟩ | ⟨rfl,rfl,rfl,rfl,rfl,rfl,rfl⟩ | ⟨rfl,rfl,rfl,rfl,rfl,rfl,rfl⟩
  all_goals
   repeat (go_big_quiet_step (first | (with_reducible exact Cc1.out _ _) | (with_reducible exact Cc2.out _ _) | (with_reducible exact Cc3.out _ _) | (with_reducible exact Cc4.out _ _)))
   refine wpQuiet_nil ?_;rintro _ ⟨⟨dq,osq⟩,rfl⟩;go_wp2_with fail;go_ret;exact⟨by rw[←HR.out,HE.out];rfl,K0.out.trans ((below_regrown W0 dq osq).mono K0.out.size)⟩
 case false=>
  have HE:Hid (zbc x=(decide ((x.key.length:Int)≤64)&&(decide (0<x.key.length)&&(decide (zaj x.pl)&&(decide (x.pl.ver≤x.high)&&(decide (x.high≤2147483647)&&(decide ((x.buf.length:Int)≤2048)&&((zbu x.pl x.st==0)&&((decide (x.bk=zPl) || (decide (zaj x.bk)&&(x.bk.ver==x.pl.par)))&&(decide (x.nx=zPl) || decide (zaj x.nx))))))))))):=by show zbc x=_;unfold zbc;rw[hh];rfl
  go_upto_region 5 with fail;clear x0 x1 x2 x3 x4 x5 x6 x7 x8 x9 x10 x11 x12 x13 x14 x15 x16 x17 x18 x19 x20 x21 x22 x23 x24 hh;have c1:=RgC.of (v:= .bool (decide (x.bk=zPl))) fun W hb=>zh3 x.bk _ _ _ _ W (HW.out W hb).bk HF.out.bk;unfold plV at c1;have Cc1:=hI c1;have c2:=RgC.of (v:= .bool (decide (x.nx=zPl))) fun W hb=>zh3 x.nx _ _ _ _ W (HW.out W hb).nx HF.out.nx;unfold plV at c2;have Cc2:=hI c2;have c3:=RgC.of (v:= .bool (decide (zaj x.pl))) fun W hb=>zlq x.pl _ _ _ _ W (HW.out W hb).pl HF.out.pl;unfold plV at c3;have Cc3:=hI c3;have c4:=RgC.of (v:= .bool (decide (zaj x.bk))) fun W hb=>zlq x.bk _ _ _ _ W (HW.out W hb).bk HF.out.bk;unfold plV at c4;have Cc4:=hI c4;have c5:=RgC.of (v:= .bool (decide (zaj x.nx))) fun W hb=>zlq x.nx _ _ _ _ W (HW.out W hb).nx HF.out.nx;unfold plV at c5;have Cc5:=hI c5;have c6:=RgC.of (v:= .int .i64 (zbu x.pl x.st)) fun W hb=>znf x.pl x.st _ _ _ _ _ _ _ W (HW.out W hb).pl HF.out.pl (HW.out W hb).st HF.out.st;unfold plV stV at c6;have Cc6:=hI c6;clear c1 c2 c3 c4 c5 c6;obtain⟨x0,x1,x2,x3,x4,x5,x6,x7,x8,x9,x10,x11,x12,x13,x14,x15,x16,x17,x18,x19,x20,x21,x22,x23,x24⟩:=zef HX0.out;obtain⟨b1,t1⟩: ∃b,decide (0<x.key.length)=b:=⟨_,rfl⟩;obtain⟨b3,t3⟩: ∃b,decide (x.pl.ver≤x.high)=b:=⟨_,rfl⟩;obtain⟨b4,t4⟩: ∃b,decide (x.high≤2147483647)=b:=⟨_,rfl⟩;obtain⟨b5,t5⟩: ∃b,decide ((x.buf.length:Int)≤2048)=b:=⟨_,rfl⟩;obtain⟨b6,t6⟩: ∃b,(zbu x.pl x.st==0)=b:=⟨_,rfl⟩;obtain⟨e1,t7⟩: ∃b,(x.bk.ver==x.pl.par)=b:=⟨_,rfl⟩;rw[t0,t1,t3,t4,t5,t6,t7]at HE;generalize zbu x.pl x.st=E0 at *;generalize decide (x.bk=zPl)=n1 at *;generalize decide (x.nx=zPl)=n2 at *;generalize decide (zaj x.pl)=b2 at *;generalize decide (zaj x.bk)=r1 at *;generalize decide (zaj x.nx)=r2 at *;clear HP HW HF HX0;generalize zbc x=B at *;refine zee ?_;simp only[List.append_eq,List.cons_append,List.nil_append];rcases zx3 b0 b1 b2 b3 b4 b5 b6 n1 r1 e1 n2 r2 with rfl | ⟨rfl,rfl⟩ | ⟨rfl,rfl,rfl⟩ | ⟨rfl,rfl,rfl,rfl⟩ | ⟨rfl,rfl,rfl,rfl,rfl⟩ | ⟨rfl,rfl,rfl,rfl,rfl,rfl⟩ | ⟨rfl,rfl,rfl,rfl,rfl,rfl,rfl⟩ | ⟨rfl,rfl,rfl,rfl,rfl,rfl,rfl,rfl,rfl⟩ | ⟨rfl,rfl,rfl,rfl,rfl,rfl,rfl,rfl,rfl,rfl⟩ | ⟨rfl,rfl,rfl,rfl,rfl,rfl,rfl,rfl,rfl⟩ | ⟨rfl,rfl,rfl,rfl,rfl,rfl,rfl,rfl,rfl,rfl⟩ | ⟨rfl,rfl,rfl,rfl,rfl,rfl,rfl,rfl,rfl,rfl⟩ | ⟨rfl,rfl,rfl,rfl,rfl,rfl,rfl,rfl,rfl,rfl,rfl⟩ | ⟨rfl,rfl,rfl,rfl,rfl,rfl,rfl,rfl,rfl,rfl,rfl,rfl⟩ | ⟨rfl,rfl,rfl,rfl,rfl,rfl,rfl,rfl,rfl,rfl,rfl,rfl⟩
  all_goals
   repeat (go_big_quiet_step (first | (with_reducible exact Cc1.out _ _) | (with_reducible exact Cc2.out _ _) | (with_reducible exact Cc3.out _ _) | (with_reducible exact Cc4.out _ _) | (with_reducible exact Cc5.out _ _) | (with_reducible exact Cc6.out _ _)))
   refine wpQuiet_nil ?_;rintro _ ⟨⟨dq,osq⟩,rfl⟩;go_wp2_with fail;go_ret;exact⟨by rw[←HR.out,HE.out];rfl,K0.out.trans ((below_regrown W0 dq osq).mono K0.out.size)⟩
theorem zx5 (b0 b1 b2 b3 b4 b5 b6 b7 b8:Bool):(b0=false)∨(b0=true∧b1=false)∨(b0=true∧b1=true∧b2=false)∨(b0=true∧b1=true∧b2=true∧b3=false)∨(b0=true∧b1=true∧b2=true∧b3=true∧b4=false)∨(b0=true∧b1=true∧b2=true∧b3=true∧b4=true∧b5=false)∨(b0=true∧b1=true∧b2=true∧b3=true∧b4=true∧b5=true∧b6=false)∨(b0=true∧b1=true∧b2=true∧b3=true∧b4=true∧b5=true∧b6=true∧b7=false)∨(b0=true∧b1=true∧b2=true∧b3=true∧b4=true∧b5=true∧b6=true∧b7=true∧b8=false)∨(b0=true∧b1=true∧b2=true∧b3=true∧b4=true∧b5=true∧b6=true∧b7=true∧b8=true):=by
 cases b0
 ·simp
 cases b1
 ·simp
 cases b2
 ·simp
 cases b3
 ·simp
 cases b4
 ·simp
 cases b5
 ·simp
 cases b6
 ·simp
 cases b7
 ·simp
 cases b8
 ·simp
 simp
theorem zx6 (n1 r1 e1:Bool):n1=true∨(n1=false∧r1=true∧e1=true)∨(n1=false∧r1=false)∨(n1=false∧r1=true∧e1=false):=by
 cases n1<;>cases r1<;>cases e1<;>simp
theorem zx7 (n2 r2:Bool):n2=true∨(n2=false∧r2=true)∨(n2=false∧r2=false):=by
 cases n2<;>cases r2<;>simp
theorem zx8 (p:Pl) (st:St):(zbu p st==0)=decide (zde p st):=by
 rw[zx1];by_cases h:zaj p
 ·rw[if_pos h];by_cases h2:zde p st
  ·rw[if_pos h2,decide_eq_true h2];rfl
  ·rw[if_neg h2,decide_eq_false h2];rfl
 ·rw[if_neg h,decide_eq_false (fun k=>h k.1)];rfl
theorem zx9 (x:St):decide (x=zSt)=(((x.tks.length:Int)==0)&&(((x.sws.length:Int)==0)&&((x.lks.length:Int)==0))):=by
 rw[Bool.eq_iff_iff];simp only[decide_eq_true_iff,Bool.and_eq_true,beq_iff_eq];constructor
 ·rintro rfl;exact⟨rfl,rfl,rfl⟩
 ·rintro⟨h1,h2,h3⟩;exact zi9 (List.eq_nil_of_length_eq_zero (by omega)) (List.eq_nil_of_length_eq_zero (by omega)) (List.eq_nil_of_length_eq_zero (by omega))
theorem zaw:(Tryz.prog.info? 35).map (·.size)=some 25:=by kernel_rfl
theorem zfi {w:World}{act:Act}{o:Oper}{K:Act→Prop}{g:Nat}{a:Nat→Option Addr}{c:Nat→Nat}{x:Hs}(hg:jk w g (hsA a c x) 35) (p:Operand) (h:o.op= .load 35 p) (hx:act.eval p= .pointer (some ⟨g,0,none⟩))
  (hk:K (act.put o.dst (.agg (hsA a c x)))):o.quiet Tryz.prog act (fun w'=> ∃p:Regrown,w'=grow (redrawn w p.d) p.os) K:=
 zmw 35 p h g hx (hsA a c x) (fun w' ⟨p,e⟩=>by
  subst e
  exact⟨35,(0,0),((below_regrown w p.d p.os).block _ (zad hg)).trans hg⟩) _ Tryz.underlying35 rfl zaw hk
theorem zp7 (x:Hs) (a:Nat→Option Addr) (c:Nat→Nat) (w:World) (hx:HsM w a c x) (hxf:x.Fit):
  Calls Tryz.prog 19 #[hsV a c x] w (zdz w (if zbc x=true then 0 else 8)):=by
 obtain⟨R,hR⟩: ∃R,(if zbc x=true then 0 else 8:Int)=R:=⟨_,rfl⟩;have HC:Hid (∀W,jb w W→Calls Tryz.prog 31 #[hsV a c x] W (zdz W R)):=fun W hb=>by rw[←hR];exact zx4 x a c W (hx.below hb) hxf
 rw[hR];clear hR;unfold hsV at HC;have HP:Hid (∀W,jb w W→HsM W a c x):=fun W hb=>hx.below hb;have HF:Hid x.Fit:=hxf;clear hx hxf;unfold hsV;go_enter Tryz.func19,Tryz.ntmps19;go_upto_region 1 with fail;generalize hW0:World.alloc _ _=W0;have K0:Hid (jb w W0):=by show Below _ _ _;rw[←hW0];exact jal
 have HX0:Hid (jk W0 w.heap.size (hsA a c x) 35):=by show _=_;rw[←hW0];exact heap_alloc_new _ _
 clear hW0;have HW:Hid (∀W,jb W0 W→HsM W a c x):=fun W hb=>HP.out W (jo K0 hb);have k1:=RgC.of (v:= .int .i64 R) fun W hb=>HC.out W (jo K0 hb);have C1:=hI k1;clear k1 HP HW HF HC;refine zee ?_;go_big_quiet_want;refine zfi HX0.out (.tmp 1) rfl rfl ?_;simp[Act.put];go_big_quiet_on
 repeat (go_big_quiet_step (with_reducible exact C1.out _ _))
 refine wpQuiet_nil ?_;rintro _ ⟨⟨dq,osq⟩,rfl⟩;go_wp2_with fail;go_ret;exact⟨rfl,K0.out.trans ((below_regrown W0 dq osq).mono K0.out.size)⟩
theorem zp8 (x:Hs) (a:Nat→Option Addr) (c:Nat→Nat) (w:World) (hx:HsM w a c x) (hxf:x.Fit):
  Calls Tryz.prog 65 #[hsV a c x] w (zae w (zbc x)):=by
 have HP:Hid (∀W,jb w W→HsM W a c x):=fun W hb=>hx.below hb;have HF:Hid x.Fit:=hxf;clear hx hxf;unfold hsV;go_enter Tryz.func65,Tryz.ntmps65;go_upto_region 1 with fail;generalize hW0:World.alloc _ _=W0;have K0:Hid (jb w W0):=by show Below _ _ _;rw[←hW0];exact jal
 have HX0:Hid (jk W0 w.heap.size (hsA a c x) 35):=by show _=_;rw[←hW0];exact heap_alloc_new _ _
 clear hW0;have HW:Hid (∀W,jb W0 W→HsM W a c x):=fun W hb=>HP.out W (jo K0 hb);obtain⟨b0,t0⟩: ∃b,decide ((x.key.length:Int)≤64)=b:=⟨_,rfl⟩;have H1:Hid (∀V,jb W0 V→RgC _ _ V (.bool (decide (x.pl=zPl)))):=fun V hV=>RgC.of fun W hb=>zla x.pl _ _ _ _ W (HW.out W (jt hV hb)).pl HF.out.pl;have H2:Hid (∀V,jb W0 V→RgC _ _ V (.bool (decide (x.bk=zPl)))):=fun V hV=>RgC.of fun W hb=>zla x.bk _ _ _ _ W (HW.out W (jt hV hb)).bk HF.out.bk;have H3:Hid (∀V,jb W0 V→RgC _ _ V (.bool (decide (x.nx=zPl)))):=fun V hV=>RgC.of fun W hb=>zla x.nx _ _ _ _ W (HW.out W (jt hV hb)).nx HF.out.nx;have H4:Hid (∀V,jb W0 V→RgC _ _ V (.bool (decide (zaj x.pl)))):=fun V hV=>RgC.of fun W hb=>zhf x.pl _ _ _ _ W (HW.out W (jt hV hb)).pl HF.out.pl;have H5:Hid (∀V,jb W0 V→RgC _ _ V (.bool (decide (zaj x.bk)))):=fun V hV=>RgC.of fun W hb=>zhf x.bk _ _ _ _ W (HW.out W (jt hV hb)).bk HF.out.bk;have H6:Hid (∀V,jb W0 V→RgC _ _ V (.bool (decide (zaj x.nx)))):=fun V hV=>RgC.of fun W hb=>zhf x.nx _ _ _ _ W (HW.out W (jt hV hb)).nx HF.out.nx;have H7:Hid (∀V,jb W0 V→RgC _ _ V (.bool (decide (zde x.pl x.st)))):=fun V hV=>RgC.of fun W hb=>zx0 x.pl x.st _ _ _ _ _ _ _ W (HW.out W (jt hV hb)).pl HF.out.pl (HW.out W (jt hV hb)).st HF.out.st;have hrefl:jb W0 W0:=Below.refl _ _;obtain⟨x0,x1,x2,x3,x4,x5,x6,x7,x8,x9,x10,x11,x12,x13,x14,x15,x16,x17,x18,x19,x20,x21,x22,x23,x24⟩:=zdp HX0.out;cases hh:x.halted
 case true=>
  have HE:Hid (zbc x=(decide ((x.key.length:Int)≤64)&&(decide (x.pl=zPl)&&(decide (x.bk=zPl)&&(decide (x.nx=zPl)&&((x.high==0)&&(((x.buf.length:Int)==0)&&decide (x.st=zSt)))))))):=by show zbc x=_;unfold zbc;rw[hh];rfl
  rw[zx9]at HE;go_upto_region 2 with fail;clear x0 x1 x2 x3 x4 x5 x6 x7 x8 x9 x10 x11 x12 x13 x14 x15 x16 x17 x18 x19 x20 x21 x22 x23 x24 hh;have XV:=jm hrefl HX0.out;obtain⟨x0,x1,x2,x3,x4,x5,x6,x7,x8,x9,x10,x11,x12,x13,x14,x15,x16,x17,x18,x19,x20,x21,x22,x23,x24⟩:=zef XV;clear XV;have k1:=H1.out W0 hrefl;unfold plV at k1;have C1:=hI k1;clear k1;have k2:=H2.out W0 hrefl;unfold plV at k2;have C2:=hI k2;clear k2;have k3:=H3.out W0 hrefl;unfold plV at k3;have C3:=hI k3;clear k3;obtain⟨b4,t4⟩: ∃b,(x.high==0)=b:=⟨_,rfl⟩;obtain⟨b5,t5⟩: ∃b,((x.buf.length:Int)==0)=b:=⟨_,rfl⟩;obtain⟨b6,t6⟩: ∃b,((x.st.tks.length:Int)==0)=b:=⟨_,rfl⟩;obtain⟨b7,t7⟩: ∃b,((x.st.sws.length:Int)==0)=b:=⟨_,rfl⟩;obtain⟨b8,t8⟩: ∃b,((x.st.lks.length:Int)==0)=b:=⟨_,rfl⟩;rw[t0,t4,t5,t6,t7,t8]at HE;generalize decide (x.pl=zPl)=b1 at *;generalize decide (x.bk=zPl)=b2 at *;generalize decide (x.nx=zPl)=b3 at *;clear HP HW HF HX0 hrefl H1 H2 H3 H4 H5 H6 H7;generalize zbc x=B at *;rcases zx5 b0 b1 b2 b3 b4 b5 b6 b7 b8 with rfl | ⟨rfl,rfl⟩ | ⟨rfl,rfl,rfl⟩ | ⟨rfl,rfl,rfl,rfl⟩ | ⟨rfl,rfl,rfl,rfl,rfl⟩ | ⟨rfl,rfl,rfl,rfl,rfl,rfl⟩ | ⟨rfl,rfl,rfl,rfl,rfl,rfl,rfl⟩ | ⟨rfl,rfl,rfl,rfl,rfl,rfl,rfl,rfl⟩ | ⟨rfl,rfl,rfl,rfl,rfl,rfl,rfl,rfl,rfl⟩ | ⟨rfl,rfl,rfl,rfl,rfl,rfl,rfl,rfl,rfl⟩
  all_goals
   refine zee ?_
   repeat (go_big_quiet_step (first | (with_reducible exact C1.out _ _) | (with_reducible exact C2.out _ _) | (with_reducible exact C3.out _ _)))
   refine wpQuiet_nil ?_;rintro _ ⟨⟨dq,osq⟩,rfl⟩;go_wp2_with fail;go_ret;exact⟨by rw[HE.out];rfl,K0.out.trans ((below_regrown W0 dq osq).mono K0.out.size)⟩
 case false=>
  have HE:Hid (zbc x=(decide ((x.key.length:Int)≤64)&&(decide (0<x.key.length)&&(decide (zaj x.pl)&&(decide (x.pl.ver≤x.high)&&(decide (x.high≤2147483647)&&(decide ((x.buf.length:Int)≤2048)&&((zbu x.pl x.st==0)&&((decide (x.bk=zPl) || (decide (zaj x.bk)&&(x.bk.ver==x.pl.par)))&&(decide (x.nx=zPl) || decide (zaj x.nx))))))))))):=by show zbc x=_;unfold zbc;rw[hh];rfl
  rw[zx8]at HE;go_upto_region 3 with fail;clear x0 x1 x2 x3 x4 x5 x6 x7 x8 x9 x10 x11 x12 x13 x14 x15 x16 x17 x18 x19 x20 x21 x22 x23 x24 hh;obtain⟨b1,t1⟩: ∃b,decide (0<x.key.length)=b:=⟨_,rfl⟩;obtain⟨b3,t3⟩: ∃b,decide (x.pl.ver≤x.high)=b:=⟨_,rfl⟩;obtain⟨b4,t4⟩: ∃b,decide (x.high≤2147483647)=b:=⟨_,rfl⟩;obtain⟨b5,t5⟩: ∃b,decide ((x.buf.length:Int)≤2048)=b:=⟨_,rfl⟩;obtain⟨e1,t7⟩: ∃b,(x.bk.ver==x.pl.par)=b:=⟨_,rfl⟩;have s0:decide ((64:Int)<(x.key.length:Int))= !b0:=by rw[←t0,←decide_not,decide_eq_decide];omega
  have s1:decide ((x.key.length:Int)<1)= !b1:=by rw[←t1,←decide_not,decide_eq_decide];omega
  have s3:decide (x.high<x.pl.ver)= !b3:=by rw[←t3,←decide_not,decide_eq_decide];omega
  have s4:decide ((2147483647:Int)<x.high)= !b4:=by rw[←t4,←decide_not,decide_eq_decide];omega
  have s5:decide ((2048:Int)<(x.buf.length:Int))= !b5:=by rw[←t5,←decide_not,decide_eq_decide];omega
  have s7:(x.bk.ver != x.pl.par)= !e1:=by rw[←t7];rfl
  rw[t0,t1,t3,t4,t5,t7]at HE;clear t0 t1 t3 t4 t5 t7;generalize decide (x.bk=zPl)=n1 at *;generalize decide (x.nx=zPl)=n2 at *;generalize decide (zaj x.pl)=b2 at *;generalize decide (zaj x.bk)=r1 at *;generalize decide (zaj x.nx)=r2 at *;generalize decide (zde x.pl x.st)=b6 at *;generalize zbc x=B at *;have XV:=jm hrefl HX0.out;obtain⟨x0,x1,x2,x3,x4,x5,x6,x7,x8,x9,x10,x11,x12,x13,x14,x15,x16,x17,x18,x19,x20,x21,x22,x23,x24⟩:=zef XV;clear XV;have k4:=H4.out W0 hrefl;unfold plV at k4;have C4:=hI k4;clear k4;have k7:=H7.out W0 hrefl;unfold plV stV at k7;have C7:=hI k7;clear k7;refine zee ?_;rcases zp6 b1 b0 b2 b3 b4 b6 b5 with rfl | ⟨rfl,rfl⟩ | ⟨rfl,rfl,rfl⟩ | ⟨rfl,rfl,rfl,rfl⟩ | ⟨rfl,rfl,rfl,rfl,rfl⟩ | ⟨rfl,rfl,rfl,rfl,rfl,rfl⟩ | ⟨rfl,rfl,rfl,rfl,rfl,rfl,rfl⟩ | ⟨rfl,rfl,rfl,rfl,rfl,rfl,rfl⟩
  rotate_left 7
  ·repeat (go_big_quiet_step (first | (with_reducible exact C4.out _ _) | (with_reducible exact C7.out _ _)))
   refine wpQuiet_nil ?_;rintro _ ⟨⟨dq,osq⟩,rfl⟩;have hb1:=below_regrown W0 dq osq;generalize grow (redrawn W0 dq) osq=W1 at *;clear x0 x1 x2 x3 x4 x5 x6 x7 x8 x9 x10 x11 x12 x13 x14 x15 x16 x17 x18 x19 x20 x21 x22 x23 x24 C4 C7;go_upto_region 5 with fail;have XV:=jm hb1 HX0.out;obtain⟨x0,x1,x2,x3,x4,x5,x6,x7,x8,x9,x10,x11,x12,x13,x14,x15,x16,x17,x18,x19,x20,x21,x22,x23,x24⟩:=zef XV;clear XV;have k2:=H2.out W1 hb1;unfold plV at k2;have C2:=hI k2;clear k2;have k5:=H5.out W1 hb1;unfold plV at k5;have C5:=hI k5;clear k5;refine zee ?_;rcases zx6 n1 r1 e1 with rfl | ⟨rfl,rfl,rfl⟩ | ⟨rfl,rfl⟩ | ⟨rfl,rfl,rfl⟩
   all_goals
    repeat (go_big_quiet_step (first | (with_reducible exact C2.out _ _) | (with_reducible exact C5.out _ _)))
    refine wpQuiet_nil ?_;rintro _ ⟨⟨dr,osr⟩,rfl⟩;have hb2:=hb1.trans ((below_regrown W1 dr osr).mono hb1.size);generalize grow (redrawn W1 dr) osr=W2 at *;clear x0 x1 x2 x3 x4 x5 x6 x7 x8 x9 x10 x11 x12 x13 x14 x15 x16 x17 x18 x19 x20 x21 x22 x23 x24 C2 C5
   rotate_left 2
   iterate 2
    ·go_wp2_with fail;go_ret;exact⟨by rw[HE.out];rfl,jo K0 hb2⟩
   all_goals
    go_upto_region 7 with fail;have XV:=jm hb2 HX0.out;obtain⟨x0,x1,x2,x3,x4,x5,x6,x7,x8,x9,x10,x11,x12,x13,x14,x15,x16,x17,x18,x19,x20,x21,x22,x23,x24⟩:=zef XV;clear XV;have k3:=H3.out W2 hb2;unfold plV at k3;have C3:=hI k3;clear k3;have k6:=H6.out W2 hb2;unfold plV at k6;have C6:=hI k6;clear k6;refine zee ?_;rcases zx7 n2 r2 with rfl | ⟨rfl,rfl⟩ | ⟨rfl,rfl⟩
    all_goals
     repeat (go_big_quiet_step (first | (with_reducible exact C3.out _ _) | (with_reducible exact C6.out _ _)))
     refine wpQuiet_nil ?_;rintro _ ⟨⟨ds,oss⟩,rfl⟩;go_wp2_with fail;go_ret;exact⟨by rw[HE.out];rfl,K0.out.trans ((hb2.trans ((below_regrown W2 ds oss).mono hb2.size)).mono K0.out.size)⟩
  all_goals
   repeat (go_big_quiet_step (first | (with_reducible exact C4.out _ _) | (with_reducible exact C7.out _ _)))
   refine wpQuiet_nil ?_;rintro _ ⟨⟨dq,osq⟩,rfl⟩;go_wp2_with fail;go_ret;exact⟨by rw[HE.out];simp,K0.out.trans ((below_regrown W0 dq osq).mono K0.out.size)⟩
theorem zya (x:Hs) (a:Nat→Option Addr) (c:Nat→Nat) (w:World) (hx:HsM w a c x) (hxf:x.Fit):
  Calls Tryz.prog 20 #[hsV a c x] w (zdz w (if zbc x=true then 0 else 8)):=by
 obtain⟨R,hR⟩: ∃R,(if zbc x=true then 0 else 8:Int)=R:=⟨_,rfl⟩;have HC:Hid (∀W,jb w W→Calls Tryz.prog 65 #[hsV a c x] W (zae W (zbc x))):=fun W hb=>zp8 x a c W (hx.below hb) hxf;rw[hR];have HR:=hI hR;clear hR;unfold hsV at HC;generalize zbc x=B at *;have HP:Hid (∀W,jb w W→HsM W a c x):=fun W hb=>hx.below hb;have HF:Hid x.Fit:=hxf;clear hx hxf;unfold hsV;go_enter Tryz.func20,Tryz.ntmps20;go_upto_region 1 with fail;generalize hW0:World.alloc _ _=W0;have K0:Hid (jb w W0):=by show Below _ _ _;rw[←hW0];exact jal
 have HX0:Hid (jk W0 w.heap.size (hsA a c x) 35):=by show _=_;rw[←hW0];exact heap_alloc_new _ _
 clear hW0;have HW:Hid (∀W,jb W0 W→HsM W a c x):=fun W hb=>HP.out W (jo K0 hb);have k1:=RgC.of (v:= .bool B) fun W hb=>HC.out W (jo K0 hb);have C1:=hI k1;clear k1 HP HW HF HC;refine zee ?_;go_big_quiet_want;refine zfi HX0.out (.tmp 1) rfl rfl ?_;simp[Act.put];go_big_quiet_on;cases B
 all_goals
  repeat (go_big_quiet_step (with_reducible exact C1.out _ _))
  refine wpQuiet_nil ?_;rintro _ ⟨⟨dq,osq⟩,rfl⟩;go_wp2_with fail;go_ret;exact⟨by rw[←HR.out];rfl,K0.out.trans ((below_regrown W0 dq osq).mono K0.out.size)⟩
def up {α:Type}(f:Nat→α) (i:Nat) (v:α):Nat→α:=fun j=>if j=i then v else f j
def up4 {α:Type}(f:Nat→α) (i:Nat) (v0 v1 v2 v3:α):Nat→α:=up (up (up (up f i v0) (i+1) v1) (i+2) v2) (i+3) v3
section
variable (a:Nat→Option Addr) (c:Nat→Nat) (x:Hs) (b0 b1 b2 b3:Option Addr) (d0 d1 d2 d3:Nat)
theorem zlr:(hsA a c x).size=25:=rfl
theorem zcr:(hsA a c x).all (·.oneCell')=true:=by unfold hsA;simp[Value.oneCell']
end
abbrev HsD (g:Nat) (a:Nat→Option Addr) (c:Nat→Nat) (x:Hs):World→Prop:=fun W=>jk W g (hsA a c x) 35
theorem zp9 (g:Nat) (a:Nat→Option Addr) (c:Nat→Nat) (x:Hs):
  (∀t:InD (HsD g a c x),jc t.w g 0 (js (a 0) x.key.length (c 0)))∧
  (∀t:InD (HsD g a c x),jc t.w g 1 x.pl.ver)∧
  (∀t:InD (HsD g a c x),jc t.w g 2 x.pl.par)∧
  (∀t:InD (HsD g a c x),jc t.w g 3 (js (a 1) x.pl.S.length (c 1)))∧
  (∀t:InD (HsD g a c x),jc t.w g 4 (js (a 2) x.pl.P.length (c 2)))∧
  (∀t:InD (HsD g a c x),jc t.w g 5 (js (a 3) x.pl.G.length (c 3)))∧
  (∀t:InD (HsD g a c x),jc t.w g 6 (js (a 4) x.pl.R.length (c 4)))∧
  (∀t:InD (HsD g a c x),jc t.w g 7 x.bk.ver)∧
  (∀t:InD (HsD g a c x),jc t.w g 8 x.bk.par)∧
  (∀t:InD (HsD g a c x),jc t.w g 9 (js (a 5) x.bk.S.length (c 5)))∧
  (∀t:InD (HsD g a c x),jc t.w g 10 (js (a 6) x.bk.P.length (c 6)))∧
  (∀t:InD (HsD g a c x),jc t.w g 11 (js (a 7) x.bk.G.length (c 7)))∧
  (∀t:InD (HsD g a c x),jc t.w g 12 (js (a 8) x.bk.R.length (c 8)))∧
  (∀t:InD (HsD g a c x),jc t.w g 13 x.high)∧
  (∀t:InD (HsD g a c x),jc t.w g 14 (js (a 9) x.st.tks.length (c 9)))∧
  (∀t:InD (HsD g a c x),jc t.w g 15 (js (a 10) x.st.sws.length (c 10)))∧
  (∀t:InD (HsD g a c x),jc t.w g 16 (js (a 11) x.st.lks.length (c 11)))∧
  (∀t:InD (HsD g a c x),jc t.w g 17 (js (a 12) x.buf.length (c 12)))∧
  (∀t:InD (HsD g a c x),jc t.w g 18 x.nx.ver)∧
  (∀t:InD (HsD g a c x),jc t.w g 19 x.nx.par)∧
  (∀t:InD (HsD g a c x),jc t.w g 20 (js (a 13) x.nx.S.length (c 13)))∧
  (∀t:InD (HsD g a c x),jc t.w g 21 (js (a 14) x.nx.P.length (c 14)))∧
  (∀t:InD (HsD g a c x),jc t.w g 22 (js (a 15) x.nx.G.length (c 15)))∧
  (∀t:InD (HsD g a c x),jc t.w g 23 (js (a 16) x.nx.R.length (c 16)))∧
  (∀t:InD (HsD g a c x),jc t.w g 24 (.bool x.halted)):=
 ⟨fun t=>(cell_of_row t.w g 0 _ _ _ t.h).trans rfl,fun t=>(cell_of_row t.w g 1 _ _ _ t.h).trans rfl,fun t=>(cell_of_row t.w g 2 _ _ _ t.h).trans rfl,fun t=>(cell_of_row t.w g 3 _ _ _ t.h).trans rfl,fun t=>(cell_of_row t.w g 4 _ _ _ t.h).trans rfl,fun t=>(cell_of_row t.w g 5 _ _ _ t.h).trans rfl,fun t=>(cell_of_row t.w g 6 _ _ _ t.h).trans rfl,fun t=>(cell_of_row t.w g 7 _ _ _ t.h).trans rfl,fun t=>(cell_of_row t.w g 8 _ _ _ t.h).trans rfl,fun t=>(cell_of_row t.w g 9 _ _ _ t.h).trans rfl,fun t=>(cell_of_row t.w g 10 _ _ _ t.h).trans rfl,fun t=>(cell_of_row t.w g 11 _ _ _ t.h).trans rfl,fun t=>(cell_of_row t.w g 12 _ _ _ t.h).trans rfl,fun t=>(cell_of_row t.w g 13 _ _ _ t.h).trans rfl,fun t=>(cell_of_row t.w g 14 _ _ _ t.h).trans rfl,fun t=>(cell_of_row t.w g 15 _ _ _ t.h).trans rfl,fun t=>(cell_of_row t.w g 16 _ _ _ t.h).trans rfl,fun t=>(cell_of_row t.w g 17 _ _ _ t.h).trans rfl,fun t=>(cell_of_row t.w g 18 _ _ _ t.h).trans rfl,fun t=>(cell_of_row t.w g 19 _ _ _ t.h).trans rfl,fun t=>(cell_of_row t.w g 20 _ _ _ t.h).trans rfl,fun t=>(cell_of_row t.w g 21 _ _ _ t.h).trans rfl,fun t=>(cell_of_row t.w g 22 _ _ _ t.h).trans rfl,fun t=>(cell_of_row t.w g 23 _ _ _ t.h).trans rfl,fun t=>(cell_of_row t.w g 24 _ _ _ t.h).trans rfl⟩
def HsPost (w:World) (x:Hs) (e:Ending) (w':World):Prop:= ∃a c,e= .returned (hsV a c x)∧HsM (zar (old w.heap.size) w') a c x∧jb w w'
def zHs:Hs:=⟨[],zPl,zPl,0,zSt,[],zPl,false⟩
def nA:Nat→Option Addr:=fun _=>none
def nC:Nat→Nat:=fun _=>0
theorem za3:KeepsC RBy:=fun _ _ _ _ _ h=>h
theorem zh7:KeepsC RTk:=fun _ _ _ _ _ h=>h
theorem zh8:KeepsC RSw:=fun _ _ _ _ _ h=>h
theorem zh9:KeepsC RLk:=fun _ _ _ _ _ h=>h
theorem StM.ext {w w':World}{t s l:Value}{x:St}(h:StM w t s l x) (he:Ext w w'):StM w' t s l x:=⟨h.tks.ext zh7 he,h.sws.ext zh8 he,h.lks.ext zh9 he⟩
theorem HsM.ext {w w':World}{a:Nat→Option Addr}{c:Nat→Nat}{x:Hs}(h:HsM w a c x) (he:Ext w w'):HsM w' a c x:=
 ⟨h.key.ext za3 he,h.pl.ext he,h.bk.ext he,h.st.ext he,h.buf.ext za3 he,h.nx.ext he⟩
theorem HsPost.m {w w':World}{a:Nat→Option Addr}{c:Nat→Nat}{x:Hs}(h:HsM (zar (old w.heap.size) w') a c x):HsM w' a c x:=h.ext (ze5 _ _)
theorem zhg {W:World}{B:Nat}{a:Option Addr}{c:Nat}{l:List Int}(h:W.ownsRow B 5 1 (js a l.length c) l.length (l.flatMap byC)){S:Nat→Bool}(hS: ∀k,B≤k→S k=false):SlA (zar S W) 1 RBy a c l:=by
 obtain⟨a',c',e,h'⟩:=zeo (f:=byC) (R:=RBy) (zfg h hS) (fun _ _=>rfl) (fun _ _=>rfl);cases e;exact h'
theorem StOwn.off {W:World}{B:Nat}{t s l:Value}{x:St}(h:StOwn W B t s l x){S:Nat→Bool}(hS: ∀k,B≤k→S k=false):StM (zar S W) t s l x:=
 StOwn.stM (N:=B) ⟨zfg h.tks hS,zfg h.sws hS,zfg h.lks hS⟩
theorem zeu {n m:Nat}(h:n≤m): ∀k,m≤k→old n k=false:=fun k hk=>by unfold old;simp;omega
theorem zak {n k:Nat}(h:k<n):old n k=true:=by unfold old;simp[h]
section
variable {α:Type}{t e:TypeId}{sz by_:Nat}{z:Value}{f:α→List Value}{R:World→List Value→α→Prop}{w:World}{a:Option Addr}{cap:Nat}{l:List α}
theorem zgt (ty:TypeId) (hu:Tryz.prog.underlying t=some (.slice e)) (hinf:(Tryz.prog.info? e).map (fun i=>(i.zero,i.size,i.bytes))=some (some z,sz,by_)) (hzs:z.cells.size=sz) (hsz:0<sz)
  (hlen: ∀x,(f x).length=sz) (hone: ∀x,∀u∈f x,u.oneCell'=true) (hR: ∀w vs x,R w vs x→vs=f x) (hl:SlA w sz R a cap l) (hm:l.length≤maxLen) (hb:l.length * by_≤140737488355328):
  ∃a' c' w',(Builtin.append_ #[t,t] ty #[.slice none 0 0,js a l.length cap]).run Tryz.prog w= .ok (js a' l.length c') w'∧w'.ownsRow w.heap.size e sz (js a' l.length c') l.length (l.flatMap f)∧jb w w':=by
 obtain⟨i0,hi,hz0,hz1,hz2⟩:=info_parts hinf;by_cases h0:l=[]
 ·subst h0;refine⟨none,0,w,?_,World.ownsRow_nil _ _ _ _,Below.refl _ _⟩;cases a<;>simp[Builtin.append_,run_underlying hu,sizeOf,typeInfo,hi,Builtin.lenOf,Builtin.firstCells,loadCells,loadCellsFrom]
 ·obtain⟨b,off,vs0,e0,-⟩:=hl.at_ 0 (List.length_pos_iff.2 h0);cases e0
  obtain⟨v',w',hr,h1,h2,-⟩:=run_append_own_at (P:=Tryz.prog) w w.heap.size t ty e i0 z sz by_ hu hi hz0 hz1 hz2 hzs hsz (.slice none 0 0) 0 [] (World.ownsRow_nil _ _ _ _) ⟨b,off,none⟩ l.length cap (l.flatMap f) (zcc _ sz l (fun x _=>hlen x)) (fun j u hj=>by
   rw[Addr.add_lit]
   exact zld (f:=f) hl (fun x _=>hlen x) (fun vs x h=>hR _ vs x h) hsz j u hj) (fun u hu=>by
   obtain⟨y,-,hy⟩:=List.mem_flatMap.1 hu
   exact hone y u hy) (by omega) (by rw[Nat.zero_add];exact hb) (Nat.le_refl _)
  rw[Nat.zero_add,List.nil_append]at h1;obtain⟨a',c',rfl⟩:=zb3 h1;exact⟨a',c',w',hr,h1,zcw (World.ownsRow_nil w w.heap.size e sz) (Nat.le_refl _) (Nat.le_refl _) h2⟩
end
section
variable {w:World}{a:Option Addr}{cap:Nat}(ty:TypeId)
def zd5 (t e:TypeId) (sz:Nat) (ty:TypeId) (w:World) (a:Option Addr) (n cap:Nat) (xs:List Value):Prop:=
 ∃a' c' w',(Builtin.append_ #[t,t] ty #[.slice none 0 0,js a n cap]).run Tryz.prog w= .ok (js a' n c') w'∧w'.ownsRow w.heap.size e sz (js a' n c') n xs∧jb w w'
theorem zyb {l:List Jn}(hl:SlA w 2 RJn a cap l) (hm:l.length≤8796093022208):zd5 78 133 2 ty w a l.length cap (l.flatMap jnC):=
 zgt ty Tryz.underlying78 zj3 rfl (by decide) (fun _=>rfl) zns (fun _ _ _ h=>h) hl (by unfold maxLen;omega) (by omega)
theorem zyc {l:List Pt}(hl:SlA w 2 RPt a cap l) (hm:l.length≤1000):zd5 24 143 2 ty w a l.length cap (l.flatMap ptC):=
 zgt ty Tryz.underlying24 znl rfl (by decide) (fun _=>rfl) znq (fun _ _ _ h=>h) hl (by unfold maxLen;omega) (by omega)
theorem zyd {l:List Sg}(hl:SlA w 3 RSg a cap l) (hm:l.length≤1000):zd5 25 145 3 ty w a l.length cap (l.flatMap zd2):=
 zgt ty Tryz.underlying25 znm rfl (by decide) (fun _=>rfl) znr (fun _ _ _ h=>h) hl (by unfold maxLen;omega) (by omega)
theorem zls {l:List Int}(hl:SlA w 1 RBy a cap l) (hm:l.length≤10000):zd5 22 5 1 ty w a l.length cap (l.flatMap byC):=
 zgt ty Tryz.underlying22 znn rfl (by decide) (fun _=>rfl) znt (fun _ _ _ h=>h) hl (by unfold maxLen;omega) (by omega)
theorem zye {l:List Tk}(hl:SlA w 2 RTk a cap l) (hm:l.length≤1000):zd5 29 106 2 ty w a l.length cap (l.flatMap tkC):=
 zgt ty Tryz.underlying29 ziw rfl (by decide) (fun _=>rfl) zks (fun _ _ _ h=>h) hl (by unfold maxLen;omega) (by omega)
theorem zyf {l:List Sw}(hl:SlA w 3 RSw a cap l) (hm:l.length≤1000):zd5 30 108 3 ty w a l.length cap (l.flatMap swC):=
 zgt ty Tryz.underlying30 zix rfl (by decide) (fun _=>rfl) zkt (fun _ _ _ h=>h) hl (by unfold maxLen;omega) (by omega)
theorem zyg {l:List Lk}(hl:SlA w 4 RLk a cap l) (hm:l.length≤1000):zd5 31 99 4 ty w a l.length cap (l.flatMap lkC):=
 zgt ty Tryz.underlying31 ziy rfl (by decide) (fun _=>rfl) zku (fun _ _ _ h=>h) hl (by unfold maxLen;omega) (by omega)
end
theorem zia {t e:TypeId}{sz n cap:Nat}{xs:List Value}{w:World}{ops:Array Oper}{rest:List Oper}{o:Oper}{a:Act}{Q:Exit→Act→World→Prop}{a0:Option Addr}(hgd:o.guard=none) (s x:Operand)
  (ho:o.op= .call {callee:= .builtin .append,args:=#[s,x],argTypes:=#[t,t]}) (hs:a.eval s= .slice none 0 0) (hx:a.eval x= .slice a0 n cap) (hr:zd5 t e sz o.type w a0 n cap xs)
  (h: ∀a' c' w',w'.ownsRow w.heap.size e sz (js a' n c') n xs→jb w w'→wpList Tryz.prog ops Q rest (a.put o.dst (js a' n c')) w'):wpList Tryz.prog ops Q (o::rest) a w:=by
 obtain⟨a',c',w',h1,h2,h3⟩:=hr;exact Go.Lib.wpList_append_run w hgd s x t t ho _ _ hs hx _ _ h1 (h a' c' w' h2 h3)
theorem zjk {t e:TypeId}{sz n cap:Nat}{xs:List Value}{w:World}{ops:Array Oper}{i:Nat}{o:Oper}{a:Act}{Q:Exit→Act→World→Prop}{K:Act→World→Prop}{a0:Option Addr}(h:ops[i]? =some o) (hgd:o.guard=none) (s x:Operand)
  (ho:o.op= .call {callee:= .builtin .append,args:=#[s,x],argTypes:=#[t,t]}) (hs:a.eval s= .slice none 0 0) (hx:a.eval x= .slice a0 n cap) (hr:zd5 t e sz o.type w a0 n cap xs)
  (hK: ∀a' c' w',w'.ownsRow w.heap.size e sz (js a' n c') n xs→jb w w'→K (a.put o.dst (js a' n c')) w'):wpOp Tryz.prog ops Q i K a w:=by
 obtain⟨a',c',w',h1,h2,h3⟩:=hr;exact zgs h hgd s x t ho _ _ _ w' hs hx h1 (hK a' c' w' h2 h3)
theorem zyh (s:Sec) (y0:Option Addr) (y2:Nat) (w:World) (h:SlA w 2 RJn y0 y2 s.ends) (hm:s.ends.length≤8796093022208):
  Calls Tryz.prog 131 #[.agg #[s.id,s.pt,js y0 s.ends.length y2]] w fun e w'=> ∃u d,e= .returned (.agg #[s.id,s.pt,js u s.ends.length d])∧w'.ownsRow w.heap.size 133 2 (js u s.ends.length d) s.ends.length (s.ends.flatMap jnC)∧jb w w':=by
 have HA:Hid (∀W ty,jb w W→zd5 78 133 2 ty W y0 s.ends.length y2 (s.ends.flatMap jnC)):=fun W ty hb=>zyb ty (h.below zcn hb) hm;clear h hm;go_enter Tryz.func131,Tryz.ntmps131;go_upto_region 1 with fail;generalize hW0:World.alloc (World.alloc _ _) _=W0;have F:Hid (Fr w [(#[s.id,s.pt,js y0 s.ends.length y2],80),(#[.int .i64 0,.int .i64 0,.slice none 0 0],80)] W0):=by show Fr _ _ _;rw[←hW0];exact((Fr.start w).alloc rfl _ 80).alloc (by simp) _ 80
 clear hW0;have x2:jc W0 w.heap.size 2 (js y0 s.ends.length y2):=jr (F.out.row 0 _ rfl);have l0:w.heap.size<W0.heap.size:=F.out.lt (i:=0) (by simp);go_upto_region 3 with(at_builtin;refine zia rfl _ _ rfl rfl rfl (HA.out _ _ F.out.bel) ?_;intro u d W1 hown hb;have F1:=hI (F.out.below hb);have x2':jc W1 w.heap.size 2 (js y0 s.ends.length y2):=jr (F1.out.row 0 _ rfl);have f2:W1.frozen? ⟨w.heap.size,2,none⟩=false:=(by have:=F1.out.row 0 _ rfl;simp[World.frozen?,show W1.heap[w.heap.size]? =_ from this]));generalize hWE:World.setCell _ _ _=W2;have F2:Hid (Fr w [(#[s.id,s.pt,js u s.ends.length d],80),(#[.int .i64 0,.int .i64 0,.slice none 0 0],80)] W2):=by show Fr _ _ _;rw[←hWE];exact F1.out.set 0 rfl 2 _
 have O2:Hid (W2.ownsRow (w.heap.size+2) 133 2 (js u s.ends.length d) s.ends.length (s.ends.flatMap jnC)):=by show World.ownsRow _ _ _ _ _ _ _;rw[←hWE];exact zag (zav hown F.out.sz) (by simp) _
 clear hWE hown hb F F1 x2 x2' f2 l0;go_step;refine wpList_load_row rfl 80 (.tmp 1) rfl w.heap.size rfl 80 _ (0,0) _ (F2.out.row 0 _ rfl) Tryz.underlying80 rfl (by kernel_rfl) ?_;simp[Act.put];refine zbh rfl 80 (.tmp 2) (.tmp 9) rfl (w.heap.size+1) #[s.id,s.pt,js u s.ends.length d] _ 80 rfl rfl (F2.out.row 1 _ rfl) (by kernel_rfl) rfl (by simp[Value.oneCell']) ?_;have F3:Hid (Fr w [(#[s.id,s.pt,js u s.ends.length d],80),(#[s.id,s.pt,js u s.ends.length d],80)] (W2.setRow (w.heap.size+1) #[s.id,s.pt,js u s.ends.length d])):=F2.out.setRow 1 rfl _;have O3:=zpx (C:=#[s.id,s.pt,js u s.ends.length d]) O2.out (F2.out.row 1 _ rfl) (by decide);generalize World.setRow _ _ _=W3 at *;simp[Act.put];go_wp2_with fail;refine bodyPost_ret (v:= .agg #[s.id,s.pt,js u s.ends.length d]) (results_cell_row rfl _ _ (w.heap.size+1) 80 _ (0,0) _ rfl (F3.out.row 1 _ rfl) Tryz.underlying80 rfl (by kernel_rfl)) rfl ?_;exact⟨u,d,rfl,zav O3 (by omega),F3.out.bel⟩
def msk (N:Nat) (v:Value):Nat→Bool:=fun b=>decide (b<N) || decide (v.ownBlock=some b)
abbrev zd6 {α:Type}(W:World) (N:Nat) (T:TypeId) (sz:Nat) (R:World→List Value→α→Prop) (v:Value) (l:List α):Prop:=OwnRs W N T sz v (fun _=>R (zar (msk N v) W)) l
section
variable {α:Type}{W W':World}{N T sz:Nat}{R:World→List Value→α→Prop}{v v':Value}{l:List α}
theorem zib (W:World) (N T sz:Nat) (R:World→List Value→α→Prop):zd6 W N T sz R (.slice none 0 0) ([]:List α):=⟨[],World.ownsRow_nil W N T sz,rfl,fun x h=>by simp at h,fun i h=>by simp at h⟩
theorem zej (hR:KeepsC R) (h:zd6 W N T sz R v l) (hb:jb W W'):zd6 W' N T sz R v l:=(OwnRs.below h hb).imp fun _ vs y k=>hR _ _ _ _ (zay hb) k
theorem zgu (hR:KeepsC R) (h:zd6 W N T sz R v l){g:Nat}(ho:Onl g W W') (hg:g<N):zd6 W' N T sz R v l:=
 (OwnRs.only h ho (fun e=>by obtain⟨xss,h1,-⟩:=h;obtain⟨c,q,hq⟩:=zb1 h1 e;omega)).imp fun _ vs y k=>hR _ _ _ _ (ho.off (by unfold msk;simp[hg])) k
theorem zqa (h:zd6 W N T sz R v l){b:Nat}(hb:W.heap.size≤b) (hN:N≤b):msk N v b=false:=by
 obtain⟨xss,h1,-⟩:=h;unfold msk;rw[decide_eq_false (p:=b<N) (by omega),decide_eq_false (p:=v.ownBlock=some b) (fun e=>by obtain⟨c,q,hq⟩:=zb1 h1 e;have:=zad q;omega)];rfl
theorem zic {t:TypeId}{z:Value}{by_:Nat}(ty:TypeId) (hR:KeepsC R) (h:zd6 W N T sz R v l) (hu:Tryz.prog.underlying t=some (.slice T)) (hinf:(Tryz.prog.info? T).map (fun i=>(i.zero,i.size,i.bytes))=some (some z,sz,by_))
  (hzs:z.cells.size=sz) (hsz:0<sz) (hby:by_≤1000) (hn:l.length≤1000) (hN:N≤W.heap.size){b:Nat}{vs:List Value}{T':TypeId}(hb:jk W b vs.toArray T') (hvs:vs.length=sz) (hone: ∀u∈vs,u.oneCell'=true){x:α}(hx:R (zar (msk N v) W) vs x):
  ∃a' c' w',(Builtin.append_ #[t,t] ty #[v,jq b 0 1 1]).run Tryz.prog W= .ok (js a' (l.length+1) c') w'∧zd6 w' N T sz R (js a' (l.length+1) c') (l++[x])∧Below N W w':=by
 obtain⟨i0,hi,hz0,hz1,hz2⟩:=info_parts hinf;obtain⟨xss,h1,h2,h3,h4⟩:=h;have hmul:(xss.length+1) * by_≤140737488355328:=Nat.le_trans (Nat.mul_le_mul (by omega:xss.length+1≤1001) hby) (by decide)
 obtain⟨v1,w',hr,k1,k2,-,k4⟩:=run_append_own_at (P:=Tryz.prog) W N t ty T i0 z sz by_ hu hi hz0 hz1 hz2 hzs hsz v xss.length (xss.flatMap id) h1 ⟨b,0,none⟩ 1 1 vs (by rw[hvs,Nat.one_mul]) (fun j u hj=>by
  rw[zfc,cell_of_row _ _ j _ _ _ hb]
  simpa using hj) hone (by unfold maxLen;omega) hmul hN
 obtain⟨a',c',rfl⟩:=zb3 k1
 have hE:Ext (zar (msk N v) W) (zar (msk N (js a' (xss.length+1) c')) w'):=fun p u e=>by
  obtain⟨e1,e2⟩:=zjb e;have hlt:=block_lt_of_cell e2;unfold msk at e1;simp only[Bool.or_eq_false_iff,decide_eq_false_iff_not]at e1
  have hnew:msk N (js a' (xss.length+1) c') p.block=false:=by
   unfold msk;simp only[Bool.or_eq_false_iff,decide_eq_false_iff_not];refine⟨e1.1,fun e3=> ?_⟩;rcases k4 with k4 | k4
   ·rw[k4]at e3;exact e1.2 e3
   ·rw[k4]at e3
    injection e3 with e3
    omega
  rw[World.cell?_of_block (w:=w') (zhc hnew),World.cell?_of_block (w:=W) (k2.block _ hlt (fun e3=>e1.2 e3.symm))];exact e2
 rw[h2]at hE;refine⟨a',c',w',by rw[←h2];exact hr,?_,zcw h1 (Nat.le_refl _) hN k2⟩;refine⟨xss++[vs],by rw[List.length_append,List.length_singleton,←h2];simpa using k1,by simp[h2],fun y hy=> ?_,fun i hi hi'=> ?_⟩
 ·rcases List.mem_append.1 hy with hy | hy
  ·exact h3 y hy
  ·rw[List.mem_singleton.1 hy];exact hvs
 ·show R _ _ _;by_cases hlt:i<xss.length
  ·rw[List.getElem_append_left hlt,List.getElem_append_left (by omega)];exact hR _ _ _ _ hE (h4 i hlt (by omega))
  ·have e:i=xss.length:=(by simp at hi;omega);subst e;rw[List.getElem_append_right (by omega),List.getElem_append_right (by omega)];simp only[h2,Nat.sub_self,List.getElem_singleton];exact hR _ _ _ _ hE hx
end
structure Kp (g:Nat) (V W:World):Prop where
 sz:V.heap.size≤W.heap.size
 blk: ∀k,k<V.heap.size→k≠g→W.heap[k]? =V.heap[k]?
section
variable {g:Nat}{V W W':World}
theorem Kp.refl (g:Nat) (V:World):Kp g V V:=⟨Nat.le_refl _,fun _ _ _=>rfl⟩
theorem Kp.below (h:Kp g V W){B:Nat}(hB:V.heap.size≤B) (hb:Below B W W'):Kp g V W':=⟨Nat.le_trans h.sz hb.size,fun k hk hg=>(hb.block k (by omega)).trans (h.blk k hk hg)⟩
theorem Kp.onl (h:Kp g V W) (ho:Onl g W W'):Kp g V W':=⟨by rw[ho.size];exact h.sz,fun k hk hg=>(ho.block k hg).trans (h.blk k hk hg)⟩
theorem Kp.ext (h:Kp g V W){S:Nat→Bool}(hS:S g=true):Ext (zar S V) (zar S W):=zle fun k hk hs=>h.blk k hk (fun e=>by rw[e,hS]at hs;cases hs)
theorem Kp.own (h:Kp g V W){B T sz n:Nat}{v:Value}{xs:List Value}(ho:V.ownsRow B T sz v n xs) (hB:g<B):W.ownsRow B T sz v n xs:=by
 refine⟨ho.1,?_⟩;rcases ho.2 with hn | ⟨k,cap,cur,rfl,hbg,hgg,rest⟩
 ·exact .inl hn
 ·exact .inr ⟨k,cap,cur,rfl,hbg,(h.blk k (zad hgg) (by omega)).trans hgg,rest⟩
end
theorem Fr.low {w W W':World}{L:List (Array Value × TypeId)}(h:Fr w L W) (hb:Below (w.heap.size+L.length) W W'):Fr w L W':=
 ⟨h.bel.trans (hb.mono (by omega)),Nat.le_trans h.sz hb.size,fun i c hc=>by
  have hlt:=(List.getElem?_eq_some_iff.1 hc).1
  exact(hb.block _ (by omega)).trans (h.row i c hc)⟩
theorem zqb {α:Type}{W W':World}{N n T sz:Nat}{R:World→List Value→α→Prop}{v:Value}{l:List α}(hR:KeepsC R) (h:zd6 W N T sz R v l) (hn:n≤N) (hE:Ext (zar (msk N v) W) (zar (msk N v) W')) (hO: ∀m xs,W.ownsRow N T sz v m xs→W'.ownsRow N T sz v m xs):Sl (zar (old n) W') sz R v l:=by
 obtain⟨xss,h1,h2,h3,h4⟩:=h;have hE2:Ext (zar (msk N v) W') (zar (old n) W'):=zlf fun k hk=>by unfold msk at hk;unfold old;simp at *;omega
 exact OwnRs.sl (R2:=R) (W:=zar (old n) W') ⟨xss,zfg (hO _ _ h1) (fun k hk=>by unfold old;simp;omega),h2,h3,fun i hi hi'=>hR _ _ _ _ (hE.trans hE2) (h4 i hi hi')⟩
theorem zlt {α:Type}{W:World}{N T sz:Nat}{R:World→List Value→α→Prop}{f:α→List Value}{v:Value}{l:List α}(hR: ∀w vs x,R w vs x→vs=f x) (h:zd6 W N T sz R v l):W.ownsRow N T sz v l.length (l.flatMap f):=by
 obtain⟨xss,h1,h2,h3,h4⟩:=h
 have e:xss=l.map f:=List.ext_getElem (by simp[h2]) fun i hi hi'=>by
  rw[List.getElem_map];exact hR _ _ _ (h4 i hi (by simpa using hi'))
 rw[e]at h1
 simpa [List.flatMap_map,Function.comp_def]using h1
theorem zev {P:Program}{fn:Func}{p u:Tmp}{ty:TypeId}(h:fn.results=#[.cell p ty,.tmp u]) (tmps:Array Value) (w:World) (g:Nat) (t:TypeId) (cs:Array Value) (fr:Nat × Nat) (d:TypeDesc) (x:Value)
  (hp:tmps.getD p undef= .pointer (some ⟨g,0,none⟩)) (hx:tmps.getD u undef=x) (hg:w.heap[g]? =some (.cells cs t fr))
  (hu:P.underlying ty=some d) (hd:(match d with | .struct _ | .array _ _=>true | _=>false)=true) (hi:(P.info? ty).map (·.size)=some cs.size):
  (results fn tmps).run P w= .ok (.tuple #[.agg cs,x]) w:=by
 have hp':tmps[p]?.getD undef= .pointer (some ⟨g,0,none⟩):=by simpa using hp
 have hx':tmps[u]?.getD undef=x:=by simpa using hx
 simp[results,h,hp',hx',asAddr,run_loadVar_row w g t ty cs fr d hg hu hd hi]
end Go.Proofs.YtbiehpjhhopjaaaGreat
