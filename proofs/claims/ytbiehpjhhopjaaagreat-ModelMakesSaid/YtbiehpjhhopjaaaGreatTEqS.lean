/-
 The references' small words,walked:how a point has to lie,which signal zem,a point's place,a lock's phase,a route's sections.
-/
import Derived.Test.YtbiehpjhhopjaaaGreatTRefA
import Derived.Test.YtbiehpjhhopjaaaGreatTConcat
set_option linter.unusedVariables false
set_option linter.unusedSimpArgs false
set_option maxRecDepth 100000
set_option maxHeartbeats 16000000
namespace Go.Proofs.YtbiehpjhhopjaaaGreat
open Go.RowKit Go.Sort
def zfp (w:World) (n:Int) (e:Ending) (w':World):Prop:=e= .returned (.int .i64 n)∧jb w w'
theorem zob (x:Sec) (a':Option Addr) (c':Nat) (a b:Int) (w:World):Calls Tryz.prog 314 #[zcd x a' c',a,b] w (zfp w (zbs x a b)):=by
 have HL:Hid (∀n:Int,(if x.pt=0 then(if(a=0∧b=1)∨(a=1∧b=0)then 0 else-1)else if a=0∧(b=1∨b=2)then b else if b=0∧(a=1∨a=2)then a else-1)=n→zfp w (zbs x a b) (.returned (.int .i64 n)) (w.alloc (.cells #[x.id,x.pt,js a' x.ends.length c'] 80))):=fun n h=>by
  subst h;exact⟨rfl,jal⟩
 generalize zbs x a b=L at *;unfold zcd;go_enter Tryz.func314,Tryz.ntmps314;go_wp2_with fail
 all_goals
  go_ret;refine HL.out _ ?_;simp only[beq_iff_eq,beq_eq_false_iff_ne,ne_eq]at *
  repeat' split
  all_goals omega
theorem zvy {p:Pl}{a b:Int}{k:Nat}(hk:k<p.G.length) (h1:p.G[k].sec=a) (h2:p.G[k].en=b) (hno: ∀j (h:j<p.G.length),j<k→decide (p.G[j].sec=a∧p.G[j].en=b)=false):za9 p a b=p.G[k].id:=by
 unfold za9;have:p.G.find? (fun x=>decide (x.sec=a∧x.en=b))=some p.G[k]:=List.find?_eq_some_iff_getElem.2 ⟨decide_eq_true ⟨h1,h2⟩,k,hk,rfl,fun j hj=>by rw[hno j (by omega) hj];rfl⟩;rw[this]
theorem zvz {p:Pl}{a b:Int}(hno: ∀j (h:j<p.G.length),decide (p.G[j].sec=a∧p.G[j].en=b)=false):za9 p a b=0:=by
 unfold za9;rw[List.find?_eq_none.2];intro x hx;obtain⟨i,hi,rfl⟩:=List.getElem_of_mem hx;rw[hno i hi];simp
theorem zoc (p:Pl) (s q gg rr:Value) (a b:Int) (w:World) (hp:PlM w s q gg rr p) (hf:p.Fit):Calls Tryz.prog 219 #[plV p s q gg rr,a,b] w (zfp w (za9 p a b)):=by
 have HN:Hid ((∀j (h:j<p.G.length),decide (p.G[j].sec=a∧p.G[j].en=b)=false)→za9 p a b=0):=zvz;have HA:Hid (∀k (hk:k<p.G.length),p.G[k].sec=a→p.G[k].en=b→(∀j (h:j<p.G.length),j<k→decide (p.G[j].sec=a∧p.G[j].en=b)=false)→za9 p a b=p.G[k].id):=fun k hk=>zvy hk;obtain⟨a3,k3,rfl,h3⟩:=hp.G;have HS:Hid (∀W,jb w W→SlA W 3 RSg a3 k3 p.G):=fun W hb=>h3.below zcu hb;have hm:=hf.G;clear hp hf h3;generalize za9 p a b=L at *;unfold plV;go_enter Tryz.func219,Tryz.ntmps219;go_upto_region 1 with fail;generalize hW0:World.alloc _ _=W0;have K0:Hid (jb w W0):=by show Below _ _ _;rw[←hW0];exact jal
 have pp4:jc W0 w.heap.size 4 (js a3 p.G.length k3):=by rw[←hW0];simp
 have lb:=block_lt_of_cell pp4;clear hW0;go_wp2_with fail
 go_loop [7] (fun i=> ∃k:Nat,k≤p.G.length∧i= .int .i64 k∧ ∀j (h:j<p.G.length),j<k→decide (p.G[j].sec=a∧p.G[j].en=b)=false) (fun i=>p.G.length-(intOf i).toNat)
 case atStart=>exact⟨0,by omega,rfl,fun j h h0=>by omega⟩
 case round=>
  obtain⟨k,hk,rfl,hno⟩:=hrel;have HNO:=hI hno;clear hno;by_cases hlt:k<p.G.length
  ·have hd:decide ((k:Int)<(p.G.length:Int))=true:=(by simp;omega);obtain⟨b',off,rfl,x0,x1,x2⟩:=(HS.out _ K0.out).sg hlt;have c0:(0:Int)≤(k:Int):=(by omega);have c1:(k:Int)<(p.G.length:Int):=(by omega);have l9:=World.block_lt_of_cell? _ _ x0;by_cases h1:p.G[k].sec=a
   ·have e1:(p.G[k].sec==a)=true:=(by simp[h1]);by_cases h2:p.G[k].en=b
    ·have e2:(p.G[k].en==b)=true:=(by simp[h2]);have HE:=hI (HA.out k hlt h1 h2 HNO.out);clear h1 h2;go_wp2_with fail;go_ret;exact⟨za0 HE.out.symm,K0.out⟩
    ·have e2:(p.G[k].en==b)=false:=(by simp[h2]);have HE:Hid (decide (p.G[k].sec=a∧p.G[k].en=b)=false):=(by show _=_;simp[h2]);clear h1 h2;go_wp2_with fail;go_round
     case rel=>
      refine⟨k+1,by omega,by go_num,fun j h hj=> ?_⟩;by_cases hjk:j=k
      ·subst hjk;exact HE.out
      ·exact HNO.out j h (by omega)
     case measure=>simp[intOf];omega
   ·have e1:(p.G[k].sec==a)=false:=(by simp[h1]);have HE:Hid (decide (p.G[k].sec=a∧p.G[k].en=b)=false):=(by show _=_;simp[h1]);clear h1;go_wp2_with fail;go_round
    case rel=>
     refine⟨k+1,by omega,by go_num,fun j h hj=> ?_⟩;by_cases hjk:j=k
     ·subst hjk;exact HE.out
     ·exact HNO.out j h (by omega)
    case measure=>simp[intOf];omega
  ·obtain rfl:k=p.G.length:=(by omega);have hd:decide ((p.G.length:Int)<(p.G.length:Int))=false:=(by simp);have HE:=hI (HN.out fun j hj=>HNO.out j hj hj);go_wp2_with fail;go_ret;exact⟨za0 HE.out.symm,K0.out⟩
theorem zv0 (p:Pl) (s q gg rr:Value) (n:Int) (w:World) (hp:PlM w s q gg rr p) (hf:p.Fit):Calls Tryz.prog 223 #[plV p s q gg rr,n] w (zfp w (fix (fun x=>decide (x.id=n)) p.P)):=by
 have HN:Hid ((∀j (h:j<p.P.length),decide (p.P[j].id=n)=false)→fix (fun x=>decide (x.id=n)) p.P= -1):=fun h=>zfx h;have HA:Hid (∀k (hk:k<p.P.length),decide (p.P[k].id=n)=true→(∀j (h:j<p.P.length),j<k→decide (p.P[j].id=n)=false)→fix (fun x=>decide (x.id=n)) p.P=(k:Int)):=fun k hk h1 h2=>zfw hk h1 h2;obtain⟨a3,k3,rfl,h3⟩:=hp.P;have HS:Hid (∀W,jb w W→SlA W 2 RPt a3 k3 p.P):=fun W hb=>h3.below zct hb;have hm:=hf.P;clear hp hf h3;generalize fix (fun x=>decide (x.id=n)) p.P=L at *;unfold plV;go_enter Tryz.func223,Tryz.ntmps223;go_upto_region 1 with fail;generalize hW0:World.alloc _ _=W0;have K0:Hid (jb w W0):=by show Below _ _ _;rw[←hW0];exact jal
 have pp4:jc W0 w.heap.size 3 (js a3 p.P.length k3):=by rw[←hW0];simp
 have lb:=block_lt_of_cell pp4;clear hW0;go_wp2_with fail
 go_loop [5] (fun i=> ∃k:Nat,k≤p.P.length∧i= .int .i64 k∧ ∀j (h:j<p.P.length),j<k→decide (p.P[j].id=n)=false) (fun i=>p.P.length-(intOf i).toNat)
 case atStart=>exact⟨0,by omega,rfl,fun j h h0=>by omega⟩
 case round=>
  obtain⟨k,hk,rfl,hno⟩:=hrel;have HNO:=hI hno;clear hno;by_cases hlt:k<p.P.length
  ·have hd:decide ((k:Int)<(p.P.length:Int))=true:=(by simp;omega);obtain⟨b',off,rfl,x0,x1⟩:=(HS.out _ K0.out).pt hlt;have c0:(0:Int)≤(k:Int):=(by omega);have c1:(k:Int)<(p.P.length:Int):=(by omega);have l9:=World.block_lt_of_cell? _ _ x0;by_cases h1:p.P[k].id=n
   ·have e1:(p.P[k].id==n)=true:=(by simp[h1]);have HE:=hI (HA.out k hlt (by simp[h1]) HNO.out);clear h1;go_wp2_with fail;go_ret;exact⟨za0 HE.out.symm,K0.out⟩
   ·have e1:(p.P[k].id==n)=false:=(by simp[h1]);have HE:Hid (decide (p.P[k].id=n)=false):=(by show _=_;simp[h1]);clear h1;go_wp2_with fail;go_round
    case rel=>
     refine⟨k+1,by omega,by go_num,fun j h hj=> ?_⟩;by_cases hjk:j=k
     ·subst hjk;exact HE.out
     ·exact HNO.out j h (by omega)
    case measure=>simp[intOf];omega
  ·obtain rfl:k=p.P.length:=(by omega);have hd:decide ((p.P.length:Int)<(p.P.length:Int))=false:=(by simp);have HE:=hI (HN.out fun j hj=>HNO.out j hj hj);go_wp2_with fail;go_ret;exact⟨za0 HE.out.symm,K0.out⟩
theorem zv1 (l:Lk) (r:Rt) (w:World) (hn:r.A.length≤17592186044416):Calls Tryz.prog 315 #[.agg #[l.id,.int .u8 l.ph,l.gone,l.left],r.A.length,r.T] w (zae w (decide (zch l r))):=by
 have HL:Hid (∀(b:Bool) X,(b=true↔zch l r)→zae w (decide (zch l r)) (.returned (.bool b)) (w.alloc X)):=fun b X h=>by
  have:b=decide (zch l r):=by rw[Bool.eq_iff_iff,h];simp
  subst this;exact⟨rfl,jal⟩
 generalize decide (zch l r)=L at *;go_enter Tryz.func315,Tryz.ntmps315;go_wp2_with fail
 all_goals
  go_ret;refine HL.out _ _ ?_;unfold zch
  try simp only[beq_iff_eq,beq_eq_false_iff_ne,ne_eq]at *
  first | omega | (simp<;>omega)
theorem zf7 {α:Type}{l m:List α}(hl:l.length=m.length) (h: ∀k (h:k<l.length) (h':k<m.length),l[k]=m[k]):l=m:=List.ext_getElem hl h
theorem z0b {C D:Option Value}{κ κ':IntKind}{u v:Int}(_:C=some (.int κ u)) (_:D=some (.int κ' v)): ∃q:Bool,(u==v)=q∧(u != v)= !q∧Hid (u=v↔q=true):=⟨u==v,rfl,rfl,by unfold Hid;simp⟩
abbrev EqC {α:Type} [DecidableEq α] (N F sz:Nat) (R:World→List Value→α→Prop):Prop:= ∀(a b:Option Addr) (ca cb:Nat) (l m:List α) (w:World),SlA w sz R a ca l→SlA w sz R b cb m→l.length≤N→m.length≤N→Calls Tryz.prog F #[js a l.length ca,js b m.length cb] w (zae w (decide (l=m)))
theorem zod {x y:Pt}(h0:x.id=y.id) (h1:x.sec=y.sec):x=y:=by cases x;cases y;simp_all
theorem zoe {x y:Sg}(h0:x.id=y.id) (h1:x.sec=y.sec) (h2:x.en=y.en):x=y:=by cases x;cases y;simp_all
theorem zof {x y:Tk}(h0:x.id=y.id) (h1:x.is=y.is):x=y:=by cases x;cases y;simp_all
theorem zog {x y:Sw}(h0:x.id=y.id) (h1:x.lie=y.lie) (h2:x.call=y.call):x=y:=by cases x;cases y;simp_all
theorem zoh {x y:Jn}(h0:x.to=y.to) (h1:x.en=y.en):x=y:=by cases x;cases y;simp_all
theorem zoi {x y:Fl}(h0:x.pt=y.pt) (h1:x.lie=y.lie):x=y:=by cases x;cases y;simp_all
theorem zoj {x y:Lk}(h0:x.id=y.id) (h1:x.ph=y.ph) (h2:x.gone=y.gone) (h3:x.left=y.left):x=y:=by cases x;cases y;simp_all
theorem equals_any:EqC 1000 146 2 RPt∧EqC 1000 147 3 RSg∧EqC 1000 148 2 RTk∧EqC 1000 149 3 RSw∧EqC 8796093022208 142 2 RJn∧EqC 8796093022208 145 2 RFl∧EqC 1000 150 4 RLk:=by
 refine⟨?f146,?f147,?f148,?f149,?f142,?f145,?f150⟩
 all_goals
  intro a b ca cb l m w hl hm h1' h2';have h1:l.length≤8796093022208:=by omega
  have h2:m.length≤8796093022208:=by omega
  clear h1' h2';have HL:=hI fun W (hb:jb w W)=>hl.below (fun _ _ _ _ _ h=>h) hb;have HM:=hI fun W (hb:jb w W)=>hm.below (fun _ _ _ _ _ h=>h) hb;have HV1:Hid (l.length≠m.length→decide (l=m)=false):=fun h=>decide_eq_false fun e=>h (by rw[e]);have HV2:Hid (l.length=m.length→(∀k (h:k<l.length) (h':k<m.length),l[k]=m[k])→decide (l=m)=true):=fun h h3=>decide_eq_true (zf7 h h3);have HV3:Hid (∀k (h:k<l.length) (h':k<m.length),l[k]≠m[k]→decide (l=m)=false):=fun k h h' h3=>decide_eq_false fun e=>h3 (by subst e;rfl);clear hl hm;generalize decide (l=m)=B at *
 case' f146=>go_enter Tryz.func146,Tryz.ntmps146
 case' f147=>go_enter Tryz.func147,Tryz.ntmps147
 case' f148=>go_enter Tryz.func148,Tryz.ntmps148
 case' f149=>go_enter Tryz.func149,Tryz.ntmps149
 case' f142=>go_enter Tryz.func142,Tryz.ntmps142
 case' f145=>go_enter Tryz.func145,Tryz.ntmps145
 case' f150=>go_enter Tryz.func150,Tryz.ntmps150
 all_goals
  by_cases hlen:l.length=m.length
  case neg=>
   have HE:=hI (HV1.out hlen);have td:((l.length:Int)==(m.length:Int))=false:=(by rw[beq_eq_false_iff_ne];omega);have te:((l.length:Int) != (m.length:Int))=true:=(by rw[bne,td];rfl);clear hlen;go_wp2_with fail;go_ret;exact⟨by rw[HE.out];rfl,Below.refl _ _⟩
  have HLE:=hI hlen;have td:((l.length:Int)==(m.length:Int))=true:=by rw[beq_iff_eq];omega
  have te:((l.length:Int) != (m.length:Int))=false:=by rw[bne,td];rfl
  clear hlen;go_wp2_with fail;go_loopg [13] l.length (fun g i wr=> ∃k:Nat,k≤l.length∧g=l.length-k∧i= .int .i64 k∧jb w wr∧ ∀j (h:j<l.length) (h':j<m.length),j<k→l[j]=m[j])
  case atStart=>exact⟨0,by omega,by omega,rfl,Below.refl _ _,fun j _ _ hj=>absurd hj (Nat.not_lt_zero _)⟩
  case round=>
   obtain⟨k,hk,rfl,rfl,hb,hno⟩:=hrel;have HB:=hI hb;have HNO:=hI hno;clear hb hno;by_cases hlt:k<l.length
   case neg=>
    obtain rfl:k=l.length:=(by omega);have hd:decide ((l.length:Int)<(l.length:Int))=false:=(by simp);have HE:Hid (B=true):=HV2.out HLE.out fun j j1 j2=>HNO.out j j1 j2 j1;go_wp2_with fail;go_ret;exact⟨by rw[HE.out];rfl,HB.out⟩
   have hd:decide ((k:Int)<(l.length:Int))=true:=(by simp;omega);have hlm:k<m.length:=(by rw[←HLE.out];exact hlt);obtain⟨g,off,vs,rfl,hxl,hxc,hxr⟩:=(HL.out wr HB.out).at_ k hlt;obtain⟨g2,off2,vs2,rfl,hyl,hyc,hyr⟩:=(HM.out wr HB.out).at_ k hlm;cases hxr;cases hyr;have x0:=hxc 0 (by simp);have y0:=hyc 0 (by simp);have x1:=hxc 1 (by simp);have y1:=hyc 1 (by simp);simp only[Nat.add_zero,List.getElem_cons_zero,List.getElem_cons_succ]at x0 y0 x1 y1;obtain⟨q0,t0,n0,z0⟩:=z0b x0 y0;obtain⟨q1,t1,n1,z1⟩:=z0b x1 y1;have lx:=block_lt_of_cell x0;have ly:=block_lt_of_cell y0;have c0:(0:Int)≤(k:Int):=(by omega);have c1:(k:Int)<(l.length:Int):=(by omega);have c2:(k:Int)<(m.length:Int):=by omega
   try
    have x2:=hxc 2 (by simp);have y2:=hyc 2 (by simp);simp only[List.getElem_cons_zero,List.getElem_cons_succ]at x2 y2;obtain⟨q2,t2,n2,z2⟩:=z0b x2 y2;cases q2
   all_goals
    try
     have x3:=hxc 3 (by simp);have y3:=hyc 3 (by simp);simp only[List.getElem_cons_zero,List.getElem_cons_succ]at x3 y3;obtain⟨q3,t3,n3,z3⟩:=z0b x3 y3;cases q3
   all_goals
    clear hxl hxc hyl hyc;cases q0<;>cases q1
   all_goals
    simp only[Bool.not_true,Bool.not_false]at n0 n1
    try simp only[Bool.not_true,Bool.not_false]at n2
    try simp only[Bool.not_true,Bool.not_false]at n3
    first
    | have HQ:Hid (l[k]=m[k]):=(by first | exact zoj (z0.out.2 rfl) (z1.out.2 rfl) (z2.out.2 rfl) (z3.out.2 rfl) | exact zoe (z0.out.2 rfl) (z1.out.2 rfl) (z2.out.2 rfl) | exact zog (z0.out.2 rfl) (z1.out.2 rfl) (z2.out.2 rfl) | exact zod (z0.out.2 rfl) (z1.out.2 rfl) | exact zof (z0.out.2 rfl) (z1.out.2 rfl) | exact zoh (z0.out.2 rfl) (z1.out.2 rfl) | exact zoi (z0.out.2 rfl) (z1.out.2 rfl));have HN:Hid (∀j (h:j<l.length) (h':j<m.length),j<k+1→l[j]=m[j]):=fun j j1 j2 j3=>(Nat.lt_or_eq_of_le (Nat.le_of_lt_succ j3)).elim (fun h=>HNO.out j j1 j2 h) (fun h=>by subst h;exact HQ.out)
    | have HE:Hid (B=false):=HV3.out k hlt hlm fun e=>by first | exact Bool.noConfusion (z0.out.1 (by rw[e])) | exact Bool.noConfusion (z1.out.1 (by rw[e])) | exact Bool.noConfusion (z2.out.1 (by rw[e])) | exact Bool.noConfusion (z3.out.1 (by rw[e]))
    go_upto_region 6 with fail;go_quiet (fail);go_wp2_with fail
    first
    | (go_ret;exact⟨by rw[HE.out];rfl,zal HB.out _⟩)
    | (go_roundg (l.length-(k+1));(case measure=>go_light;omega);(case rel=>go_light;exact⟨k+1,by omega,by omega,by go_num,zal HB.out _,HN.out⟩))
theorem zv2:EqC 1000 146 2 RPt:=equals_any.1
theorem zv3:EqC 1000 147 3 RSg:=equals_any.2.1
theorem zv4:EqC 1000 148 2 RTk:=equals_any.2.2.1
theorem zv5:EqC 1000 149 3 RSw:=equals_any.2.2.2.1
theorem zv6:EqC 8796093022208 142 2 RJn:=equals_any.2.2.2.2.1
theorem zv7:EqC 8796093022208 145 2 RFl:=equals_any.2.2.2.2.2.1
theorem zv8:EqC 1000 150 4 RLk:=equals_any.2.2.2.2.2.2
end Go.Proofs.YtbiehpjhhopjaaaGreat
