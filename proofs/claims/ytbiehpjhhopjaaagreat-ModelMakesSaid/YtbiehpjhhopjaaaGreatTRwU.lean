/-
 A region that draws its order,with one call whose result stays open,one alloc and one store of that result.
-/
import Derived.Test.YtbiehpjhhopjaaaGreatTRwQ
set_option linter.unusedVariables false
set_option linter.unusedSimpArgs false
set_option maxRecDepth 100000
set_option maxHeartbeats 16000000
namespace Go.Proofs.YtbiehpjhhopjaaaGreat
open Go.RowKit Go.Sort
theorem zpx {W:World}{base:Nat}{e:TypeId}{sz:Nat}{v:Value}{n:Nat}{xs:List Value}(h:W.ownsRow base e sz v n xs){g:Nat}{Z C:Array Value}{T:TypeId}(hg:jk W g Z T) (hne:T≠e):
  (W.setRow g C).ownsRow base e sz v n xs:=by
 refine⟨h.1,?_⟩;rcases h.2 with hn | ⟨k,cap,cur,rfl,hbg,hgg,rest⟩
 ·exact .inl hn
 ·have hk:g≠k:=fun e'=>by
   rw[e',hgg]at hg
   injection hg with hg
   injection hg with _ h2 _
   exact hne h2.symm
  refine .inr ⟨k,cap,cur,rfl,hbg,?_,rest⟩;simp only[World.setRow,Array.getElem?_modify];rw[if_neg hk];exact hgg
theorem RG.swap {w0:World}{v v':Nat→Value}{ia is:Nat}{Z C C':Array Value}{T:TypeId}{f:Nat→Bool}{s:Nat→Value}{W:World}(h:RG w0 v ia is Z C T f s W) (hs:f is=false) (hv: ∀i,i≠ia→f i=true→v i=v' i):RG w0 v' ia is Z C' T f s W:=
 ⟨h.bel,fun i hi hf=>(h.val i hi hf).trans (hv i hi hf),h.ord,fun k=>by
  obtain⟨g,e,hg,hc⟩:=h.al k;rw[hs]at hc
  exact⟨g,e,hg,by rw[hs];exact hc⟩⟩
structure RGX {α:Type}(w0:World) (v:α→Nat→Value) (ia is ic:Nat) (Z:Array Value) (C:α→Array Value) (T:TypeId) (E:World→α→Prop) (f:Nat→Bool) (s:Nat→Value) (x:α) (W:World):Prop where
 rg:RG w0 (v x) ia is Z (C x) T f s W
 has:f ic=true→E W x
 ord:f is=true→f ic=true
section
variable {α:Type}{w0:World}{v:α→Nat→Value}{ia is ic:Nat}{Z:Array Value}{C:α→Array Value}{T:TypeId}{E:World→α→Prop}{f:Nat→Bool}{s:Nat→Value}{x:α}{W W':World}
theorem RGX.start (x:α) (hb:jb w0 W):RGX w0 v ia is ic Z C T E (fun _=>false) s x W:=⟨RG.start hb,(fun(h:false=true)=>Bool.noConfusion h),(fun(h:false=true)=>Bool.noConfusion h)⟩
theorem RGX.grow (h:RGX w0 v ia is ic Z C T E f s x W) (hE: ∀x,E W x→E W' x) (hb:jb W W'):RGX w0 v ia is ic Z C T E f s x W':=⟨h.rg.grow hb,fun k=>hE _ (h.has k),h.ord⟩
theorem RGX.step (h:RGX w0 v ia is ic Z C T E f s x W) (i:Nat) (h1:i≠ia) (h2:i≠is) (h3:i≠ic):RGX w0 v ia is ic Z C T E (fun j=>decide (j=i) || f j) (fun j=>if j=i then v x i else s j) x W:=by
 have e1:(decide (ic=i) || f ic)=f ic:=by rw[decide_eq_false (fun e=>h3 e.symm)];rfl
 have e2:(decide (is=i) || f is)=f is:=by rw[decide_eq_false (fun e=>h2 e.symm)];rfl
 exact⟨h.rg.step i h1 h2,fun k=>h.has (e1 ▸ k),fun k=>by rw[e1];exact h.ord (e2 ▸ k)⟩
theorem RGX.call (h:RGX w0 v ia is ic Z C T E f s x W) (y:α) (h1:ic≠ia) (h2:ic≠is) (hun:f ic=false) (hv: ∀i,i≠ic→v x i=v y i) (hb:jb W W') (hy:E W' y):RGX w0 v ia is ic Z C T E (fun j=>decide (j=ic) || f j) (fun j=>if j=ic then v y ic else s j) y W':=by
 have hs:f is=false:=by
  cases k:f is with
  | false=>rfl
  | true=>rw[h.ord k]at hun;cases hun
 have e2:(decide (is=ic) || f is)=f is:=by rw[decide_eq_false (fun e=>h2 e.symm)];rfl
 refine⟨((h.rg.swap (v':=v y) (C':=C y) hs fun i _ hf=>hv i fun e=> ?_).grow hb).step ic h1 h2,fun _=>hy,fun k=> ?_⟩
 ·subst e;rw[hun]at hf;cases hf
 ·simp
theorem RGX.alloc (h:RGX w0 v ia is ic Z C T E f s x W) (h1:ia≠is) (h3:ia≠ic) (hE: ∀x,E W x→E (W.alloc (.cells Z T)) x) (hun:f ia=false):RGX w0 v ia is ic Z C T E (fun j=>decide (j=ia) || f j) (fun j=>if j=ia then .pointer (some ⟨W.heap.size,0,none⟩)else s j) x (W.alloc (.cells Z T)):=by
 have e1:(decide (ic=ia) || f ic)=f ic:=by rw[decide_eq_false (fun e=>h3 e.symm)];rfl
 have e2:(decide (is=ia) || f is)=f is:=by rw[decide_eq_false (fun e=>h1 e.symm)];rfl
 exact⟨h.rg.alloc h1 hun,fun k=>hE _ (h.has (e1 ▸ k)),fun k=>by rw[e1];exact h.ord (e2 ▸ k)⟩
theorem RGX.store (h:RGX w0 v ia is ic Z C T E f s x W) (h1:ia≠is) (h2:ic≠is){g:Nat}(ha:f ia=true) (hc':f ic=true) (e:s ia= .pointer (some ⟨g,0,none⟩)) (hg:w0.heap.size≤g) (hc:jk W g Z T) (hE:E W x→E (W.setRow g (C x)) x):
  RGX w0 v ia is ic Z C T E (fun j=>decide (j=is) || f j) (fun j=>if j=is then v x is else s j) x (W.setRow g (C x)):=
 ⟨h.rg.store h1 ha e hg hc,fun _=>hE (h.has hc'),fun _=>by rw[hc',Bool.or_true]⟩
end
theorem zxo {α:Type}{f:α→Int}{l:List α}(h:zat f l l.length){k:Nat}(hk:k<l.length):fix (fun x=>decide (f x=f l[k])) l=(k:Int):=by
 rcases zce (fun x=>decide (f x=f l[k])) l with⟨_,h2⟩ | ⟨m,hm,e,h1,h2⟩
 ·have:=h2 k hk;simp at this
 ·rcases Nat.lt_trichotomy m k with h' | h' | h'
  ·have:=zg4 h hk h';have h1:f l[m]=f l[k]:=(by simpa using h1);omega
  ·rw[e,h']
  ·have:=h2 k hk h';simp at this
theorem zxp {p:Pl}{r:Rt}(h:zbp p r=none):decide (zdd p r)=false:=by
 apply decide_eq_false;unfold zdd;rw[h];exact id
theorem zxq {p:Pl}{r:Rt}{x:Rw}(h:zbp p r=some x):decide (zdd p r)=decide (zdv (zci p r x)∧zf6 p r x.outs):=by
 apply decide_eq_decide.2;unfold zdd;rw[h]
theorem zxr (p:Pl) (s q gg rr:Value) (kk:Nat) (hkk:kk<p.R.length) (c5 c6 c7:Value) (w:World) (hp:PlM w s q gg rr p) (hf:p.Fit) (hPM:zaq p) (hr0:RtM w c5 c6 c7 p.R[kk]):
  Calls Tryz.prog 130 #[plV p s q gg rr,.agg #[p.R[kk].id,p.R[kk].E,p.R[kk].X,c5,c6,c7,p.R[kk].T]] w (zae w (decide (zdd p p.R[kk]))):=by
 have HE:Hid (∀W,jb w W→Calls Tryz.prog 216 #[plV p s q gg rr,.agg #[p.R[kk].id,p.R[kk].E,p.R[kk].X,c5,c6,c7,p.R[kk].T]] W (zli W (zbp p p.R[kk]) (zaa p.R[kk]).length)):=fun W hb=>zpi p s q gg rr kk hkk c5 c6 c7 W (hp.below hb) hf hPM (hr0.below hb);have HMD:Hid (∀x,zbp p p.R[kk]=some x→ ∀W,jb w W→Calls Tryz.prog 217 #[plV p s q gg rr,kk] W (zhe W p.R[kk] (zci p p.R[kk] x) (zbe p p.R[kk].E).sec)):=fun x hx W hb=>zpk p s q gg rr kk hkk W (hp.below hb) hf hPM x hx;have HST:Hid (∀a b W,jb w W→Calls Tryz.prog 219 #[plV p s q gg rr,.int .i64 a,.int .i64 b] W (zfp W (za9 p a b))):=fun a b W hb=>zoc p s q gg rr a b W (hp.below hb) hf;have HML:Hid (∀x,(zci p p.R[kk] x).length≤1000):=zlk hPM hkk;have HFX:=hI (zxo (zn2 hPM) hkk);have HNO:Hid (zbp p p.R[kk]=none→decide (zdd p p.R[kk])=false):=zxp;have HYE:Hid (∀x,zbp p p.R[kk]=some x→decide (zdd p p.R[kk])=decide (zdv (zci p p.R[kk] x)∧zf6 p p.R[kk] x.outs)):=fun x=>zxq;have hHd:=(zfe hPM hkk).1;have hp6:=hHd.2.2.2.2.1;have hal:=hI (zes p.R[kk]);have LR:=hI hf.R;have hip:=hr0.A;have hio:=hr0.O;obtain⟨a1,k1,rfl,-⟩:=hp.S;obtain⟨a2,k2,rfl,-⟩:=hp.P;obtain⟨a3,k3,rfl,-⟩:=hp.G;obtain⟨a4,k4,rfl,g4⟩:=hp.R;have HRT:Hid (∀W,jb w W→SlA W 7 RRt a4 k4 p.R):=fun W hb=>g4.below zcv hb;have HRP:=hI hr0;clear hp hf hPM hHd g4 hr0;generalize decide (zdd p p.R[kk])=D at *;generalize hRW:zbp p p.R[kk]=RE at *;clear hRW;generalize p.R[kk]=r at *;obtain⟨p1,pn,p3,rfl,ip⟩:=hip;obtain⟨o1,on,o3,rfl,io⟩:=hio;obtain rfl:=ip.len;obtain rfl:=io.len;obtain⟨f1,f3,rfl,-⟩:=HRP.out.fl;have HPI:Hid (∀W,jb w W→IL W p1 r.A.length r.A):=fun W hb=>ip.below hb;clear HRP ip io;unfold plV at *;go_enter Tryz.func130,Tryz.ntmps130;go_upto_region 1 with fail;generalize hW0:World.alloc _ _=W0;have K0:Hid (jb w W0):=by show Below _ _ _;rw[←hW0];exact jal.alloc (by simp) _
 have HP0:Hid (jk W0 w.heap.size #[p.ver,p.par,js a1 p.S.length k1,js a2 p.P.length k2,js a3 p.G.length k3,js a4 p.R.length k4] 28):=by show _=_;rw[←hW0];exact(heap_alloc_old _ _ (by simp)).trans (heap_alloc_new _ _)
 have HR0:Hid (jk W0 (w.heap.size+1) #[r.id,r.E,r.X,js p1 r.A.length p3,js o1 r.O.length o3,js f1 r.fl.length f3,r.T] 102):=by show _=_;rw[←hW0];exact heap_alloc2_new _ _ _
 clear hW0;obtain⟨pp0,pp1,pp2,pp3,pp4,pp5⟩:=zan (HP0.out);obtain⟨rr0,rr1,rr2,rr3,rr4,rr5,rr6⟩:=zb7 (HR0.out);have lb:=block_lt_of_cell pp0;have lr:=block_lt_of_cell rr0;go_wp2_with fail;refine(HE.out W0 K0.out).mono ?_;rintro e W1 ⟨hb1,hres⟩;have HB1:Hid (jb W0 W1):=hb1;have K1:=jh K0 hb1;clear hb1 pp0 pp1 pp2 pp3 pp4 pp5 rr0 rr1 rr2 rr3 rr4 rr5 rr6 lb lr HE;rcases hres with⟨hre,rfl⟩ | ⟨x,ia,ib,ic,id,hre,hl1,hl2,rfl,hi1,hi2⟩
 ·have HV:=hI (HNO.out hre);go_wp2_with fail;go_ret;exact⟨by rw[HV.out];rfl,K1.out⟩
 ·have HV:=hI (HYE.out x hre);have HM:=hI (HMD.out x hre);have HAL:=hI (HML.out x);have HO1:=hI hi2;have HL2:=hI hl2;clear HMD HYE HNO hre hi1 hi2 hl1 hl2 HML;generalize zci p r x=MA at *;generalize(zbe p r.E).sec=near at *;have bx0:=jm HB1.out HP0.out;have bx1:=jm HB1.out HR0.out;go_upto_region 4 with fail;obtain⟨pp0,pp1,pp2,pp3,pp4,pp5⟩:=zan (bx0);have rr0:jc W1 (w.heap.size+1) 0 r.id:=jr bx1;clear bx0 bx1
  refine zd7 (by kernel_rfl) (by kernel_rfl) (fun f ac W9=> ∃(s:Nat→Value) (y:Option Addr × Nat × Option Addr × Nat × Option Addr × Nat),ac={tmps:=#[.agg #[p.ver,p.par,js a1 p.S.length k1,js a2 p.P.length k2,js a3 p.G.length k3,js a4 p.R.length k4],.agg #[r.id,r.E,r.X,js p1 r.A.length p3,js o1 r.O.length o3,js f1 r.fl.length f3,r.T],.pointer (some ⟨w.heap.size,0,none⟩),.pointer (some ⟨w.heap.size+1,0,none⟩),.bool false,.slice ia (zaa r).length ib,.slice ic (zaa r).length id,.bool true,s 7,undef,undef,undef,undef,.tuple #[js ia (zaa r).length ib,js ic (zaa r).length id,.bool true],.agg #[p.ver,p.par,js a1 p.S.length k1,js a2 p.P.length k2,js a3 p.G.length k3,js a4 p.R.length k4],.agg #[r.id,r.E,r.X,js p1 r.A.length p3,js o1 r.O.length o3,js f1 r.fl.length f3,r.T],.tuple #[js ia (zaa r).length ib,js ic (zaa r).length id,.bool true],.slice ia (zaa r).length ib,.slice ic (zaa r).length id,.bool true,.bool true,.bool false,s 0,s 1,s 2,s 3,s 4,s 5,s 6,undef,undef,undef,undef,undef,undef,undef,undef,undef,undef,undef,undef,undef,undef,undef,undef,undef,undef,undef,undef,undef,undef,undef,undef,undef,undef,undef,undef,undef,undef,undef,undef,undef,undef,undef,undef,undef,undef,undef,undef,undef,undef,undef,undef,undef,undef,undef,undef,undef,undef,undef,undef,undef,undef,undef,undef,undef,undef,undef,undef,undef,undef,undef,undef,undef,undef,undef],defers:=[]}∧RGX W1 (fun(y:Option Addr × Nat × Option Addr × Nat × Option Addr × Nat) (i:Nat)=>match i with | 0=> .agg #[p.ver,p.par,js a1 p.S.length k1,js a2 p.P.length k2,js a3 p.G.length k3,js a4 p.R.length k4] | 1=> .pointer (some ⟨w.heap.size,5,none⟩) | 2=> .slice a4 p.R.length k4 | 3=> .pointer (some ⟨w.heap.size+1,0,none⟩) | 4=> .int .i64 r.id | 5=> .int .i64 kk | 6=> .agg #[js y.1 r.A.length y.2.1,js y.2.2.1 r.O.length y.2.2.2.1,js y.2.2.2.2.1 MA.length y.2.2.2.2.2,near] | _=>undef) 7 8 6 #[.slice none 0 0,.slice none 0 0,.slice none 0 0,.int .i64 0] (fun(y:Option Addr × Nat × Option Addr × Nat × Option Addr × Nat)=>#[js y.1 r.A.length y.2.1,js y.2.2.1 r.O.length y.2.2.2.1,js y.2.2.2.2.1 MA.length y.2.2.2.2.2,near]) 184 (fun(W8:World) (y:Option Addr × Nat × Option Addr × Nat × Option Addr × Nat)=>AskOwn W8 W1.heap.size (js y.2.2.2.2.1 MA.length y.2.2.2.2.2) MA) f s y W9) ?_ ?_ ?_
  ·exact⟨(fun i=>match i with | 0=>undef | 1=>undef | 2=>undef | 3=>undef | 4=>undef | 5=>undef | 6=>undef | 7=>undef | _=>undef),(none,0,none,0,none,0),rfl,RGX.start _ ⟨rfl,rfl,rfl,Nat.le_refl _,fun _ _=>rfl⟩⟩
  ·intro i o ho f a W9 hIv hd hun;obtain⟨s,y,rfl,hS⟩:=hIv;rcases i with _ | _ | _ | _ | _ | _ | _ | _ | _ | i
   ·have ho2:=ho;simp at ho2;subst ho2;have q0:=zac hS.rg.bel pp0;have q1:=zac hS.rg.bel pp1;have q2:=zac hS.rg.bel pp2;have q3:=zac hS.rg.bel pp3;have q4:=zac hS.rg.bel pp4;have q5:=zac hS.rg.bel pp5;refine zah (by simp[wpOp,go_sem,q0,q1,q2,q3,q4,q5];exact .inl ⟨rfl,rfl⟩) ?_;exact⟨fun j=>if j=0 then .agg #[p.ver,p.par,js a1 p.S.length k1,js a2 p.P.length k2,js a3 p.G.length k3,js a4 p.R.length k4]else s j,y,rfl,hS.step 0 (by decide) (by decide) (by decide)⟩
   ·have ho2:=ho;simp at ho2;subst ho2;refine zah (by simp[wpOp,go_sem];exact .inl ⟨rfl,rfl⟩) ?_;exact⟨fun j=>if j=1 then .pointer (some ⟨w.heap.size,5,none⟩)else s j,y,rfl,hS.step 1 (by decide) (by decide) (by decide)⟩
   ·have ho2:=ho;simp at ho2;subst ho2;have e1:s 1= .pointer (some ⟨w.heap.size,5,none⟩):=hS.rg.val 1 (by decide) (hd ⟨1,.data⟩ (by simp) (by rfl));have q2:=zac hS.rg.bel pp5;refine zah (by simp[wpOp,go_sem,e1,q2];exact .inl ⟨rfl,rfl⟩) ?_;exact⟨fun j=>if j=2 then .slice a4 p.R.length k4 else s j,y,by simp[e1],hS.step 2 (by decide) (by decide) (by decide)⟩
   ·have ho2:=ho;simp at ho2;subst ho2;refine zah (by simp[wpOp,go_sem];exact .inl ⟨rfl,rfl⟩) ?_;exact⟨fun j=>if j=3 then .pointer (some ⟨w.heap.size+1,0,none⟩)else s j,y,rfl,hS.step 3 (by decide) (by decide) (by decide)⟩
   ·have ho2:=ho;simp at ho2;subst ho2;have e3:s 3= .pointer (some ⟨w.heap.size+1,0,none⟩):=hS.rg.val 3 (by decide) (hd ⟨3,.data⟩ (by simp) (by rfl));have q2:=zac hS.rg.bel rr0;refine zah (by simp[wpOp,go_sem,e3,q2];exact .inl ⟨rfl,rfl⟩) ?_;exact⟨fun j=>if j=4 then .int .i64 r.id else s j,y,by simp[e3],hS.step 4 (by decide) (by decide) (by decide)⟩
   ·have ho2:=ho;simp at ho2;subst ho2;have e2:s 2= .slice a4 p.R.length k4:=hS.rg.val 2 (by decide) (hd ⟨2,.data⟩ (by simp) (by rfl));have e4:s 4=↑r.id:=hS.rg.val 4 (by decide) (hd ⟨4,.data⟩ (by simp) (by rfl));have hc:=((zrt a4 k4 p.R r.id W9 (HRT.out W9 (jo K1 hS.rg.bel)) LR.out).mono fun e w' h=>(⟨h.1.trans (by rw[HFX.out]),zf8 h.2⟩:e= .returned (.int .i64 kk)∧jb W9 w'));apply zgw (R:=fun w'=>jb W9 w')
    ·simp[wpOp,go_sem,e2,e4];refine .inl (hc.mono ?_);rintro e w' ⟨rfl,hb⟩;simp[go_sem];exact⟨rfl,hb⟩
    ·intro w' hb;exact⟨fun j=>if j=5 then .int .i64 kk else s j,y,by simp[e2,e4],(hS.grow (fun y h=>zau h hb) hb).step 5 (by decide) (by decide) (by decide)⟩
   ·have ho2:=ho;simp at ho2;subst ho2;have e0:s 0= .agg #[p.ver,p.par,js a1 p.S.length k1,js a2 p.P.length k2,js a3 p.G.length k3,js a4 p.R.length k4]:=hS.rg.val 0 (by decide) (hd ⟨0,.data⟩ (by simp) (by rfl));have e5:s 5= .int .i64 kk:=hS.rg.val 5 (by decide) (hd ⟨5,.data⟩ (by simp) (by rfl));have hc:=HM.out W9 (jo K1 hS.rg.bel);obtain⟨Q9,hQ9⟩: ∃Q9:Act→World→Prop,Q9=fun a' w'=> ∃y':Option Addr × Nat × Option Addr × Nat × Option Addr × Nat,a'={tmps:=#[.agg #[p.ver,p.par,js a1 p.S.length k1,js a2 p.P.length k2,js a3 p.G.length k3,js a4 p.R.length k4],.agg #[r.id,r.E,r.X,js p1 r.A.length p3,js o1 r.O.length o3,js f1 r.fl.length f3,r.T],.pointer (some ⟨w.heap.size,0,none⟩),.pointer (some ⟨w.heap.size+1,0,none⟩),.bool false,.slice ia (zaa r).length ib,.slice ic (zaa r).length id,.bool true,s 7,undef,undef,undef,undef,.tuple #[js ia (zaa r).length ib,js ic (zaa r).length id,.bool true],.agg #[p.ver,p.par,js a1 p.S.length k1,js a2 p.P.length k2,js a3 p.G.length k3,js a4 p.R.length k4],.agg #[r.id,r.E,r.X,js p1 r.A.length p3,js o1 r.O.length o3,js f1 r.fl.length f3,r.T],.tuple #[js ia (zaa r).length ib,js ic (zaa r).length id,.bool true],.slice ia (zaa r).length ib,.slice ic (zaa r).length id,.bool true,.bool true,.bool false,.agg #[p.ver,p.par,js a1 p.S.length k1,js a2 p.P.length k2,js a3 p.G.length k3,js a4 p.R.length k4],s 1,s 2,s 3,s 4,.int .i64 kk,.agg #[js y'.1 r.A.length y'.2.1,js y'.2.2.1 r.O.length y'.2.2.2.1,js y'.2.2.2.2.1 MA.length y'.2.2.2.2.2,near],undef,undef,undef,undef,undef,undef,undef,undef,undef,undef,undef,undef,undef,undef,undef,undef,undef,undef,undef,undef,undef,undef,undef,undef,undef,undef,undef,undef,undef,undef,undef,undef,undef,undef,undef,undef,undef,undef,undef,undef,undef,undef,undef,undef,undef,undef,undef,undef,undef,undef,undef,undef,undef,undef,undef,undef,undef,undef,undef,undef,undef,undef,undef,undef,undef,undef,undef],defers:=[]}∧jb W9 w'∧AskOwn w' W1.heap.size (js y'.2.2.2.2.1 MA.length y'.2.2.2.2.2) MA:=⟨_,rfl⟩;refine wpOp_mono (fun a' w' (hh:Q9 a' w')=> ?_) ?_
    ·rw[hQ9]at hh;obtain⟨y',rfl,hb,ho9⟩:=hh;refine⟨fun j=>if j=6 then .agg #[js y'.1 r.A.length y'.2.1,js y'.2.2.1 r.O.length y'.2.2.2.1,js y'.2.2.2.2.1 MA.length y'.2.2.2.2.2,near]else s j,y',by simp[e0,e5],hS.call y' (by decide) (by decide) hun (fun i hi=> ?_) hb ho9⟩;rcases i with _ | _ | _ | _ | _ | _ | _ | _ | _ | _ | i<;>first | rfl | exact absurd rfl hi
    ·simp[wpOp,go_sem,e0,e5];refine .inl (hc.mono ?_);rintro e w' ⟨q1,q3,n1,n3,m1,m3,rfl,o1',o2',o3',hb⟩;simp[go_sem];rw[hQ9];exact⟨(q1,q3,n1,n3,m1,m3),rfl,hb,zav o3' hS.rg.bel.size⟩
   ·have ho2:=ho;simp at ho2;subst ho2;refine zah (by simp[wpOp,go_sem];exact .inl ⟨rfl,rfl⟩) ?_;exact⟨fun j=>if j=7 then .pointer (some ⟨W9.heap.size,0,none⟩)else s j,y,rfl,hS.alloc (by decide) (by decide) (fun y h=>zau h jal) hun⟩
   ·have ho2:=ho;simp at ho2;subst ho2;have e6:s 6= .agg #[js y.1 r.A.length y.2.1,js y.2.2.1 r.O.length y.2.2.2.1,js y.2.2.2.2.1 MA.length y.2.2.2.2.2,near]:=hS.rg.val 6 (by decide) (hd ⟨6,.data⟩ (by simp) (by rfl));have ha:=hd ⟨7,.data⟩ (by simp) (by rfl);have hc9:=hd ⟨6,.data⟩ (by simp) (by rfl);obtain⟨g,eg,hg1,hg2⟩:=hS.rg.at ha hun;refine ze3 ho rfl 184 (.tmp 8) (.tmp 28) rfl g #[js y.1 r.A.length y.2.1,js y.2.2.1 r.O.length y.2.2.2.1,js y.2.2.2.2.1 MA.length y.2.2.2.2.2,near] eg e6 184 #[.slice none 0 0,.slice none 0 0,.slice none 0 0,.int .i64 0] hg2 rfl rfl (by simp[Value.oneCell']) ?_;exact⟨fun j=>if j=8 then undef else s j,y,rfl,hS.store (by decide) (by decide) ha hc9 eg hg1 hg2 (fun h=>zpx h hg2 (by decide))⟩
   ·simp at ho
  ·intro f a W9 hIv hall;obtain⟨s,y,rfl,hS⟩:=hIv;have e0:s 0= .agg #[p.ver,p.par,js a1 p.S.length k1,js a2 p.P.length k2,js a3 p.G.length k3,js a4 p.R.length k4]:=hS.rg.val 0 (by decide) (hall 0 (by decide));have e1:s 1= .pointer (some ⟨w.heap.size,5,none⟩):=hS.rg.val 1 (by decide) (hall 1 (by decide));have e2:s 2= .slice a4 p.R.length k4:=hS.rg.val 2 (by decide) (hall 2 (by decide));have e3:s 3= .pointer (some ⟨w.heap.size+1,0,none⟩):=hS.rg.val 3 (by decide) (hall 3 (by decide));have e4:s 4=↑r.id:=hS.rg.val 4 (by decide) (hall 4 (by decide));have e5:s 5= .int .i64 kk:=hS.rg.val 5 (by decide) (hall 5 (by decide));have e6:s 6= .agg #[js y.1 r.A.length y.2.1,js y.2.2.1 r.O.length y.2.2.2.1,js y.2.2.2.2.1 MA.length y.2.2.2.2.2,near]:=hS.rg.val 6 (by decide) (hall 6 (by decide));obtain⟨g,eg,hg1,hg2⟩:=hS.rg.done (hall 7 (by decide)) (hall 8 (by decide));have hbel:=hS.rg.bel;have hown:=hS.has (hall 6 (by decide));simp only[e0,e1,e2,e3,e4,e5,e6,eg];clear hS hall eg e0 e1 e2 e3 e4 e5 e6;have HG:Hid (jk W9 g #[js y.1 r.A.length y.2.1,js y.2.2.1 r.O.length y.2.2.2.1,js y.2.2.2.2.1 MA.length y.2.2.2.2.2,near] 184):=hg2
   have HA9:Hid (SlA W9 3 ze1 y.2.2.2.2.1 y.2.2.2.2.2 MA):=by
    obtain⟨a',c',e',h'⟩:=AskOwn.sl hown;cases e';exact h'
   have KO:=jh K1 hbel;have KR:=jh HB1 hbel;have HO9:=hI (HO1.out.below hbel);clear hg1 hg2 hbel hown pp0 pp1 pp2 pp3 pp4 pp5 rr0 HM HO1 HFX;obtain⟨y1,y2,y3,y4,y5,y6⟩:=y;simp only at *;obtain⟨CC,hCC⟩: ∃CC:Nat→Prop,CC=fun i=> ¬(za9 p (r.A.getD i 0) (x.outs.getD i 0)≠0∧i+1<r.A.length)∧ ¬(i+1=r.A.length∧za9 p (r.A.getD i 0) (x.outs.getD i 0)≠r.X):=⟨_,rfl⟩;have HCC:Hid (∀i,CC i→ ¬(za9 p (r.A.getD i 0) (x.outs.getD i 0)≠0∧i+1<r.A.length)∧ ¬(i+1=r.A.length∧za9 p (r.A.getD i 0) (x.outs.getD i 0)≠r.X)):=fun i h=>by rw[hCC]at h;exact h
   have HCI:Hid (∀i,¬(za9 p (r.A.getD i 0) (x.outs.getD i 0)≠0∧i+1<r.A.length)∧ ¬(i+1=r.A.length∧za9 p (r.A.getD i 0) (x.outs.getD i 0)≠r.X)→CC i):=fun i h=>by rw[hCC];exact h
   clear hCC;go_wp2_with fail;go_loopg [9] MA.length (fun u i wr=> ∃(k:Nat),k≤MA.length∧u=MA.length-k∧i= .int .i64 k∧jb W9 wr∧zfl MA k)
   case atStart=>exact⟨0,by omega,by omega,rfl,Below.refl _ _,fun i hi hik=>absurd hik (Nat.not_lt_zero _)⟩
   case round=>
    obtain⟨k,hk,rfl,rfl,hb,hon⟩:=hrel;have hrow:=jm hb HG.out;have HB:=hI hb;have HON:=hI hon;have e2:jc wr g 2 (js y5 MA.length y6):=jr hrow;have le:=block_lt_of_cell e2;clear hb hon hrow;by_cases hlt:k<MA.length
    ·have hd:decide ((k:Int)<(MA.length:Int))=true:=(by simp;omega);clear hlt;have HLT:Hid (k<MA.length):=(by show _<_;simpa using hd);go_wp2_with fail;go_loopg [10] k (fun u i wv=> ∃(m:Nat),m≤k∧u=k-m∧i= .int .i64 m∧jb W9 wv∧(∀j (hj:j<MA.length),j<m→MA[j].pt≠(MA[k]'HLT.out).pt))
     case atStart=>exact⟨0,by omega,by omega,rfl,HB.out,fun j _ hj=>absurd hj (Nat.not_lt_zero _)⟩
     case round=>
      obtain⟨m,hm,rfl,rfl,hb,hno⟩:=hrel;have hrow:=jm hb HG.out;have HB2:=hI hb;have HNE:=hI hno;have HAr:=hI (HA9.out.below zil hb);clear hb hno e2 le HB;by_cases hmk:m<k
      ·have hd2:decide ((m:Int)<(k:Int))=true:=(by simp;omega);have hlt:=HLT.out;have hml:m<MA.length:=(by omega);obtain⟨ga,oa,v1,rfl,hl1,hc1,hr1⟩:=HAr.out.at_ m hml;obtain⟨ga2,oa2,v2,eb2,hl2,hc2,hr2⟩:=HAr.out.at_ k hlt;cases eb2;obtain rfl:v1=[.int .i64 MA[m].pt,.int .i64 MA[m].lie,.int .i64 MA[m].pl]:=hr1;obtain rfl:v2=[.int .i64 MA[k].pt,.int .i64 MA[k].lie,.int .i64 MA[k].pl]:=hr2;have x0:jc wr ga (oa+m * 3) MA[m].pt:=hc1 0 (by simp);have z0:jc wr ga (oa+k * 3) MA[k].pt:=hc2 0 (by simp);have lx:=block_lt_of_cell x0;have e2:jc wr g 2 (jq ga oa MA.length y6):=jr hrow;have le:=block_lt_of_cell e2;have hal2:=HAL.out;have hmk2:m≤1000:=(by omega);have c0:(0:Int)≤(m:Int):=(by omega);have c1:(m:Int)<(MA.length:Int):=(by omega);have c2:(0:Int)≤(k:Int):=(by omega);have c3:(k:Int)<(MA.length:Int):=(by omega);clear hc1 hc2 hl1 hl2 hrow HAr;by_cases hq:MA[m].pt=MA[k].pt
       ·have t1:(MA[m].pt==MA[k].pt)=true:=by rw[beq_iff_eq];exact hq
        have HF:Hid (D=false):=by
         show _=_;rw[HV.out];exact decide_eq_false fun h=>h.1 k hlt hlt m hmk hq
        clear hq;go_upto_region 11 with fail;go_quiet (fail);go_wp2_with fail;go_ret;exact⟨by rw[HF.out];rfl,zal (jo KO HB2.out) _⟩
       ·have t1:(MA[m].pt==MA[k].pt)=false:=(by rw[beq_eq_false_iff_ne];exact hq);have HQ:=hI hq;clear hq;go_upto_region 11 with fail;go_quiet (fail);go_wp2_with fail;go_roundg (k-(m+1))
        case measure=>go_light;omega
        case rel=>
         go_light;refine⟨m+1,by omega,by omega,by go_num,zal HB2.out _,fun j h1 h2=> ?_⟩;by_cases hjm:j=m
         ·subst hjm;exact HQ.out
         ·exact HNE.out j h1 (by omega)
      ·have hd2:decide ((m:Int)<(k:Int))=false:=(by simp;omega);obtain rfl:m=k:=(by omega);have HON2:=hI (zmf HLT.out HON.out fun j hj=>HNE.out j (Nat.lt_trans hj HLT.out) hj);have HALk:m+1≤MA.length:=HLT.out;have hal2:=HAL.out;go_wp2_with fail;go_roundg (MA.length-(m+1))
       case measure=>go_light;omega
       case rel=>go_light;exact⟨m+1,by omega,by omega,by go_num,HB2.out,HON2.out⟩
    ·obtain rfl:k=MA.length:=(by omega);have hon0:=HON.out;have hbw:=HB.out;have hd:decide ((MA.length:Int)<(MA.length:Int))=false:=(by simp);have HONE:=hI hon0;clear hd HB;have hwr0:=hI hbw;go_upto_region 13 with fail;go_wp2_with fail;go_loopg [11] r.A.length (fun u i wv=> ∃(k:Nat),k≤r.A.length∧u=r.A.length-k∧i= .int .i64 k∧jb W9 wv∧(∀j,j<k→CC j))
     case atStart=>exact⟨0,by omega,by omega,rfl,hwr0.out,fun j hj=>absurd hj (Nat.not_lt_zero _)⟩
     case round=>
      obtain⟨k,hk,rfl,rfl,hb,hno⟩:=hrel;have HB:=hI hb;have HN:=hI hno;have KW:=jh KO hb;have KR2:=jh KR hb;clear e2 le hb hno;have bx0:=jm KR2.out HP0.out;have bx1:=jm KR2.out HR0.out;obtain⟨pp0,pp1,pp2,pp3,pp4,pp5⟩:=zan (bx0);have rr3:jc wr (w.heap.size+1) 3 (js p1 r.A.length p3):=jr bx1;have lb:=block_lt_of_cell pp0;have lr:=block_lt_of_cell rr3;clear bx0 bx1;by_cases hlt:k<r.A.length
      ·have hd:decide ((k:Int)<(r.A.length:Int))=true:=(by simp;omega);have hal3:=hal.out;have hko:k<x.outs.length:=(by rw[HL2.out];omega);obtain⟨gp,op,rfl,x0⟩:=(HPI.out wr KW.out).cell k hlt;obtain⟨gq,oq,rfl,z0⟩:=(HO9.out.below HB.out).cell k hko;have lx:=block_lt_of_cell x0;have lz:=block_lt_of_cell z0;have c0:(0:Int)≤(k:Int):=(by omega);have c1:(k:Int)<(r.A.length:Int):=(by omega);have c2:(k:Int)<((zaa r).length:Int):=(by omega);clear hal3;have hg1:r.A.getD k 0=r.A[k]:=(by rw[List.getD_eq_getElem?_getD,List.getElem?_eq_getElem hlt];rfl);have hg2:x.outs.getD k 0=x.outs[k]:=(by rw[List.getD_eq_getElem?_getD,List.getElem?_eq_getElem hko];rfl);go_upto_region 16 with fail
       go_still_tail 10,(by kernel_rfl)
       change wpList _ _ _ _ _ wr.drew;generalize hWD:wr.drew=WD;have hbD:jb wr WD:=(by rw[←hWD];exact(Below.refl _ _).drew);have HBD:=jh HB hbD;have HCk:=hI (HST.out r.A[k] x.outs[k] WD (jo KO HBD.out));obtain⟨S,hS⟩: ∃S,za9 p (r.A.getD k 0) (x.outs.getD k 0)=S:=⟨_,rfl⟩;rw[hg1,hg2]at hS;rw[hS]at HCk;rw[←hg1,←hg2]at hS;clear hg1 hg2 hWD hbD pp0 pp1 pp2 pp3 pp4 pp5 rr3 lb lr x0 z0 lx lz HB KW KR2;go_wp2_with fail;refine HCk.out.mono ?_;rintro e W2 ⟨rfl,hb2⟩;have HB2:=jh HBD hb2;have bx1:=((jo KR HB2.out).block _ (zad HR0.out)).trans HR0.out;have rr2:jc W2 (w.heap.size+1) 2 r.X:=jr bx1;have rr3:jc W2 (w.heap.size+1) 3 (jq gp op r.A.length p3):=jr bx1;have lr:=block_lt_of_cell rr2;clear bx1 hb2 HCk HBD;by_cases s1:k+1<r.A.length
       ·have t2:decide ((k:Int)<(r.A.length:Int)-1)=true:=(by simp;omega);have t3:((k:Int)==(r.A.length:Int)-1)=false:=(by rw[beq_eq_false_iff_ne];omega);have s3:True:=trivial;by_cases s2:S=0
        ·have t1:(S != 0)=false:=by simp[s2]
         have HN2:Hid (∀j,j<k+1→CC j):=fun j hj=>by
          rcases Nat.lt_or_ge j k with h' | h'
          ·exact HN.out j h'
          ·obtain rfl:j=k:=(by omega);refine HCI.out j ?_;rw[hS];exact⟨fun h=>h.1 s2,fun h=>absurd h.1 (by omega)⟩
         clear s1 s2 s3 hS;go_wp2_with fail;go_roundg (r.A.length-(k+1))
         case measure=>go_light;omega
         case rel=>go_light;exact⟨k+1,by omega,by omega,by go_num,HB2.out,HN2.out⟩
        ·have t1:(S != 0)=true:=by simp[s2]
         have HF:Hid (D=false):=by
          show _=_;rw[HV.out];refine decide_eq_false fun h=> ?_;have h2:=h.2 k hlt;rw[hS]at h2;exact h2.1 ⟨s2,s1⟩
         clear s1 s2 s3 hS;go_wp2_with fail;go_ret;exact⟨by rw[HF.out];rfl,jo KO HB2.out⟩
       ·have t2:decide ((k:Int)<(r.A.length:Int)-1)=false:=(by simp;omega);have t3:((k:Int)==(r.A.length:Int)-1)=true:=(by rw[beq_iff_eq];omega);by_cases s3:S=r.X
        ·have t4:(S != r.X)=false:=(by simp[s3]);by_cases s2:S=0
         ·have t1:(S != 0)=false:=by simp[s2]
          have HN2:Hid (∀j,j<k+1→CC j):=fun j hj=>by
           rcases Nat.lt_or_ge j k with h' | h'
           ·exact HN.out j h'
           ·obtain rfl:j=k:=(by omega);refine HCI.out j ?_;rw[hS];exact⟨fun h=>absurd h.2 s1,fun h=>h.2 s3⟩
          clear s1 s2 s3 hS;go_wp2_with fail;go_roundg (r.A.length-(k+1))
          case measure=>go_light;omega
          case rel=>go_light;exact⟨k+1,by omega,by omega,by go_num,HB2.out,HN2.out⟩
         ·have t1:(S != 0)=true:=by simp[s2]
          have HN2:Hid (∀j,j<k+1→CC j):=fun j hj=>by
           rcases Nat.lt_or_ge j k with h' | h'
           ·exact HN.out j h'
           ·obtain rfl:j=k:=(by omega);refine HCI.out j ?_;rw[hS];exact⟨fun h=>absurd h.2 s1,fun h=>h.2 s3⟩
          clear s1 s2 s3 hS;go_wp2_with fail;go_roundg (r.A.length-(k+1))
          case measure=>go_light;omega
          case rel=>go_light;exact⟨k+1,by omega,by omega,by go_num,HB2.out,HN2.out⟩
        ·have t4:(S != r.X)=true:=(by simp[s3]);by_cases s2:S=0
         ·have t1:(S != 0)=false:=by simp[s2]
          have HF:Hid (D=false):=by
           show _=_;rw[HV.out];refine decide_eq_false fun h=> ?_;have h2:=h.2 k hlt;rw[hS]at h2;exact h2.2 ⟨by omega,s3⟩
          clear s1 s2 s3 hS;go_wp2_with fail;go_ret;exact⟨by rw[HF.out];rfl,jo KO HB2.out⟩
         ·have t1:(S != 0)=true:=by simp[s2]
          have HF:Hid (D=false):=by
           show _=_;rw[HV.out];refine decide_eq_false fun h=> ?_;have h2:=h.2 k hlt;rw[hS]at h2;exact h2.2 ⟨by omega,s3⟩
          clear s1 s2 s3 hS;go_wp2_with fail;go_ret;exact⟨by rw[HF.out];rfl,jo KO HB2.out⟩
      ·obtain rfl:k=r.A.length:=(by omega);have hd:decide ((r.A.length:Int)<(r.A.length:Int))=false:=by simp
       have HF:Hid (D=true):=by
        show _=_;rw[HV.out];exact decide_eq_true ⟨HONE.out,fun i hi=>HCC.out i (HN.out i hi)⟩
       go_wp2_with fail;go_ret;exact⟨by rw[HF.out];rfl,KW.out⟩
theorem zhf (p:Pl) (s q gg rr:Value) (w:World) (hp:PlM w s q gg rr p) (hf:p.Fit):
  Calls Tryz.prog 62 #[plV p s q gg rr] w (zae w (decide (zaj p))):=by
 have HE:Hid (∀W,jb w W→Calls Tryz.prog 129 #[plV p s q gg rr] W (zae W (decide (zaq p)))):=fun W hb=>zw3 p s q gg rr W (hp.below hb) hf;have HS:Hid (zaq p→ ∀k (hk:k<p.R.length) c5 c6 c7 W,jb w W→RtM W c5 c6 c7 p.R[k]→Calls Tryz.prog 130 #[plV p s q gg rr,.agg #[p.R[k].id,p.R[k].E,p.R[k].X,c5,c6,c7,p.R[k].T]] W (zae W (decide (zdd p p.R[k])))):=fun hPM k hk c5 c6 c7 W hb hr=>zxr p s q gg rr k hk c5 c6 c7 W (hp.below hb) hf hPM hr;have HIF:=hI (zgq p);obtain⟨a1,k1,rfl,-⟩:=hp.S;obtain⟨a2,k2,rfl,-⟩:=hp.P;obtain⟨a3,k3,rfl,-⟩:=hp.G;obtain⟨a4,k4,rfl,g4⟩:=hp.R;have HRT:Hid (∀W,jb w W→SlA W 7 RRt a4 k4 p.R):=fun W hb=>g4.below zcv hb;have LR:=hf.R;clear hp hf g4;have HD:Hid (decide (zaj p)=true↔zaj p):=decide_eq_true_iff;have HD0:Hid (¬zaj p→decide (zaj p)=false):=fun h=>decide_eq_false h;generalize decide (zaj p)=D at *;unfold plV at *;go_enter Tryz.func62,Tryz.ntmps62;go_upto_region 1 with fail;generalize hW0:World.alloc _ _=W0;have K0:Hid (jb w W0):=by show Below _ _ _;rw[←hW0];exact jal
 have HP0:Hid (jk W0 w.heap.size #[p.ver,p.par,js a1 p.S.length k1,js a2 p.P.length k2,js a3 p.G.length k3,js a4 p.R.length k4] 28):=by show _=_;rw[←hW0];exact heap_alloc_new _ _
 clear hW0;obtain⟨pp0,pp1,pp2,pp3,pp4,pp5⟩:=zan (HP0.out);have lb:=block_lt_of_cell pp0;by_cases hPM:zaq p
 ·have hb1:decide (zaq p)=true:=decide_eq_true hPM;rw[hb1]at HE;have HS2:=hI (HS.out hPM);have HPM:=hI hPM;clear hb1 hPM HS;go_wp2_with fail;refine(HE.out W0 K0.out).mono ?_;rintro e W1 ⟨rfl,hb⟩;have HB1:Hid (jb W0 W1):=hb;clear hb pp0 pp1 pp2 pp3 pp4 pp5 lb HE;go_wp2_with fail;go_loopg [3] p.R.length (fun u i wr=> ∃(k:Nat),k≤p.R.length∧u=p.R.length-k∧i= .int .i64 k∧jb W0 wr∧(∀j (hj:j<p.R.length),j<k→zdd p p.R[j]))
  case atStart=>exact⟨0,by omega,by omega,rfl,HB1.out,fun j _ hj=>absurd hj (Nat.not_lt_zero _)⟩
  case round=>
   obtain⟨k,hk,rfl,rfl,hb,hno⟩:=hrel;have bx0:=jm hb HP0.out;have HB:=hI hb;have HN:=hI hno;have KW:=jh K0 hb;obtain⟨pp0,pp1,pp2,pp3,pp4,pp5⟩:=zan (bx0);have lb:=block_lt_of_cell pp0;clear hb hno bx0;by_cases hlt:k<p.R.length
   ·have hd:decide ((k:Int)<(p.R.length:Int))=true:=(by simp;omega);obtain⟨g,off,vs,rfl,hvl,hvc,hvr⟩:=(HRT.out wr KW.out).at_ k hlt;obtain⟨c5,c6,c7,rfl,hr⟩:=hvr;have x0:=hvc 0 (by simp);have x1:=hvc 1 (by simp);have x2:=hvc 2 (by simp);have x3:=hvc 3 (by simp);have x4:=hvc 4 (by simp);have x5:=hvc 5 (by simp);have x6:=hvc 6 (by simp);simp only[Nat.add_zero,List.getElem_cons_zero,List.getElem_cons_succ]at x0 x1 x2 x3 x4 x5 x6;have lx:=block_lt_of_cell x0;have HRr:=hI hr;clear hvl hvc hr;have c0:(0:Int)≤(k:Int):=(by omega);have c1:(k:Int)<(p.R.length:Int):=(by omega);go_upto_region 6 with fail
    go_still_tail 6,(by kernel_rfl)
    change wpList _ _ _ _ _ wr.drew;generalize hWD:wr.drew=WD;have hbD:jb wr WD:=(by rw[←hWD];exact(Below.refl _ _).drew);have HBD:=jh HB hbD;have HCk:=hI (HS2.out k hlt c5 c6 c7 WD (jo K0 HBD.out) (HRr.out.below hbD));clear hWD hbD pp0 pp1 pp2 pp3 pp4 pp5 lb x0 x1 x2 x3 x4 x5 x6 lx HB KW;by_cases hS:zdd p p.R[k]
    ·rw[decide_eq_true hS]at HCk
     have HN2:Hid (∀j (hj:j<p.R.length),j<k+1→zdd p p.R[j]):=fun j h1 h2=>by
      by_cases hjk:j=k
      ·subst hjk;exact hS
      ·exact HN.out j h1 (by omega)
     clear hS;go_wp2_with fail;refine HCk.out.mono ?_;rintro e W2 ⟨rfl,hb2⟩;have HB2:=jh HBD hb2;clear hb2 HCk;go_wp2_with fail;go_roundg (p.R.length-(k+1))
     case measure=>go_light;omega
     case rel=>go_light;exact⟨k+1,by omega,by omega,by go_num,HB2.out,HN2.out⟩
    ·rw[decide_eq_false hS]at HCk;have HV:=hI (HD0.out fun h=>hS ((HIF.out.1 h).2 k hlt));clear hS;go_wp2_with fail;refine HCk.out.mono ?_;rintro e W2 ⟨rfl,hb2⟩;have HB2:=jh HBD hb2;clear hb2 HCk;go_wp2_with fail;go_ret;exact⟨by rw[HV.out];rfl,jo K0 HB2.out⟩
   ·obtain rfl:k=p.R.length:=(by omega);have hd:decide ((p.R.length:Int)<(p.R.length:Int))=false:=(by simp);have HV:Hid (D=true):=HD.out.2 (HIF.out.2 ⟨HPM.out,fun j hj=>HN.out j hj hj⟩);go_wp2_with fail;go_ret;exact⟨by rw[HV.out];rfl,KW.out⟩
 ·have hb1:decide (zaq p)=false:=decide_eq_false hPM;rw[hb1]at HE;have HV:=hI (HD0.out fun h=>hPM (HIF.out.1 h).1);clear hb1 hPM HS;go_wp2_with fail;refine(HE.out W0 K0.out).mono ?_;rintro e W1 ⟨rfl,hb⟩;have KW:=jh K0 hb;clear hb;go_wp2_with fail;go_ret;exact⟨by rw[HV.out];rfl,KW.out⟩
theorem zpy {α:Type} [DecidableEq α]: ∀ {P L:List α},P.Nodup→(∀a∈P,a∈L)→P.length≤L.length
 | [],L,_,_=>Nat.zero_le _
 | a::P,L,hn,hs=>by
  have ha:=hs a List.mem_cons_self;have hp:=List.nodup_cons.1 hn;have ih:=zpy (P:=P) (L:=L.erase a) hp.2 (fun b hb=>(List.mem_erase_of_ne (by intro e;subst e;exact hp.1 hb)).2 (hs b (List.mem_cons_of_mem _ hb)));rw[List.length_erase_of_mem ha]at ih;have:=List.length_pos_of_mem ha;rw[List.length_cons];omega
theorem zxs {p:Pl}(hPM:zaq p){s:Sec}(hs:s∈p.S) (h:s.pt≠0):za2 Pt.id p.P s.pt=true:=by
 have hP:zcf p:=hPM.2.1.1
 have hN:(p.P.map Pt.id).Nodup:=by
  unfold List.Nodup;rw[List.pairwise_map,List.pairwise_iff_getElem];intro i j hi hj hij;have:=zg4 hP.1.1 hj hij;omega
 by_cases hc:za2 Pt.id p.P s.pt=true
 ·exact hc
 have hno: ∀x∈p.P,x.id≠s.pt:=fun x hx e=>hc (by unfold za2;rw[List.any_eq_true];exact⟨x,hx,decide_eq_true e⟩);have hcnt:=hP.2.1;unfold zbj at hcnt;rw[List.take_length]at hcnt
 have hl:=zpy (P:=s.pt::p.P.map Pt.id) (L:=(p.S.filter fun s=>decide (s.pt≠0)).map Sec.pt)
  (List.nodup_cons.2 ⟨fun hm=>by obtain⟨x,hx,e⟩:=List.mem_map.1 hm;exact hno x hx e,hN⟩)
  (fun a ha=>by
   rcases List.mem_cons.1 ha with rfl | ha
   ·exact List.mem_map.2 ⟨s,List.mem_filter.2 ⟨hs,decide_eq_true h⟩,rfl⟩
   ·obtain⟨x,hx,rfl⟩:=List.mem_map.1 ha;obtain⟨i,hi,rfl⟩:=List.getElem_of_mem hx;obtain⟨s',hs',_,e⟩:=hP.2.2 i hi;have:=(hP.1.1 i hi hi).1
    exact List.mem_map.2 ⟨s',List.mem_filter.2 ⟨hs',decide_eq_true (by omega)⟩,e⟩)
 rw[List.length_cons,List.length_map,List.length_map,hcnt]at hl;omega
theorem zxt {p:Pl}{r:Rt}{i:Nat}(h:(zai p r i).pt≠0):zai p r i∈p.S:=by
 unfold zai za1 at *;cases hf:p.S.find? (fun x=>decide (x.id=(zaa r).getD i 0))with
 | none=>rw[hf]at h;exact absurd rfl h
 | some x=>exact List.mem_of_find?_eq_some hf
theorem zpz {p:Pl}(hPM:zaq p) (r:Rt) (ins outs:List Int): ∀i,∀a∈zc2 p r ins outs i,za2 Pt.id p.P a.pt=true
 | 0,a,h=>by simp[zc2]at h
 | i+1,a,h=>by
  rw[zc2]at h;rcases List.mem_append.1 h with h | h
  ·exact zpz hPM r ins outs i a h
  ·unfold zfd at h;by_cases hz:(zai p r i).pt=0
   ·rw[if_pos hz]at h;simp at h
   ·rw[if_neg hz]at h;by_cases hq:0<(if 0≤outs.getD i 0 then zbs (zai p r i) (ins.getD i 0) (outs.getD i 0)else ins.getD i 0)
    ·rw[if_pos hq,List.mem_singleton]at h;rw[h];exact zxs hPM (zxt hz) hz
    ·rw[if_neg hq]at h;simp at h
theorem zxu {p:Pl}(hPS:zaj p){k:Nat}(hk:k<p.R.length) (l:Lk): ∀a∈zc8 (zao p p.R[k]) l,za2 Pt.id p.P a.pt=true:=by
 intro a ha;obtain⟨x,hx⟩:=zjj hPS hk;have hPM:=((zgq p).1 hPS).1;rw[zlm hPM hk hx]at ha;unfold ze7 at ha;split at ha
 ·simp at ha
 ·have h1:=(List.mem_filter.1 ha).1;unfold zci at h1;rcases List.mem_append.1 h1 with h1 | h1
  ·exact zpz hPM _ _ _ _ a h1
  ·obtain⟨f,hf,rfl⟩:=List.mem_map.1 h1;obtain⟨i,hi,rfl⟩:=List.getElem_of_mem hf;exact((zfe hPM hk).2.2 i hi hi).1
theorem zxv {p:Pl}{st:St}(hA:StA p st){n:Int}(h:za2 Pt.id p.P n=true): ∃i,∃hi:i<st.sws.length,fix (fun x=>decide (x.id=n)) p.P=(i:Int)∧st.sws[i].call=zbz st.sws n:=by
 have hL:=hA.2.1;rcases zce (fun x=>decide (x.id=n)) p.P with⟨_,h2⟩ | ⟨k,hk,e,h1,h2⟩
 ·unfold za2 at h;rw[List.any_eq_true]at h;obtain⟨x,hx,e⟩:=h;obtain⟨i,hi,rfl⟩:=List.getElem_of_mem hx;have:=h2 i hi;rw[this]at e;cases e
 ·have hk':k<st.sws.length:=by rw[hL.1];exact hk
  have hid: ∀j (hj:j<st.sws.length) (hj':j<p.P.length),st.sws[j].id=p.P[j].id:=fun j hj hj'=>(hL.2 j hj hj' hj).1;refine⟨k,hk',e,?_⟩;unfold zbz
  rw[(zfy (f:=Sw.id) (z:=⟨0,0,0⟩) (n:=n) hk' (by rw[hid k hk' hk];exact h1) fun j hj hjk=>by
   rw[hid j hj (by omega)]
   exact h2 j (by omega) hjk).1]
theorem IntRow.other {W:World}{g n:Nat}{T:TypeId}{f:Nat→Int}(h:IntRow W g n T f){a:Addr}{u:Value}(hne:g≠a.block):IntRow (W.setCell a u) g n T f:=by
 obtain⟨cur,hc,hs,hx⟩:=h;exact⟨cur,(Below.heap_setCell W a u g hne).trans hc,hs,hx⟩
theorem BoolRow.other {W:World}{g n:Nat}{T:TypeId}{f:Nat→Bool}(h:BoolRow W g n T f){a:Addr}{u:Value}(hne:g≠a.block):BoolRow (W.setCell a u) g n T f:=by
 obtain⟨cur,hc,hs,hx⟩:=h;exact⟨cur,(Below.heap_setCell W a u g hne).trans hc,hs,hx⟩
theorem zln: ∀(l m:List Int) (H:Nat→Bool),zbw (l++m) H=(zbw l H).bind (zbw m)
 | [],m,H=>rfl
 | s::r,m,H=>by
  rw[List.cons_append,zbw,zbw];by_cases h:H s.toNat=true
  ·rw[if_pos h,if_pos h];rfl
  ·rw[if_neg h,if_neg h];exact zln r m _
theorem zp0 {l:List Int}{m:Nat}(hm:m<l.length){H G:Nat→Bool}(h:zbw (l.take m) H=some G):(G l[m].toNat=true→zbw l H=none)∧(G l[m].toNat=false→zbw (l.take (m+1)) H=some (zh5 G l[m].toNat)):=by
 constructor
 ·intro hg;have e:=zln (l.take m) (l.drop m) H;rw[List.take_append_drop,h]at e;rw[e];show zbw (l.drop m) G=none;rw[List.drop_eq_getElem_cons hm,zbw,if_pos hg]
 ·intro hg;rw[List.take_succ_eq_append_getElem hm,zln,h];show zbw [l[m]] G=_;rw[zbw,if_neg (by rw[hg];decide),zbw]
theorem zlo (call:Int→Int): ∀(l m:List Ask) (A:Nat→Int),zbx call (l++m) A=(zbx call l A).bind (zbx call m)
 | [],m,A=>rfl
 | a::r,m,A=>by
  rw[List.cons_append,zbx,zbx];by_cases h:(A a.pt.toNat≠0∧A a.pt.toNat≠a.lie)∨call a.pt≠a.lie
  ·rw[if_pos h,if_pos h];rfl
  ·rw[if_neg h,if_neg h];exact zlo call r m _
theorem zp1 {call:Int→Int}{l:List Ask}{m:Nat}(hm:m<l.length){A G:Nat→Int}(h:zbx call (l.take m) A=some G):(((G l[m].pt.toNat≠0∧G l[m].pt.toNat≠l[m].lie)∨call l[m].pt≠l[m].lie)→zbx call l A=none)∧(¬((G l[m].pt.toNat≠0∧G l[m].pt.toNat≠l[m].lie)∨call l[m].pt≠l[m].lie)→zbx call (l.take (m+1)) A=some (zpr G l[m].pt.toNat l[m].lie)):=by
 constructor
 ·intro hg;have e:=zlo call (l.take m) (l.drop m) A;rw[List.take_append_drop,h]at e;rw[e];show zbx call (l.drop m) G=none;rw[List.drop_eq_getElem_cons hm,zbx,if_pos hg]
 ·intro hg;rw[List.take_succ_eq_append_getElem hm,zlo,h];show zbx call [l[m]] G=_;rw[zbx,if_neg hg,zbx]
theorem zlp {p:Pl}{st:St}{k:Nat}(h:zbt p st k=none): ∀n,k≤n→zbt p st n=none
 | 0,hn=>by
  obtain rfl:k=0:=by omega
  exact h
 | n+1,hn=>by
  rcases Nat.lt_or_ge n k with h' | h'
  ·obtain rfl:k=n+1:=(by omega);exact h
  ·rw[zbt,zlp h n h'];rfl
theorem zxw {p:Pl}{st:St}{k:Nat}{x:(Nat→Bool) × (Nat→Int)}(h:zbt p st k=some x) (hk:k<st.lks.length) (hh:zbw (zc0 (zao p (p.R.getD k zRt)) (st.lks.getD k zLk)) x.1=none):zbt p st st.lks.length=none:=by
 refine zlp (k:=k+1) ?_ _ hk;rw[zbt,h];show zfh p st k x=none;unfold zfh;rw[hh];rfl
theorem zxx {p:Pl}{st:St}{k:Nat}{x:(Nat→Bool) × (Nat→Int)}{G:Nat→Bool}(h:zbt p st k=some x) (hk:k<st.lks.length) (hh:zbw (zc0 (zao p (p.R.getD k zRt)) (st.lks.getD k zLk)) x.1=some G) (ha:zbx (zbz st.sws) (zc8 (zao p (p.R.getD k zRt)) (st.lks.getD k zLk)) x.2=none):zbt p st st.lks.length=none:=by
 refine zlp (k:=k+1) ?_ _ hk;rw[zbt,h];show zfh p st k x=none;unfold zfh;rw[hh];show(zbx _ _ _).map _=none;rw[ha];rfl
theorem zxy {p:Pl}{st:St}{k:Nat}{x:(Nat→Bool) × (Nat→Int)}{G:Nat→Bool}{A:Nat→Int}(h:zbt p st k=some x) (hh:zbw (zc0 (zao p (p.R.getD k zRt)) (st.lks.getD k zLk)) x.1=some G) (ha:zbx (zbz st.sws) (zc8 (zao p (p.R.getD k zRt)) (st.lks.getD k zLk)) x.2=some A):zbt p st (k+1)=some (G,A):=by
 rw[zbt,h];show zfh p st k x=_;unfold zfh;rw[hh];show(zbx _ _ _).map _=_;rw[ha];rfl
def zde (p:Pl) (st:St):Prop:=zaj p∧zh6 p st
instance (p:Pl) (st:St):Decidable (zde p st):=by unfold zde;exact inferInstance
theorem zp2 {p:Pl}{st:St}(h:zbt p st st.lks.length=none):decide (zde p st)=false:=decide_eq_false fun h2=>by
 have:=h2.2.2;rw[h]at this;cases this
theorem zxz {p:Pl}{st:St}(h1:zaj p) (h2:StA p st){x:(Nat→Bool) × (Nat→Int)}(h:zbt p st st.lks.length=some x):decide (zde p st)=true:=decide_eq_true ⟨h1,h2,by rw[h];rfl⟩
end Go.Proofs.YtbiehpjhhopjaaaGreat
