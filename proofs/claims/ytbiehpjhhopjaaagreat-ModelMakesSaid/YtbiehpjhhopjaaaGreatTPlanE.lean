/-
 track.Check,walked.
-/
import Derived.Test.YtbiehpjhhopjaaaGreatTTrackD
import Derived.Test.YtbiehpjhhopjaaaGreatTPlanA
import Derived.Test.YtbiehpjhhopjaaaGreatTPlanC
import Derived.Test.YtbiehpjhhopjaaaGreatTData
set_option linter.unusedVariables false
set_option linter.unusedSimpArgs false
set_option maxRecDepth 100000
set_option maxHeartbeats 16000000
namespace Go.Proofs.YtbiehpjhhopjaaaGreat
open Go.RowKit Go.Sort
def BoolRow (W:World) (g n:Nat) (T:TypeId) (f:Nat→Bool):Prop:= ∃cur:Array Value,jk W g cur T∧cur.size=n∧ ∀q,q<n→cur[q]? =some (.bool (f q))
section
variable {W W':World}{g n:Nat}{T:TypeId}{f:Nat→Bool}
theorem BoolRow.lt (h:BoolRow W g n T f):g<W.heap.size:=by
 obtain⟨cur,hc,-,-⟩:=h;rcases Nat.lt_or_ge g W.heap.size with h | h
 ·exact h
 ·rw[Array.getElem?_eq_none h]at hc;cases hc
theorem BoolRow.cell (h:BoolRow W g n T f){q:Nat}(hq:q<n):jc W g q (.bool (f q)):=by
 obtain⟨cur,hc,-,hx⟩:=h;rw[cell_of_row W g q cur T _ hc];exact hx q hq
theorem BoolRow.frozen (h:BoolRow W g n T f) (q:Nat):W.frozen? ⟨g,q,none⟩=false:=by
 obtain⟨cur,hc,-,-⟩:=h;simp[World.frozen?,hc]
theorem BoolRow.below (h:BoolRow W g n T f) (hb:jb W W'):BoolRow W' g n T f:=by
 have hl:=h.lt;obtain⟨cur,hc,hs,hx⟩:=h;exact⟨cur,(hb.block g hl).trans hc,hs,hx⟩
theorem BoolRow.set (h:BoolRow W g n T f){q:Nat}(hq:q<n) (b:Bool):BoolRow (W.setCell ⟨g,q,none⟩ (.bool b)) g n T (fun i=>if i=q then b else f i):=by
 obtain⟨cur,hc,hs,hx⟩:=h;refine⟨cur.setIfInBounds q (.bool b),by simp[World.setCell,Array.getElem?_modify,hc],by simp[hs],fun i hi=> ?_⟩;rw[Array.getElem?_setIfInBounds];by_cases hiq:q=i
 ·subst hiq;simp[hs,hq]
 ·rw[if_neg hiq];simp only[if_neg (Ne.symm hiq)];exact hx i hi
theorem BoolRow.new (W:World) (cs:Array Value) (T:TypeId) (hs:cs.size=n) (hx: ∀q,q<n→cs[q]? =some (.bool false)):BoolRow (W.alloc (.cells cs T)) W.heap.size n T (fun _=>false):=⟨cs,heap_alloc_new W _,hs,hx⟩
theorem BoolRow.congr (h:BoolRow W g n T f){f':Nat→Bool}(he: ∀q,q<n→f q=f' q):BoolRow W g n T f':=by
 obtain⟨cur,hc,hs,hx⟩:=h;exact⟨cur,hc,hs,fun q hq=>by rw[←he q hq];exact hx q hq⟩
end
def zdz (w:World) (n:Int) (e:Ending) (w':World):Prop:=e= .returned (.int .i64 n)∧jb w w'
def zep (l:List Sec) (k:Nat) (q:Nat):Bool:=decide (0<q∧ ∃m,∃h:m<l.length,m<k∧l[m].pt=(q:Int))
theorem zg2:Tryz.zeroCells279=Array.replicate 100 (.bool false):=by kernel_rfl
theorem zir (q:Nat) (h:q<100):Tryz.zeroCells279[q]? =some (.bool false):=by rw[zg2];simp[h]
theorem zsp (l:List Sec) (q:Nat):zep l 0 q=false:=decide_eq_false fun h=>by obtain⟨_,m,_,h2,_⟩:=h;omega
theorem zsq {l:List Sec}{k:Nat}(h:k<l.length) (p:Nat) (hp:l[k].pt=(p:Int)) (q:Nat):(if q=p then decide (0<p)else zep l k q)=zep l (k+1) q:=by
 unfold zep;by_cases hq:q=p
 ·subst hq;rw[if_pos rfl];apply decide_eq_decide.2;exact⟨fun h1=>⟨h1,k,h,by omega,hp⟩,fun h1=>h1.1⟩
 ·rw[if_neg hq];apply decide_eq_decide.2;constructor
  ·rintro⟨h1,m,hm,h2,h3⟩;exact⟨h1,m,hm,by omega,h3⟩
  ·rintro⟨h1,m,hm,h2,h3⟩;refine⟨h1,m,hm,?_,h3⟩;by_cases e:m=k
   ·subst e;rw[hp]at h3;omega
   ·omega
def zkh (l:List Sec) (k:Nat) (h:k<l.length):Prop:=
 (decide (1≤l[k].id)&&decide (l[k].id≤99))=false∨
 ((decide (1≤l[k].id)&&decide (l[k].id≤99))=true∧decide l[k].Shaped=false)∨
 ((decide (1≤l[k].id)&&decide (l[k].id≤99))=true∧decide l[k].Shaped=true∧ ∃h':0<k,l[k].id≤l[k-1].id)∨
 ((decide (1≤l[k].id)&&decide (l[k].id≤99))=true∧decide l[k].Shaped=true∧(∀h':0<k,l[k-1].id<l[k].id)∧zep l k l[k].pt.toNat=true)
def zki (l:List Sec) (k:Nat) (h:k<l.length):Prop:=
 (decide (1≤l[k].id)&&decide (l[k].id≤99))=true∧decide l[k].Shaped=true∧(∀h':0<k,l[k-1].id<l[k].id)∧zep l k l[k].pt.toNat=false
theorem zhw {s:Sec}(h:s.Shaped):0≤s.pt∧s.pt≤99:=by
 rcases h with⟨h,_⟩ | ⟨h1,h2,_⟩
 ·omega
 ·omega
theorem zsr (l:List Sec) (k:Nat) (h:k<l.length):zki l k h∨zkh l k h:=by
 unfold zki zkh;cases h1:(decide (1≤l[k].id)&&decide (l[k].id≤99))with
 | false=>right;left;rfl
 | true=>
  cases h2:decide l[k].Shaped with
  | false=>right;right;left;exact⟨rfl,rfl⟩
  | true=>
   by_cases h3: ∃h':0<k,l[k].id≤l[k-1].id
   ·right;right;right;left;exact⟨rfl,rfl,h3⟩
   ·have h3: ∀h':0<k,l[k-1].id<l[k].id:=fun h'=>by
     rcases Int.lt_or_le l[k-1].id l[k].id with h | h
     ·exact h
     ·exact absurd ⟨h',h⟩ h3
    cases h4:zep l k l[k].pt.toNat with
    | false=>left;exact⟨rfl,rfl,h3,rfl⟩
    | true=>right;right;right;right;exact⟨rfl,rfl,h3,rfl⟩
theorem zss {l:List Sec}{k:Nat}(h:k<l.length) (hA:za4 l k) (hg:zki l k h):za4 l (k+1):=by
 obtain⟨h1,h2,h3,h4⟩:=hg;rw[Bool.and_eq_true,decide_eq_true_iff,decide_eq_true_iff]at h1;have hs:l[k].Shaped:=by simpa using h2
 have hp:=zhw hs;refine zms h hA ⟨h1.1,h1.2,hs⟩ fun j hj _=>⟨?_,fun hz e=> ?_⟩
 ·have h5:=h3 (by omega);by_cases e:j=k-1
  ·subst e;exact h5
  ·have:=((hA (k-1) (by omega) (by omega)).2 j (by omega)).1;omega
 ·unfold zep at h4;rw[decide_eq_false_iff_not]at h4;exact h4 ⟨by omega,j,by omega,hj,by rw[e];omega⟩
theorem zst {l:List Sec}{k:Nat}(h:k<l.length) (hb:zkh l k h): ¬za4 l l.length:=by
 intro hA;obtain⟨⟨h1,h2,h3⟩,h4⟩:=hA k h h;rcases hb with hb | ⟨_,hb⟩ | ⟨_,_,h',hb⟩ | ⟨_,_,_,hb⟩
 ·rw[Bool.and_eq_false_iff,decide_eq_false_iff_not,decide_eq_false_iff_not]at hb;omega
 ·exact(decide_eq_false_iff_not.1 hb) h3
 ·have:=(h4 (k-1) (by omega)).1;omega
 ·unfold zep at hb;rw[decide_eq_true_iff]at hb;obtain⟨h5,m,hm,hmk,h6⟩:=hb;have hp:=zhw h3;exact(h4 m hmk).2 (by omega) (by rw[h6];omega)
theorem zsu (a:Option Addr) (cap:Nat) (l:List Sec) (w:World) (hl:SlA w 3 zas a cap l) (hm:l.length≤1000) (hmm: ∀i (h:i<l.length),l[i].ends.length≤8796093022208):
  Calls Tryz.prog 295 #[js a l.length cap] w (zdz w (if zb8 l then 0 else 8)):=by
 have HL:Hid (∀w',jb w w'→SlA w' 3 zas a cap l):=fun w' hb=>hl.below zbo hb;have HMM:=hI hmm;clear hl hmm;have HNL:Hid (¬l.length≤16→(if zb8 l then(0:Int)else 8)=8):=fun h=>if_neg fun h'=>h h'.1;have HNA:Hid (¬za4 l l.length→(if zb8 l then(0:Int)else 8)=8):=fun h=>if_neg fun h'=>h h'.2.1;have HNB:Hid (¬zel l l.length→(if zb8 l then(0:Int)else 8)=8):=fun h=>if_neg fun h'=>h h'.2.2;have HY:Hid (l.length≤16→za4 l l.length→zel l l.length→(if zb8 l then(0:Int)else 8)=0):=fun h0 h1 h2=>if_pos ⟨h0,h1,h2⟩;generalize(if zb8 l then(0:Int)else 8)=E at *;by_cases hbig:16<l.length
 ·have hd:decide ((16:Int)<(l.length:Int))=true:=by simp;omega
  have HE:=hI (HNL (by omega));go_enter Tryz.func295,Tryz.ntmps295;go_wp2_with fail;go_ret;exact⟨za0 HE.symm,Below.refl _ _⟩
 ·have hd:decide ((16:Int)<(l.length:Int))=false:=by simp;omega
  have h16:l.length≤16:=by omega
  go_enter Tryz.func295,Tryz.ntmps295;go_wp2_with fail;have hR0:BoolRow (w.alloc (.cells Tryz.zeroCells279 279)) w.heap.size 100 279 (zep l 0):=(BoolRow.new w _ _ (by rw[zg2];simp) zir).congr fun q _=>(zsp l q).symm;have HR0:=hI hR0;clear hR0;go_loopg [18] l.length (fun g i wr=> ∃k:Nat,k≤l.length∧g=l.length-k∧i= .int .i64 k∧jb w wr∧za4 l k∧BoolRow wr w.heap.size 100 279 (zep l k))
  case atStart=>exact⟨0,by omega,by omega,rfl,jal,fun i h h0=>by omega,HR0⟩
  case round=>
   obtain⟨k,hk,rfl,rfl,hb,hA,hR⟩:=hrel;obtain⟨wo,rfl⟩: ∃wo:World,wo=wr:=⟨_,rfl⟩;have HB:=hI hb;have HA:=hI hA;have HR:=hI hR;clear hb hA hR;by_cases hlt:k<l.length
   ·have hdk:decide ((k:Int)<(l.length:Int))=true:=(by simp;omega);obtain⟨b,off,a',c',rfl,x0,x1,x2,hends⟩:=(HL _ HB).sec hlt;have c0:(0:Int)≤(k:Int):=(by omega);have c1:(k:Int)<(l.length:Int):=(by omega);have l1:=World.block_lt_of_cell? _ _ x0;go_wp2_with fail;generalize hW:wo.alloc (.cells #[l[k].id,l[k].pt,js a' l[k].ends.length c'] 80)=W;have hbW:jb wo W:=(by rw[←hW];exact jal);have K0:=jh HB hbW;have HY1:Hid (jc W wo.heap.size 1 l[k].pt):=(by show _=_;rw[←hW];simp);have y0:=cell_regrown (show jc W wo.heap.size 0 l[k].id by rw[←hW];simp);have y1:=cell_regrown (show jc W wo.heap.size 1 l[k].pt by rw[←hW];simp);have y2:=cell_regrown (show jc W wo.heap.size 2 (js a' l[k].ends.length c') by rw[←hW];simp);have HRW:=hI (HR.below hbW);have cS:Hid (∀d os,Calls Tryz.prog 374 #[.agg #[l[k].id,l[k].pt,js a' l[k].ends.length c']] (grow (redrawn W d) os) fun e w''=>e= .returned (.bool (decide l[k].Shaped))∧ ∃p:Regrown,w''=grow (redrawn W p.d) p.os):=fun d os=>Calls.regrown_of (zip l[k] a' c' _);have cN:Hid (∀d os,Calls Tryz.prog 373 #[l[k].id] (grow (redrawn W d) os) fun e w''=>e= .returned (.bool (decide (1≤l[k].id)&&decide (l[k].id≤99)))∧ ∃p:Regrown,w''=grow (redrawn W p.d) p.os):=fun d os=>(zg0 l[k].id _).mono fun e w' ⟨h1,h2⟩=>⟨h1,⟨d,os⟩,h2.symm⟩
    have HP:Hid (∀h':0<k,∃hk1:k-1<l.length,∀d os,jc (grow (redrawn W d) os) b (off+(k-1) * 3) l[k-1].id):=fun h'=>⟨by omega,by
     obtain⟨b',off',_,_,e,z0,-⟩:=(HL _ K0).sec (show k-1<l.length by omega);cases e
     exact cell_regrown z0⟩
    clear hW hends x0 x1 x2 hbW;rcases zsr l k hlt with hg | hbad
    ·have HG:=hI (zss hlt HA hg)
     have HST:Hid (∀W',BoolRow W' w.heap.size 100 279 (zep l k)→BoolRow (W'.setCell ⟨w.heap.size,l[k].pt.toNat,none⟩ (.bool (decide (0<l[k].pt)))) w.heap.size 100 279 (zep l (k+1))):=fun W' h=>by
      have hsh:l[k].Shaped:=(by simpa using hg.2.1);have hp:=zhw hsh;refine(h.set (q:=l[k].pt.toNat) (by omega) _).congr fun q hq=> ?_;have:=zsq hlt l[k].pt.toNat (by omega) q;rw[←this];by_cases e:q=l[k].pt.toNat
      ·rw[if_pos e,if_pos e];apply decide_eq_decide.2;omega
      ·rw[if_neg e,if_neg e]
     have y1':jc W wo.heap.size 1 l[k].pt:=HY1.out;obtain⟨h1,h2,h3,h4⟩:=hg;have hsh:l[k].Shaped:=(by simpa using h2);have hp:=zhw hsh;have p0:(0:Int)≤l[k].pt:=hp.1;have p1:l[k].pt<100:=(by have:=hp.2;omega);have r0:=cell_regrown (HRW.cell (q:=l[k].pt.toNat) (by omega));rw[h4]at r0;rw[h1]at cN;rw[h2]at cS;clear h1 h2 h4 hsh hp;rcases Nat.eq_zero_or_pos k with hk0 | hk0
     ·have t0:decide ((0:Int)<(k:Int))=false:=(by simp;omega);have t0':decide (0<k)=false:=(by simp;omega);clear hk0 h3;refine wp_region_quiet_below (by kernel_rfl) (by kernel_rfl) ?_
      repeat (go_big_quiet_step (first | (with_reducible exact cN.out _ _) | (with_reducible exact cS.out _ _)))
      refine wpQuiet_nil ?_;rintro _ ⟨⟨dq,osq⟩,rfl⟩;have hb2:=below_regrown W dq osq;generalize grow (redrawn W dq) osq=W2 at *;have K2:=jh K0 hb2;have HR2:=hI (HRW.below hb2);have v1:jc W2 wo.heap.size 1 l[k].pt:=zac hb2 y1';have v2:=HR2.cell (q:=l[k].pt.toNat) (by omega);have v3:=HR2.frozen l[k].pt.toNat;clear hb2 y0 y1 y2 r0 cN cS;go_wp2_with fail;go_roundg (l.length-(k+1))
      case measure=>go_light;omega
      case rel=>go_light;exact⟨k+1,by omega,by omega,by go_num,K2.setCell (by simp) _,HG,HST _ HR2⟩
     ·obtain⟨hk1,z0⟩:=HP hk0;have t0:decide ((0:Int)<(k:Int))=true:=(by simp;omega);have t1:decide (l[k].id≤l[k-1].id)=false:=(by have:=h3 hk0;simp;omega);have i0:(0:Int)≤(k:Int)-1:=(by omega);have i1:(k:Int)-1<(l.length:Int):=(by omega);have i2:((k:Int)-1).toNat=k-1:=(by omega);clear h3;refine wp_region_quiet_below (by kernel_rfl) (by kernel_rfl) ?_
      repeat (go_big_quiet_step (first | (with_reducible exact cN.out _ _) | (with_reducible exact cS.out _ _)))
      refine wpQuiet_nil ?_;rintro _ ⟨⟨dq,osq⟩,rfl⟩;have hb2:=below_regrown W dq osq;generalize grow (redrawn W dq) osq=W2 at *;have K2:=jh K0 hb2;have HR2:=hI (HRW.below hb2);have v1:jc W2 wo.heap.size 1 l[k].pt:=zac hb2 y1';have v2:=HR2.cell (q:=l[k].pt.toNat) (by omega);have v3:=HR2.frozen l[k].pt.toNat;clear hb2 y0 y1 y2 r0 cN cS;go_wp2_with fail;go_roundg (l.length-(k+1))
      case measure=>go_light;omega
      case rel=>go_light;exact⟨k+1,by omega,by omega,by go_num,K2.setCell (by simp) _,HG,HST _ HR2⟩
    ·have HE:=hI (HNA (zst hlt hbad));rcases hbad with h1 | ⟨h1,h2⟩ | ⟨h1,h2,h',h3⟩ | ⟨h1,h2,h3,h4⟩
     ·rw[h1]at cN;clear h1;refine wp_region_quiet_below (by kernel_rfl) (by kernel_rfl) ?_
      repeat (go_big_quiet_step (first | (with_reducible exact cN.out _ _) | (with_reducible exact cS.out _ _)))
      refine wpQuiet_nil ?_;rintro _ ⟨⟨dq,osq⟩,rfl⟩;go_wp2_with fail;go_ret;exact⟨za0 HE.symm,K0.trans ((below_regrown W dq osq).mono K0.size)⟩
     ·rw[h1]at cN;rw[h2]at cS;clear h1 h2;refine wp_region_quiet_below (by kernel_rfl) (by kernel_rfl) ?_
      repeat (go_big_quiet_step (first | (with_reducible exact cN.out _ _) | (with_reducible exact cS.out _ _)))
      refine wpQuiet_nil ?_;rintro _ ⟨⟨dq,osq⟩,rfl⟩;go_wp2_with fail;go_ret;exact⟨za0 HE.symm,K0.trans ((below_regrown W dq osq).mono K0.size)⟩
     ·rw[h1]at cN;rw[h2]at cS;obtain⟨hk1,z0⟩:=HP h';have t0:decide ((0:Int)<(k:Int))=true:=(by simp;omega);have t1:decide (l[k].id≤l[k-1].id)=true:=(by simpa using h3);have i0:(0:Int)≤(k:Int)-1:=(by omega);have i1:(k:Int)-1<(l.length:Int):=(by omega);have i2:((k:Int)-1).toNat=k-1:=(by omega);clear h1 h2 h3;refine wp_region_quiet_below (by kernel_rfl) (by kernel_rfl) ?_
      repeat (go_big_quiet_step (first | (with_reducible exact cN.out _ _) | (with_reducible exact cS.out _ _)))
      refine wpQuiet_nil ?_;rintro _ ⟨⟨dq,osq⟩,rfl⟩;go_wp2_with fail;go_ret;exact⟨za0 HE.symm,K0.trans ((below_regrown W dq osq).mono K0.size)⟩
     ·have hsh:l[k].Shaped:=(by simpa using h2);have hp:=zhw hsh;have p0:(0:Int)≤l[k].pt:=hp.1;have p1:l[k].pt<100:=(by have:=hp.2;omega);have r0:=cell_regrown (HRW.cell (q:=l[k].pt.toNat) (by omega));rw[h4]at r0;rw[h1]at cN;rw[h2]at cS;clear h1 h2 h4 hsh hp;rcases Nat.eq_zero_or_pos k with hk0 | hk0
      ·have t0:decide ((0:Int)<(k:Int))=false:=(by simp;omega);have t0':decide (0<k)=false:=(by simp;omega);clear hk0 h3;refine wp_region_quiet_below (by kernel_rfl) (by kernel_rfl) ?_
       repeat (go_big_quiet_step (first | (with_reducible exact cN.out _ _) | (with_reducible exact cS.out _ _)))
       refine wpQuiet_nil ?_;rintro _ ⟨⟨dq,osq⟩,rfl⟩;go_wp2_with fail;go_ret;exact⟨za0 HE.symm,K0.trans ((below_regrown W dq osq).mono K0.size)⟩
      ·obtain⟨hk1,z0⟩:=HP hk0;have t0:decide ((0:Int)<(k:Int))=true:=(by simp;omega);have t1:decide (l[k].id≤l[k-1].id)=false:=(by have:=h3 hk0;simp;omega);have i0:(0:Int)≤(k:Int)-1:=(by omega);have i1:(k:Int)-1<(l.length:Int):=(by omega);have i2:((k:Int)-1).toNat=k-1:=(by omega);clear h3;refine wp_region_quiet_below (by kernel_rfl) (by kernel_rfl) ?_
       repeat (go_big_quiet_step (first | (with_reducible exact cN.out _ _) | (with_reducible exact cS.out _ _)))
       refine wpQuiet_nil ?_;rintro _ ⟨⟨dq,osq⟩,rfl⟩;go_wp2_with fail;go_ret;exact⟨za0 HE.symm,K0.trans ((below_regrown W dq osq).mono K0.size)⟩
   ·obtain rfl:k=l.length:=(by omega);have hdk:decide ((l.length:Int)<(l.length:Int))=false:=(by simp);have hr:=hI (zkb HA);clear HR;go_wp2_with fail;go_loopg [62] l.length (fun g i wi=> ∃k:Nat,k≤l.length∧g=l.length-k∧i= .int .i64 k∧jb w wi∧zel l k)
    case atStart=>exact⟨0,by omega,by omega,rfl,HB,fun i h h0=>by omega⟩
    case round=>
     obtain⟨k,hk2,rfl,rfl,hb2,hB2⟩:=hrel;obtain⟨wi,rfl⟩: ∃wi:World,wi=wr:=⟨_,rfl⟩;have HBi:=hI hb2;have HBB:=hI hB2;clear hb2 hB2;by_cases hlt:k<l.length
     ·have hdk:decide ((k:Int)<(l.length:Int))=true:=(by simp;omega);have c0:(0:Int)≤(k:Int):=(by omega);have c1:(k:Int)<(l.length:Int):=(by omega);have hmk:=HMM k hlt;obtain⟨b,off,a',c',rfl,u0,u1,u2,hen⟩:=(HL _ (Below.refl _ _)).sec hlt;have HEN:Hid (∀w',jb w w'→SlA w' 2 RJn a' c' l[k].ends):=fun w' h=>hen.below zcn h;have x0:=zac HBi u0;have x1:=zac HBi u1;have x2:=zac HBi u2;clear u0 u1 u2 hen;have l1:=World.block_lt_of_cell? _ _ x0;go_wp2_with fail;go_loopg [69] l[k].ends.length (fun g i wj=> ∃m:Nat,m≤l[k].ends.length∧g=l[k].ends.length-m∧i= .int .i64 m∧jb w wj∧zht l k hlt m∧jc wj wi.heap.size 0 l[k].id)
      case atStart=>exact⟨0,by omega,by omega,rfl,HBi.alloc HBi.size _,fun j hj h0=>by omega,by simp⟩
      case round=>
       obtain⟨m,hmk2,rfl,rfl,hb3,hB3,hs0⟩:=hrel;obtain⟨wj,rfl⟩: ∃wj:World,wj=wr:=⟨_,rfl⟩;have HBj:=hI hb3;have HB1:=hI hB3;clear hb3 hB3 x0 x1 x2;have l2:=World.block_lt_of_cell? _ _ hs0;by_cases hm2:m<l[k].ends.length
       ·have hdm:decide ((m:Int)<(l[k].ends.length:Int))=true:=(by simp;omega);obtain⟨b2,off2,rfl,y0,y1⟩:=(HEN _ HBj).jn hm2;have l3:=World.block_lt_of_cell? _ _ y0;have m0:(0:Int)≤(m:Int):=(by omega);have m1:(m:Int)<(l[k].ends.length:Int):=(by omega);have HNOB:Hid (¬zdf l l[k] m l[k].ends[m]→E=8):=fun h=>HNB (zmu hlt hm2 h)
        have HOKB:Hid (zdf l l[k] m l[k].ends[m]→zht l k hlt (m+1)):=fun h e he hem=>by
         by_cases h':e=m
         ·subst h';exact h
         ·exact HB1 e he (by omega)
        have HJN:Hid ((∀i (h:i<l.length),decide (l[i].id=l[k].ends[m].to)=false)→ ¬(l[k].ends[m].to=0∧l[k].ends[m].en=0)→ ¬zdf l l[k] m l[k].ends[m]):=fun h1 h2=>zml h1 h2;have HJA:Hid (∀k2 (h2:k2<l.length),l[k2].id=l[k].ends[m].to→ ¬(l[k].ends[m].to=0∧l[k].ends[m].en=0)→(zdf l l[k] m l[k].ends[m]↔(¬(l[k].ends[m].to=l[k].id∧l[k].ends[m].en=m)∧0≤l[k].ends[m].en∧l[k2].ends[l[k].ends[m].en.toNat]? =some ⟨l[k].id,m⟩))):=fun k2 h2 h3 h4=>zmk hr h2 h3 h4;have HJZ:Hid ((l[k].ends[m].to=0∧l[k].ends[m].en=0)→zdf l l[k] m l[k].ends[m]):=fun h=> .inl h;generalize zdf l l[k] m l[k].ends[m]=Q at *;generalize l[k].ends[m].to=jt at *;generalize l[k].ends[m].en=je at *;generalize hsi:l[k].id=sid at *;have HSI:=hI hsi;clear hsi;generalize l[k].ends.length=ne at *;by_cases hz:jt=0∧je=0
        ·have HO:=hI (HOKB (HJZ hz));have ez: ∀w,Sem.run Tryz.prog (binOp .eql 133 (.agg #[jt,je]) (.agg #[.int .i64 0,.int .i64 0])) w= .ok (.bool true) w:=fun w=>by rw[zhr,decide_eq_true hz]
         clear hz;go_wp2_with fail;go_roundg (ne-(m+1))
         case measure=>go_light;omega
         case rel=>go_light;exact⟨m+1,by omega,by omega,by go_num,HBj.alloc HBj.size _,HO,(World.cell?_alloc_lt _ _ _ l2).trans hs0⟩
        ·have ez: ∀w,Sem.run Tryz.prog (binOp .eql 133 (.agg #[jt,je]) (.agg #[.int .i64 0,.int .i64 0])) w= .ok (.bool false) w:=fun w=>by rw[zhr,decide_eq_false hz]
         have HZ:=hI hz;clear hz;go_wp2_with fail;have KA:Hid (jb w ((wj.alloc (.cells #[jt,je] 133)).alloc (.cells #[sid,.int .i64 (m:Int)] 133))):=(HBj.alloc HBj.size _).alloc (by have:=HBj.size;simp;omega) _;refine(zr4 _ cap l jt _ (HL _ KA) hm hr).mono ?_;rintro e0 w1 ⟨k2,bb,rfl,hpl,hb1⟩;have K1:=jh KA hb1;have f0:jc w1 wj.heap.size 0 jt:=zac hb1 (by simp);have f1:jc w1 wj.heap.size 1 je:=zac hb1 (by simp);have g0:jc w1 (wj.heap.size+1) 0 sid:=zac hb1 (by simp);have g1:jc w1 (wj.heap.size+1) 1 (.int .i64 (m:Int)):=zac hb1 (by simp);have s0:jc w1 wi.heap.size 0 sid:=zac hb1 ((World.cell?_alloc_lt _ _ _ (by simp;omega)).trans ((World.cell?_alloc_lt _ _ _ l2).trans hs0));have HPL:=hI hpl;clear hb1 hpl hs0;cases bb with
         | false=>
          have HE:=hI (HNOB (HJN (fun i h=>decide_eq_false (HPL.2.2 rfl i h)) HZ));go_wp2_with fail;go_quiet (fail);go_wp2_with fail;go_ret;exact⟨za0 HE.symm,zb6 K1 _⟩
         | true=>
          obtain⟨hk2l,hid2⟩:=HPL.2.1 rfl;have HJ:=hI (HJA k2 hk2l hid2 HZ);obtain⟨b3,off3,a3,c3,e3,x0,x1,x2,hends⟩:=(HL _ K1).sec hk2l;cases e3;have HEN3:=hI hends;have hm3:=HMM k2 hk2l;have d0:(0:Int)≤(k2:Int):=(by omega);have d1:(k2:Int)<(l.length:Int):=(by omega);clear hends hid2;generalize l[k2].ends=te at *;by_cases hs:jt=sid∧je=(m:Int)
          ·have HE:=hI (HNOB (fun h=>(HJ.1 h).1 hs));have eo: ∀w,Sem.run Tryz.prog (binOp .eql 133 (.agg #[jt,je]) (.agg #[sid,.int .i64 (m:Int)])) w= .ok (.bool true) w:=fun w=>by rw[zhr,decide_eq_true hs]
           clear hs;go_wp2_with fail;go_quiet (fail);go_wp2_with fail;go_ret;exact⟨za0 HE.symm,zb6 K1 _⟩
          ·have eo: ∀w,Sem.run Tryz.prog (binOp .eql 133 (.agg #[jt,je]) (.agg #[sid,.int .i64 (m:Int)])) w= .ok (.bool false) w:=fun w=>by rw[zhr,decide_eq_false hs]
           have HS:=hI hs;clear hs;by_cases hn:je<0
           ·have t1:decide (je<0)=true:=(by simp;exact hn);have HE:=hI (HNOB (fun h=>by have:=(HJ.1 h).2.1;omega));go_wp2_with fail;go_quiet (fail);go_wp2_with fail;go_ret;exact⟨za0 HE.symm,zb6 K1 _⟩
           ·have t1:decide (je<0)=false:=(by simp;omega);by_cases hl2:(te.length:Int)≤je
            ·have t2:decide ((te.length:Int)≤je)=true:=(by simp;exact hl2);have HE:=hI (HNOB (fun h=>by have:=(HJ.1 h).2.2;rw[List.getElem?_eq_none (by omega)]at this;simp at this));go_wp2_with fail;go_quiet (fail);go_wp2_with fail;go_ret;exact⟨za0 HE.symm,zb6 K1 _⟩
            ·have t2:decide ((te.length:Int)≤je)=false:=(by simp;omega);obtain⟨n,rfl⟩:=Int.eq_ofNat_of_zero_le (by omega:0≤je);have hnl:n<te.length:=(by omega);obtain⟨b4,o4,rfl,z0,z1⟩:=HEN3.jn hnl;have n0:(0:Int)≤(n:Int):=(by omega);have n1:(n:Int)<(te.length:Int):=by omega
             have HQ:Hid (Q↔(te[n].to=sid∧te[n].en=(m:Int))):=by
              show _↔_;rw[HJ.out];simp only[Int.toNat_natCast,List.getElem?_eq_getElem hnl,Option.some.injEq];constructor
              ·rintro⟨-,-,h⟩;rw[h];exact⟨rfl,rfl⟩
              ·rintro⟨h1,h2⟩;refine⟨HS,by omega,?_⟩;cases hx:te[n]with
               | mk t0 t1=>rw[hx]at h1 h2;simp only[]at h1 h2;rw[h1,h2]
             generalize te[n].to=q0 at *;generalize te[n].en=q1 at *;by_cases hq:q0=sid∧q1=(m:Int)
             ·have HO:=hI (HOKB (HQ.2 hq));have en: ∀w,Sem.run Tryz.prog (binOp .neq 133 (.agg #[q0,q1]) (.agg #[sid,.int .i64 (m:Int)])) w= .ok (.bool false) w:=fun w=>by rw[zmh,decide_eq_true hq];rfl
              clear hq;go_wp2_with fail;go_quiet (fail);go_wp2_with fail;go_roundg (ne-(m+1))
              case measure=>go_light;omega
              case rel=>go_light;exact⟨m+1,by omega,by omega,by go_num,zb6 K1 _,HO,s0⟩
             ·have HE:=hI (HNOB (fun h=>hq (HQ.1 h)));have en: ∀w,Sem.run Tryz.prog (binOp .neq 133 (.agg #[q0,q1]) (.agg #[sid,.int .i64 (m:Int)])) w= .ok (.bool true) w:=fun w=>by rw[zmh,decide_eq_false hq];rfl
              clear hq;go_wp2_with fail;go_quiet (fail);go_wp2_with fail;go_ret;exact⟨za0 HE.symm,zb6 K1 _⟩
       ·have hme:m=l[k].ends.length:=(by omega);have HO:=hI (zmt hlt HBB (by rw[←hme];exact HB1));have hdm:decide ((m:Int)<(l[k].ends.length:Int))=false:=(by simp;omega);clear hme;go_wp2_with fail;go_roundg (l.length-(k+1))
        case measure=>go_light;omega
        case rel=>go_light;exact⟨k+1,by omega,by omega,by go_num,HBj,HO⟩
     ·obtain rfl:k=l.length:=(by omega);have hdk:decide ((l.length:Int)<(l.length:Int))=false:=(by simp);have HE:=hI (HY h16 HA HBB);go_wp2_with fail;go_ret;exact⟨za0 HE.symm,HBi⟩
theorem zmw {P:Program}{C:World→Prop}{a:Act}{o:Oper}{K:Act→Prop}(ty:TypeId) (x:Operand) (h:o.op= .load ty x) (g:Nat) (hx:a.eval x= .pointer (some ⟨g,0,none⟩)) (cs:Array Value)
  (hC: ∀w,C w→ ∃t fr,w.heap[g]? =some (.cells cs t fr)) (d:TypeDesc) (hu:P.underlying ty=some d) (hd:(match d with | .struct _ | .array _ _=>true | _=>false)=true) (hi:(P.info? ty).map (·.size)=some cs.size)
  (hk:K (a.put o.dst (.agg cs))):o.quiet P a C K:=
 ⟨_,fun w hw=>by
  obtain⟨t,fr,hg⟩:=hC w hw;unfold Oper.quietAt execOp;simp only[h,hx,Instr.loadAt,Instr.sureAddr,Sem.run_bind,Sem.run_pure,Result.andThen_ok,run_loadVar_row w g t ty cs fr d hg hu hd hi]
  exact⟨rfl,rfl⟩,hk⟩
theorem zmx:Tryz.zeroCells442=Array.replicate 300 (.bool false):=by kernel_rfl
theorem zsv (q:Nat) (h:q<300):Tryz.zeroCells442[q]? =some (.bool false):=by rw[zmx];simp[h]
theorem zsw (p:Pl) (s q g r:Value) (cs:Array Value) (f:Nat→Int) (w:World) (hp:PlM w s q g r p) (hf:p.Fit) (hcs:IntArr cs f) (h3: ∀q,f q≤3):
  Calls Tryz.prog 298 #[plV p s q g r,.agg cs] w (zae w (decide (zcm f p.G))):=by
 have HCS:=hI hcs;have H3:=hI h3;obtain⟨⟨a1,c1,rfl,k1⟩,⟨a2,c2,rfl,k2⟩,⟨a3,c3,rfl,k3⟩,⟨a4,c4,rfl,k4⟩⟩:=hp;have HQ:Hid (∀w',jb w w'→SlA w' 3 RSg a3 c3 p.G):=fun w' hb=>k3.below zcu hb;have HN:Hid (decide (zat Sg.id p.G p.G.length∧(p.G.length:Int)≤10)=false→decide (zcm f p.G)=false):=fun h=>decide_eq_false fun h'=>(decide_eq_false_iff_not.1 h) h'.1
 have HI:Hid (decide (zat Sg.id p.G p.G.length∧(p.G.length:Int)≤10)=true→(zcm f p.G↔ze9 f p.G p.G.length)):=fun h=>by
  have h:=decide_eq_true_iff.1 h;exact⟨fun x=>x.2,fun x=>⟨h,x⟩⟩
 have HB2:Hid (∀b,(b=true↔zcm f p.G)→decide (zcm f p.G)=b):=fun b hb=>by rw[Bool.eq_iff_iff,decide_eq_true_iff];exact hb.symm
 have hs:=hf.G;clear k1 k2 k3 k4 hf hcs h3;unfold plV;generalize decide (zcm f p.G)=B at *;go_enter Tryz.func298,Tryz.ntmps298;go_wp2_with fail;generalize hW:(w.alloc _).alloc _=W;have K0:Hid (jb w W):=by show Below _ _ _;rw[←hW];exact jal.alloc (by simp) _
 have hz:W.heap.size=w.heap.size+2:=by rw[←hW];simp
 have G4:jc W w.heap.size 4 (js a3 p.G.length c3):=by rw[←hW];simp
 have GC:jk W (w.heap.size+1) cs 168:=by rw[←hW];exact heap_alloc2_new _ _ _
 clear hW;refine(zsg a3 c3 p.G 10 _ (HQ _ K0) hs).mono ?_;rintro e w1 ⟨rfl,hb1⟩;have K1:=jh K0 hb1;have f4:jc w1 w.heap.size 4 (js a3 p.G.length c3):=(hb1.cell (by simp[hz])).trans G4;have hg1:jk w1 (w.heap.size+1) cs 168:=(hb1.block _ (by omega)).trans GC;have hz1:w.heap.size+1<w1.heap.size:=by have:=hb1.size;omega
 have HGC:Hid (∀W',jb w1 W'→jk W' (w.heap.size+1) cs 168):=fun W' hb=>(hb.block _ hz1).trans hg1;have HZ1:=hI hz1;clear hb1 G4 GC hz hg1;cases hri:decide (zat Sg.id p.G p.G.length∧(p.G.length:Int)≤10)with
 | false=>
  have HE:=hI (HN hri);go_wp2_with fail;go_ret;exact⟨zab HE.symm,K1⟩
 | true=>
  have HII:=hI (HI hri);clear hri;have l1:=World.block_lt_of_cell? _ _ f4;go_wp2_with fail;have hR0:BoolRow (w1.alloc (.cells Tryz.zeroCells442 442)) w1.heap.size 300 442 (zem p.G 0):=(BoolRow.new w1 _ _ (by rw[zmx];simp) zsv).congr fun q _=>(zq0 p.G q).symm;have HR0:=hI hR0;clear hR0;go_loopg [15] p.G.length (fun g i wr=> ∃k:Nat,k≤p.G.length∧g=p.G.length-k∧i= .int .i64 k∧jb w1 wr∧BoolRow wr w1.heap.size 300 442 (zem p.G k)∧ze9 f p.G k)
  case atStart=>exact⟨0,by omega,by omega,rfl,jal,HR0,fun i hi h=>absurd h (by omega)⟩
  case round=>
   obtain⟨k,hk,rfl,rfl,hb,hR,hA⟩:=hrel;obtain⟨wo,rfl⟩: ∃wo:World,wo=wr:=⟨_,rfl⟩;have HB:=hI hb;have HBW:=jh K1 hb;have HR:=hI hR;have HA:=hI hA;clear hb hR hA;by_cases hlt:k<p.G.length
   ·obtain⟨b,off,rfl,x0,x1,x2⟩:=(HQ _ HBW).sg hlt;have c0:(0:Int)≤(k:Int):=(by omega);have c1:(k:Int)<(p.G.length:Int):=(by omega);go_wp2_with fail;generalize hW:wo.alloc (.cells #[p.G[k].id,p.G[k].sec,p.G[k].en] 145)=W;have hbW:jb wo W:=(by rw[←hW];exact jal);have KB:=jh HB hbW;have K2:=jh HBW hbW;have y1:=cell_regrown (show jc W wo.heap.size 1 p.G[k].sec by rw[←hW];simp);have y2:=cell_regrown (show jc W wo.heap.size 2 p.G[k].en by rw[←hW];simp);have Y1:Hid (jc W wo.heap.size 1 p.G[k].sec):=(by show _=_;rw[←hW];simp);have Y2:Hid (jc W wo.heap.size 2 p.G[k].en):=(by show _=_;rw[←hW];simp);have HRW:=hI (HR.below hbW);have HGW:=hI (HGC _ KB);have cT:Hid (∀d os,Calls Tryz.prog 379 #[.agg cs,p.G[k].sec] (grow (redrawn W d) os) fun e w''=>e= .returned (.bool (decide (zds f p.G[k].sec)))∧ ∃p:Regrown,w''=grow (redrawn W p.d) p.os):=fun d os=>Calls.regrown_of (zmv cs f p.G[k].sec _ HCS)
    have hrow: ∀w',(∃p:Regrown,w'=grow (redrawn W p.d) p.os)→ ∃t fr,w'.heap[w.heap.size+1]? =some (.cells cs t fr):=by
     rintro _ ⟨p,rfl⟩;exact⟨168,(0,0),((below_regrown W p.d p.os).block _ (Nat.lt_of_lt_of_le HZ1 KB.size)).trans HGW⟩
    have HCZ:Hid ((Tryz.prog.info? 168).map (·.size)=some cs.size):=(by show _=_;rw[zhv,HCS.out.1]);clear hW x0 x1 x2 hbW;refine wp_region_quiet_below (by kernel_rfl) (by kernel_rfl) ?_;go_big_quiet_want;refine zmw 168 (.tmp 3) rfl (w.heap.size+1) rfl cs hrow _ Tryz.underlying168 rfl HCZ ?_;simp[Act.put];go_big_quiet_on
    have hcases: ¬zds f p.G[k].sec∨(zds f p.G[k].sec∧p.G[k].en<0)∨(zds f p.G[k].sec∧0≤p.G[k].en∧f p.G[k].sec.toNat≤p.G[k].en)∨zfj f p.G[k]:=by
     by_cases h1:zds f p.G[k].sec
     ·by_cases h2:p.G[k].en<0
      ·exact .inr (.inl ⟨h1,h2⟩)
      ·by_cases h4:f p.G[k].sec.toNat≤p.G[k].en
       ·exact .inr (.inr (.inl ⟨h1,by omega,h4⟩))
       ·exact .inr (.inr (.inr ⟨h1,by omega,by omega⟩))
     ·exact .inl h1
    have HBAD:Hid (¬zfj f p.G[k]→B=false):=fun h=>HB2 false (by
     rw[HII.out];simp only[Bool.false_eq_true,false_iff]
     exact fun hA=>h (hA k hlt hlt).1)
    rcases hcases with h | ⟨h1,h2⟩ | ⟨h1,h2,h4⟩ | h
    ·have HE:=hI (HBAD fun h'=>h h'.1);rw[decide_eq_false h]at cT;clear h
     repeat (go_big_quiet_step (with_reducible exact cT.out _ _))
     refine wpQuiet_nil ?_;rintro _ ⟨⟨dq,osq⟩,rfl⟩;go_wp2_with fail;go_ret;exact⟨zab HE.symm,K2.trans ((below_regrown W dq osq).mono K2.size)⟩
    ·have HE:=hI (HBAD fun h'=>by have:=h'.2.1;omega);rw[decide_eq_true h1]at cT;have t1:decide (p.G[k].en<0)=true:=(by simpa using h2);clear h1 h2
     repeat (go_big_quiet_step (with_reducible exact cT.out _ _))
     refine wpQuiet_nil ?_;rintro _ ⟨⟨dq,osq⟩,rfl⟩;go_wp2_with fail;go_ret;exact⟨zab HE.symm,K2.trans ((below_regrown W dq osq).mono K2.size)⟩
    ·have HE:=hI (HBAD fun h'=>by have:=h'.2.2;omega);rw[decide_eq_true h1]at cT;have t1:decide (p.G[k].en<0)=false:=(by simpa using h2);have t2:decide (f p.G[k].sec.toNat≤p.G[k].en)=true:=(by simpa using h4);have i0:(0:Int)≤p.G[k].sec:=h1.1;have i1:p.G[k].sec<100:=(by have:=h1.2.1;omega);have y3:=cell_regrown (show jc W (w.heap.size+1) p.G[k].sec.toNat (.int .i64 (f p.G[k].sec.toNat)) by rw[cell_of_row _ _ _ cs _ _ HGW.out];exact HCS.2 _ (by omega));clear h1 h2 h4
     repeat (go_big_quiet_step (with_reducible exact cT.out _ _))
     refine wpQuiet_nil ?_;rintro _ ⟨⟨dq,osq⟩,rfl⟩;go_wp2_with fail;go_ret;exact⟨zab HE.symm,K2.trans ((below_regrown W dq osq).mono K2.size)⟩
    ·rw[decide_eq_true h.1]at cT;have t1:decide (p.G[k].en<0)=false:=(by simpa using h.2.1);have t2:decide (f p.G[k].sec.toNat≤p.G[k].en)=false:=(by have:=h.2.2;simp;omega);have i0:(0:Int)≤p.G[k].sec:=h.1.1;have i1:p.G[k].sec<100:=(by have:=h.1.2.1;omega);have i2:(0:Int)≤p.G[k].en:=h.2.1;have i3:p.G[k].en<3:=(by have:=h.2.2;have:=H3 p.G[k].sec.toNat;omega);have y3:=cell_regrown (show jc W (w.heap.size+1) p.G[k].sec.toNat (.int .i64 (f p.G[k].sec.toNat)) by rw[cell_of_row _ _ _ cs _ _ HGW.out];exact HCS.2 _ (by omega));have y4:=cell_regrown (HRW.cell (q:=p.G[k].sec.toNat * 3+p.G[k].en.toNat) (by omega));have HSI:=hI (zq2 H3 hlt HA h);have HSA:=hI (fun hno=>zq3 hlt HA h hno);cases hst:zem p.G k (p.G[k].sec.toNat * 3+p.G[k].en.toNat)with
     | true=>
      rw[hst]at y4
      have HE:Hid (B=false):=HB2 false (by
       rw[HII.out];simp only[Bool.false_eq_true,false_iff]
       exact fun hA=>(HSI.1 hst) (hA k hlt hlt).2)
      clear h hst
      repeat (go_big_quiet_step (with_reducible exact cT.out _ _))
      refine wpQuiet_nil ?_;rintro _ ⟨⟨dq,osq⟩,rfl⟩;go_wp2_with fail;go_ret;exact⟨zab HE.symm,K2.trans ((below_regrown W dq osq).mono K2.size)⟩
     | false=>
      rw[hst]at y4
      have HG:=hI (HSA (Classical.not_not.1 fun hn=>by
       have:=HSI.2 hn;unfold zga at this;rw[hst]at this
       cases this))
      have HST:Hid (∀W',BoolRow W' w1.heap.size 300 442 (zem p.G k)→BoolRow (W'.setCell ⟨w1.heap.size,p.G[k].sec.toNat * 3+p.G[k].en.toNat,none⟩ (.bool true)) w1.heap.size 300 442 (zem p.G (k+1))):=fun W' h=>by
       refine(h.set (q:=p.G[k].sec.toNat * 3+p.G[k].en.toNat) (by omega) _).congr fun q hq=> ?_;exact zq1 hlt _ rfl q
      clear h hst
      repeat (go_big_quiet_step (with_reducible exact cT.out _ _))
      refine wpQuiet_nil ?_;rintro _ ⟨⟨dq,osq⟩,rfl⟩;have hb2:=below_regrown W dq osq;generalize grow (redrawn W dq) osq=W2 at *;have K3:=jh KB hb2;have HR2:=hI (HRW.below hb2);have v1:jc W2 wo.heap.size 1 p.G[k].sec:=zac hb2 Y1;have v2:jc W2 wo.heap.size 2 p.G[k].en:=zac hb2 Y2;have v3:=HR2.cell (q:=p.G[k].sec.toNat * 3+p.G[k].en.toNat) (by omega);have v4:=HR2.frozen (p.G[k].sec.toNat * 3+p.G[k].en.toNat);clear hb2 y1 y2 y3 y4 cT;go_wp2_with fail
      go_region
      go_wp2_with fail;go_roundg (p.G.length-(k+1))
      case measure=>go_light;omega
      case rel=>go_light;exact⟨k+1,by omega,by omega,by go_num,(K3.setCell (Nat.le_refl _) _).drew,(HST _ HR2).below (Below.refl _ _).drew,HG⟩
   ·obtain rfl:k=p.G.length:=(by omega);have HE:Hid (B=true):=HB2 true (by rw[HII.out];simp only[true_iff];exact HA);go_wp2_with fail;go_ret;exact⟨zab HE.symm,HBW⟩
end Go.Proofs.YtbiehpjhhopjaaaGreat
