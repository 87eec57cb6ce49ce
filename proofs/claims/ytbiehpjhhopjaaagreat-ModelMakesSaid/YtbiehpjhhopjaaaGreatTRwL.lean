/-
 Regions that draw their order,hold reads and calls,and lay one value into memory of their own:what holds on the way.
-/
import Derived.Test.YtbiehpjhhopjaaaGreatTStateE
import Derived.Test.YtbiehpjhhopjaaaGreatTRwE
import Derived.Test.YtbiehpjhhopjaaaGreatTConcat
set_option linter.unusedVariables false
set_option linter.unusedSimpArgs false
set_option maxRecDepth 100000
set_option maxHeartbeats 16000000
namespace Go.Proofs.YtbiehpjhhopjaaaGreat
open Go.RowKit
structure RG (w0:World) (v:Nat→Value) (ia is:Nat) (Z C:Array Value) (T:TypeId) (f:Nat→Bool) (s:Nat→Value) (W:World):Prop where
 bel:jb w0 W
 val: ∀i,i≠ia→f i=true→s i=v i
 ord:f is=true→f ia=true
 al:f ia=true→ ∃g,s ia= .pointer (some ⟨g,0,none⟩)∧w0.heap.size≤g∧jk W g (bif f is then C else Z) T
section
variable {w0:World}{v:Nat→Value}{ia is:Nat}{Z C:Array Value}{T:TypeId}{f:Nat→Bool}{s:Nat→Value}{W W':World}
theorem RG.start (hb:jb w0 W):RG w0 v ia is Z C T (fun _=>false) s W:=⟨hb,(fun _ _ (h:false=true)=>Bool.noConfusion h),(fun(h:false=true)=>Bool.noConfusion h),(fun(h:false=true)=>Bool.noConfusion h)⟩
theorem RG.grow (h:RG w0 v ia is Z C T f s W) (hb:jb W W'):RG w0 v ia is Z C T f s W':=
 ⟨jt h.bel hb,h.val,h.ord,fun k=>by
  obtain⟨g,e,hg,hc⟩:=h.al k
  exact⟨g,e,hg,(hb.block g (zad hc)).trans hc⟩⟩
theorem RG.step (h:RG w0 v ia is Z C T f s W) (i:Nat) (h1:i≠ia) (h2:i≠is):RG w0 v ia is Z C T (fun j=>decide (j=i) || f j) (fun j=>if j=i then v i else s j) W:=by
 have e1:(decide (ia=i) || f ia)=f ia:=by rw[decide_eq_false (fun e=>h1 e.symm)];rfl
 have e2:(decide (is=i) || f is)=f is:=by rw[decide_eq_false (fun e=>h2 e.symm)];rfl
 refine⟨h.bel,fun j hj hf=> ?_,fun hf=> ?_,fun hf=> ?_⟩
 ·by_cases e:j=i
  ·subst e;exact if_pos rfl
  ·simp only[if_neg e];rw[decide_eq_false e,Bool.false_or]at hf;exact h.val j hj hf
 ·rw[e2]at hf;rw[e1];exact h.ord hf
 ·rw[e1]at hf;obtain⟨g,e,hg,hc⟩:=h.al hf;refine⟨g,(if_neg (fun e=>h1 e.symm)).trans e,hg,?_⟩;rw[e2];exact hc
theorem RG.alloc (h:RG w0 v ia is Z C T f s W) (hne:ia≠is) (hun:f ia=false):RG w0 v ia is Z C T (fun j=>decide (j=ia) || f j) (fun j=>if j=ia then .pointer (some ⟨W.heap.size,0,none⟩)else s j) (W.alloc (.cells Z T)):=by
 have e2:(decide (is=ia) || f is)=f is:=by rw[decide_eq_false (fun e=>hne e.symm)];rfl
 have hs:f is=false:=by
  cases k:f is with
  | false=>rfl
  | true=>rw[h.ord k]at hun;cases hun
 refine⟨h.bel.alloc h.bel.size _,fun j hj hf=> ?_,fun _=>by simp,fun _=>⟨W.heap.size,if_pos rfl,h.bel.size,?_⟩⟩
 ·simp only[if_neg hj];rw[decide_eq_false hj,Bool.false_or]at hf;exact h.val j hj hf
 ·rw[e2,hs];exact heap_alloc_new _ _
theorem RG.at (h:RG w0 v ia is Z C T f s W) (ha:f ia=true) (hun:f is=false): ∃g,s ia= .pointer (some ⟨g,0,none⟩)∧w0.heap.size≤g∧jk W g Z T:=by
 obtain⟨g,e,hg,hc⟩:=h.al ha;rw[hun]at hc;exact⟨g,e,hg,hc⟩
theorem RG.store (h:RG w0 v ia is Z C T f s W) (hne:ia≠is){g:Nat}(ha:f ia=true) (e:s ia= .pointer (some ⟨g,0,none⟩)) (hg:w0.heap.size≤g) (hc:jk W g Z T):
  RG w0 v ia is Z C T (fun j=>decide (j=is) || f j) (fun j=>if j=is then v is else s j) (W.setRow g C):=by
 have hb:Below w0.heap.size W (W.setRow g C):=⟨rfl,rfl,rfl,by simp[World.setRow],fun k hk=>by
  simp only[World.setRow,Array.getElem?_modify]
  rw[if_neg (by omega)]⟩
 refine⟨h.bel.trans hb,fun j hj hf=> ?_,fun _=> ?_,fun _=>⟨g,?_,hg,?_⟩⟩
 ·by_cases e:j=is
  ·subst e;exact if_pos rfl
  ·simp only[if_neg e];rw[decide_eq_false e,Bool.false_or]at hf;exact h.val j hj hf
 ·rw[ha,Bool.or_true]
 ·exact(if_neg hne).trans e
 ·simp[World.setRow,Array.getElem?_modify,hc]
theorem RG.done (h:RG w0 v ia is Z C T f s W) (ha:f ia=true) (hs:f is=true): ∃g,s ia= .pointer (some ⟨g,0,none⟩)∧w0.heap.size≤g∧jk W g C T:=by
 obtain⟨g,e,hg,hc⟩:=h.al ha;rw[hs]at hc;exact⟨g,e,hg,hc⟩
end
end Go.Proofs.YtbiehpjhhopjaaaGreat
namespace Go.Proofs.YtbiehpjhhopjaaaGreat
open Go.RowKit Go.Sort
def zft (o:Option Nat):Int:=match o with | some e=>(e:Int) | none=> -1
theorem zw4 {p:Pl}{r:Rt}{i:Nat}{a:Int}{k:Nat}(hk:k<(zai p r i).ends.length) (h1:zc1 p r i a k=true) (h2: ∀e,e<k→zc1 p r i a e=false):zft (zca p r i a)=k:=by
 unfold zca;rw[zl5 hk h1 h2];rfl
theorem zw5 {p:Pl}{r:Rt}{i:Nat}{a:Int}(h2: ∀e,e<(zai p r i).ends.length→zc1 p r i a e=false):zft (zca p r i a)= -1:=by
 unfold zca;rw[List.find?_eq_none.2]
 ·rfl
 ·intro e he;rw[h2 e (List.mem_range.1 he)];simp
theorem zjh {l:List Sec}{n:Int}{m:Nat}(hm:m<l.length) (h:fix (fun x=>decide (x.id=n)) l=(m:Int)):za1 Sec.id zcy l n=l[m]:=by
 rcases zce (fun x:Sec=>decide (x.id=n)) l with⟨e,_⟩ | ⟨k,hk,e,h1,h2⟩
 ·rw[e]at h;omega
 ·have:k=m:=by rw[e]at h;omega
  subst this;exact(zfy hk h1 h2).1
theorem zw6 (p:Pl) (s q gg rr:Value) (r:Rt) (c5 c6 c7:Value) (la:Option Addr) (lc n:Nat) (a:Int) (w:World) (hp:PlM w s q gg rr p) (hf:p.Fit) (hr:RtM w c5 c6 c7 r) (hl:IL w la (zaa r).length (zaa r)) (hn:n<(zaa r).length) (hall:(zaa r).length≤1000)
  (hat:za2 Sec.id p.S (zaa r)[n]=true) (hsh:(zai p r n).ends.length≤3) (hnx:n+1≠r.A.length→n+1<(zaa r).length) (hpath:r.A.length≤17592186044416):
  Calls Tryz.prog 313 #[plV p s q gg rr,.agg #[r.id,r.E,r.X,c5,c6,c7,r.T],js la (zaa r).length lc,n,a] w (zfp w (zft (zca p r n a))):=by
 obtain⟨m,hm,hfix⟩:=fixp_of.1 hat
 have hsec:zai p r n=p.S[m]:=by
  unfold zai;rw[List.getD_eq_getElem?_getD,List.getElem?_eq_getElem hn];exact zjh hm hfix
 have HOA:Hid (∀k,k<p.S[m].ends.length→zc1 p r n a k=true→(∀e,e<k→zc1 p r n a e=false)→zft (zca p r n a)=k):=fun k hk h1 h2=>zw4 (by rw[hsec];exact hk) h1 h2;have HON:Hid ((∀e,e<p.S[m].ends.length→zc1 p r n a e=false)→zft (zca p r n a)= -1):=fun h2=>zw5 (by rw[hsec];exact h2)
 have HOK:Hid (∀e:Nat,zc1 p r n a e=(decide (0≤zbs p.S[m] a e)&&(if n+1=r.A.length then decide ((r.X=0∧(p.S[m].ends.getD e ⟨0,0⟩).to=0)∨(r.X≠0∧za9 p p.S[m].id e=r.X))else decide ((p.S[m].ends.getD e ⟨0,0⟩).to=(zaa r).getD (n+1) 0)))):=fun e=>by
  unfold zc1;rw[hsec]
 rw[hsec]at hsh;generalize zft (zca p r n a)=ON at *;obtain⟨p1,pn,p3,rfl,ip⟩:=hr.A;obtain⟨o1,on,o3,rfl,io⟩:=hr.O;obtain rfl:=ip.len;obtain rfl:=io.len;obtain⟨f1,f3,rfl,-⟩:=hr.fl;have HST:Hid (∀(b:Int) W,jb w W→Calls Tryz.prog 219 #[plV p s q gg rr,p.S[m].id,b] W (zfp W (za9 p p.S[m].id b))):=fun b W hb=>zoc p s q gg rr p.S[m].id b W (hp.below hb) hf;obtain⟨a1,k1,rfl,h1⟩:=hp.S;obtain⟨a2,k2,rfl,-⟩:=hp.P;obtain⟨a3,k3,rfl,-⟩:=hp.G;obtain⟨a4,k4,rfl,-⟩:=hp.R;have HSE:Hid (∀W,jb w W→SlA W 3 zas a1 k1 p.S):=fun W hb=>h1.below zbo hb;have HIL:Hid (∀W,jb w W→IL W la (zaa r).length (zaa r)):=fun W hb=>hl.below hb;have LS:=hI hf.S;have HFX:=hI hfix;have HNX:=hI hnx;clear hp hf hr hl h1 ip io hat hsec hfix hnx;generalize zaa r=L at *;unfold plV at *;go_enter Tryz.func313,Tryz.ntmps313;go_upto_region 1 with fail;generalize hW0:World.alloc _ _=W0;have K0:Hid (jb w W0):=by show Below _ _ _;rw[←hW0];exact jal.alloc (by simp) _
 have BX0:Hid (jk W0 w.heap.size #[p.ver,p.par,js a1 p.S.length k1,js a2 p.P.length k2,js a3 p.G.length k3,js a4 p.R.length k4] 28∧jk W0 (w.heap.size+1) #[r.id,r.E,r.X,js p1 r.A.length p3,js o1 r.O.length o3,js f1 r.fl.length f3,r.T] 102):=by
  show _∧_;rw[←hW0];exact⟨(heap_alloc_old _ _ (by simp)).trans (heap_alloc_new _ _),heap_alloc2_new _ _ _⟩
 have BXW:Hid (∀W,jb W0 W→jk W w.heap.size #[p.ver,p.par,js a1 p.S.length k1,js a2 p.P.length k2,js a3 p.G.length k3,js a4 p.R.length k4] 28∧jk W (w.heap.size+1) #[r.id,r.E,r.X,js p1 r.A.length p3,js o1 r.O.length o3,js f1 r.fl.length f3,r.T] 102):=fun W hb=>⟨(jm hb BX0.1),(jm hb BX0.2)⟩;have KW:Hid (∀W,jb W0 W→jb w W):=fun W hb=>jo K0 hb;clear hW0;obtain⟨lb,lo,rfl,l0⟩:=(HIL _ K0).cell n hn;obtain⟨sb,so,ea,ec,hea,v0,v1,v2,hen⟩:=(HSE _ K0).sec hm;subst hea;have HEN:Hid (∀W,jb W0 W→SlA W 2 RJn ea ec p.S[m].ends):=fun W hb=>hen.below zcn hb;clear hen;have c0:(0:Int)≤(n:Int):=by omega
 have c1:(n:Int)<(L.length:Int):=by omega
 have d0:(0:Int)≤(m:Int):=by omega
 have d1:(m:Int)<(p.S.length:Int):=by omega
 have pp2:jc W0 w.heap.size 2 (jq sb so p.S.length k1):=jr (BX0).1;refine zd7 (by kernel_rfl) (by kernel_rfl) (fun f ac W9=> ∃s:Nat→Value,ac={tmps:=#[.agg #[p.ver,p.par,jq sb so p.S.length k1,js a2 p.P.length k2,js a3 p.G.length k3,js a4 p.R.length k4],.agg #[r.id,r.E,r.X,js p1 r.A.length p3,js o1 r.O.length o3,js f1 r.fl.length f3,r.T],.slice (some ⟨lb,lo,none⟩) L.length lc,.int .i64 n,.int .i64 a,.pointer (some ⟨w.heap.size,0,none⟩),.pointer (some ⟨w.heap.size+1,0,none⟩),undef,undef,undef,.int .i64 0,s 11,undef,s 0,s 1,s 2,s 3,s 4,s 5,s 6,s 7,s 8,s 9,s 10,undef,undef,undef,undef,undef,undef,undef,undef,undef,undef,undef,undef,undef,undef,undef,undef,undef,undef,undef,undef,undef,undef,undef,undef,undef,undef,undef,undef,undef,undef,undef,undef,undef,undef,undef,undef,undef,undef,undef,undef,undef,undef,undef,undef,undef,undef,undef,undef,undef,undef,undef,undef,undef,undef,undef,undef,undef,undef,undef],defers:=[]}∧RG W0 (fun i=>match i with | 0=> .pointer (some ⟨w.heap.size,2,none⟩) | 1=> .slice (some ⟨sb,so,none⟩) p.S.length k1 | 2=> .pointer (some ⟨w.heap.size,2,none⟩) | 3=> .slice (some ⟨sb,so,none⟩) p.S.length k1 | 4=> .slice (some ⟨lb,lo,none⟩) L.length lc | 5=> .int .i64 n | 6=> .pointer (some ⟨lb,lo+n,none⟩) | 7=> .int .i64 L[n] | 8=> .int .i64 m | 9=> .pointer (some ⟨sb,so+m * 3,none⟩) | 10=> .agg #[p.S[m].id,p.S[m].pt,js ea p.S[m].ends.length ec] | _=>undef) 11 12 #[.int .i64 0,.int .i64 0,.slice none 0 0] #[p.S[m].id,p.S[m].pt,js ea p.S[m].ends.length ec] 80 f s W9) ?_ ?_ ?_
 ·exact⟨(fun i=>match i with | 0=>undef | 1=>undef | 2=>undef | 3=>undef | 4=>undef | 5=>undef | 6=>undef | 7=>undef | 8=>undef | 9=>undef | 10=>undef | 11=>undef | _=>undef),rfl,RG.start ⟨rfl,rfl,rfl,Nat.le_refl _,fun _ _=>rfl⟩⟩
 ·intro i o ho f a W9 hIv hd hun;obtain⟨s,rfl,hS⟩:=hIv;rcases i with _ | _ | _ | _ | _ | _ | _ | _ | _ | _ | _ | _ | _ | i
  ·have ho2:=ho;simp at ho2;subst ho2;refine zah (by simp[wpOp,go_sem];exact .inl ⟨rfl,rfl⟩) ?_;exact⟨fun j=>if j=0 then .pointer (some ⟨w.heap.size,2,none⟩)else s j,rfl,hS.step 0 (by decide) (by decide)⟩
  ·have ho2:=ho;simp at ho2;subst ho2;have e0:s 0= .pointer (some ⟨w.heap.size,2,none⟩):=hS.val 0 (by decide) (hd ⟨0,.data⟩ (by simp) (by rfl));have q2:=zac hS.bel pp2;refine zah (by simp[wpOp,go_sem,e0,q2];exact .inl ⟨rfl,rfl⟩) ?_;exact⟨fun j=>if j=1 then .slice (some ⟨sb,so,none⟩) p.S.length k1 else s j,by simp[e0],hS.step 1 (by decide) (by decide)⟩
  ·have ho2:=ho;simp at ho2;subst ho2;refine zah (by simp[wpOp,go_sem];exact .inl ⟨rfl,rfl⟩) ?_;exact⟨fun j=>if j=2 then .pointer (some ⟨w.heap.size,2,none⟩)else s j,rfl,hS.step 2 (by decide) (by decide)⟩
  ·have ho2:=ho;simp at ho2;subst ho2;have e2:s 2= .pointer (some ⟨w.heap.size,2,none⟩):=hS.val 2 (by decide) (hd ⟨2,.data⟩ (by simp) (by rfl));have q2:=zac hS.bel pp2;refine zah (by simp[wpOp,go_sem,e2,q2];exact .inl ⟨rfl,rfl⟩) ?_;exact⟨fun j=>if j=3 then .slice (some ⟨sb,so,none⟩) p.S.length k1 else s j,by simp[e2],hS.step 3 (by decide) (by decide)⟩
  ·have ho2:=ho;simp at ho2;subst ho2;refine zah (by simp[wpOp,go_sem];exact .inl ⟨rfl,rfl⟩) ?_;exact⟨fun j=>if j=4 then .slice (some ⟨lb,lo,none⟩) L.length lc else s j,rfl,hS.step 4 (by decide) (by decide)⟩
  ·have ho2:=ho;simp at ho2;subst ho2;refine zah (by simp[wpOp,go_sem];exact .inl ⟨rfl,rfl⟩) ?_;exact⟨fun j=>if j=5 then .int .i64 n else s j,rfl,hS.step 5 (by decide) (by decide)⟩
  ·have ho2:=ho;simp at ho2;subst ho2;have e4:s 4= .slice (some ⟨lb,lo,none⟩) L.length lc:=hS.val 4 (by decide) (hd ⟨4,.data⟩ (by simp) (by rfl));have e5:s 5= .int .i64 n:=hS.val 5 (by decide) (hd ⟨5,.data⟩ (by simp) (by rfl));refine zah (by simp[wpOp,go_sem,e4,e5,c0,c1];exact .inl ⟨rfl,rfl⟩) ?_;exact⟨fun j=>if j=6 then .pointer (some ⟨lb,lo+n,none⟩)else s j,by simp[e4,e5],hS.step 6 (by decide) (by decide)⟩
  ·have ho2:=ho;simp at ho2;subst ho2;have e6:s 6= .pointer (some ⟨lb,lo+n,none⟩):=hS.val 6 (by decide) (hd ⟨6,.data⟩ (by simp) (by rfl));have q3:=zac hS.bel l0;refine zah (by simp[wpOp,go_sem,e6,q3];exact .inl ⟨rfl,rfl⟩) ?_;exact⟨fun j=>if j=7 then .int .i64 L[n]else s j,by simp[e6],hS.step 7 (by decide) (by decide)⟩
  ·have ho2:=ho;simp at ho2;subst ho2;have e3:s 3= .slice (some ⟨sb,so,none⟩) p.S.length k1:=hS.val 3 (by decide) (hd ⟨3,.data⟩ (by simp) (by rfl));have e7:s 7=↑L[n]:=hS.val 7 (by decide) (hd ⟨7,.data⟩ (by simp) (by rfl));have hc:=((zf5 (some ⟨sb,so,none⟩) k1 p.S L[n] W9 (HSE _ (KW _ hS.bel)) LS).mono fun e w' h=>(⟨h.1.trans (by rw[HFX.out]),zf8 h.2⟩:e= .returned (.int .i64 m)∧jb W9 w'));apply zgw (R:=fun w'=>jb W9 w')
   ·simp[wpOp,go_sem,e3,e7];refine .inl (hc.mono ?_);rintro e w' ⟨rfl,hb⟩;simp[go_sem];exact⟨rfl,hb⟩
   ·intro w' hb;exact⟨fun j=>if j=8 then .int .i64 m else s j,by simp[e3,e7],(hS.grow hb).step 8 (by decide) (by decide)⟩
  ·have ho2:=ho;simp at ho2;subst ho2;have e1:s 1= .slice (some ⟨sb,so,none⟩) p.S.length k1:=hS.val 1 (by decide) (hd ⟨1,.data⟩ (by simp) (by rfl));have e8:s 8= .int .i64 m:=hS.val 8 (by decide) (hd ⟨8,.data⟩ (by simp) (by rfl));refine zah (by simp[wpOp,go_sem,e1,e8,d0,d1];exact .inl ⟨rfl,rfl⟩) ?_;exact⟨fun j=>if j=9 then .pointer (some ⟨sb,so+m * 3,none⟩)else s j,by simp[e1,e8],hS.step 9 (by decide) (by decide)⟩
  ·have ho2:=ho;simp at ho2;subst ho2;have e9:s 9= .pointer (some ⟨sb,so+m * 3,none⟩):=hS.val 9 (by decide) (hd ⟨9,.data⟩ (by simp) (by rfl));have q4:=zac hS.bel v0;have q5:=zac hS.bel v1;have q6:=zac hS.bel v2;refine zah (by simp[wpOp,go_sem,e9,q4,q5,q6];exact .inl ⟨rfl,rfl⟩) ?_;exact⟨fun j=>if j=10 then .agg #[p.S[m].id,p.S[m].pt,js ea p.S[m].ends.length ec]else s j,by simp[e9],hS.step 10 (by decide) (by decide)⟩
  ·have ho2:=ho;simp at ho2;subst ho2;refine zah (by simp[wpOp,go_sem];exact .inl ⟨rfl,rfl⟩) ?_;exact⟨fun j=>if j=11 then .pointer (some ⟨W9.heap.size,0,none⟩)else s j,rfl,hS.alloc (by decide) hun⟩
  ·have ho2:=ho;simp at ho2;subst ho2;have e10:s 10= .agg #[p.S[m].id,p.S[m].pt,js ea p.S[m].ends.length ec]:=hS.val 10 (by decide) (hd ⟨10,.data⟩ (by simp) (by rfl));have ha:=hd ⟨11,.data⟩ (by simp) (by rfl);obtain⟨g,eg,hg1,hg2⟩:=hS.at ha hun;refine ze3 ho rfl 80 (.tmp 11) (.tmp 23) rfl g #[p.S[m].id,p.S[m].pt,js ea p.S[m].ends.length ec] eg e10 80 #[.int .i64 0,.int .i64 0,.slice none 0 0] hg2 rfl rfl (by simp[Value.oneCell']) ?_;exact⟨fun j=>if j=12 then undef else s j,rfl,hS.store (by decide) ha eg hg1 hg2⟩
  ·simp at ho
 ·intro f a W9 hIv hall;obtain⟨s,rfl,hS⟩:=hIv;have e0:s 0= .pointer (some ⟨w.heap.size,2,none⟩):=hS.val 0 (by decide) (hall 0 (by decide));have e1:s 1= .slice (some ⟨sb,so,none⟩) p.S.length k1:=hS.val 1 (by decide) (hall 1 (by decide));have e2:s 2= .pointer (some ⟨w.heap.size,2,none⟩):=hS.val 2 (by decide) (hall 2 (by decide));have e3:s 3= .slice (some ⟨sb,so,none⟩) p.S.length k1:=hS.val 3 (by decide) (hall 3 (by decide));have e4:s 4= .slice (some ⟨lb,lo,none⟩) L.length lc:=hS.val 4 (by decide) (hall 4 (by decide));have e5:s 5= .int .i64 n:=hS.val 5 (by decide) (hall 5 (by decide));have e6:s 6= .pointer (some ⟨lb,lo+n,none⟩):=hS.val 6 (by decide) (hall 6 (by decide));have e7:s 7=↑L[n]:=hS.val 7 (by decide) (hall 7 (by decide));have e8:s 8= .int .i64 m:=hS.val 8 (by decide) (hall 8 (by decide));have e9:s 9= .pointer (some ⟨sb,so+m * 3,none⟩):=hS.val 9 (by decide) (hall 9 (by decide));have e10:s 10= .agg #[p.S[m].id,p.S[m].pt,js ea p.S[m].ends.length ec]:=hS.val 10 (by decide) (hall 10 (by decide));obtain⟨g,eg,hg1,hg2⟩:=hS.done (hall 11 (by decide)) (hall 12 (by decide));have hbel:=hS.bel;simp only[e0,e1,e2,e3,e4,e5,e6,e7,e8,e9,e10,eg];clear hS hall eg e0 e1 e2 e3 e4 e5 e6 e7 e8 e9 e10;have KN:Hid (jb W0 W9):=hbel;have YY:Hid (∀W,jb W9 W→jk W g #[p.S[m].id,p.S[m].pt,js ea p.S[m].ends.length ec] 80):=fun W hb=>(jm hb hg2);clear hbel hg1 hg2 v0 v1 v2 l0 pp2;go_wp2_with fail;go_loopg [12] p.S[m].ends.length (fun gh i wr=> ∃e:Nat,e≤p.S[m].ends.length∧gh=p.S[m].ends.length-e∧i= .int .i64 e∧jb W9 wr∧ ∀e',e'<e→zc1 p r n a e'=false)
  case atStart=>exact⟨0,by omega,by omega,rfl,Below.refl _ _,fun j h=>by omega⟩
  case round=>
   obtain⟨e,he,rfl,rfl,hb,hno⟩:=hrel;obtain⟨wo,rfl⟩: ∃wo:World,wo=wr:=⟨_,rfl⟩;have HNI:=hI hno;have KO:=hI hb;have KO0:=jh KN hb;have KWO:=hI (KW _ KO0);have hyy:=YY _ hb;have HYY:=hI hyy;clear hb hno;obtain⟨y0,y1,y2⟩:=zap (hyy);clear hyy;by_cases hlt:e<p.S[m].ends.length
   ·have hd1:decide ((e:Int)<(p.S[m].ends.length:Int))=true:=(by simp;omega);go_wp2_with fail;refine(zob p.S[m] ea ec a e wo).mono ?_;rintro e' w1 ⟨rfl,hb1⟩;have K1:=jh KO hb1;have K10:=jh KO0 hb1;have hyy:=YY _ K1;have bx:=BXW _ K10;clear hb1 y0 y1 y2;have y0:jc w1 g 0 p.S[m].id:=jr hyy;have y2:jc w1 g 2 (js ea p.S[m].ends.length ec):=jr hyy;obtain⟨pp0,pp1,pp2,pp3,pp4,pp5⟩:=zan (bx.1);obtain⟨rr0,rr1,rr2,rr3,rr4,rr5,rr6⟩:=zb7 (bx.2);clear hyy bx;have HOKe:=hI (HOK e);by_cases hl:zbs p.S[m] a e<0
    ·have u1:decide (zbs p.S[m] a e<0)=true:=by simp[hl]
     have HF:Hid (zc1 p r n a e=false):=by
      show _=_;rw[HOKe.out,decide_eq_false (show¬(0≤zbs p.S[m] a e)by omega)];rfl
     clear hl;go_wp2_with fail;go_roundg (p.S[m].ends.length-(e+1))
     case measure=>go_light;omega
     case rel=>
      go_light;refine⟨e+1,by omega,by omega,by go_num,K1,fun j h=> ?_⟩;by_cases hj:j=e
      ·subst hj;exact HF
      ·exact HNI j (by omega)
    ·have u1:decide (zbs p.S[m] a e<0)=false:=(by simp;omega);have HLL:Hid (decide (0≤zbs p.S[m] a e)=true):=(by show _=_;rw[decide_eq_true_eq];omega);clear hl;obtain⟨b2,of2,rfl,x0,x1⟩:=(HEN _ K10).jn hlt;have g0:(0:Int)≤(e:Int):=(by omega);have g1:(e:Int)<(p.S[m].ends.length:Int):=(by omega);have HGD:Hid (p.S[m].ends.getD e ⟨0,0⟩=p.S[m].ends[e]):=(by show _=_;rw[List.getD_eq_getElem?_getD,List.getElem?_eq_getElem hlt];rfl);have hR: ∀(d:Nat) (os:Array Obj),jb W9 (grow (redrawn w1 d) os):=fun d os=>K1.trans ((below_regrown w1 d os).mono K1.size);have HRW:=hI hR;have KWF:Hid (∀W,jb W9 W→jb w W):=fun W hb=>KW _ (jo KN hb);have X0:=cell_regrown x0;have PP0:=cell_regrown pp0;have PP1:=cell_regrown pp1;have PP2:=cell_regrown pp2;have PP3:=cell_regrown pp3;have PP4:=cell_regrown pp4;have PP5:=cell_regrown pp5;have YB0:=cell_regrown y0;have YB2:=cell_regrown y2;have RR2:=cell_regrown rr2;generalize hEE:p.S[m].ends[e]=EE at *;clear hEE x1 rr0 rr1 rr4 rr5 rr6;by_cases hp:n+1=r.A.length
     ·have u2:((n:Int)==(r.A.length:Int)-1)=true:=(by rw[beq_iff_eq];omega);by_cases hx:r.X=0
      ·have e1:(r.X==0)=true:=(by simp[hx]);have e2:(r.X != 0)=false:=(by simp[hx]);by_cases ht:EE.to=0
       ·have e3:(EE.to==0)=true:=by simp[ht]
        have HO:Hid (zc1 p r n a e=true):=by
         show _=_;rw[HOKe.out,HLL.out,if_pos hp,HGD.out,Bool.true_and,decide_eq_true_eq];exact .inl ⟨hx,ht⟩
        have HE:=hI (HOA e hlt HO HNI);clear hx ht hp hR x0;go_upto_region 7 with fail;refine wp_region_quiet_below (by kernel_rfl) (by kernel_rfl) ?_
        repeat (go_big_quiet_step (fail))
        refine wpQuiet_nil ?_;rintro _ ⟨⟨dq,osq⟩,rfl⟩;go_wp2_with fail;go_ret;exact⟨za0 HE.symm,KWF _ (HRW dq osq)⟩
       ·have e3:(EE.to==0)=false:=by simp[ht]
        have HF:Hid (zc1 p r n a e=false):=by
         show _=_;rw[HOKe.out,HLL.out,if_pos hp,HGD.out,Bool.true_and,decide_eq_false_iff_not];rintro(⟨_,h⟩ | ⟨h,_⟩)
         ·exact ht h
         ·exact h hx
        clear hx ht hp hR x0;go_upto_region 7 with fail;refine wp_region_quiet_below (by kernel_rfl) (by kernel_rfl) ?_
        repeat (go_big_quiet_step (fail))
        refine wpQuiet_nil ?_;rintro _ ⟨⟨dq,osq⟩,rfl⟩;go_wp2_with fail;go_roundg (p.S[m].ends.length-(e+1))
        case measure=>go_light;omega
        case rel=>
         go_light;refine⟨e+1,by omega,by omega,by go_num,HRW dq osq,fun j h=> ?_⟩;by_cases hj:j=e
         ·subst hj;exact HF
         ·exact HNI j (by omega)
      ·have e1:(r.X==0)=false:=(by simp[hx]);have e2:(r.X != 0)=true:=(by simp[hx]);have hcc:=fun(d:Nat) (os:Array Obj)=>Calls.regrown_of (HST (e:Int) (grow (redrawn w1 d) os) (KWF _ (hR d os)));by_cases ht:za9 p p.S[m].id e=r.X
       ·have HO:Hid (zc1 p r n a e=true):=by
         show _=_;rw[HOKe.out,HLL.out,if_pos hp,Bool.true_and,decide_eq_true_eq];exact .inr ⟨hx,ht⟩
        have HE:=hI (HOA e hlt HO HNI);rw[ht]at hcc;have cC:=hI hcc;clear hx ht hp hR x0 hcc;go_upto_region 7 with fail;refine wp_region_quiet_below (by kernel_rfl) (by kernel_rfl) ?_
        repeat (go_big_quiet_step ((with_reducible exact cC.out _ _)))
        refine wpQuiet_nil ?_;rintro _ ⟨⟨dq,osq⟩,rfl⟩;go_wp2_with fail;go_ret;exact⟨za0 HE.symm,KWF _ (HRW dq osq)⟩
       ·have HF:Hid (zc1 p r n a e=false):=by
         show _=_;rw[HOKe.out,HLL.out,if_pos hp,Bool.true_and,decide_eq_false_iff_not];rintro(⟨h,_⟩ | ⟨_,h⟩)
         ·exact hx h
         ·exact ht h
        generalize za9 p p.S[m].id e=sa at *;have e3:(sa==r.X)=false:=(by rw[beq_eq_false_iff_ne];exact ht);have cC:=hI hcc;clear hx ht hp hR x0 hcc HOKe;go_upto_region 7 with fail;refine wp_region_quiet_below (by kernel_rfl) (by kernel_rfl) ?_
        repeat (go_big_quiet_step ((with_reducible exact cC.out _ _)))
        refine wpQuiet_nil ?_;rintro _ ⟨⟨dq,osq⟩,rfl⟩;go_wp2_with fail;go_roundg (p.S[m].ends.length-(e+1))
        case measure=>go_light;omega
        case rel=>
         go_light;refine⟨e+1,by omega,by omega,by go_num,HRW dq osq,fun j h=> ?_⟩;by_cases hj:j=e
         ·subst hj;exact HF
         ·exact HNI j (by omega)
     ·have u2:((n:Int)==(r.A.length:Int)-1)=false:=(by rw[beq_eq_false_iff_ne];omega);have hn1:=HNX hp;obtain⟨b3,of3,hbe,z0⟩:=(HIL _ (KW _ K10)).cell (n+1) hn1;cases hbe;have Z0:=cell_regrown z0;have g2:(0:Int)≤(n:Int)+1:=(by omega);have g3:(n:Int)+1<(L.length:Int):=(by omega);have g4:((n:Int)+1).toNat=n+1:=(by omega);have HGN:Hid (L.getD (n+1) 0=L[n+1]):=(by show _=_;rw[List.getD_eq_getElem?_getD,List.getElem?_eq_getElem hn1];rfl);by_cases ht:EE.to=L[n+1]
      ·have e3:(EE.to==L[n+1])=true:=by rw[beq_iff_eq];exact ht
       have HO:Hid (zc1 p r n a e=true):=by
        show _=_;rw[HOKe.out,HLL.out,if_neg hp,HGD.out,HGN.out,Bool.true_and,decide_eq_true_eq];exact ht
       have HE:=hI (HOA e hlt HO HNI);clear ht hp hR x0 z0;go_upto_region 9 with fail;refine wp_region_quiet_below (by kernel_rfl) (by kernel_rfl) ?_
       repeat (go_big_quiet_step (fail))
       refine wpQuiet_nil ?_;rintro _ ⟨⟨dq,osq⟩,rfl⟩;go_wp2_with fail;go_ret;exact⟨za0 HE.symm,KWF _ (HRW dq osq)⟩
      ·have e3:(EE.to==L[n+1])=false:=by rw[beq_eq_false_iff_ne];exact ht
       have HF:Hid (zc1 p r n a e=false):=by
        show _=_;rw[HOKe.out,HLL.out,if_neg hp,HGD.out,HGN.out,Bool.true_and,decide_eq_false_iff_not];exact ht
       clear ht hp hR x0 z0;go_upto_region 9 with fail;refine wp_region_quiet_below (by kernel_rfl) (by kernel_rfl) ?_
       repeat (go_big_quiet_step (fail))
       refine wpQuiet_nil ?_;rintro _ ⟨⟨dq,osq⟩,rfl⟩;go_wp2_with fail;go_roundg (p.S[m].ends.length-(e+1))
       case measure=>go_light;omega
       case rel=>
        go_light;refine⟨e+1,by omega,by omega,by go_num,HRW dq osq,fun j h=> ?_⟩;by_cases hj:j=e
        ·subst hj;exact HF
        ·exact HNI j (by omega)
   ·obtain rfl:e=p.S[m].ends.length:=(by omega);have HE:=hI (HON HNI);go_wp2_with fail;go_ret;exact⟨za0 HE.symm,KWO⟩
structure RL (w1:World) (v:Nat→Value) (is n:Nat) (w2:World) (f:Nat→Bool) (s:Nat→Value) (W:World):Prop where
 val: ∀i,f i=true→s i=v i
 ord:f is=true→ ∀j,j<n→f j=true
 wd:W=bif f is then w2 else w1
section
variable {w1 w2:World}{v:Nat→Value}{is n:Nat}{f:Nat→Bool}{s:Nat→Value}{W:World}
theorem RL.start:RL w1 v is n w2 (fun _=>false) s w1:=⟨(fun _ (h:false=true)=>Bool.noConfusion h),(fun(h:false=true)=>Bool.noConfusion h),rfl⟩
theorem RL.same (h:RL w1 v is n w2 f s W){i:Nat}(hi:i<n) (hun:f i=false):W=w1:=by
 have hs:f is=false:=by
  cases k:f is with
  | false=>rfl
  | true=>rw[h.ord k i hi]at hun;cases hun
 have:=h.wd;rw[hs]at this;exact this
theorem RL.same' (h:RL w1 v is n w2 f s W) (hun:f is=false):W=w1:=by
 have:=h.wd;rw[hun]at this;exact this
theorem RL.step (h:RL w1 v is n w2 f s w1) (i:Nat) (hi:i<n) (hn:n≤is) (hun:f i=false):RL w1 v is n w2 (fun j=>decide (j=i) || f j) (fun j=>if j=i then v i else s j) w1:=by
 have hs:f is=false:=by
  cases k:f is with
  | false=>rfl
  | true=>rw[h.ord k i hi]at hun;cases hun
 have e2:(decide (is=i) || f is)=false:=by rw[decide_eq_false (by omega),hs];rfl
 refine⟨fun j hf=> ?_,fun hf=> ?_,?_⟩
 ·by_cases e:j=i
  ·subst e;exact if_pos rfl
  ·simp only[if_neg e];rw[decide_eq_false e,Bool.false_or]at hf;exact h.val j hf
 ·rw[e2]at hf;cases hf
 ·rw[e2];rfl
theorem RL.store (h:RL w1 v is n w2 f s w1) (hall: ∀j,j<n→f j=true):RL w1 v is n w2 (fun j=>decide (j=is) || f j) (fun j=>if j=is then v is else s j) w2:=by
 refine⟨fun j hf=> ?_,fun _ j hj=> ?_,?_⟩
 ·by_cases e:j=is
  ·subst e;exact if_pos rfl
  ·simp only[if_neg e];rw[decide_eq_false e,Bool.false_or]at hf;exact h.val j hf
 ·rw[hall j hj,Bool.or_true]
 ·simp
theorem RL.done (h:RL w1 v is n w2 f s W) (hs:f is=true):W=w2:=by
 have:=h.wd;rw[hs]at this;exact this
end
structure Two (W:World) (B:Nat) (v1:Value) (l1:List Int) (v2:Value) (l2:List Int):Prop where
 a:IntOwn W B v1 l1
 b:IntOwn W B v2 l2
 ap: ∀k,v1.ownBlock=some k→v2.ownBlock=some k→False
section
variable {W W':World}{B:Nat}{v1 v2:Value}{l1 l2:List Int}
theorem Two.swap (h:Two W B v1 l1 v2 l2):Two W B v2 l2 v1 l1:=⟨h.b,h.a,fun k e1 e2=>h.ap k e2 e1⟩
theorem Two.below (h:Two W B v1 l1 v2 l2) (hb:jb W W'):Two W' B v1 l1 v2 l2:=⟨zau h.a hb,zau h.b hb,h.ap⟩
theorem Two.nil (W:World) (B:Nat):Two W B (.slice none 0 0) [] (.slice none 0 0) []:=⟨World.ownsRow_nil W B 3 1,World.ownsRow_nil W B 3 1,fun k e=>by simp[Value.ownBlock]at e⟩
theorem Two.setRow (h:Two W B v1 l1 v2 l2){g:Nat}(hg:g<B) (c:Array Value):Two (W.setRow g c) B v1 l1 v2 l2:=by
 have hb: ∀k,B≤k→(W.setRow g c).heap[k]? =W.heap[k]? :=fun k hk=>by
  simp only[World.setRow,Array.getElem?_modify];rw[if_neg (by omega)]
 have key: ∀v l,IntOwn W B v l→IntOwn (W.setRow g c) B v l:=fun v l h=>by
  refine⟨h.1,?_⟩;rcases h.2 with hn | ⟨g',cap,cur,rfl,hbg,hgg,rest⟩
  ·exact .inl hn
  ·exact .inr ⟨g',cap,cur,rfl,hbg,(hb g' hbg).trans hgg,rest⟩
 exact⟨key _ _ h.a,key _ _ h.b,h.ap⟩
theorem zlh {ops:Array Oper}{rest:List Oper}{o:Oper}{a:Act}{Q:Exit→Act→World→Prop}(hgd:o.guard=none) (s x:Operand)
  (ho:o.op= .call {callee:= .builtin .append,args:=#[s,x],argTypes:=#[54,54]}) (B:Nat) (v1:Value) (l1:List Int) (v2:Value) (l2:List Int) (hT:Two W B v1 l1 v2 l2) (n:Int) (hs:a.eval s=v1)
  (hx:a.eval x= .slice (some ⟨W.heap.size,0,none⟩) 1 1) (hn:l1.length≤1000) (hB:B≤W.heap.size)
  (h: ∀a' c' w',Two w' B (js a' (l1.length+1) c') (l1++[n]) v2 l2→Below B W w'→wpList Tryz.prog ops Q rest (a.put o.dst (js a' (l1.length+1) c')) w'):
  wpList Tryz.prog ops Q (o::rest) a (W.alloc (.cells #[n] 3)):=by
 obtain⟨i0,hi,hz0,hz1,hz2⟩:=info_parts zg3;refine wpList_append_own_at _ hgd s x 54 ho B 3 i0 (.int .i64 0) 1 8 Tryz.underlying54 hi hz0 hz1 hz2 rfl (by decide) v1 l1.length (l1.map (.int .i64)) hs (hT.a.alloc _) ⟨W.heap.size,0,none⟩ 1 1 [.int .i64 n] hx rfl (Go.cell_one_new W _ 3) (by intro u hu;simp at hu;subst hu;rfl) (by unfold maxLen;omega) (by omega) (by simp;omega) ?_;intro v' w' h1 h2 _ h4;have hb:Below B (W.alloc (.cells #[n] 3)) w':=zcw (hT.a.alloc _) (Nat.le_refl _) (by simp;omega) h2
 have h1':IntOwn w' B v' (l1++[n]):=by
  unfold IntOwn;rw[List.length_append,List.map_append];exact h1
 obtain⟨a',c',rfl⟩:=h1'.slice
 have hlt: ∀k,v2.ownBlock=some k→k<W.heap.size:=fun k hk=>by
  obtain⟨c,hc,_⟩:=zb1 hT.b hk;exact zad hc
 have h2b:IntOwn w' B v2 l2:=(World.ownsRow.kept (hT.b.alloc _) h2 (by
  cases e:v2.ownBlock with
  | none=>exact .inl rfl
  | some k=>exact .inr (fun e'=>hT.ap k e'.symm e)))
 rw[List.length_append,List.length_singleton]at h1' h4 ⊢;refine h a' c' w' ⟨h1',h2b,fun k e1 e2=> ?_⟩ (((Below.refl B W).alloc hB _).trans hb);rcases h4 with h4 | h4
 ·rw[h4]at e1;exact hT.ap k e1 e2
 ·rw[h4]at e1;cases e1;exact absurd (hlt _ e2) (by simp)
end
end Go.Proofs.YtbiehpjhhopjaaaGreat
