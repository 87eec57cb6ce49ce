/-
 plan.find,walked. (Written by wip/tools/gen_planfind.py.)
-/
import Derived.Test.YtbiehpjhhopjaaaGreatTPlanA
import Derived.Test.YtbiehpjhhopjaaaGreatTTrackC
import Derived.Test.YtbiehpjhhopjaaaGreatTIxfn
import Derived.Test.YtbiehpjhhopjaaaGreatTData
import Derived.Deep.LoopGhost
import Derived.Deep.Light
set_option linter.unusedVariables false
set_option linter.unusedSimpArgs false
set_option maxRecDepth 100000
set_option maxHeartbeats 16000000
namespace Go.Proofs.YtbiehpjhhopjaaaGreat
open Go.RowKit Go.Sort
theorem zmn:zdb 416:=fun args w=>by simp[go_sem]
theorem zmo (x:Sg) (n:Int) (g:Nat) (w:World) (hn:jc w g 0 n):
  Calls Tryz.prog 416 #[.agg #[x.id,x.sec,x.en],jp g 0] w (zae w (decide (x.id=n))):=by
 have HE:Hid (∀b,(b=true↔x.id=n)→b=decide (x.id=n)):=fun b hb=>by rw[Bool.eq_iff_iff,hb];simp
 generalize decide (x.id=n)=B at *;go_enter Tryz.func416,Tryz.ntmps416;go_wp2_with fail;generalize hW:w.alloc (.cells #[x.id,x.sec,x.en] 145)=W;have hbW:jb w W:=by rw[←hW];exact jal
 have KW:=hI hbW;have cN:Hid (∀d os,Calls Tryz.prog 414 #[.agg #[x.id,x.sec,x.en]] (grow (redrawn W d) os) fun e w''=>e= .returned ↑x.id∧ ∃p:Regrown,w''=grow (redrawn W p.d) p.os):=fun d os=>Calls.regrown_of (zj5 x.id x.sec x.en _);have y0:=cell_regrown (show jc W g 0 n from zac hbW hn);have z0:=cell_regrown (show jc W w.heap.size 0 x.id by rw[←hW];simp);have z1:=cell_regrown (show jc W w.heap.size 1 x.sec by rw[←hW];simp);have z2:=cell_regrown (show jc W w.heap.size 2 x.en by rw[←hW];simp);clear hW hbW hn;refine wp_region_quiet_below (by kernel_rfl) (by kernel_rfl) ?_
 repeat (go_big_quiet_step (first | (with_reducible exact cN.out _ _)))
 refine wpQuiet_nil ?_;rintro _ ⟨⟨dq,osq⟩,rfl⟩;go_wp2_with fail;go_ret;exact⟨zab (HE _ (by simp)),KW.trans ((below_regrown W dq osq).mono KW.size)⟩
theorem zmp (a:Option Addr) (cap:Nat) (l:List Sg) (n:Int) (w:World) (hl:SlA w 3 RSg a cap l) (hm:l.length≤1000):
  Calls Tryz.prog 380 #[js a l.length cap,n] w fun e w'=>e= .returned (.tuple #[.agg #[.int .i64 (za1 Sg.id ⟨0,0,0⟩ l n).id,.int .i64 (za1 Sg.id ⟨0,0,0⟩ l n).sec,.int .i64 (za1 Sg.id ⟨0,0,0⟩ l n).en],.bool (za2 Sg.id l n)])∧jb w w':=by
 have HL:Hid (∀w',jb w w'→SlA w' 3 RSg a cap l):=fun w' hb=>hl.below zcu hb;clear hl;rcases zce (fun x:Sg=>decide (x.id=n)) l with⟨h1,h2⟩ | ⟨k,hk,h1,h2,h3⟩
 ·obtain⟨e1,e2⟩:=zju (z:=⟨0,0,0⟩) h2;rw[e1,e2];have HF:=hI h1;clear e1 e2 h1 h2;go_enter Tryz.func380,Tryz.ntmps380;go_wp2_with fail;generalize hW:(w.alloc _).alloc _=W;have hbW:jb w W:=by rw[←hW];exact jal.alloc (by simp) _
  have hn:jc W w.heap.size 0 n:=by rw[←hW];simp
  have hz:W.heap.size=w.heap.size+2:=by rw[←hW];simp
  have KW:=hI hbW;have HS:Hid (zj9 416 #[jp w.heap.size 0] (fun x:Sg=>decide (x.id=n)) l W):=fun W' i h hb=>zmo l[i] n w.heap.size W' (zac hb hn);have Y0:=hI (show jc W (w.heap.size+1) 0 (.int .i64 0) by rw[←hW];simp);have F0:=hI (show W.frozen? ⟨w.heap.size+1,0,none⟩=false by rw[←hW];simp);have Y1:=hI (show jc W (w.heap.size+1) 1 (.int .i64 0) by rw[←hW];simp);have F1:=hI (show W.frozen? ⟨w.heap.size+1,1,none⟩=false by rw[←hW];simp);have Y2:=hI (show jc W (w.heap.size+1) 2 (.int .i64 0) by rw[←hW];simp);have F2:=hI (show W.frozen? ⟨w.heap.size+1,2,none⟩=false by rw[←hW];simp);clear hW hbW;refine(zmm 416 #[jp w.heap.size 0] (fun x:Sg=>decide (x.id=n)) a cap l W (HL _ KW) hm zmn HS).mono ?_;rintro e w1 ⟨rfl,hb1⟩;rw[HF.out];have y0:jc w1 (w.heap.size+1) 0 (.int .i64 0):=(hb1.cell (by simp[hz])).trans Y0;have f0:w1.frozen? ⟨w.heap.size+1,0,none⟩=false:=(hb1.frozen (by simp[hz])).trans F0;have y1:jc w1 (w.heap.size+1) 1 (.int .i64 0):=(hb1.cell (by simp[hz])).trans Y1;have f1:w1.frozen? ⟨w.heap.size+1,1,none⟩=false:=(hb1.frozen (by simp[hz])).trans F1;have y2:jc w1 (w.heap.size+1) 2 (.int .i64 0):=(hb1.cell (by simp[hz])).trans Y2;have f2:w1.frozen? ⟨w.heap.size+1,2,none⟩=false:=(hb1.frozen (by simp[hz])).trans F2;have hz1:w.heap.size+1<w1.heap.size:=by have:=hb1.size;omega
  have KE:=jh KW hb1;clear hb1 hz hn;go_wp2_with fail;generalize hWE:World.alloc _ _=WE;have q0:jc WE (w.heap.size+1) 0 (.int .i64 0):=by rw[←hWE];simp[go_sem,hz1,y0,y1,y2]
  have q1:jc WE (w.heap.size+1) 1 (.int .i64 0):=by rw[←hWE];simp[go_sem,hz1,y0,y1,y2]
  have q2:jc WE (w.heap.size+1) 2 (.int .i64 0):=by rw[←hWE];simp[go_sem,hz1,y0,y1,y2]
  have KB:Hid (jb w WE):=by show Below _ _ _;rw[←hWE];exact Below.alloc (Below.setCell (Below.setCell (Below.setCell (KE) (by simp) _) (by simp) _) (by simp) _) (by simp;omega) _
  clear hWE;refine bodyPost_ret (v:= .tuple #[.agg #[.int .i64 0,.int .i64 0,.int .i64 0],.bool false]) (by simp[results,Tryz.f380,go_sem,q0,q1,q2]) rfl ⟨rfl,?_⟩;exact KB
 ·obtain⟨e1,e2⟩:=zfy (z:=⟨0,0,0⟩) hk h2 h3;rw[e1,e2];have HF:=hI h1;clear e1 e2 h1 h2 h3;go_enter Tryz.func380,Tryz.ntmps380;go_wp2_with fail;generalize hW:(w.alloc _).alloc _=W;have hbW:jb w W:=by rw[←hW];exact jal.alloc (by simp) _
  have hn:jc W w.heap.size 0 n:=by rw[←hW];simp
  have hz:W.heap.size=w.heap.size+2:=by rw[←hW];simp
  have KW:=hI hbW;have HS:Hid (zj9 416 #[jp w.heap.size 0] (fun x:Sg=>decide (x.id=n)) l W):=fun W' i h hb=>zmo l[i] n w.heap.size W' (zac hb hn);have Y0:=hI (show jc W (w.heap.size+1) 0 (.int .i64 0) by rw[←hW];simp);have F0:=hI (show W.frozen? ⟨w.heap.size+1,0,none⟩=false by rw[←hW];simp);have Y1:=hI (show jc W (w.heap.size+1) 1 (.int .i64 0) by rw[←hW];simp);have F1:=hI (show W.frozen? ⟨w.heap.size+1,1,none⟩=false by rw[←hW];simp);have Y2:=hI (show jc W (w.heap.size+1) 2 (.int .i64 0) by rw[←hW];simp);have F2:=hI (show W.frozen? ⟨w.heap.size+1,2,none⟩=false by rw[←hW];simp);clear hW hbW;refine(zmm 416 #[jp w.heap.size 0] (fun x:Sg=>decide (x.id=n)) a cap l W (HL _ KW) hm zmn HS).mono ?_;rintro e w1 ⟨rfl,hb1⟩;rw[HF.out];have y0:jc w1 (w.heap.size+1) 0 (.int .i64 0):=(hb1.cell (by simp[hz])).trans Y0;have f0:w1.frozen? ⟨w.heap.size+1,0,none⟩=false:=(hb1.frozen (by simp[hz])).trans F0;have y1:jc w1 (w.heap.size+1) 1 (.int .i64 0):=(hb1.cell (by simp[hz])).trans Y1;have f1:w1.frozen? ⟨w.heap.size+1,1,none⟩=false:=(hb1.frozen (by simp[hz])).trans F1;have y2:jc w1 (w.heap.size+1) 2 (.int .i64 0):=(hb1.cell (by simp[hz])).trans Y2;have f2:w1.frozen? ⟨w.heap.size+1,2,none⟩=false:=(hb1.frozen (by simp[hz])).trans F2;have hz1:w.heap.size+1<w1.heap.size:=by have:=hb1.size;omega
  have KE:=jh KW hb1;obtain⟨b,off,rfl,x0,x1,x2⟩:=(HL _ KE).sg hk;have t0:decide ((k:Int)<0)=false:=by simp
  have i0:(0:Int)≤(k:Int):=by omega
  have i1:(k:Int)<(l.length:Int):=by omega
  clear hb1 hz hn;go_wp2_with fail;generalize hWE:World.setCell _ _ _=WE;have q0:jc WE (w.heap.size+1) 0 l[k].id:=by rw[←hWE];simp[go_sem,hz1,y0,y1,y2]
  have q1:jc WE (w.heap.size+1) 1 l[k].sec:=by rw[←hWE];simp[go_sem,hz1,y0,y1,y2]
  have q2:jc WE (w.heap.size+1) 2 l[k].en:=by rw[←hWE];simp[go_sem,hz1,y0,y1,y2]
  have KB:Hid (jb w WE):=by show Below _ _ _;rw[←hWE];exact Below.setCell (Below.setCell (Below.setCell (KE) (by simp) _) (by simp) _) (by simp) _
  clear hWE;refine bodyPost_ret (v:= .tuple #[.agg #[l[k].id,l[k].sec,l[k].en],.bool true]) (by simp[results,Tryz.f380,go_sem,q0,q1,q2]) rfl ⟨rfl,?_⟩;exact KB
theorem zmq:zdb 417:=fun args w=>by simp[go_sem]
theorem zmr (x:Pt) (n:Int) (g:Nat) (w:World) (hn:jc w g 0 n):
  Calls Tryz.prog 417 #[.agg #[x.id,x.sec],jp g 0] w (zae w (decide (x.id=n))):=by
 have HE:Hid (∀b,(b=true↔x.id=n)→b=decide (x.id=n)):=fun b hb=>by rw[Bool.eq_iff_iff,hb];simp
 generalize decide (x.id=n)=B at *;go_enter Tryz.func417,Tryz.ntmps417;go_wp2_with fail;generalize hW:w.alloc (.cells #[x.id,x.sec] 143)=W;have hbW:jb w W:=by rw[←hW];exact jal
 have KW:=hI hbW;have cN:Hid (∀d os,Calls Tryz.prog 413 #[.agg #[x.id,x.sec]] (grow (redrawn W d) os) fun e w''=>e= .returned ↑x.id∧ ∃p:Regrown,w''=grow (redrawn W p.d) p.os):=fun d os=>Calls.regrown_of (zj4 x.id x.sec _);have y0:=cell_regrown (show jc W g 0 n from zac hbW hn);have z0:=cell_regrown (show jc W w.heap.size 0 x.id by rw[←hW];simp);have z1:=cell_regrown (show jc W w.heap.size 1 x.sec by rw[←hW];simp);clear hW hbW hn;refine wp_region_quiet_below (by kernel_rfl) (by kernel_rfl) ?_
 repeat (go_big_quiet_step (first | (with_reducible exact cN.out _ _)))
 refine wpQuiet_nil ?_;rintro _ ⟨⟨dq,osq⟩,rfl⟩;go_wp2_with fail;go_ret;exact⟨zab (HE _ (by simp)),KW.trans ((below_regrown W dq osq).mono KW.size)⟩
theorem zsb (a:Option Addr) (cap:Nat) (l:List Pt) (n:Int) (w:World) (hl:SlA w 2 RPt a cap l) (hm:l.length≤1000):
  Calls Tryz.prog 381 #[js a l.length cap,n] w fun e w'=>e= .returned (.tuple #[.agg #[.int .i64 (za1 Pt.id ⟨0,0⟩ l n).id,.int .i64 (za1 Pt.id ⟨0,0⟩ l n).sec],.bool (za2 Pt.id l n)])∧jb w w':=by
 have HL:Hid (∀w',jb w w'→SlA w' 2 RPt a cap l):=fun w' hb=>hl.below zct hb;clear hl;rcases zce (fun x:Pt=>decide (x.id=n)) l with⟨h1,h2⟩ | ⟨k,hk,h1,h2,h3⟩
 ·obtain⟨e1,e2⟩:=zju (z:=⟨0,0⟩) h2;rw[e1,e2];have HF:=hI h1;clear e1 e2 h1 h2;go_enter Tryz.func381,Tryz.ntmps381;go_wp2_with fail;generalize hW:(w.alloc _).alloc _=W;have hbW:jb w W:=by rw[←hW];exact jal.alloc (by simp) _
  have hn:jc W w.heap.size 0 n:=by rw[←hW];simp
  have hz:W.heap.size=w.heap.size+2:=by rw[←hW];simp
  have KW:=hI hbW;have HS:Hid (zhs 417 #[jp w.heap.size 0] (fun x:Pt=>decide (x.id=n)) l W):=fun W' i h hb=>zmr l[i] n w.heap.size W' (zac hb hn);have Y0:=hI (show jc W (w.heap.size+1) 0 (.int .i64 0) by rw[←hW];simp);have F0:=hI (show W.frozen? ⟨w.heap.size+1,0,none⟩=false by rw[←hW];simp);have Y1:=hI (show jc W (w.heap.size+1) 1 (.int .i64 0) by rw[←hW];simp);have F1:=hI (show W.frozen? ⟨w.heap.size+1,1,none⟩=false by rw[←hW];simp);clear hW hbW;refine(zj8 417 #[jp w.heap.size 0] (fun x:Pt=>decide (x.id=n)) a cap l W (HL _ KW) hm zmq HS).mono ?_;rintro e w1 ⟨rfl,hb1⟩;rw[HF.out];have y0:jc w1 (w.heap.size+1) 0 (.int .i64 0):=(hb1.cell (by simp[hz])).trans Y0;have f0:w1.frozen? ⟨w.heap.size+1,0,none⟩=false:=(hb1.frozen (by simp[hz])).trans F0;have y1:jc w1 (w.heap.size+1) 1 (.int .i64 0):=(hb1.cell (by simp[hz])).trans Y1;have f1:w1.frozen? ⟨w.heap.size+1,1,none⟩=false:=(hb1.frozen (by simp[hz])).trans F1;have hz1:w.heap.size+1<w1.heap.size:=by have:=hb1.size;omega
  have KE:=jh KW hb1;clear hb1 hz hn;go_wp2_with fail;generalize hWE:World.alloc _ _=WE;have q0:jc WE (w.heap.size+1) 0 (.int .i64 0):=by rw[←hWE];simp[go_sem,hz1,y0,y1]
  have q1:jc WE (w.heap.size+1) 1 (.int .i64 0):=by rw[←hWE];simp[go_sem,hz1,y0,y1]
  have KB:Hid (jb w WE):=by show Below _ _ _;rw[←hWE];exact Below.alloc (Below.setCell (Below.setCell (KE) (by simp) _) (by simp) _) (by simp;omega) _
  clear hWE;refine bodyPost_ret (v:= .tuple #[.agg #[.int .i64 0,.int .i64 0],.bool false]) (by simp[results,Tryz.f381,go_sem,q0,q1]) rfl ⟨rfl,?_⟩;exact KB
 ·obtain⟨e1,e2⟩:=zfy (z:=⟨0,0⟩) hk h2 h3;rw[e1,e2];have HF:=hI h1;clear e1 e2 h1 h2 h3;go_enter Tryz.func381,Tryz.ntmps381;go_wp2_with fail;generalize hW:(w.alloc _).alloc _=W;have hbW:jb w W:=by rw[←hW];exact jal.alloc (by simp) _
  have hn:jc W w.heap.size 0 n:=by rw[←hW];simp
  have hz:W.heap.size=w.heap.size+2:=by rw[←hW];simp
  have KW:=hI hbW;have HS:Hid (zhs 417 #[jp w.heap.size 0] (fun x:Pt=>decide (x.id=n)) l W):=fun W' i h hb=>zmr l[i] n w.heap.size W' (zac hb hn);have Y0:=hI (show jc W (w.heap.size+1) 0 (.int .i64 0) by rw[←hW];simp);have F0:=hI (show W.frozen? ⟨w.heap.size+1,0,none⟩=false by rw[←hW];simp);have Y1:=hI (show jc W (w.heap.size+1) 1 (.int .i64 0) by rw[←hW];simp);have F1:=hI (show W.frozen? ⟨w.heap.size+1,1,none⟩=false by rw[←hW];simp);clear hW hbW;refine(zj8 417 #[jp w.heap.size 0] (fun x:Pt=>decide (x.id=n)) a cap l W (HL _ KW) hm zmq HS).mono ?_;rintro e w1 ⟨rfl,hb1⟩;rw[HF.out];have y0:jc w1 (w.heap.size+1) 0 (.int .i64 0):=(hb1.cell (by simp[hz])).trans Y0;have f0:w1.frozen? ⟨w.heap.size+1,0,none⟩=false:=(hb1.frozen (by simp[hz])).trans F0;have y1:jc w1 (w.heap.size+1) 1 (.int .i64 0):=(hb1.cell (by simp[hz])).trans Y1;have f1:w1.frozen? ⟨w.heap.size+1,1,none⟩=false:=(hb1.frozen (by simp[hz])).trans F1;have hz1:w.heap.size+1<w1.heap.size:=by have:=hb1.size;omega
  have KE:=jh KW hb1;obtain⟨b,off,rfl,x0,x1⟩:=(HL _ KE).pt hk;have t0:decide ((k:Int)<0)=false:=by simp
  have i0:(0:Int)≤(k:Int):=by omega
  have i1:(k:Int)<(l.length:Int):=by omega
  clear hb1 hz hn;go_wp2_with fail;generalize hWE:World.setCell _ _ _=WE;have q0:jc WE (w.heap.size+1) 0 l[k].id:=by rw[←hWE];simp[go_sem,hz1,y0,y1]
  have q1:jc WE (w.heap.size+1) 1 l[k].sec:=by rw[←hWE];simp[go_sem,hz1,y0,y1]
  have KB:Hid (jb w WE):=by show Below _ _ _;rw[←hWE];exact Below.setCell (Below.setCell (KE) (by simp) _) (by simp) _
  clear hWE;refine bodyPost_ret (v:= .tuple #[.agg #[l[k].id,l[k].sec],.bool true]) (by simp[results,Tryz.f381,go_sem,q0,q1]) rfl ⟨rfl,?_⟩;exact KB
theorem zkb {l:List Sec}(h:za4 l l.length):zg1 l:=fun i j hi hj hij=>((h j hj hj).2 i hij).1
def zkc (l:List Sec) (k:Nat) (h:k<l.length):Prop:=1≤l[k].id∧l[k].id≤99∧l[k].Shaped
def zkd (l:List Sec) (k:Nat) (h:k<l.length) (m:Nat):Prop:= ∀j (hj:j<k),j<m→l[j].id<l[k].id∧(l[k].pt≠0→l[j].pt≠l[k].pt)
theorem zms {l:List Sec}{k:Nat}(h:k<l.length) (hA:za4 l k) (h1:zkc l k h) (h2:zkd l k h k):za4 l (k+1):=by
 intro i hi hik;by_cases e:i=k
 ·subst e;exact⟨h1,fun m hm=>h2 m hm hm⟩
 ·exact hA i hi (by omega)
theorem zsc {l:List Sec}{k:Nat}(h:k<l.length) (h1: ¬zkc l k h): ¬za4 l l.length:=fun hA=>h1 (hA k h h).1
theorem zsd {l:List Sec}{k m:Nat}(h:k<l.length) (hm:m<k) (h2: ¬(l[m].id<l[k].id∧(l[k].pt≠0→l[m].pt≠l[k].pt))): ¬za4 l l.length:=fun hA=>h2 ((hA k h h).2 m hm)
def zht (l:List Sec) (k:Nat) (h:k<l.length) (m:Nat):Prop:= ∀e (he:e<l[k].ends.length),e<m→zdf l l[k] e l[k].ends[e]
theorem zmt {l:List Sec}{k:Nat}(h:k<l.length) (hB:zel l k) (h1:zht l k h l[k].ends.length):zel l (k+1):=by
 intro i hi hik;by_cases e:i=k
 ·subst e;exact fun m hm=>h1 m hm hm
 ·exact hB i hi (by omega)
theorem zmu {l:List Sec}{k m:Nat}(h:k<l.length) (hm:m<l[k].ends.length) (h2: ¬zdf l l[k] m l[k].ends[m]): ¬zel l l.length:=fun hA=>h2 (hA k h h m hm)
theorem zse (a:Option Addr) (cap:Nat) (l:List Sec) (w:World) (hl:SlA w 3 zas a cap l) (hm:l.length≤1000) (hmm: ∀i (h:i<l.length),l[i].ends.length≤8796093022208):
  Calls Tryz.prog 212 #[js a l.length cap] w (zae w (decide (zb8 l))):=by
 have HL:Hid (∀w',jb w w'→SlA w' 3 zas a cap l):=fun w' hb=>hl.below zbo hb;have HMM:=hI hmm;clear hl hmm;by_cases hbig:16<l.length
 ·have hd:decide ((16:Int)<(l.length:Int))=true:=by simp;omega
  have HE:Hid (decide (zb8 l)=false):=decide_eq_false fun h=>by have:=h.1;omega
  go_enter Tryz.func212,Tryz.ntmps212;go_wp2_with fail;go_ret;exact⟨zab HE.symm,Below.refl _ _⟩
 ·have hd:decide ((16:Int)<(l.length:Int))=false:=by simp;omega
  have h16:l.length≤16:=by omega
  have HNA:Hid (¬za4 l l.length→decide (zb8 l)=false):=fun h=>decide_eq_false fun h'=>h h'.2.1;have HNB:Hid (¬zel l l.length→decide (zb8 l)=false):=fun h=>decide_eq_false fun h'=>h h'.2.2;have HY:Hid (za4 l l.length→zel l l.length→decide (zb8 l)=true):=fun h1 h2=>decide_eq_true ⟨h16,h1,h2⟩;generalize decide (zb8 l)=B at *;go_enter Tryz.func212,Tryz.ntmps212;go_wp2_with fail;go_loopg [3] l.length (fun g i wr=> ∃k:Nat,k≤l.length∧g=l.length-k∧i= .int .i64 k∧jb w wr∧za4 l k)
  case atStart=>exact⟨0,by omega,by omega,rfl,Below.refl _ _,fun i h h0=>by omega⟩
  case round=>
   obtain⟨k,hk,rfl,rfl,hb,hA⟩:=hrel;obtain⟨wo,rfl⟩: ∃wo:World,wo=wr:=⟨_,rfl⟩;have HB:=hI hb;have HA:=hI hA;clear hb hA;by_cases hlt:k<l.length
   ·have hdk:decide ((k:Int)<(l.length:Int))=true:=(by simp;omega);obtain⟨b,off,a',c',rfl,x0,x1,x2,-⟩:=(HL _ HB).sec hlt;have c0:(0:Int)≤(k:Int):=(by omega);have c1:(k:Int)<(l.length:Int):=(by omega);have HS:Hid (∀W,Calls Tryz.prog 309 #[.agg #[l[k].id,l[k].pt,js a' l[k].ends.length c']] W fun e w'=>e= .returned (.bool (decide l[k].Shaped))∧jb W w'):=fun W=>zr0 l[k] a' c' W;by_cases hA1:zkc l k hlt
    ·have HA1:=hI hA1;have t1:decide (l[k].id<1)=false:=(by have:=hA1.1;simp;omega);have t2:decide (99<l[k].id)=false:=(by have:=hA1.2.1;simp;omega);have t3:decide l[k].Shaped=true:=(by simpa using hA1.2.2);rw[t3]at HS;clear hA1 t3;have l1:=World.block_lt_of_cell? _ _ x0;go_wp2_with fail;refine(HS _).mono ?_;rintro e0 w1 ⟨rfl,hb1⟩;have K1:Hid (jb w w1):=(HB.alloc HB.size _).trans (hb1.mono (by have:=HB.size;simp;omega));have f0:jc w1 wo.heap.size 0 l[k].id:=zac hb1 (by simp);have f1:jc w1 wo.heap.size 1 l[k].pt:=zac hb1 (by simp);clear hb1 HS;go_wp2_with fail;go_loopg [5] k (fun g i wi=> ∃m q:Nat,m≤k∧g=k-m∧i= .int .i64 m∧wi=w1.drewN q∧zkd l k hlt m)
     case atStart=>exact⟨0,0,by omega,by omega,rfl,rfl,fun j hj h0=>by omega⟩
     case round=>
      obtain⟨m,q,hmk,rfl,rfl,hwi,hA2⟩:=hrel;obtain⟨wi,rfl⟩: ∃wi:World,wi=wr:=⟨_,rfl⟩;have HA2:=hI hA2;have HWI:=hI hwi;have F0:jc wi wo.heap.size 0 l[k].id:=(by rw[hwi];exact f0);have F1:jc wi wo.heap.size 1 l[k].pt:=(by rw[hwi];exact f1);have K2:Hid (jb w wi):=(by show Below _ _ _;rw[hwi];exact zb6 K1 q);clear hA2 hwi;by_cases hmk2:m<k
      ·have hdm:decide ((m:Int)<(k:Int))=true:=(by simp;omega);have hml:m<l.length:=(by omega);obtain⟨b2,off2,a2,c2,e2,y0,y1,-,-⟩:=(HL _ K2).sec hml;cases e2;have m0:(0:Int)≤(m:Int):=(by omega);have m1:(m:Int)<(l.length:Int):=(by omega);have HNO:Hid (¬(l[m].id<l[k].id∧(l[k].pt≠0→l[m].pt≠l[k].pt))→B=false):=fun h=>HNA (zsd hlt hmk2 h)
       have HOK:Hid (l[m].id<l[k].id∧(l[k].pt≠0→l[m].pt≠l[k].pt)→zkd l k hlt (m+1)):=fun h j hj hjm=>by
        by_cases e:j=m
        ·subst e;exact h
        ·exact HA2 j hj (by omega)
       generalize l[m].id=mi at *;generalize l[m].pt=mp at *;generalize l[k].id=ki at *;generalize l[k].pt=kp at *;by_cases q1:ki≤mi
       ·have s1:decide (ki≤mi)=true:=(by simpa using q1);have HE:=hI (HNO (fun h=>by omega));go_wp2_with fail;go_quiet (fail);go_wp2_with fail;go_ret;exact⟨zab HE.symm,zb6 K2 _⟩
       ·have s1:decide (ki≤mi)=false:=(by simp;omega);by_cases q2:kp=0
        ·have s2:(kp != 0)=false:=(by simp[q2]);have HO:=hI (HOK ⟨by omega,fun h=>absurd q2 h⟩);clear q2;go_wp2_with fail;go_quiet (fail);go_wp2_with fail;go_roundg (k-(m+1))
         case measure=>go_light;omega
         case rel=>go_light;exact⟨m+1,_,by omega,by omega,by go_num,by rw[HWI.out];exact World.drewN_drewN _ _ _,HO⟩
        ·have s2:(kp != 0)=true:=(by simp[q2]);by_cases q3:mp=kp
         ·have s3:(mp==kp)=true:=(by simp[q3]);have HE:=hI (HNO (fun h=>h.2 q2 q3));clear q2 q3;go_wp2_with fail;go_quiet (fail);go_wp2_with fail;go_ret;exact⟨zab HE.symm,zb6 K2 _⟩
         ·have s3:(mp==kp)=false:=(by simp[q3]);have HO:=hI (HOK ⟨by omega,fun _=>q3⟩);clear q2 q3;go_wp2_with fail;go_quiet (fail);go_wp2_with fail;go_roundg (k-(m+1))
          case measure=>go_light;omega
          case rel=>go_light;exact⟨m+1,_,by omega,by omega,by go_num,by rw[HWI.out];exact World.drewN_drewN _ _ _,HO⟩
      ·obtain rfl:m=k:=(by omega);have hdm:decide ((m:Int)<(m:Int))=false:=(by simp);have HO:=hI (zms hlt HA HA1 HA2);go_wp2_with fail;go_roundg (l.length-(m+1))
       case measure=>go_light;omega
       case rel=>go_light;exact⟨m+1,by omega,by omega,by go_num,K2,HO⟩
    ·have HE:=hI (HNA (zsc hlt hA1))
     have hways:decide (l[k].id<1)=true∨(decide (l[k].id<1)=false∧decide (99<l[k].id)=true)∨(decide (l[k].id<1)=false∧decide (99<l[k].id)=false∧decide l[k].Shaped=false):=by
      by_cases h1:l[k].id<1
      ·left;simpa using h1
      ·right;by_cases h2:99<l[k].id
       ·left;exact⟨by simpa using h1,by simpa using h2⟩
       ·right;exact⟨by simpa using h1,by simpa using h2,decide_eq_false fun h3=>hA1 ⟨by omega,by omega,h3⟩⟩
     clear hA1;rcases hways with t1 | ⟨t1,t2⟩ | ⟨t1,t2,t3⟩
     ·go_wp2_with fail;go_ret;exact⟨zab HE.symm,HB.alloc HB.size _⟩
     ·go_wp2_with fail;go_ret;exact⟨zab HE.symm,HB.alloc HB.size _⟩
     ·rw[t3]at HS;clear t3;go_wp2_with fail;refine(HS _).mono ?_;rintro e0 w1 ⟨rfl,hb1⟩;have K1:Hid (jb w w1):=(HB.alloc HB.size _).trans (hb1.mono (by have:=HB.size;simp;omega));clear hb1 HS;go_wp2_with fail;go_ret;exact⟨zab HE.symm,K1⟩
   ·obtain rfl:k=l.length:=(by omega);have hdk:decide ((l.length:Int)<(l.length:Int))=false:=(by simp);have hr:=hI (zkb HA);go_wp2_with fail;go_loopg [6] l.length (fun g i wi=> ∃k:Nat,k≤l.length∧g=l.length-k∧i= .int .i64 k∧jb w wi∧zel l k)
    case atStart=>exact⟨0,by omega,by omega,rfl,HB,fun i h h0=>by omega⟩
    case round=>
     obtain⟨k,hk2,rfl,rfl,hb2,hB2⟩:=hrel;obtain⟨wi,rfl⟩: ∃wi:World,wi=wr:=⟨_,rfl⟩;have HBi:=hI hb2;have HBB:=hI hB2;clear hb2 hB2;by_cases hlt:k<l.length
     ·have hdk:decide ((k:Int)<(l.length:Int))=true:=(by simp;omega);have c0:(0:Int)≤(k:Int):=(by omega);have c1:(k:Int)<(l.length:Int):=(by omega);have hmk:=HMM k hlt;go_wp2_with fail;go_loopg [7] l[k].ends.length (fun g i wj=> ∃m:Nat,m≤l[k].ends.length∧g=l[k].ends.length-m∧i= .int .i64 m∧jb w wj∧zht l k hlt m)
      case atStart=>exact⟨0,by omega,by omega,rfl,HBi,fun j hj h0=>by omega⟩
      case round=>
       obtain⟨m,hmk2,rfl,rfl,hb3,hB3⟩:=hrel;obtain⟨wj,rfl⟩: ∃wj:World,wj=wr:=⟨_,rfl⟩;have HBj:=hI hb3;have HB1:=hI hB3;clear hb3 hB3;obtain⟨b2,off2,a2,c2,rfl,y0,y1,y2,hends⟩:=(HL _ HBj).sec hlt;by_cases hm2:m<l[k].ends.length
       ·have hdm:decide ((m:Int)<(l[k].ends.length:Int))=true:=by simp;omega
        have HJ:Hid (Calls Tryz.prog 310 #[jq b2 off2 l.length cap,.agg #[l[k].id,l[k].pt,js a2 l[k].ends.length c2],.int .i64 (m:Int)] wj (zae wj (decide (zdf l l[k] m l[k].ends[m])))):=
         zr8 _ cap l l[k] a2 c2 m hm2 wj (HL _ HBj) hends hm HMM hmk hr
        by_cases hj:zdf l l[k] m l[k].ends[m]
        ·have HO:Hid (zht l k hlt (m+1)):=fun e he hem=>by
          by_cases h:e=m
          ·subst h;exact hj
          ·exact HB1 e he (by omega)
         rw[decide_eq_true hj]at HJ;clear hj hends;generalize l[k].ends.length=ne at *;go_wp2_with fail;refine HJ.mono ?_;rintro e0 w1 ⟨rfl,hb1⟩;have K1:=jh HBj hb1;clear hb1 HJ;go_wp2_with fail;go_roundg (ne-(m+1))
         case measure=>go_light;omega
         case rel=>go_light;exact⟨m+1,by omega,by omega,by go_num,K1,HO⟩
        ·have HE:=hI (HNB (zmu hlt hm2 hj));rw[decide_eq_false hj]at HJ;clear hj hends;generalize l[k].ends.length=ne at *;go_wp2_with fail;refine HJ.mono ?_;rintro e0 w1 ⟨rfl,hb1⟩;have K1:=jh HBj hb1;clear hb1 HJ;go_wp2_with fail;go_ret;exact⟨zab HE.symm,K1⟩
       ·have hme:m=l[k].ends.length:=(by omega);have HO:=hI (zmt hlt HBB (by rw[←hme];exact HB1));have hdm:decide ((m:Int)<(l[k].ends.length:Int))=false:=(by simp;omega);clear hme hends;go_wp2_with fail;go_roundg (l.length-(k+1))
        case measure=>go_light;omega
        case rel=>go_light;exact⟨k+1,by omega,by omega,by go_num,HBj,HO⟩
     ·obtain rfl:k=l.length:=(by omega);have hdk:decide ((l.length:Int)<(l.length:Int))=false:=(by simp);have HE:=hI (HY HA HBB);go_wp2_with fail;go_ret;exact⟨zab HE.symm,HBi⟩
end Go.Proofs.YtbiehpjhhopjaaaGreat
