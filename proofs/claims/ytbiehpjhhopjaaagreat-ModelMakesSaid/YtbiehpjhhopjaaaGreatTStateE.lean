/-
 state.grip,walked.
-/
import Derived.Test.YtbiehpjhhopjaaaGreatTStateD
import Derived.Test.YtbiehpjhhopjaaaGreatTGripA
import Derived.WideLaws
import Derived.Laws.EntriesVeiled
set_option linter.unusedVariables false
set_option linter.unusedSimpArgs false
set_option maxRecDepth 100000
set_option maxHeartbeats 16000000
namespace Go.Proofs.YtbiehpjhhopjaaaGreat
open Go.RowKit Go.Maps Go.Sort
structure GArr (cs:Array Value) (H A:Nat→Int) (v:Value):Prop where
 size:cs.size=201
 H: ∀q,q<100→cs[q]? =some (.int .i64 (H q))
 A: ∀q,q<100→cs[100+q]? =some (.int .i64 (A q))
 v:cs[200]? =some v
theorem GRow.arr {W:World}{g:Nat}{H A:Nat→Int}{v:Value}(h:GRow W g H A v): ∃cur,jk W g cur 171∧GArr cur H A v:=by
 obtain⟨cur,h1,h2,h3,h4,h5⟩:=h.row;exact⟨cur,h1,h2,h3,h4,h5⟩
theorem GArr.one {cs:Array Value}{H A:Nat→Int}{a:Option Addr}{l c:Nat}(h:GArr cs H A (js a l c)):cs.all (·.oneCell')=true:=by
 rw[Array.all_eq_true];intro i hi;have hs:=h.size
 have h2: ∃u,cs[i]? =some u∧u.oneCell'=true:=by
  by_cases h1:i<100
  ·exact⟨_,h.H i h1,rfl⟩
  ·by_cases h2:i<200
   ·have:=h.A (i-100) (by omega);rw[show 100+(i-100)=i by omega]at this;exact⟨_,this,rfl⟩
   ·have e:i=200:=(by omega);subst e;exact⟨_,h.v,rfl⟩
 obtain⟨u,h3,h4⟩:=h2;rw[Array.getElem?_eq_getElem hi]at h3;rw[Option.some.inj h3];exact h4
theorem zg5 {W:World}{g:Nat}{cur:Array Value}{T:TypeId}{fr:Nat × Nat}(h:W.heap[g]? =some (.cells cur T fr)):W.setRow g cur=W:=by
 have:W.heap.modify g (fun | .cells _ elem frozen=> .cells cur elem frozen | o=>o)=W.heap:=by
  apply Array.ext
  ·simp
  ·intro i h1 h2;rw[Array.getElem_modify];split
   ·rename_i e
    subst e;rw[Array.getElem?_eq_getElem h2]at h;rw[Option.some.inj h]
   ·rfl
 show({W with heap:=_}:World)=W;cases W;simp only[World.mk.injEq,and_true];exact this
theorem zer:(Tryz.prog.info? 171).map (·.size)=some 201:=by kernel_rfl
theorem zu5:Tryz.zeroCells171=(Array.replicate 200 (.int .i64 0)).push (.slice none 0 0):=by kernel_rfl
theorem garr_zero:GArr Tryz.zeroCells171 (fun _=>0) (fun _=>0) (.slice none 0 0):=by
 rw[zu5];refine⟨by simp,fun q hq=> ?_,fun q hq=> ?_,?_⟩
 ·rw[Array.getElem?_push_lt (by simp;omega)];simp
 ·rw[Array.getElem?_push_lt (by simp;omega)];simp
 ·rw[Array.getElem?_push];simp
theorem zi0 {fn:Func}{p q:Tmp}{ty:TypeId}(h:fn.results=#[.cell p ty,.cell q 4]) (tmps:Array Value) (w:World) (g g2:Nat) (cs:Array Value) (b:Bool)
  (hp:tmps.getD p undef= .pointer (some ⟨g,0,none⟩)) (hq:tmps.getD q undef= .pointer (some ⟨g2,0,none⟩)) (hl:(loadVar ty ⟨g,0,none⟩).run Tryz.prog w= .ok (.agg cs) w) (hb:jc w g2 0 (.bool b)):
  (results fn tmps).run Tryz.prog w= .ok (.tuple #[.agg cs,.bool b]) w:=by
 have hp':tmps[p]?.getD undef= .pointer (some ⟨g,0,none⟩):=by simpa using hp
 have hq':tmps[q]?.getD undef= .pointer (some ⟨g2,0,none⟩):=by simpa using hq
 have h4:Sem.run Tryz.prog (loadVar 4 ⟨g2,0,none⟩) w= .ok (.bool b) w:=by simp[go_sem,hb]
 simp[results,h,hp',hq',asAddr,hl,h4]
theorem zu6 {W:World}{g:Nat}{u:Value}{T:TypeId}{fr:Nat × Nat}(h:W.heap[g]? =some (.cells #[u] T fr)):W.setCell ⟨g,0,none⟩ u=W:=by
 have:(W.setCell ⟨g,0,none⟩ u).heap=W.heap:=by
  apply Array.ext
  ·simp[World.setCell]
  ·intro i h1 h2
   have:(W.setCell ⟨g,0,none⟩ u).heap[i]? =W.heap[i]? :=by
    by_cases e:i=g
    ·subst e;simp[World.setCell,Array.getElem?_modify,h]
    ·exact Below.heap_setCell W ⟨g,0,none⟩ u i e
   rw[Array.getElem?_eq_getElem h1,Array.getElem?_eq_getElem h2]at this;exact Option.some.inj this
 show({W with heap:=_}:World)=W;cases W;simp only[World.mk.injEq,and_true];exact this
theorem zky {W:World}{g:Nat}{u v:Value}{T:TypeId}{fr:Nat × Nat}(h:W.heap[g]? =some (.cells #[u] T fr)):jc (W.setCell ⟨g,0,none⟩ v) g 0 v:=(cell_of_row _ _ 0 #[v] T fr (by simp[World.setCell,Array.getElem?_modify,h])).trans rfl
structure R18 (w0:World) (cur:Array Value) (ok:Bool) (f0 f1:Bool) (s82 s83:Value) (W:World):Prop where
 heap:W.heap=w0.heap
 os:W.os=w0.os
 tape:W.tape=w0.tape
 output:W.output=w0.output
 h0:f0=true→s82= .agg cur
 h1:f1=true→s83= .bool ok
theorem zu7 {ops:Array Oper}{i:Nat}{o:Oper}{a:Act}{w:World}{Q:Exit→Act→World→Prop}{K:Act→World→Prop}(h:ops[i]? =some o) (hgd:o.guard=none) (x:Operand) (ho:o.op= .load 171 x)
  (g:Nat) (hx:a.eval x= .pointer (some ⟨g,0,none⟩)) (t:TypeId) (cs:Array Value) (fr:Nat × Nat) (hg:w.heap[g]? =some (.cells cs t fr))
  (hi:(Tryz.prog.info? 171).map (·.size)=some cs.size)
  (hK:K (a.put o.dst (.agg cs)) w):wpOp Tryz.prog ops Q i K a w:=by
 unfold wpOp;rw[h];have hw:Region.wanted o (yielded ops a.tmps)=true:=by simp[Region.wanted,hgd]
 simp only[hw,if_true];exact .inl (wp_load_row 171 x ho g hx t cs fr _ hg Tryz.underlying171 rfl hi hK)
theorem ze3 {ops:Array Oper}{i:Nat}{o:Oper}{a:Act}{w:World}{Q:Exit→Act→World→Prop}{K:Act→World→Prop}(h:ops[i]? =some o) (hgd:o.guard=none) (ty:TypeId) (x y:Operand) (ho:o.op= .store ty x y)
  (g:Nat) (cells:Array Value) (hx:a.eval x= .pointer (some ⟨g,0,none⟩)) (hy:a.eval y= .agg cells)
  (t:TypeId) (old:Array Value) (hg:jk w g old t) (hi:(Tryz.prog.info? ty).map (·.size)=some cells.size)
  (hold:old.size=cells.size) (h1:cells.all (·.oneCell')=true)
  (hK:K (a.put o.dst undef) (w.setRow g cells)):wpOp Tryz.prog ops Q i K a w:=by
 unfold wpOp;rw[h];have hw:Region.wanted o (yielded ops a.tmps)=true:=by simp[Region.wanted,hgd]
 simp only[hw,if_true];exact .inl (wp_store_row ty x y ho g cells hx hy t old hg hi hold h1 hK)
theorem zgn {W:World}{g:Nat}{cur:Array Value}(h:jk W g cur 171) (hs:cur.size=201):(loadVar 171 ⟨g,0,none⟩).run Tryz.prog W= .ok (.agg cur) W:=
 run_loadVar_row W g 171 171 cur (0,0) _ h Tryz.underlying171 rfl (by rw[zer,hs])
def stV (t s l:Value):Value:= .agg #[t,s,l]
def znc (w:World) (p:Pl) (st:St) (e:Ending) (w':World):Prop:=
 jb w w'∧ ∃cs H A a l c b,e= .returned (.tuple #[.agg cs,.bool b])∧GArr cs H A (js a l c)∧((b=false∧ ¬zdi p st)∨(b=true∧zdi p st∧H=(zf4 p st).H∧A=(zf4 p st).A))
theorem zu8 (p:Pl) (st:St) (s q gg rr t sw lk:Value) (w:World) (hp:PlM w s q gg rr p) (hf:p.Fit) (hs:StM w t sw lk st) (hsf:st.fit) (hS:zaj p):
  Calls Tryz.prog 205 #[plV p s q gg rr,stV t sw lk] w (znc w p st):=by
 have HAL:Hid (∀w',jb w w'→Calls Tryz.prog 120 #[plV p s q gg rr] w' (zkr w' p)):=fun w' hb=>zm6 p s q gg rr w' (hp.below hb) hf;have HSO:=hI hS;obtain⟨a1,c1,rfl,k1⟩:=hp.S;obtain⟨a2,c2,rfl,k2⟩:=hp.P;obtain⟨a3,c3,rfl,-⟩:=hp.G;obtain⟨a4,c4,rfl,k4⟩:=hp.R;obtain⟨b1,d1,rfl,m1⟩:=hs.tks;obtain⟨b2,d2,rfl,m2⟩:=hs.sws;obtain⟨b3,d3,rfl,m3⟩:=hs.lks
 have HEQ1:Hid (∀w',jb w w'→Calls Tryz.prog 284 #[js b1 st.tks.length d1,js a1 p.S.length c1,.func (.func 285) #[] #[]] w' (zae w' (decide (zbn zdl st.tks p.S)))):=fun w' hb=>
  zuh 285 #[] zdl b1 a1 d1 c1 st.tks p.S w' (m1.below ze2 hb) (k1.below zbo hb) hsf.1 hf.S zun (fun W i h h' s1 e1 _=>zuq _ _ s1 e1 W)
 have HEQ2:Hid (∀w' g,jb w w'→jc w' g 0 (.func (.func 283) #[] #[])→Calls Tryz.prog 286 #[js b2 st.sws.length d2,js a2 p.P.length c2,.func (.func 287) #[] #[jp g 0]] w' (zae w' (decide (zbn zdh st.sws p.P)))):=fun w' g hb hg=>
  zuj 287 #[jp g 0] zdh b2 a2 d2 c2 st.sws p.P w' (m2.below zc6 hb) (k2.below zct hb) hsf.2.1 hf.P zuo (fun W i h h' hb'=>zur _ _ g W (zac hb' hg))
 have HEQ3:Hid (∀w',jb w w'→Calls Tryz.prog 288 #[js b3 st.lks.length d3,js a4 p.R.length c4,.func (.func 289) #[] #[]] w' (zae w' (decide (zbn zdw st.lks p.R)))):=fun w' hb=>
  zul 289 #[] zdw b3 a4 d3 c4 st.lks p.R w' (m3.below zc7 hb) (k4.below zcv hb) hsf.2.2 hf.R zup (fun W i h h' s1 e1 s2 e2 s3 e3 _=>zut _ _ s1 s2 s3 e1 e2 e3 W (hf.rt i h').1)
 have HSW:Hid (∀w',jb w w'→SlA w' 3 RSw b2 d2 st.sws):=fun w' hb=>m2.below zc6 hb;have HLK:Hid (∀w',jb w w'→SlA w' 4 RLk b3 d3 st.lks):=fun w' hb=>m3.below zc7 hb;have hsw:=hsf.2.1;have hlk:=hsf.2.2;have HST:Hid (zdi p st↔(zbn zdl st.tks p.S∧zbn zdh st.sws p.P∧zbn zdw st.lks p.R)∧(zf4 p st).ok=true):=Iff.rfl;clear hp hf hs hsf hS k1 k2 k4 m1 m2 m3;unfold plV stV at *;go_enter Tryz.func205,Tryz.ntmps205;go_upto_region 2 with fail;generalize hW0:World.alloc _ _=W0;have K0:Hid (jb w W0):=by show Below _ _ _;rw[←hW0];exact(((jal.alloc (by simp) _).alloc (by simp<;>omega) _).alloc (by simp<;>omega) _).alloc (by simp<;>omega) _
 have hz0:W0.heap.size=w.heap.size+5:=by rw[←hW0];simp
 have hbP:jk W0 w.heap.size #[p.ver,p.par,js a1 p.S.length c1,js a2 p.P.length c2,js a3 p.G.length c3,js a4 p.R.length c4] 28:=by
  rw[←hW0];exact(heap_alloc_old _ _ (by simp<;>omega)).trans ((heap_alloc_old _ _ (by simp<;>omega)).trans ((heap_alloc_old _ _ (by simp<;>omega)).trans ((heap_alloc_old _ _ (by simp)).trans (heap_alloc_new _ _))))
 have hbS:jk W0 (w.heap.size+1) #[js b1 st.tks.length d1,js b2 st.sws.length d2,js b3 st.lks.length d3] 33:=by
  rw[←hW0];exact(heap_alloc_old _ _ (by simp<;>omega)).trans ((heap_alloc_old _ _ (by simp<;>omega)).trans ((heap_alloc_old _ _ (by simp)).trans (heap_alloc2_new _ _ _)))
 have hbG:jk W0 (w.heap.size+1+1) Tryz.zeroCells171 171:=by
  rw[←hW0];refine(heap_alloc_old _ _ (by simp<;>omega)).trans ((heap_alloc_old _ _ (by simp)).trans ?_);have:=heap_alloc2_new (w.alloc (.cells #[p.ver,p.par,js a1 p.S.length c1,js a2 p.P.length c2,js a3 p.G.length c3,js a4 p.R.length c4] 28)) (.cells #[js b1 st.tks.length d1,js b2 st.sws.length d2,js b3 st.lks.length d3] 33) (.cells Tryz.zeroCells171 171)
  simpa using this
 have hbR:jk W0 (w.heap.size+1+1+1) #[.bool false] 4:=by
  rw[←hW0];refine(heap_alloc_old _ _ (by simp)).trans ?_;have:=heap_alloc2_new ((w.alloc (.cells #[p.ver,p.par,js a1 p.S.length c1,js a2 p.P.length c2,js a3 p.G.length c3,js a4 p.R.length c4] 28)).alloc (.cells #[js b1 st.tks.length d1,js b2 st.sws.length d2,js b3 st.lks.length d3] 33)) (.cells Tryz.zeroCells171 171) (.cells #[.bool false] 4)
  simpa using this
 have hbF:jk W0 (w.heap.size+1+1+1+1) #[.func (.func 283) #[] #[]] 139:=by
  rw[←hW0];have:=heap_alloc2_new (((w.alloc (.cells #[p.ver,p.par,js a1 p.S.length c1,js a2 p.P.length c2,js a3 p.G.length c3,js a4 p.R.length c4] 28)).alloc (.cells #[js b1 st.tks.length d1,js b2 st.sws.length d2,js b3 st.lks.length d3] 33)).alloc (.cells Tryz.zeroCells171 171)) (.cells #[.bool false] 4) (.cells #[.func (.func 283) #[] #[]] 139)
  simpa using this
 have HG0:Hid (GrM W0 (w.heap.size+1+1+1) (w.heap.size+1+1) ⟨fun _=>0,fun _=>0,false⟩ (.slice none 0 0)):=⟨hbR,⟨Tryz.zeroCells171,hbG,garr_zero.size,garr_zero.H,garr_zero.A,garr_zero.v⟩⟩;have HYP:Hid (∀W' o v,Tw (w.heap.size+1+1+1) (w.heap.size+1+1) W0 W'→#[Value.int .i64 p.ver,p.par,js a1 p.S.length c1,js a2 p.P.length c2,js a3 p.G.length c3,js a4 p.R.length c4][o]? =some v→jc W' w.heap.size o v):=fun W' o v ht h=>(cell_of_row W' _ o _ _ _ ((ht.block _ (by omega) (by omega) (by omega)).trans hbP)).trans h;have HYS:Hid (∀W' o v,Tw (w.heap.size+1+1+1) (w.heap.size+1+1) W0 W'→#[Value.slice b1 st.tks.length d1,js b2 st.sws.length d2,js b3 st.lks.length d3][o]? =some v→jc W' (w.heap.size+1) o v):=fun W' o v ht h=>(cell_of_row W' _ o _ _ _ ((ht.block _ (by omega) (by omega) (by omega)).trans hbS)).trans h;have HYF:Hid (∀W',jb W0 W'→jc W' (w.heap.size+1+1+1+1) 0 (.func (.func 283) #[] #[])):=fun W' hb=>(cell_of_row W' _ 0 _ _ _ ((hb.block _ (by omega)).trans hbF)).trans rfl;clear hW0 hbP hbS hbG hbR hbF;have ss0:=HYS W0 0 _ (Tw.refl _ _ _) rfl;have ss1:=HYS W0 1 _ (Tw.refl _ _ _) rfl;have ss2:=HYS W0 2 _ (Tw.refl _ _ _) rfl;have pp2:=HYP W0 2 _ (Tw.refl _ _ _) rfl;have pp3:=HYP W0 3 _ (Tw.refl _ _ _) rfl;have pp5:=HYP W0 5 _ (Tw.refl _ _ _) rfl;have lz:w.heap.size+1+1+1+1<W0.heap.size:=by omega
 clear hz0;go_wp2_with fail;refine(HEQ1 W0 K0).mono ?_;rintro e w1 ⟨rfl,hb1⟩;have HB1:=hI hb1;have ss0:=zac hb1 ss0;have ss1:=zac hb1 ss1;have ss2:=zac hb1 ss2;have pp2:=zac hb1 pp2;have pp3:=zac hb1 pp3;have pp5:=zac hb1 pp5;have K1:=jh K0 hb1;clear hb1 HEQ1;by_cases q1:zbn zdl st.tks p.S
 ·rw[decide_eq_true q1];have HQ1:=hI q1;clear q1;go_wp2_with fail;refine(HEQ2 w1 _ K1 (HYF _ HB1)).mono ?_;rintro e w2 ⟨rfl,hb2⟩;have HB2:=jh HB1 hb2;have ss0:=zac hb2 ss0;have ss1:=zac hb2 ss1;have ss2:=zac hb2 ss2;have pp2:=zac hb2 pp2;have pp3:=zac hb2 pp3;have pp5:=zac hb2 pp5;have K2:=jh K1 hb2;clear hb2 HEQ2;by_cases q2:zbn zdh st.sws p.P
  ·rw[decide_eq_true q2];have HQ2:=hI q2;clear q2;go_wp2_with fail;refine(HEQ3 w2 K2).mono ?_;rintro e w3 ⟨rfl,hb3⟩;have HB3:=jh HB2 hb3;have K3:=jh K2 hb3;clear hb3 HEQ3;by_cases q3:zbn zdw st.lks p.R
   ·rw[decide_eq_true q3];have HQ3:=hI q3;have HT3:Hid (Tw (w.heap.size+1+1+1) (w.heap.size+1+1) W0 w3):=Tw.of_below HB3;have pp0:=HYP w3 0 _ HT3 rfl;have pp1:=HYP w3 1 _ HT3 rfl;have pp2:=HYP w3 2 _ HT3 rfl;have pp3:=HYP w3 3 _ HT3 rfl;have pp4:=HYP w3 4 _ HT3 rfl;have pp5:=HYP w3 5 _ HT3 rfl;clear q3 ss0 ss1 ss2;go_wp2_with fail;refine(HAL w3 K3).mono ?_;rintro e w4 ⟨hb4,hall⟩;have HB4:=jh HB3 hb4;have K4:=jh K3 hb4;have HT4:Hid (Tw (w.heap.size+1+1+1) (w.heap.size+1+1) W0 w4):=Tw.of_below HB4;clear hb4 HAL pp0 pp1 pp2 pp3 pp4 pp5 HB3;rcases hall with⟨hM,_⟩ | ⟨hM,hWM,_⟩ | ⟨hM,hWM,v1,v2,rfl,hv1,hv2⟩
    ·exact absurd HSO.out.1 hM
    ·exact absurd HSO.out.2.1 hWM
    clear hM hWM hv2;obtain⟨bw,dw,rfl,hwl⟩:=hv1;have HWL:=hI hwl;clear hwl;have gr4:=HG0.below HB4;have l4:w.heap.size+1+1+1+1<w4.heap.size:=Nat.lt_of_lt_of_le lz HB4.size;have x0:jc w4 (w.heap.size+1+1) 200 (.slice none 0 0):=gr4.row.ways;have x1:w4.frozen? ⟨w.heap.size+1+1,200,none⟩=false:=gr4.row.frozen 200;have HG4:=hI gr4;clear gr4;have hmm:= @run_makeMap Tryz.prog;have HI:Hid (GI W0.heap.size W0 w4 (w.heap.size+1+1+1) (w.heap.size+1+1) w4.heap.size (w4.heap.size+1) (js bw p.R.length dw) ⟨fun _=>0,fun _=>0,false⟩ 0 (fun _=>0) (((w4.setCell ⟨w.heap.size+1+1,200,none⟩ (js bw p.R.length dw)).alloc (.map #[] 0)).alloc (.cells #[.map (some w4.heap.size)] 357))):=zu4 HT4 HG4 (by omega);go_upto_region 6 with fail;generalize((w4.setCell ⟨w.heap.size+1+1,200,none⟩ (js bw p.R.length dw)).alloc (.map #[] 0)).alloc (.cells #[.map (some w4.heap.size)] 357)=W5 at *;have hR:w.heap.size+1+1+1<W0.heap.size:=(by omega);have hG:w.heap.size+1+1<W0.heap.size:=(by omega);have hb0:w.heap.size≤w.heap.size+1+1:=(by omega);have hb1:w.heap.size≤w.heap.size+1+1+1:=(by omega);have HKW:Hid (∀W',Tw (w.heap.size+1+1+1) (w.heap.size+1+1) W0 W'→jb w W'):=fun W' ht=>K0.trans (ht.below hb1 hb0 K0.size);have HSF:=hI (zux HSO HQ2);have s1:=HYS W5 1 _ HI.tw rfl;clear x0 x1 l4 hmm HT4 K4 K3 K2 K1 HB4 HG4;go_wp2_with fail;go_loopg [47] st.sws.length (fun g j wr=> ∃k:Nat,k≤st.sws.length∧g=st.sws.length-k∧j= .int .i64 k∧GI W0.heap.size W0 w4 (w.heap.size+1+1+1) (w.heap.size+1+1) w4.heap.size (w4.heap.size+1) (js bw p.R.length dw) ⟨fun _=>0,fun _=>0,false⟩ k (zfn st.sws k) wr)
    case atStart=>exact⟨0,by omega,by omega,rfl,by rw[zuy];exact HI⟩
    case round=>
     obtain⟨k,hk,rfl,rfl,hi⟩:=hrel;obtain⟨wo,rfl⟩: ∃wo:World,wo=wr:=⟨_,rfl⟩;have HIK:=hI hi;have hmc:=hi.mc;have lmc:=World.block_lt_of_cell? _ _ hmc;clear hi s1 HI;by_cases hlt:k<st.sws.length
     ·obtain⟨b,off,rfl,r0,r1,r2⟩:=(HSW _ (HKW _ HIK.tw)).sw hlt;have c0:(0:Int)≤(k:Int):=(by omega);have c1:(k:Int)<(st.sws.length:Int):=(by omega);have HI1:Hid (GI W0.heap.size W0 w4 (w.heap.size+1+1+1) (w.heap.size+1+1) w4.heap.size (w4.heap.size+1) (js bw p.R.length dw) ⟨fun _=>0,fun _=>0,false⟩ k (zfn st.sws k) (wo.alloc (.cells #[st.sws[k].id,st.sws[k].lie,st.sws[k].call] 108))):=HIK.below rfl jal;have hkm:k<maxLen:=by unfold maxLen;omega
      have HW1:Hid ((Lit.int .i64 st.sws[k].id).wf=true):=by
       have:=HSF.at_ k hlt;exact zkv (by omega) (by omega)
      have HW2:Hid ((Lit.int .i64 st.sws[k].call).wf=true):=by
       have:=HSF.at_ k hlt;exact zkv (by omega) (by omega)
      have HCS:=hI (zu0 HSF hlt);obtain⟨D,hown,hD,hat⟩:=HI1.mp;have HOW:=hI hown;have HDM:=hI hD;have HAT:=hI hat;clear hown hD hat;go_wp2_with (at_mapUpdate;refine wpList_mapUpdate_own _ rfl _ _ _ 357 rfl 3 3 zm9 Tryz.underlying357 _ w4.heap.size k D rfl HOW hkm _ _ _ rfl rfl (keyOf_int_mk Tryz.underlying3 HW1) _ [] (plainElem_int Tryz.underlying3 HW2) ?_;intro w1 hown1 hgrow1);have hi2:=HI1.grown rfl hR hG (zu2 HDM HAT hown1) hgrow1;rw[←HCS.out]at hi2;go_roundg (st.sws.length-(k+1))
      case measure=>go_light;omega
      case rel=>go_light;exact⟨k+1,by omega,by omega,by go_num,hi2⟩
     ·obtain rfl:k=st.sws.length:=(by omega);have hdk:decide ((st.sws.length:Int)<(st.sws.length:Int))=false:=(by simp);have hi:=HIK.out;rw[zuz]at hi;have hi2:=hi.setR rfl hR hG (by omega) true;have HI2:Hid (GI W0.heap.size W0 w4 (w.heap.size+1+1+1) (w.heap.size+1+1) w4.heap.size (w4.heap.size+1) (js bw p.R.length dw) (zbr p st 0) st.sws.length (zbz st.sws) (wo.setCell ⟨w.heap.size+1+1+1,0,none⟩ (.bool true))):=hi2;have y0:jc wo (w.heap.size+1+1+1) 0 (.bool false):=jr hi.gr.ok;have y1:wo.frozen? ⟨w.heap.size+1+1+1,0,none⟩=false:=(by simp[World.frozen?,hi.gr.ok]);have s2:=HYS wo 2 _ hi.tw rfl;clear hi hi2 HIK hmc lmc;go_upto_region 12 with fail;generalize wo.setCell ⟨w.heap.size+1+1+1,0,none⟩ (.bool true)=W6 at *;have s2:=HYS W6 2 _ HI2.tw rfl;clear hlt hdk;go_wp2_with fail;go_loopg [60] st.lks.length (fun g j wr=> ∃k:Nat,k≤st.lks.length∧g=st.lks.length-k∧j= .int .i64 k∧GI W0.heap.size W0 w4 (w.heap.size+1+1+1) (w.heap.size+1+1) w4.heap.size (w4.heap.size+1) (js bw p.R.length dw) (zbr p st k) st.sws.length (zbz st.sws) wr)
      case atStart=>exact⟨0,by omega,by omega,rfl,HI2⟩
      case round=>
       obtain⟨k,hk,rfl,rfl,hi⟩:=hrel;obtain⟨wo2,rfl⟩: ∃wo2:World,wo2=wr:=⟨_,rfl⟩;have HIK:=hI hi;clear hi s2 HI2;by_cases hlt:k<st.lks.length
       ·obtain⟨b,off,rfl,r0,r1,r2,r3⟩:=(HLK _ (HKW _ HIK.tw)).lk hlt;have hlp:k<p.R.length:=(by have:=HQ3.1;omega);have c0:(0:Int)≤(k:Int):=(by omega);have c1:(k:Int)<(st.lks.length:Int):=(by omega);have c2:(k:Int)<(p.R.length:Int):=(by omega);go_upto_region 15 with fail;generalize hW7:wo2.alloc _=W7;have hb7:jb wo2 W7:=(by rw[←hW7];exact jal);have hq7:jk W7 wo2.heap.size #[st.lks[k].id,.int .u8 st.lks[k].ph,st.lks[k].gone,st.lks[k].left] 99:=(by rw[←hW7];exact heap_alloc_new _ _);have HI7:=hI (HIK.below rfl hb7);have HQ7:=hI hq7;have gl:W0.heap.size≤wo2.heap.size:=HIK.tw.size;obtain⟨ap,ao,aa,cp,co,ca,hwy⟩:=HWL.wyAt (i:=k) (by rw[List.length_map];exact hlp);rw[List.getElem_map]at hwy;have HWA:=hI hwy;have HFW:=hI (zkx HSO hlp);have HGS:=hI (zu1 p st k hlp hlt);have HGO:Hid (0≤st.lks[k].gone∧st.lks[k].gone<(zao p p.R[k]).A.length):=zuv (HQ3.2 k hlt hlp hlt).2 HFW.p1;generalize zao p p.R[k]=Y at *;obtain⟨t0,t1,t2,t3⟩:=zfv hq7;obtain⟨bb,of,rfl,x0,x1,x2,x3⟩:=(hwy.same HI7.sm).cells;have t4:jc W7 (w.heap.size+1+1) 200 (jq bb of p.R.length dw):=HI7.gr.row.ways;clear hwy hW7 hb7 hq7 r0 r1 r2 r3
        go_still_tail 7,(by kernel_rfl)
        change wpList _ _ _ _ _ W7.drew;generalize hW8:W7.drew=W8;have hb8:jb W7 W8:=(by rw[←hW8];exact(Below.refl _ _).drew);have HI8:=hI (HI7.below rfl hb8);have hq8:=jm hb8 HQ7;have HQ8:=hI hq8
        have HHD:Hid (Calls Tryz.prog 291 #[.agg #[js ap Y.A.length cp,js ao Y.O.length co,js aa Y.asks.length ca,Y.near],.agg #[st.lks[k].id,.int .u8 st.lks[k].ph,st.lks[k].gone,st.lks[k].left],.func (.func 292) #[] #[jp (w.heap.size+1+1+1) 0,jp (w.heap.size+1+1) 0,jp wo2.heap.size 0]] W8 (ziz W8 (w.heap.size+1+1+1) (w.heap.size+1+1) (jq bb of p.R.length dw) (zc4 st.lks[k].id (zc0 Y st.lks[k]) (zbr p st k)))):=by
         have hwy8:=HWA.same HI8.sm;exact zuf _ _ _ (zbr p st k) _ Y st.lks[k] ap ao cp co _ W8 HI8.gr ((cell_of_row W8 _ 0 _ _ _ hq8).trans rfl) (by omega) (by omega) (by omega) hwy8.A hwy8.O HFW.p6 HFW.p1 hwy8.cap HFW.o2 HFW.S HGO
        clear hW8 hb8 hq8 t0 t1 t2 t3 t4 x0 x1 x2 x3;go_wp2_with fail;refine HHD.mono ?_;rintro e w9 ⟨rfl,hg9,ht9⟩;have HI9:=hI (HI8.post rfl hR hG hg9 ht9);have hq9:=(ht9.block _ (zad HQ8) (by omega) (by omega)).trans HQ8;have HQ9:=hI hq9;obtain⟨t0,t1,t2,t3⟩:=zfv hq9;obtain⟨bb',of',ebw,x0,x1,x2,x3⟩:=(HWA.same HI9.sm).cells;cases ebw;have t4:jc w9 (w.heap.size+1+1) 200 (jq bb of p.R.length dw):=HI9.gr.row.ways;generalize hGH:zc4 st.lks[k].id (zc0 Y st.lks[k]) (zbr p st k)=GH at *;clear hGH hg9 ht9 hq9 HHD HQ8 HQ7 HI8 HI7;go_upto_region 16 with fail
        go_still_tail 7,(by kernel_rfl)
        change wpList _ _ _ _ _ w9.drew;generalize hWA:w9.drew=WA;have hbA:jb w9 WA:=(by rw[←hWA];exact(Below.refl _ _).drew);have HIA:=hI (HI9.below rfl hbA)
        have HAK:Hid (Calls Tryz.prog 293 #[.agg #[js ap Y.A.length cp,js ao Y.O.length co,js aa Y.asks.length ca,Y.near],.agg #[st.lks[k].id,.int .u8 st.lks[k].ph,st.lks[k].gone,st.lks[k].left],.func (.func 294) #[] #[jp (w.heap.size+1+1+1) 0,jp (w4.heap.size+1) 0,jp (w.heap.size+1+1) 0]] WA (ziz WA (w.heap.size+1+1+1) (w.heap.size+1+1) (jq bb of p.R.length dw) (zc5 (zbz st.sws) (zc8 Y st.lks[k]) GH))):=by
         have l1:=HIA.lm;exact zue _ _ _ _ _ _ GH _ Y st.lks[k] _ _ aa ca WA HIA.gr HIA.mc HIA.mp HFW.out.asks (by omega) (by omega) (by omega) (fun W' ht=>(HWA.same (HIA.tws ht)).asks) HFW.len
        clear hWA hbA t0 t1 t2 t3 t4 x0 x1 x2 x3 HQ9 HI9;go_wp2_with fail;refine HAK.mono ?_;rintro e wB ⟨rfl,hgB,htB⟩;have hiB:=HIA.post rfl hR hG hgB htB;rw[←HGS.out]at hiB;have HIB:=hI hiB;clear hgB htB hiB HAK HIA;go_wp2_with fail;go_roundg (st.lks.length-(k+1))
        case measure=>go_light;omega
        case rel=>go_light;exact⟨k+1,by omega,by omega,by go_num,HIB⟩
       ·obtain rfl:k=st.lks.length:=(by omega);obtain⟨cur,hc,hga⟩:=HIK.gr.row.arr;have HC:=hI hc;have HGA:=hI hga;have HOKB:=hI HIK.out.gr.ok;have HKF:=hI (HKW _ HIK.tw);clear hc hga;go_upto_region 18 with fail;change Code.wp _ _ _ {tmps:=#[.agg #[p.ver,p.par,js a1 p.S.length c1,js a2 p.P.length c2,js a3 p.G.length c3,js a4 p.R.length c4],.agg #[js b1 st.tks.length d1,js b2 st.sws.length d2,js b3 st.lks.length d3],.pointer (some ⟨w.heap.size,0,none⟩),.pointer (some ⟨w.heap.size+1,0,none⟩),.pointer (some ⟨w.heap.size+1+1,0,none⟩),.pointer (some ⟨w.heap.size+1+1+1,0,none⟩),.pointer (some ⟨w.heap.size+1+1+1+1,0,none⟩),.pointer (some ⟨w4.heap.size+1,0,none⟩),undef,u9,u10,u11,.pointer (some ⟨w.heap.size+1,0,none⟩),.slice b1 st.tks.length d1,.pointer (some ⟨w.heap.size,2,none⟩),.slice a1 p.S.length c1,.bool true,.bool false,.bool false,.pointer (some ⟨w.heap.size+1,1,none⟩),.slice b2 st.sws.length d2,.pointer (some ⟨w.heap.size,3,none⟩),.slice a2 p.P.length c2,.func (.func 287) #[] #[jp (w.heap.size+1+1+1+1) 0],.bool true,.bool false,.bool false,.bool false,.pointer (some ⟨w.heap.size+1,2,none⟩),.slice b3 st.lks.length d3,.pointer (some ⟨w.heap.size,5,none⟩),.slice a4 p.R.length c4,.bool true,.bool false,.bool false,undef,.tuple #[js bw p.R.length dw,v2,.int .i64 0],.agg #[p.ver,p.par,js a1 p.S.length c1,js a2 p.P.length c2,js a3 p.G.length c3,js a4 p.R.length c4],.tuple #[js bw p.R.length dw,v2,.int .i64 0],.slice bw p.R.length dw,v2,.int .i64 0,.pointer (some ⟨w.heap.size+1+1,200,none⟩),.map (some w4.heap.size),.pointer (some ⟨w.heap.size+1,1,none⟩),.slice b2 st.sws.length d2,.int .i64 (st.sws.length:Int),.int .i64 (st.sws.length:Int),.bool false,u49,u50,u51,u52,u53,u54,u55,u56,.pointer (some ⟨w.heap.size+1,2,none⟩),.slice b3 st.lks.length d3,.int .i64 (st.lks.length:Int),.int .i64 (st.lks.length:Int),.bool false,u62,u63,u64,u65,u66,u67,u68,u69,u70,u71,u72,u73,u74,u75,u76,u77,u78,u79,u80,u81,undef,undef],defers:=[]} wo2
        refine zd7 (by kernel_rfl) (by kernel_rfl) (fun f a W9=> ∃s82 s83:Value,a={tmps:=#[.agg #[p.ver,p.par,js a1 p.S.length c1,js a2 p.P.length c2,js a3 p.G.length c3,js a4 p.R.length c4],.agg #[js b1 st.tks.length d1,js b2 st.sws.length d2,js b3 st.lks.length d3],.pointer (some ⟨w.heap.size,0,none⟩),.pointer (some ⟨w.heap.size+1,0,none⟩),.pointer (some ⟨w.heap.size+1+1,0,none⟩),.pointer (some ⟨w.heap.size+1+1+1,0,none⟩),.pointer (some ⟨w.heap.size+1+1+1+1,0,none⟩),.pointer (some ⟨w4.heap.size+1,0,none⟩),undef,u9,u10,u11,.pointer (some ⟨w.heap.size+1,0,none⟩),.slice b1 st.tks.length d1,.pointer (some ⟨w.heap.size,2,none⟩),.slice a1 p.S.length c1,.bool true,.bool false,.bool false,.pointer (some ⟨w.heap.size+1,1,none⟩),.slice b2 st.sws.length d2,.pointer (some ⟨w.heap.size,3,none⟩),.slice a2 p.P.length c2,.func (.func 287) #[] #[jp (w.heap.size+1+1+1+1) 0],.bool true,.bool false,.bool false,.bool false,.pointer (some ⟨w.heap.size+1,2,none⟩),.slice b3 st.lks.length d3,.pointer (some ⟨w.heap.size,5,none⟩),.slice a4 p.R.length c4,.bool true,.bool false,.bool false,undef,.tuple #[js bw p.R.length dw,v2,.int .i64 0],.agg #[p.ver,p.par,js a1 p.S.length c1,js a2 p.P.length c2,js a3 p.G.length c3,js a4 p.R.length c4],.tuple #[js bw p.R.length dw,v2,.int .i64 0],.slice bw p.R.length dw,v2,.int .i64 0,.pointer (some ⟨w.heap.size+1+1,200,none⟩),.map (some w4.heap.size),.pointer (some ⟨w.heap.size+1,1,none⟩),.slice b2 st.sws.length d2,.int .i64 (st.sws.length:Int),.int .i64 (st.sws.length:Int),.bool false,u49,u50,u51,u52,u53,u54,u55,u56,.pointer (some ⟨w.heap.size+1,2,none⟩),.slice b3 st.lks.length d3,.int .i64 (st.lks.length:Int),.int .i64 (st.lks.length:Int),.bool false,u62,u63,u64,u65,u66,u67,u68,u69,u70,u71,u72,u73,u74,u75,u76,u77,u78,u79,u80,u81,s82,s83],defers:=[]}∧R18 wo2 cur (zbr p st st.lks.length).ok (f 0) (f 1) s82 s83 W9) ?_ ?_ ?_
        ·exact⟨_,_,rfl,⟨rfl,rfl,rfl,rfl,by simp,by simp⟩⟩
        ·intro i o ho f a W9 hIv hd hun;obtain⟨s82,s83,rfl,hS⟩:=hIv;have q0:jk W9 (w.heap.size+1+1) cur 171:=(by rw[hS.heap];exact HC);have q1:jk W9 (w.heap.size+1+1+1) #[.bool (zbr p st st.lks.length).ok] 4:=(by rw[hS.heap];exact HOKB);rcases i with _ | _ | _ | _ | i
         ·refine zu7 rfl rfl (.tmp 4) rfl (w.heap.size+1+1) rfl 171 cur (0,0) q0 (by rw[zer,HGA.out.size]) ?_;exact⟨_,_,rfl,{hS with h0:=fun _=>rfl}⟩
         ·simp at ho;subst ho;have cc:jc W9 (w.heap.size+1+1+1) 0 (.bool (zbr p st st.lks.length).ok):=jr q1;simp[wpOp,go_sem,cc];exact .inl ⟨_,_,⟨rfl,rfl⟩,{hS with h1:=fun _=>rfl}⟩
         ·simp at ho;subst ho;obtain rfl:=hS.h0 (hd ⟨0,.data⟩ (by simp) (by rfl));refine ze3 rfl rfl 171 (.tmp 4) (.tmp 82) rfl (w.heap.size+1+1) cur rfl rfl 171 cur q0 (by rw[zer,HGA.out.size]) rfl HGA.one ?_;rw[zg5 q0];exact⟨_,_,rfl,{hS with h0:=hS.h0}⟩
         ·simp at ho;subst ho;obtain rfl:=hS.h1 (hd ⟨1,.data⟩ (by simp) (by rfl));have cc:W9.frozen? ⟨w.heap.size+1+1+1,0,none⟩=false:=(by simp[World.frozen?,q1]);have cd:jc W9 (w.heap.size+1+1+1) 0 (.bool (zbr p st st.lks.length).ok):=jr q1;simp[wpOp,go_sem,cc,cd];have hself:W9.setCell ⟨w.heap.size+1+1+1,0,none⟩ (.bool (zbr p st st.lks.length).ok)=W9:=zu6 q1;rw[hself];exact .inl ⟨_,_,⟨rfl,rfl⟩,{hS with h1:=hS.h1}⟩
         ·simp at ho
        ·intro f a W9 hIv hall;obtain⟨s82,s83,rfl,hS⟩:=hIv;have hB9:jb wo2 W9:=⟨hS.os,hS.tape,hS.output,by rw[hS.heap];exact Nat.le_refl _,fun k _=>by rw[hS.heap]⟩;have q0:jk W9 (w.heap.size+1+1) cur 171:=(by rw[hS.heap];exact HC);have q1:jc W9 (w.heap.size+1+1+1) 0 (.bool (zbr p st st.lks.length).ok):=jr (by rw[hS.heap];exact HOKB);go_wp2_with fail;refine bodyPost_ret (v:= .tuple #[.agg cur,.bool (zbr p st st.lks.length).ok]) (zi0 rfl _ _ (w.heap.size+1+1) (w.heap.size+1+1+1) cur _ rfl rfl (zgn q0 HGA.size) q1) rfl ⟨jo HKF hB9,cur,_,_,_,_,_,_,rfl,HGA,?_⟩;cases hok:(zbr p st st.lks.length).ok with
         | true=>exact .inr ⟨rfl,HST.2 ⟨⟨HQ1,HQ2,HQ3⟩,hok⟩,rfl,rfl⟩
         | false=>exact .inl ⟨rfl,fun h=>by have:=(HST.1 h).2;unfold zf4 at this;rw[hok]at this;cases this⟩
   ·rw[decide_eq_false q3];have HNO:Hid (¬zdi p st):=fun h=>q3 (HST.1 h).1.2.2;obtain⟨WX,rfl⟩: ∃WX,WX=w3:=⟨_,rfl⟩;have HBX:=HB3;clear q3 ss0 ss1 ss2 pp2 pp3 pp5;go_upto_region 3 with fail;have hb01:jb W0 WX:=HBX.out;have hgr:=HG0.below hb01;obtain⟨cur,hc,hga⟩:=hgr.row.arr;have HC:=hI hc;have HGA:=hI hga;have HOKB:=hI hgr.ok;have y0:jc WX (w.heap.size+1+1+1) 0 (.bool false):=jr hgr.ok;have y1:WX.frozen? ⟨w.heap.size+1+1+1,0,none⟩=false:=(by simp[World.frozen?,hgr.ok]);have KX:=jh K0 HBX;clear hb01 hgr hc hga;go_step;refine wpList_load_row rfl 171 (.tmp 4) rfl (w.heap.size+1+1) rfl 171 cur (0,0) _ HC Tryz.underlying171 rfl (by rw[zer,HGA.out.size]) ?_;simp[Act.put];refine zbh rfl 171 (.tmp 4) (.tmp 35) rfl (w.heap.size+1+1) cur cur 171 rfl rfl HC (by rw[zer,HGA.out.size]) rfl HGA.one ?_;rw[zg5 HC.out];go_wp2_with fail;refine bodyPost_ret (v:= .tuple #[.agg cur,.bool false]) (zi0 rfl _ _ (w.heap.size+1+1) (w.heap.size+1+1+1) cur false rfl rfl (zgn ((Below.heap_setCell _ _ _ _ (by simp)).trans HC) HGA.size) (zky HOKB)) rfl ⟨KX.setCell (by show w.heap.size≤w.heap.size+1+1+1;omega) _,cur,_,_,_,_,_,false,rfl,HGA,.inl ⟨rfl,HNO⟩⟩
  ·rw[decide_eq_false q2];have HNO:Hid (¬zdi p st):=fun h=>q2 (HST.1 h).1.2.1;obtain⟨WX,rfl⟩: ∃WX,WX=w2:=⟨_,rfl⟩;have HBX:=HB2;clear q2 ss0 ss1 ss2 pp2 pp3 pp5;go_upto_region 3 with fail;have hb01:jb W0 WX:=HBX.out;have hgr:=HG0.below hb01;obtain⟨cur,hc,hga⟩:=hgr.row.arr;have HC:=hI hc;have HGA:=hI hga;have HOKB:=hI hgr.ok;have y0:jc WX (w.heap.size+1+1+1) 0 (.bool false):=jr hgr.ok;have y1:WX.frozen? ⟨w.heap.size+1+1+1,0,none⟩=false:=(by simp[World.frozen?,hgr.ok]);have KX:=jh K0 HBX;clear hb01 hgr hc hga;go_step;refine wpList_load_row rfl 171 (.tmp 4) rfl (w.heap.size+1+1) rfl 171 cur (0,0) _ HC Tryz.underlying171 rfl (by rw[zer,HGA.out.size]) ?_;simp[Act.put];refine zbh rfl 171 (.tmp 4) (.tmp 35) rfl (w.heap.size+1+1) cur cur 171 rfl rfl HC (by rw[zer,HGA.out.size]) rfl HGA.one ?_;rw[zg5 HC.out];go_wp2_with fail;refine bodyPost_ret (v:= .tuple #[.agg cur,.bool false]) (zi0 rfl _ _ (w.heap.size+1+1) (w.heap.size+1+1+1) cur false rfl rfl (zgn ((Below.heap_setCell _ _ _ _ (by simp)).trans HC) HGA.size) (zky HOKB)) rfl ⟨KX.setCell (by show w.heap.size≤w.heap.size+1+1+1;omega) _,cur,_,_,_,_,_,false,rfl,HGA,.inl ⟨rfl,HNO⟩⟩
 ·rw[decide_eq_false q1];have HNO:Hid (¬zdi p st):=fun h=>q1 (HST.1 h).1.1;obtain⟨WX,rfl⟩: ∃WX,WX=w1:=⟨_,rfl⟩;have HBX:=HB1;clear q1 ss0 ss1 ss2 pp2 pp3 pp5;go_upto_region 3 with fail;have hb01:jb W0 WX:=HBX.out;have hgr:=HG0.below hb01;obtain⟨cur,hc,hga⟩:=hgr.row.arr;have HC:=hI hc;have HGA:=hI hga;have HOKB:=hI hgr.ok;have y0:jc WX (w.heap.size+1+1+1) 0 (.bool false):=jr hgr.ok;have y1:WX.frozen? ⟨w.heap.size+1+1+1,0,none⟩=false:=by simp[World.frozen?,hgr.ok]
  have KX:=jh K0 HBX;clear hb01 hgr hc hga;go_step;refine wpList_load_row rfl 171 (.tmp 4) rfl (w.heap.size+1+1) rfl 171 cur (0,0) _ HC Tryz.underlying171 rfl (by rw[zer,HGA.out.size]) ?_;simp[Act.put];refine zbh rfl 171 (.tmp 4) (.tmp 35) rfl (w.heap.size+1+1) cur cur 171 rfl rfl HC (by rw[zer,HGA.out.size]) rfl HGA.one ?_;rw[zg5 HC.out];go_wp2_with fail;refine bodyPost_ret (v:= .tuple #[.agg cur,.bool false]) (zi0 rfl _ _ (w.heap.size+1+1) (w.heap.size+1+1+1) cur false rfl rfl (zgn ((Below.heap_setCell _ _ _ _ (by simp)).trans HC) HGA.size) (zky HOKB)) rfl ⟨KX.setCell (by show w.heap.size≤w.heap.size+1+1+1;omega) _,cur,_,_,_,_,_,false,rfl,HGA,.inl ⟨rfl,HNO⟩⟩
end Go.Proofs.YtbiehpjhhopjaaaGreat
