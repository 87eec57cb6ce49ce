/-
 slices.Clone of tracks,switches and locks,walked.
-/
import Derived.Test.YtbiehpjhhopjaaaGreatTAtA
import Derived.Test.YtbiehpjhhopjaaaGreatTConcat
import Derived.Lib.SliceRun
import Derived.Test.YtbiehpjhhopjaaaGreatTPlanA
import Derived.Test.YtbiehpjhhopjaaaGreatTData
import Derived.Test.YtbiehpjhhopjaaaGreatTIxfn
import Derived.Test.YtbiehpjhhopjaaaGreatTTrackC
import Derived.Maps.OwnOps
import Derived.Maps.Views
import Derived.Deep.LoopGhost
import Derived.Deep.Light
import Derived.StillTailTactics
set_option linter.unusedVariables false
set_option linter.unusedSimpArgs false
set_option maxRecDepth 100000
set_option maxHeartbeats 16000000
namespace Go.Proofs.YtbiehpjhhopjaaaGreat
open Go.RowKit
theorem zgl {α:Type}{w:World}{sz:Nat}{R:World→List Value→α→Prop}{b off cap:Nat}{l:List α}{f:α→List Value}(h:SlA w sz R (some ⟨b,off,none⟩) cap l) (hf: ∀x∈l,(f x).length=sz) (hR: ∀vs x,R w vs x→vs=f x) (hz:0<sz):
  ∀j u,(l.flatMap f)[j]? =some u→jc w b (off+j) u:=by
 intro j u hj;have hlen:=zcc f sz l hf;have hjl:j<l.length * sz:=by rw[←hlen];exact(List.getElem?_eq_some_iff.1 hj).1
 have hi:j / sz<l.length:=Nat.div_lt_of_lt_mul (by rw[Nat.mul_comm];exact hjl);have hr:j % sz<sz:=Nat.mod_lt _ hz;have hje:j / sz * sz+j % sz=j:=Nat.div_add_mod' j sz;rw[←hje,zdm f sz l (j / sz) (j % sz) hi hf hr]at hj;obtain⟨b',off',vs,e,hl,hc,hr2⟩:=h.at_ (j / sz) hi;cases e;obtain rfl:=hR vs _ hr2;have h1:=hc (j % sz) (by rw[hl];exact hr);rw[List.getElem?_eq_getElem (by rw[hl];exact hr)]at hj;rw[show off+j=off+j / sz * sz+j % sz by rw[Nat.add_assoc,hje],h1];exact hj
theorem zt6 (a:Option Addr) (cap:Nat) (l:List Tk) (w:World) (hl:SlA w 2 RTk a cap l) (hm:l.length≤1000):
  Calls Tryz.prog 135 #[js a l.length cap] w fun e w'=> ∃v,e= .returned v∧w'.ownsRow w.heap.size 106 2 v l.length (l.flatMap tkC)∧jb w w':=by
 have q: ∀(w:World) (a:Option Addr) (n c n' c':Nat),(binOp .eql 29 (js a n c) (.slice none n' c')).run Tryz.prog w= .ok (.bool a.isNone) w:=fun w a n c n' c'=>Go.Lib.run_eql_slice_nil w _ _ a n c n' c' Tryz.underlying29;obtain⟨i0,hi,hz0,hz1,hz2⟩:=info_parts ziw;cases a with
 | none=>
  have h0:l=[]:=by
   cases l with
   | nil=>rfl
   | cons c l=>obtain⟨b,off,vs,e,_⟩:=hl.at_ 0 (by simp);cases e
  subst h0;go_enter Tryz.func135,Tryz.ntmps135;go_wp2_with fail;go_ret;exact⟨_,rfl,World.ownsRow_nil _ _ _ _,Below.refl _ _⟩
 | some ad=>
  by_cases h0:l=[]
  ·subst h0;go_enter Tryz.func135,Tryz.ntmps135;go_wp2_with fail;go_ret;exact⟨_,rfl,World.ownsRow_made w #[] 0 (Nat.le_refl _) (Nat.zero_le _) (by simp),jal⟩
  ·obtain⟨b,off,vs0,e,-⟩:=hl.at_ 0 (List.length_pos_iff.2 h0);cases e;have HR:=hI (zgl (f:=tkC) hl (fun _ _=>rfl) (fun _ _ h=>h) (by decide));have HN:Hid ((l.flatMap tkC).length=l.length * 2):=zcc _ 2 l (fun _ _=>rfl)
   have H1:Hid (∀u∈l.flatMap tkC,u.oneCell'=true):=by
    intro u hu;obtain⟨x,-,hx⟩:=List.mem_flatMap.1 hu;exact zks x u hx
   have HL:Hid (∀(v:Value) (W:World),W.ownsRow w.heap.size 106 2 v (0+l.length) ([]++l.flatMap tkC)→W.ownsRow w.heap.size 106 2 v l.length (l.flatMap tkC)):=fun v W h=>by rw[Nat.zero_add]at h;exact h
   generalize hq:l.flatMap tkC=news at *
   have HC:Hid (∀j u,news[j]? =some u→(w.alloc (.cells #[] 106)).cell? ((⟨b,off,none⟩:Addr).add j)=some u):=fun j u hj=>by
    rw[Addr.add_lit];exact(((Below.refl w.heap.size w).alloc (Nat.le_refl _) _).cell (p:=⟨b,off+j,none⟩) (block_lt_of_cell (HR j u hj))).trans (HR j u hj)
   clear hl h0 hq;go_enter Tryz.func135,Tryz.ntmps135;go_wp2_with (at_builtin;refine wpList_append_own_at _ rfl _ _ 29 rfl w.heap.size 106 i0 (.agg #[.int .i64 0,.int .u8 0]) 2 16 Tryz.underlying29 hi hz0 hz1 hz2 rfl (by decide) _ _ _ rfl (World.ownsRow_made w #[] 0 (Nat.le_refl _) (Nat.zero_le _) (by simp)) ⟨b,off,none⟩ l.length cap news rfl HN HC H1 (by unfold maxLen;omega) (by omega) (by simp) ?_;intro v' w' hown hgr hnil hat);have hgr:(w.alloc (.cells #[] 106)).grownBy w' (some w.heap.size):=hgr;go_ret;exact⟨_,rfl,HL _ _ hown,(((Below.refl _ w).alloc (Nat.le_refl _) _).grown hgr (by simp) (by intro k hk;cases hk;exact Nat.le_refl _))⟩
theorem zt7 (a:Option Addr) (cap:Nat) (l:List Sw) (w:World) (hl:SlA w 3 RSw a cap l) (hm:l.length≤1000):
  Calls Tryz.prog 136 #[js a l.length cap] w fun e w'=> ∃v,e= .returned v∧w'.ownsRow w.heap.size 108 3 v l.length (l.flatMap swC)∧jb w w':=by
 have q: ∀(w:World) (a:Option Addr) (n c n' c':Nat),(binOp .eql 30 (js a n c) (.slice none n' c')).run Tryz.prog w= .ok (.bool a.isNone) w:=fun w a n c n' c'=>Go.Lib.run_eql_slice_nil w _ _ a n c n' c' Tryz.underlying30;obtain⟨i0,hi,hz0,hz1,hz2⟩:=info_parts zix;cases a with
 | none=>
  have h0:l=[]:=by
   cases l with
   | nil=>rfl
   | cons c l=>obtain⟨b,off,vs,e,_⟩:=hl.at_ 0 (by simp);cases e
  subst h0;go_enter Tryz.func136,Tryz.ntmps136;go_wp2_with fail;go_ret;exact⟨_,rfl,World.ownsRow_nil _ _ _ _,Below.refl _ _⟩
 | some ad=>
  by_cases h0:l=[]
  ·subst h0;go_enter Tryz.func136,Tryz.ntmps136;go_wp2_with fail;go_ret;exact⟨_,rfl,World.ownsRow_made w #[] 0 (Nat.le_refl _) (Nat.zero_le _) (by simp),jal⟩
  ·obtain⟨b,off,vs0,e,-⟩:=hl.at_ 0 (List.length_pos_iff.2 h0);cases e;have HR:=hI (zgl (f:=swC) hl (fun _ _=>rfl) (fun _ _ h=>h) (by decide));have HN:Hid ((l.flatMap swC).length=l.length * 3):=zcc _ 3 l (fun _ _=>rfl)
   have H1:Hid (∀u∈l.flatMap swC,u.oneCell'=true):=by
    intro u hu;obtain⟨x,-,hx⟩:=List.mem_flatMap.1 hu;exact zkt x u hx
   have HL:Hid (∀(v:Value) (W:World),W.ownsRow w.heap.size 108 3 v (0+l.length) ([]++l.flatMap swC)→W.ownsRow w.heap.size 108 3 v l.length (l.flatMap swC)):=fun v W h=>by rw[Nat.zero_add]at h;exact h
   generalize hq:l.flatMap swC=news at *
   have HC:Hid (∀j u,news[j]? =some u→(w.alloc (.cells #[] 108)).cell? ((⟨b,off,none⟩:Addr).add j)=some u):=fun j u hj=>by
    rw[Addr.add_lit];exact(((Below.refl w.heap.size w).alloc (Nat.le_refl _) _).cell (p:=⟨b,off+j,none⟩) (block_lt_of_cell (HR j u hj))).trans (HR j u hj)
   clear hl h0 hq;go_enter Tryz.func136,Tryz.ntmps136;go_wp2_with (at_builtin;refine wpList_append_own_at _ rfl _ _ 30 rfl w.heap.size 108 i0 (.agg #[.int .i64 0,.int .i64 0,.int .i64 0]) 3 24 Tryz.underlying30 hi hz0 hz1 hz2 rfl (by decide) _ _ _ rfl (World.ownsRow_made w #[] 0 (Nat.le_refl _) (Nat.zero_le _) (by simp)) ⟨b,off,none⟩ l.length cap news rfl HN HC H1 (by unfold maxLen;omega) (by omega) (by simp) ?_;intro v' w' hown hgr hnil hat);have hgr:(w.alloc (.cells #[] 108)).grownBy w' (some w.heap.size):=hgr;go_ret;exact⟨_,rfl,HL _ _ hown,(((Below.refl _ w).alloc (Nat.le_refl _) _).grown hgr (by simp) (by intro k hk;cases hk;exact Nat.le_refl _))⟩
theorem zt8 (a:Option Addr) (cap:Nat) (l:List Lk) (w:World) (hl:SlA w 4 RLk a cap l) (hm:l.length≤1000):
  Calls Tryz.prog 137 #[js a l.length cap] w fun e w'=> ∃v,e= .returned v∧w'.ownsRow w.heap.size 99 4 v l.length (l.flatMap lkC)∧jb w w':=by
 have q: ∀(w:World) (a:Option Addr) (n c n' c':Nat),(binOp .eql 31 (js a n c) (.slice none n' c')).run Tryz.prog w= .ok (.bool a.isNone) w:=fun w a n c n' c'=>Go.Lib.run_eql_slice_nil w _ _ a n c n' c' Tryz.underlying31;obtain⟨i0,hi,hz0,hz1,hz2⟩:=info_parts ziy;cases a with
 | none=>
  have h0:l=[]:=by
   cases l with
   | nil=>rfl
   | cons c l=>obtain⟨b,off,vs,e,_⟩:=hl.at_ 0 (by simp);cases e
  subst h0;go_enter Tryz.func137,Tryz.ntmps137;go_wp2_with fail;go_ret;exact⟨_,rfl,World.ownsRow_nil _ _ _ _,Below.refl _ _⟩
 | some ad=>
  by_cases h0:l=[]
  ·subst h0;go_enter Tryz.func137,Tryz.ntmps137;go_wp2_with fail;go_ret;exact⟨_,rfl,World.ownsRow_made w #[] 0 (Nat.le_refl _) (Nat.zero_le _) (by simp),jal⟩
  ·obtain⟨b,off,vs0,e,-⟩:=hl.at_ 0 (List.length_pos_iff.2 h0);cases e;have HR:=hI (zgl (f:=lkC) hl (fun _ _=>rfl) (fun _ _ h=>h) (by decide));have HN:Hid ((l.flatMap lkC).length=l.length * 4):=zcc _ 4 l (fun _ _=>rfl)
   have H1:Hid (∀u∈l.flatMap lkC,u.oneCell'=true):=by
    intro u hu;obtain⟨x,-,hx⟩:=List.mem_flatMap.1 hu;exact zku x u hx
   have HL:Hid (∀(v:Value) (W:World),W.ownsRow w.heap.size 99 4 v (0+l.length) ([]++l.flatMap lkC)→W.ownsRow w.heap.size 99 4 v l.length (l.flatMap lkC)):=fun v W h=>by rw[Nat.zero_add]at h;exact h
   generalize hq:l.flatMap lkC=news at *
   have HC:Hid (∀j u,news[j]? =some u→(w.alloc (.cells #[] 99)).cell? ((⟨b,off,none⟩:Addr).add j)=some u):=fun j u hj=>by
    rw[Addr.add_lit];exact(((Below.refl w.heap.size w).alloc (Nat.le_refl _) _).cell (p:=⟨b,off+j,none⟩) (block_lt_of_cell (HR j u hj))).trans (HR j u hj)
   clear hl h0 hq;go_enter Tryz.func137,Tryz.ntmps137;go_wp2_with (at_builtin;refine wpList_append_own_at _ rfl _ _ 31 rfl w.heap.size 99 i0 (.agg #[.int .i64 0,.int .u8 0,.int .i64 0,.int .i64 0]) 4 32 Tryz.underlying31 hi hz0 hz1 hz2 rfl (by decide) _ _ _ rfl (World.ownsRow_made w #[] 0 (Nat.le_refl _) (Nat.zero_le _) (by simp)) ⟨b,off,none⟩ l.length cap news rfl HN HC H1 (by unfold maxLen;omega) (by omega) (by simp) ?_;intro v' w' hown hgr hnil hat);have hgr:(w.alloc (.cells #[] 99)).grownBy w' (some w.heap.size):=hgr;go_ret;exact⟨_,rfl,HL _ _ hown,(((Below.refl _ w).alloc (Nat.le_refl _) _).grown hgr (by simp) (by intro k hk;cases hk;exact Nat.le_refl _))⟩
structure RT (B:Nat) (w0:World) (st:St) (gx gr:Nat) (v0 v1 v2:Value) (f0 f1 f2 f3 f4 f5 f6 f7 f8 f9 f10:Bool) (s0 s1 s2 s3 s4 s5 s6 s7 s8 s9:Value) (W:World):Prop where
 bel:Below B w0 W
 hl:gr+1≤W.heap.size
 hx:jk W gx #[v0,v1,v2] 33
 hz:f10=false→jk W gr #[.slice none 0 0,.slice none 0 0,.slice none 0 0] 33
 h0:f0=true→s0= .pointer (some ⟨gx,0,none⟩)
 h1:f1=true→s1=v0
 h2:f2=true→ ∃a c,s2= .slice a st.tks.length c∧W.ownsRow (gr+1) 106 2 (js a st.tks.length c) st.tks.length (st.tks.flatMap tkC)
 h3:f3=true→s3= .pointer (some ⟨gx,1,none⟩)
 h4:f4=true→s4=v1
 h5:f5=true→ ∃a c,s5= .slice a st.sws.length c∧W.ownsRow (gr+1) 108 3 (js a st.sws.length c) st.sws.length (st.sws.flatMap swC)
 h6:f6=true→s6= .pointer (some ⟨gx,2,none⟩)
 h7:f7=true→s7=v2
 h8:f8=true→ ∃a c,s8= .slice a st.lks.length c∧W.ownsRow (gr+1) 99 4 (js a st.lks.length c) st.lks.length (st.lks.flatMap lkC)
 h9:f9=true→ ∃a1 c1 a2 c2 a3 c3,s9= .agg #[js a1 st.tks.length c1,js a2 st.sws.length c2,js a3 st.lks.length c3]∧StOwn W (gr+1) (js a1 st.tks.length c1) (js a2 st.sws.length c2) (js a3 st.lks.length c3) st
 h10:f10=true→ ∃a1 c1 a2 c2 a3 c3,jk W gr #[js a1 st.tks.length c1,js a2 st.sws.length c2,js a3 st.lks.length c3] 33∧StOwn W (gr+1) (js a1 st.tks.length c1) (js a2 st.sws.length c2) (js a3 st.lks.length c3) st
theorem RT.below {B:Nat}{w0:World}{st:St}{gx gr:Nat}{v0 v1 v2:Value}{f0 f1 f2 f3 f4 f5 f6 f7 f8 f9 f10:Bool}{s0 s1 s2 s3 s4 s5 s6 s7 s8 s9:Value}{W W':World}(h:RT B w0 st gx gr v0 v1 v2 f0 f1 f2 f3 f4 f5 f6 f7 f8 f9 f10 s0 s1 s2 s3 s4 s5 s6 s7 s8 s9 W) (hb:jb W W') (hB:B≤W.heap.size):RT B w0 st gx gr v0 v1 v2 f0 f1 f2 f3 f4 f5 f6 f7 f8 f9 f10 s0 s1 s2 s3 s4 s5 s6 s7 s8 s9 W':=
 {h with
  bel:=h.bel.trans (hb.mono hB)
  hl:=Nat.le_trans h.hl hb.size
  hx:=jm hb h.hx
  hz:=fun k=>(hb.block _ (zad (h.hz k))).trans (h.hz k)
  h2:=fun k=>by
   obtain⟨a,c,e,ho⟩:=h.h2 k;exact⟨a,c,e,zau ho hb⟩
  h5:=fun k=>by
   obtain⟨a,c,e,ho⟩:=h.h5 k;exact⟨a,c,e,zau ho hb⟩
  h8:=fun k=>by
   obtain⟨a,c,e,ho⟩:=h.h8 k;exact⟨a,c,e,zau ho hb⟩
  h9:=fun k=>by
   obtain⟨a1,c1,a2,c2,a3,c3,e,ho⟩:=h.h9 k;exact⟨a1,c1,a2,c2,a3,c3,e,ho.below hb⟩
  h10:=fun k=>by
   obtain⟨a1,c1,a2,c2,a3,c3,e,ho⟩:=h.h10 k
   exact⟨a1,c1,a2,c2,a3,c3,(jm hb e),ho.below hb⟩}
theorem zm8 (st:St) (t sw lk:Value) (w:World) (hs:StM w t sw lk st) (hsf:st.fit):
  Calls Tryz.prog 67 #[.agg #[t,sw,lk]] w fun e w'=> ∃a1 c1 a2 c2 a3 c3,e= .returned (.agg #[js a1 st.tks.length c1,js a2 st.sws.length c2,js a3 st.lks.length c3])∧StOwn w' w.heap.size (js a1 st.tks.length c1) (js a2 st.sws.length c2) (js a3 st.lks.length c3) st∧jb w w':=by
 have HS:Hid (∀W,jb w W→StM W t sw lk st):=fun W hb=>hs.below hb;have HF:=hI hsf;obtain⟨b1,d1,rfl,-⟩:=hs.tks;obtain⟨b2,d2,rfl,-⟩:=hs.sws;obtain⟨b3,d3,rfl,-⟩:=hs.lks
 have HC0:Hid (∀W,jb w W→Calls Tryz.prog 135 #[js b1 st.tks.length d1] W fun e w'=> ∃v,e= .returned v∧w'.ownsRow W.heap.size 106 2 v st.tks.length (st.tks.flatMap tkC)∧jb W w'):=fun W hb=>by
  obtain⟨a,c,e,h⟩:=(HS W hb).tks;cases e;exact zt6 _ _ _ W h HF.1
 have HC1:Hid (∀W,jb w W→Calls Tryz.prog 136 #[js b2 st.sws.length d2] W fun e w'=> ∃v,e= .returned v∧w'.ownsRow W.heap.size 108 3 v st.sws.length (st.sws.flatMap swC)∧jb W w'):=fun W hb=>by
  obtain⟨a,c,e,h⟩:=(HS W hb).sws;cases e;exact zt7 _ _ _ W h HF.2.1
 have HC2:Hid (∀W,jb w W→Calls Tryz.prog 137 #[js b3 st.lks.length d3] W fun e w'=> ∃v,e= .returned v∧w'.ownsRow W.heap.size 99 4 v st.lks.length (st.lks.flatMap lkC)∧jb W w'):=fun W hb=>by
  obtain⟨a,c,e,h⟩:=(HS W hb).lks;cases e;exact zt8 _ _ _ W h HF.2.2
 clear hs hsf HS HF;go_enter Tryz.func67,Tryz.ntmps67;go_upto_region 1 with fail;generalize hW0:World.alloc _ _=W0;have K0:Hid (jb w W0):=by show Below _ _ _;rw[←hW0];exact jal.alloc (by simp) _
 have HX0:Hid (jk W0 w.heap.size #[js b1 st.tks.length d1,js b2 st.sws.length d2,js b3 st.lks.length d3] 33):=by show _=_;rw[←hW0];exact(heap_alloc_old _ _ (by simp)).trans (heap_alloc_new _ _)
 have HZ0:Hid (jk W0 (w.heap.size+1) #[.slice none 0 0,.slice none 0 0,.slice none 0 0] 33):=by show _=_;rw[←hW0];exact heap_alloc2_new _ _ _
 clear hW0;refine zd7 (by kernel_rfl) (by kernel_rfl) (fun f a W9=> ∃s3 s4 s5 s6 s7 s8 s9 s10 s11 s12:Value,a={tmps:=#[.agg #[js b1 st.tks.length d1,js b2 st.sws.length d2,js b3 st.lks.length d3],jp w.heap.size 0,jp (w.heap.size+1) 0,s3,s4,s5,s6,s7,s8,s9,s10,s11,s12],defers:=[]}∧RT w.heap.size w st w.heap.size (w.heap.size+1) (js b1 st.tks.length d1) (js b2 st.sws.length d2) (js b3 st.lks.length d3) (f 0) (f 1) (f 2) (f 3) (f 4) (f 5) (f 6) (f 7) (f 8) (f 9) (f 10) s3 s4 s5 s6 s7 s8 s9 s10 s11 s12 W9) ?_ ?_ ?_
 ·exact⟨_,_,_,_,_,_,_,_,_,_,rfl,{bel:=⟨K0.os,K0.tape,K0.output,K0.size,K0.block⟩,hl:=zad HZ0,hx:=HX0,hz:=fun _=>HZ0,h0:=by simp,h1:=by simp,h2:=by simp,h3:=by simp,h4:=by simp,h5:=by simp,h6:=by simp,h7:=by simp,h8:=by simp,h9:=by simp,h10:=by simp}⟩
 ·intro i o ho f a W9 hIv hd hun;obtain⟨s3,s4,s5,s6,s7,s8,s9,s10,s11,s12,rfl,hS⟩:=hIv;have hB:=hS.bel.size;rcases i with _ | _ | _ | _ | _ | _ | _ | _ | _ | _ | _ | i
  ·simp at ho;subst ho;simp[wpOp,go_sem];exact .inl ⟨_,_,_,_,_,_,_,_,_,_,⟨rfl,rfl,rfl,rfl,rfl,rfl,rfl,rfl,rfl,rfl⟩,{hS with h0:=fun _=>rfl}⟩
  ·simp at ho;subst ho;obtain rfl:=hS.h0 (hd ⟨0,.data⟩ (by simp) (by rfl));have cc:jc W9 w.heap.size 0 (js b1 st.tks.length d1):=jr hS.hx;simp[wpOp,go_sem,cc];exact .inl ⟨_,_,_,_,_,_,_,_,_,_,⟨rfl,rfl,rfl,rfl,rfl,rfl,rfl,rfl,rfl,rfl⟩,{hS with h1:=fun _=>rfl}⟩
  ·simp at ho;subst ho;obtain rfl:=hS.h1 (hd ⟨1,.data⟩ (by simp) (by rfl));have hc:=HC0 W9 hS.bel;have hgr:w.heap.size+1+1≤W9.heap.size:=hS.hl;simp[wpOp,go_sem];refine .inl (hc.mono ?_);rintro e w' ⟨v,rfl,hown,hb⟩;obtain⟨a',c',rfl⟩:=zeq hown;simp[go_sem];exact⟨_,_,_,_,_,_,_,_,_,_,⟨rfl,rfl,rfl,rfl,rfl,rfl,rfl,rfl,rfl,rfl⟩,{RT.below hS hb hB with h2:=fun _=>⟨_,_,rfl,zav hown hgr⟩}⟩
  ·simp at ho;subst ho;simp[wpOp,go_sem];exact .inl ⟨_,_,_,_,_,_,_,_,_,_,⟨rfl,rfl,rfl,rfl,rfl,rfl,rfl,rfl,rfl,rfl⟩,{hS with h3:=fun _=>rfl}⟩
  ·simp at ho;subst ho;obtain rfl:=hS.h3 (hd ⟨3,.data⟩ (by simp) (by rfl));have cc:jc W9 w.heap.size 1 (js b2 st.sws.length d2):=jr hS.hx;simp[wpOp,go_sem,cc];exact .inl ⟨_,_,_,_,_,_,_,_,_,_,⟨rfl,rfl,rfl,rfl,rfl,rfl,rfl,rfl,rfl,rfl⟩,{hS with h4:=fun _=>rfl}⟩
  ·simp at ho;subst ho;obtain rfl:=hS.h4 (hd ⟨4,.data⟩ (by simp) (by rfl));have hc:=HC1 W9 hS.bel;have hgr:w.heap.size+1+1≤W9.heap.size:=hS.hl;simp[wpOp,go_sem];refine .inl (hc.mono ?_);rintro e w' ⟨v,rfl,hown,hb⟩;obtain⟨a',c',rfl⟩:=zeq hown;simp[go_sem];exact⟨_,_,_,_,_,_,_,_,_,_,⟨rfl,rfl,rfl,rfl,rfl,rfl,rfl,rfl,rfl,rfl⟩,{RT.below hS hb hB with h5:=fun _=>⟨_,_,rfl,zav hown hgr⟩}⟩
  ·simp at ho;subst ho;simp[wpOp,go_sem];exact .inl ⟨_,_,_,_,_,_,_,_,_,_,⟨rfl,rfl,rfl,rfl,rfl,rfl,rfl,rfl,rfl,rfl⟩,{hS with h6:=fun _=>rfl}⟩
  ·simp at ho;subst ho;obtain rfl:=hS.h6 (hd ⟨6,.data⟩ (by simp) (by rfl));have cc:jc W9 w.heap.size 2 (js b3 st.lks.length d3):=jr hS.hx;simp[wpOp,go_sem,cc];exact .inl ⟨_,_,_,_,_,_,_,_,_,_,⟨rfl,rfl,rfl,rfl,rfl,rfl,rfl,rfl,rfl,rfl⟩,{hS with h7:=fun _=>rfl}⟩
  ·simp at ho;subst ho;obtain rfl:=hS.h7 (hd ⟨7,.data⟩ (by simp) (by rfl));have hc:=HC2 W9 hS.bel;have hgr:w.heap.size+1+1≤W9.heap.size:=hS.hl;simp[wpOp,go_sem];refine .inl (hc.mono ?_);rintro e w' ⟨v,rfl,hown,hb⟩;obtain⟨a',c',rfl⟩:=zeq hown;simp[go_sem];exact⟨_,_,_,_,_,_,_,_,_,_,⟨rfl,rfl,rfl,rfl,rfl,rfl,rfl,rfl,rfl,rfl⟩,{RT.below hS hb hB with h8:=fun _=>⟨_,_,rfl,zav hown hgr⟩}⟩
  ·simp at ho;subst ho;obtain⟨a1,c1,rfl,o1⟩:=hS.h2 (hd ⟨2,.data⟩ (by simp) (by rfl));obtain⟨a2,c2,rfl,o2⟩:=hS.h5 (hd ⟨5,.data⟩ (by simp) (by rfl));obtain⟨a3,c3,rfl,o3⟩:=hS.h8 (hd ⟨8,.data⟩ (by simp) (by rfl));simp[wpOp,go_sem];exact .inl ⟨_,_,_,_,_,_,_,_,_,_,⟨rfl,rfl,rfl,rfl,rfl,rfl,rfl,rfl,rfl,rfl⟩,{hS with h9:=fun _=>⟨_,_,_,_,_,_,rfl,o1,o2,o3⟩}⟩
  ·simp at ho;subst ho;obtain⟨a1,c1,a2,c2,a3,c3,rfl,hown⟩:=hS.h9 (hd ⟨9,.data⟩ (by simp) (by rfl));have hz:=hS.hz hun;have ff: ∀o,W9.frozen? ⟨w.heap.size+1,o,none⟩=false:=fun o=>by simp[World.frozen?,hz]
   obtain⟨cc0,cc1,cc2⟩:=zap hz;have lr:=zad hz;have hl:(w.heap.size+1)<w.heap.size+1+1:=Nat.lt_succ_self _;simp[wpOp,go_sem,ff,cc0,cc1,cc2,lr];exact .inl ⟨_,_,_,_,_,_,_,_,_,_,⟨rfl,rfl,rfl,rfl,rfl,rfl,rfl,rfl,rfl,rfl⟩,{hS with bel:=((hS.bel.setCell (by simp) _).setCell (by simp) _).setCell (by simp) _,hl:=(by simp[World.setCell];exact hS.hl),hx:=(by simp[World.setCell,Array.getElem?_modify,hS.hx]),hz:=(fun h=>by cases h),h2:=(fun k=>by obtain⟨a,c,e,ho⟩:=hS.h2 k;exact⟨a,c,e,zag (zag (zag ho hl _) hl _) hl _⟩),h5:=(fun k=>by obtain⟨a,c,e,ho⟩:=hS.h5 k;exact⟨a,c,e,zag (zag (zag ho hl _) hl _) hl _⟩),h8:=(fun k=>by obtain⟨a,c,e,ho⟩:=hS.h8 k;exact⟨a,c,e,zag (zag (zag ho hl _) hl _) hl _⟩),h9:=(fun k=>⟨_,_,_,_,_,_,rfl,((hown.setCell hl _).setCell hl _).setCell hl _⟩),h10:=(fun _=>⟨_,_,_,_,_,_,by simp[World.setCell,Array.getElem?_modify,hz],((hown.setCell hl _).setCell hl _).setCell hl _⟩)}⟩
  ·simp at ho
 ·intro f a W9 hIv hall;obtain⟨s3,s4,s5,s6,s7,s8,s9,s10,s11,s12,rfl,hS⟩:=hIv;obtain⟨a1,c1,a2,c2,a3,c3,hr,hown⟩:=hS.h10 (hall 10 (by decide));have HB:=hI hS.bel;have HO:=hI hown;obtain⟨rr0,rr1,rr2⟩:=zap hr;clear hS hall hr hown;go_wp2_with fail;exact bodyPost_ret (v:= .agg #[js a1 st.tks.length c1,js a2 st.sws.length c2,js a3 st.lks.length c3]) (by simp[results,Tryz.f67,go_sem,rr0,rr1,rr2]) rfl ⟨_,_,_,_,_,_,rfl,HO.base (by omega),HB⟩
def stn:Pl:=⟨1,0,[⟨1,0,[⟨0,0⟩,⟨2,0⟩]⟩,⟨2,2,[⟨1,1⟩,⟨3,0⟩,⟨4,0⟩]⟩,⟨3,0,[⟨2,1⟩,⟨5,1⟩]⟩,⟨4,0,[⟨2,2⟩,⟨5,2⟩]⟩,⟨5,5,[⟨6,0⟩,⟨3,1⟩,⟨4,1⟩]⟩,⟨6,0,[⟨5,0⟩,⟨0,0⟩]⟩],[⟨2,2⟩,⟨5,5⟩],[⟨1,1,1⟩,⟨3,3,1⟩,⟨4,4,1⟩,⟨6,6,0⟩],[⟨1,1,3,[2,3],[5],[],2⟩,⟨3,3,0,[5,6],[],[],1⟩,⟨6,6,0,[5,4,2,1],[],[],1⟩]⟩
end Go.Proofs.YtbiehpjhhopjaaaGreat
namespace Go.Proofs.YtbiehpjhhopjaaaGreat
open Go.RowKit Go.Maps
structure GRow (W:World) (g:Nat) (H A:Nat→Int) (v:Value):Prop where
 row: ∃cur:Array Value,jk W g cur 171∧cur.size=201∧(∀q,q<100→cur[q]? =some (.int .i64 (H q)))∧(∀q,q<100→cur[100+q]? =some (.int .i64 (A q)))∧cur[200]? =some v
section
variable {W W':World}{g:Nat}{H A:Nat→Int}{v:Value}
theorem GRow.lt (h:GRow W g H A v):g<W.heap.size:=by
 obtain⟨cur,hc,-⟩:=h.row;exact zad hc
theorem GRow.same (h:GRow W g H A v) (hk:W'.heap[g]? =W.heap[g]?):GRow W' g H A v:=by
 obtain⟨cur,hc,h1⟩:=h.row;exact⟨cur,hk.trans hc,h1⟩
theorem GRow.holder (h:GRow W g H A v){q:Nat}(hq:q<100):jc W g q (.int .i64 (H q)):=by
 obtain⟨cur,hc,-,h1,-⟩:=h.row;rw[cell_of_row W g q cur _ _ hc];exact h1 q hq
theorem GRow.asked (h:GRow W g H A v){q:Nat}(hq:q<100):jc W g (100+q) (.int .i64 (A q)):=by
 obtain⟨cur,hc,-,-,h1,-⟩:=h.row;rw[cell_of_row W g _ cur _ _ hc];exact h1 q hq
theorem GRow.ways (h:GRow W g H A v):jc W g 200 v:=by
 obtain⟨cur,hc,-,-,-,h1⟩:=h.row;rw[cell_of_row W g _ cur _ _ hc];exact h1
theorem GRow.frozen (h:GRow W g H A v) (q:Nat):W.frozen? ⟨g,q,none⟩=false:=by
 obtain⟨cur,hc,-⟩:=h.row;simp[World.frozen?,hc]
theorem GRow.setH (h:GRow W g H A v){q:Nat}(hq:q<100) (x:Int):GRow (W.setCell ⟨g,q,none⟩ (.int .i64 x)) g (fun i=>if i=q then x else H i) A v:=by
 obtain⟨cur,hc,hs,h1,h2,h3⟩:=h.row;refine⟨cur.setIfInBounds q (.int .i64 x),by simp[World.setCell,Array.getElem?_modify,hc],by simp[hs],fun i hi=> ?_,fun i hi=> ?_,?_⟩
 ·rw[Array.getElem?_setIfInBounds];by_cases e:q=i
  ·subst e;simp[hs];omega
  ·rw[if_neg e,if_neg (Ne.symm e)];exact h1 i hi
 ·rw[Array.getElem?_setIfInBounds,if_neg (by omega)];exact h2 i hi
 ·rw[Array.getElem?_setIfInBounds,if_neg (by omega)];exact h3
theorem GRow.setA (h:GRow W g H A v){q:Nat}(hq:q<100) (x:Int):GRow (W.setCell ⟨g,100+q,none⟩ (.int .i64 x)) g H (fun i=>if i=q then x else A i) v:=by
 obtain⟨cur,hc,hs,h1,h2,h3⟩:=h.row;refine⟨cur.setIfInBounds (100+q) (.int .i64 x),by simp[World.setCell,Array.getElem?_modify,hc],by simp[hs],fun i hi=> ?_,fun i hi=> ?_,?_⟩
 ·rw[Array.getElem?_setIfInBounds,if_neg (by omega)];exact h1 i hi
 ·rw[Array.getElem?_setIfInBounds];by_cases e:q=i
  ·subst e;simp[hs];omega
  ·rw[if_neg (by omega),if_neg (Ne.symm e)];exact h2 i hi
 ·rw[Array.getElem?_setIfInBounds,if_neg (by omega)];exact h3
theorem GRow.setV (h:GRow W g H A v) (u:Value):GRow (W.setCell ⟨g,200,none⟩ u) g H A u:=by
 obtain⟨cur,hc,hs,h1,h2,h3⟩:=h.row;refine⟨cur.setIfInBounds 200 u,by simp[World.setCell,Array.getElem?_modify,hc],by simp[hs],fun i hi=> ?_,fun i hi=> ?_,?_⟩
 ·rw[Array.getElem?_setIfInBounds,if_neg (by omega)];exact h1 i hi
 ·rw[Array.getElem?_setIfInBounds,if_neg (by omega)];exact h2 i hi
 ·rw[Array.getElem?_setIfInBounds];simp[hs]
end
structure GrM (W:World) (gR gG:Nat) (g:Gr) (v:Value):Prop where
 ok:jk W gR #[.bool g.ok] 4
 row:GRow W gG g.H g.A v
structure Tw (gR gG:Nat) (W W':World):Prop where
 os:W'.os=W.os
 tape:W'.tape=W.tape
 output:W'.output=W.output
 size:W.heap.size≤W'.heap.size
 block: ∀k,k<W.heap.size→k≠gR→k≠gG→W'.heap[k]? =W.heap[k]?
theorem Tw.refl (gR gG:Nat) (W:World):Tw gR gG W W:=⟨rfl,rfl,rfl,Nat.le_refl _,fun _ _ _ _=>rfl⟩
theorem Tw.trans {gR gG:Nat}{a b c:World}(h:Tw gR gG a b) (k:Tw gR gG b c):Tw gR gG a c:=⟨k.os.trans h.os,k.tape.trans h.tape,k.output.trans h.output,Nat.le_trans h.size k.size,fun i h1 h2 h3=>(k.block i (Nat.lt_of_lt_of_le h1 h.size) h2 h3).trans (h.block i h1 h2 h3)⟩
theorem Tw.of_below {gR gG:Nat}{W W':World}(hb:jb W W'):Tw gR gG W W':=⟨hb.os,hb.tape,hb.output,hb.size,fun k hk _ _=>hb.block k hk⟩
theorem Tw.setR {gR gG:Nat}(W:World) (o:Nat) (v:Value):Tw gR gG W (W.setCell ⟨gR,o,none⟩ v):=⟨rfl,rfl,rfl,by simp[World.setCell],fun k _ h _=>Below.heap_setCell W _ v k h⟩
theorem Tw.setG {gR gG:Nat}(W:World) (o:Nat) (v:Value):Tw gR gG W (W.setCell ⟨gG,o,none⟩ v):=⟨rfl,rfl,rfl,by simp[World.setCell],fun k _ _ h=>Below.heap_setCell W _ v k h⟩
theorem Tw.below {gR gG B:Nat}{W W':World}(h:Tw gR gG W W') (h1:B≤gR) (h2:B≤gG) (h3:B≤W.heap.size):Below B W W':=⟨h.os,h.tape,h.output,h.size,fun k hk=>h.block k (by omega) (by omega) (by omega)⟩
theorem GrM.below {W W':World}{gR gG:Nat}{g:Gr}{v:Value}(h:GrM W gR gG g v) (hb:jb W W'):GrM W' gR gG g v:=
 ⟨(jm hb h.ok),h.row.same (hb.block _ h.row.lt)⟩
theorem GrM.hold {W:World}{gR gG:Nat}{g:Gr}{v:Value}(h:GrM W gR gG g v) (n1:gR≠gG){n:Nat}(hn:n<100) (id:Int) (b:Bool):GrM ((W.setCell ⟨gR,0,none⟩ (.bool b)).setCell ⟨gG,n,none⟩ (.int .i64 id)) gR gG ⟨fun q=>if q=n then id else g.H q,g.A,b⟩ v:=
 ⟨(Below.heap_setCell _ _ _ gR n1).trans (by simp[World.setCell,Array.getElem?_modify,h.ok]),(h.row.same (Below.heap_setCell W ⟨gR,0,none⟩ _ gG (Ne.symm n1))).setH hn id⟩
theorem GrM.ask {W:World}{gR gG:Nat}{g:Gr}{v:Value}(h:GrM W gR gG g v) (n1:gR≠gG){n:Nat}(hn:n<100) (x:Int) (b:Bool):GrM ((W.setCell ⟨gR,0,none⟩ (.bool b)).setCell ⟨gG,100+n,none⟩ (.int .i64 x)) gR gG ⟨g.H,fun q=>if q=n then x else g.A q,b⟩ v:=
 ⟨(Below.heap_setCell _ _ _ gR n1).trans (by simp[World.setCell,Array.getElem?_modify,h.ok]),(h.row.same (Below.heap_setCell W ⟨gR,0,none⟩ _ gG (Ne.symm n1))).setA hn x⟩
def MapIs (W:World) (b:Nat) (n:Nat) (f:Int→Int):Prop:= ∃D:DataW Unit,W.ownsMap Tryz.prog 3 (plainElem Tryz.prog 3) b n D∧IsMap D∧ ∀c:Int,(Lit.int .i64 c).wf=true→D.atKey (.int .i64 c) (.lit (.int .i64 0))= .lit (.int .i64 (f c))
theorem MapIs.same {W W':World}{b n:Nat}{f:Int→Int}(h:MapIs W b n f) (hk:W'.heap[b]? =W.heap[b]?):MapIs W' b n f:=by
 obtain⟨D,⟨es,clock,hb,F,hs,hD⟩,h2,h3⟩:=h;exact⟨D,⟨es,clock,hk.trans hb,F,hs,hD⟩,h2,h3⟩
theorem MapIs.lt {W:World}{b n:Nat}{f:Int→Int}(h:MapIs W b n f):b<W.heap.size:=by
 obtain⟨D,h1,-⟩:=h;exact h1.lt
theorem zm9:Keyed Tryz.prog 3:=int_keyed Tryz.underlying3
theorem zt9 (w:World):(zeroValue 3).run Tryz.prog w= .ok (.int .i64 0) w:=by kernel_rfl
theorem zkv {c:Int}(h1: -1000≤c) (h2:c≤1000):(Lit.int .i64 c).wf=true:=WalkArith.wf_i64 (by omega)
theorem zua (args:Array Value) (w:World):Sem.run Tryz.prog (callFunc 292 args) w= .ok (.enter 292 args) w:=by simp[go_sem]
theorem zub (args:Array Value) (w:World):Sem.run Tryz.prog (callFunc 294 args) w= .ok (.enter 294 args) w:=by simp[go_sem]
def zgm (W:World) (gR gG:Nat) (v:Value) (g':Gr) (e:Ending) (W':World):Prop:=e= .returned (.bool g'.ok)∧GrM W' gR gG g' v∧Tw gR gG W W'
theorem zuc (gR gG gL:Nat) (g:Gr) (v:Value) (id s:Int) (W:World) (h:GrM W gR gG g v) (hl:jc W gL 0 id) (h0:0≤s) (h1:s≤99) (n1:gR≠gG) (n2:gL≠gR) (n3:gL≠gG):
  Calls Tryz.prog 292 (#[.int .i64 s]++#[.pointer (some ⟨gR,0,none⟩),.pointer (some ⟨gG,0,none⟩),.pointer (some ⟨gL,0,none⟩)]) W (zgm W gR gG v (zc9 id g s)):=by
 obtain⟨n,rfl⟩:=Int.eq_ofNat_of_zero_le h0;have HG:=hI h;have hn:n<100:=by omega
 have y0:jc W gR 0 (.bool g.ok):=jr h.ok;have y1:W.frozen? ⟨gR,0,none⟩=false:=by simp[World.frozen?,h.ok]
 have z0:=h.row.holder hn;have z1:=h.row.frozen n;have l0:=zad h.ok;have l1:=h.row.lt;have l2:=World.block_lt_of_cell? _ _ hl;have i0:(0:Int)≤(n:Int):=by omega
 have i1:(n:Int)<100:=by omega
 have HE:Hid (zc9 id g (n:Int)=⟨fun q=>if q=n then id else g.H q,g.A,g.ok&&decide (g.H n=0)⟩):=rfl;generalize zc9 id g (n:Int)=G at *;clear h h0 h1;cases hok:g.ok with
 | true=>
  rw[hok]at y0;have HOK:Hid (G.ok=(g.H n==0)):=by show _=_;rw[HE.out];simp[hok];rw[Bool.eq_iff_iff];simp
  clear hok;go_enter Tryz.func292,Tryz.ntmps292;go_wp2_with fail;go_ret;refine⟨zab HOK.symm,?_,(Tw.setR _ _ _).trans (Tw.setG _ _ _)⟩;have hG:G=⟨fun q=>if q=n then id else g.H q,g.A,g.H n==0⟩:=by rw[←HOK.out];have:=HE.out;rw[this]
  rw[hG];exact HG.hold n1 hn id _
 | false=>
  rw[hok]at y0;have HOK:Hid (G.ok=false):=by show _=_;rw[HE.out];simp[hok]
  clear hok;go_enter Tryz.func292,Tryz.ntmps292;go_wp2_with fail;go_ret;refine⟨zab HOK.symm,?_,(Tw.setR _ _ _).trans (Tw.setG _ _ _)⟩;have hG:G=⟨fun q=>if q=n then id else g.H q,g.A,false⟩:=by rw[←HOK.out];have:=HE.out;rw[this]
  rw[hG];exact HG.hold n1 hn id _
theorem MapIs.look {W:World}{b n:Nat}{f:Int→Int}(h:MapIs W b n f){c:Int}(hc:(Lit.int .i64 c).wf=true):(Instr.lookup 357 (.map (some b)) (.int .i64 c) false).run Tryz.prog W= .ok (.int .i64 (f c)) W:=by
 obtain⟨D,h1,-,h3⟩:=h;obtain⟨x,hrun,hat,-⟩:=h1.lookup_int zm9 Tryz.underlying357 Tryz.underlying3 (zt9 W) (keyOf_int_mk Tryz.underlying3 hc);rw[h3 c hc]at hat
 injection hat with hat
 injection hat with _ hat
 rw[hat];exact hrun
theorem zud (gR gM gG b:Nat) (m:Nat) (f:Int→Int) (g:Gr) (v:Value) (x:Ask) (W:World) (h:GrM W gR gG g v) (hl:jc W gM 0 (.map (some b))) (hm:MapIs W b m f) (h0:1≤x.pt) (h1:x.pt≤99) (n1:gR≠gG) (n2:gM≠gR) (n3:gM≠gG):
  Calls Tryz.prog 294 (#[.agg #[x.pt,x.lie,x.pl]]++#[.pointer (some ⟨gR,0,none⟩),.pointer (some ⟨gM,0,none⟩),.pointer (some ⟨gG,0,none⟩)]) W (zgm W gR gG v (zda f g x)):=by
 obtain⟨pt,lie,pl⟩:=x;simp only[]at h0 h1 ⊢;obtain⟨n,rfl⟩:=Int.eq_ofNat_of_zero_le (show 0≤pt by omega);have HG:=hI h;have hn:n<100:=by omega
 have y0:jc W gR 0 (.bool g.ok):=jr h.ok;have y1:W.frozen? ⟨gR,0,none⟩=false:=by simp[World.frozen?,h.ok]
 have z0:=h.row.asked hn;have z1:=h.row.frozen (100+n);have l0:=zad h.ok;have l1:=h.row.lt;have l2:=World.block_lt_of_cell? _ _ hl;have i0:(0:Int)≤(n:Int):=by omega
 have i1:(n:Int)<100:=by omega
 have HMK:Hid (∀W',jb W W'→(Instr.lookup 357 (.map (some b)) (.int .i64 (n:Int)) false).run Tryz.prog W'= .ok (.int .i64 (f n)) W'):=fun W' hb=>(hm.same (hb.block _ hm.lt)).look (zkv (by omega) (by omega));have HE:Hid (zda f g ⟨(n:Int),lie,pl⟩=⟨g.H,fun q=>if q=n then lie else g.A q,g.ok&&decide (f (n:Int)=lie)⟩):=rfl;generalize zda f g ⟨(n:Int),lie,pl⟩=G at *;have hlk:=HMK (W.alloc (.cells #[.int .i64 (n:Int),lie,pl] 281)) jal;clear h h0 h1 hm HMK;cases hok:g.ok with
 | true=>
  rw[hok]at y0;have HOK:Hid (G.ok=(f (n:Int)==lie)):=by show _=_;rw[HE.out];simp[hok];rw[Bool.eq_iff_iff];simp
  clear hok;go_enter Tryz.func294,Tryz.ntmps294;go_wp2_with fail;go_ret;refine⟨zab HOK.symm,?_,?_⟩
  ·have hG:G=⟨g.H,fun q=>if q=n then lie else g.A q,f (n:Int)==lie⟩:=(by rw[←HOK.out];have:=HE.out;rw[this]);rw[hG];exact(HG.ask n1 hn lie _).below jal
  ·exact((Tw.setR _ _ _).trans (Tw.setG _ _ _)).trans (Tw.of_below jal)
 | false=>
  rw[hok]at y0;have HOK:Hid (G.ok=false):=by show _=_;rw[HE.out];simp[hok]
  clear hok hlk;go_enter Tryz.func294,Tryz.ntmps294;go_wp2_with fail;go_ret;refine⟨zab HOK.symm,?_,?_⟩
  ·have hG:G=⟨g.H,fun q=>if q=n then lie else g.A q,false⟩:=(by rw[←HOK.out];have:=HE.out;rw[this]);rw[hG];exact(HG.ask n1 hn lie _).below jal
  ·exact((Tw.setR _ _ _).trans (Tw.setG _ _ _)).trans (Tw.of_below jal)
def ziz (W:World) (gR gG:Nat) (v:Value) (g':Gr) (e:Ending) (W':World):Prop:=e= .returned (.tuple #[])∧GrM W' gR gG g' v∧Tw gR gG W W'
theorem zue (gR gM gG b:Nat) (m:Nat) (f:Int→Int) (g:Gr) (v:Value) (ww:Wy) (l:Lk) (vp vo:Value) (aa:Option Addr) (ca:Nat) (W:World) (h:GrM W gR gG g v) (hl:jc W gM 0 (.map (some b))) (hm:MapIs W b m f) (hfit:zdu ww.asks) (n1:gR≠gG) (n2:gM≠gR) (n3:gM≠gG)
  (ha: ∀W',Tw gR gG W W'→SlA W' 3 ze1 aa ca ww.asks) (hal:ww.asks.length≤1000):
  Calls Tryz.prog 293 #[.agg #[vp,vo,js aa ww.asks.length ca,ww.near],.agg #[l.id,.int .u8 l.ph,l.gone,l.left],.func (.func 294) #[] #[jp gR 0,jp gM 0,jp gG 0]] W (ziz W gR gG v (zc5 f (zc8 ww l) g)):=by
 have hcf: ∀(args:Array Value) (w:World),Sem.run Tryz.prog (callFunc 294 args) w= .ok (.enter 294 args) w:=zub;have lR:=zad h.ok;have lG:=h.row.lt;have lM:gM<W.heap.size:=World.block_lt_of_cell? _ _ hl;have HA:=hI ha;have HG:=hI h;have HFI:=hI hfit;have HLK:Hid (∀W',Tw gR gG W W'→jc W' gM 0 (.map (some b))):=fun W' ht=>(World.cell?_of_block (w:=W) (ht.block gM lM n2 n3)).trans hl
 have HMM:Hid (∀W',Tw gR gG W W'→MapIs W' b m f):=fun W' ht=>hm.same (ht.block b hm.lt (fun e=>by
  subst e;obtain⟨D,⟨es,clock,hb,_⟩,_⟩:=hm;rw[h.ok]at hb
  cases hb) (fun e=>by
  subst e;obtain⟨D,⟨es,clock,hb,_⟩,_⟩:=hm;obtain⟨cur,hc,_⟩:=h.row.row;rw[hc]at hb
  cases hb))
 have HE:Hid (zc8 ww l=if l.ph=0 then []else ww.asks.filter fun a=>decide (a.pl<0∨l.gone≤a.pl)):=rfl;generalize zc8 ww l=L at *;clear h hl hm hfit ha;by_cases hph:l.ph=0
 ·have t0:(l.ph==0)=true:=by rw[beq_iff_eq];exact hph
  rw[if_pos hph]at HE;have hE:=HE.out;subst hE;clear hph;go_enter Tryz.func293,Tryz.ntmps293;go_wp2_with fail;have hb:jb W ((W.alloc (.cells #[vp,vo,js aa ww.asks.length ca,ww.near] 184)).alloc (.cells #[l.id,.int .u8 l.ph,l.gone,l.left] 99)):=jal.alloc (by simp) _;exact bodyPost_ret (v:= .tuple #[]) (by simp[results,Tryz.f293,go_sem]) rfl ⟨rfl,HG.below hb,Tw.of_below hb⟩
 ·have t0:(l.ph==0)=false:=by rw[beq_eq_false_iff_ne];exact hph
  rw[if_neg hph]at HE;clear hph;go_enter Tryz.func293,Tryz.ntmps293;go_wp2_with fail;generalize hW:(W.alloc _).alloc _=W1;have hb1:jb W W1:=by rw[←hW];exact jal.alloc (by simp) _
  have HT1:Hid (Tw gR gG W W1):=Tw.of_below hb1
  have HLC:Hid (∀W',Tw gR gG W1 W'→jc W' (W.heap.size+1) 2 l.gone∧W.heap.size+1<W'.heap.size):=fun W' ht=>
   ⟨(World.cell?_of_block (w:=W1) (ht.block (W.heap.size+1) (by rw[←hW];simp) (by omega) (by omega))).trans (by rw[←hW];simp[go_sem]),Nat.lt_of_lt_of_le (by rw[←hW];simp) ht.size⟩
  have HG1:=hI (HG.below hb1);clear hW hb1;go_loopg [14] ww.asks.length (fun g' i wr=> ∃(k:Nat) (gk:Gr),k≤ww.asks.length∧g'=ww.asks.length-k∧i= .int .i64 k∧GrM wr gR gG gk v∧Tw gR gG W1 wr∧zc5 f L g=zc5 f ((ww.asks.drop k).filter fun a=>decide (a.pl<0∨l.gone≤a.pl)) gk)
  case atStart=>exact⟨0,g,by omega,by omega,rfl,HG1,Tw.refl _ _ _,by rw[HE.out];rfl⟩
  case round=>
   obtain⟨k,gk,hk,rfl,rfl,hg,ht,heq⟩:=hrel;obtain⟨wo,rfl⟩: ∃wo:World,wo=wr:=⟨_,rfl⟩;have HGK:=hI hg;have HTK:=hI ht;have HEQ:=hI heq;have HT0:Hid (Tw gR gG W wo):=HT1.trans ht;clear hg ht heq;by_cases hlt:k<ww.asks.length
   ·have hdk:decide ((k:Int)<(ww.asks.length:Int))=true:=(by simp;omega);obtain⟨bb,off,rfl,x0,x1,x2⟩:=(HA _ HT0).ask hlt;have c0:(0:Int)≤(k:Int):=(by omega);have c1:(k:Int)<(ww.asks.length:Int):=(by omega);have lb:=World.block_lt_of_cell? _ _ x0;obtain⟨y2,ly⟩:=HLC _ HTK;have HDR:Hid (ww.asks.drop k=ww.asks[k]::ww.asks.drop (k+1)):=List.drop_eq_getElem_cons hlt;have hfk:=HFI ww.asks[k] (List.getElem_mem hlt);go_upto_region 5 with fail;generalize hWJ:wo.alloc _=WJ;have hbJ:jb wo WJ:=(by rw[←hWJ];exact jal);have HTJ:Hid (Tw gR gG W1 WJ):=HTK.trans (Tw.of_below hbJ);have HTJ0:Hid (Tw gR gG W WJ):=HT0.trans (Tw.of_below hbJ);have HGJ:=hI (HGK.below hbJ);have j0:jc WJ wo.heap.size 0 ww.asks[k].pt:=(by rw[←hWJ];simp);have j1:jc WJ wo.heap.size 1 ww.asks[k].lie:=(by rw[←hWJ];simp);have j2:jc WJ wo.heap.size 2 ww.asks[k].pl:=(by rw[←hWJ];simp);have y2:jc WJ (W.heap.size+1) 2 l.gone:=(HLC _ HTJ).1;have HCL:=hI (zud gR gM gG b m f gk v ww.asks[k] WJ HGJ (HLK _ HTJ0) (HMM _ HTJ0) hfk.1 hfk.2 n1 n2 n3);clear hWJ hbJ x0 x1 x2 lb ly hfk;by_cases hp:ww.asks[k].pl<0∨l.gone≤ww.asks[k].pl
    ·have HF:Hid (zc5 f L g=if(zda f gk ww.asks[k]).ok then zc5 f ((ww.asks.drop (k+1)).filter fun a=>decide (a.pl<0∨l.gone≤a.pl)) (zda f gk ww.asks[k])else zda f gk ww.asks[k]):=by
      show _=_;rw[HEQ.out,HDR.out,List.filter_cons_of_pos (by simpa using hp)];rfl
     generalize hG2:zda f gk ww.asks[k]=G2 at *;clear hG2;have tail:True:=trivial;by_cases hp1:ww.asks[k].pl<0
     ·have t1:decide (ww.asks[k].pl<0)=true:=(by simpa using hp1);clear hp hp1;cases hok:G2.ok with
      | true=>
       unfold zgm at HCL;rw[hok]at HCL;rw[hok]at HF;clear hok;go_wp2_with fail;refine HCL.mono ?_;rintro e w2 ⟨rfl,hg2,ht2⟩;have HG2:=hI hg2;have HT2:Hid (Tw gR gG W1 w2):=HTJ.trans ht2;clear hg2 ht2 HCL j0 j1 j2 y2;go_wp2_with fail;go_roundg (ww.asks.length-(k+1))
       case measure=>go_light;omega
       case rel=>go_light;exact⟨k+1,G2,by omega,by omega,by go_num,HG2,HT2,by simpa using HF.out⟩
      | false=>
       unfold zgm at HCL;rw[hok]at HCL;rw[hok]at HF;clear hok;go_wp2_with fail;refine HCL.mono ?_;rintro e w2 ⟨rfl,hg2,ht2⟩;have HG2:=hI hg2;have HT2:Hid (Tw gR gG W w2):=HTJ0.trans ht2;clear hg2 ht2 HCL j0 j1 j2 y2;go_wp2_with fail;refine bodyPost_ret (v:= .tuple #[]) (by simp[results,Tryz.f293,go_sem]) rfl ⟨rfl,?_,HT2⟩;have hF:=HF.out;simp at hF;rw[hF];exact HG2
     ·have t1:decide (ww.asks[k].pl<0)=false:=(by simpa using hp1);have t2:decide (l.gone≤ww.asks[k].pl)=true:=(by simp;omega);clear hp hp1;cases hok:G2.ok with
      | true=>
       unfold zgm at HCL;rw[hok]at HCL;rw[hok]at HF;clear hok;go_wp2_with fail;refine HCL.mono ?_;rintro e w2 ⟨rfl,hg2,ht2⟩;have HG2:=hI hg2;have HT2:Hid (Tw gR gG W1 w2):=HTJ.trans ht2;clear hg2 ht2 HCL j0 j1 j2 y2;go_wp2_with fail;go_roundg (ww.asks.length-(k+1))
       case measure=>go_light;omega
       case rel=>go_light;exact⟨k+1,G2,by omega,by omega,by go_num,HG2,HT2,by simpa using HF.out⟩
      | false=>
       unfold zgm at HCL;rw[hok]at HCL;rw[hok]at HF;clear hok;go_wp2_with fail;refine HCL.mono ?_;rintro e w2 ⟨rfl,hg2,ht2⟩;have HG2:=hI hg2;have HT2:Hid (Tw gR gG W w2):=HTJ0.trans ht2;clear hg2 ht2 HCL j0 j1 j2 y2;go_wp2_with fail;refine bodyPost_ret (v:= .tuple #[]) (by simp[results,Tryz.f293,go_sem]) rfl ⟨rfl,?_,HT2⟩;have hF:=HF.out;simp at hF;rw[hF];exact HG2
    ·have t1:decide (ww.asks[k].pl<0)=false:=(by simp;omega);have t2:decide (l.gone≤ww.asks[k].pl)=false:=by simp;omega
     have HF:Hid (zc5 f L g=zc5 f ((ww.asks.drop (k+1)).filter fun a=>decide (a.pl<0∨l.gone≤a.pl)) gk):=by
      show _=_;rw[HEQ.out,HDR.out,List.filter_cons_of_neg (by simpa using hp)]
     clear hp HCL;go_wp2_with fail;go_roundg (ww.asks.length-(k+1))
     case measure=>go_light;omega
     case rel=>go_light;exact⟨k+1,gk,by omega,by omega,by go_num,HGJ,HTJ,HF⟩
   ·obtain rfl:k=ww.asks.length:=(by omega);have hdk:decide ((ww.asks.length:Int)<(ww.asks.length:Int))=false:=by simp
    have HF:Hid (zc5 f L g=gk):=by
     show _=_;rw[HEQ.out,List.drop_length];rfl
    go_wp2_with fail;refine bodyPost_ret (v:= .tuple #[]) (by simp[results,Tryz.f293,go_sem]) rfl ⟨rfl,?_,HT0⟩;rw[HF.out];exact HGK
end Go.Proofs.YtbiehpjhhopjaaaGreat
