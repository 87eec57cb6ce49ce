/-
 slices.Clone of points,signals,joins,sections and routes,and bytes.Clone,walked. (Written by wip/tools/gen_clones2.py.)
-/
import Derived.Test.YtbiehpjhhopjaaaGreatTStateB
import Derived.Laws.BytesArg
import Derived.Lib.Bytes
import Derived.Test.YtbiehpjhhopjaaaGreatTData
import Derived.Test.YtbiehpjhhopjaaaGreatTGripA
set_option linter.unusedVariables false
set_option linter.unusedSimpArgs false
set_option maxRecDepth 100000
set_option maxHeartbeats 16000000
namespace Go.Proofs.YtbiehpjhhopjaaaGreat
open Go.RowKit
def ptC (x:Pt):List Value:=[.int .i64 x.id,.int .i64 x.sec]
def zd2 (x:Sg):List Value:=[.int .i64 x.id,.int .i64 x.sec,.int .i64 x.en]
def byC (x:Int):List Value:=[.int .u8 x]
def RBy (w:World) (vs:List Value) (x:Int):Prop:=vs=[.int .u8 x]
theorem zh0:zeb RBy:=fun _ _ _ _ _ h=>h
theorem znl:(Tryz.prog.info? 143).map (fun i=>(i.zero,i.size,i.bytes))=some (some (.agg #[.int .i64 0,.int .i64 0]),2,16):=by kernel_rfl
theorem znm:(Tryz.prog.info? 145).map (fun i=>(i.zero,i.size,i.bytes))=some (some (.agg #[.int .i64 0,.int .i64 0,.int .i64 0]),3,24):=by kernel_rfl
theorem znn:(Tryz.prog.info? 5).map (fun i=>(i.zero,i.size,i.bytes))=some (some (.int .u8 0),1,1):=by kernel_rfl
theorem zno:(Tryz.prog.info? 80).map (fun i=>(i.zero,i.size,i.bytes))=some (some (.agg #[.int .i64 0,.int .i64 0,.slice none 0 0]),3,40):=by kernel_rfl
theorem znp:(Tryz.prog.info? 102).map (fun i=>(i.zero,i.size,i.bytes))=some (some (.agg #[.int .i64 0,.int .i64 0,.int .i64 0,.slice none 0 0,.slice none 0 0,.slice none 0 0,.int .i64 0]),7,104):=by kernel_rfl
theorem znq (x:Pt): ∀u∈ptC x,u.oneCell'=true:=zkm _ _
theorem znr (x:Sg): ∀u∈zd2 x,u.oneCell'=true:=zhx _ _ _
theorem zns (x:Jn): ∀u∈jnC x,u.oneCell'=true:=zkm _ _
theorem znt (x:Int): ∀u∈byC x,u.oneCell'=true:=by intro u hu;simp[byC]at hu;subst hu;rfl
theorem zvd (a:Option Addr) (cap:Nat) (l:List Pt) (w:World) (hl:SlA w 2 RPt a cap l) (hm:l.length≤1000):
  Calls Tryz.prog 123 #[js a l.length cap] w fun e w'=> ∃v,e= .returned v∧w'.ownsRow w.heap.size 143 2 v l.length (l.flatMap ptC)∧jb w w':=by
 have q: ∀(w:World) (a:Option Addr) (n c n' c':Nat),(binOp .eql 24 (js a n c) (.slice none n' c')).run Tryz.prog w= .ok (.bool a.isNone) w:=fun w a n c n' c'=>Go.Lib.run_eql_slice_nil w _ _ a n c n' c' Tryz.underlying24;obtain⟨i0,hi,hz0,hz1,hz2⟩:=info_parts znl;cases a with
 | none=>
  have h0:l=[]:=by
   cases l with
   | nil=>rfl
   | cons c l=>obtain⟨b,off,vs,e,_⟩:=hl.at_ 0 (by simp);cases e
  subst h0;go_enter Tryz.func123,Tryz.ntmps123;go_wp2_with fail;go_ret;exact⟨_,rfl,World.ownsRow_nil _ _ _ _,Below.refl _ _⟩
 | some ad=>
  by_cases h0:l=[]
  ·subst h0;go_enter Tryz.func123,Tryz.ntmps123;go_wp2_with fail;go_ret;exact⟨_,rfl,World.ownsRow_made w #[] 0 (Nat.le_refl _) (Nat.zero_le _) (by simp),jal⟩
  ·obtain⟨b,off,vs0,e,-⟩:=hl.at_ 0 (List.length_pos_iff.2 h0);cases e;have HR:=hI (zgl (f:=ptC) hl (fun _ _=>rfl) (fun _ _ h=>h) (by decide));have HN:Hid ((l.flatMap ptC).length=l.length * 2):=zcc _ 2 l (fun _ _=>rfl)
   have H1:Hid (∀u∈l.flatMap ptC,u.oneCell'=true):=by
    intro u hu;obtain⟨x,-,hx⟩:=List.mem_flatMap.1 hu;exact znq x u hx
   have HL:Hid (∀(v:Value) (W:World),W.ownsRow w.heap.size 143 2 v (0+l.length) ([]++l.flatMap ptC)→W.ownsRow w.heap.size 143 2 v l.length (l.flatMap ptC)):=fun v W h=>by rw[Nat.zero_add]at h;exact h
   generalize hq:l.flatMap ptC=news at *
   have HC:Hid (∀j u,news[j]? =some u→(w.alloc (.cells #[] 143)).cell? ((⟨b,off,none⟩:Addr).add j)=some u):=fun j u hj=>by
    rw[Addr.add_lit];exact(((Below.refl w.heap.size w).alloc (Nat.le_refl _) _).cell (p:=⟨b,off+j,none⟩) (block_lt_of_cell (HR j u hj))).trans (HR j u hj)
   clear hl h0;go_enter Tryz.func123,Tryz.ntmps123;go_wp2_with (at_builtin;refine wpList_append_own_at _ rfl _ _ 24 rfl w.heap.size 143 i0 (.agg #[.int .i64 0,.int .i64 0]) 2 16 Tryz.underlying24 hi hz0 hz1 hz2 rfl (by decide) _ _ _ rfl (World.ownsRow_made w #[] 0 (Nat.le_refl _) (Nat.zero_le _) (by simp)) ⟨b,off,none⟩ l.length cap news rfl HN HC H1 (by unfold maxLen;omega) (by omega) (by simp) ?_;intro v' w' hown hgr hnil hat);have hgr:(w.alloc (.cells #[] 143)).grownBy w' (some w.heap.size):=hgr;go_ret;exact⟨_,rfl,HL _ _ hown,(((Below.refl _ w).alloc (Nat.le_refl _) _).grown hgr (by simp) (by intro k hk;cases hk;exact Nat.le_refl _))⟩
theorem zve (a:Option Addr) (cap:Nat) (l:List Sg) (w:World) (hl:SlA w 3 RSg a cap l) (hm:l.length≤1000):
  Calls Tryz.prog 124 #[js a l.length cap] w fun e w'=> ∃v,e= .returned v∧w'.ownsRow w.heap.size 145 3 v l.length (l.flatMap zd2)∧jb w w':=by
 have q: ∀(w:World) (a:Option Addr) (n c n' c':Nat),(binOp .eql 25 (js a n c) (.slice none n' c')).run Tryz.prog w= .ok (.bool a.isNone) w:=fun w a n c n' c'=>Go.Lib.run_eql_slice_nil w _ _ a n c n' c' Tryz.underlying25;obtain⟨i0,hi,hz0,hz1,hz2⟩:=info_parts znm;cases a with
 | none=>
  have h0:l=[]:=by
   cases l with
   | nil=>rfl
   | cons c l=>obtain⟨b,off,vs,e,_⟩:=hl.at_ 0 (by simp);cases e
  subst h0;go_enter Tryz.func124,Tryz.ntmps124;go_wp2_with fail;go_ret;exact⟨_,rfl,World.ownsRow_nil _ _ _ _,Below.refl _ _⟩
 | some ad=>
  by_cases h0:l=[]
  ·subst h0;go_enter Tryz.func124,Tryz.ntmps124;go_wp2_with fail;go_ret;exact⟨_,rfl,World.ownsRow_made w #[] 0 (Nat.le_refl _) (Nat.zero_le _) (by simp),jal⟩
  ·obtain⟨b,off,vs0,e,-⟩:=hl.at_ 0 (List.length_pos_iff.2 h0);cases e;have HR:=hI (zgl (f:=zd2) hl (fun _ _=>rfl) (fun _ _ h=>h) (by decide));have HN:Hid ((l.flatMap zd2).length=l.length * 3):=zcc _ 3 l (fun _ _=>rfl)
   have H1:Hid (∀u∈l.flatMap zd2,u.oneCell'=true):=by
    intro u hu;obtain⟨x,-,hx⟩:=List.mem_flatMap.1 hu;exact znr x u hx
   have HL:Hid (∀(v:Value) (W:World),W.ownsRow w.heap.size 145 3 v (0+l.length) ([]++l.flatMap zd2)→W.ownsRow w.heap.size 145 3 v l.length (l.flatMap zd2)):=fun v W h=>by rw[Nat.zero_add]at h;exact h
   generalize hq:l.flatMap zd2=news at *
   have HC:Hid (∀j u,news[j]? =some u→(w.alloc (.cells #[] 145)).cell? ((⟨b,off,none⟩:Addr).add j)=some u):=fun j u hj=>by
    rw[Addr.add_lit];exact(((Below.refl w.heap.size w).alloc (Nat.le_refl _) _).cell (p:=⟨b,off+j,none⟩) (block_lt_of_cell (HR j u hj))).trans (HR j u hj)
   clear hl h0;go_enter Tryz.func124,Tryz.ntmps124;go_wp2_with (at_builtin;refine wpList_append_own_at _ rfl _ _ 25 rfl w.heap.size 145 i0 (.agg #[.int .i64 0,.int .i64 0,.int .i64 0]) 3 24 Tryz.underlying25 hi hz0 hz1 hz2 rfl (by decide) _ _ _ rfl (World.ownsRow_made w #[] 0 (Nat.le_refl _) (Nat.zero_le _) (by simp)) ⟨b,off,none⟩ l.length cap news rfl HN HC H1 (by unfold maxLen;omega) (by omega) (by simp) ?_;intro v' w' hown hgr hnil hat);have hgr:(w.alloc (.cells #[] 145)).grownBy w' (some w.heap.size):=hgr;go_ret;exact⟨_,rfl,HL _ _ hown,(((Below.refl _ w).alloc (Nat.le_refl _) _).grown hgr (by simp) (by intro k hk;cases hk;exact Nat.le_refl _))⟩
theorem zvf (a:Option Addr) (cap:Nat) (l:List Jn) (w:World) (hl:SlA w 2 RJn a cap l) (hm:l.length≤8796093022208):
  Calls Tryz.prog 127 #[js a l.length cap] w fun e w'=> ∃v,e= .returned v∧w'.ownsRow w.heap.size 133 2 v l.length (l.flatMap jnC)∧jb w w':=by
 have q: ∀(w:World) (a:Option Addr) (n c n' c':Nat),(binOp .eql 78 (js a n c) (.slice none n' c')).run Tryz.prog w= .ok (.bool a.isNone) w:=fun w a n c n' c'=>Go.Lib.run_eql_slice_nil w _ _ a n c n' c' Tryz.underlying78;obtain⟨i0,hi,hz0,hz1,hz2⟩:=info_parts zj3;cases a with
 | none=>
  have h0:l=[]:=by
   cases l with
   | nil=>rfl
   | cons c l=>obtain⟨b,off,vs,e,_⟩:=hl.at_ 0 (by simp);cases e
  subst h0;go_enter Tryz.func127,Tryz.ntmps127;go_wp2_with fail;go_ret;exact⟨_,rfl,World.ownsRow_nil _ _ _ _,Below.refl _ _⟩
 | some ad=>
  by_cases h0:l=[]
  ·subst h0;go_enter Tryz.func127,Tryz.ntmps127;go_wp2_with fail;go_ret;exact⟨_,rfl,World.ownsRow_made w #[] 0 (Nat.le_refl _) (Nat.zero_le _) (by simp),jal⟩
  ·obtain⟨b,off,vs0,e,-⟩:=hl.at_ 0 (List.length_pos_iff.2 h0);cases e;have HR:=hI (zgl (f:=jnC) hl (fun _ _=>rfl) (fun _ _ h=>h) (by decide));have HN:Hid ((l.flatMap jnC).length=l.length * 2):=zcc _ 2 l (fun _ _=>rfl)
   have H1:Hid (∀u∈l.flatMap jnC,u.oneCell'=true):=by
    intro u hu;obtain⟨x,-,hx⟩:=List.mem_flatMap.1 hu;exact zns x u hx
   have HL:Hid (∀(v:Value) (W:World),W.ownsRow w.heap.size 133 2 v (0+l.length) ([]++l.flatMap jnC)→W.ownsRow w.heap.size 133 2 v l.length (l.flatMap jnC)):=fun v W h=>by rw[Nat.zero_add]at h;exact h
   generalize hq:l.flatMap jnC=news at *
   have HC:Hid (∀j u,news[j]? =some u→(w.alloc (.cells #[] 133)).cell? ((⟨b,off,none⟩:Addr).add j)=some u):=fun j u hj=>by
    rw[Addr.add_lit];exact(((Below.refl w.heap.size w).alloc (Nat.le_refl _) _).cell (p:=⟨b,off+j,none⟩) (block_lt_of_cell (HR j u hj))).trans (HR j u hj)
   clear hl h0;go_enter Tryz.func127,Tryz.ntmps127;go_wp2_with (at_builtin;refine wpList_append_own_at _ rfl _ _ 78 rfl w.heap.size 133 i0 (.agg #[.int .i64 0,.int .i64 0]) 2 16 Tryz.underlying78 hi hz0 hz1 hz2 rfl (by decide) _ _ _ rfl (World.ownsRow_made w #[] 0 (Nat.le_refl _) (Nat.zero_le _) (by simp)) ⟨b,off,none⟩ l.length cap news rfl HN HC H1 (by unfold maxLen;omega) (by omega) (by simp) ?_;intro v' w' hown hgr hnil hat);have hgr:(w.alloc (.cells #[] 133)).grownBy w' (some w.heap.size):=hgr;go_ret;exact⟨_,rfl,HL _ _ hown,(((Below.refl _ w).alloc (Nat.le_refl _) _).grown hgr (by simp) (by intro k hk;cases hk;exact Nat.le_refl _))⟩
theorem zk3 (a:Option Addr) (cap:Nat) (l:List Int) (w:World) (hl:SlA w 1 RBy a cap l) (hm:l.length≤10000):
  Calls Tryz.prog 60 #[js a l.length cap] w fun e w'=> ∃v,e= .returned v∧w'.ownsRow w.heap.size 5 1 v l.length (l.flatMap byC)∧jb w w':=by
 have q: ∀(w:World) (a:Option Addr) (n c n' c':Nat),(binOp .eql 22 (js a n c) (.slice none n' c')).run Tryz.prog w= .ok (.bool a.isNone) w:=fun w a n c n' c'=>Go.Lib.run_eql_slice_nil w _ _ a n c n' c' Tryz.underlying22;obtain⟨i0,hi,hz0,hz1,hz2⟩:=info_parts znn;cases a with
 | none=>
  have h0:l=[]:=by
   cases l with
   | nil=>rfl
   | cons c l=>obtain⟨b,off,vs,e,_⟩:=hl.at_ 0 (by simp);cases e
  subst h0;go_enter Tryz.func60,Tryz.ntmps60;go_wp2_with fail;go_ret;exact⟨_,rfl,World.ownsRow_nil _ _ _ _,Below.refl _ _⟩
 | some ad=>
  by_cases h0:l=[]
  ·subst h0;go_enter Tryz.func60,Tryz.ntmps60;go_wp2_with fail;go_ret;exact⟨_,rfl,World.ownsRow_made w #[] 0 (Nat.le_refl _) (Nat.zero_le _) (by simp),jal⟩
  ·obtain⟨b,off,vs0,e,-⟩:=hl.at_ 0 (List.length_pos_iff.2 h0);cases e;have HR:=hI (zgl (f:=byC) hl (fun _ _=>rfl) (fun _ _ h=>h) (by decide));have HN:Hid ((l.flatMap byC).length=l.length * 1):=zcc _ 1 l (fun _ _=>rfl)
   have H1:Hid (∀u∈l.flatMap byC,u.oneCell'=true):=by
    intro u hu;obtain⟨x,-,hx⟩:=List.mem_flatMap.1 hu;exact znt x u hx
   have HL:Hid (∀(v:Value) (W:World),W.ownsRow w.heap.size 5 1 v (0+l.length) ([]++l.flatMap byC)→W.ownsRow w.heap.size 5 1 v l.length (l.flatMap byC)):=fun v W h=>by rw[Nat.zero_add]at h;exact h
   generalize hq:l.flatMap byC=news at *
   have HC:Hid (∀j u,news[j]? =some u→(w.alloc (.cells #[] 5)).cell? ((⟨b,off,none⟩:Addr).add j)=some u):=fun j u hj=>by
    rw[Addr.add_lit];exact(((Below.refl w.heap.size w).alloc (Nat.le_refl _) _).cell (p:=⟨b,off+j,none⟩) (block_lt_of_cell (HR j u hj))).trans (HR j u hj)
   clear hl h0;go_enter Tryz.func60,Tryz.ntmps60;go_wp2_with (at_builtin;refine wpList_append_own_at _ rfl _ _ 22 rfl w.heap.size 5 i0 (.int .u8 0) 1 1 Tryz.underlying22 hi hz0 hz1 hz2 rfl (by decide) _ _ _ rfl (World.ownsRow_made w #[] 0 (Nat.le_refl _) (Nat.zero_le _) (by simp)) ⟨b,off,none⟩ l.length cap news rfl HN HC H1 (by unfold maxLen;omega) (by omega) (by simp) ?_;intro v' w' hown hgr hnil hat);have hgr:(w.alloc (.cells #[] 5)).grownBy w' (some w.heap.size):=hgr;go_ret;exact⟨_,rfl,HL _ _ hown,(((Below.refl _ w).alloc (Nat.le_refl _) _).grown hgr (by simp) (by intro k hk;cases hk;exact Nat.le_refl _))⟩
theorem znu {α:Type}{w:World}{sz:Nat}{R:World→List Value→α→Prop}{a:Option Addr}{cap:Nat}{l:List α}(h:SlA w sz R a cap l) (hz:0<sz): ∃xss:List (List Value),xss.length=l.length∧(∀x∈xss,x.length=sz)∧(∀i (h:i<xss.length) (h':i<l.length),R w xss[i] l[i])∧ ∀b off,a=some ⟨b,off,none⟩→ ∀j u,(xss.flatMap id)[j]? =some u→jc w b (off+j) u:=by
 have key: ∀i (hi:i<l.length),∃vs:List Value,vs.length=sz∧R w vs l[i]∧ ∀b off,a=some ⟨b,off,none⟩→ ∀j (hj:j<vs.length),jc w b (off+i * sz+j) vs[j]:=fun i hi=>by
  obtain⟨b,off,vs,e,hvl,hc,hr⟩:=h.at_ i hi;refine⟨vs,hvl,hr,fun b' off' e' j hj=> ?_⟩;rw[e]at e';cases e';exact hc j hj
 obtain⟨f,hf⟩: ∃f:Nat→List Value,∀i (hi:i<l.length),(f i).length=sz∧R w (f i) l[i]∧ ∀b off,a=some ⟨b,off,none⟩→ ∀j (hj:j<(f i).length),jc w b (off+i * sz+j) (f i)[j]:=
  ⟨fun i=>if hi:i<l.length then Classical.choose (key i hi)else [],fun i hi=>by simp only[dif_pos hi];exact Classical.choose_spec (key i hi)⟩
 have hlen: ∀x∈(List.range l.length).map f,x.length=sz:=fun x hx=>by
  obtain⟨i,hi,rfl⟩:=List.mem_map.1 hx;exact(hf i (List.mem_range.1 hi)).1
 refine⟨(List.range l.length).map f,by simp,hlen,fun i h1 h2=>by simp only[List.getElem_map,List.getElem_range];exact(hf i h2).2.1,fun b off e j u hj=> ?_⟩;have hl2:=zcc id sz _ hlen
 have hjl:j<l.length * sz:=by
  have:=(List.getElem?_eq_some_iff.1 hj).1;rw[hl2]at this
  simpa using this
 have hi:j / sz<l.length:=Nat.div_lt_of_lt_mul (by rw[Nat.mul_comm];exact hjl);have hr:j % sz<sz:=Nat.mod_lt _ hz;have hje:j / sz * sz+j % sz=j:=Nat.div_add_mod' j sz;have hi':j / sz<((List.range l.length).map f).length:=by simpa using hi
 have h1:=zdm id sz _ (j / sz) (j % sz) hi' hlen hr;rw[hje,hj]at h1;have h2:(j % sz)<(f (j / sz)).length:=by rw[(hf _ hi).1];exact hr
 have h3:=(hf _ hi).2.2 b off e (j % sz) h2;simp only[id,List.getElem_map,List.getElem_range]at h1;rw[List.getElem?_eq_getElem h2]at h1;rw[show off+j=off+j / sz * sz+j % sz by rw[Nat.add_assoc,hje],h3,h1]
theorem zvg (a:Option Addr) (cap:Nat) (l:List Sec) (w0 w:World) (hl:SlA w 3 (fun _=>zas w0) a cap l) (hm:l.length≤1000):
  Calls Tryz.prog 125 #[js a l.length cap] w fun e w'=> ∃(v:Value) (xss:List (List Value)),e= .returned v∧w'.ownsRow w.heap.size 80 3 v xss.length (xss.flatMap id)∧xss.length=l.length∧(∀x∈xss,x.length=3)∧(∀i (h:i<xss.length) (h':i<l.length),zas w0 xss[i] l[i])∧jb w w':=by
 have q: ∀(w:World) (a:Option Addr) (n c n' c':Nat),(binOp .eql 23 (js a n c) (.slice none n' c')).run Tryz.prog w= .ok (.bool a.isNone) w:=fun w a n c n' c'=>Go.Lib.run_eql_slice_nil w _ _ a n c n' c' Tryz.underlying23;obtain⟨i0,hi,hz0,hz1,hz2⟩:=info_parts zno;cases a with
 | none=>
  have h0:l=[]:=by
   cases l with
   | nil=>rfl
   | cons c l=>obtain⟨b,off,vs,e,_⟩:=hl.at_ 0 (by simp);cases e
  subst h0;go_enter Tryz.func125,Tryz.ntmps125;go_wp2_with fail;go_ret;exact⟨_,[],rfl,World.ownsRow_nil _ _ _ _,rfl,fun x h=>by simp at h,fun i h=>by simp at h,Below.refl _ _⟩
 | some ad=>
  by_cases h0:l=[]
  ·subst h0;go_enter Tryz.func125,Tryz.ntmps125;go_wp2_with fail;go_ret;exact⟨_,[],rfl,World.ownsRow_made w #[] 0 (Nat.le_refl _) (Nat.zero_le _) (by simp),rfl,fun x h=>by simp at h,fun i h=>by simp at h,jal⟩
  ·obtain⟨b,off,vs0,e,-⟩:=hl.at_ 0 (List.length_pos_iff.2 h0);cases e;obtain⟨xss,hxl,hxs,hrd,hrr⟩:=znu hl (by decide);have HR:=hI (hrr b off rfl);have HN:Hid ((xss.flatMap id).length=l.length * 3):=by show _=_;rw[zcc id 3 xss hxs,hxl]
   have H1:Hid (∀u∈xss.flatMap id,u.oneCell'=true):=by
    intro u hu;obtain⟨x,hxm,hx⟩:=List.mem_flatMap.1 hu;obtain⟨i,hi,rfl⟩:=List.getElem_of_mem hxm;obtain⟨e,h3,h4⟩:=hrd i hi (by rw[←hxl];exact hi);rw[h3]at hx;obtain⟨a9,c9,h9,-⟩:=h4;simp only[id,List.mem_cons,List.not_mem_nil,or_false]at hx;rcases hx with rfl | rfl | rfl
    ·rfl
    ·rfl
    ·rw[h9];rfl
   have HL:Hid (∀(v:Value) (W:World),W.ownsRow w.heap.size 80 3 v (0+l.length) ([]++xss.flatMap id)→W.ownsRow w.heap.size 80 3 v xss.length (xss.flatMap id)):=fun v W h=>by rw[Nat.zero_add,←hxl]at h;exact h
   have HF:Hid (xss.length=l.length∧(∀x∈xss,x.length=3)∧(∀i (h:i<xss.length) (h':i<l.length),zas w0 xss[i] l[i])):=⟨hxl,hxs,hrd⟩;clear hxl hxs hrd hrr;generalize hq:xss.flatMap id=news at *
   have HC:Hid (∀j u,news[j]? =some u→(w.alloc (.cells #[] 80)).cell? ((⟨b,off,none⟩:Addr).add j)=some u):=fun j u hj=>by
    rw[Addr.add_lit];exact(((Below.refl w.heap.size w).alloc (Nat.le_refl _) _).cell (p:=⟨b,off+j,none⟩) (block_lt_of_cell (HR j u hj))).trans (HR j u hj)
   clear hl h0;go_enter Tryz.func125,Tryz.ntmps125;go_wp2_with (at_builtin;refine wpList_append_own_at _ rfl _ _ 23 rfl w.heap.size 80 i0 (.agg #[.int .i64 0,.int .i64 0,.slice none 0 0]) 3 40 Tryz.underlying23 hi hz0 hz1 hz2 rfl (by decide) _ _ _ rfl (World.ownsRow_made w #[] 0 (Nat.le_refl _) (Nat.zero_le _) (by simp)) ⟨b,off,none⟩ l.length cap news rfl HN HC H1 (by unfold maxLen;omega) (by omega) (by simp) ?_;intro v' w' hown hgr hnil hat);have hgr:(w.alloc (.cells #[] 80)).grownBy w' (some w.heap.size):=hgr;go_ret;exact⟨_,xss,rfl,by rw[hq];exact HL _ _ hown,HF.1,HF.2.1,HF.2.2,(((Below.refl _ w).alloc (Nat.le_refl _) _).grown hgr (by simp) (by intro k hk;cases hk;exact Nat.le_refl _))⟩
theorem zvh (a:Option Addr) (cap:Nat) (l:List Rt) (w0 w:World) (hl:SlA w 7 (fun _=>RRt w0) a cap l) (hm:l.length≤1000):
  Calls Tryz.prog 126 #[js a l.length cap] w fun e w'=> ∃(v:Value) (xss:List (List Value)),e= .returned v∧w'.ownsRow w.heap.size 102 7 v xss.length (xss.flatMap id)∧xss.length=l.length∧(∀x∈xss,x.length=7)∧(∀i (h:i<xss.length) (h':i<l.length),RRt w0 xss[i] l[i])∧jb w w':=by
 have q: ∀(w:World) (a:Option Addr) (n c n' c':Nat),(binOp .eql 26 (js a n c) (.slice none n' c')).run Tryz.prog w= .ok (.bool a.isNone) w:=fun w a n c n' c'=>Go.Lib.run_eql_slice_nil w _ _ a n c n' c' Tryz.underlying26;obtain⟨i0,hi,hz0,hz1,hz2⟩:=info_parts znp;cases a with
 | none=>
  have h0:l=[]:=by
   cases l with
   | nil=>rfl
   | cons c l=>obtain⟨b,off,vs,e,_⟩:=hl.at_ 0 (by simp);cases e
  subst h0;go_enter Tryz.func126,Tryz.ntmps126;go_wp2_with fail;go_ret;exact⟨_,[],rfl,World.ownsRow_nil _ _ _ _,rfl,fun x h=>by simp at h,fun i h=>by simp at h,Below.refl _ _⟩
 | some ad=>
  by_cases h0:l=[]
  ·subst h0;go_enter Tryz.func126,Tryz.ntmps126;go_wp2_with fail;go_ret;exact⟨_,[],rfl,World.ownsRow_made w #[] 0 (Nat.le_refl _) (Nat.zero_le _) (by simp),rfl,fun x h=>by simp at h,fun i h=>by simp at h,jal⟩
  ·obtain⟨b,off,vs0,e,-⟩:=hl.at_ 0 (List.length_pos_iff.2 h0);cases e;obtain⟨xss,hxl,hxs,hrd,hrr⟩:=znu hl (by decide);have HR:=hI (hrr b off rfl);have HN:Hid ((xss.flatMap id).length=l.length * 7):=by show _=_;rw[zcc id 7 xss hxs,hxl]
   have H1:Hid (∀u∈xss.flatMap id,u.oneCell'=true):=by
    intro u hu;obtain⟨x,hxm,hx⟩:=List.mem_flatMap.1 hu;obtain⟨i,hi,rfl⟩:=List.getElem_of_mem hxm;obtain⟨p,o,f,h3,h4⟩:=hrd i hi (by rw[←hxl];exact hi);rw[h3]at hx;obtain⟨a7,c7,h7,-⟩:=h4.A.at_;obtain⟨a8,c8,h8,-⟩:=h4.O.at_;obtain⟨a9,c9,h9,-⟩:=h4.fl;simp only[id,List.mem_cons,List.not_mem_nil,or_false]at hx;rcases hx with rfl | rfl | rfl | rfl | rfl | rfl | rfl
    ·rfl
    ·rfl
    ·rfl
    ·rw[h7];rfl
    ·rw[h8];rfl
    ·rw[h9];rfl
    ·rfl
   have HL:Hid (∀(v:Value) (W:World),W.ownsRow w.heap.size 102 7 v (0+l.length) ([]++xss.flatMap id)→W.ownsRow w.heap.size 102 7 v xss.length (xss.flatMap id)):=fun v W h=>by rw[Nat.zero_add,←hxl]at h;exact h
   have HF:Hid (xss.length=l.length∧(∀x∈xss,x.length=7)∧(∀i (h:i<xss.length) (h':i<l.length),RRt w0 xss[i] l[i])):=⟨hxl,hxs,hrd⟩;clear hxl hxs hrd hrr;generalize hq:xss.flatMap id=news at *
   have HC:Hid (∀j u,news[j]? =some u→(w.alloc (.cells #[] 102)).cell? ((⟨b,off,none⟩:Addr).add j)=some u):=fun j u hj=>by
    rw[Addr.add_lit];exact(((Below.refl w.heap.size w).alloc (Nat.le_refl _) _).cell (p:=⟨b,off+j,none⟩) (block_lt_of_cell (HR j u hj))).trans (HR j u hj)
   clear hl h0;go_enter Tryz.func126,Tryz.ntmps126;go_wp2_with (at_builtin;refine wpList_append_own_at _ rfl _ _ 26 rfl w.heap.size 102 i0 (.agg #[.int .i64 0,.int .i64 0,.int .i64 0,.slice none 0 0,.slice none 0 0,.slice none 0 0,.int .i64 0]) 7 104 Tryz.underlying26 hi hz0 hz1 hz2 rfl (by decide) _ _ _ rfl (World.ownsRow_made w #[] 0 (Nat.le_refl _) (Nat.zero_le _) (by simp)) ⟨b,off,none⟩ l.length cap news rfl HN HC H1 (by unfold maxLen;omega) (by omega) (by simp) ?_;intro v' w' hown hgr hnil hat);have hgr:(w.alloc (.cells #[] 102)).grownBy w' (some w.heap.size):=hgr;go_ret;exact⟨_,xss,rfl,by rw[hq];exact HL _ _ hown,HF.1,HF.2.1,HF.2.2,(((Below.refl _ w).alloc (Nat.le_refl _) _).grown hgr (by simp) (by intro k hk;cases hk;exact Nat.le_refl _))⟩
def zd3 (l:List Int):Prop:= ∀x∈l,0≤x∧x≤255
theorem znv: ∀ {l m:List Int},zd3 l→zd3 m→l.map (fun n=>UInt8.ofNat n.toNat)=m.map (fun n=>UInt8.ofNat n.toNat)→l=m
 | [],[],_,_,_=>rfl
 | [],y::m,_,_,h=>by simp at h
 | x::l,[],_,_,h=>by simp at h
 | x::l,y::m,hl,hm,h=>by
  simp only[List.map_cons,List.cons.injEq]at h;have hx:=hl x List.mem_cons_self;have hy:=hm y List.mem_cons_self
  have e:x=y:=by
   have h1:=congrArg UInt8.toNat h.1;simp only[UInt8.toNat_ofNat']at h1;omega
  rw[e,znv (fun z hz=>hl z (List.mem_cons_of_mem _ hz)) (fun z hz=>hm z (List.mem_cons_of_mem _ hz)) h.2]
theorem zk4 {l m:List Int}(hl:zd3 l) (hm:zd3 m):((Go.strOfNums l).toList==(Go.strOfNums m).toList)=decide (l=m):=by
 rw[Bool.eq_iff_iff,beq_iff_eq,decide_eq_true_iff];constructor
 ·intro h
  have h1: ∀xs:List Int,(Go.strOfNums xs).toList=xs.map (fun n=>UInt8.ofNat n.toNat):=fun xs=>by
   rw[←Go.strOfNums_data];exact ByteArray.toList_eq _
  rw[h1,h1]at h;exact znv hl hm h
 ·rintro rfl;rfl
theorem zvi (w:World) (p:Option Addr) (c:Nat):(convert 22 9 (js p 0 c)).run Tryz.prog w= .ok (.string ByteArray.empty) w:=by
 rw[run_convert_bytes_string w 22 9 5 _ 0 c Tryz.underlying22 Tryz.underlying5 Tryz.underlying9];cases p<;>simp[Conv.bytesToString,loadCells]
 all_goals rfl
theorem zg8 {w:World}{a:Option Addr}{cap:Nat}{l:List Int}(hl:SlA w 1 RBy a cap l):(convert 22 9 (js a l.length cap)).run Tryz.prog w= .ok (.string (Go.strOfNums l)) w:=by
 cases a with
 | none=>
  have h0:l=[]:=by
   cases l with
   | nil=>rfl
   | cons c l=>obtain⟨b,off,vs,e,_⟩:=hl.at_ 0 (by simp);cases e
  subst h0;exact Go.run_convert_bytes_nil w 22 5 Tryz.underlying22 Tryz.underlying5 _ _ 9 Tryz.underlying9
 | some ad=>
  by_cases h0:l=[]
  ·subst h0;exact zvi w (some ad) cap
  ·obtain⟨b,off,vs0,e,-⟩:=hl.at_ 0 (List.length_pos_iff.2 h0);cases e;refine Go.run_convert_bytes_arg w 22 5 Tryz.underlying22 Tryz.underlying5 b off l.length cap l rfl (fun i hi=> ?_) 9 Tryz.underlying9;obtain⟨b',off',vs,e,hvl,hc,hr⟩:=hl.at_ i hi;cases e;obtain rfl:vs=[.int .u8 l[i]]:=hr;have:=hc 0 (by simp)
   simpa [List.getD_eq_getElem?_getD,hi]using this
theorem znw (a b:Option Addr) (ca cb:Nat) (l m:List Int) (w:World) (hl:SlA w 1 RBy a ca l) (hm:SlA w 1 RBy b cb m) (h1:zd3 l) (h2:zd3 m):
  Calls Tryz.prog 72 #[js a l.length ca,js b m.length cb] w (zae w (decide (l=m))):=by
 have q1:=zg8 hl;have q2:=zg8 hm;have HE:=hI (zk4 h1 h2);clear hl hm h1 h2;generalize Go.strOfNums l=S at *;generalize Go.strOfNums m=T at *;go_enter Tryz.func72,Tryz.ntmps72;go_wp2_with fail;go_ret;exact⟨by rw[←HE.out];rfl,Below.refl _ _⟩
def zbs (s:Sec) (a b:Int):Int:=
 if s.pt=0 then(if(a=0∧b=1)∨(a=1∧b=0)then 0 else-1)
 else if a=0∧(b=1∨b=2)then b else if b=0∧(a=1∨a=2)then a else-1
theorem znx {s:Sec}(h:s.Shaped) (a b:Int):zc3 s a b=if a<0∨2<a∨b<0∨2<b∨zfa s.pt a b=0 then 2 else 0:=by
 unfold zc3;rw[if_neg (by simpa using h)]
theorem zvj {s:Sec}(h:s.Shaped){a b:Int}(hb: ¬0≤zbs s a b):zc3 s a b≠0:=by
 rw[znx h];unfold zbs at hb;unfold zfa;split at hb
 ·rename_i h0
  rw[if_pos h0];split at hb
  ·omega
  ·rename_i h1;rw[if_neg h1];simp
 ·rename_i h0
  rw[if_neg h0];split at hb
  ·omega
  ·split at hb
   ·omega
   ·rename_i h1 h2
    have e1: ¬((a=0∧b=1)∨(a=1∧b=0)):=(by omega);have e2: ¬((a=0∧b=2)∨(a=2∧b=0)):=(by omega);rw[if_neg e1,if_neg e2];simp
theorem zny {s:Sec}(h:s.Shaped){a b:Int}(hb:0≤zbs s a b):zc3 s a b=0∧zdt s a b=zbs s a b:=by
 have key:zc3 s a b=0∧(zfa s.pt a b).tmod 3=zbs s a b:=by
  rw[znx h];unfold zbs at *;unfold zfa;by_cases h0:s.pt=0
  ·rw[if_pos h0]at hb;by_cases h1:(a=0∧b=1)∨(a=1∧b=0)
   ·simp only[if_pos h0,if_pos h1];refine⟨by rw[if_neg (by omega)],by decide⟩
   ·rw[if_neg h1]at hb;omega
  ·rw[if_neg h0]at hb;simp only[if_neg h0];by_cases h1:a=0∧(b=1∨b=2)
   ·obtain⟨rfl,h2⟩:=h1;rcases h2 with rfl | rfl<;>refine⟨by simp,by simp⟩
   ·rw[if_neg h1]at hb;by_cases h2:b=0∧(a=1∨a=2)
    ·obtain⟨rfl,h3⟩:=h2;rcases h3 with rfl | rfl<;>refine⟨by simp,by simp⟩
    ·rw[if_neg h2]at hb;omega
 refine⟨key.1,?_⟩;unfold zdt;rw[if_pos key.1];exact key.2
def za9 (p:Pl) (sec en:Int):Int:=match p.G.find? (fun x=>decide (x.sec=sec∧x.en=en))with | some x=>x.id | none=>0
def zai (p:Pl) (r:Rt) (i:Nat):Sec:=za1 Sec.id zcy p.S ((zaa r).getD i 0)
def zc1 (p:Pl) (r:Rt) (i:Nat) (a:Int) (e:Nat):Bool:=
 decide (0≤zbs (zai p r i) a e)&&
  (if i+1=r.A.length then decide ((r.X=0∧((zai p r i).ends.getD e ⟨0,0⟩).to=0)∨(r.X≠0∧za9 p (zai p r i).id e=r.X))
   else decide (((zai p r i).ends.getD e ⟨0,0⟩).to=(zaa r).getD (i+1) 0))
def zca (p:Pl) (r:Rt) (i:Nat) (a:Int):Option Nat:=(List.range (zai p r i).ends.length).find? (zc1 p r i a)
structure Rw where
 ins:List Int
 outs:List Int
 j:Jn
def ze4 (p:Pl) (r:Rt) (i:Nat) (w:Rw):Option Rw:=
 if w.j.to≠(zaa r).getD i 0 then none
 else if i+1=(zaa r).length∧0<r.O.length then some ⟨w.ins++[w.j.en],w.outs++[-1],w.j⟩
 else match zca p r i w.j.en with
  | none=>none
  | some e=>some ⟨w.ins++[w.j.en],w.outs++[(e:Int)],(zai p r i).ends.getD e ⟨0,0⟩⟩
def zbv (p:Pl) (r:Rt):Nat→Option Rw
 | 0=>some ⟨[],[],zhl p r⟩
 | i+1=>(zbv p r i).bind (ze4 p r i)
def zbp (p:Pl) (r:Rt):Option Rw:=zbv p r (zaa r).length
def zfd (p:Pl) (r:Rt) (i:Nat) (a o:Int):List Ask:=
 if(zai p r i).pt=0 then []else
  if 0<(if 0≤o then zbs (zai p r i) a o else a)then [⟨(zai p r i).pt,if 0≤o then zbs (zai p r i) a o else a,i⟩]else []
def zc2 (p:Pl) (r:Rt) (ins outs:List Int):Nat→List Ask
 | 0=>[]
 | i+1=>zc2 p r ins outs i++zfd p r i (ins.getD i 0) (outs.getD i 0)
def zed (r:Rt) (outs:List Int):Nat→List Jn
 | 0=>[]
 | i+1=>zed r outs i++(if 0≤outs.getD i 0 then [⟨(zaa r).getD i 0,outs.getD i 0⟩]else [])
theorem zk5 (p:Pl) (r:Rt) (ins outs:List Int) (a o:Int): ∀i,i≤ins.length→i≤outs.length→zc2 p r (ins++[a]) (outs++[o]) i=zc2 p r ins outs i
 | 0,_,_=>rfl
 | i+1,h1,h2=>by
  rw[zc2,zc2,zk5 p r ins outs a o i (by omega) (by omega)];have e1:(ins++[a]).getD i 0=ins.getD i 0:=by simp only[List.getD_eq_getElem?_getD];rw[List.getElem?_append_left (by omega)]
  have e2:(outs++[o]).getD i 0=outs.getD i 0:=by simp only[List.getD_eq_getElem?_getD];rw[List.getElem?_append_left (by omega)]
  rw[e1,e2]
theorem zk6 (r:Rt) (outs:List Int) (o:Int): ∀i,i≤outs.length→zed r (outs++[o]) i=zed r outs i
 | 0,_=>rfl
 | i+1,h2=>by
  rw[zed,zed,zk6 r outs o i (by omega)];have e2:(outs++[o]).getD i 0=outs.getD i 0:=by simp only[List.getD_eq_getElem?_getD];rw[List.getElem?_append_left (by omega)]
  rw[e2]
theorem zh1 (l:List Int) (a:Int):(l++[a]).getD l.length 0=a:=by simp[List.getD_eq_getElem?_getD]
theorem zi5 (p:Pl) (r:Rt): ∀i w,zbv p r i=some w→w.ins.length=i∧w.outs.length=i
 | 0,w,h=>by cases h;exact⟨rfl,rfl⟩
 | i+1,w,h=>by
  rw[zbv]at h;cases hp:zbv p r i with
  | none=>rw[hp]at h;cases h
  | some v=>
   rw[hp]at h;have h:ze4 p r i v=some w:=h;obtain⟨h1,h2⟩:=zi5 p r i v hp;unfold ze4 at h;split at h
   ·cases h
   ·split at h
    ·cases h;simp[h1,h2]
    ·split at h
     ·cases h
     ·cases h;simp[h1,h2]
structure zfo (p:Pl) (r:Rt):Prop where
 shaped: ∀i,i<(zaa r).length→za2 Sec.id p.S ((zaa r).getD i 0)=true∧(zai p r i).Shaped∧(zai p r i).id=(zaa r).getD i 0
 ends: ∀i,i<(zaa r).length→ ∀e (he:e<(zai p r i).ends.length),(zai p r i).ends[e].to=0→(zai p r i).ends[e].en=0
 A:1≤r.A.length
 X:r.X≠0→ ∀s e:Int,za9 p s e=r.X↔(s=(zbe p r.X).sec∧e=(zbe p r.X).en)
 O:r.X=0→r.O.length=0
theorem zes (r:Rt):(zaa r).length=r.A.length+r.O.length:=by unfold zaa;simp
theorem znz {f g:Nat→Bool}: ∀ {l:List Nat},(∀e∈l,f e=g e)→l.find? f=l.find? g
 | [],_=>rfl
 | x::l,h=>by
  rw[List.find?_cons,List.find?_cons,h x List.mem_cons_self,znz fun e he=>h e (List.mem_cons_of_mem _ he)]
theorem zvk {p:Pl}{r:Rt}(hf:zfo p r){i:Nat}(hi:i<(zaa r).length){k:Wk}(hl:k.lost=false){a:Int}(ha:k.inn.en=a){right:Nat→Jn→Bool}
  (hr: ∀e,e<(zai p r i).ends.length→right e ((zai p r i).ends.getD e ⟨0,0⟩)=(if i+1=r.A.length then decide ((r.X=0∧((zai p r i).ends.getD e ⟨0,0⟩).to=0)∨(r.X≠0∧za9 p (zai p r i).id e=r.X))else decide (((zai p r i).ends.getD e ⟨0,0⟩).to=(zaa r).getD (i+1) 0))):
  (List.range (zai p r i).ends.length).find? (zd9 (zai p r i) k right)=zca p r i a:=by
 unfold zca;refine znz fun e he=> ?_;have he:=List.mem_range.1 he;unfold zd9 zc1;rw[hl,hr e he,ha];simp only[Bool.not_false,Bool.true_and]
 congr 1
 rw[decide_eq_decide];have hs:=(hf.shaped i hi).2.1;constructor
 ·intro h;by_cases hb:0≤zbs (zai p r i) a e
  ·exact hb
  ·exact absurd h (zvj hs hb)
 ·intro h;exact(zny hs h).1
theorem zvl {p:Pl}{r:Rt}(hf:zfo p r){i:Nat}(hi:i<(zaa r).length){a:Int}{e:Nat}(he:0≤zbs (zai p r i) a e) (k:Wk):
  zb9 k (zai p r i).pt (zdt (zai p r i) a e) i={k with asks:=k.asks++zfd p r i a e}:=by
 have hs:=(hf.shaped i hi).2.1;rw[(zny hs he).2];unfold zb9 zfd;rw[if_pos (Int.natCast_nonneg e)];have hp:0≤(zai p r i).pt:=by rcases hs with h | h<;>omega
 by_cases h0:(zai p r i).pt=0
 ·rw[if_neg (by omega),if_pos h0];simp
 ·rw[if_neg h0];by_cases h1:0<zbs (zai p r i) a e
  ·rw[if_pos ⟨by omega,h1⟩,if_pos h1]
  ·rw[if_neg (fun h=>h1 h.2),if_neg h1];simp
def zbb (p:Pl) (r:Rt) (i:Nat) (w:Rw):Wk:=⟨w.j,zc2 p r w.ins w.outs i,zed r w.outs i,false⟩
theorem zvm {p:Pl}{r:Rt}(hf:zfo p r){i:Nat}(hi:i<(zaa r).length){w:Rw}(hw:w.ins.length=i∧w.outs.length=i) (hj:w.j.to=(zaa r).getD i 0){right:Nat→Jn→Bool}
  (hr: ∀e,e<(zai p r i).ends.length→right e ((zai p r i).ends.getD e ⟨0,0⟩)=(if i+1=r.A.length then decide ((r.X=0∧((zai p r i).ends.getD e ⟨0,0⟩).to=0)∨(r.X≠0∧za9 p (zai p r i).id e=r.X))else decide (((zai p r i).ends.getD e ⟨0,0⟩).to=(zaa r).getD (i+1) 0))):
  match zca p r i w.j.en with
  | none=>(zcz p.S (zbb p r i w) ((zaa r).getD i 0) i right).lost=true
  | some e=>zcz p.S (zbb p r i w) ((zaa r).getD i 0) i right=zbb p r (i+1) ⟨w.ins++[w.j.en],w.outs++[(e:Int)],(zai p r i).ends.getD e ⟨0,0⟩⟩:=by
 have hin:zez p.S (zbb p r i w) ((zaa r).getD i 0):=⟨(hf.shaped i hi).1,hj⟩;have h1:zcs p.S (zbb p r i w) ((zaa r).getD i 0)=zai p r i:=by unfold zcs;rw[if_pos hin];rfl
 have h2:wkS p.S (zbb p r i w) ((zaa r).getD i 0)=zbb p r i w:=by unfold wkS;rw[if_pos hin]
 have hg:=zvk hf hi (k:=zbb p r i w) rfl (a:=w.j.en) rfl hr;unfold zcz;rw[h1,h2];unfold zdg;rw[hg];cases ho:zca p r i w.j.en with
 | none=>rfl
 | some e=>
  simp only;have hok:=List.find?_some ho;unfold zc1 at hok;rw[Bool.and_eq_true,decide_eq_true_eq]at hok;have ha:=zvl hf hi hok.1 (zbb p r i w);have e0:(zbb p r i w).inn.en=w.j.en:=rfl;rw[e0,ha];unfold zbb;have g1:(w.ins++[w.j.en]).getD i 0=w.j.en:=by rw[←hw.1];exact zh1 _ _
  have g2:(w.outs++[(e:Int)]).getD i 0=(e:Int):=by rw[←hw.2];exact zh1 _ _
  simp only[zc2,zed,zk5 p r w.ins w.outs w.j.en e i (by omega) (by omega),zk6 r w.outs e i (by omega),g1,g2,if_pos (Int.natCast_nonneg e)]
theorem zvn {p:Pl}{r:Rt}{i:Nat}{k:Wk}(h:k.inn.to≠(zaa r).getD i 0):(za8 p r i k).lost=true:=by
 have hn: ¬zez p.S k ((zaa r).getD i 0):=fun hh=>h hh.2;have hs:(wkS p.S k ((zaa r).getD i 0)).lost=true:=by unfold wkS;rw[if_neg hn]
 have ht: ∀id pl right,id=(zaa r).getD i 0→(zcz p.S k id pl right).lost=true:=by
  intro id pl right e;subst e;cases hq:(zcz p.S k ((zaa r).getD i 0) pl right).lost with
  | true=>rfl
  | false=>
   have:=(zl7 _ _ _ _ _ hq).1;rw[hs]at this;cases this
 unfold za8;split
 ·exact ht _ _ _ rfl
 ·split
  ·exact ht _ _ _ rfl
  ·split
   ·unfold zew;rw[if_neg (by rw[hs];simp)];exact hs
   ·exact ht _ _ _ rfl
theorem zvo {p:Pl}{r:Rt}(hf:zfo p r){i:Nat}(hi:i<(zaa r).length) (hp:i+1=r.A.length) (hx:r.X=0) (e:Nat) (he:e<(zai p r i).ends.length):
  zfk e ((zai p r i).ends.getD e ⟨0,0⟩)=(if i+1=r.A.length then decide ((r.X=0∧((zai p r i).ends.getD e ⟨0,0⟩).to=0)∨(r.X≠0∧za9 p (zai p r i).id e=r.X))else decide (((zai p r i).ends.getD e ⟨0,0⟩).to=(zaa r).getD (i+1) 0)):=by
 rw[if_pos hp];unfold zfk;rw[decide_eq_decide];have h1:(zai p r i).ends.getD e ⟨0,0⟩=(zai p r i).ends[e]:=by simp[List.getD_eq_getElem?_getD,List.getElem?_eq_getElem he]
 rw[h1];constructor
 ·intro h;exact .inl ⟨hx,h.1⟩
 ·rintro(h | h)
  ·exact⟨h.2,hf.ends i hi e he h.2⟩
  ·exact absurd hx h.1
theorem zvp {p:Pl}{r:Rt}(hf:zfo p r){i:Nat}(hi:i<(zaa r).length) (hp:i+1=r.A.length) (hx:r.X≠0) (e:Nat) (he:e<(zai p r i).ends.length):
  zfz ((zaa r).getD i 0) (zbe p r.X) e ((zai p r i).ends.getD e ⟨0,0⟩)=(if i+1=r.A.length then decide ((r.X=0∧((zai p r i).ends.getD e ⟨0,0⟩).to=0)∨(r.X≠0∧za9 p (zai p r i).id e=r.X))else decide (((zai p r i).ends.getD e ⟨0,0⟩).to=(zaa r).getD (i+1) 0)):=by
 rw[if_pos hp];unfold zfz;rw[decide_eq_decide,←(hf.shaped i hi).2.2,←hf.X hx];constructor
 ·intro h;exact .inr ⟨hx,h⟩
 ·rintro(h | h)
  ·exact absurd h.1 hx
  ·exact h.2
theorem zvq {p:Pl}{r:Rt}{i:Nat}(hp:i+1≠r.A.length) (e:Nat) (he:e<(zai p r i).ends.length):
  zgd ((zaa r).getD (i+1) 0) e ((zai p r i).ends.getD e ⟨0,0⟩)=(if i+1=r.A.length then decide ((r.X=0∧((zai p r i).ends.getD e ⟨0,0⟩).to=0)∨(r.X≠0∧za9 p (zai p r i).id e=r.X))else decide (((zai p r i).ends.getD e ⟨0,0⟩).to=(zaa r).getD (i+1) 0)):=by
 rw[if_neg hp];rfl
theorem zvr {p:Pl}{r:Rt}(hf:zfo p r){i:Nat}(hi:i<(zaa r).length){w:Rw}(hw:w.ins.length=i∧w.outs.length=i):
  match ze4 p r i w with
  | none=>(za8 p r i (zbb p r i w)).lost=true
  | some v=>za8 p r i (zbb p r i w)=zbb p r (i+1) v:=by
 have hal:=zes r;unfold ze4;by_cases hj:w.j.to≠(zaa r).getD i 0
 ·rw[if_pos hj];exact zvn hj
 ·rw[if_neg hj];have hj:w.j.to=(zaa r).getD i 0:=Classical.not_not.1 hj;by_cases hs:i+1=(zaa r).length∧0<r.O.length
  ·rw[if_pos hs];show za8 p r i (zbb p r i w)=zbb p r (i+1) ⟨w.ins++[w.j.en],w.outs++[-1],w.j⟩;have hin:zez p.S (zbb p r i w) ((zaa r).getD i 0):=⟨(hf.shaped i hi).1,hj⟩;have h1:zcs p.S (zbb p r i w) ((zaa r).getD i 0)=zai p r i:=(by unfold zcs;rw[if_pos hin];rfl);have h2:wkS p.S (zbb p r i w) ((zaa r).getD i 0)=zbb p r i w:=(by unfold wkS;rw[if_pos hin]);unfold za8;rw[if_neg (by omega),if_neg (by omega),if_pos hs.1];unfold zew;rw[h1,h2];have g1:(w.ins++[w.j.en]).getD i 0=w.j.en:=(by rw[←hw.1];exact zh1 _ _);have g2:(w.outs++[(-1:Int)]).getD i 0= -1:=(by rw[←hw.2];exact zh1 _ _);have e0:(zbb p r i w).inn.en=w.j.en:=rfl;have e1:(zbb p r i w).lost=false:=rfl;have hp:0≤(zai p r i).pt:=by rcases(hf.shaped i hi).2.1 with h | h<;>omega
   have ea:zbb p r (i+1) ⟨w.ins++[w.j.en],w.outs++[-1],w.j⟩={zbb p r i w with asks:=(zbb p r i w).asks++zfd p r i w.j.en (-1)}:=by
    unfold zbb;simp only[zc2,zed,zk5 p r w.ins w.outs w.j.en (-1) i (by omega) (by omega),zk6 r w.outs (-1) i (by omega),g1,g2];simp
   rw[ea,e0,e1];unfold zfd zb9;by_cases h0:0<w.j.en
   ·rw[if_pos ⟨rfl,h0⟩];by_cases h3:(zai p r i).pt=0
    ·rw[if_neg (by omega),if_pos h3];simp
    ·rw[if_pos ⟨by omega,h0⟩,if_neg h3];simp[h0]
   ·rw[if_neg (fun h=>h0 h.2)];by_cases h3:(zai p r i).pt=0
    ·rw[if_pos h3];simp
    ·rw[if_neg h3];simp[h0]
  ·rw[if_neg hs]
   have key: ∀right,(∀e,e<(zai p r i).ends.length→right e ((zai p r i).ends.getD e ⟨0,0⟩)=(if i+1=r.A.length then decide ((r.X=0∧((zai p r i).ends.getD e ⟨0,0⟩).to=0)∨(r.X≠0∧za9 p (zai p r i).id e=r.X))else decide (((zai p r i).ends.getD e ⟨0,0⟩).to=(zaa r).getD (i+1) 0)))→za8 p r i (zbb p r i w)=zcz p.S (zbb p r i w) ((zaa r).getD i 0) i right→
     match (match zca p r i w.j.en with | none=>none | some e=>some (⟨w.ins++[w.j.en],w.outs++[(e:Int)],(zai p r i).ends.getD e ⟨0,0⟩⟩:Rw))with
     | none=>(za8 p r i (zbb p r i w)).lost=true
     | some v=>za8 p r i (zbb p r i w)=zbb p r (i+1) v:=by
    intro right hr he;have:=zvm hf hi hw hj hr;rw[he];cases ho:zca p r i w.j.en with
    | none=>rw[ho]at this;exact this
    | some e=>rw[ho]at this;exact this
   by_cases hp:i+1=r.A.length
   ·by_cases hx:r.X=0
    ·exact key zfk (zvo hf hi hp hx) (by unfold za8;rw[if_pos ⟨hp,hx⟩])
    ·exact key _ (zvp hf hi hp hx) (by unfold za8;rw[if_neg (fun h=>hx h.2),if_pos hp])
   ·exact key _ (zvq hp) (by unfold za8;rw[if_neg (fun h=>hp h.1),if_neg hp,if_neg (by omega)])
theorem zi6 {p:Pl}{r:Rt}(hf:zfo p r): ∀i,i≤(zaa r).length→
  match zbv p r i with
  | none=>(za7 p r i).lost=true
  | some w=>za7 p r i=zbb p r i w
 | 0,_=>rfl
 | i+1,hi=>by
  have ih:=zi6 hf i (by omega);rw[zbv];cases hp:zbv p r i with
  | none=>
   rw[hp]at ih;have ih:(za7 p r i).lost=true:=ih;show(za8 p r i (za7 p r i)).lost=true;cases hq:(za8 p r i (za7 p r i)).lost with
   | true=>rfl
   | false=>
    have:=(zl8 p r i _ hq).1;rw[ih]at this;cases this
  | some w=>
   rw[hp]at ih;have ih:za7 p r i=zbb p r i w:=ih;have h1:=zvr hf (i:=i) (by omega) (zi5 p r i w hp);show match ze4 p r i w with | none=>(za8 p r i (za7 p r i)).lost=true | some v=>za8 p r i (za7 p r i)=zbb p r (i+1) v
   rw[ih];exact h1
theorem zvs {α:Type}{f:α→Int}{l:List α}(h:zat f l l.length){x y:α}(hx:x∈l) (hy:y∈l) (e:f x=f y):x=y:=by
 obtain⟨i,hi,rfl⟩:=List.getElem_of_mem hx;obtain⟨j,hj,rfl⟩:=List.getElem_of_mem hy;rcases Nat.lt_trichotomy i j with q | q | q
 ·have:=zg4 h hj q;omega
 ·subst q;rfl
 ·have:=zg4 h hi q;omega
theorem zvt {l:List Sec}(h:za4 l l.length){x y:Sec}(hx:x∈l) (hy:y∈l) (e:x.id=y.id):x=y:=by
 obtain⟨i,hi,rfl⟩:=List.getElem_of_mem hx;obtain⟨j,hj,rfl⟩:=List.getElem_of_mem hy;rcases Nat.lt_trichotomy i j with q | q | q
 ·have:=((h j hj hj).2 i q).1;omega
 ·subst q;rfl
 ·have:=((h i hi hi).2 j q).1;omega
theorem zk7 {p:Pl}(h:zaq p):za4 p.S p.S.length:=h.1.2.2.2.2.2.1
theorem zvu {p:Pl}(h:zaq p):zel p.S p.S.length:=h.1.2.2.2.2.2.2
theorem zn0 {p:Pl}(h:zaq p):zat Sg.id p.G p.G.length:=h.2.1.2.1.1.1
theorem zn1 {p:Pl}(h:zaq p):ze9 (zax p.S p.S.length) p.G p.G.length:=h.2.1.2.1.2
theorem zvv {p:Pl}(h:zaq p):zat Pt.id p.P p.P.length:=h.2.1.1.1.1
theorem zn2 {p:Pl}(h:zaq p):zat Rt.id p.R p.R.length:=h.2.1.2.2.1
theorem zfe {p:Pl}(h:zaq p){k:Nat}(hk:k<p.R.length):zb2 (zax p.S p.S.length) p.G p.P p.R[k]:=h.2.2 k hk hk
theorem zi7 {l:List Sec}{n:Int}(h:zds (zax l l.length) n):za2 Sec.id l n=true:=by
 obtain⟨h0,h1,h2⟩:=h;unfold zax at h2;rw[List.take_length]at h2;cases hf:l.find? (fun s=>decide (s.id=(n.toNat:Int)))with
 | none=>rw[hf]at h2;simp at h2
 | some s=>
  have h3:=List.find?_some hf;have h4:=List.mem_of_find?_eq_some hf;unfold za2;rw[List.any_eq_true];exact⟨s,h4,by simp at h3 ⊢;omega⟩
theorem zn3 {l:List Sec}(hA:za4 l l.length){n:Int}(h:za2 Sec.id l n=true):zds (zax l l.length) n:=by
 have h1:=ze8 (z:=zcy) h;obtain⟨i,hi,e⟩:=List.getElem_of_mem h1.1;have h2:=(hA i hi hi).1;have h3:l[i].id=n:=by rw[e];exact h1.2
 refine⟨by omega,by omega,?_⟩;rw[zhy hA hi n.toNat (by omega)];rcases h2.2.2 with h4 | h4<;>omega
theorem zvw {f:Nat→Int}{l:List Sg}(h:ze9 f l l.length){x y:Sg}(hx:x∈l) (hy:y∈l) (e1:x.sec=y.sec) (e2:x.en=y.en):x=y:=by
 obtain⟨i,hi,rfl⟩:=List.getElem_of_mem hx;obtain⟨j,hj,rfl⟩:=List.getElem_of_mem hy;rcases Nat.lt_trichotomy i j with q | q | q
 ·exact absurd ⟨e1,e2⟩ ((h j hj hj).2 i q)
 ·subst q;rfl
 ·exact absurd ⟨e1.symm,e2.symm⟩ ((h i hi hi).2 j q)
theorem zn4 {p:Pl}(h:zaq p){s e:Int}{x:Sg}(hx:x∈p.G) (h1:x.sec=s) (h2:x.en=e):za9 p s e=x.id:=by
 unfold za9;cases hf:p.G.find? (fun x=>decide (x.sec=s∧x.en=e))with
 | none=>
  have:=List.find?_eq_none.1 hf x hx;exact absurd (by simp[h1,h2]) this
 | some y=>
  have h3:=List.find?_some hf;have h4:=List.mem_of_find?_eq_some hf;simp only[decide_eq_true_eq]at h3;have:=zvw (zn1 h) h4 hx (by omega) (by omega);rw[this]
theorem zk8 {p:Pl}{s e n:Int}(hn:n≠0) (h:za9 p s e=n): ∃x∈p.G,x.sec=s∧x.en=e∧x.id=n:=by
 unfold za9 at h;cases hf:p.G.find? (fun x=>decide (x.sec=s∧x.en=e))with
 | none=>rw[hf]at h;exact absurd h.symm hn
 | some y=>
  rw[hf]at h;have h3:=List.find?_some hf;simp only[decide_eq_true_eq]at h3;exact⟨y,List.mem_of_find?_eq_some hf,h3.1,h3.2,h⟩
theorem zg9 {p:Pl}(h:zaq p){k:Nat}(hk:k<p.R.length):zfo p p.R[k]:=by
 obtain⟨hH,hP,hF⟩:=zfe h hk
 have hone: ∀i (hi:i<(zaa p.R[k]).length),za2 Sec.id p.S ((zaa p.R[k]).getD i 0)=true:=fun i hi=>by
  have e:(zaa p.R[k]).getD i 0=(p.R[k].A++p.R[k].O)[i]'hi:=by
   rw[List.getD_eq_getElem?_getD,List.getElem?_eq_getElem hi];rfl
  rw[e];exact zi7 (hP i hi hi).1
 refine⟨fun i hi=> ?_,fun i hi e he h0=> ?_,hH.2.2.2.1,fun hx s e=> ?_,fun hx=>hH.2.2.1 hx⟩
 ·have h1:=ze8 (z:=zcy) (hone i hi);obtain⟨j,hj,e⟩:=List.getElem_of_mem h1.1;have h2:=(zk7 h j hj hj).1.2.2;exact⟨hone i hi,by unfold zai;rw[←e];exact h2,h1.2⟩
 ·have h1:=ze8 (z:=zcy) (hone i hi);obtain⟨j,hj,e'⟩:=List.getElem_of_mem h1.1;have ha:zai p p.R[k] i=p.S[j]:=e'.symm;have h2:=zvu h j hj hj e (by rw[←ha];exact he);have h3:(zai p p.R[k] i).ends[e]=p.S[j].ends[e]'(by rw[←ha];exact he):=by simp[ha]
  rw[h3]at h0 ⊢;rcases h2 with h2 | ⟨_,t,ht,h4,_⟩
  ·exact h2.2
  ·obtain⟨m,hm,e⟩:=List.getElem_of_mem ht;have h5:=(zk7 h m hm hm).1.1;rw[e]at h5;omega
 ·have h1:=(hH.2.1 hx).1;have h2:=ze8 (z:=zSg) h1;constructor
  ·intro h3;obtain⟨x,hx',q1,q2,q3⟩:=zk8 hx h3;have:x=zbe p p.R[k].X:=zvs (zn0 h) hx' h2.1 (by rw[q3];exact h2.2.symm);rw[←this];exact⟨q1.symm,q2.symm⟩
  ·rintro⟨q1,q2⟩;rw[zn4 h h2.1 q1.symm q2.symm];exact h2.2
def zci (p:Pl) (r:Rt) (w:Rw):List Ask:=zc2 p r w.ins w.outs (zaa r).length++r.fl.map fun f=>⟨f.pt,f.lie,-1⟩
theorem zn5 {p:Pl}{r:Rt}(hP:zat Pt.id p.P p.P.length) (hF:FlA p.P r.fl r.fl.length) (k:Wk): ∀i,i≤r.fl.length→(zbg k r.fl i).asks=k.asks++(r.fl.take i).map fun f=>⟨f.pt,f.lie,-1⟩
 | 0,_=>by simp[zbg]
 | i+1,hi=>by
  have hi':i<r.fl.length:=by omega
  have hg:r.fl.getD i ⟨0,0⟩=r.fl[i]:=by rw[List.getD_eq_getElem?_getD,List.getElem?_eq_getElem hi'];rfl
  have h1:=hF i hi' hi';have h2:=ze8 (z:=(⟨0,0⟩:Pt)) h1.1;obtain⟨j,hj,e⟩:=List.getElem_of_mem h2.1;have h3:=(hP j hj hj).1;have h4:p.P[j].id=r.fl[i].pt:=by rw[e];exact h2.2
  rw[zbg,hg];unfold zb9;rw[if_pos ⟨by omega,by rcases h1.2.2 with q | q<;>omega⟩];simp only;rw[zn5 hP hF k i (by omega),List.take_succ_eq_append_getElem hi',List.map_append,List.append_assoc];rfl
theorem zk9 {p:Pl}(h:zaq p){k:Nat}(hk:k<p.R.length){w:Rw}(hw:zbp p p.R[k]=some w):(zao p p.R[k]).asks=zci p p.R[k] w:=by
 have h1:=zi6 (zg9 h hk) (zaa p.R[k]).length (Nat.le_refl _);have hw':zbv p p.R[k] (zaa p.R[k]).length=some w:=hw;rw[hw']at h1;show(zbg (zcg p p.R[k]) p.R[k].fl p.R[k].fl.length).asks=_;rw[zn5 (zvv h) (zfe h hk).2.2 _ _ (Nat.le_refl _),List.take_length];show(za7 p p.R[k] (zaa p.R[k]).length).asks++_=_;rw[h1];rfl
theorem zn6 {p:Pl}(h:zaq p){k:Nat}(hk:k<p.R.length):(zcg p p.R[k]).lost=false↔(zbp p p.R[k]).isSome=true:=by
 have h1:=zi6 (zg9 h hk) (zaa p.R[k]).length (Nat.le_refl _);unfold zcg zbp;cases hr:zbv p p.R[k] (zaa p.R[k]).length with
 | none=>rw[hr]at h1;rw[h1];simp
 | some w=>rw[hr]at h1;rw[h1];simp[zbb]
theorem zvx {p:Pl}(h:zaq p){k:Nat}(hk:k<p.R.length){w:Rw}(hw:zbp p p.R[k]=some w):zbk p p.R[k]=zed p.R[k] w.outs (zaa p.R[k]).length:=by
 have h1:=zi6 (zg9 h hk) (zaa p.R[k]).length (Nat.le_refl _);have hw':zbv p p.R[k] (zaa p.R[k]).length=some w:=hw;rw[hw']at h1;unfold zbk zcg;rw[h1];rfl
theorem zn7 {p:Pl}{r:Rt}(hf:zfo p r): ∀i w,zbv p r i=some w→ ∀j,j<i→j<r.A.length→0≤w.outs.getD j 0∧(j+1=r.A.length→r.X≠0→za9 p ((zaa r).getD j 0) (w.outs.getD j 0)=r.X)
 | 0,w,h,j,hj,_=>by omega
 | i+1,w,h,j,hj,hp=>by
  have hal:=zes r;rw[zbv]at h;cases hq:zbv p r i with
  | none=>rw[hq]at h;cases h
  | some v=>
   rw[hq]at h;have h:ze4 p r i v=some w:=h;obtain⟨l1,l2⟩:=zi5 p r i v hq;have ih:=zn7 hf i v hq;have old: ∀o:Int,j<i→(v.outs++[o]).getD j 0=v.outs.getD j 0:=fun o hji=>by simp only[List.getD_eq_getElem?_getD];rw[List.getElem?_append_left (by omega)]
   unfold ze4 at h;split at h
   ·cases h
   ·split at h
    ·rename_i hs
     cases h;by_cases hji:j<i
     ·show 0≤(v.outs++[-1]).getD j 0∧(j+1=r.A.length→r.X≠0→za9 p ((zaa r).getD j 0) ((v.outs++[-1]).getD j 0)=r.X);rw[old _ hji];exact ih j hji hp
     ·omega
    ·split at h
     ·cases h
     ·rename_i e ho
      cases h;by_cases hji:j<i
      ·show 0≤(v.outs++[(e:Int)]).getD j 0∧(j+1=r.A.length→r.X≠0→za9 p ((zaa r).getD j 0) ((v.outs++[(e:Int)]).getD j 0)=r.X);rw[old _ hji];exact ih j hji hp
      ·have hje:j=i:=(by omega);subst hje;have ge:(v.outs++[(e:Int)]).getD j 0=(e:Int):=(by rw[←l2];exact zh1 _ _);show 0≤(v.outs++[(e:Int)]).getD j 0∧(j+1=r.A.length→r.X≠0→za9 p ((zaa r).getD j 0) ((v.outs++[(e:Int)]).getD j 0)=r.X);rw[ge];refine⟨Int.natCast_nonneg e,fun q1 q2=> ?_⟩;have hok:=List.find?_some ho;unfold zc1 at hok;rw[Bool.and_eq_true,if_pos q1,decide_eq_true_eq,decide_eq_true_eq]at hok;rcases hok.2 with q | q
       ·exact absurd q.1 q2
       ·have:=(hf.shaped j (by omega)).2.2;rw[←this];exact q.2
theorem zn8 (r:Rt) (outs:List Int): ∀i,(∀j,j<i→0≤outs.getD j 0)→zed r outs i=(List.range i).map fun j=>⟨(zaa r).getD j 0,outs.getD j 0⟩
 | 0,_=>rfl
 | i+1,h=>by
  rw[zed,zn8 r outs i fun j hj=>h j (by omega),if_pos (h i (by omega)),List.range_succ,List.map_append];rfl
theorem zn9 (r:Rt) (outs:List Int): ∀i d,∃m,zed r outs (i+d)=zed r outs i++m
 | i,0=>⟨[],by simp⟩
 | i,d+1=>by
  obtain⟨m,hm⟩:=zn9 r outs i d;exact⟨m++(if 0≤outs.getD (i+d) 0 then [⟨(zaa r).getD (i+d) 0,outs.getD (i+d) 0⟩]else []),by rw[←Nat.add_assoc,zed,hm,List.append_assoc]⟩
def zf6 (p:Pl) (r:Rt) (outs:List Int):Prop:= ∀i,i<r.A.length→ ¬(za9 p (r.A.getD i 0) (outs.getD i 0)≠0∧i+1<r.A.length)∧ ¬(i+1=r.A.length∧za9 p (r.A.getD i 0) (outs.getD i 0)≠r.X)
instance (p:Pl) (r:Rt) (outs:List Int):Decidable (zf6 p r outs):=by unfold zf6;exact inferInstance
theorem zoa {p:Pl}(h:zaq p){k:Nat}(hk:k<p.R.length){w:Rw}(hw:zbp p p.R[k]=some w):zea p p.R[k] (zbk p p.R[k])↔zf6 p p.R[k] w.outs:=by
 have hal:=zes p.R[k];have hf:=zg9 h hk;have ho:=zn7 hf _ w hw
 have hpre: ∃m,zbk p p.R[k]=((List.range p.R[k].A.length).map fun j=>(⟨(zaa p.R[k]).getD j 0,w.outs.getD j 0⟩:Jn))++m:=by
  obtain⟨m,hm⟩:=zn9 p.R[k] w.outs p.R[k].A.length p.R[k].O.length;refine⟨m,?_⟩;rw[zvx h hk hw,hal,hm,zn8 _ _ _ fun j hj=>(ho j (by omega) hj).1]
 obtain⟨m,hm⟩:=hpre;have hlen:p.R[k].A.length≤(zbk p p.R[k]).length:=by rw[hm];simp
 have hat: ∀i (hi:i<p.R[k].A.length),(zbk p p.R[k])[i]'(by omega)=⟨p.R[k].A.getD i 0,w.outs.getD i 0⟩:=fun i hi=>by
  have e1:(zbk p p.R[k])[i]? =some ⟨(zaa p.R[k]).getD i 0,w.outs.getD i 0⟩:=by
   rw[hm,List.getElem?_append_left (by simpa using hi)];simp[hi]
  have e2:(zaa p.R[k]).getD i 0=p.R[k].A.getD i 0:=by
   unfold zaa;simp only[List.getD_eq_getElem?_getD];rw[List.getElem?_append_left hi]
  rw[List.getElem?_eq_getElem (by omega)]at e1;rw[←e2];exact Option.some.inj e1
 have hag: ∀i,i<p.R[k].A.length→p.R[k].A.getD i 0=(zaa p.R[k]).getD i 0:=fun i hi=>by
  unfold zaa;simp only[List.getD_eq_getElem?_getD];rw[List.getElem?_append_left hi]
 unfold zea zfm zf6;constructor
 ·intro hc i hi;have h1:=hc i (by omega) hi;rw[hat i hi]at h1
  have h2: ∀x∈p.G,¬zf1 p.R[k] i ⟨p.R[k].A.getD i 0,w.outs.getD i 0⟩ x:=fun x hx=>by
   obtain⟨j,hj,rfl⟩:=List.getElem_of_mem hx;exact h1 j hj hj
  constructor
  ·rintro⟨q1,q2⟩;obtain⟨x,hx,e1,e2,e3⟩:=zk8 q1 rfl;exact h2 x hx ⟨e1,e2,.inl q2⟩
  ·rintro⟨q1,q2⟩;by_cases hx:p.R[k].X=0
   ·rw[hx]at q2;obtain⟨x,hx',e1,e2,e3⟩:=zk8 q2 rfl;refine h2 x hx' ⟨e1,e2,.inr ?_⟩;rw[e3,hx];exact q2
   ·apply q2;rw[hag i hi];exact(ho i (by omega) hi).2 q1 hx
 ·intro hc i h1 hi j hj _;rw[hat i hi];rintro⟨e1,e2,e3⟩;have hs:=zn4 h (List.getElem_mem hj) e1 e2;have h3:=(zn0 h j hj hj).1;obtain⟨c1,c2⟩:=hc i hi;rw[hs]at c1 c2;rcases e3 with e3 | e3
  ·exact c1 ⟨by omega,e3⟩
  ·by_cases hl:i+1<p.R[k].A.length
   ·exact c1 ⟨by omega,hl⟩
   ·exact c2 ⟨by omega,e3⟩
def zdd (p:Pl) (r:Rt):Prop:=match zbp p r with | none=>False | some w=>zdv (zci p r w)∧zf6 p r w.outs
instance (p:Pl) (r:Rt):Decidable (zdd p r):=by unfold zdd;split<;>exact inferInstance
theorem zgq (p:Pl):zaj p↔zaq p∧ ∀k (h:k<p.R.length),zdd p p.R[k]:=by
 constructor
 ·rintro⟨h1,h2,h3⟩;refine⟨h1,fun k hk=> ?_⟩;have h4:=(zn6 h1 hk).1 (h2 k hk hk);obtain⟨w,hw⟩:=Option.isSome_iff_exists.1 h4;have h5:=h3 k hk hk;unfold zdd;rw[hw];exact⟨by rw[←zk9 h1 hk hw];exact h5.1,(zoa h1 hk hw).1 h5.2⟩
 ·rintro⟨h1,h2⟩
  have key: ∀k (hk:k<p.R.length),∃w,zbp p p.R[k]=some w∧zdv (zci p p.R[k] w)∧zf6 p p.R[k] w.outs:=fun k hk=>by
   have h3:=h2 k hk;unfold zdd at h3;cases hr:zbp p p.R[k]with
   | none=>rw[hr]at h3;exact h3.elim
   | some w=>rw[hr]at h3;exact⟨w,rfl,h3⟩
  refine⟨h1,fun k hk _=> ?_,fun k hk _=> ?_⟩
  ·obtain⟨w,hw,_⟩:=key k hk;exact(zn6 h1 hk).2 (by rw[hw];rfl)
  ·obtain⟨w,hw,a,b⟩:=key k hk;exact⟨by rw[zk9 h1 hk hw];exact a,(zoa h1 hk hw).2 b⟩
end Go.Proofs.YtbiehpjhhopjaaaGreat
