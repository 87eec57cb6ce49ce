/-
 Houses as plain data;a plain region that only reads and calls,walked as a quiet one.
-/
import Derived.Test.YtbiehpjhhopjaaaGreatTRefA
import Derived.Test.YtbiehpjhhopjaaaGreatTEqH
import Derived.Test.YtbiehpjhhopjaaaGreatTNoneA
import Derived.Lib.QuietBelow
import Derived.OrdersHeld
import Derived.Test.YtbiehpjhhopjaaaGreatTConcat
import Derived.Test.YtbiehpjhhopjaaaGreatTPlanA
import Derived.Lib.SliceRun
import Derived.Test.YtbiehpjhhopjaaaGreatTAtA
set_option linter.unusedVariables false
set_option linter.unusedSimpArgs false
set_option maxRecDepth 100000
set_option maxHeartbeats 16000000
namespace Go.Proofs.YtbiehpjhhopjaaaGreat
open Go.RowKit Go.Sort
theorem zlb {P:Program}{ops:Array Oper}{Q:Exit→Act→World→Prop}{C:World→Prop}: ∀(l:List Oper) (a:Act) (w:World),C w→wpQuiet P ops C (fun a'=> ∀w',C w'→Q .normal a' w') l a→wpList P ops Q l a w
 | [],a,w,hw,h=>h w hw
 | o::rest,a,w,hw,h=>by
  unfold wpQuiet at h;unfold wpList;by_cases hg:Region.wanted o (yielded ops a.tmps)=true
  ·rw[if_pos hg]at h ⊢;exact .inl (Oper.wp_of_quiet hw (fun a' w' hC hK=>zlb rest a' w' hC hK) h)
  ·rw[if_neg hg]at h ⊢;exact zlb rest _ w hw h
theorem zee {P:Program}{id:Nat}{Q:Exit→Act→World→Prop}{a:Act}{w:World}{l:List Oper}
  (h:wpQuiet P l.toArray (fun w'=> ∃p:Regrown,w'=grow (redrawn w p.d) p.os) (fun a'=> ∀w',(∃p:Regrown,w'=grow (redrawn w p.d) p.os)→Q .normal a' w') l a):(Code.region id l.toArray false).wp P Q a w:=
 wp_region_lit (zlb (C:=fun w'=> ∃p:Regrown,w'=grow (redrawn w p.d) p.os) l a w ⟨⟨w.drawn,#[]⟩,by rw[grow_empty];rfl⟩ h)
abbrev RgC (f:Nat) (args:Array Value) (w:World) (v:Value):Prop:= ∀(d:Nat) (os:Array Obj),Calls Tryz.prog f args (grow (redrawn w d) os) fun e w''=>e= .returned v∧ ∃p:Regrown,w''=grow (redrawn w p.d) p.os
theorem RgC.of {f:Nat}{args:Array Value}{w:World}{v:Value}(h: ∀W,jb w W→Calls Tryz.prog f args W fun e w'=>e= .returned v∧jb W w'):RgC f args w v:=fun d os=>Calls.regrown_of (h _ (below_regrown w d os))
structure Hs where
 key:List Int
 pl:Pl
 bk:Pl
 high:Int
 st:St
 buf:List Int
 nx:Pl
 halted:Bool
theorem zor {x y:Hs}(h1:x.key=y.key) (h2:x.pl=y.pl) (h3:x.bk=y.bk) (h4:x.high=y.high) (h5:x.st=y.st) (h6:x.buf=y.buf) (h7:x.nx=y.nx) (h8:x.halted=y.halted):x=y:=by cases x;cases y;simp_all
instance:DecidableEq Hs:=fun x y=>decidable_of_iff (x.key=y.key∧x.pl=y.pl∧x.bk=y.bk∧x.high=y.high∧x.st=y.st∧x.buf=y.buf∧x.nx=y.nx∧x.halted=y.halted) ⟨fun h=>zor h.1 h.2.1 h.2.2.1 h.2.2.2.1 h.2.2.2.2.1 h.2.2.2.2.2.1 h.2.2.2.2.2.2.1 h.2.2.2.2.2.2.2,fun h=>by subst h;simp⟩
theorem zos {x y:Hs}:x=y↔x.key=y.key∧x.pl=y.pl∧x.bk=y.bk∧x.high=y.high∧x.st=y.st∧x.buf=y.buf∧x.nx=y.nx∧x.halted=y.halted:=⟨fun h=>by subst h;simp,fun h=>zor h.1 h.2.1 h.2.2.1 h.2.2.2.1 h.2.2.2.2.1 h.2.2.2.2.2.1 h.2.2.2.2.2.2.1 h.2.2.2.2.2.2.2⟩
def zfq (x y:Hs):Bool:=decide (x.pl=y.pl)&&(decide (x.bk=y.bk)&&((x.high==y.high)&&((x.halted==y.halted)&&zcx x.st y.st)))
def hsA (a:Nat→Option Addr) (c:Nat→Nat) (x:Hs):Array Value:=#[js (a 0) x.key.length (c 0),
 .int .i64 x.pl.ver,x.pl.par,js (a 1) x.pl.S.length (c 1),js (a 2) x.pl.P.length (c 2),js (a 3) x.pl.G.length (c 3),js (a 4) x.pl.R.length (c 4),
 .int .i64 x.bk.ver,x.bk.par,js (a 5) x.bk.S.length (c 5),js (a 6) x.bk.P.length (c 6),js (a 7) x.bk.G.length (c 7),js (a 8) x.bk.R.length (c 8),
 .int .i64 x.high,js (a 9) x.st.tks.length (c 9),js (a 10) x.st.sws.length (c 10),js (a 11) x.st.lks.length (c 11),js (a 12) x.buf.length (c 12),
 .int .i64 x.nx.ver,x.nx.par,js (a 13) x.nx.S.length (c 13),js (a 14) x.nx.P.length (c 14),js (a 15) x.nx.G.length (c 15),js (a 16) x.nx.R.length (c 16),.bool x.halted]
def hsV (a:Nat→Option Addr) (c:Nat→Nat) (x:Hs):Value:= .agg (hsA a c x)
structure HsM (w:World) (a:Nat→Option Addr) (c:Nat→Nat) (x:Hs):Prop where
 key:SlA w 1 RBy (a 0) (c 0) x.key
 pl:PlM w (js (a 1) x.pl.S.length (c 1)) (js (a 2) x.pl.P.length (c 2)) (js (a 3) x.pl.G.length (c 3)) (js (a 4) x.pl.R.length (c 4)) x.pl
 bk:PlM w (js (a 5) x.bk.S.length (c 5)) (js (a 6) x.bk.P.length (c 6)) (js (a 7) x.bk.G.length (c 7)) (js (a 8) x.bk.R.length (c 8)) x.bk
 st:StM w (js (a 9) x.st.tks.length (c 9)) (js (a 10) x.st.sws.length (c 10)) (js (a 11) x.st.lks.length (c 11)) x.st
 buf:SlA w 1 RBy (a 12) (c 12) x.buf
 nx:PlM w (js (a 13) x.nx.S.length (c 13)) (js (a 14) x.nx.P.length (c 14)) (js (a 15) x.nx.G.length (c 15)) (js (a 16) x.nx.R.length (c 16)) x.nx
theorem HsM.below {w w':World}{a:Nat→Option Addr}{c:Nat→Nat}{x:Hs}(h:HsM w a c x) (hb:jb w w'):HsM w' a c x:=
 ⟨h.key.below zh0 hb,h.pl.below hb,h.bk.below hb,h.st.below hb,h.buf.below zh0 hb,h.nx.below hb⟩
structure Hs.Fit (x:Hs):Prop where
 pl:x.pl.Fit
 bk:x.bk.Fit
 nx:x.nx.Fit
 st:x.st.fit
 key:x.key.length≤1000
 buf:x.buf.length≤5000
 kb:zd3 x.key
 bb:zd3 x.buf
theorem zcb {w:World}{g:Nat}{a:Nat→Option Addr}{c:Nat→Nat}{x:Hs}(h:jk w g (hsA a c x) 35) (i:Nat) (v:Value) (hv:(hsA a c x)[i]? =some v) (d:Nat) (os:Array Obj):jc (grow (redrawn w d) os) g i v:=cell_regrown ((cell_of_row w g i _ _ _ h).trans hv) d os
theorem zef {w:World}{g:Nat}{a:Nat→Option Addr}{c:Nat→Nat}{x:Hs}(h:jk w g (hsA a c x) 35):
  (∀(d:Nat) (os:Array Obj),jc (grow (redrawn w d) os) g 0 (js (a 0) x.key.length (c 0)))∧
  (∀(d:Nat) (os:Array Obj),jc (grow (redrawn w d) os) g 1 x.pl.ver)∧
  (∀(d:Nat) (os:Array Obj),jc (grow (redrawn w d) os) g 2 x.pl.par)∧
  (∀(d:Nat) (os:Array Obj),jc (grow (redrawn w d) os) g 3 (js (a 1) x.pl.S.length (c 1)))∧
  (∀(d:Nat) (os:Array Obj),jc (grow (redrawn w d) os) g 4 (js (a 2) x.pl.P.length (c 2)))∧
  (∀(d:Nat) (os:Array Obj),jc (grow (redrawn w d) os) g 5 (js (a 3) x.pl.G.length (c 3)))∧
  (∀(d:Nat) (os:Array Obj),jc (grow (redrawn w d) os) g 6 (js (a 4) x.pl.R.length (c 4)))∧
  (∀(d:Nat) (os:Array Obj),jc (grow (redrawn w d) os) g 7 x.bk.ver)∧
  (∀(d:Nat) (os:Array Obj),jc (grow (redrawn w d) os) g 8 x.bk.par)∧
  (∀(d:Nat) (os:Array Obj),jc (grow (redrawn w d) os) g 9 (js (a 5) x.bk.S.length (c 5)))∧
  (∀(d:Nat) (os:Array Obj),jc (grow (redrawn w d) os) g 10 (js (a 6) x.bk.P.length (c 6)))∧
  (∀(d:Nat) (os:Array Obj),jc (grow (redrawn w d) os) g 11 (js (a 7) x.bk.G.length (c 7)))∧
  (∀(d:Nat) (os:Array Obj),jc (grow (redrawn w d) os) g 12 (js (a 8) x.bk.R.length (c 8)))∧
  (∀(d:Nat) (os:Array Obj),jc (grow (redrawn w d) os) g 13 x.high)∧
  (∀(d:Nat) (os:Array Obj),jc (grow (redrawn w d) os) g 14 (js (a 9) x.st.tks.length (c 9)))∧
  (∀(d:Nat) (os:Array Obj),jc (grow (redrawn w d) os) g 15 (js (a 10) x.st.sws.length (c 10)))∧
  (∀(d:Nat) (os:Array Obj),jc (grow (redrawn w d) os) g 16 (js (a 11) x.st.lks.length (c 11)))∧
  (∀(d:Nat) (os:Array Obj),jc (grow (redrawn w d) os) g 17 (js (a 12) x.buf.length (c 12)))∧
  (∀(d:Nat) (os:Array Obj),jc (grow (redrawn w d) os) g 18 x.nx.ver)∧
  (∀(d:Nat) (os:Array Obj),jc (grow (redrawn w d) os) g 19 x.nx.par)∧
  (∀(d:Nat) (os:Array Obj),jc (grow (redrawn w d) os) g 20 (js (a 13) x.nx.S.length (c 13)))∧
  (∀(d:Nat) (os:Array Obj),jc (grow (redrawn w d) os) g 21 (js (a 14) x.nx.P.length (c 14)))∧
  (∀(d:Nat) (os:Array Obj),jc (grow (redrawn w d) os) g 22 (js (a 15) x.nx.G.length (c 15)))∧
  (∀(d:Nat) (os:Array Obj),jc (grow (redrawn w d) os) g 23 (js (a 16) x.nx.R.length (c 16)))∧
  (∀(d:Nat) (os:Array Obj),jc (grow (redrawn w d) os) g 24 (.bool x.halted)):=
 ⟨zcb h 0 _ rfl,zcb h 1 _ rfl,zcb h 2 _ rfl,zcb h 3 _ rfl,zcb h 4 _ rfl,zcb h 5 _ rfl,zcb h 6 _ rfl,zcb h 7 _ rfl,zcb h 8 _ rfl,zcb h 9 _ rfl,zcb h 10 _ rfl,zcb h 11 _ rfl,zcb h 12 _ rfl,zcb h 13 _ rfl,zcb h 14 _ rfl,zcb h 15 _ rfl,zcb h 16 _ rfl,zcb h 17 _ rfl,zcb h 18 _ rfl,zcb h 19 _ rfl,zcb h 20 _ rfl,zcb h 21 _ rfl,zcb h 22 _ rfl,zcb h 23 _ rfl,zcb h 24 _ rfl⟩
theorem zdp {w:World}{g:Nat}{a:Nat→Option Addr}{c:Nat→Nat}{x:Hs}(h:jk w g (hsA a c x) 35):
  (jc w g 0 (js (a 0) x.key.length (c 0)))∧
  (jc w g 1 x.pl.ver)∧
  (jc w g 2 x.pl.par)∧
  (jc w g 3 (js (a 1) x.pl.S.length (c 1)))∧
  (jc w g 4 (js (a 2) x.pl.P.length (c 2)))∧
  (jc w g 5 (js (a 3) x.pl.G.length (c 3)))∧
  (jc w g 6 (js (a 4) x.pl.R.length (c 4)))∧
  (jc w g 7 x.bk.ver)∧
  (jc w g 8 x.bk.par)∧
  (jc w g 9 (js (a 5) x.bk.S.length (c 5)))∧
  (jc w g 10 (js (a 6) x.bk.P.length (c 6)))∧
  (jc w g 11 (js (a 7) x.bk.G.length (c 7)))∧
  (jc w g 12 (js (a 8) x.bk.R.length (c 8)))∧
  (jc w g 13 x.high)∧
  (jc w g 14 (js (a 9) x.st.tks.length (c 9)))∧
  (jc w g 15 (js (a 10) x.st.sws.length (c 10)))∧
  (jc w g 16 (js (a 11) x.st.lks.length (c 11)))∧
  (jc w g 17 (js (a 12) x.buf.length (c 12)))∧
  (jc w g 18 x.nx.ver)∧
  (jc w g 19 x.nx.par)∧
  (jc w g 20 (js (a 13) x.nx.S.length (c 13)))∧
  (jc w g 21 (js (a 14) x.nx.P.length (c 14)))∧
  (jc w g 22 (js (a 15) x.nx.G.length (c 15)))∧
  (jc w g 23 (js (a 16) x.nx.R.length (c 16)))∧
  (jc w g 24 (.bool x.halted)):=
 ⟨(cell_of_row w g 0 _ _ _ h).trans rfl,(cell_of_row w g 1 _ _ _ h).trans rfl,(cell_of_row w g 2 _ _ _ h).trans rfl,(cell_of_row w g 3 _ _ _ h).trans rfl,(cell_of_row w g 4 _ _ _ h).trans rfl,(cell_of_row w g 5 _ _ _ h).trans rfl,(cell_of_row w g 6 _ _ _ h).trans rfl,(cell_of_row w g 7 _ _ _ h).trans rfl,(cell_of_row w g 8 _ _ _ h).trans rfl,(cell_of_row w g 9 _ _ _ h).trans rfl,(cell_of_row w g 10 _ _ _ h).trans rfl,(cell_of_row w g 11 _ _ _ h).trans rfl,(cell_of_row w g 12 _ _ _ h).trans rfl,(cell_of_row w g 13 _ _ _ h).trans rfl,(cell_of_row w g 14 _ _ _ h).trans rfl,(cell_of_row w g 15 _ _ _ h).trans rfl,(cell_of_row w g 16 _ _ _ h).trans rfl,(cell_of_row w g 17 _ _ _ h).trans rfl,(cell_of_row w g 18 _ _ _ h).trans rfl,(cell_of_row w g 19 _ _ _ h).trans rfl,(cell_of_row w g 20 _ _ _ h).trans rfl,(cell_of_row w g 21 _ _ _ h).trans rfl,(cell_of_row w g 22 _ _ _ h).trans rfl,(cell_of_row w g 23 _ _ _ h).trans rfl,(cell_of_row w g 24 _ _ _ h).trans rfl⟩
theorem zot (b1 b2 b3 b4 b5:Bool):b1=false∨(b1=true∧b2=false)∨(b1=true∧b2=true∧b3=false)∨(b1=true∧b2=true∧b3=true∧b4=false)∨(b1=true∧b2=true∧b3=true∧b4=true∧b5=false)∨(b1=true∧b2=true∧b3=true∧b4=true∧b5=true):=by
 cases b1
 ·simp
 cases b2
 ·simp
 cases b3
 ·simp
 cases b4
 ·simp
 cases b5
 ·simp
 simp
theorem zou (b1 b2 b3 b4 b5 b6 b7 b8:Bool):b1=false∨(b1=true∧b2=false)∨(b1=true∧b2=true∧b3=false)∨(b1=true∧b2=true∧b3=true∧b4=false)∨(b1=true∧b2=true∧b3=true∧b4=true∧b5=false)∨(b1=true∧b2=true∧b3=true∧b4=true∧b5=true∧b6=false)∨(b1=true∧b2=true∧b3=true∧b4=true∧b5=true∧b6=true∧b7=false)∨(b1=true∧b2=true∧b3=true∧b4=true∧b5=true∧b6=true∧b7=true∧b8=false)∨(b1=true∧b2=true∧b3=true∧b4=true∧b5=true∧b6=true∧b7=true∧b8=true):=by
 cases b1
 ·simp
 cases b2
 ·simp
 cases b3
 ·simp
 cases b4
 ·simp
 cases b5
 ·simp
 cases b6
 ·simp
 cases b7
 ·simp
 cases b8
 ·simp
 simp
section
variable {P:Program}{ops:Array Oper}{Q:Exit→Act→World→Prop}{md:Region.Mode}{S:Array Bool→World→Prop}
def zeg (P:Program) (md:Region.Mode) (ops:Array Oper) (Q:Exit→Act→World→Prop) (S:Array Bool→World→Prop):Nat→Array Bool→Act→World→Prop
 | 0,listed,a,w=>Region.ready md ops listed=[]∧Q .normal a w
 | fuel+1,listed,a,w=>
  (Region.ready md ops listed=[]→Q .normal a w)∧
  ∀i∈Region.ready md ops listed,wpOp P ops Q i (fun a' w'=>S (listed.setIfInBounds i true) w'∧zeg P md ops Q S fuel (listed.setIfInBounds i true) a' w') a w
theorem zov: ∀(fuel:Nat) (listed:Array Bool) (a:Act) (w:World),zeg P md ops Q S fuel listed a w→wpAny P md ops Q fuel listed a w
 | 0,_,_,_,h=>h
 | fuel+1,_,_,_,h=>⟨h.1,fun i hi=>wpOp_mono (fun a' w' h'=>zov fuel _ a' w' h'.2) (h.2 i hi)⟩
theorem zow {L:Array Bool}{i:Nat}(h:i∈Region.ready md ops L):L.getD i false=false:=by
 have h0:=(mem_ready.1 h).1;rcases Nat.lt_or_ge i L.size with h' | h'
 ·simp[h']at h0 ⊢;exact h0
 ·simp[Array.getElem?_eq_none h']at h0
def DC (md:Region.Mode) (ops:Array Oper) (L:Array Bool):Prop:= ∀j oj,ops[j]? =some oj→L.getD j false=true→ ∀e∈oj.after,Region.binds md e=true→L.getD e.on false=true
theorem DC.set {L:Array Bool}(h:DC md ops L){j:Nat}(hj:j∈Region.ready md ops L):DC md ops (L.setIfInBounds j true):=fun k ok hk hl e he hb=>by
 by_cases e':j=k
 ·subst e';obtain⟨-,o,ho,hall⟩:=mem_ready.1 hj;rw[hk]at ho;cases ho;exact getD_set_true (hall e he hb)
 ·rw[getD_set_ne false e']at hl;exact getD_set_true (h k ok hk hl e he hb)
theorem zwl {i:Nat}{oi:Oper}{v:Value}{C:World→Prop}(hi:ops[i]? =some oi) (hsel: ∀(j:Nat) (o:Oper) cs b,ops[j]? =some o→o.op≠ .select cs b)
  (hQ: ∀c a w,Q (.panic c) (a.put oi.dst v) w→Q (.panic c) a w)
  (hSi: ∀L w,S (L.setIfInBounds i true) w↔S L w)
  (hC: ∀L w,DC md ops L→L.getD i false=false→S L w→C w):
  ∀(fuel:Nat) (listed:Array Bool) (a:Act) (w:World),
   (∀j oj,ops[j]? =some oj→j≠i→listed.getD j true=false→(∀e∈oj.after,Region.binds md e=true→e.on≠i)→oi.apart ops oj=true)→
   DC md ops listed→
   i∈Region.ready md ops listed→YieldsIf P ops C oi v a→S listed w→
   zeg P md ops Q S fuel (listed.setIfInBounds i true) (a.put oi.dst v) w→zeg P md ops Q S (fuel+1) listed a w:=by
 intro fuel
 induction fuel with
 | zero=>
  intro listed a w _ hwt hr hy hS H;refine⟨fun h=>(by rw[h]at hr;cases hr),fun j hj=> ?_⟩;by_cases hji:j=i
  ·subst hji;exact hy.wpOp hi (hC listed w hwt (zow hr) hS) ⟨(hSi _ _).2 hS,H⟩
  ·have:=ready_mono hj hji;rw[H.1]at this;cases this
 | succ fuel ih=>
  intro listed a w hfree hwt hr hy hS H;refine⟨fun h=>(by rw[h]at hr;cases hr),fun j hj=> ?_⟩;by_cases hji:j=i
  ·subst hji;exact hy.wpOp hi (hC listed w hwt (zow hr) hS) ⟨(hSi _ _).2 hS,H⟩
  ·have h1:=H.2 j (ready_mono hj hji);obtain⟨hjun,oj,hoj,hall⟩:=mem_ready.1 hj
   have hnot: ∀e∈oj.after,Region.binds md e=true→e.on≠i:=fun e he hb heq=>by
    have h1:=hall e he hb;have h0:=(mem_ready.1 hr).1;rw[heq]at h1;rcases Nat.lt_or_ge i listed.size with h' | h'
    ·simp[h']at h0 h1;rw[h0]at h1;cases h1
    ·simp[Array.getElem?_eq_none h']at h1
   have h2:=wpOp_putIf hoj (hfree j oj hoj hji hjun hnot) (fun cs b=>hsel i oi cs b hi) (fun cs b=>hsel j oj cs b hoj) hQ hy h1
   have hfree': ∀k ok,ops[k]? =some ok→k≠i→(listed.setIfInBounds j true).getD k true=false→
     (∀e∈ok.after,Region.binds md e=true→e.on≠i)→oi.apart ops ok=true:=fun k ok hk hki hun hno=>by
    refine hfree k ok hk hki ?_ hno;by_cases hjk:j=k
    ·subst hjk;exact hjun
    ·rw[getD_set_ne true hjk]at hun;exact hun
   have hwt':=hwt.set hj;refine wpOp_mono (fun a' w' h3=> ?_) h2;have h4:=h3.2;rw[Array.setIfInBounds_comm _ _ (Ne.symm hji)]at h4;have h5:=(hSi _ _).1 h4.1;exact⟨h5,ih (listed.setIfInBounds j true) a' w' hfree' hwt' (ready_mono hr (Ne.symm hji)) h3.1 h5 h4.2⟩
def zh4 (ws:List Nat) (L:Array Bool):Bool:=ws.any fun j=>L.getD j false
def zdq (ws:List Nat) (D:World→Prop) (L:Array Bool) (w:World):Prop:=zh4 ws L=false→D w
theorem zwm {ws:List Nat}{L:Array Bool}{i:Nat}(h:i∉ws):zh4 ws (L.setIfInBounds i true)=zh4 ws L:=by
 unfold zh4
 induction ws with
 | nil=>rfl
 | cons j r ih=>
  have hj:i≠j:=fun e=>h (e ▸ List.mem_cons_self);rw[List.any_cons,List.any_cons,getD_set_ne false hj,ih fun hr=>h (List.mem_cons_of_mem _ hr)]
theorem zwn {ws:List Nat}{D:World→Prop}{L:Array Bool}{i:Nat}{w:World}(h:i∉ws):zdq ws D (L.setIfInBounds i true) w↔zdq ws D L w:=by
 unfold zdq;rw[zwm h]
def zlc (o:Oper):Bool:=match o.op with
 | .move _ | .assign _ | .load _ _ | .fieldAddr _ _ _ | .indexAddr _ _ _ | .build _ _ | .binOp _ _ _ _ _ | .unOp _ _ _ | .extract _ _ | .pick _ _ _ | .convert _ _ _ | .field _ _ _ | .index _ _ _ | .slice _ _ _ _ _=>true
 | _=>false
theorem zwo {α:Type}{s:Sem α}{f:α→Value}{w w':World}{n:Next}(h:(do let x ←s;pure (Next.value (f x)):Sem Next).run P w= .ok n w'): ∃u,n= .value u:=by
 rw[Sem.run_bind]at h;cases hr:s.run P w with
 | ok x w2=>
  rw[hr]at h;simp only[Result.andThen_ok,Sem.run_pure]at h
  injection h with h
  exact⟨f x,h.symm⟩
 | halt x w2=>
  rw[hr]at h;simp at h
theorem zwp {o:Oper}(h:zlc o=true){ρ:Operand→Value}{w w':World}{n:Next}(hr:(execOp ρ o).run P w= .ok n w'): ∃u,n= .value u:=by
 obtain⟨dst,op,type,pos,after,guard⟩:=o;unfold zlc at h;cases op<;>simp only[Bool.false_eq_true]at h<;>simp only[execOp]at hr
 case move=>simp at hr;exact⟨_,hr.1.symm⟩
 case assign=>simp at hr;exact⟨_,hr.1.symm⟩
 all_goals exact zwo hr
def zja (md:Region.Mode) (ops:Array Oper):Nat→Nat→Nat→Bool
 | 0,_,_=>false
 | f+1,j,i=>match ops[j]? with
  | some o=>o.after.any fun e=>Region.binds md e&&(e.on==i || zja md ops f e.on i)
  | none=>false
theorem zox {L:Array Bool}(h:DC md ops L){i:Nat}: ∀(f j:Nat),zja md ops f j i=true→L.getD j false=true→L.getD i false=true
 | 0,_,hr,_=>by cases hr
 | f+1,j,hr,hl=>by
  unfold zja at hr;cases hj:ops[j]? with
  | none=>rw[hj]at hr;cases hr
  | some oj=>
   rw[hj]at hr;simp only[Array.any_eq_true']at hr;obtain⟨e,he,hb⟩:=hr;simp only[Bool.and_eq_true,Bool.or_eq_true,beq_iff_eq]at hb;have h1:=h j oj hj hl e he hb.1;rcases hb.2 with e1 | e1
   ·rw[e1]at h1;exact h1
   ·exact zox h f e.on e1 h1
def dcB (md:Region.Mode) (ops:Array Oper) (L:Array Bool):Bool:=(List.range ops.size).all fun j=> !L.getD j false || match ops[j]? with
 | some o=>o.after.all fun e=> !Region.binds md e || L.getD e.on false
 | none=>true
theorem zwq {L:Array Bool}(h:dcB md ops L=true):DC md ops L:=fun j oj hj hl e he hb=>by
 have h1:=List.all_eq_true.1 h j (List.mem_range.2 (Array.getElem?_eq_some_iff.1 hj).1);rw[hl,hj]at h1;simp only[Bool.not_true,Bool.false_or]at h1;have h2:=Array.all_eq_true_iff_forall_mem.1 h1 e he;rw[hb]at h2
 simpa using h2
def okT (md:Region.Mode) (ops:Array Oper) (ws:List Nat) (L:Array Bool) (i:Nat):Bool:=
 Region.noSelect ops&&Region.free md ops L i&&(Region.ready md ops L).contains i&& !ws.contains i&&
 (match ops[i]? with | some o=>zlc o&&o.guard.isNone | none=>false)&&dcB md ops L
theorem zoy {i:Nat}{fuel:Nat}{L:Array Bool}{a:Act}{w:World}{ws:List Nat}{D C:World→Prop}(hB:okT md ops ws L i=true)
  (hQ: ∀(d:Option Tmp) v c a w,Q (.panic c) (a.put d v) w→Q (.panic c) a w)
  (hC: ∀L' w',DC md ops L'→L'.getD i false=false→zdq ws D L' w'→C w') (hS:zdq ws D L w)
  (h: ∀K:Act→Prop,(∀a',zeg P md ops Q (zdq ws D) fuel (L.setIfInBounds i true) a' w→K a')→ ∀o,ops[i]? =some o→o.quiet P a C K):
  zeg P md ops Q (zdq ws D) (fuel+1) L a w:=by
 simp only[okT,Bool.and_eq_true]at hB;obtain⟨⟨⟨⟨⟨h1,h2⟩,h3⟩,h4⟩,h5⟩,h6⟩:=hB;cases ho:ops[i]? with
 | none=>rw[ho]at h5;cases h5
 | some oi=>
  rw[ho]at h5;simp only[Bool.and_eq_true]at h5;obtain⟨v,hv,hn⟩:=h _ (fun a' ha=>ha) oi ho;have hcon:i∉ws:=by simpa using h4
  refine zwl ho (Region.noSelect_spec h1) (fun c a w=>hQ _ _ c a w) (fun L' w'=>zwn hcon) (C:=C) hC fuel L a w (Region.free_spec ho h2) (zwq h6) (by simpa using h3) ?_ hS hn;refine .inl ⟨?_,fun w' hw'=> ?_⟩
  ·unfold Region.wanted;rw[Option.isNone_iff_eq_none.1 h5.2]
  ·have hq:=hv w' hw';unfold Oper.quietAt at hq;cases hr:(execOp a.eval oi).run P w' with
   | halt x w2=>rw[hr]at hq;exact hq.elim
   | ok n w2=>
    obtain⟨u,rfl⟩:=zwp h5.1 hr;rw[hr]at hq;obtain⟨e1,e2⟩:=hq;rw[e1,e2]
structure InD (D:World→Prop) where
 w:World
 h:D w
theorem zba (i:Nat){fuel:Nat}{L:Array Bool}{a:Act}{w:World}{ws:List Nat}{D:World→Prop}(hB:(okT md ops ws L i&&ws.all fun j=>zja md ops 9 j i)=true)
  (hQ: ∀(d:Option Tmp) v c a w,Q (.panic c) (a.put d v) w→Q (.panic c) a w) (hS:D w)
  (h:Nonempty (InD D)→ ∀K:Act→Prop,(∀a',zeg P md ops Q (zdq ws D) fuel (L.setIfInBounds i true) a' w→K a')→ ∀o,ops[i]? =some o→o.quiet P a (fun w'=> ∃t:InD D,w'=t.w) K):
  zeg P md ops Q (zdq ws D) (fuel+1) L a w:=by
 simp only[Bool.and_eq_true]at hB;refine zoy hB.1 hQ (fun L' w' hL hi hS'=>⟨⟨w',hS' ?_⟩,rfl⟩) (fun _=>hS) (h ⟨⟨w,hS⟩⟩);unfold zh4;rw[List.any_eq_false];intro j hj hl;have:=zox hL 9 j (List.all_eq_true.1 hB.2 j hj) hl;rw[hi]at this;cases this
theorem zam (i:Nat){fuel:Nat}{L:Array Bool}{a:Act}{w:World}{ws:List Nat}{D:World→Prop}(hB:okT md ops ws L i=true)
  (hQ: ∀(d:Option Tmp) v c a w,Q (.panic c) (a.put d v) w→Q (.panic c) a w) (hS:zdq ws D L w)
  (h: ∀K:Act→Prop,(∀a',zeg P md ops Q (zdq ws D) fuel (L.setIfInBounds i true) a' w→K a')→ ∀o,ops[i]? =some o→o.quiet P a (fun w'=> ∃t:World,w'=t) K):
  zeg P md ops Q (zdq ws D) (fuel+1) L a w:=
 zoy hB hQ (fun L' w' _ _ _=>⟨w',rfl⟩) hS h
theorem zaz (i:Nat){fuel:Nat}{L:Array Bool}{a:Act}{w:World}{ws:List Nat}{D:World→Prop}(hr:Region.ready md ops L=[i])
  (h: ∀K:Act→World→Prop,(∀a' w',zdq ws D (L.setIfInBounds i true) w'→zeg P md ops Q (zdq ws D) fuel (L.setIfInBounds i true) a' w'→K a' w')→wpOp P ops Q i K a w):
  zeg P md ops Q (zdq ws D) (fuel+1) L a w:=
 ⟨fun h0=>(by rw[hr]at h0;cases h0),fun j hj=>by
  rw[hr]at hj;obtain rfl:=List.mem_singleton.1 hj
  exact h _ (fun a' w' h1 h2=>⟨h1,h2⟩)⟩
theorem zeh {S:Array Bool→World→Prop}{L:Array Bool}{a:Act}{w:World}(hr:Region.ready md ops L=[]) (h:Q .normal a w): ∀fuel,zeg P md ops Q S fuel L a w
 | 0=>⟨hr,h⟩
 | _+1=>⟨fun _=>h,by rw[hr];simp⟩
theorem zei {id:Nat}{a:Act}{w:World}{l:List Oper}(ws:List Nat) (D:World→Prop) (hm:P.follows .mixedOrders=true)
  (h: ∀W,W.heap=w.heap→jb w W→zeg P .any l.toArray Q (zdq ws D) l.length (Array.replicate l.length false) a W):(Code.region id l.toArray true).wp P Q a w:=
 wp_region_any hm (zov _ _ _ _ (by simpa using h {w with drawn:=w.drawn+1} rfl ⟨rfl,rfl,rfl,Nat.le_refl _,fun _ _=>rfl⟩))
end
theorem zoz:(Tryz.prog.info? 207).map (fun i=>(i.zero,i.size,i.bytes))=some (some (.agg #[.int .i64 0,.int .i64 0]),2,16):=by kernel_rfl
def flC (x:Fl):List Value:=[.int .i64 x.pt,.int .i64 x.lie]
theorem zo0 (x:Fl) (u:Value) (h:u∈flC x):u.oneCell'=true:=by
 unfold flC at h;simp at h;rcases h with rfl | rfl<;>rfl
theorem zld {α:Type}{w:World}{sz:Nat}{R:World→List Value→α→Prop}{b off cap:Nat}{l:List α}{f:α→List Value}(h:SlA w sz R (some ⟨b,off,none⟩) cap l) (hf: ∀x∈l,(f x).length=sz) (hR: ∀vs x,R w vs x→vs=f x) (hz:0<sz):
  ∀j u,(l.flatMap f)[j]? =some u→jc w b (off+j) u:=by
 intro j u hj;have hlen:=zcc f sz l hf;have hjl:j<l.length * sz:=by rw[←hlen];exact(List.getElem?_eq_some_iff.1 hj).1
 have hi:j / sz<l.length:=Nat.div_lt_of_lt_mul (by rw[Nat.mul_comm];exact hjl);have hr:j % sz<sz:=Nat.mod_lt _ hz;have hje:j / sz * sz+j % sz=j:=Nat.div_add_mod' j sz;rw[←hje,zdm f sz l (j / sz) (j % sz) hi hf hr]at hj;obtain⟨b',off',vs,e,hl,hc,hr2⟩:=h.at_ (j / sz) hi;cases e;obtain rfl:=hR vs _ hr2;have h1:=hc (j % sz) (by rw[hl];exact hr);rw[List.getElem?_eq_getElem (by rw[hl];exact hr)]at hj;rw[show off+j=off+j / sz * sz+j % sz by rw[Nat.add_assoc,hje],h1];exact hj
theorem zwr (a:Option Addr) (cap:Nat) (l:List Fl) (w:World) (hl:SlA w 2 RFl a cap l) (hm:l.length≤8796093022208):
  Calls Tryz.prog 211 #[js a l.length cap] w fun e w'=> ∃v,e= .returned v∧w'.ownsRow w.heap.size 207 2 v l.length (l.flatMap flC)∧jb w w':=by
 have q: ∀(w:World) (a:Option Addr) (n c n' c':Nat),(binOp .eql 100 (js a n c) (.slice none n' c')).run Tryz.prog w= .ok (.bool a.isNone) w:=fun w a n c n' c'=>Go.Lib.run_eql_slice_nil w _ _ a n c n' c' Tryz.underlying100;obtain⟨i0,hi,hz0,hz1,hz2⟩:=info_parts zoz;cases a with
 | none=>
  have h0:l=[]:=by
   cases l with
   | nil=>rfl
   | cons c l=>obtain⟨b,off,vs,e,_⟩:=hl.at_ 0 (by simp);cases e
  subst h0;go_enter Tryz.func211,Tryz.ntmps211;go_wp2_with fail;go_ret;exact⟨_,rfl,World.ownsRow_nil _ _ _ _,Below.refl _ _⟩
 | some ad=>
  by_cases h0:l=[]
  ·subst h0;go_enter Tryz.func211,Tryz.ntmps211;go_wp2_with fail;go_ret;exact⟨_,rfl,World.ownsRow_made w #[] 0 (Nat.le_refl _) (Nat.zero_le _) (by simp),jal⟩
  ·obtain⟨b,off,vs0,e,-⟩:=hl.at_ 0 (List.length_pos_iff.2 h0);cases e;have HR:=hI (zld (f:=flC) hl (fun _ _=>rfl) (fun _ _ h=>h) (by decide));have HN:Hid ((l.flatMap flC).length=l.length * 2):=zcc _ 2 l (fun _ _=>rfl)
   have H1:Hid (∀u∈l.flatMap flC,u.oneCell'=true):=by
    intro u hu;obtain⟨x,-,hx⟩:=List.mem_flatMap.1 hu;exact zo0 x u hx
   have HL:Hid (∀(v:Value) (W:World),W.ownsRow w.heap.size 207 2 v (0+l.length) ([]++l.flatMap flC)→W.ownsRow w.heap.size 207 2 v l.length (l.flatMap flC)):=fun v W h=>by rw[Nat.zero_add]at h;exact h
   generalize hq:l.flatMap flC=news at *
   have HC:Hid (∀j u,news[j]? =some u→(w.alloc (.cells #[] 207)).cell? ((⟨b,off,none⟩:Addr).add j)=some u):=fun j u hj=>by
    rw[Addr.add_lit];exact(((Below.refl w.heap.size w).alloc (Nat.le_refl _) _).cell (p:=⟨b,off+j,none⟩) (block_lt_of_cell (HR j u hj))).trans (HR j u hj)
   clear hl h0 hq;go_enter Tryz.func211,Tryz.ntmps211;go_wp2_with (at_builtin;refine wpList_append_own_at _ rfl _ _ 100 rfl w.heap.size 207 i0 (.agg #[.int .i64 0,.int .i64 0]) 2 16 Tryz.underlying100 hi hz0 hz1 hz2 rfl (by decide) _ _ _ rfl (World.ownsRow_made w #[] 0 (Nat.le_refl _) (Nat.zero_le _) (by simp)) ⟨b,off,none⟩ l.length cap news rfl HN HC H1 (by unfold maxLen;omega) (by omega) (by simp) ?_;intro v' w' hown hgr hnil hat);have hgr:(w.alloc (.cells #[] 207)).grownBy w' (some w.heap.size):=hgr;go_ret;exact⟨_,rfl,HL _ _ hown,(((Below.refl _ w).alloc (Nat.le_refl _) _).grown hgr (by simp) (by intro k hk;cases hk;exact Nat.le_refl _))⟩
structure RW (B:Nat) (w0:World) (r:Rt) (g g2:Nat) (P O Q:Value) (f0 f1 f2 f3 f4 f5 f6 f7 f8 f9 f10 f11 f12 f13 f14:Bool) (s3 s4 s5 s6 s7 s8 s9 s10 s11 s12 s13 s14:Value) (W:World):Prop where
 bel:Below B w0 W
 hl:g2+1≤W.heap.size
 blk:jk W g #[r.id,r.E,r.X,bif f10 then s5 else P,bif f12 then s8 else O,bif f14 then s11 else Q,r.T] 102
 hz:jk W g2 #[.int .i64 0,.int .i64 0,.int .i64 0,.slice none 0 0,.slice none 0 0,.slice none 0 0,.int .i64 0] 102
 h0:f0=true→s3= .pointer (some ⟨g,3,none⟩)
 h1:f1=true→s4=P
 h2:f2=true→IntOwn W (g2+1) s5 r.A
 h3:f3=true→s6= .pointer (some ⟨g,4,none⟩)
 h4:f4=true→s7=O
 h5:f5=true→IntOwn W (g2+1) s8 r.O
 h6:f6=true→s9= .pointer (some ⟨g,5,none⟩)
 h7:f7=true→s10=Q
 h8:f8=true→W.ownsRow (g2+1) 207 2 s11 r.fl.length (r.fl.flatMap flC)
 h9:f9=true→s12= .pointer (some ⟨g,3,none⟩)
 h11:f11=true→s13= .pointer (some ⟨g,4,none⟩)
 h13:f13=true→s14= .pointer (some ⟨g,5,none⟩)
 d0:f10=true→f1=true∧f2=true
 d1:f12=true→f4=true∧f5=true
 d2:f14=true→f7=true∧f8=true
theorem RW.below {B:Nat}{w0:World}{r:Rt}{g g2:Nat}{P O Q:Value}{f0 f1 f2 f3 f4 f5 f6 f7 f8 f9 f10 f11 f12 f13 f14:Bool}{s3 s4 s5 s6 s7 s8 s9 s10 s11 s12 s13 s14:Value}{W W':World}(h:RW B w0 r g g2 P O Q f0 f1 f2 f3 f4 f5 f6 f7 f8 f9 f10 f11 f12 f13 f14 s3 s4 s5 s6 s7 s8 s9 s10 s11 s12 s13 s14 W) (hb:jb W W') (hB:B≤W.heap.size):RW B w0 r g g2 P O Q f0 f1 f2 f3 f4 f5 f6 f7 f8 f9 f10 f11 f12 f13 f14 s3 s4 s5 s6 s7 s8 s9 s10 s11 s12 s13 s14 W':=
 {h with
  bel:=h.bel.trans (hb.mono hB)
  hl:=Nat.le_trans h.hl hb.size
  blk:=jm hb h.blk
  hz:=jm hb h.hz
  h2:=fun k=>zau (h.h2 k) hb
  h5:=fun k=>zau (h.h5 k) hb
  h8:=fun k=>zau (h.h8 k) hb}
def RtOwn (W:World) (B:Nat) (v1 v2 v3:Value) (r:Rt):Prop:=IntOwn W B v1 r.A∧IntOwn W B v2 r.O∧W.ownsRow B 207 2 v3 r.fl.length (r.fl.flatMap flC)
theorem RtOwn.m {W:World}{B:Nat}{v1 v2 v3:Value}{r:Rt}(h:RtOwn W B v1 v2 v3 r):RtM W v1 v2 v3 r:=⟨h.1.ilv,h.2.1.ilv,zeo (f:=flC) h.2.2 (fun _ _=>rfl) (fun _ _=>rfl)⟩
theorem RtOwn.setCell {W:World}{B:Nat}{v1 v2 v3:Value}{r:Rt}(h:RtOwn W B v1 v2 v3 r){a:Addr}(ha:a.block<B) (x:Value):RtOwn (W.setCell a x) B v1 v2 v3 r:=⟨zag h.1 ha x,zag h.2.1 ha x,zag h.2.2 ha x⟩
theorem RtOwn.base {W:World}{B B':Nat}{v1 v2 v3:Value}{r:Rt}(h:RtOwn W B v1 v2 v3 r) (hb:B'≤B):RtOwn W B' v1 v2 v3 r:=⟨zav h.1 hb,zav h.2.1 hb,zav h.2.2 hb⟩
theorem zb3 {w:World}{base:Nat}{e:TypeId}{sz:Nat}{v:Value}{n:Nat}{xs:List Value}(h:w.ownsRow base e sz v n xs): ∃a c,v= .slice a n c:=by
 rcases h.2 with⟨rfl,h0⟩ | ⟨g,cap,cur,rfl,_⟩
 ·exact⟨none,0,by rw[h0]⟩
 ·exact⟨_,_,rfl⟩
theorem zhb {a b c:Bool}(h:a=true→b=true∧c=true) (hb:b=false∨c=false):a=false:=by
 cases a with
 | false=>rfl
 | true=>rcases hb with e | e<;>simp[e]at h
theorem zws (r:Rt) (p1 o1 f1:Option Addr) (p2 p3 o2 o3 f2 f3:Nat) (w:World) (hr:RtM w (js p1 p2 p3) (js o1 o2 o3) (js f1 f2 f3) r) (hf:r.fit):
  Calls Tryz.prog 128 #[.agg #[r.id,r.E,r.X,js p1 p2 p3,js o1 o2 o3,js f1 f2 f3,r.T]] w fun e w'=> ∃a1 c1 a2 c2 a3 c3,e= .returned (.agg #[r.id,r.E,r.X,js a1 r.A.length c1,js a2 r.O.length c2,js a3 r.fl.length c3,r.T])∧RtOwn w' w.heap.size (js a1 r.A.length c1) (js a2 r.O.length c2) (js a3 r.fl.length c3) r∧jb w w':=by
 have HR:Hid (∀W,jb w W→RtM W (js p1 p2 p3) (js o1 o2 o3) (js f1 f2 f3) r):=fun W hb=>hr.below hb;have HF:=hI hf
 have HC0:Hid (∀W,jb w W→Calls Tryz.prog 210 #[js p1 p2 p3] W fun e w'=> ∃v,e= .returned v∧IntOwn w' W.heap.size v r.A∧jb W w'):=fun W hb=>by
  obtain⟨a,n,c,e,h⟩:=(HR W hb).A;cases e;obtain rfl:=h.len;exact ziu _ _ _ W h HF.1
 have HC1:Hid (∀W,jb w W→Calls Tryz.prog 210 #[js o1 o2 o3] W fun e w'=> ∃v,e= .returned v∧IntOwn w' W.heap.size v r.O∧jb W w'):=fun W hb=>by
  obtain⟨a,n,c,e,h⟩:=(HR W hb).O;cases e;obtain rfl:=h.len;exact ziu _ _ _ W h HF.2.1
 have HC2:Hid (∀W,jb w W→Calls Tryz.prog 211 #[js f1 f2 f3] W fun e w'=> ∃v,e= .returned v∧w'.ownsRow W.heap.size 207 2 v r.fl.length (r.fl.flatMap flC)∧jb W w'):=fun W hb=>by
  obtain⟨a,c,e,h⟩:=(HR W hb).fl;cases e;exact zwr _ _ _ W h HF.2.2
 clear hr hf HR HF;go_enter Tryz.func128,Tryz.ntmps128;go_upto_region 1 with fail;generalize hW0:World.alloc _ _=W0;have K0:Hid (jb w W0):=by show Below _ _ _;rw[←hW0];exact jal.alloc (by simp) _
 have HX0:Hid (jk W0 w.heap.size #[r.id,r.E,r.X,js p1 p2 p3,js o1 o2 o3,js f1 f2 f3,r.T] 102):=by show _=_;rw[←hW0];exact(heap_alloc_old _ _ (by simp)).trans (heap_alloc_new _ _)
 have HZ0:Hid (jk W0 (w.heap.size+1) #[.int .i64 0,.int .i64 0,.int .i64 0,.slice none 0 0,.slice none 0 0,.slice none 0 0,.int .i64 0] 102):=by show _=_;rw[←hW0];exact heap_alloc2_new _ _ _
 clear hW0;refine zd7 (by kernel_rfl) (by kernel_rfl) (fun f a W9=> ∃s3 s4 s5 s6 s7 s8 s9 s10 s11 s12 s13 s14 s15:Value,a={tmps:=#[.agg #[r.id,r.E,r.X,js p1 p2 p3,js o1 o2 o3,js f1 f2 f3,r.T],jp w.heap.size 0,jp (w.heap.size+1) 0,s3,s4,s5,s6,s7,s8,s9,s10,s11,s12,s13,s14,s15],defers:=[]}∧RW w.heap.size w r w.heap.size (w.heap.size+1) (js p1 p2 p3) (js o1 o2 o3) (js f1 f2 f3) (f 0) (f 1) (f 2) (f 3) (f 4) (f 5) (f 6) (f 7) (f 8) (f 9) (f 10) (f 11) (f 12) (f 13) (f 14) s3 s4 s5 s6 s7 s8 s9 s10 s11 s12 s13 s14 W9) ?_ ?_ ?_
 ·exact⟨_,_,_,_,_,_,_,_,_,_,_,_,_,rfl,{bel:=⟨K0.os,K0.tape,K0.output,K0.size,K0.block⟩,hl:=zad HZ0,blk:=HX0,hz:=HZ0,h0:=by simp,h1:=by simp,h2:=by simp,h3:=by simp,h4:=by simp,h5:=by simp,h6:=by simp,h7:=by simp,h8:=by simp,h9:=by simp,h11:=by simp,h13:=by simp,d0:=by simp,d1:=by simp,d2:=by simp}⟩
 ·intro i o ho f a W9 hIv hd hun;obtain⟨s3,s4,s5,s6,s7,s8,s9,s10,s11,s12,s13,s14,s15,rfl,hS⟩:=hIv;have hB:=hS.bel.size;rcases i with _ | _ | _ | _ | _ | _ | _ | _ | _ | _ | _ | _ | _ | _ | _ | i
  ·simp at ho;subst ho;simp[wpOp,go_sem];exact .inl ⟨_,_,_,_,_,_,_,_,_,_,_,_,⟨rfl,rfl,rfl,rfl,rfl,rfl,rfl,rfl,rfl,rfl,rfl,rfl⟩,{hS with h0:=fun _=>rfl}⟩
  ·simp at ho;subst ho;obtain rfl:=hS.h0 (hd ⟨0,.data⟩ (by simp) (by rfl));have hno:=zhb hS.d0 (.inl hun);have cc:jc W9 w.heap.size 3 (js p1 p2 p3):=(cell_of_row W9 _ 3 _ _ _ hS.blk).trans (by simp[hno]);simp[wpOp,go_sem,cc];exact .inl ⟨_,_,_,_,_,_,_,_,_,_,_,_,⟨rfl,rfl,rfl,rfl,rfl,rfl,rfl,rfl,rfl,rfl,rfl,rfl⟩,{hS with h1:=fun _=>rfl,d0:=fun h=>absurd h (by rw[hno];decide)}⟩
  ·simp at ho;subst ho;obtain rfl:=hS.h1 (hd ⟨1,.data⟩ (by simp) (by rfl));have hno:=zhb hS.d0 (.inr hun);have hc:=HC0 W9 hS.bel;have hgr:=hS.hl;simp[wpOp,go_sem];refine .inl (hc.mono ?_);rintro e w' ⟨v,rfl,hown,hb⟩;have hS':=RW.below hS hb hB;have hbk:=hS'.blk;simp[go_sem];exact⟨_,_,_,_,_,_,_,_,_,_,_,_,⟨rfl,rfl,rfl,rfl,rfl,rfl,rfl,rfl,rfl,rfl,rfl,rfl⟩,{hS' with blk:=(by simpa [hno]using hbk),h2:=fun _=>zav hown hgr,d0:=fun h=>absurd h (by rw[hno];decide)}⟩
  ·simp at ho;subst ho;simp[wpOp,go_sem];exact .inl ⟨_,_,_,_,_,_,_,_,_,_,_,_,⟨rfl,rfl,rfl,rfl,rfl,rfl,rfl,rfl,rfl,rfl,rfl,rfl⟩,{hS with h3:=fun _=>rfl}⟩
  ·simp at ho;subst ho;obtain rfl:=hS.h3 (hd ⟨3,.data⟩ (by simp) (by rfl));have hno:=zhb hS.d1 (.inl hun);have cc:jc W9 w.heap.size 4 (js o1 o2 o3):=(cell_of_row W9 _ 4 _ _ _ hS.blk).trans (by simp[hno]);simp[wpOp,go_sem,cc];exact .inl ⟨_,_,_,_,_,_,_,_,_,_,_,_,⟨rfl,rfl,rfl,rfl,rfl,rfl,rfl,rfl,rfl,rfl,rfl,rfl⟩,{hS with h4:=fun _=>rfl,d1:=fun h=>absurd h (by rw[hno];decide)}⟩
  ·simp at ho;subst ho;obtain rfl:=hS.h4 (hd ⟨4,.data⟩ (by simp) (by rfl));have hno:=zhb hS.d1 (.inr hun);have hc:=HC1 W9 hS.bel;have hgr:=hS.hl;simp[wpOp,go_sem];refine .inl (hc.mono ?_);rintro e w' ⟨v,rfl,hown,hb⟩;have hS':=RW.below hS hb hB;have hbk:=hS'.blk;simp[go_sem];exact⟨_,_,_,_,_,_,_,_,_,_,_,_,⟨rfl,rfl,rfl,rfl,rfl,rfl,rfl,rfl,rfl,rfl,rfl,rfl⟩,{hS' with blk:=(by simpa [hno]using hbk),h5:=fun _=>zav hown hgr,d1:=fun h=>absurd h (by rw[hno];decide)}⟩
  ·simp at ho;subst ho;simp[wpOp,go_sem];exact .inl ⟨_,_,_,_,_,_,_,_,_,_,_,_,⟨rfl,rfl,rfl,rfl,rfl,rfl,rfl,rfl,rfl,rfl,rfl,rfl⟩,{hS with h6:=fun _=>rfl}⟩
  ·simp at ho;subst ho;obtain rfl:=hS.h6 (hd ⟨6,.data⟩ (by simp) (by rfl));have hno:=zhb hS.d2 (.inl hun);have cc:jc W9 w.heap.size 5 (js f1 f2 f3):=(cell_of_row W9 _ 5 _ _ _ hS.blk).trans (by simp[hno]);simp[wpOp,go_sem,cc];exact .inl ⟨_,_,_,_,_,_,_,_,_,_,_,_,⟨rfl,rfl,rfl,rfl,rfl,rfl,rfl,rfl,rfl,rfl,rfl,rfl⟩,{hS with h7:=fun _=>rfl,d2:=fun h=>absurd h (by rw[hno];decide)}⟩
  ·simp at ho;subst ho;obtain rfl:=hS.h7 (hd ⟨7,.data⟩ (by simp) (by rfl));have hno:=zhb hS.d2 (.inr hun);have hc:=HC2 W9 hS.bel;have hgr:=hS.hl;simp[wpOp,go_sem];refine .inl (hc.mono ?_);rintro e w' ⟨v,rfl,hown,hb⟩;have hS':=RW.below hS hb hB;have hbk:=hS'.blk;simp[go_sem];exact⟨_,_,_,_,_,_,_,_,_,_,_,_,⟨rfl,rfl,rfl,rfl,rfl,rfl,rfl,rfl,rfl,rfl,rfl,rfl⟩,{hS' with blk:=(by simpa [hno]using hbk),h8:=fun _=>zav hown hgr,d2:=fun h=>absurd h (by rw[hno];decide)}⟩
  ·simp at ho;subst ho;simp[wpOp,go_sem];exact .inl ⟨_,_,_,_,_,_,_,_,_,_,_,_,⟨rfl,rfl,rfl,rfl,rfl,rfl,rfl,rfl,rfl,rfl,rfl,rfl⟩,{hS with h9:=fun _=>rfl}⟩
  ·simp at ho;subst ho;obtain rfl:=hS.h9 (hd ⟨9,.data⟩ (by simp) (by rfl));have hv:=hS.h2 (hd ⟨2,.data⟩ (by simp) (by rfl));have hv1:=hd ⟨1,.phase⟩ (by simp) (by rfl);have hv2:=hd ⟨2,.data⟩ (by simp) (by rfl);obtain⟨a',c',rfl⟩:=zb3 hv;have hbk:=hS.blk;have ff: ∀o,W9.frozen? ⟨w.heap.size,o,none⟩=false:=fun o=>by simp[World.frozen?,hbk]
   have cc:jc W9 w.heap.size 3 (js p1 p2 p3):=(cell_of_row W9 _ 3 _ _ _ hbk).trans (by simp[hun]);have lr:=zad hbk;have hlt:w.heap.size<w.heap.size+1+1:=(by omega);simp[wpOp,go_sem,ff,cc,lr];exact .inl ⟨_,_,_,_,_,_,_,_,_,_,_,_,⟨rfl,rfl,rfl,rfl,rfl,rfl,rfl,rfl,rfl,rfl,rfl,rfl⟩,{hS with bel:=(hS.bel.setCell (by simp) _),hl:=(by simp[World.setCell];exact hS.hl),blk:=(by simp[World.setCell,Array.getElem?_modify,hbk]),hz:=(by simp[World.setCell,Array.getElem?_modify,hS.hz]),h2:=(fun k=>zag (hS.h2 k) hlt _),h5:=(fun k=>zag (hS.h5 k) hlt _),h8:=(fun k=>zag (hS.h8 k) hlt _),d0:=fun _=>⟨hv1,hv2⟩}⟩
  ·simp at ho;subst ho;simp[wpOp,go_sem];exact .inl ⟨_,_,_,_,_,_,_,_,_,_,_,_,⟨rfl,rfl,rfl,rfl,rfl,rfl,rfl,rfl,rfl,rfl,rfl,rfl⟩,{hS with h11:=fun _=>rfl}⟩
  ·simp at ho;subst ho;obtain rfl:=hS.h11 (hd ⟨11,.data⟩ (by simp) (by rfl));have hv:=hS.h5 (hd ⟨5,.data⟩ (by simp) (by rfl));have hv1:=hd ⟨4,.phase⟩ (by simp) (by rfl);have hv2:=hd ⟨5,.data⟩ (by simp) (by rfl);obtain⟨a',c',rfl⟩:=zb3 hv;have hbk:=hS.blk;have ff: ∀o,W9.frozen? ⟨w.heap.size,o,none⟩=false:=fun o=>by simp[World.frozen?,hbk]
   have cc:jc W9 w.heap.size 4 (js o1 o2 o3):=(cell_of_row W9 _ 4 _ _ _ hbk).trans (by simp[hun]);have lr:=zad hbk;have hlt:w.heap.size<w.heap.size+1+1:=(by omega);simp[wpOp,go_sem,ff,cc,lr];exact .inl ⟨_,_,_,_,_,_,_,_,_,_,_,_,⟨rfl,rfl,rfl,rfl,rfl,rfl,rfl,rfl,rfl,rfl,rfl,rfl⟩,{hS with bel:=(hS.bel.setCell (by simp) _),hl:=(by simp[World.setCell];exact hS.hl),blk:=(by simp[World.setCell,Array.getElem?_modify,hbk]),hz:=(by simp[World.setCell,Array.getElem?_modify,hS.hz]),h2:=(fun k=>zag (hS.h2 k) hlt _),h5:=(fun k=>zag (hS.h5 k) hlt _),h8:=(fun k=>zag (hS.h8 k) hlt _),d1:=fun _=>⟨hv1,hv2⟩}⟩
  ·simp at ho;subst ho;simp[wpOp,go_sem];exact .inl ⟨_,_,_,_,_,_,_,_,_,_,_,_,⟨rfl,rfl,rfl,rfl,rfl,rfl,rfl,rfl,rfl,rfl,rfl,rfl⟩,{hS with h13:=fun _=>rfl}⟩
  ·simp at ho;subst ho;obtain rfl:=hS.h13 (hd ⟨13,.data⟩ (by simp) (by rfl));have hv:=hS.h8 (hd ⟨8,.data⟩ (by simp) (by rfl));have hv1:=hd ⟨7,.phase⟩ (by simp) (by rfl);have hv2:=hd ⟨8,.data⟩ (by simp) (by rfl);obtain⟨a',c',rfl⟩:=zb3 hv;have hbk:=hS.blk;have ff: ∀o,W9.frozen? ⟨w.heap.size,o,none⟩=false:=fun o=>by simp[World.frozen?,hbk]
   have cc:jc W9 w.heap.size 5 (js f1 f2 f3):=(cell_of_row W9 _ 5 _ _ _ hbk).trans (by simp[hun]);have lr:=zad hbk;have hlt:w.heap.size<w.heap.size+1+1:=(by omega);simp[wpOp,go_sem,ff,cc,lr];exact .inl ⟨_,_,_,_,_,_,_,_,_,_,_,_,⟨rfl,rfl,rfl,rfl,rfl,rfl,rfl,rfl,rfl,rfl,rfl,rfl⟩,{hS with bel:=(hS.bel.setCell (by simp) _),hl:=(by simp[World.setCell];exact hS.hl),blk:=(by simp[World.setCell,Array.getElem?_modify,hbk]),hz:=(by simp[World.setCell,Array.getElem?_modify,hS.hz]),h2:=(fun k=>zag (hS.h2 k) hlt _),h5:=(fun k=>zag (hS.h5 k) hlt _),h8:=(fun k=>zag (hS.h8 k) hlt _),d2:=fun _=>⟨hv1,hv2⟩}⟩
  ·simp at ho
 ·intro f a W9 hIv hall;obtain⟨s3,s4,s5,s6,s7,s8,s9,s10,s11,s12,s13,s14,s15,rfl,hS⟩:=hIv;have hbk:=hS.blk;have e10:f 10=true:=hall 10 (by decide);have e12:f 12=true:=hall 12 (by decide);have e14:f 14=true:=hall 14 (by decide);have o1':=hS.h2 (hall 2 (by decide));have o2':=hS.h5 (hall 5 (by decide));have o3':=hS.h8 (hall 8 (by decide));obtain⟨a1,c1,rfl⟩:=zb3 o1';obtain⟨a2,c2,rfl⟩:=zb3 o2';obtain⟨a3,c3,rfl⟩:=zb3 o3';simp only[e10,e12,e14,cond_true]at hbk;have hz:=hS.hz;have HB:=hI hS.bel;have O1:=hI o1';have O2:=hI o2';have O3:=hI o3';obtain⟨y0,y1,y2,y3,y4,y5,y6⟩:=zb7 hbk;obtain⟨z0,z1,z2,z3,z4,z5,z6⟩:=zb7 hz;have ff: ∀o,W9.frozen? ⟨w.heap.size+1,o,none⟩=false:=fun o=>by simp[World.frozen?,hz]
  have lr:=zad hz;clear hS hall hbk hz o1' o2' o3' e10 e12 e14;go_wp2_with fail;generalize hWE:World.setCell _ _ _=WE;have q0:jc WE (w.heap.size+1) 0 r.id:=by rw[←hWE];simp[go_sem,lr,z0,z1,z2,z3,z4,z5,z6]
  have q1:jc WE (w.heap.size+1) 1 r.E:=by rw[←hWE];simp[go_sem,lr,z0,z1,z2,z3,z4,z5,z6]
  have q2:jc WE (w.heap.size+1) 2 r.X:=by rw[←hWE];simp[go_sem,lr,z0,z1,z2,z3,z4,z5,z6]
  have q3:jc WE (w.heap.size+1) 3 (js a1 r.A.length c1):=by rw[←hWE];simp[go_sem,lr,z0,z1,z2,z3,z4,z5,z6]
  have q4:jc WE (w.heap.size+1) 4 (js a2 r.O.length c2):=by rw[←hWE];simp[go_sem,lr,z0,z1,z2,z3,z4,z5,z6]
  have q5:jc WE (w.heap.size+1) 5 (js a3 r.fl.length c3):=by rw[←hWE];simp[go_sem,lr,z0,z1,z2,z3,z4,z5,z6]
  have q6:jc WE (w.heap.size+1) 6 r.T:=by rw[←hWE];simp[go_sem,lr,z0,z1,z2,z3,z4,z5,z6]
  have hlt:w.heap.size+1<w.heap.size+1+1:=by omega
  have KB:Hid (jb w WE):=by show Below _ _ _;rw[←hWE];exact Below.setCell (Below.setCell (Below.setCell (Below.setCell (Below.setCell (Below.setCell (Below.setCell (HB) (by simp) _) (by simp) _) (by simp) _) (by simp) _) (by simp) _) (by simp) _) (by simp) _
  have M1:Hid (IntOwn WE (w.heap.size+1+1) (js a1 r.A.length c1) r.A):=by show IntOwn _ _ _ _;rw[←hWE];exact zag (zag (zag (zag (zag (zag (zag (O1) hlt _) hlt _) hlt _) hlt _) hlt _) hlt _) hlt _
  have M2:Hid (IntOwn WE (w.heap.size+1+1) (js a2 r.O.length c2) r.O):=by show IntOwn _ _ _ _;rw[←hWE];exact zag (zag (zag (zag (zag (zag (zag (O2) hlt _) hlt _) hlt _) hlt _) hlt _) hlt _) hlt _
  have M3:Hid (WE.ownsRow (w.heap.size+1+1) 207 2 (js a3 r.fl.length c3) r.fl.length (r.fl.flatMap flC)):=by show WE.ownsRow _ _ _ _ _ _;rw[←hWE];exact zag (zag (zag (zag (zag (zag (zag (O3) hlt _) hlt _) hlt _) hlt _) hlt _) hlt _) hlt _
  clear hWE;refine bodyPost_ret (v:= .agg #[r.id,r.E,r.X,js a1 r.A.length c1,js a2 r.O.length c2,js a3 r.fl.length c3,r.T]) (by simp[results,Tryz.f128,go_sem,q0,q1,q2,q3,q4,q5,q6]) rfl ?_;exact⟨a1,c1,a2,c2,a3,c3,rfl,RtOwn.base ⟨M1,M2,M3⟩ (by omega),KB⟩
end Go.Proofs.YtbiehpjhhopjaaaGreat
