/-
  What a plan that may run, and a state that fits it, give to a grip.
  What state.grip keeps while it fills a grip.
-/
import Derived.Test.YtbiehpjhhopjaaaGreatSoundC
import Derived.Test.YtbiehpjhhopjaaaGreatStateC
import Derived.Maps.Own
set_option linter.unusedVariables false
namespace Go.Proofs.YtbiehpjhhopjaaaGreat
/-- what a way is in bounds of -/
structure WyFit (y : Wy) : Prop where
  p6 : y.path.length ≤ 6
  p1 : 1 ≤ y.path.length
  o2 : y.over.length ≤ 2
  secs : ∀ s ∈ y.path ++ y.over, 0 ≤ s ∧ s ≤ 99
  asks : AsksFit y.asks
  len : y.asks.length ≤ 1000
theorem sound_way {p : Pl} (h : PlanSound p) {k : Nat} (hlt : k < p.rts.length) : WyFit (wyOf p p.rts[k]) := by
  have hM := h.1
  have hMk := hM.2.2 k hlt hlt
  refine ⟨hMk.1.2.2.2.2.1, hMk.1.2.2.2.1, hMk.1.2.2.2.2.2.1, fun s hs => ?_, asks_fit hM.1.2.2.2.2.2.1 hM.2.1.1.1.1 hMk.2.2, ?_⟩
  · obtain ⟨i, hi, rfl⟩ := List.getElem_of_mem hs
    have := (hMk.2.1 i hi hi).1
    exact ⟨this.1, this.2.1⟩
  · have h1 := wkFl_len (wkEnd p p.rts[k]) p.rts[k].fl p.rts[k].fl.length
    have h2 := (wkTo_len p p.rts[k] (allOf p.rts[k]).length).1
    have h3 : (allOf p.rts[k]).length = p.rts[k].path.length + p.rts[k].over.length := List.length_append
    have h4 := hMk.1.2.2.2.2.1
    have h5 := hMk.1.2.2.2.2.2.1
    have h6 := hMk.1.2.2.2.2.2.2.1
    show (wkFl (wkEnd p p.rts[k]) p.rts[k].fl p.rts[k].fl.length).asks.length ≤ 1000
    unfold wkEnd at h1 ⊢
    omega
theorem phase_gone {l : Lk} {r : Rt} (h : Phase l r) (h1 : 1 ≤ r.path.length) : 0 ≤ l.gone ∧ l.gone < r.path.length := by
  rcases h with ⟨_, h2, _⟩ | ⟨_, h2, h3, _⟩ | ⟨_, h2, _, _⟩ | ⟨_, h2, _, _⟩ <;> omega
theorem rise_le {α : Type} {f : α → Int} {l : List α} (h : RiseTo f l l.length) : ∀ (d i : Nat) (hi : i + d + 1 < l.length), f (l[i]'(by omega)) < f l[i + d + 1]
  | 0, i, hi => by
    have h1 : f (l[i + 1 - 1]'(by omega)) < f (l[i + 1]'(by omega)) := (h (i + 1) hi hi).2 (by omega)
    exact h1
  | d + 1, i, hi => by
    have h0 := rise_le h d i (by omega)
    have h1 : f (l[i + d + 1 + 1 - 1]'(by omega)) < f (l[i + d + 1 + 1]'(by omega)) := (h (i + d + 1 + 1) hi hi).2 (by omega)
    exact Int.lt_trans h0 h1
theorem rise_lt {α : Type} {f : α → Int} {l : List α} (h : RiseTo f l l.length) {i j : Nat} (hj : j < l.length) (hij : i < j) : f (l[i]'(by omega)) < f l[j] := by
  obtain ⟨d, rfl⟩ : ∃ d, j = i + d + 1 := ⟨j - i - 1, by omega⟩
  exact rise_le h d i hj
theorem sound_pts {p : Pl} (h : PlanSound p) : RiseTo Pt.id p.pts p.pts.length := h.1.2.1.1.1.1
/-- each switch has its own number -/
structure SwFit (l : List Sw) : Prop where
  at_ : ∀ i (h : i < l.length), 1 ≤ l[i].id ∧ l[i].id ≤ 99 ∧ 0 ≤ l[i].call ∧ l[i].call ≤ 2
  own : ∀ i (h : i < l.length) j (hj : j < i), l[j].id < l[i].id
theorem swFit {p : Pl} (h : PlanSound p) {l : List Sw} (hp : Pairs SwAt l p.pts) : SwFit l := by
  have hr := sound_pts h
  have hl := hp.1
  refine ⟨fun i hi => ?_, fun i hi j hj => ?_⟩
  · have h1 := hp.2 i hi (by omega) hi
    have h2 := (hr i (by omega) (by omega)).1
    rw [h1.1]
    exact ⟨h2.1, h2.2, h1.2.2.1, h1.2.2.2⟩
  · have h1 := hp.2 i hi (by omega) hi
    have h2 := hp.2 j (by omega) (by omega) (by omega)
    rw [h1.1, h2.1]
    exact rise_lt hr (by omega) hj
/-- what the first k switches call for -/
def callTo (l : List Sw) (k : Nat) (c : Int) : Int := callOf (l.take k) c
theorem callTo_zero (l : List Sw) : callTo l 0 = fun _ => 0 := by funext c; simp [callTo, callOf, oneOf]
theorem callTo_all (l : List Sw) : callTo l l.length = callOf l := by funext c; simp [callTo]
theorem callTo_step {l : List Sw} (h : SwFit l) {k : Nat} (hk : k < l.length) : callTo l (k + 1) = fun c => if c = l[k].id then l[k].call else callTo l k c := by
  funext c
  unfold callTo callOf oneOf
  rw [List.take_succ_eq_append_getElem hk, List.find?_append]
  by_cases hc : c = l[k].id
  · rw [if_pos hc]
    have : (l.take k).find? (fun x => decide (x.id = c)) = none := by
      rw [List.find?_eq_none]
      intro x hx
      obtain ⟨j, hj, rfl⟩ := List.getElem_of_mem hx
      rw [List.length_take] at hj
      rw [List.getElem_take]
      have := h.own k hk j (by omega)
      simp
      omega
    rw [this]
    simp [hc]
  · rw [if_neg hc]
    have : [l[k]].find? (fun x => decide (x.id = c)) = none := by
      rw [List.find?_eq_none]
      intro x hx
      rw [List.mem_singleton] at hx
      subst hx
      simp
      exact fun e => hc e.symm
    rw [this]
    simp
theorem grTo_step (p : Pl) (s : St) (k : Nat) (h1 : k < p.rts.length) (h2 : k < s.lks.length) :
    grTo p s (k + 1) = askAll (callOf s.sws) (asksL (wyOf p p.rts[k]) s.lks[k]) (holdAll s.lks[k].id (heldL (wyOf p p.rts[k]) s.lks[k]) (grTo p s k)) := by
  show grStep (callOf s.sws) (wyOf p (p.rts.getD k zRt)) (s.lks.getD k zLk) (grTo p s k) = _
  rw [List.getD_eq_getElem?_getD, List.getD_eq_getElem?_getD, List.getElem?_eq_getElem h1, List.getElem?_eq_getElem h2]
  rfl
end Go.Proofs.YtbiehpjhhopjaaaGreat
set_option linter.unusedVariables false
set_option linter.unusedSimpArgs false
namespace Go.Proofs.YtbiehpjhhopjaaaGreat
open Go.RowKit Go.Maps
theorem mapIs_put {W : World} {b n : Nat} {f : Int → Int} {D : DataW Unit} {c x : Int} (hD : IsMap D) (hat : ∀ c : Int, (Lit.int .i64 c).wf = true → D.atKey (.int .i64 c) (.lit (.int .i64 0)) = .lit (.int .i64 (f c)))
    (h : W.ownsMap Tryz.prog 3 (plainElem Tryz.prog 3) b (n + 1) (D.put (.int .i64 c) (.lit (.int .i64 x)))) : MapIs W b (n + 1) (fun q => if q = c then x else f q) := by
  refine ⟨_, h, hD.put _ _, fun q hq => ?_⟩
  show _ = DataW.lit (Lit.int IntKind.i64 (if q = c then x else f q))
  by_cases e : q = c
  · subst e
    rw [if_pos rfl]
    exact atKey_put_same (k := Lit.int .i64 q) hD trivial _ _
  · rw [if_neg e, atKey_put_other (fun h => e (by injection h)) _ _]
    exact hat q hq
theorem mapIs_made (w : World) : MapIs (w.alloc (.map #[] 0)) w.heap.size 0 (fun _ => 0) := ⟨_, World.ownsMap_made _ _ _ _, isMap_empty, fun _ _ => rfl⟩
theorem MapIs.block {W : World} {b n : Nat} {f : Int → Int} (h : MapIs W b n f) : ∃ es clock, W.heap[b]? = some (.map es clock) := by
  obtain ⟨D, ⟨es, clock, hb, _⟩, _⟩ := h
  exact ⟨es, clock, hb⟩
/-- grip's inner state: the two blocks, the map, its variable -/
structure GI (N : Nat) (W0 w4 : World) (gR gG b gM : Nat) (v : Value) (g : Gr) (n : Nat) (f : Int → Int) (W : World) : Prop where
  tw : Tw gR gG W0 W
  gr : GrM W gR gG g v
  mp : MapIs W b n f
  mc : W.cell? ⟨gM, 0, none⟩ = some (.map (some b))
  sm : Same MG w4 W
  lb : N ≤ b
  lm : N ≤ gM
section
variable {N : Nat} {W0 w4 W W' : World} {gR gG b gM n : Nat} {v : Value} {g : Gr} {f : Int → Int}
theorem GI.below (h : GI N W0 w4 gR gG b gM v g n f W) (hN : N = W0.heap.size) (hb : Below W.heap.size W W') : GI N W0 w4 gR gG b gM v g n f W' :=
  ⟨h.tw.trans (Tw.of_below hb), h.gr.below hb, h.mp.same (hb.block _ h.mp.lt), (hb.cell (World.block_lt_of_cell? _ _ h.mc)).trans h.mc, h.sm.trans (Same.of_below hb), h.lb, h.lm⟩
theorem GI.grown (h : GI N W0 w4 gR gG b gM v g n f W) (hN : N = W0.heap.size) (hR : gR < N) (hG : gG < N) {n' : Nat} {f' : Int → Int} (hm : MapIs W' b n' f') (hg : W.grownBy W' (some b)) : GI N W0 w4 gR gG b gM v g n' f' W' := by
  have l := h.lb
  have lW := h.tw.size
  have bR : W'.heap[gR]? = W.heap[gR]? := hg.block gR (by omega) (by intro e; injection e; omega)
  have bG : W'.heap[gG]? = W.heap[gG]? := hg.block gG (by omega) (by intro e; injection e; omega)
  obtain ⟨es, clock, hb⟩ := h.mp.block
  have hM : gM ≠ b := by
    intro e
    subst e
    have := h.mc
    simp [World.cell?, hb] at this
  refine ⟨⟨hg.os.trans h.tw.os, hg.tape.trans h.tw.tape, hg.output.trans h.tw.output, Nat.le_trans lW hg.size, fun k hk h1 h2 => (hg.block k (by omega) (by intro e; injection e; omega)).trans (h.tw.block k hk h1 h2)⟩, ⟨bR.trans h.gr.ok, h.gr.row.same bG⟩, hm, (World.cell?_of_block (w := W) (hg.block gM (World.block_lt_of_cell? _ _ h.mc) (by intro e; injection e; exact absurd ‹_› hM))).trans h.mc, ?_, h.lb, h.lm⟩
  · intro k c t fr hk hm'
    have h1 := h.sm k c t fr hk hm'
    refine (hg.block k (lt_of_block h1) ?_).trans h1
    intro e
    injection e with e
    subst e
    rw [hb] at h1
    cases h1
theorem GI.tws (h : GI N W0 w4 gR gG b gM v g n f W) (ht : Tw gR gG W W') : Same MG w4 W' := by
  intro k c t fr hk hm'
  have h1 := h.sm k c t fr hk hm'
  refine (ht.block k (lt_of_block h1) ?_ ?_).trans h1
  · intro e
    subst e
    rw [h.gr.ok] at h1
    injection h1 with h1
    injection h1 with _ h1
    subst h1
    cases hm'
  · intro e
    subst e
    obtain ⟨cur, hc, _⟩ := h.gr.row.row
    rw [hc] at h1
    injection h1 with h1
    injection h1 with _ h1
    subst h1
    cases hm'
theorem GI.post {g' : Gr} (h : GI N W0 w4 gR gG b gM v g n f W) (hN : N = W0.heap.size) (hR : gR < N) (hG : gG < N) (hg : GrM W' gR gG g' v) (ht : Tw gR gG W W') : GI N W0 w4 gR gG b gM v g' n f W' := by
  have l := h.lb
  have l2 := h.lm
  exact ⟨h.tw.trans ht, hg, h.mp.same (ht.block b h.mp.lt (by omega) (by omega)), (World.cell?_of_block (w := W) (ht.block gM (World.block_lt_of_cell? _ _ h.mc) (by show gM ≠ gR; omega) (by show gM ≠ gG; omega))).trans h.mc, h.tws ht, h.lb, h.lm⟩
theorem GI.setR (h : GI N W0 w4 gR gG b gM v g n f W) (hN : N = W0.heap.size) (hR : gR < N) (hG : gG < N) (hne : gR ≠ gG) (x : Bool) : GI N W0 w4 gR gG b gM v ⟨g.H, g.A, x⟩ n f (W.setCell ⟨gR, 0, none⟩ (.bool x)) :=
  h.post hN hR hG ⟨by simp [World.setCell, Array.getElem?_modify, h.gr.ok], h.gr.row.same (Below.heap_setCell W ⟨gR, 0, none⟩ _ gG (Ne.symm hne))⟩ (Tw.setR _ _ _)
/-- the ways, read in whatever of these worlds -/
theorem GI.wys {l : List Wy} {u : Value} (h : GI N W0 w4 gR gG b gM v g n f W) (hw : Wys (maskW MG w4) u l) : Wys W u l := Sl.ext keepsC_wy (Sl.ext keepsC_wy hw h.sm.ext) (maskW_ext MG W)
/-- one way, read in whatever of these worlds -/
structure WyAt (w : World) (a : Option Addr) (k : Nat) (ap ao aa : Option Addr) (cp co ca : Nat) (y : Wy) : Prop where
  cells : ∃ b off, a = some ⟨b, off, none⟩ ∧ w.cell? ⟨b, off + k * 4, none⟩ = some (.slice ap y.path.length cp) ∧ w.cell? ⟨b, off + k * 4 + 1, none⟩ = some (.slice ao y.over.length co) ∧ w.cell? ⟨b, off + k * 4 + 2, none⟩ = some (.slice aa y.asks.length ca) ∧ w.cell? ⟨b, off + k * 4 + 3, none⟩ = some (.int .i64 y.near)
  path : IL w ap y.path.length y.path
  over : IL w ao y.over.length y.over
  asks : SlA w 3 RAsk aa ca y.asks
  cap : y.path.length ≤ cp
theorem SlA.wyAt {w : World} {a : Option Addr} {cap : Nat} {l : List Wy} (h : SlA w 4 RWy a cap l) {i : Nat} (hi : i < l.length) : ∃ ap ao aa cp co ca, WyAt w a i ap ao aa cp co ca l[i] := by
  obtain ⟨b, off, vp, vo, va, e, x0, x1, x2, x3, i1, i2, i3, i4⟩ := h.wyc hi
  obtain ⟨ap, cp, rfl, j1⟩ := i1.at_
  obtain ⟨ao, co, rfl, j2⟩ := i2.at_
  obtain ⟨aa, ca, rfl, j3⟩ := i3
  exact ⟨ap, ao, aa, cp, co, ca, ⟨b, off, e, x0, x1, x2, x3⟩, j1, j2, j3, i4 _ _ _ rfl⟩
theorem WyAt.ext {w w' : World} {a : Option Addr} {k : Nat} {ap ao aa : Option Addr} {cp co ca : Nat} {y : Wy} (h : WyAt w a k ap ao aa cp co ca y) (he : Ext w w') : WyAt w' a k ap ao aa cp co ca y := by
  obtain ⟨b, off, e, x0, x1, x2, x3⟩ := h.cells
  exact ⟨⟨b, off, e, he _ _ x0, he _ _ x1, he _ _ x2, he _ _ x3⟩, h.path.ext he, h.over.ext he, h.asks.ext keepsC_ask he, h.cap⟩
theorem WyAt.same {w4 W' : World} {a : Option Addr} {k : Nat} {ap ao aa : Option Addr} {cp co ca : Nat} {y : Wy} (h : WyAt (maskW MG w4) a k ap ao aa cp co ca y) (hs : Same MG w4 W') : WyAt W' a k ap ao aa cp co ca y :=
  (h.ext hs.ext).ext (maskW_ext MG W')
end
/-- where it starts: the ways stored, the map made, its variable set -/
theorem gi_start {W0 w4 : World} {gR gG : Nat} {u v : Value} {g : Gr} (ht : Tw gR gG W0 w4) (hg : GrM w4 gR gG g u) (hne : gR ≠ gG) :
    GI W0.heap.size W0 w4 gR gG w4.heap.size (w4.heap.size + 1) v g 0 (fun _ => 0) (((w4.setCell ⟨gG, 200, none⟩ v).alloc (.map #[] 0)).alloc (.cells #[.map (some w4.heap.size)] 357)) := by
  have e0 : (w4.setCell ⟨gG, 200, none⟩ v).heap.size = w4.heap.size := by simp [World.setCell]
  have hm := mapIs_made (w4.setCell ⟨gG, 200, none⟩ v)
  rw [e0] at hm
  have hb : Below (w4.setCell ⟨gG, 200, none⟩ v).heap.size (w4.setCell ⟨gG, 200, none⟩ v) (((w4.setCell ⟨gG, 200, none⟩ v).alloc (.map #[] 0)).alloc (.cells #[.map (some w4.heap.size)] 357)) := ((Below.refl _ _).alloc (Nat.le_refl _) _).alloc (by simp) _
  have hb1 : Below ((w4.setCell ⟨gG, 200, none⟩ v).alloc (.map #[] 0)).heap.size ((w4.setCell ⟨gG, 200, none⟩ v).alloc (.map #[] 0)) (((w4.setCell ⟨gG, 200, none⟩ v).alloc (.map #[] 0)).alloc (.cells #[.map (some w4.heap.size)] 357)) := (Below.refl _ _).alloc (Nat.le_refl _) _
  have hg1 : GrM (w4.setCell ⟨gG, 200, none⟩ v) gR gG g v := ⟨(Below.heap_setCell _ _ _ gR hne).trans hg.ok, hg.row.setV v⟩
  refine ⟨(ht.trans (Tw.setG _ _ _)).trans (Tw.of_below hb), hg1.below hb, hm.same (hb1.block _ hm.lt), ?_, ?_, ht.size, Nat.le_succ_of_le ht.size⟩
  · have := heap_alloc_new ((w4.setCell ⟨gG, 200, none⟩ v).alloc (.map #[] 0)) (.cells #[.map (some w4.heap.size)] 357)
    have e1 : ((w4.setCell ⟨gG, 200, none⟩ v).alloc (.map #[] 0)).heap.size = w4.heap.size + 1 := by simp [World.setCell]
    rw [e1] at this
    exact (cell_of_row _ _ 0 _ _ _ this).trans rfl
  · refine Same.trans ?_ (Same.of_below hb)
    intro k c t fr hk hm'
    refine (Below.heap_setCell _ _ _ k ?_).trans hk
    intro e
    subst e
    obtain ⟨cur, hc, _⟩ := hg.row.row
    rw [hc] at hk
    injection hk with hk
    injection hk with _ hk
    subst hk
    cases hm'
end Go.Proofs.YtbiehpjhhopjaaaGreat
