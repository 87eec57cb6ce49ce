/-
  state.Image, walked.
-/
import Derived.Test.YtbiehpjhhopjaaaGreatImgA
import Derived.Test.YtbiehpjhhopjaaaGreatLawP
import Derived.Test.YtbiehpjhhopjaaaGreatStateF
import Derived.Deep.LoopGhost
import Derived.Deep.Light
import Derived.StillTailTactics
set_option linter.unusedVariables false
set_option linter.unusedSimpArgs false
namespace Go.Proofs.YtbiehpjhhopjaaaGreat
open Go.RowKit Go.Maps
theorem flat_set {α : Type} (f : α → List Value) (sz : Nat) : ∀ (l : List α) (k r : Nat) (y : α) (u : Value) (hk : k < l.length), (∀ x ∈ l, (f x).length = sz) → r < sz → f y = (f l[k]).set r u → (l.set k y).flatMap f = (l.flatMap f).set (k * sz + r) u
  | [], k, r, y, u, hk, _, _, _ => by simp at hk
  | x :: l, 0, r, y, u, _, hs, hr, hy => by
    have hx := hs x List.mem_cons_self
    rw [List.set_cons_zero, List.flatMap_cons, List.flatMap_cons, hy, Nat.zero_mul, Nat.zero_add, List.set_append_left _ _ (by show r < (f x).length; omega)]
    rfl
  | x :: l, k + 1, r, y, u, hk, hs, hr, hy => by
    have hx := hs x List.mem_cons_self
    have e : (k + 1) * sz + r = (f x).length + (k * sz + r) := by rw [hx, Nat.add_mul]; omega
    rw [List.set_cons_succ, List.flatMap_cons, List.flatMap_cons, flat_set f sz l k r y u (by simpa using hk) (fun z hz => hs z (List.mem_cons_of_mem _ hz)) hr (by simpa using hy), e, List.set_append_right _ _ (by omega)]
    congr 2
    omega
theorem prog_set {α : Type} {A A' l : List α} {b : α} {k : Nat} (hA : A.length = k) (hk : k < l.length) (hA' : A' = A ++ [b]) : A' ++ l.drop (k + 1) = (A ++ l.drop k).set k b := by
  subst hA'
  rw [List.set_append_right _ _ (by omega), hA, Nat.sub_self, List.drop_eq_getElem_cons hk, List.set_cons_zero, List.append_assoc]
  rfl
def tkTo (l : List Tk) (k : Nat) : List Tk := (l.take k).map imgTk ++ l.drop k
def swTo (l : List Sw) (k : Nat) : List Sw := (l.take k).map imgSw ++ l.drop k
def lkTo (l : List Lk) (r : List Rt) (k : Nat) : List Lk := List.zipWith imgLk (l.take k) (r.take k) ++ l.drop k
theorem tkTo_len (l : List Tk) (k : Nat) : (tkTo l k).length = l.length := by unfold tkTo; simp; omega
theorem swTo_len (l : List Sw) (k : Nat) : (swTo l k).length = l.length := by unfold swTo; simp; omega
theorem lkTo_len (l : List Lk) (r : List Rt) (k : Nat) (h : l.length = r.length) : (lkTo l r k).length = l.length := by unfold lkTo; simp; omega
theorem tkTo_step {l : List Tk} {k : Nat} (h : k < l.length) : tkTo l (k + 1) = (tkTo l k).set k (imgTk l[k]) :=
  prog_set (by rw [List.length_map, List.length_take]; omega) h (by rw [List.take_succ_eq_append_getElem h, List.map_append]; rfl)
theorem swTo_step {l : List Sw} {k : Nat} (h : k < l.length) : swTo l (k + 1) = (swTo l k).set k (imgSw l[k]) :=
  prog_set (by rw [List.length_map, List.length_take]; omega) h (by rw [List.take_succ_eq_append_getElem h, List.map_append]; rfl)
theorem lkTo_step {l : List Lk} {r : List Rt} {k : Nat} (h : k < l.length) (h2 : k < r.length) : lkTo l r (k + 1) = (lkTo l r k).set k (imgLk l[k] r[k]) :=
  prog_set (by simp; omega) h (by rw [List.take_succ_eq_append_getElem h, List.take_succ_eq_append_getElem h2, List.zipWith_append (by simp; omega)]; rfl)
theorem tkTo_at {l : List Tk} {k : Nat} (h : k < l.length) : (tkTo l k)[k]'(by rw [tkTo_len]; exact h) = l[k] := by
  unfold tkTo
  rw [List.getElem_append_right (by rw [List.length_map, List.length_take]; omega)]
  simp [Nat.min_eq_left (Nat.le_of_lt h)]
theorem swTo_at {l : List Sw} {k : Nat} (h : k < l.length) : (swTo l k)[k]'(by rw [swTo_len]; exact h) = l[k] := by
  unfold swTo
  rw [List.getElem_append_right (by rw [List.length_map, List.length_take]; omega)]
  simp [Nat.min_eq_left (Nat.le_of_lt h)]
theorem lkTo_at {l : List Lk} {r : List Rt} {k : Nat} (h : k < l.length) (hl : l.length = r.length) : (lkTo l r k)[k]'(by rw [lkTo_len _ _ _ hl]; exact h) = l[k] := by
  unfold lkTo
  rw [List.getElem_append_right (by simp; omega)]
  simp [Nat.min_eq_left (Nat.le_of_lt h), show min k r.length = k by omega]
theorem tkTo_all (l : List Tk) : tkTo l l.length = l.map imgTk := by unfold tkTo; simp
theorem swTo_all (l : List Sw) : swTo l l.length = l.map imgSw := by unfold swTo; simp
theorem lkTo_all {l : List Lk} {r : List Rt} (h : l.length = r.length) : lkTo l r l.length = List.zipWith imgLk l r := by
  unfold lkTo
  rw [List.take_length, h, List.take_length, ← h, List.drop_length, List.append_nil]
theorem StOwn.setSw {W : World} {N g n cap : Nat} {t l : Value} {x : St} (h : StOwn W N t (.slice (some ⟨g, 0, none⟩) n cap) l x) {i : Nat} (hi : i < (x.sws.flatMap swC).length) (u : Value) (y : List Sw) (hy : y.length = x.sws.length) (hyc : y.flatMap swC = (x.sws.flatMap swC).set i u) (hn : n = x.sws.length) :
    StOwn (W.setCell ⟨g, i, none⟩ u) N t (.slice (some ⟨g, 0, none⟩) n cap) l ⟨x.tks, y, x.lks⟩ := by
  subst hn
  refine ⟨h.tks.kept (grown_set W g i u) ?_, ?_, h.lks.kept (grown_set W g i u) ?_⟩
  · rcases own_apart h.tks h.sws (by decide) with h | h
    · exact .inl h
    · exact .inr h
  · show World.ownsRow _ _ _ _ _ y.length (y.flatMap swC)
    rw [hy, hyc]
    exact own_put h.sws hi u
  · rcases own_apart h.lks h.sws (by decide) with h | h
    · exact .inl h
    · exact .inr h
theorem StOwn.setLk {W : World} {N g n cap : Nat} {t s : Value} {x : St} (h : StOwn W N t s (.slice (some ⟨g, 0, none⟩) n cap) x) {i : Nat} (hi : i < (x.lks.flatMap lkC).length) (u : Value) (y : List Lk) (hy : y.length = x.lks.length) (hyc : y.flatMap lkC = (x.lks.flatMap lkC).set i u) (hn : n = x.lks.length) :
    StOwn (W.setCell ⟨g, i, none⟩ u) N t s (.slice (some ⟨g, 0, none⟩) n cap) ⟨x.tks, x.sws, y⟩ := by
  subst hn
  refine ⟨h.tks.kept (grown_set W g i u) ?_, h.sws.kept (grown_set W g i u) ?_, ?_⟩
  · rcases own_apart h.tks h.lks (by decide) with h | h
    · exact .inl h
    · exact .inr h
  · rcases own_apart h.sws h.lks (by decide) with h | h
    · exact .inl h
    · exact .inr h
  · show World.ownsRow _ _ _ _ _ y.length (y.flatMap lkC)
    rw [hy, hyc]
    exact own_put h.lks hi u
/-- Image's inner state -/
structure ImgM (w : World) (N : Nat) (pc : Array Value) (t s l : Value) (x : St) (W : World) : Prop where
  bel : Below w.heap.size w W
  pl : W.heap[w.heap.size]? = some (.cells pc 28 (0, 0))
  blk : W.heap[w.heap.size + 1]? = some (.cells #[t, s, l] 33 (0, 0))
  res : W.heap[w.heap.size + 1 + 1]? = some (.cells #[.slice none 0 0, .slice none 0 0, .slice none 0 0] 33 (0, 0))
  own : StOwn W N t s l x
theorem ImgM.set {w : World} {N : Nat} {pc : Array Value} {t s l : Value} {x x' : St} {W : World} (h : ImgM w N pc t s l x W) (hN : w.heap.size + 1 + 1 < N) {g i : Nat} {u : Value} (hg : N ≤ g) (ho : StOwn (W.setCell ⟨g, i, none⟩ u) N t s l x') : ImgM w N pc t s l x' (W.setCell ⟨g, i, none⟩ u) :=
  ⟨h.bel.setCell (by show w.heap.size ≤ g; omega) u, (Below.heap_setCell _ _ _ _ (by show w.heap.size ≠ g; omega)).trans h.pl, (Below.heap_setCell _ _ _ _ (by show w.heap.size + 1 ≠ g; omega)).trans h.blk, (Below.heap_setCell _ _ _ _ (by show w.heap.size + 1 + 1 ≠ g; omega)).trans h.res, ho⟩
theorem ImgM.below {w : World} {N : Nat} {pc : Array Value} {t s l : Value} {x : St} {W W' : World} (h : ImgM w N pc t s l x W) (hb : Below W.heap.size W W') : ImgM w N pc t s l x W' :=
  ⟨h.bel.trans (hb.mono h.bel.size), (hb.block _ (lt_of_block h.pl)).trans h.pl, (hb.block _ (lt_of_block h.blk)).trans h.blk, (hb.block _ (lt_of_block h.res)).trans h.res, h.own.below hb⟩
/-- what a row of one's own that is not empty is -/
theorem own_at {w : World} {base : Nat} {e : TypeId} {sz : Nat} {v : Value} {n : Nat} {xs : List Value} (h : w.ownsRow base e sz v n xs) (hn : 0 < n) : ∃ g cap, v = .slice (some ⟨g, 0, none⟩) n cap ∧ base ≤ g ∧ g < w.heap.size ∧ (∀ o, w.frozen? ⟨g, o, none⟩ = false) ∧ ∀ (i : Nat) (u : Value), xs[i]? = some u → w.cell? ⟨g, i, none⟩ = some u := by
  rcases h.2 with ⟨_, h0⟩ | ⟨g, cap, cur, rfl, hbg, hgg, _⟩
  · omega
  · refine ⟨g, cap, rfl, hbg, lt_of_block hgg, fun o => by simp [World.frozen?, hgg], fun i u hu => ?_⟩
    have h2 := h.cells (g := g) rfl i u hu
    rw [add_lit0] at h2
    exact h2
def ImgPost (w : World) (p : Pl) (st : St) (e : Ending) (w' : World) : Prop :=
  (ofErr p st ≠ 0 ∧ e = .returned (.tuple #[.agg #[.slice none 0 0, .slice none 0 0, .slice none 0 0], .int .i64 (ofErr p st)]) ∧ Below w.heap.size w w') ∨
  (ofErr p st = 0 ∧ ∃ t s l, e = .returned (.tuple #[.agg #[t, s, l], .int .i64 0]) ∧ StM w' t s l (imgSt p st) ∧ Below w.heap.size w w')
set_option maxRecDepth 100000 in
set_option maxHeartbeats 8000000 in
theorem image_any (p : Pl) (s q gg rr : Value) (st : St) (t sw lk : Value) (w : World) (hp : PlM w s q gg rr p) (hf : p.Fit) (hs : StM w t sw lk st) (hsf : st.fit) :
    Calls Tryz.prog 47 #[plV p s q gg rr, .agg #[t, sw, lk]] w (ImgPost w p st) := by
  have HCK : Hid (∀ W, Below w.heap.size w W → Calls Tryz.prog 87 #[plV p s q gg rr, .agg #[t, sw, lk]] W (ErrPost W (ofErr p st))) := fun W hb => stcheck_any p st _ _ _ _ _ _ _ W (hp.below hb) hf (hs.below hb) hsf
  have HTW : Hid (∀ W, Below w.heap.size w W → Calls Tryz.prog 67 #[.agg #[t, sw, lk]] W fun e w' => ∃ a1 c1 a2 c2 a3 c3, e = .returned (.agg #[.slice a1 st.tks.length c1, .slice a2 st.sws.length c2, .slice a3 st.lks.length c3]) ∧ StOwn w' W.heap.size (.slice a1 st.tks.length c1) (.slice a2 st.sws.length c2) (.slice a3 st.lks.length c3) st ∧ Below W.heap.size W w') := fun W hb => twin_any st _ _ _ W (hs.below hb) hsf
  have HST : Hid (StA p st → st.lks.length = p.rts.length) := fun h => h.2.2.1
  obtain ⟨a1, c1, rfl, -⟩ := hp.secs
  obtain ⟨a2, c2, rfl, -⟩ := hp.pts
  obtain ⟨a3, c3, rfl, -⟩ := hp.sigs
  obtain ⟨a4, c4, rfl, hr⟩ := hp.rts
  have HR : Hid (∀ W, Below w.heap.size w W → SlA W 7 RRt a4 c4 p.rts) := fun W hb => hr.below keeps_rt hb
  obtain ⟨b1, d1, rfl, -⟩ := hs.tks
  obtain ⟨b2, d2, rfl, -⟩ := hs.sws
  obtain ⟨b3, d3, rfl, -⟩ := hs.lks
  have HFT := Lib.hid hsf
  clear hp hf hs hsf hr
  have HE0 : Hid (ofErr p st = 0 → st.lks.length = p.rts.length) := fun h => (ofErr_zero h).2.1.2.2.1
  unfold plV at *
  go_enter Tryz.func47, Tryz.ntmps47
  go_upto_region 1 with fail
  generalize hW0 : World.alloc _ _ = W0
  have K0 : Hid (Below w.heap.size w W0) := by show Below _ _ _; rw [← hW0]; exact (((Below.refl _ _).alloc (Nat.le_refl _) _).alloc (by simp) _).alloc (by simp <;> omega) _
  have HP0 : Hid (W0.heap[w.heap.size]? = some (.cells #[.int .i64 p.ver, .int .i64 p.par, .slice a1 p.secs.length c1, .slice a2 p.pts.length c2, .slice a3 p.sigs.length c3, .slice a4 p.rts.length c4] 28 (0, 0))) := by show _ = _; rw [← hW0]; exact (heap_alloc_old _ _ (by simp <;> omega)).trans ((heap_alloc_old _ _ (by simp)).trans (heap_alloc_new _ _))
  have HS0 : Hid (W0.heap[w.heap.size + 1]? = some (.cells #[.slice b1 st.tks.length d1, .slice b2 st.sws.length d2, .slice b3 st.lks.length d3] 33 (0, 0))) := by show _ = _; rw [← hW0]; exact (heap_alloc_old _ _ (by simp)).trans (heap_alloc2_new _ _ _)
  have HR0 : Hid (W0.heap[w.heap.size + 1 + 1]? = some (.cells #[.slice none 0 0, .slice none 0 0, .slice none 0 0] 33 (0, 0))) := by
    show _ = _
    rw [← hW0]
    have := heap_alloc2_new (w.alloc (.cells #[.int .i64 p.ver, .int .i64 p.par, .slice a1 p.secs.length c1, .slice a2 p.pts.length c2, .slice a3 p.sigs.length c3, .slice a4 p.rts.length c4] 28)) (.cells #[.slice b1 st.tks.length d1, .slice b2 st.sws.length d2, .slice b3 st.lks.length d3] 33) (.cells #[.slice none 0 0, .slice none 0 0, .slice none 0 0] 33)
    simpa using this
  clear hW0
  have pp0 : W0.cell? ⟨w.heap.size, 0, none⟩ = some (.int .i64 p.ver) := (cell_of_row W0 _ 0 _ _ _ HP0.out).trans rfl
  have pp1 : W0.cell? ⟨w.heap.size, 1, none⟩ = some (.int .i64 p.par) := (cell_of_row W0 _ 1 _ _ _ HP0.out).trans rfl
  have pp2 : W0.cell? ⟨w.heap.size, 2, none⟩ = some (.slice a1 p.secs.length c1) := (cell_of_row W0 _ 2 _ _ _ HP0.out).trans rfl
  have pp3 : W0.cell? ⟨w.heap.size, 3, none⟩ = some (.slice a2 p.pts.length c2) := (cell_of_row W0 _ 3 _ _ _ HP0.out).trans rfl
  have pp4 : W0.cell? ⟨w.heap.size, 4, none⟩ = some (.slice a3 p.sigs.length c3) := (cell_of_row W0 _ 4 _ _ _ HP0.out).trans rfl
  have pp5 : W0.cell? ⟨w.heap.size, 5, none⟩ = some (.slice a4 p.rts.length c4) := (cell_of_row W0 _ 5 _ _ _ HP0.out).trans rfl
  have ss0 : W0.cell? ⟨w.heap.size + 1, 0, none⟩ = some (.slice b1 st.tks.length d1) := (cell_of_row W0 _ 0 _ _ _ HS0.out).trans rfl
  have ss1 : W0.cell? ⟨w.heap.size + 1, 1, none⟩ = some (.slice b2 st.sws.length d2) := (cell_of_row W0 _ 1 _ _ _ HS0.out).trans rfl
  have ss2 : W0.cell? ⟨w.heap.size + 1, 2, none⟩ = some (.slice b3 st.lks.length d3) := (cell_of_row W0 _ 2 _ _ _ HS0.out).trans rfl
  go_wp2_with fail
  refine (HCK.out W0 K0.out).mono ?_
  rintro e w1 ⟨rfl, hb1⟩
  have K1 : Hid (Below w.heap.size w w1) := K0.out.trans (hb1.mono K0.out.size)
  have HP1 := Lib.hid ((hb1.block _ (lt_of_block HP0.out)).trans HP0.out)
  have HS1 := Lib.hid ((hb1.block _ (lt_of_block HS0.out)).trans HS0.out)
  have HR1 := Lib.hid ((hb1.block _ (lt_of_block HR0.out)).trans HR0.out)
  clear hb1 pp0 pp1 pp2 pp3 pp4 pp5 ss0 ss1 ss2 HP0 HS0 HR0 K0
  by_cases hE : ofErr p st = 0
  · have hlen := HE0.out hE
    have HLEN := Lib.hid hlen
    have HPOST : Hid (∀ e W', (∃ t s l, e = .returned (.tuple #[.agg #[t, s, l], .int .i64 0]) ∧ StM W' t s l (imgSt p st) ∧ Below w.heap.size w W') → ImgPost w p st e W') := fun e W' h => .inr ⟨hE, h⟩
    rw [hE]
    clear hE hlen
    generalize ImgPost w p st = POST at *
    have ss0 : w1.cell? ⟨w.heap.size + 1, 0, none⟩ = some (.slice b1 st.tks.length d1) := (cell_of_row w1 _ 0 _ _ _ HS1.out).trans rfl
    have ss1 : w1.cell? ⟨w.heap.size + 1, 1, none⟩ = some (.slice b2 st.sws.length d2) := (cell_of_row w1 _ 1 _ _ _ HS1.out).trans rfl
    have ss2 : w1.cell? ⟨w.heap.size + 1, 2, none⟩ = some (.slice b3 st.lks.length d3) := (cell_of_row w1 _ 2 _ _ _ HS1.out).trans rfl
    go_wp2_with fail
    refine (HTW.out w1 K1.out).mono ?_
    rintro e w2 ⟨h1, m1, h2, m2, h3, m3, rfl, hown, hb2⟩
    have K2 : Hid (Below w.heap.size w w2) := K1.out.trans (hb2.mono K1.out.size)
    have HP2 := Lib.hid ((hb2.block _ (lt_of_block HP1.out)).trans HP1.out)
    have hs2 := (hb2.block _ (lt_of_block HS1.out)).trans HS1.out
    have HR2 := Lib.hid ((hb2.block _ (lt_of_block HR1.out)).trans HR1.out)
    have HN : Hid (w.heap.size + 1 + 1 < w1.heap.size) := lt_of_block HR1.out
    have HOW := Lib.hid hown
    clear hb2 hown ss0 ss1 ss2 HP1 HR1 HS1
    have ss0 : w2.cell? ⟨w.heap.size + 1, 0, none⟩ = some (.slice b1 st.tks.length d1) := (cell_of_row w2 _ 0 _ _ _ hs2).trans rfl
    have ss1 : w2.cell? ⟨w.heap.size + 1, 1, none⟩ = some (.slice b2 st.sws.length d2) := (cell_of_row w2 _ 1 _ _ _ hs2).trans rfl
    have ss2 : w2.cell? ⟨w.heap.size + 1, 2, none⟩ = some (.slice b3 st.lks.length d3) := (cell_of_row w2 _ 2 _ _ _ hs2).trans rfl
    have ff : ∀ o, w2.frozen? ⟨w.heap.size + 1, o, none⟩ = false := fun o => by simp [World.frozen?, hs2]
    have lr := lt_of_block hs2
    have HS2 := Lib.hid hs2
    clear hs2
    go_upto_region 5 with fail
    generalize hW3 : World.setCell _ _ _ = W3
    have HM : Hid (ImgM w w1.heap.size #[.int .i64 p.ver, .int .i64 p.par, .slice a1 p.secs.length c1, .slice a2 p.pts.length c2, .slice a3 p.sigs.length c3, .slice a4 p.rts.length c4] (.slice h1 st.tks.length m1) (.slice h2 st.sws.length m2) (.slice h3 st.lks.length m3) st W3) := by
      show ImgM _ _ _ _ _ _ _ _
      rw [← hW3]
      have hl : w.heap.size + 1 < w1.heap.size := Nat.lt_of_succ_lt HN.out
      refine ⟨((K2.out.setCell (by simp) _).setCell (by simp) _).setCell (by simp) _, ?_, ?_, ?_, ((HOW.out.setCell hl _).setCell hl _).setCell hl _⟩
      · simp [World.setCell, Array.getElem?_modify, HP2.out]
      · simp [World.setCell, Array.getElem?_modify, HS2.out]
      · simp [World.setCell, Array.getElem?_modify, HR2.out]
    clear hW3 ff lr ss0 ss1 ss2 HOW HP2 HS2 HR2 K2 K1
    have HM0 : Hid (ImgM w w1.heap.size #[.int .i64 p.ver, .int .i64 p.par, .slice a1 p.secs.length c1, .slice a2 p.pts.length c2, .slice a3 p.sigs.length c3, .slice a4 p.rts.length c4] (.slice h1 st.tks.length m1) (.slice h2 st.sws.length m2) (.slice h3 st.lks.length m3) ⟨tkTo st.tks 0, st.sws, st.lks⟩ W3) := HM.out
    clear HM
    have ss0 : W3.cell? ⟨w.heap.size + 1, 0, none⟩ = some (.slice h1 st.tks.length m1) := (cell_of_row W3 _ 0 _ _ _ HM0.out.blk).trans rfl
    go_wp2_with fail
    go_loopg [22] st.tks.length (fun g i wr => ∃ k : Nat, k ≤ st.tks.length ∧ g = st.tks.length - k ∧ i = .int .i64 k ∧ ImgM w w1.heap.size #[.int .i64 p.ver, .int .i64 p.par, .slice a1 p.secs.length c1, .slice a2 p.pts.length c2, .slice a3 p.sigs.length c3, .slice a4 p.rts.length c4] (.slice h1 st.tks.length m1) (.slice h2 st.sws.length m2) (.slice h3 st.lks.length m3) ⟨tkTo st.tks k, st.sws, st.lks⟩ wr)
    case atStart => exact ⟨0, by omega, by omega, rfl, HM0.out⟩
    case round =>
      obtain ⟨k, hk, rfl, rfl, hm⟩ := hrel
      obtain ⟨wo, rfl⟩ : ∃ wo : World, wo = wr := ⟨_, rfl⟩
      have HM := Lib.hid hm
      clear hm ss0
      by_cases hlt : k < st.tks.length
      · have hdk : decide ((k : Int) < (st.tks.length : Int)) = true := by simp; omega
        have c0 : (0 : Int) ≤ (k : Int) := by omega
        have e1 : (k : Int) < (st.tks.length : Int) := by omega
        have hbnd : st.tks.length ≤ 1000 := HFT.out.1
        have hrow := HM.out.own.tks
        rw [tkTo_len] at hrow
        obtain ⟨g, cap, e, hbg, lg, fz, hc⟩ := own_at hrow (by omega)
        cases e
        have hcell := hc (k * 2 + 1) (.int .u8 st.tks[k].is) (by rw [flat_get tkC 2 (tkTo st.tks k) k 1 (by rw [tkTo_len]; exact hlt) (fun _ _ => rfl) (by decide), tkTo_at hlt]; rfl)
        have f0 := fz (k * 2 + 1)
        have HNX : Hid (ImgM w w1.heap.size #[.int .i64 p.ver, .int .i64 p.par, .slice a1 p.secs.length c1, .slice a2 p.pts.length c2, .slice a3 p.sigs.length c3, .slice a4 p.rts.length c4] (.slice (some ⟨g, 0, none⟩) st.tks.length m1) (.slice h2 st.sws.length m2) (.slice h3 st.lks.length m3) ⟨tkTo st.tks (k + 1), st.sws, st.lks⟩ (wo.setCell ⟨g, k * 2 + 1, none⟩ (.int .u8 2))) := by
          refine HM.out.set HN.out hbg ?_
          have h3 := flat_set tkC 2 (tkTo st.tks k) k 1 (imgTk st.tks[k]) (.int .u8 2) (by rw [tkTo_len]; exact hlt) (fun _ _ => rfl) (by decide) (by rw [tkTo_at hlt]; rfl)
          exact HM.out.own.setTk (by show _ < ((tkTo st.tks k).flatMap tkC).length; rw [flat_len tkC 2 _ (fun _ _ => rfl), tkTo_len]; omega) _ (tkTo st.tks (k + 1)) (by rw [tkTo_len]; exact (tkTo_len _ _).symm) (by rw [tkTo_step hlt]; exact h3) (by exact (tkTo_len _ _).symm)
        have ss0 : wo.cell? ⟨w.heap.size + 1, 0, none⟩ = some (.slice (some ⟨g, 0, none⟩) st.tks.length m1) := (cell_of_row wo _ 0 _ _ _ HM.out.blk).trans rfl
        clear hrow hc fz
        go_wp2_with fail
        go_roundg (st.tks.length - (k + 1))
        case measure => go_light; omega
        case rel => go_light; exact ⟨k + 1, by omega, by omega, by go_num, HNX.out⟩
      · obtain rfl : k = st.tks.length := by omega
        have hdk : decide ((st.tks.length : Int) < (st.tks.length : Int)) = false := by simp
        have HM1 : Hid (ImgM w w1.heap.size #[.int .i64 p.ver, .int .i64 p.par, .slice a1 p.secs.length c1, .slice a2 p.pts.length c2, .slice a3 p.sigs.length c3, .slice a4 p.rts.length c4] (.slice h1 st.tks.length m1) (.slice h2 st.sws.length m2) (.slice h3 st.lks.length m3) ⟨st.tks.map imgTk, swTo st.sws 0, st.lks⟩ wo) := by
          have := HM.out
          rw [tkTo_all] at this
          exact this
        clear HM
        have ss1 : wo.cell? ⟨w.heap.size + 1, 1, none⟩ = some (.slice h2 st.sws.length m2) := (cell_of_row wo _ 1 _ _ _ HM1.out.blk).trans rfl
        go_wp2_with fail
        go_loopg [34] st.sws.length (fun g i wr => ∃ k : Nat, k ≤ st.sws.length ∧ g = st.sws.length - k ∧ i = .int .i64 k ∧ ImgM w w1.heap.size #[.int .i64 p.ver, .int .i64 p.par, .slice a1 p.secs.length c1, .slice a2 p.pts.length c2, .slice a3 p.sigs.length c3, .slice a4 p.rts.length c4] (.slice h1 st.tks.length m1) (.slice h2 st.sws.length m2) (.slice h3 st.lks.length m3) ⟨st.tks.map imgTk, swTo st.sws k, st.lks⟩ wr)
        case atStart => exact ⟨0, by omega, by omega, rfl, HM1.out⟩
        case round =>
          obtain ⟨k, hk, rfl, rfl, hm⟩ := hrel
          obtain ⟨wo, rfl⟩ : ∃ wo : World, wo = wr := ⟨_, rfl⟩
          have HM := Lib.hid hm
          clear hm ss1
          by_cases hlt : k < st.sws.length
          · have hdk : decide ((k : Int) < (st.sws.length : Int)) = true := by simp; omega
            have c0 : (0 : Int) ≤ (k : Int) := by omega
            have e1 : (k : Int) < (st.sws.length : Int) := by omega
            have hbnd : st.sws.length ≤ 1000 := HFT.out.2.1
            have hrow := HM.out.own.sws
            rw [swTo_len] at hrow
            obtain ⟨g, cap, e, hbg, lg, fz, hc⟩ := own_at hrow (by omega)
            cases e
            have hcell := hc (k * 3 + 1) (.int .i64 st.sws[k].lie) (by rw [flat_get swC 3 (swTo st.sws k) k 1 (by rw [swTo_len]; exact hlt) (fun _ _ => rfl) (by decide), swTo_at hlt]; rfl)
            have f0 := fz (k * 3 + 1)
            have HNX : Hid (ImgM w w1.heap.size #[.int .i64 p.ver, .int .i64 p.par, .slice a1 p.secs.length c1, .slice a2 p.pts.length c2, .slice a3 p.sigs.length c3, .slice a4 p.rts.length c4] (.slice h1 st.tks.length m1) (.slice (some ⟨g, 0, none⟩) st.sws.length m2) (.slice h3 st.lks.length m3) ⟨st.tks.map imgTk, swTo st.sws (k + 1), st.lks⟩ (wo.setCell ⟨g, k * 3 + 1, none⟩ (.int .i64 0))) := by
              refine HM.out.set HN.out hbg ?_
              have h3 := flat_set swC 3 (swTo st.sws k) k 1 (imgSw st.sws[k]) (.int .i64 0) (by rw [swTo_len]; exact hlt) (fun _ _ => rfl) (by decide) (by rw [swTo_at hlt]; rfl)
              exact HM.out.own.setSw (by show _ < ((swTo st.sws k).flatMap swC).length; rw [flat_len swC 3 _ (fun _ _ => rfl), swTo_len]; omega) _ (swTo st.sws (k + 1)) (by rw [swTo_len]; exact (swTo_len _ _).symm) (by rw [swTo_step hlt]; exact h3) (by exact (swTo_len _ _).symm)
            have ss1 : wo.cell? ⟨w.heap.size + 1, 1, none⟩ = some (.slice (some ⟨g, 0, none⟩) st.sws.length m2) := (cell_of_row wo _ 1 _ _ _ HM.out.blk).trans rfl
            clear hrow hc fz
            go_wp2_with fail
            go_roundg (st.sws.length - (k + 1))
            case measure => go_light; omega
            case rel => go_light; exact ⟨k + 1, by omega, by omega, by go_num, HNX.out⟩
          · obtain rfl : k = st.sws.length := by omega
            have hdk : decide ((st.sws.length : Int) < (st.sws.length : Int)) = false := by simp
            have HM2 : Hid (ImgM w w1.heap.size #[.int .i64 p.ver, .int .i64 p.par, .slice a1 p.secs.length c1, .slice a2 p.pts.length c2, .slice a3 p.sigs.length c3, .slice a4 p.rts.length c4] (.slice h1 st.tks.length m1) (.slice h2 st.sws.length m2) (.slice h3 st.lks.length m3) ⟨st.tks.map imgTk, st.sws.map imgSw, lkTo st.lks p.rts 0⟩ wo) := by
              have := HM.out
              rw [swTo_all] at this
              exact this
            clear HM
            have ss2 : wo.cell? ⟨w.heap.size + 1, 2, none⟩ = some (.slice h3 st.lks.length m3) := (cell_of_row wo _ 2 _ _ _ HM2.out.blk).trans rfl
            go_wp2_with fail
            go_loopg [46] st.lks.length (fun g i wr => ∃ k : Nat, k ≤ st.lks.length ∧ g = st.lks.length - k ∧ i = .int .i64 k ∧ ImgM w w1.heap.size #[.int .i64 p.ver, .int .i64 p.par, .slice a1 p.secs.length c1, .slice a2 p.pts.length c2, .slice a3 p.sigs.length c3, .slice a4 p.rts.length c4] (.slice h1 st.tks.length m1) (.slice h2 st.sws.length m2) (.slice h3 st.lks.length m3) ⟨st.tks.map imgTk, st.sws.map imgSw, lkTo st.lks p.rts k⟩ wr)
            case atStart => exact ⟨0, by omega, by omega, rfl, HM2.out⟩
            case round =>
              obtain ⟨k, hk, rfl, rfl, hm⟩ := hrel
              obtain ⟨wo, rfl⟩ : ∃ wo : World, wo = wr := ⟨_, rfl⟩
              have HM := Lib.hid hm
              clear hm ss2
              by_cases hlt : k < st.lks.length
              · have hdk : decide ((k : Int) < (st.lks.length : Int)) = true := by simp; omega
                have c0 : (0 : Int) ≤ (k : Int) := by omega
                have e1 : (k : Int) < (st.lks.length : Int) := by omega
                have hbnd : st.lks.length ≤ 1000 := HFT.out.2.2
                have hkr : k < p.rts.length := by have := HLEN.out; omega
                have e2 : (k : Int) < (p.rts.length : Int) := by omega
                have hrow := HM.out.own.lks
                rw [lkTo_len _ _ _ HLEN.out] at hrow
                obtain ⟨g, cap, e, hbg, lg, fz, hc⟩ := own_at hrow (by omega)
                cases e
                have hcell := hc (k * 4 + 3) (.int .i64 st.lks[k].left) (by rw [flat_get lkC 4 (lkTo st.lks p.rts k) k 3 (by rw [lkTo_len _ _ _ HLEN.out]; exact hlt) (fun _ _ => rfl) (by decide), lkTo_at hlt HLEN.out]; rfl)
                have f0 := fz (k * 4 + 3)
                have ss2 : wo.cell? ⟨w.heap.size + 1, 2, none⟩ = some (.slice (some ⟨g, 0, none⟩) st.lks.length m3) := (cell_of_row wo _ 2 _ _ _ HM.out.blk).trans rfl
                by_cases hleft : 0 < st.lks[k].left
                · have hdl : decide ((0 : Int) < st.lks[k].left) = true := decide_eq_true hleft
                  have pp0 : wo.cell? ⟨w.heap.size, 0, none⟩ = some (.int .i64 p.ver) := (cell_of_row wo _ 0 _ _ _ HM.out.pl).trans rfl
                  have pp1 : wo.cell? ⟨w.heap.size, 1, none⟩ = some (.int .i64 p.par) := (cell_of_row wo _ 1 _ _ _ HM.out.pl).trans rfl
                  have pp2 : wo.cell? ⟨w.heap.size, 2, none⟩ = some (.slice a1 p.secs.length c1) := (cell_of_row wo _ 2 _ _ _ HM.out.pl).trans rfl
                  have pp3 : wo.cell? ⟨w.heap.size, 3, none⟩ = some (.slice a2 p.pts.length c2) := (cell_of_row wo _ 3 _ _ _ HM.out.pl).trans rfl
                  have pp4 : wo.cell? ⟨w.heap.size, 4, none⟩ = some (.slice a3 p.sigs.length c3) := (cell_of_row wo _ 4 _ _ _ HM.out.pl).trans rfl
                  have pp5 : wo.cell? ⟨w.heap.size, 5, none⟩ = some (.slice a4 p.rts.length c4) := (cell_of_row wo _ 5 _ _ _ HM.out.pl).trans rfl
                  obtain ⟨br, offr, vp, vo, vf, rfl, r0, r1, r2, r3, r4, r5, r6, -⟩ := (HR.out _ HM.out.bel).rt hkr
                  have l9 := World.block_lt_of_cell? _ _ r6
                  clear hrow hc fz
                  go_upto_region 19 with fail
                  go_still_tail 11, (by kernel_rfl)
                  change wpList _ _ _ _ _ wo.drew
                  generalize hWD : wo.drew = WD
                  have hbD : Below wo.heap.size wo WD := by rw [← hWD]; exact (Below.refl _ _).drew
                  have HMD := Lib.hid (HM.out.below hbD)
                  have hcell2 : WD.cell? ⟨g, k * 4 + 3, none⟩ = some (.int .i64 st.lks[k].left) := ccell hbD hcell
                  have f2 : WD.frozen? ⟨g, k * 4 + 3, none⟩ = false := by rw [← hWD]; exact f0
                  have lg2 : g < WD.heap.size := by rw [← hWD]; exact lg
                  have HNX : Hid (ImgM w w1.heap.size #[.int .i64 p.ver, .int .i64 p.par, .slice a1 p.secs.length c1, .slice a2 p.pts.length c2, .slice a3 p.sigs.length c3, .slice (some ⟨br, offr, none⟩) p.rts.length c4] (.slice h1 st.tks.length m1) (.slice h2 st.sws.length m2) (.slice (some ⟨g, 0, none⟩) st.lks.length m3) ⟨st.tks.map imgTk, st.sws.map imgSw, lkTo st.lks p.rts (k + 1)⟩ (WD.setCell ⟨g, k * 4 + 3, none⟩ (.int .i64 p.rts[k].timer))) := by
                    refine HMD.out.set HN.out hbg ?_
                    have h3 := flat_set lkC 4 (lkTo st.lks p.rts k) k 3 (imgLk st.lks[k] p.rts[k]) (.int .i64 p.rts[k].timer) (by rw [lkTo_len _ _ _ HLEN.out]; exact hlt) (fun _ _ => rfl) (by decide) (by rw [lkTo_at hlt HLEN.out]; simp [lkC, imgLk, hleft])
                    exact HMD.out.own.setLk (by show _ < ((lkTo st.lks p.rts k).flatMap lkC).length; rw [flat_len lkC 4 _ (fun _ _ => rfl), lkTo_len _ _ _ HLEN.out]; omega) _ (lkTo st.lks p.rts (k + 1)) (by rw [lkTo_len _ _ _ HLEN.out]; exact (lkTo_len _ _ _ HLEN.out).symm) (by rw [lkTo_step hlt hkr]; exact h3) (by exact (lkTo_len _ _ _ HLEN.out).symm)
                  clear hcell f0 lg hbD hWD
                  go_wp2_with fail
                  go_roundg (st.lks.length - (k + 1))
                  case measure => go_light; omega
                  case rel => go_light; exact ⟨k + 1, by omega, by omega, by go_num, HNX.out⟩
                · have hdl : decide ((0 : Int) < st.lks[k].left) = false := decide_eq_false hleft
                  have HNX : Hid (ImgM w w1.heap.size #[.int .i64 p.ver, .int .i64 p.par, .slice a1 p.secs.length c1, .slice a2 p.pts.length c2, .slice a3 p.sigs.length c3, .slice a4 p.rts.length c4] (.slice h1 st.tks.length m1) (.slice h2 st.sws.length m2) (.slice (some ⟨g, 0, none⟩) st.lks.length m3) ⟨st.tks.map imgTk, st.sws.map imgSw, lkTo st.lks p.rts (k + 1)⟩ wo) := by
                    have e3 : lkTo st.lks p.rts (k + 1) = lkTo st.lks p.rts k := by
                      rw [lkTo_step hlt hkr]
                      have e4 : imgLk st.lks[k] p.rts[k] = (lkTo st.lks p.rts k)[k]'(by rw [lkTo_len _ _ _ HLEN.out]; exact hlt) := by
                        rw [lkTo_at hlt HLEN.out]
                        unfold imgLk
                        rw [if_neg hleft]
                      rw [e4, List.set_getElem_self]
                    show ImgM _ _ _ _ _ _ _ _
                    rw [e3]
                    exact HM.out
                  clear hrow hc fz
                  go_wp2_with fail
                  go_roundg (st.lks.length - (k + 1))
                  case measure => go_light; omega
                  case rel => go_light; exact ⟨k + 1, by omega, by omega, by go_num, HNX.out⟩
              · obtain rfl : k = st.lks.length := by omega
                have hdk : decide ((st.lks.length : Int) < (st.lks.length : Int)) = false := by simp
                have hM := HM.out
                have e3 : lkTo st.lks p.rts st.lks.length = List.zipWith imgLk st.lks p.rts := lkTo_all HLEN.out
                rw [e3] at hM
                have HM3 := Lib.hid hM
                clear hM HM
                have ss0 : wo.cell? ⟨w.heap.size + 1, 0, none⟩ = some (.slice h1 st.tks.length m1) := (cell_of_row wo _ 0 _ _ _ HM3.out.blk).trans rfl
                have ss1 : wo.cell? ⟨w.heap.size + 1, 1, none⟩ = some (.slice h2 st.sws.length m2) := (cell_of_row wo _ 1 _ _ _ HM3.out.blk).trans rfl
                have ss2 : wo.cell? ⟨w.heap.size + 1, 2, none⟩ = some (.slice h3 st.lks.length m3) := (cell_of_row wo _ 2 _ _ _ HM3.out.blk).trans rfl
                have hr := HM3.out.res
                have rr0 : wo.cell? ⟨w.heap.size + 1 + 1, 0, none⟩ = some (.slice none 0 0) := (cell_of_row wo _ 0 _ _ _ hr).trans rfl
                have rr1 : wo.cell? ⟨w.heap.size + 1 + 1, 1, none⟩ = some (.slice none 0 0) := (cell_of_row wo _ 1 _ _ _ hr).trans rfl
                have rr2 : wo.cell? ⟨w.heap.size + 1 + 1, 2, none⟩ = some (.slice none 0 0) := (cell_of_row wo _ 2 _ _ _ hr).trans rfl
                have ff : ∀ o, wo.frozen? ⟨w.heap.size + 1 + 1, o, none⟩ = false := fun o => by simp [World.frozen?, hr]
                have lr := lt_of_block hr
                have HRR := Lib.hid hr
                clear hr
                go_wp2_with fail
                generalize hWE : World.setCell _ _ _ = WE
                have hE : WE.heap[w.heap.size + 1 + 1]? = some (.cells #[.slice h1 st.tks.length m1, .slice h2 st.sws.length m2, .slice h3 st.lks.length m3] 33 (0, 0)) := by rw [← hWE]; simp [World.setCell, Array.getElem?_modify, HRR.out]
                have ee0 : WE.cell? ⟨w.heap.size + 1 + 1, 0, none⟩ = some (.slice h1 st.tks.length m1) := (cell_of_row WE _ 0 _ _ _ hE).trans rfl
                have ee1 : WE.cell? ⟨w.heap.size + 1 + 1, 1, none⟩ = some (.slice h2 st.sws.length m2) := (cell_of_row WE _ 1 _ _ _ hE).trans rfl
                have ee2 : WE.cell? ⟨w.heap.size + 1 + 1, 2, none⟩ = some (.slice h3 st.lks.length m3) := (cell_of_row WE _ 2 _ _ _ hE).trans rfl
                have hB : Below w.heap.size w WE := by rw [← hWE]; exact ((HM3.out.bel.setCell (by simp <;> omega) _).setCell (by simp <;> omega) _).setCell (by simp <;> omega) _
                have hO : StOwn WE w1.heap.size (.slice h1 st.tks.length m1) (.slice h2 st.sws.length m2) (.slice h3 st.lks.length m3) ⟨st.tks.map imgTk, st.sws.map imgSw, List.zipWith imgLk st.lks p.rts⟩ := by rw [← hWE]; exact ((HM3.out.own.setCell HN.out _).setCell HN.out _).setCell HN.out _
                exact bodyPost_ret (v := .tuple #[.agg #[.slice h1 st.tks.length m1, .slice h2 st.sws.length m2, .slice h3 st.lks.length m3], .int .i64 0]) (by simp [results, Tryz.f47, go_sem, ee0, ee1, ee2]) rfl (HPOST.out _ _ ⟨_, _, _, rfl, hO.stM, hB⟩)
  · have HPOST : Hid (∀ e W', e = .returned (.tuple #[.agg #[.slice none 0 0, .slice none 0 0, .slice none 0 0], .int .i64 (ofErr p st)]) → Below w.heap.size w W' → ImgPost w p st e W') := fun e W' h hb => .inl ⟨hE, h, hb⟩
    generalize ImgPost w p st = POST at *
    generalize ofErr p st = E at *
    have hr := HR1.out
    have rr0 : w1.cell? ⟨w.heap.size + 1 + 1, 0, none⟩ = some (.slice none 0 0) := (cell_of_row w1 _ 0 _ _ _ hr).trans rfl
    have rr1 : w1.cell? ⟨w.heap.size + 1 + 1, 1, none⟩ = some (.slice none 0 0) := (cell_of_row w1 _ 1 _ _ _ hr).trans rfl
    have rr2 : w1.cell? ⟨w.heap.size + 1 + 1, 2, none⟩ = some (.slice none 0 0) := (cell_of_row w1 _ 2 _ _ _ hr).trans rfl
    have ff : ∀ o, w1.frozen? ⟨w.heap.size + 1 + 1, o, none⟩ = false := fun o => by simp [World.frozen?, hr]
    have lr := lt_of_block hr
    clear hr
    go_wp2_with fail
    have s0 : w1.setCell ⟨w.heap.size + 1 + 1, 0, none⟩ (.slice none 0 0) = w1 := set_own HR1.out rfl
    have s1 : w1.setCell ⟨w.heap.size + 1 + 1, 1, none⟩ (.slice none 0 0) = w1 := set_own HR1.out rfl
    have s2 : w1.setCell ⟨w.heap.size + 1 + 1, 2, none⟩ (.slice none 0 0) = w1 := set_own HR1.out rfl
    rw [s0, s1, s2]
    exact bodyPost_ret (v := .tuple #[.agg #[.slice none 0 0, .slice none 0 0, .slice none 0 0], .int .i64 E]) (by simp [results, Tryz.f47, go_sem, rr0, rr1, rr2]) rfl (HPOST.out _ _ rfl K1.out)
end Go.Proofs.YtbiehpjhhopjaaaGreat
