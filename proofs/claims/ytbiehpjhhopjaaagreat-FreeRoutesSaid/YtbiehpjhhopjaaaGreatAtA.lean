/-
  A state that its maker owns.
  state.At, walked.
-/
import Derived.Test.YtbiehpjhhopjaaaGreatSoundC
set_option linter.unusedVariables false
set_option linter.unusedSimpArgs false
namespace Go.Proofs.YtbiehpjhhopjaaaGreat
open Go.RowKit
def tkC (x : Tk) : List Value := [.int .i64 x.id, .int .u8 x.is]
def swC (x : Sw) : List Value := [.int .i64 x.id, .int .i64 x.lie, .int .i64 x.call]
def lkC (x : Lk) : List Value := [.int .i64 x.id, .int .u8 x.ph, .int .i64 x.gone, .int .i64 x.left]
theorem info106 : (Tryz.prog.info? 106).map (fun i => (i.zero, i.size, i.bytes)) = some (some (.agg #[.int .i64 0, .int .u8 0]), 2, 16) := by kernel_rfl
theorem info108 : (Tryz.prog.info? 108).map (fun i => (i.zero, i.size, i.bytes)) = some (some (.agg #[.int .i64 0, .int .i64 0, .int .i64 0]), 3, 24) := by kernel_rfl
theorem info99 : (Tryz.prog.info? 99).map (fun i => (i.zero, i.size, i.bytes)) = some (some (.agg #[.int .i64 0, .int .u8 0, .int .i64 0, .int .i64 0]), 4, 32) := by kernel_rfl
theorem oneTk (x : Tk) : ∀ u ∈ tkC x, u.oneCell' = true := by
  intro u hu
  simp only [tkC, List.mem_cons, List.not_mem_nil, or_false] at hu
  rcases hu with rfl | rfl <;> rfl
theorem oneSw (x : Sw) : ∀ u ∈ swC x, u.oneCell' = true := by
  intro u hu
  simp only [swC, List.mem_cons, List.not_mem_nil, or_false] at hu
  rcases hu with rfl | rfl | rfl <;> rfl
theorem oneLk (x : Lk) : ∀ u ∈ lkC x, u.oneCell' = true := by
  intro u hu
  simp only [lkC, List.mem_cons, List.not_mem_nil, or_false] at hu
  rcases hu with rfl | rfl | rfl | rfl <;> rfl
/-- a state's three rows, owned from block N on -/
structure StOwn (W : World) (N : Nat) (t s l : Value) (x : St) : Prop where
  tks : W.ownsRow N 106 2 t x.tks.length (x.tks.flatMap tkC)
  sws : W.ownsRow N 108 3 s x.sws.length (x.sws.flatMap swC)
  lks : W.ownsRow N 99 4 l x.lks.length (x.lks.flatMap lkC)
section
variable {W W' : World} {N : Nat} {t s l : Value} {x : St}
theorem StOwn.stM (h : StOwn W N t s l x) : StM W t s l x :=
  ⟨sl_of_own (f := tkC) h.tks (fun _ _ => rfl) (fun _ _ => rfl), sl_of_own (f := swC) h.sws (fun _ _ => rfl) (fun _ _ => rfl), sl_of_own (f := lkC) h.lks (fun _ _ => rfl) (fun _ _ => rfl)⟩
theorem StOwn.below (h : StOwn W N t s l x) (hb : Below W.heap.size W W') : StOwn W' N t s l x := ⟨own_below h.tks hb, own_below h.sws hb, own_below h.lks hb⟩
theorem StOwn.setCell (h : StOwn W N t s l x) {a : Addr} (ha : a.block < N) (v : Value) : StOwn (W.setCell a v) N t s l x := ⟨own_setCell h.tks ha v, own_setCell h.sws ha v, own_setCell h.lks ha v⟩
theorem StOwn.base (h : StOwn W N t s l x) {N' : Nat} (hn : N' ≤ N) : StOwn W N' t s l x := ⟨own_base h.tks hn, own_base h.sws hn, own_base h.lks hn⟩
theorem StOwn.nil (W : World) (N : Nat) : StOwn W N (.slice none 0 0) (.slice none 0 0) (.slice none 0 0) ⟨[], [], []⟩ := ⟨World.ownsRow_nil _ _ _ _, World.ownsRow_nil _ _ _ _, World.ownsRow_nil _ _ _ _⟩
theorem StOwn.tk (h : StOwn W N t s l x) (y : Tk) {t' : Value} (ho : W'.ownsRow N 106 2 t' (x.tks.length + 1) (x.tks.flatMap tkC ++ tkC y)) (hg : W.grownBy W' t.ownBlock) : StOwn W' N t' s l ⟨x.tks ++ [y], x.sws, x.lks⟩ :=
  ⟨by rw [List.length_append, List.flatMap_append]; simpa using ho, h.sws.kept hg (own_apart h.sws h.tks (by decide)), h.lks.kept hg (own_apart h.lks h.tks (by decide))⟩
theorem StOwn.sw (h : StOwn W N t s l x) (y : Sw) {s' : Value} (ho : W'.ownsRow N 108 3 s' (x.sws.length + 1) (x.sws.flatMap swC ++ swC y)) (hg : W.grownBy W' s.ownBlock) : StOwn W' N t s' l ⟨x.tks, x.sws ++ [y], x.lks⟩ :=
  ⟨h.tks.kept hg (own_apart h.tks h.sws (by decide)), by rw [List.length_append, List.flatMap_append]; simpa using ho, h.lks.kept hg (own_apart h.lks h.sws (by decide))⟩
theorem StOwn.lk (h : StOwn W N t s l x) (y : Lk) {l' : Value} (ho : W'.ownsRow N 99 4 l' (x.lks.length + 1) (x.lks.flatMap lkC ++ lkC y)) (hg : W.grownBy W' l.ownBlock) : StOwn W' N t s l' ⟨x.tks, x.sws, x.lks ++ [y]⟩ :=
  ⟨h.tks.kept hg (own_apart h.tks h.lks (by decide)), h.sws.kept hg (own_apart h.sws h.lks (by decide)), by rw [List.length_append, List.flatMap_append]; simpa using ho⟩
end
/-- the state that At makes: every track occupied, nothing else -/
def atSt (p : Pl) : St := ⟨p.secs.map fun x => ⟨x.id, 2⟩, p.pts.map fun x => ⟨x.id, 0, 0⟩, p.rts.map fun x => ⟨x.id, 0, 0, 0⟩⟩
/-- the same, as far as it has come -/
def atTo (p : Pl) (i j k : Nat) : St := ⟨(p.secs.take i).map fun x => ⟨x.id, 2⟩, (p.pts.take j).map fun x => ⟨x.id, 0, 0⟩, (p.rts.take k).map fun x => ⟨x.id, 0, 0, 0⟩⟩
theorem atTo_zero (p : Pl) : atTo p 0 0 0 = ⟨[], [], []⟩ := rfl
theorem atTo_all (p : Pl) : atTo p p.secs.length p.pts.length p.rts.length = atSt p := by unfold atTo atSt; rw [List.take_length, List.take_length, List.take_length]
theorem atTo_i (p : Pl) {i : Nat} (j k : Nat) (h : i < p.secs.length) : atTo p (i + 1) j k = ⟨(atTo p i j k).tks ++ [⟨p.secs[i].id, 2⟩], (atTo p i j k).sws, (atTo p i j k).lks⟩ := by
  unfold atTo; rw [List.take_succ_eq_append_getElem h, List.map_append]; rfl
theorem atTo_j (p : Pl) {j : Nat} (i k : Nat) (h : j < p.pts.length) : atTo p i (j + 1) k = ⟨(atTo p i j k).tks, (atTo p i j k).sws ++ [⟨p.pts[j].id, 0, 0⟩], (atTo p i j k).lks⟩ := by
  unfold atTo; rw [List.take_succ_eq_append_getElem h, List.map_append]; rfl
theorem atTo_k (p : Pl) {k : Nat} (i j : Nat) (h : k < p.rts.length) : atTo p i j (k + 1) = ⟨(atTo p i j k).tks, (atTo p i j k).sws, (atTo p i j k).lks ++ [⟨p.rts[k].id, 0, 0, 0⟩]⟩ := by
  unfold atTo; rw [List.take_succ_eq_append_getElem h, List.map_append]; rfl
/-- At's inner state: the plan's block, the state's block, and its rows -/
structure AtM (B : World) (N bp g : Nat) (pc : Array Value) (t s l : Value) (x : St) (W : World) : Prop where
  bel : Below B.heap.size B W
  pl : W.heap[bp]? = some (.cells pc 28 (0, 0))
  blk : W.heap[g]? = some (.cells #[t, s, l] 33 (0, 0))
  own : StOwn W N t s l x
section
variable {B W W' : World} {N bp g : Nat} {pc : Array Value} {t s l : Value} {x : St}
theorem AtM.below (h : AtM B N bp g pc t s l x W) (hb : Below W.heap.size W W') : AtM B N bp g pc t s l x W' :=
  ⟨h.bel.trans (hb.mono h.bel.size), (hb.block _ (lt_of_block h.pl)).trans h.pl, (hb.block _ (lt_of_block h.blk)).trans h.blk, h.own.below hb⟩
/-- a row has grown by one, and its slice is stored -/
theorem AtM.grow (h : AtM B N bp g pc t s l x W) (hB : B.heap.size ≤ g) (hbp : bp < g) (hg : g < N) {e sz n : Nat} {v : Value} {xs : List Value} (hv : W.ownsRow N e sz v n xs) (hgr : W.grownBy W' v.ownBlock) {o : Nat} {u t' s' l' : Value} {x' : St} (hc : (#[t, s, l] : Array Value).setIfInBounds o u = #[t', s', l']) (ho : StOwn W' N t' s' l' x') : AtM B N bp g pc t' s' l' x' (W'.setCell ⟨g, o, none⟩ u) := by
  have nb : ∀ k, k < N → some k ≠ v.ownBlock := fun k hk e => by
    obtain ⟨c, _, hb⟩ := own_block hv e.symm
    omega
  have hb : Below B.heap.size B W' := h.bel.trans (grown_below hv (by omega) h.bel.size hgr)
  have hbl : W'.heap[g]? = some (.cells #[t, s, l] 33 (0, 0)) := (hgr.block _ (lt_of_block h.blk) (nb g hg)).trans h.blk
  refine ⟨hb.setCell hB _, (Below.heap_setCell _ _ _ bp (by show bp ≠ g; omega)).trans ((hgr.block _ (lt_of_block h.pl) (nb bp (by omega))).trans h.pl), ?_, ho.setCell hg u⟩
  rw [← hc]
  simp [World.setCell, Array.getElem?_modify, hbl]
end
end Go.Proofs.YtbiehpjhhopjaaaGreat
set_option linter.unusedVariables false
set_option linter.unusedSimpArgs false
namespace Go.Proofs.YtbiehpjhhopjaaaGreat
open Go.RowKit Go.Sort
def AtPost (w : World) (p : Pl) (e : Ending) (w' : World) : Prop :=
  Below w.heap.size w w' ∧ ((¬ PlanSound p ∧ e = .returned (.tuple #[.agg #[.slice none 0 0, .slice none 0 0, .slice none 0 0], .int .i64 100])) ∨
   (PlanSound p ∧ ∃ t s l, e = .returned (.tuple #[.agg #[t, s, l], .int .i64 0]) ∧ StOwn w' w.heap.size t s l (atSt p)))
set_option maxRecDepth 100000 in
set_option maxHeartbeats 8000000 in
theorem at_any (p : Pl) (s q gg rr : Value) (w : World) (hp : PlM w s q gg rr p) (hf : p.Fit) : Calls Tryz.prog 59 #[plV p s q gg rr] w (AtPost w p) := by
  have HCK : Hid (∀ w', Below w.heap.size w w' → Calls Tryz.prog 58 #[plV p s q gg rr] w' (ErrPost w' (if PlanSound p then 0 else 100))) := fun w' hb => soundcheck_any p s q gg rr w' (hp.below hb) hf
  obtain ⟨a1, c1, rfl, k1⟩ := hp.secs
  obtain ⟨a2, c2, rfl, k2⟩ := hp.pts
  obtain ⟨a3, c3, rfl, -⟩ := hp.sigs
  obtain ⟨a4, c4, rfl, k4⟩ := hp.rts
  have HK1 : Hid (∀ w', Below w.heap.size w w' → SlA w' 3 RSec a1 c1 p.secs) := fun w' hb => k1.below keeps_sec hb
  have HK2 : Hid (∀ w', Below w.heap.size w w' → SlA w' 2 RPt a2 c2 p.pts) := fun w' hb => k2.below keeps_pt hb
  have HK4 : Hid (∀ w', Below w.heap.size w w' → SlA w' 7 RRt a4 c4 p.rts) := fun w' hb => k4.below keeps_rt hb
  have l1 := hf.secs
  have l2 := hf.pts
  have l4 := hf.rts
  clear hp hf k1 k2 k4
  unfold plV at *
  go_enter Tryz.func59, Tryz.ntmps59
  go_upto_region 1 with fail
  generalize hW0 : World.alloc _ _ = W0
  have hz0 : W0.heap.size = w.heap.size + 1 + 1 := by rw [← hW0]; simp
  have hb0 : Below w.heap.size w W0 := by rw [← hW0]; exact ((Below.refl _ _).alloc (Nat.le_refl _) _).alloc (by simp) _
  have hM0 : AtM w (w.heap.size + 1 + 1) w.heap.size (w.heap.size + 1) #[.int .i64 p.ver, .int .i64 p.par, .slice a1 p.secs.length c1, .slice a2 p.pts.length c2, .slice a3 p.sigs.length c3, .slice a4 p.rts.length c4] (.slice none 0 0) (.slice none 0 0) (.slice none 0 0) (atTo p 0 0 0) W0 :=
    ⟨hb0, by rw [← hW0]; exact (heap_alloc_old _ _ (by simp)).trans (heap_alloc_new _ _), by rw [← hW0]; exact heap_alloc2_new _ _ _, by rw [atTo_zero]; exact StOwn.nil _ _⟩
  have HM0 := Lib.hid hM0
  have pp0 : W0.cell? ⟨w.heap.size, 0, none⟩ = some (.int .i64 p.ver) := (cell_of_row W0 _ 0 _ _ _ hM0.pl).trans rfl
  have pp1 : W0.cell? ⟨w.heap.size, 1, none⟩ = some (.int .i64 p.par) := (cell_of_row W0 _ 1 _ _ _ hM0.pl).trans rfl
  have pp2 : W0.cell? ⟨w.heap.size, 2, none⟩ = some (.slice a1 p.secs.length c1) := (cell_of_row W0 _ 2 _ _ _ hM0.pl).trans rfl
  have pp3 : W0.cell? ⟨w.heap.size, 3, none⟩ = some (.slice a2 p.pts.length c2) := (cell_of_row W0 _ 3 _ _ _ hM0.pl).trans rfl
  have pp4 : W0.cell? ⟨w.heap.size, 4, none⟩ = some (.slice a3 p.sigs.length c3) := (cell_of_row W0 _ 4 _ _ _ hM0.pl).trans rfl
  have pp5 : W0.cell? ⟨w.heap.size, 5, none⟩ = some (.slice a4 p.rts.length c4) := (cell_of_row W0 _ 5 _ _ _ hM0.pl).trans rfl
  have HC := Lib.hid (HCK.out W0 hb0)
  clear hW0 hb0 hM0 HCK hz0
  go_wp2_with fail
  refine HC.out.mono ?_
  rintro e w1 ⟨rfl, hb1⟩
  have HM1 := Lib.hid (HM0.out.below hb1)
  clear hb1 HC HM0 pp0 pp1 pp2 pp3 pp4 pp5
  by_cases hS : PlanSound p
  · rw [if_pos hS]
    have HS := Lib.hid hS
    clear hS
    have y2 : w1.cell? ⟨w.heap.size, 2, none⟩ = some (.slice a1 p.secs.length c1) := (cell_of_row w1 _ 2 _ _ _ HM1.out.pl).trans rfl
    go_wp2_with fail
    go_loopg [17] p.secs.length (fun g j wr => ∃ (k : Nat) (t0 : Value), k ≤ p.secs.length ∧ g = p.secs.length - k ∧ j = .int .i64 k ∧ AtM w (w.heap.size + 1 + 1) w.heap.size (w.heap.size + 1) #[.int .i64 p.ver, .int .i64 p.par, .slice a1 p.secs.length c1, .slice a2 p.pts.length c2, .slice a3 p.sigs.length c3, .slice a4 p.rts.length c4] t0 (.slice none 0 0) (.slice none 0 0) (atTo p k 0 0) wr)
    case atStart => exact ⟨0, _, by omega, by omega, rfl, HM1.out⟩
    case round =>
      obtain ⟨k, t0, hk, rfl, rfl, hM⟩ := hrel
      obtain ⟨wo0, rfl⟩ : ∃ wo0 : World, wo0 = wr := ⟨_, rfl⟩
      have HM := Lib.hid hM
      clear hM y2 HM1
      by_cases hlt : k < p.secs.length
      · have hdk : decide ((k : Int) < (p.secs.length : Int)) = true := by simp; omega
        obtain ⟨b, off, a', c', rfl, r0, r1, r2, -⟩ := (HK1.out _ HM.out.bel).sec hlt
        have c0 : (0 : Int) ≤ (k : Int) := by omega
        have c1 : (k : Int) < (p.secs.length : Int) := by omega
        obtain ⟨b9, d9, rfl⟩ := own_slice HM.out.own.tks
        have HL : Hid ((atTo p k 0 0).tks.length = k) := by show _ = _; simp [atTo]; omega
        have HX := Lib.hid (atTo_i p 0 0 hlt)
        have HM2 := Lib.hid (HM.out.below ((Below.refl wo0.heap.size wo0).alloc (Nat.le_refl _) (.cells #[.int .i64 p.secs[k].id, .int .i64 p.secs[k].pt, .slice a' p.secs[k].ends.length c'] 80)))
        generalize atTo p k 0 0 = X at *
        go_upto_region 6 with fail
        generalize hW6 : wo0.alloc _ = W6 at *
        have q0 : W6.cell? ⟨wo0.heap.size, 0, none⟩ = some (.int .i64 p.secs[k].id) := by rw [← hW6]; simp
        have z0 : W6.cell? ⟨w.heap.size + 1, 0, none⟩ = some (.slice b9 X.tks.length d9) := (cell_of_row W6 _ 0 _ _ _ HM2.out.blk).trans rfl
        have hn : X.tks.length ≤ 1000 := by rw [HL.out]; omega
        have lgW : w.heap.size + 1 < W6.heap.size := lt_of_block HM2.out.blk
        have hbase : w.heap.size + 1 + 1 ≤ W6.heap.size := lgW
        clear hW6 r0 r1 r2
        go_wp2_with (at_builtin; refine wpList_append_one rfl _ _ 29 106 106 _ 2 16 rfl Tryz.underlying29 info106 rfl (by decide) (by decide) (w.heap.size + 1 + 1) (.slice b9 X.tks.length d9) X.tks.length _ rfl HM2.out.own.tks hn hbase [.int .i64 p.secs[k].id, .int .u8 2] rfl rfl (oneTk ⟨p.secs[k].id, 2⟩) ?_; intro b8 c8 w8 hown8 hgr8; have HM3 := HM2.out.below ((Below.refl W6.heap.size W6).alloc (Nat.le_refl _) (.cells ([.int .i64 p.secs[k].id, .int .u8 2] : List Value).toArray 106)); have hM8 := HM3.grow (o := 0) (u := .slice (some ⟨b8, 0, none⟩) (X.tks.length + 1) c8) (by omega) (by omega) (by omega) HM3.own.tks hgr8 rfl (HM3.own.tk ⟨p.secs[k].id, 2⟩ hown8 hgr8); have hb8 : w8.heap[w.heap.size + 1]? = some (.cells #[.slice b9 X.tks.length d9, .slice none 0 0, .slice none 0 0] 33 (0, 0)) := (hgr8.block _ (lt_of_block HM3.blk) (fun e => by { obtain ⟨c, _, hb⟩ := own_block HM3.own.tks e.symm; omega })).trans HM3.blk; have z8 : w8.cell? ⟨w.heap.size + 1, 0, none⟩ = some (.slice b9 X.tks.length d9) := (cell_of_row w8 _ 0 _ _ _ hb8).trans rfl; have f8 : w8.frozen? ⟨w.heap.size + 1, 0, none⟩ = false := by { simp [World.frozen?, hb8] })
        rw [← HX.out] at hM8
        go_roundg (p.secs.length - (k + 1))
        case measure => go_light; omega
        case rel => go_light; exact ⟨k + 1, _, by omega, by omega, by go_num, hM8⟩
      · obtain rfl : k = p.secs.length := by omega
        have hdk : decide ((p.secs.length : Int) < (p.secs.length : Int)) = false := by simp
        have HMN0 := HM
        clear HM hlt
        have y3 : wo0.cell? ⟨w.heap.size, 3, none⟩ = some (.slice a2 p.pts.length c2) := (cell_of_row wo0 _ 3 _ _ _ HMN0.out.pl).trans rfl
        go_wp2_with fail
        go_loopg [33] p.pts.length (fun g j wr => ∃ (k : Nat) (t1 : Value), k ≤ p.pts.length ∧ g = p.pts.length - k ∧ j = .int .i64 k ∧ AtM w (w.heap.size + 1 + 1) w.heap.size (w.heap.size + 1) #[.int .i64 p.ver, .int .i64 p.par, .slice a1 p.secs.length c1, .slice a2 p.pts.length c2, .slice a3 p.sigs.length c3, .slice a4 p.rts.length c4] t0 t1 (.slice none 0 0) (atTo p p.secs.length k 0) wr)
        case atStart => exact ⟨0, _, by omega, by omega, rfl, HMN0.out⟩
        case round =>
          obtain ⟨k, t1, hk, rfl, rfl, hM⟩ := hrel
          obtain ⟨wo1, rfl⟩ : ∃ wo1 : World, wo1 = wr := ⟨_, rfl⟩
          have HM := Lib.hid hM
          clear hM y3 HMN0
          by_cases hlt : k < p.pts.length
          · have hdk : decide ((k : Int) < (p.pts.length : Int)) = true := by simp; omega
            obtain ⟨b, off, rfl, r0, r1⟩ := (HK2.out _ HM.out.bel).pt hlt
            have c0 : (0 : Int) ≤ (k : Int) := by omega
            have c1 : (k : Int) < (p.pts.length : Int) := by omega
            obtain ⟨b9, d9, rfl⟩ := own_slice HM.out.own.sws
            have HL : Hid ((atTo p p.secs.length k 0).sws.length = k) := by show _ = _; simp [atTo]; omega
            have HX := Lib.hid (atTo_j p p.secs.length 0 hlt)
            have HM2 := Lib.hid (HM.out.below ((Below.refl wo1.heap.size wo1).alloc (Nat.le_refl _) (.cells #[.int .i64 p.pts[k].id, .int .i64 p.pts[k].sec] 143)))
            generalize atTo p p.secs.length k 0 = X at *
            go_upto_region 11 with fail
            generalize hW6 : wo1.alloc _ = W6 at *
            have q0 : W6.cell? ⟨wo1.heap.size, 0, none⟩ = some (.int .i64 p.pts[k].id) := by rw [← hW6]; simp
            have z0 : W6.cell? ⟨w.heap.size + 1, 1, none⟩ = some (.slice b9 X.sws.length d9) := (cell_of_row W6 _ 1 _ _ _ HM2.out.blk).trans rfl
            have hn : X.sws.length ≤ 1000 := by rw [HL.out]; omega
            have lgW : w.heap.size + 1 < W6.heap.size := lt_of_block HM2.out.blk
            have hbase : w.heap.size + 1 + 1 ≤ W6.heap.size := lgW
            clear hW6 r0 r1
            go_wp2_with (at_builtin; refine wpList_append_one rfl _ _ 30 108 108 _ 3 24 rfl Tryz.underlying30 info108 rfl (by decide) (by decide) (w.heap.size + 1 + 1) (.slice b9 X.sws.length d9) X.sws.length _ rfl HM2.out.own.sws hn hbase [.int .i64 p.pts[k].id, .int .i64 0, .int .i64 0] rfl rfl (oneSw ⟨p.pts[k].id, 0, 0⟩) ?_; intro b8 c8 w8 hown8 hgr8; have HM3 := HM2.out.below ((Below.refl W6.heap.size W6).alloc (Nat.le_refl _) (.cells ([.int .i64 p.pts[k].id, .int .i64 0, .int .i64 0] : List Value).toArray 108)); have hM8 := HM3.grow (o := 1) (u := .slice (some ⟨b8, 0, none⟩) (X.sws.length + 1) c8) (by omega) (by omega) (by omega) HM3.own.sws hgr8 rfl (HM3.own.sw ⟨p.pts[k].id, 0, 0⟩ hown8 hgr8); have hb8 : w8.heap[w.heap.size + 1]? = some (.cells #[t0, .slice b9 X.sws.length d9, .slice none 0 0] 33 (0, 0)) := (hgr8.block _ (lt_of_block HM3.blk) (fun e => by { obtain ⟨c, _, hb⟩ := own_block HM3.own.sws e.symm; omega })).trans HM3.blk; have z8 : w8.cell? ⟨w.heap.size + 1, 1, none⟩ = some (.slice b9 X.sws.length d9) := (cell_of_row w8 _ 1 _ _ _ hb8).trans rfl; have f8 : w8.frozen? ⟨w.heap.size + 1, 1, none⟩ = false := by { simp [World.frozen?, hb8] })
            rw [← HX.out] at hM8
            go_roundg (p.pts.length - (k + 1))
            case measure => go_light; omega
            case rel => go_light; exact ⟨k + 1, _, by omega, by omega, by go_num, hM8⟩
          · obtain rfl : k = p.pts.length := by omega
            have hdk : decide ((p.pts.length : Int) < (p.pts.length : Int)) = false := by simp
            have HMN1 := HM
            clear HM hlt
            have y5 : wo1.cell? ⟨w.heap.size, 5, none⟩ = some (.slice a4 p.rts.length c4) := (cell_of_row wo1 _ 5 _ _ _ HMN1.out.pl).trans rfl
            go_wp2_with fail
            go_loopg [49] p.rts.length (fun g j wr => ∃ (k : Nat) (t2 : Value), k ≤ p.rts.length ∧ g = p.rts.length - k ∧ j = .int .i64 k ∧ AtM w (w.heap.size + 1 + 1) w.heap.size (w.heap.size + 1) #[.int .i64 p.ver, .int .i64 p.par, .slice a1 p.secs.length c1, .slice a2 p.pts.length c2, .slice a3 p.sigs.length c3, .slice a4 p.rts.length c4] t0 t1 t2 (atTo p p.secs.length p.pts.length k) wr)
            case atStart => exact ⟨0, _, by omega, by omega, rfl, HMN1.out⟩
            case round =>
              obtain ⟨k, t2, hk, rfl, rfl, hM⟩ := hrel
              obtain ⟨wo2, rfl⟩ : ∃ wo2 : World, wo2 = wr := ⟨_, rfl⟩
              have HM := Lib.hid hM
              clear hM y5 HMN1
              by_cases hlt : k < p.rts.length
              · have hdk : decide ((k : Int) < (p.rts.length : Int)) = true := by simp; omega
                obtain ⟨b, off, vp, vo, vf, rfl, r0, r1, r2, r3, r4, r5, r6, -⟩ := (HK4.out _ HM.out.bel).rt hlt
                clear r0 r1 r2 r3 r4 r5 r6
                obtain ⟨b8', off8', vp, vo, vf, e8, r0, r1, r2, r3, r4, r5, r6, hrm⟩ := (HK4.out _ HM.out.bel).rt hlt
                cases e8
                obtain ⟨ap, cp, rfl, -⟩ := hrm.path.at_
                obtain ⟨ao, co, rfl, -⟩ := hrm.over.at_
                obtain ⟨af, cf, rfl, -⟩ := hrm.fl
                clear hrm
                have c0 : (0 : Int) ≤ (k : Int) := by omega
                have c1 : (k : Int) < (p.rts.length : Int) := by omega
                obtain ⟨b9, d9, rfl⟩ := own_slice HM.out.own.lks
                have HL : Hid ((atTo p p.secs.length p.pts.length k).lks.length = k) := by show _ = _; simp [atTo]; omega
                have HX := Lib.hid (atTo_k p p.secs.length p.pts.length hlt)
                have HM2 := Lib.hid (HM.out.below ((Below.refl wo2.heap.size wo2).alloc (Nat.le_refl _) (.cells #[.int .i64 p.rts[k].id, .int .i64 p.rts[k].entry, .int .i64 p.rts[k].exit, .slice ap p.rts[k].path.length cp, .slice ao p.rts[k].over.length co, .slice af p.rts[k].fl.length cf, .int .i64 p.rts[k].timer] 102)))
                generalize atTo p p.secs.length p.pts.length k = X at *
                go_upto_region 16 with fail
                generalize hW6 : wo2.alloc _ = W6 at *
                have q0 : W6.cell? ⟨wo2.heap.size, 0, none⟩ = some (.int .i64 p.rts[k].id) := by rw [← hW6]; simp
                have z0 : W6.cell? ⟨w.heap.size + 1, 2, none⟩ = some (.slice b9 X.lks.length d9) := (cell_of_row W6 _ 2 _ _ _ HM2.out.blk).trans rfl
                have hn : X.lks.length ≤ 1000 := by rw [HL.out]; omega
                have lgW : w.heap.size + 1 < W6.heap.size := lt_of_block HM2.out.blk
                have hbase : w.heap.size + 1 + 1 ≤ W6.heap.size := lgW
                clear hW6 r0 r1 r2 r3 r4 r5 r6
                go_wp2_with (at_builtin; refine wpList_append_one rfl _ _ 31 99 99 _ 4 32 rfl Tryz.underlying31 info99 rfl (by decide) (by decide) (w.heap.size + 1 + 1) (.slice b9 X.lks.length d9) X.lks.length _ rfl HM2.out.own.lks hn hbase [.int .i64 p.rts[k].id, .int .u8 0, .int .i64 0, .int .i64 0] rfl rfl (oneLk ⟨p.rts[k].id, 0, 0, 0⟩) ?_; intro b8 c8 w8 hown8 hgr8; have HM3 := HM2.out.below ((Below.refl W6.heap.size W6).alloc (Nat.le_refl _) (.cells ([.int .i64 p.rts[k].id, .int .u8 0, .int .i64 0, .int .i64 0] : List Value).toArray 99)); have hM8 := HM3.grow (o := 2) (u := .slice (some ⟨b8, 0, none⟩) (X.lks.length + 1) c8) (by omega) (by omega) (by omega) HM3.own.lks hgr8 rfl (HM3.own.lk ⟨p.rts[k].id, 0, 0, 0⟩ hown8 hgr8); have hb8 : w8.heap[w.heap.size + 1]? = some (.cells #[t0, t1, .slice b9 X.lks.length d9] 33 (0, 0)) := (hgr8.block _ (lt_of_block HM3.blk) (fun e => by { obtain ⟨c, _, hb⟩ := own_block HM3.own.lks e.symm; omega })).trans HM3.blk; have z8 : w8.cell? ⟨w.heap.size + 1, 2, none⟩ = some (.slice b9 X.lks.length d9) := (cell_of_row w8 _ 2 _ _ _ hb8).trans rfl; have f8 : w8.frozen? ⟨w.heap.size + 1, 2, none⟩ = false := by { simp [World.frozen?, hb8] })
                rw [← HX.out] at hM8
                go_roundg (p.rts.length - (k + 1))
                case measure => go_light; omega
                case rel => go_light; exact ⟨k + 1, _, by omega, by omega, by go_num, hM8⟩
              · obtain rfl : k = p.rts.length := by omega
                have hdk : decide ((p.rts.length : Int) < (p.rts.length : Int)) = false := by simp
                have hown := HM.out.own
                rw [atTo_all] at hown
                obtain ⟨g0, m0, rfl⟩ := own_slice hown.tks
                obtain ⟨g1, m1, rfl⟩ := own_slice hown.sws
                obtain ⟨g2, m2, rfl⟩ := own_slice hown.lks
                have z0 := (cell_of_row wo2 _ 0 _ _ _ HM.out.blk).trans rfl
                have z1 := (cell_of_row wo2 _ 1 _ _ _ HM.out.blk).trans rfl
                have z2 := (cell_of_row wo2 _ 2 _ _ _ HM.out.blk).trans rfl
                go_wp2_with fail
                exact bodyPost_ret (v := .tuple #[.agg #[.slice g0 (atSt p).tks.length m0, .slice g1 (atSt p).sws.length m1, .slice g2 (atSt p).lks.length m2], .int .i64 0]) (by simp [results, Tryz.f59, go_sem, z0, z1, z2]) rfl ⟨HM.out.bel, .inr ⟨HS.out, _, _, _, rfl, hown.base (by omega)⟩⟩
  · rw [if_neg hS]
    have HS := Lib.hid hS
    clear hS
    have z0 : w1.cell? ⟨w.heap.size + 1, 0, none⟩ = some (.slice none 0 0) := (cell_of_row w1 _ 0 _ _ _ HM1.out.blk).trans rfl
    have z1 : w1.cell? ⟨w.heap.size + 1, 1, none⟩ = some (.slice none 0 0) := (cell_of_row w1 _ 1 _ _ _ HM1.out.blk).trans rfl
    have z2 : w1.cell? ⟨w.heap.size + 1, 2, none⟩ = some (.slice none 0 0) := (cell_of_row w1 _ 2 _ _ _ HM1.out.blk).trans rfl
    go_wp2_with fail
    exact bodyPost_ret (v := .tuple #[.agg #[.slice none 0 0, .slice none 0 0, .slice none 0 0], .int .i64 100]) (by simp [results, Tryz.f59, go_sem, z0, z1, z2]) rfl ⟨HM1.out.bel, .inl ⟨HS.out, rfl⟩⟩
end Go.Proofs.YtbiehpjhhopjaaaGreat
