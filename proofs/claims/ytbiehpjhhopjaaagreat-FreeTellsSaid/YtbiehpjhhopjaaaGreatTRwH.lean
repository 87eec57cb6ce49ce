/-
 A state that its maker owns.
 state.At, walked.
 slices.Clone of flanks, walked.
 plan.twin, walked. (Written by wip/tools/gen_twin.py.)
 A route in new memory, as the references make it, walked. (Written by wip/tools/gen_rwh.py.)
-/
import Derived.Test.YtbiehpjhhopjaaaGreatTSoundC
import Derived.Test.YtbiehpjhhopjaaaGreatTClone
import Derived.Test.YtbiehpjhhopjaaaGreatTMem
import Derived.Lib.SliceRun
import Derived.Test.YtbiehpjhhopjaaaGreatTRwD
set_option linter.unusedVariables false
set_option linter.unusedSimpArgs false
namespace Go.Proofs.YtbiehpjhhopjaaaGreat
open Go.RowKit
def tkC (x : Tk) : List Value := [.int .i64 x.id, .int .u8 x.is]
def swC (x : Sw) : List Value := [.int .i64 x.id, .int .i64 x.lie, .int .i64 x.call]
def lkC (x : Lk) : List Value := [.int .i64 x.id, .int .u8 x.ph, .int .i64 x.gone, .int .i64 x.left]
structure StOwn (W : World) (N : Nat) (t s l : Value) (x : St) : Prop where
 tks : W.ownsRow N 106 2 t x.tks.length (x.tks.flatMap tkC)
 sws : W.ownsRow N 108 3 s x.sws.length (x.sws.flatMap swC)
 lks : W.ownsRow N 99 4 l x.lks.length (x.lks.flatMap lkC)
section
variable {W W' : World} {N : Nat} {t s l : Value} {x : St}
theorem StOwn.below (h : StOwn W N t s l x) (hb : Below W.heap.size W W') : StOwn W' N t s l x := ⟨own_below h.tks hb, own_below h.sws hb, own_below h.lks hb⟩
theorem StOwn.setCell (h : StOwn W N t s l x) {a : Addr} (ha : a.block < N) (v : Value) : StOwn (W.setCell a v) N t s l x := ⟨own_setCell h.tks ha v, own_setCell h.sws ha v, own_setCell h.lks ha v⟩
theorem StOwn.base (h : StOwn W N t s l x) {N' : Nat} (hn : N' ≤ N) : StOwn W N' t s l x := ⟨own_base h.tks hn, own_base h.sws hn, own_base h.lks hn⟩
theorem StOwn.nil (W : World) (N : Nat) : StOwn W N (.slice none 0 0) (.slice none 0 0) (.slice none 0 0) ⟨[], [], []⟩ := ⟨World.ownsRow_nil _ _ _ _, World.ownsRow_nil _ _ _ _, World.ownsRow_nil _ _ _ _⟩
theorem StOwn.tk (h : StOwn W N t s l x) (y : Tk) {t' : Value} (ho : W'.ownsRow N 106 2 t' (x.tks.length + 1) (x.tks.flatMap tkC ++ tkC y)) (hg : W.grownBy W' t.ownBlock) : StOwn W' N t' s l ⟨x.tks ++ [y], x.sws, x.lks⟩ :=
 ⟨by rw [List.length_append, List.flatMap_append]; simpa using ho, h.sws.kept hg (own_apart h.sws h.tks (by decide)), h.lks.kept hg (own_apart h.lks h.tks (by decide))⟩
theorem StOwn.sw (h : StOwn W N t s l x) (y : Sw) {s' : Value} (ho : W'.ownsRow N 108 3 s' (x.sws.length + 1) (x.sws.flatMap swC ++ swC y)) (hg : W.grownBy W' s.ownBlock) : StOwn W' N t s' l ⟨x.tks, x.sws ++ [y], x.lks⟩ :=
 ⟨h.tks.kept hg (own_apart h.tks h.sws (by decide)), by rw [List.length_append, List.flatMap_append]; simpa using ho, h.lks.kept hg (own_apart h.lks h.sws (by decide))⟩
theorem StOwn.lk (h : StOwn W N t s l x) (y : Lk) {l' : Value} (ho : W'.ownsRow N 99 4 l' (x.lks.length + 1) (x.lks.flatMap lkC ++ lkC y)) (hg : W.grownBy W' l.ownBlock) : StOwn W' N t s l' ⟨x.tks, x.sws, x.lks ++ [y]⟩ :=
 ⟨h.tks.kept hg (own_apart h.tks h.lks (by decide)), h.sws.kept hg (own_apart h.sws h.lks (by decide)), by rw [List.length_append, List.flatMap_append]; simpa using ho⟩
end
structure AtM (B : World) (N bp g : Nat) (pc : Array Value) (t s l : Value) (x : St) (W : World) : Prop where
 bel : Below B.heap.size B W
 pl : W.heap[bp]? = some (.cells pc 28 (0, 0))
 blk : W.heap[g]? = some (.cells #[t, s, l] 33 (0, 0))
 own : StOwn W N t s l x
section
variable {B W W' : World} {N bp g : Nat} {pc : Array Value} {t s l : Value} {x : St}
theorem AtM.below (h : AtM B N bp g pc t s l x W) (hb : Below W.heap.size W W') : AtM B N bp g pc t s l x W' :=
 ⟨h.bel.trans (hb.mono h.bel.size), (hb.block _ (lt_of_block h.pl)).trans h.pl, (hb.block _ (lt_of_block h.blk)).trans h.blk, h.own.below hb⟩
theorem AtM.grow (h : AtM B N bp g pc t s l x W) (hB : B.heap.size ≤ g) (hbp : bp < g) (hg : g < N) {e sz n : Nat} {v : Value} {xs : List Value} (hv : W.ownsRow N e sz v n xs) (hgr : W.grownBy W' v.ownBlock) {o : Nat} {u t' s' l' : Value} {x' : St} (hc : (#[t, s, l] : Array Value).setIfInBounds o u = #[t', s', l']) (ho : StOwn W' N t' s' l' x') : AtM B N bp g pc t' s' l' x' (W'.setCell ⟨g, o, none⟩ u) := by
 have nb : ∀ k, k < N → some k ≠ v.ownBlock := fun k hk e => by
  obtain ⟨c, _, hb⟩ := own_block hv e.symm
  omega
 have hb : Below B.heap.size B W' := h.bel.trans (grown_below hv (by omega) h.bel.size hgr)
 have hbl : W'.heap[g]? = some (.cells #[t, s, l] 33 (0, 0)) := (hgr.block _ (lt_of_block h.blk) (nb g hg)).trans h.blk
 refine ⟨hb.setCell hB _, (Below.heap_setCell _ _ _ bp (by show bp ≠ g; omega)).trans ((hgr.block _ (lt_of_block h.pl) (nb bp (by omega))).trans h.pl), ?_, ho.setCell hg u⟩
 rw [← hc]
 simp [World.setCell, Array.getElem?_modify, hbl]
end
end Go.Proofs.YtbiehpjhhopjaaaGreat
set_option linter.unusedVariables false
set_option linter.unusedSimpArgs false
namespace Go.Proofs.YtbiehpjhhopjaaaGreat
open Go.RowKit Go.Sort
end Go.Proofs.YtbiehpjhhopjaaaGreat
namespace Go.Proofs.YtbiehpjhhopjaaaGreat
open Go.RowKit
theorem info207 : (Tryz.prog.info? 207).map (fun i => (i.zero, i.size, i.bytes)) = some (some (.agg #[.int .i64 0, .int .i64 0]), 2, 16) := by kernel_rfl
def flC (x : Fl) : List Value := [.int .i64 x.pt, .int .i64 x.lie]
theorem oneFl (x : Fl) (u : Value) (h : u ∈ flC x) : u.oneCell' = true := by
 unfold flC at h
 simp at h
 rcases h with rfl | rfl <;> rfl
theorem sl_reads1 {α : Type} {w : World} {sz : Nat} {R : World → List Value → α → Prop} {b off cap : Nat} {l : List α} {f : α → List Value} (h : SlA w sz R (some ⟨b, off, none⟩) cap l) (hf : ∀ x ∈ l, (f x).length = sz) (hR : ∀ vs x, R w vs x → vs = f x) (hz : 0 < sz) :
  ∀ j u, (l.flatMap f)[j]? = some u → w.cell? ⟨b, off + j, none⟩ = some u := by
 intro j u hj
 have hlen := flat_len f sz l hf
 have hjl : j < l.length * sz := by rw [← hlen]; exact (List.getElem?_eq_some_iff.1 hj).1
 have hi : j / sz < l.length := Nat.div_lt_of_lt_mul (by rw [Nat.mul_comm]; exact hjl)
 have hr : j % sz < sz := Nat.mod_lt _ hz
 have hje : j / sz * sz + j % sz = j := Nat.div_add_mod' j sz
 rw [← hje, flat_get f sz l (j / sz) (j % sz) hi hf hr] at hj
 obtain ⟨b', off', vs, e, hl, hc, hr2⟩ := h.at_ (j / sz) hi
 cases e
 obtain rfl := hR vs _ hr2
 have h1 := hc (j % sz) (by rw [hl]; exact hr)
 rw [List.getElem?_eq_getElem (by rw [hl]; exact hr)] at hj
 rw [show off + j = off + j / sz * sz + j % sz by rw [Nat.add_assoc, hje], h1]
 exact hj
end Go.Proofs.YtbiehpjhhopjaaaGreat
namespace Go.Proofs.YtbiehpjhhopjaaaGreat
open Go.RowKit
structure RW (B : Nat) (w0 : World) (r : Rt) (g g2 : Nat) (P O Q : Value) (f0 f1 f2 f3 f4 f5 f6 f7 f8 f9 f10 f11 f12 f13 f14 : Bool) (s3 s4 s5 s6 s7 s8 s9 s10 s11 s12 s13 s14 : Value) (W : World) : Prop where
 bel : Below B w0 W
 hl : g2 + 1 ≤ W.heap.size
 blk : W.heap[g]? = some (.cells #[.int .i64 r.id, .int .i64 r.entry, .int .i64 r.exit, bif f10 then s5 else P, bif f12 then s8 else O, bif f14 then s11 else Q, .int .i64 r.timer] 102 (0, 0))
 hz : W.heap[g2]? = some (.cells #[.int .i64 0, .int .i64 0, .int .i64 0, .slice none 0 0, .slice none 0 0, .slice none 0 0, .int .i64 0] 102 (0, 0))
 h0 : f0 = true → s3 = .pointer (some ⟨g, 3, none⟩)
 h1 : f1 = true → s4 = P
 h2 : f2 = true → IntOwn W (g2 + 1) s5 r.path
 h3 : f3 = true → s6 = .pointer (some ⟨g, 4, none⟩)
 h4 : f4 = true → s7 = O
 h5 : f5 = true → IntOwn W (g2 + 1) s8 r.over
 h6 : f6 = true → s9 = .pointer (some ⟨g, 5, none⟩)
 h7 : f7 = true → s10 = Q
 h8 : f8 = true → W.ownsRow (g2 + 1) 207 2 s11 r.fl.length (r.fl.flatMap flC)
 h9 : f9 = true → s12 = .pointer (some ⟨g, 3, none⟩)
 h11 : f11 = true → s13 = .pointer (some ⟨g, 4, none⟩)
 h13 : f13 = true → s14 = .pointer (some ⟨g, 5, none⟩)
 d0 : f10 = true → f1 = true ∧ f2 = true
 d1 : f12 = true → f4 = true ∧ f5 = true
 d2 : f14 = true → f7 = true ∧ f8 = true
theorem RW.below {B : Nat} {w0 : World} {r : Rt} {g g2 : Nat} {P O Q : Value} {f0 f1 f2 f3 f4 f5 f6 f7 f8 f9 f10 f11 f12 f13 f14 : Bool} {s3 s4 s5 s6 s7 s8 s9 s10 s11 s12 s13 s14 : Value} {W W' : World} (h : RW B w0 r g g2 P O Q f0 f1 f2 f3 f4 f5 f6 f7 f8 f9 f10 f11 f12 f13 f14 s3 s4 s5 s6 s7 s8 s9 s10 s11 s12 s13 s14 W) (hb : Below W.heap.size W W') (hB : B ≤ W.heap.size) : RW B w0 r g g2 P O Q f0 f1 f2 f3 f4 f5 f6 f7 f8 f9 f10 f11 f12 f13 f14 s3 s4 s5 s6 s7 s8 s9 s10 s11 s12 s13 s14 W' :=
 { h with
  bel := h.bel.trans (hb.mono hB)
  hl := Nat.le_trans h.hl hb.size
  blk := (hb.block _ (lt_of_block h.blk)).trans h.blk
  hz := (hb.block _ (lt_of_block h.hz)).trans h.hz
  h2 := fun k => own_below (h.h2 k) hb
  h5 := fun k => own_below (h.h5 k) hb
  h8 := fun k => own_below (h.h8 k) hb }
def RtOwn (W : World) (B : Nat) (v1 v2 v3 : Value) (r : Rt) : Prop := IntOwn W B v1 r.path ∧ IntOwn W B v2 r.over ∧ W.ownsRow B 207 2 v3 r.fl.length (r.fl.flatMap flC)
theorem RtOwn.m {W : World} {B : Nat} {v1 v2 v3 : Value} {r : Rt} (h : RtOwn W B v1 v2 v3 r) : RtM W v1 v2 v3 r := ⟨h.1.ilv, h.2.1.ilv, sl_of_own (f := flC) h.2.2 (fun _ _ => rfl) (fun _ _ => rfl)⟩
theorem RtOwn.setCell {W : World} {B : Nat} {v1 v2 v3 : Value} {r : Rt} (h : RtOwn W B v1 v2 v3 r) {a : Addr} (ha : a.block < B) (x : Value) : RtOwn (W.setCell a x) B v1 v2 v3 r := ⟨own_setCell h.1 ha x, own_setCell h.2.1 ha x, own_setCell h.2.2 ha x⟩
theorem RtOwn.base {W : World} {B B' : Nat} {v1 v2 v3 : Value} {r : Rt} (h : RtOwn W B v1 v2 v3 r) (hb : B' ≤ B) : RtOwn W B' v1 v2 v3 r := ⟨own_base h.1 hb, own_base h.2.1 hb, own_base h.2.2 hb⟩
theorem own_slice1 {w : World} {base : Nat} {e : TypeId} {sz : Nat} {v : Value} {n : Nat} {xs : List Value} (h : w.ownsRow base e sz v n xs) : ∃ a c, v = .slice a n c := by
 rcases h.2 with ⟨rfl, h0⟩ | ⟨g, cap, cur, rfl, _⟩
 ·exact ⟨none, 0, by rw [h0]⟩
 ·exact ⟨_, _, rfl⟩
end Go.Proofs.YtbiehpjhhopjaaaGreat
namespace Go.Proofs.YtbiehpjhhopjaaaGreat
open Go.RowKit
theorem wpList_append_fls {w : World} {ops : Array Oper} {rest : List Oper} {o : Oper} {a : Act} {Q : Exit → Act → World → Prop} (hgd : o.guard = none) (s x : Operand)
  (ho : o.op = .call { callee := .builtin .append, args := #[s, x], argTypes := #[100, 100] }) (hs : a.eval s = .slice none 0 0)
  (a0 : Option Addr) (cap : Nat) (l : List Fl) (hx : a.eval x = .slice a0 l.length cap) (hl : SlA w 2 RFl a0 cap l) (hn : l.length ≤ 1000)
  (h : ∀ a' c' w', w'.ownsRow w.heap.size 207 2 (.slice a' l.length c') l.length (l.flatMap flC) → Below w.heap.size w w' → wpList Tryz.prog ops Q rest (a.put o.dst (.slice a' l.length c')) w') : wpList Tryz.prog ops Q (o :: rest) a w := by
 obtain ⟨i0, hi, hz0, hz1, hz2⟩ := info_parts info207
 by_cases h0 : l = []
 ·subst h0
  have hrun : (Builtin.append_ #[100, 100] o.type #[.slice none 0 0, .slice a0 0 cap]).run Tryz.prog w = .ok (.slice none 0 0) w := by
   cases a0 <;> simp [Builtin.append_, run_underlying Tryz.underlying100, sizeOf, typeInfo, hi, Builtin.lenOf, Builtin.firstCells, loadCells, loadCellsFrom]
  have hk := h none 0 w (World.ownsRow_nil _ _ _ _) (Below.refl _ _)
  exact Go.Lib.wpList_append_run w hgd s x 100 100 ho _ _ hs hx _ _ hrun hk
 ·obtain ⟨b, off, vs0, e, -⟩ := hl.at_ 0 (List.length_pos_iff.2 h0)
  cases e
  refine wpList_append_own_at w hgd s x 100 ho w.heap.size 207 i0 (.agg #[.int .i64 0, .int .i64 0]) 2 16 Tryz.underlying100 hi hz0 hz1 hz2 rfl (by decide) (.slice none 0 0) 0 [] hs (World.ownsRow_nil _ _ _ _) ⟨b, off, none⟩ l.length cap (l.flatMap flC) hx (flat_len _ 2 l (fun _ _ => rfl)) ?_ ?_ (by unfold maxLen; omega) (by omega) (Nat.le_refl _) ?_
  ·intro j u hj
   rw [Addr.add_lit]
   exact sl_reads1 (f := flC) hl (fun _ _ => rfl) (fun _ _ h => h) (by decide) j u hj
  ·intro u hu
   obtain ⟨y, -, hy⟩ := List.mem_flatMap.1 hu
   exact oneFl y u hy
  ·intro v' w' h1 h2 _ _
   rw [Nat.zero_add, List.nil_append] at h1
   obtain ⟨a', c', rfl⟩ := own_slice1 h1
   exact h a' c' w' h1 (grown_below (World.ownsRow_nil w w.heap.size 207 2) (Nat.le_refl _) (Nat.le_refl _) h2)
set_option maxRecDepth 100000 in
set_option maxHeartbeats 4000000 in
theorem refTwinRt (r : Rt) (c5 c6 c7 : Value) (w : World) (hr : RtM w c5 c6 c7 r) (hf : r.fit) :
  Calls Tryz.prog 132 #[.agg #[.int .i64 r.id, .int .i64 r.entry, .int .i64 r.exit, c5, c6, c7, .int .i64 r.timer]] w fun e w' => ∃ a1 c1 a2 c2 a3 c3, e = .returned (.agg #[.int .i64 r.id, .int .i64 r.entry, .int .i64 r.exit, .slice a1 r.path.length c1, .slice a2 r.over.length c2, .slice a3 r.fl.length c3, .int .i64 r.timer]) ∧ RtOwn w' w.heap.size (.slice a1 r.path.length c1) (.slice a2 r.over.length c2) (.slice a3 r.fl.length c3) r ∧ Below w.heap.size w w' := by
 have HP : Hid (∀ W, Below w.heap.size w W → RtM W c5 c6 c7 r) := fun W hb => hr.below hb
 obtain ⟨p1, pn, p3, rfl, ip⟩ := hr.path
 obtain ⟨o1, on, o3, rfl, io⟩ := hr.over
 obtain rfl := ip.len
 obtain rfl := io.len
 obtain ⟨f1, f3, rfl, -⟩ := hr.fl
 have HI1 : Hid (∀ W, Below w.heap.size w W → IL W p1 r.path.length r.path) := fun W hb => by
  obtain ⟨a, n, c, e, h⟩ := (HP.out W hb).path
  cases e
  exact h
 have HI2 : Hid (∀ W, Below w.heap.size w W → IL W o1 r.over.length r.over) := fun W hb => by
  obtain ⟨a, n, c, e, h⟩ := (HP.out W hb).over
  cases e
  exact h
 have HI3 : Hid (∀ W, Below w.heap.size w W → SlA W 2 RFl f1 f3 r.fl) := fun W hb => by
  obtain ⟨a, c, e, h⟩ := (HP.out W hb).fl
  cases e
  exact h
 have hf1 : ([] : List Int).length + r.path.length ≤ 1000 := by have := hf.1; simp; omega
 have hf2 : ([] : List Int).length + r.over.length ≤ 1000 := by have := hf.2.1; simp; omega
 have hf3 := hf.2.2
 clear hr hf HP ip io
 go_enter Tryz.func132, Tryz.ntmps132
 go_upto_region 2 with fail
 generalize hW0 : World.alloc _ _ = W0
 have eA : (w.alloc (.cells #[.int .i64 r.id, .int .i64 r.entry, .int .i64 r.exit, .slice p1 r.path.length p3, .slice o1 r.over.length o3, .slice f1 r.fl.length f3, .int .i64 r.timer] 102)).heap.size = w.heap.size + 1 := by simp
 have eB : ((w.alloc (.cells #[.int .i64 r.id, .int .i64 r.entry, .int .i64 r.exit, .slice p1 r.path.length p3, .slice o1 r.over.length o3, .slice f1 r.fl.length f3, .int .i64 r.timer] 102)).alloc (.cells #[.int .i64 0, .int .i64 0, .int .i64 0, .slice none 0 0, .slice none 0 0, .slice none 0 0, .int .i64 0] 102)).heap.size = w.heap.size + 1 + 1 := by simp
 have K0 : Hid (Below w.heap.size w W0) := by show Below _ _ _; rw [← hW0]; exact (((Below.refl _ _).alloc (Nat.le_refl _) _).alloc (by simp) _).alloc (by simp <;> omega) _
 have hx0 : W0.heap[w.heap.size]? = some (.cells #[.int .i64 r.id, .int .i64 r.entry, .int .i64 r.exit, .slice p1 r.path.length p3, .slice o1 r.over.length o3, .slice f1 r.fl.length f3, .int .i64 r.timer] 102 (0, 0)) := by
  rw [← hW0]
  exact (heap_alloc_old _ _ (by simp <;> omega)).trans ((heap_alloc_old _ _ (by simp)).trans (heap_alloc_new _ _))
 have hz0 : W0.heap[w.heap.size + 1]? = some (.cells #[.int .i64 0, .int .i64 0, .int .i64 0, .slice none 0 0, .slice none 0 0, .slice none 0 0, .int .i64 0] 102 (0, 0)) := by
  rw [← hW0]
  exact (heap_alloc_old _ _ (by simp)).trans (heap_alloc2_new _ _ _)
 have ht0 : W0.heap[w.heap.size + 1 + 1]? = some (.cells #[.int .i64 r.id, .int .i64 r.entry, .int .i64 r.exit, .slice none 0 0, .slice none 0 0, .slice none 0 0, .int .i64 r.timer] 102 (0, 0)) := by
  rw [← hW0, ← eB]
  exact heap_alloc_new _ _
 have s0 : W0.heap.size = w.heap.size + 3 := by rw [← hW0]; simp
 clear hW0 eA eB
 have xx : W0.cell? ⟨w.heap.size, 3, none⟩ = some (.slice p1 r.path.length p3) := (cell_of_row W0 _ 3 _ _ _ hx0).trans rfl
 have yy : W0.cell? ⟨w.heap.size + 1 + 1, 3, none⟩ = some (.slice none 0 0) := (cell_of_row W0 _ 3 _ _ _ ht0).trans rfl
 have lx := block_lt_of_cell xx
 have ly := block_lt_of_cell yy
 have HX0 := Lib.hid hx0
 have HZ0 := Lib.hid hz0
 have HT0 := Lib.hid ht0
 have HY0 := Lib.hid ly
 clear hx0 hz0 ht0
 have hbs : W0.heap.size ≤ W0.heap.size := Nat.le_refl _
 go_upto_region 3 with (at_builtin; refine wpList_append_ints rfl _ _ rfl W0.heap.size (.slice none 0 0) [] rfl (intOwn_nil _ _) p1 p3 r.path rfl (HI1.out _ K0.out) hf1 hbs ?_; rw [List.nil_append]; intro b1 c1 W1A hown hgr; have hbb : Below W0.heap.size W0 W1A := grown_below (intOwn_nil W0 W0.heap.size) (Nat.le_refl _) (Nat.le_refl _) hgr; have zc : W1A.cell? ⟨w.heap.size + 1 + 1, 3, none⟩ = some (.slice none 0 0) := ccell hbb yy; have htA := (hbb.block _ (lt_of_block HT0.out)).trans HT0.out; have zf : W1A.frozen? ⟨w.heap.size + 1 + 1, 3, none⟩ = false := (by simp [World.frozen?, htA]); have zl := block_lt_of_cell zc)
 generalize hWN : World.setCell _ _ _ = W1
 have hx1 : W1.heap[w.heap.size]? = some (.cells #[.int .i64 r.id, .int .i64 r.entry, .int .i64 r.exit, .slice p1 r.path.length p3, .slice o1 r.over.length o3, .slice f1 r.fl.length f3, .int .i64 r.timer] 102 (0, 0)) := by
  have := (hbb.block _ (lt_of_block HX0.out)).trans HX0.out
  rw [← hWN]; simp [World.setCell, Array.getElem?_modify, this]
  intro h; omega
 have hz1 : W1.heap[w.heap.size + 1]? = some (.cells #[.int .i64 0, .int .i64 0, .int .i64 0, .slice none 0 0, .slice none 0 0, .slice none 0 0, .int .i64 0] 102 (0, 0)) := by
  have := (hbb.block _ (lt_of_block HZ0.out)).trans HZ0.out
  rw [← hWN]; simp [World.setCell, Array.getElem?_modify, this]
 have ht1 : W1.heap[w.heap.size + 1 + 1]? = some (.cells #[.int .i64 r.id, .int .i64 r.entry, .int .i64 r.exit, .slice b1 r.path.length c1, .slice none 0 0, .slice none 0 0, .int .i64 r.timer] 102 (0, 0)) := by
  rw [← hWN]; simp [World.setCell, Array.getElem?_modify, htA]
 have K1 : Hid (Below w.heap.size w W1) := by
  show Below _ _ _
  rw [← hWN]
  exact (K0.out.trans (hbb.mono K0.out.size)).setCell (by simp <;> omega) _
 have O1 : Hid (IntOwn W1 W0.heap.size (.slice b1 r.path.length c1) r.path) := by
  show IntOwn _ _ _ _
  rw [← hWN]
  exact own_setCell hown HY0.out _
 have HBW1 : Hid (∀ v l, IntOwn W0 (w.heap.size + 1 + 1 + 1) v l → IntOwn W1 (w.heap.size + 1 + 1 + 1) v l) := fun v l h => by
  rw [← hWN]
  exact own_setCell (own_below h hbb) (by simp) _
 have s1 : w.heap.size + 3 ≤ W1.heap.size := by rw [← hWN]; have := hbb.size; simp; omega
 clear hWN hown hbb zc htA zf zl xx yy lx ly hbs HX0 HZ0 HT0 hgr
 have xx : W1.cell? ⟨w.heap.size, 4, none⟩ = some (.slice o1 r.over.length o3) := (cell_of_row W1 _ 4 _ _ _ hx1).trans rfl
 have yy : W1.cell? ⟨w.heap.size + 1 + 1, 4, none⟩ = some (.slice none 0 0) := (cell_of_row W1 _ 4 _ _ _ ht1).trans rfl
 have lx := block_lt_of_cell xx
 have ly := block_lt_of_cell yy
 have HX1 := Lib.hid hx1
 have HZ1 := Lib.hid hz1
 have HT1 := Lib.hid ht1
 have HY1 := Lib.hid ly
 clear hx1 hz1 ht1
 have hbs : W1.heap.size ≤ W1.heap.size := Nat.le_refl _
 go_upto_region 4 with (at_builtin; refine wpList_append_ints rfl _ _ rfl W1.heap.size (.slice none 0 0) [] rfl (intOwn_nil _ _) o1 o3 r.over rfl (HI2.out _ K1.out) hf2 hbs ?_; rw [List.nil_append]; intro b2 c2 W2A hown hgr; have hbb : Below W1.heap.size W1 W2A := grown_below (intOwn_nil W1 W1.heap.size) (Nat.le_refl _) (Nat.le_refl _) hgr; have zc : W2A.cell? ⟨w.heap.size + 1 + 1, 4, none⟩ = some (.slice none 0 0) := ccell hbb yy; have htA := (hbb.block _ (lt_of_block HT1.out)).trans HT1.out; have zf : W2A.frozen? ⟨w.heap.size + 1 + 1, 4, none⟩ = false := (by simp [World.frozen?, htA]); have zl := block_lt_of_cell zc)
 generalize hWN : World.setCell _ _ _ = W2
 have hx2 : W2.heap[w.heap.size]? = some (.cells #[.int .i64 r.id, .int .i64 r.entry, .int .i64 r.exit, .slice p1 r.path.length p3, .slice o1 r.over.length o3, .slice f1 r.fl.length f3, .int .i64 r.timer] 102 (0, 0)) := by
  have := (hbb.block _ (lt_of_block HX1.out)).trans HX1.out
  rw [← hWN]; simp [World.setCell, Array.getElem?_modify, this]
  intro h; omega
 have hz2 : W2.heap[w.heap.size + 1]? = some (.cells #[.int .i64 0, .int .i64 0, .int .i64 0, .slice none 0 0, .slice none 0 0, .slice none 0 0, .int .i64 0] 102 (0, 0)) := by
  have := (hbb.block _ (lt_of_block HZ1.out)).trans HZ1.out
  rw [← hWN]; simp [World.setCell, Array.getElem?_modify, this]
 have ht2 : W2.heap[w.heap.size + 1 + 1]? = some (.cells #[.int .i64 r.id, .int .i64 r.entry, .int .i64 r.exit, .slice b1 r.path.length c1, .slice b2 r.over.length c2, .slice none 0 0, .int .i64 r.timer] 102 (0, 0)) := by
  rw [← hWN]; simp [World.setCell, Array.getElem?_modify, htA]
 have K2 : Hid (Below w.heap.size w W2) := by
  show Below _ _ _
  rw [← hWN]
  exact (K1.out.trans (hbb.mono K1.out.size)).setCell (by simp <;> omega) _
 have O2 : Hid (IntOwn W2 W1.heap.size (.slice b2 r.over.length c2) r.over) := by
  show IntOwn _ _ _ _
  rw [← hWN]
  exact own_setCell hown HY1.out _
 have HBW2 : Hid (∀ v l, IntOwn W1 (w.heap.size + 1 + 1 + 1) v l → IntOwn W2 (w.heap.size + 1 + 1 + 1) v l) := fun v l h => by
  rw [← hWN]
  exact own_setCell (own_below h hbb) (by simp) _
 have s2 : w.heap.size + 3 ≤ W2.heap.size := by rw [← hWN]; have := hbb.size; simp; omega
 clear hWN hown hbb zc htA zf zl xx yy lx ly hbs HX1 HZ1 HT1 hgr
 have xx : W2.cell? ⟨w.heap.size, 5, none⟩ = some (.slice f1 r.fl.length f3) := (cell_of_row W2 _ 5 _ _ _ hx2).trans rfl
 have yy : W2.cell? ⟨w.heap.size + 1 + 1, 5, none⟩ = some (.slice none 0 0) := (cell_of_row W2 _ 5 _ _ _ ht2).trans rfl
 have lx := block_lt_of_cell xx
 have ly := block_lt_of_cell yy
 have HX2 := Lib.hid hx2
 have HZ2 := Lib.hid hz2
 have HT2 := Lib.hid ht2
 have HY2 := Lib.hid ly
 clear hx2 hz2 ht2
 have hbs : W2.heap.size ≤ W2.heap.size := Nat.le_refl _
 go_upto_region 5 with (at_builtin; refine wpList_append_fls rfl _ _ rfl rfl f1 f3 r.fl rfl (HI3.out _ K2.out) hf3 ?_; intro b3 c3 W3A hown hbb; have zc : W3A.cell? ⟨w.heap.size + 1 + 1, 5, none⟩ = some (.slice none 0 0) := ccell hbb yy; have htA := (hbb.block _ (lt_of_block HT2.out)).trans HT2.out; have zf : W3A.frozen? ⟨w.heap.size + 1 + 1, 5, none⟩ = false := (by simp [World.frozen?, htA]); have zl := block_lt_of_cell zc)
 generalize hWN : World.setCell _ _ _ = W3
 have hx3 : W3.heap[w.heap.size]? = some (.cells #[.int .i64 r.id, .int .i64 r.entry, .int .i64 r.exit, .slice p1 r.path.length p3, .slice o1 r.over.length o3, .slice f1 r.fl.length f3, .int .i64 r.timer] 102 (0, 0)) := by
  have := (hbb.block _ (lt_of_block HX2.out)).trans HX2.out
  rw [← hWN]; simp [World.setCell, Array.getElem?_modify, this]
  intro h; omega
 have hz3 : W3.heap[w.heap.size + 1]? = some (.cells #[.int .i64 0, .int .i64 0, .int .i64 0, .slice none 0 0, .slice none 0 0, .slice none 0 0, .int .i64 0] 102 (0, 0)) := by
  have := (hbb.block _ (lt_of_block HZ2.out)).trans HZ2.out
  rw [← hWN]; simp [World.setCell, Array.getElem?_modify, this]
 have ht3 : W3.heap[w.heap.size + 1 + 1]? = some (.cells #[.int .i64 r.id, .int .i64 r.entry, .int .i64 r.exit, .slice b1 r.path.length c1, .slice b2 r.over.length c2, .slice b3 r.fl.length c3, .int .i64 r.timer] 102 (0, 0)) := by
  rw [← hWN]; simp [World.setCell, Array.getElem?_modify, htA]
 have K3 : Hid (Below w.heap.size w W3) := by
  show Below _ _ _
  rw [← hWN]
  exact (K2.out.trans (hbb.mono K2.out.size)).setCell (by simp <;> omega) _
 have O3 : Hid (W3.ownsRow W2.heap.size 207 2 (.slice b3 r.fl.length c3) r.fl.length (r.fl.flatMap flC)) := by
  show World.ownsRow _ _ _ _ _ _ _
  rw [← hWN]
  exact own_setCell hown HY2.out _
 have HBW3 : Hid (∀ v l, IntOwn W2 (w.heap.size + 1 + 1 + 1) v l → IntOwn W3 (w.heap.size + 1 + 1 + 1) v l) := fun v l h => by
  rw [← hWN]
  exact own_setCell (own_below h hbb) (by simp) _
 have s3 : w.heap.size + 3 ≤ W3.heap.size := by rw [← hWN]; have := hbb.size; simp; omega
 clear hWN hown hbb zc htA zf zl xx yy lx ly hbs HX2 HZ2 HT2 
 obtain ⟨q0, q1, q2, q3, q4, q5, q6⟩ := cells7 (ht3)
 obtain ⟨z0, z1, z2, z3, z4, z5, z6⟩ := cells7 (hz3)
 have ff : ∀ o, W3.frozen? ⟨w.heap.size + 1, o, none⟩ = false := fun o => by simp [World.frozen?, hz3]
 have lr := lt_of_block hz3
 have lt3 := lt_of_block ht3
 have HO : Hid (RtOwn W3 (w.heap.size + 1 + 1 + 1) (.slice b1 r.path.length c1) (.slice b2 r.over.length c2) (.slice b3 r.fl.length c3) r) :=
  ⟨HBW3.out _ _ (HBW2.out _ _ (own_base O1.out (by omega))), HBW3.out _ _ (own_base O2.out (by omega)), own_base O3.out (by omega)⟩
 clear hx3 hz3 ht3 O1 O2 O3 HBW1 HBW2 HBW3
 go_wp2_with fail
 generalize hWE : World.setCell _ _ _ = WE
 have e0 : WE.cell? ⟨w.heap.size + 1, 0, none⟩ = some (.int .i64 r.id) := by rw [← hWE]; simp [go_sem, lr, z0, z1, z2, z3, z4, z5, z6]
 have e1 : WE.cell? ⟨w.heap.size + 1, 1, none⟩ = some (.int .i64 r.entry) := by rw [← hWE]; simp [go_sem, lr, z0, z1, z2, z3, z4, z5, z6]
 have e2 : WE.cell? ⟨w.heap.size + 1, 2, none⟩ = some (.int .i64 r.exit) := by rw [← hWE]; simp [go_sem, lr, z0, z1, z2, z3, z4, z5, z6]
 have e3 : WE.cell? ⟨w.heap.size + 1, 3, none⟩ = some (.slice b1 r.path.length c1) := by rw [← hWE]; simp [go_sem, lr, z0, z1, z2, z3, z4, z5, z6]
 have e4 : WE.cell? ⟨w.heap.size + 1, 4, none⟩ = some (.slice b2 r.over.length c2) := by rw [← hWE]; simp [go_sem, lr, z0, z1, z2, z3, z4, z5, z6]
 have e5 : WE.cell? ⟨w.heap.size + 1, 5, none⟩ = some (.slice b3 r.fl.length c3) := by rw [← hWE]; simp [go_sem, lr, z0, z1, z2, z3, z4, z5, z6]
 have e6 : WE.cell? ⟨w.heap.size + 1, 6, none⟩ = some (.int .i64 r.timer) := by rw [← hWE]; simp [go_sem, lr, z0, z1, z2, z3, z4, z5, z6]
 have KB : Hid (Below w.heap.size w WE) := by show Below _ _ _; rw [← hWE]; exact Below.setCell (Below.setCell (Below.setCell (Below.setCell (Below.setCell (Below.setCell (Below.setCell (K3.out) (by simp) _) (by simp) _) (by simp) _) (by simp) _) (by simp) _) (by simp) _) (by simp) _
 have M1 : Hid (RtOwn WE (w.heap.size + 1 + 1 + 1) (.slice b1 r.path.length c1) (.slice b2 r.over.length c2) (.slice b3 r.fl.length c3) r) := by show RtOwn _ _ _ _ _ _; rw [← hWE]; exact RtOwn.setCell (RtOwn.setCell (RtOwn.setCell (RtOwn.setCell (RtOwn.setCell (RtOwn.setCell (RtOwn.setCell (HO.out) (by show _ < _; simp) _) (by show _ < _; simp) _) (by show _ < _; simp) _) (by show _ < _; simp) _) (by show _ < _; simp) _) (by show _ < _; simp) _) (by show _ < _; simp) _
 clear hWE
 refine bodyPost_ret (v := .agg #[.int .i64 r.id, .int .i64 r.entry, .int .i64 r.exit, .slice b1 r.path.length c1, .slice b2 r.over.length c2, .slice b3 r.fl.length c3, .int .i64 r.timer]) (by simp [results, Tryz.f132, go_sem, e0, e1, e2, e3, e4, e5, e6]) rfl ?_
 exact ⟨b1, c1, b2, c2, b3, c3, rfl, M1.out.base (by omega), KB.out⟩
end Go.Proofs.YtbiehpjhhopjaaaGreat
