/-
 A route's way, and what it holds, as the references have it, walked. (Written by wip/tools/gen_rwn.py.)
 What a route's lock asks, as the references have it, walked. (Written by wip/tools/gen_rwo.py.)
-/
import Derived.Test.YtbiehpjhhopjaaaGreatTRwJ
set_option linter.unusedVariables false
set_option linter.unusedSimpArgs false
namespace Go.Proofs.YtbiehpjhhopjaaaGreat
open Go.RowKit Go.Sort
set_option maxRecDepth 100000 in
set_option maxHeartbeats 4000000 in
theorem refWay (p : Pl) (s q gg rr : Value) (kk : Nat) (hkk : kk < p.rts.length) (w : World) (hp : PlM w s q gg rr p) (hf : p.Fit) (hPM : PlanMay p) (x : Rw) (hx : rwEnd p p.rts[kk] = some x) :
  Calls Tryz.prog 316 #[plV p s q gg rr, .int .i64 kk] w (WayPost w p.rts[kk] (madeAsks p p.rts[kk] x) (sgOf p p.rts[kk].entry).sec) := by
 have HM : Hid (∀ W, Below w.heap.size w W → Calls Tryz.prog 217 #[plV p s q gg rr, .int .i64 kk] W (WayPost W p.rts[kk] (madeAsks p p.rts[kk] x) (sgOf p p.rts[kk].entry).sec)) := fun W hb => refMade p s q gg rr kk hkk W (hp.below hb) hf hPM x hx
 obtain ⟨a1, k1, rfl, -⟩ := hp.secs
 obtain ⟨a2, k2, rfl, -⟩ := hp.pts
 obtain ⟨a3, k3, rfl, -⟩ := hp.sigs
 obtain ⟨a4, k4, rfl, -⟩ := hp.rts
 clear hp hf hPM hx
 generalize madeAsks p p.rts[kk] x = MA at *
 generalize (sgOf p p.rts[kk].entry).sec = near at *
 generalize p.rts[kk] = r at *
 unfold plV at *
 go_enter Tryz.func316, Tryz.ntmps316
 go_upto_region 1 with fail
 generalize hW0 : World.alloc _ _ = W0
 have K0 : Hid (Below w.heap.size w W0) := by show Below _ _ _; rw [← hW0]; exact ((Below.refl _ _).alloc (Nat.le_refl _) _).alloc (by simp) _
 have hx0 : W0.heap[w.heap.size]? = some (.cells #[.int .i64 p.ver, .int .i64 p.par, .slice a1 p.secs.length k1, .slice a2 p.pts.length k2, .slice a3 p.sigs.length k3, .slice a4 p.rts.length k4] 28 (0, 0)) := by rw [← hW0]; exact (heap_alloc_old _ _ (by simp)).trans (heap_alloc_new _ _)
 have HZ0 : Hid (W0.heap[w.heap.size + 1]? = some (.cells #[.slice none 0 0, .slice none 0 0, .slice none 0 0, .int .i64 0] 184 (0, 0))) := by show _ = _; rw [← hW0]; exact heap_alloc2_new _ _ _
 clear hW0
 obtain ⟨pp0, pp1, pp2, pp3, pp4, pp5⟩ := cells6 (hx0)
 clear hx0
 go_wp2_with fail
 refine (HM.out W0 K0.out).mono ?_
 rintro e W1 ⟨q1, q3, n1, n3, m1, m3, rfl, o1, o2, o3, hb1⟩
 have HO1 := Lib.hid o1
 have HO2 := Lib.hid o2
 have HO3 := Lib.hid o3
 have hz := (hb1.block _ (lt_of_block HZ0.out)).trans HZ0.out
 have ff : ∀ o, W1.frozen? ⟨w.heap.size + 1, o, none⟩ = false := fun o => by simp [World.frozen?, hz]
 have lz := lt_of_block hz
 have hlt : w.heap.size + 1 < W0.heap.size := lt_of_block HZ0.out
 have K1 : Hid (Below w.heap.size w W1) := K0.out.trans (hb1.mono K0.out.size)
 obtain ⟨z0, z1, z2, z3⟩ := cells4 (hz)
 clear o1 o2 o3 hz hb1 pp0 pp1 pp2 pp3 pp4 pp5
 go_wp2_with fail
 generalize hWE : World.setCell _ _ _ = WE
 have e0 : WE.cell? ⟨w.heap.size + 1, 0, none⟩ = some (.slice q1 r.path.length q3) := by rw [← hWE]; simp [go_sem, lz, z0, z1, z2, z3]
 have e1 : WE.cell? ⟨w.heap.size + 1, 1, none⟩ = some (.slice n1 r.over.length n3) := by rw [← hWE]; simp [go_sem, lz, z0, z1, z2, z3]
 have e2 : WE.cell? ⟨w.heap.size + 1, 2, none⟩ = some (.slice m1 MA.length m3) := by rw [← hWE]; simp [go_sem, lz, z0, z1, z2, z3]
 have e3 : WE.cell? ⟨w.heap.size + 1, 3, none⟩ = some (.int .i64 near) := by rw [← hWE]; simp [go_sem, lz, z0, z1, z2, z3]
 have KB : Hid (Below w.heap.size w WE) := by show Below _ _ _; rw [← hWE]; exact Below.setCell (Below.setCell (Below.setCell (Below.setCell (K1.out) (by simp) _) (by simp) _) (by simp) _) (by simp) _
 have M1 : Hid (IntOwn WE W0.heap.size (.slice q1 r.path.length q3) r.path) := by show IntOwn _ _ _ _; rw [← hWE]; exact own_setCell (own_setCell (own_setCell (own_setCell (HO1.out) hlt _) hlt _) hlt _) hlt _
 have M2 : Hid (IntOwn WE W0.heap.size (.slice n1 r.over.length n3) r.over) := by show IntOwn _ _ _ _; rw [← hWE]; exact own_setCell (own_setCell (own_setCell (own_setCell (HO2.out) hlt _) hlt _) hlt _) hlt _
 have M3 : Hid (AskOwn WE W0.heap.size (.slice m1 MA.length m3) MA) := by show AskOwn _ _ _ _; rw [← hWE]; exact own_setCell (own_setCell (own_setCell (own_setCell (HO3.out) hlt _) hlt _) hlt _) hlt _
 clear hWE
 refine bodyPost_ret (v := .agg #[.slice q1 r.path.length q3, .slice n1 r.over.length n3, .slice m1 MA.length m3, .int .i64 near]) (by simp [results, Tryz.f316, go_sem, e0, e1, e2, e3]) rfl ?_
 exact ⟨q1, q3, n1, n3, m1, m3, rfl, own_base M1.out K0.out.size, own_base M2.out K0.out.size, own_base M3.out K0.out.size, KB.out⟩
def heldR (r : Rt) (l : Lk) : List Int := if l.ph = 0 then [] else r.path.drop (min (max l.gone 0).toNat r.path.length) ++ r.over
theorem held_ref (p : Pl) (r : Rt) (l : Lk) : heldL (wyOf p r) l = heldR r l := rfl
theorem one_int (n : Int) : ∀ u ∈ [Value.int .i64 n], u.oneCell' = true := by simp [Value.oneCell']
theorem drop_min {l : List Int} {n : Nat} : l.drop (min n l.length) = l.drop n := by
 rcases Nat.le_total n l.length with h | h
 ·rw [Nat.min_eq_left h]
 ·rw [Nat.min_eq_right h, List.drop_eq_nil_of_le (Nat.le_refl _), List.drop_eq_nil_of_le h]
theorem take_drop_succ {l : List Int} {k G : Nat} (h : k < l.length) (hG : G ≤ k) : (l.take (k + 1)).drop G = (l.take k).drop G ++ [l[k]] := by
 rw [List.take_succ_eq_append_getElem h, List.drop_append_of_le_length (by rw [List.length_take]; omega)]
set_option maxRecDepth 100000 in
set_option maxHeartbeats 8000000 in
theorem refHeld (p : Pl) (s q gg rr : Value) (kk : Nat) (hkk : kk < p.rts.length) (l : Lk) (w : World) (hp : PlM w s q gg rr p) (hf : p.Fit) (hPM : PlanMay p) (x : Rw) (hx : rwEnd p p.rts[kk] = some x) :
  Calls Tryz.prog 221 #[plV p s q gg rr, .agg #[.int .i64 l.id, .int .u8 l.ph, .int .i64 l.gone, .int .i64 l.left], .int .i64 kk] w (OwnPost w (heldR p.rts[kk] l)) := by
 have HM : Hid (∀ W, Below w.heap.size w W → Calls Tryz.prog 316 #[plV p s q gg rr, .int .i64 kk] W (WayPost W p.rts[kk] (madeAsks p p.rts[kk] x) (sgOf p p.rts[kk].entry).sec)) := fun W hb => refWay p s q gg rr kk hkk W (hp.below hb) hf hPM x hx
 have hHd := (may_rt hPM hkk).1
 have hp6 := hHd.2.2.2.2.1
 have ho2 := hHd.2.2.2.2.2.1
 obtain ⟨a1, k1, rfl, -⟩ := hp.secs
 obtain ⟨a2, k2, rfl, -⟩ := hp.pts
 obtain ⟨a3, k3, rfl, -⟩ := hp.sigs
 obtain ⟨a4, k4, rfl, -⟩ := hp.rts
 clear hp hf hPM hx hHd
 generalize madeAsks p p.rts[kk] x = MA at *
 generalize (sgOf p p.rts[kk].entry).sec = near at *
 generalize p.rts[kk] = r at *
 unfold plV at *
 go_enter Tryz.func221, Tryz.ntmps221
 go_upto_region 1 with fail
 generalize hW0 : World.alloc _ _ = W0
 have K0 : Hid (Below w.heap.size w W0) := by show Below _ _ _; rw [← hW0]; exact ((Below.refl _ _).alloc (Nat.le_refl _) _).alloc (by simp) _
 have hx0 : W0.heap[w.heap.size]? = some (.cells #[.int .i64 p.ver, .int .i64 p.par, .slice a1 p.secs.length k1, .slice a2 p.pts.length k2, .slice a3 p.sigs.length k3, .slice a4 p.rts.length k4] 28 (0, 0)) := by rw [← hW0]; exact (heap_alloc_old _ _ (by simp)).trans (heap_alloc_new _ _)
 have HL0 : Hid (W0.heap[w.heap.size + 1]? = some (.cells #[.int .i64 l.id, .int .u8 l.ph, .int .i64 l.gone, .int .i64 l.left] 99 (0, 0))) := by show _ = _; rw [← hW0]; exact heap_alloc2_new _ _ _
 clear hW0
 obtain ⟨pp0, pp1, pp2, pp3, pp4, pp5⟩ := cells6 (hx0)
 have ll1 : W0.cell? ⟨w.heap.size + 1, 1, none⟩ = some (.int .u8 l.ph) := (cell_of_row W0 _ 1 _ _ _ (HL0.out)).trans rfl
 have lb := block_lt_of_cell pp0
 have lc := block_lt_of_cell ll1
 clear hx0
 by_cases hph : l.ph = 0
 ·have r1 : (l.ph == 0) = true := by simp [hph]
  have HE : Hid (heldR r l = []) := by show _ = _; unfold heldR; rw [if_pos hph]
  clear hph
  go_wp2_with fail
  go_ret
  refine ⟨none, 0, by rw [HE.out]; rfl, ?_, K0.out⟩
  rw [HE.out]
  exact intOwn_nil _ _
 ·have r1 : (l.ph == 0) = false := by simp [hph]
  have HE : Hid (heldR r l = r.path.drop (min (max l.gone 0).toNat r.path.length) ++ r.over) := by show _ = _; unfold heldR; rw [if_neg hph]
  clear hph
  generalize heldR r l = HH at *
  go_wp2_with fail
  refine (HM.out W0 K0.out).mono ?_
  rintro e W1 ⟨q1, q3, n1, n3, m1, m3, rfl, o1, o2, o3, hb1⟩
  go_upto_region 4 with fail
  generalize hW2 : World.alloc _ _ = W2
  have hb2 : Below W1.heap.size W1 W2 := by rw [← hW2]; exact (Below.refl _ _).alloc (Nat.le_refl _) _
  have hw2 : W2.heap[W1.heap.size]? = some (.cells #[.slice q1 r.path.length q3, .slice n1 r.over.length n3, .slice m1 MA.length m3, .int .i64 near] 184 (0, 0)) := by rw [← hW2]; exact heap_alloc_new _ _
  have K2 : Hid (Below w.heap.size w W2) := K0.out.trans ((hb1.trans (hb2.mono hb1.size)).mono K0.out.size)
  have HW2 := Lib.hid hw2
  have HP2 := Lib.hid (IntOwn.il (own_below o1 hb2))
  have HO2 := Lib.hid (IntOwn.il (own_below o2 hb2))
  have hl2 := ((hb1.trans (hb2.mono hb1.size)).block _ (lt_of_block HL0.out)).trans HL0.out
  clear o1 o2 o3 hb1 hb2 hW2 hw2 pp0 pp1 pp2 pp3 pp4 pp5 ll1 lb lc
  have ll2 : W2.cell? ⟨w.heap.size + 1, 2, none⟩ = some (.int .i64 l.gone) := (cell_of_row W2 _ 2 _ _ _ hl2).trans rfl
  have lc := block_lt_of_cell ll2
  clear hl2
  have HZ2 : Hid (w.heap.size ≤ W2.heap.size) := K2.out.size
  by_cases hg0 : 0 ≤ l.gone
  ·obtain ⟨G, hG⟩ : ∃ G : Nat, l.gone = (G : Int) := ⟨l.gone.toNat, by omega⟩
   have HG : Hid (HH = r.path.drop G ++ r.over) := by
    show _ = _
    rw [HE.out, drop_min]
    congr 2
    omega
   clear HE hg0
   rw [hG] at ll2
   go_wp2_with fail
   go_loopg [8, 9] (r.path.length - G) (fun g v i wr => ∃ (k : Nat) (b : Option Addr) (d : Nat), G ≤ k ∧ g = r.path.length - k ∧ v = .slice b ((r.path.take k).drop G).length d ∧ i = .int .i64 k ∧ Below W2.heap.size W2 wr ∧ IntOwn wr W2.heap.size (.slice b ((r.path.take k).drop G).length d) ((r.path.take k).drop G))
   case atStart =>
    have h0 : (r.path.take G).drop G = [] := List.drop_eq_nil_of_le (by rw [List.length_take]; omega)
    exact ⟨G, none, 0, by omega, rfl, by rw [h0]; rfl, rfl, Below.refl _ _, by rw [h0]; exact intOwn_nil _ _⟩
   case round =>
    obtain ⟨k, b, d, hGk, rfl, rfl, rfl, hb, ho⟩ := hrel
    have hrow := (hb.block _ (lt_of_block HW2.out)).trans HW2.out
    have e0 : wr.cell? ⟨W1.heap.size, 0, none⟩ = some (.slice q1 r.path.length q3) := (cell_of_row wr _ 0 _ _ _ hrow).trans rfl
    have e1 : wr.cell? ⟨W1.heap.size, 1, none⟩ = some (.slice n1 r.over.length n3) := (cell_of_row wr _ 1 _ _ _ hrow).trans rfl
    have le := block_lt_of_cell e0
    have HB := Lib.hid hb
    have HO := Lib.hid ho
    have hwr : W2.heap.size ≤ wr.heap.size := hb.size
    have HPr := Lib.hid (HP2.out.below hb)
    have HOr := Lib.hid (HO2.out.below hb)
    clear hb ho hrow
    have hfl : ((r.path.take k).drop G).length ≤ 1000 := by rw [List.length_drop, List.length_take]; omega
    by_cases hlt : k < r.path.length
    ·have hd : decide ((k : Int) < (r.path.length : Int)) = true := by simp; omega
     have hst := Lib.hid (take_drop_succ (G := G) hlt hGk)
     obtain ⟨g, off, rfl, x0⟩ := HPr.out.cell k hlt
     have c0 : (0 : Int) ≤ (k : Int) := by omega
     have c1 : (k : Int) < (r.path.length : Int) := by omega
     generalize (r.path.take k).drop G = FK at *
     have O1 : Hid (wr.ownsRow W2.heap.size 3 1 (.slice b FK.length d) FK.length (FK.map (.int .i64))) := HO
     clear HO
     go_wp2_with (at_builtin; refine wpList_append_one rfl _ _ 54 3 3 _ 1 8 rfl Tryz.underlying54 info3 rfl (by decide) (by decide) W2.heap.size (.slice b FK.length d) FK.length _ rfl O1.out hfl hwr [.int .i64 r.path[k]] rfl rfl (one_int _) ?_; intro b8 c8 w8 hown8 hgr8)
     have hB8 : RowKit.Below W2.heap.size W2 w8 := (HB.out.alloc hwr _).trans (grown_below (O1.out.alloc _) (Nat.le_refl _) (by simp; omega) hgr8)
     have ho8 : IntOwn w8 W2.heap.size (.slice (some ⟨b8, 0, none⟩) (FK.length + 1) c8) (FK ++ [r.path[k]]) := by
      show World.ownsRow _ _ _ _ _ _ _
      rw [List.length_append, List.map_append]
      exact hown8
     go_roundg (r.path.length - (k + 1))
     case measure => go_light; omega
     case rel => go_light; exact ⟨k + 1, some ⟨b8, 0, none⟩, c8, by omega, by omega, by rw [hst.out]; simp, by go_num, hB8, by rw [hst.out]; simpa using ho8⟩
    ·have hd : decide ((k : Int) < (r.path.length : Int)) = false := by simp; omega
     have hall : r.path.take k = r.path := List.take_of_length_le (by omega)
     rw [hall] at HO hfl ⊢
     have hl : (r.path.drop G).length + r.over.length ≤ 1000 := by rw [List.length_drop]; omega
     generalize r.path.drop G = FK at *
     go_wp2_with (at_builtin; refine wpList_append_ints rfl _ _ rfl W2.heap.size (.slice b FK.length d) FK rfl HO.out n1 n3 r.over rfl HOr.out hl hwr ?_; intro a4 c4 w4 hown4 hgr4)
     have HF := Lib.hid hown4
     have HFB := Lib.hid (HB.out.trans (grown_below HO.out (Nat.le_refl _) hwr hgr4))
     go_ret
     exact ⟨a4, c4, by rw [HG.out, List.length_append]; rfl, by rw [HG.out]; exact own_base HF.out HZ2.out, K2.out.trans (HFB.out.mono HZ2.out)⟩
  ·have hg1 : l.gone < 0 := by omega
   have HG : Hid (HH = r.path.drop 0 ++ r.over) := by
    show _ = _
    rw [HE.out, drop_min]
    congr 2
    omega
   clear HE
   go_wp2_with fail
   go_loopg [8, 9] (r.path.length - 0) (fun g v i wr => ∃ (k : Nat) (b : Option Addr) (d : Nat), 0 ≤ k ∧ g = r.path.length - k ∧ v = .slice b ((r.path.take k).drop 0).length d ∧ i = .int .i64 k ∧ Below W2.heap.size W2 wr ∧ IntOwn wr W2.heap.size (.slice b ((r.path.take k).drop 0).length d) ((r.path.take k).drop 0))
   case atStart =>
    have h0 : (r.path.take 0).drop 0 = [] := List.drop_eq_nil_of_le (by rw [List.length_take]; omega)
    exact ⟨0, none, 0, by omega, rfl, by rw [h0]; rfl, rfl, Below.refl _ _, by rw [h0]; exact intOwn_nil _ _⟩
   case round =>
    obtain ⟨k, b, d, hGk, rfl, rfl, rfl, hb, ho⟩ := hrel
    have hrow := (hb.block _ (lt_of_block HW2.out)).trans HW2.out
    have e0 : wr.cell? ⟨W1.heap.size, 0, none⟩ = some (.slice q1 r.path.length q3) := (cell_of_row wr _ 0 _ _ _ hrow).trans rfl
    have e1 : wr.cell? ⟨W1.heap.size, 1, none⟩ = some (.slice n1 r.over.length n3) := (cell_of_row wr _ 1 _ _ _ hrow).trans rfl
    have le := block_lt_of_cell e0
    have HB := Lib.hid hb
    have HO := Lib.hid ho
    have hwr : W2.heap.size ≤ wr.heap.size := hb.size
    have HPr := Lib.hid (HP2.out.below hb)
    have HOr := Lib.hid (HO2.out.below hb)
    clear hb ho hrow
    have hfl : ((r.path.take k).drop 0).length ≤ 1000 := by rw [List.length_drop, List.length_take]; omega
    by_cases hlt : k < r.path.length
    ·have hd : decide ((k : Int) < (r.path.length : Int)) = true := by simp; omega
     have hst := Lib.hid (take_drop_succ (G := 0) hlt hGk)
     obtain ⟨g, off, rfl, x0⟩ := HPr.out.cell k hlt
     have c0 : (0 : Int) ≤ (k : Int) := by omega
     have c1 : (k : Int) < (r.path.length : Int) := by omega
     generalize (r.path.take k).drop 0 = FK at *
     have O1 : Hid (wr.ownsRow W2.heap.size 3 1 (.slice b FK.length d) FK.length (FK.map (.int .i64))) := HO
     clear HO
     go_wp2_with (at_builtin; refine wpList_append_one rfl _ _ 54 3 3 _ 1 8 rfl Tryz.underlying54 info3 rfl (by decide) (by decide) W2.heap.size (.slice b FK.length d) FK.length _ rfl O1.out hfl hwr [.int .i64 r.path[k]] rfl rfl (one_int _) ?_; intro b8 c8 w8 hown8 hgr8)
     have hB8 : RowKit.Below W2.heap.size W2 w8 := (HB.out.alloc hwr _).trans (grown_below (O1.out.alloc _) (Nat.le_refl _) (by simp; omega) hgr8)
     have ho8 : IntOwn w8 W2.heap.size (.slice (some ⟨b8, 0, none⟩) (FK.length + 1) c8) (FK ++ [r.path[k]]) := by
      show World.ownsRow _ _ _ _ _ _ _
      rw [List.length_append, List.map_append]
      exact hown8
     go_roundg (r.path.length - (k + 1))
     case measure => go_light; omega
     case rel => go_light; exact ⟨k + 1, some ⟨b8, 0, none⟩, c8, by omega, by omega, by rw [hst.out]; simp, by go_num, hB8, by rw [hst.out]; simpa using ho8⟩
    ·have hd : decide ((k : Int) < (r.path.length : Int)) = false := by simp; omega
     have hall : r.path.take k = r.path := List.take_of_length_le (by omega)
     rw [hall] at HO hfl ⊢
     have hl : (r.path.drop 0).length + r.over.length ≤ 1000 := by rw [List.length_drop]; omega
     generalize r.path.drop 0 = FK at *
     go_wp2_with (at_builtin; refine wpList_append_ints rfl _ _ rfl W2.heap.size (.slice b FK.length d) FK rfl HO.out n1 n3 r.over rfl HOr.out hl hwr ?_; intro a4 c4 w4 hown4 hgr4)
     have HF := Lib.hid hown4
     have HFB := Lib.hid (HB.out.trans (grown_below HO.out (Nat.le_refl _) hwr hgr4))
     go_ret
     exact ⟨a4, c4, by rw [HG.out, List.length_append]; rfl, by rw [HG.out]; exact own_base HF.out HZ2.out, K2.out.trans (HFB.out.mono HZ2.out)⟩
end Go.Proofs.YtbiehpjhhopjaaaGreat
namespace Go.Proofs.YtbiehpjhhopjaaaGreat
open Go.RowKit Go.Sort
def keepP (n : Int) (a : Ask) : Bool := decide (a.pl < 0 ∨ n ≤ a.pl)
def asksRR (MA : List Ask) (l : Lk) : List Ask := if l.ph = 0 then [] else MA.filter (keepP l.gone)
theorem asks_ref (w : Wy) (l : Lk) : asksL w l = asksRR w.asks l := rfl
def AsksPost (w : World) (l : List Ask) (e : Ending) (w' : World) : Prop := ∃ a c, e = .returned (.slice a l.length c) ∧ AskOwn w' w.heap.size (.slice a l.length c) l ∧ Below w.heap.size w w'
theorem ask_cells (x : Ask) : ∀ u ∈ [Value.int .i64 x.pt, .int .i64 x.lie, .int .i64 x.pl], u.oneCell' = true := by simp [Value.oneCell']
theorem filter_take_t {α : Type} {pr : α → Bool} {l : List α} {k : Nat} (h : k < l.length) (hp : pr l[k] = true) : (l.take (k + 1)).filter pr = (l.take k).filter pr ++ [l[k]] := by
 rw [List.take_succ_eq_append_getElem h, List.filter_append, List.filter_cons_of_pos hp, List.filter_nil]
theorem filter_take_f {α : Type} {pr : α → Bool} {l : List α} {k : Nat} (h : k < l.length) (hp : pr l[k] = false) : (l.take (k + 1)).filter pr = (l.take k).filter pr := by
 rw [List.take_succ_eq_append_getElem h, List.filter_append, List.filter_cons_of_neg (by simp [hp]), List.filter_nil, List.append_nil]
theorem made_len {p : Pl} (hPM : PlanMay p) {k : Nat} (hk : k < p.rts.length) (x : Rw) : (madeAsks p p.rts[k] x).length ≤ 1000 := by
 have h := (may_rt hPM hk).1
 have h6 := h.2.2.2.2.1
 have h2 := h.2.2.2.2.2.1
 have h3 := h.2.2.2.2.2.2.1
 have := asksR_len p p.rts[k] x.ins x.outs (allOf p.rts[k]).length
 unfold madeAsks
 rw [List.length_append, List.length_map]
 have : (allOf p.rts[k]).length = p.rts[k].path.length + p.rts[k].over.length := List.length_append
 omega
set_option maxRecDepth 100000 in
set_option maxHeartbeats 8000000 in
theorem refAsks (p : Pl) (s q gg rr : Value) (kk : Nat) (hkk : kk < p.rts.length) (l : Lk) (w : World) (hp : PlM w s q gg rr p) (hf : p.Fit) (hPM : PlanMay p) (x : Rw) (hx : rwEnd p p.rts[kk] = some x) :
  Calls Tryz.prog 222 #[plV p s q gg rr, .agg #[.int .i64 l.id, .int .u8 l.ph, .int .i64 l.gone, .int .i64 l.left], .int .i64 kk] w (AsksPost w (asksRR (madeAsks p p.rts[kk] x) l)) := by
 have HM : Hid (∀ W, Below w.heap.size w W → Calls Tryz.prog 316 #[plV p s q gg rr, .int .i64 kk] W (WayPost W p.rts[kk] (madeAsks p p.rts[kk] x) (sgOf p p.rts[kk].entry).sec)) := fun W hb => refWay p s q gg rr kk hkk W (hp.below hb) hf hPM x hx
 have hma := made_len hPM hkk x
 obtain ⟨a1, k1, rfl, -⟩ := hp.secs
 obtain ⟨a2, k2, rfl, -⟩ := hp.pts
 obtain ⟨a3, k3, rfl, -⟩ := hp.sigs
 obtain ⟨a4, k4, rfl, -⟩ := hp.rts
 clear hp hf hPM hx
 generalize madeAsks p p.rts[kk] x = MA at *
 generalize (sgOf p p.rts[kk].entry).sec = near at *
 generalize p.rts[kk] = r at *
 unfold plV at *
 go_enter Tryz.func222, Tryz.ntmps222
 go_upto_region 1 with fail
 generalize hW0 : World.alloc _ _ = W0
 have K0 : Hid (Below w.heap.size w W0) := by show Below _ _ _; rw [← hW0]; exact ((Below.refl _ _).alloc (Nat.le_refl _) _).alloc (by simp) _
 have hx0 : W0.heap[w.heap.size]? = some (.cells #[.int .i64 p.ver, .int .i64 p.par, .slice a1 p.secs.length k1, .slice a2 p.pts.length k2, .slice a3 p.sigs.length k3, .slice a4 p.rts.length k4] 28 (0, 0)) := by rw [← hW0]; exact (heap_alloc_old _ _ (by simp)).trans (heap_alloc_new _ _)
 have HL0 : Hid (W0.heap[w.heap.size + 1]? = some (.cells #[.int .i64 l.id, .int .u8 l.ph, .int .i64 l.gone, .int .i64 l.left] 99 (0, 0))) := by show _ = _; rw [← hW0]; exact heap_alloc2_new _ _ _
 clear hW0
 obtain ⟨pp0, pp1, pp2, pp3, pp4, pp5⟩ := cells6 (hx0)
 have ll1 : W0.cell? ⟨w.heap.size + 1, 1, none⟩ = some (.int .u8 l.ph) := (cell_of_row W0 _ 1 _ _ _ (HL0.out)).trans rfl
 have lb := block_lt_of_cell pp0
 have lc := block_lt_of_cell ll1
 clear hx0
 by_cases hph : l.ph = 0
 ·have r1 : (l.ph == 0) = true := by simp [hph]
  have HE : Hid (asksRR MA l = []) := by show _ = _; unfold asksRR; rw [if_pos hph]
  clear hph
  go_wp2_with fail
  go_ret
  refine ⟨none, 0, by rw [HE.out]; rfl, ?_, K0.out⟩
  rw [HE.out]
  exact AskOwn.nil _ _
 ·have r1 : (l.ph == 0) = false := by simp [hph]
  have HE : Hid (asksRR MA l = MA.filter (keepP l.gone)) := by show _ = _; unfold asksRR; rw [if_neg hph]
  clear hph
  generalize asksRR MA l = HH at *
  go_wp2_with fail
  refine (HM.out W0 K0.out).mono ?_
  rintro e W1 ⟨q1, q3, n1, n3, m1, m3, rfl, o1, o2, o3, hb1⟩
  go_upto_region 4 with fail
  generalize hW2 : World.alloc _ _ = W2
  have hb2 : Below W1.heap.size W1 W2 := by rw [← hW2]; exact (Below.refl _ _).alloc (Nat.le_refl _) _
  have hw2 : W2.heap[W1.heap.size]? = some (.cells #[.slice q1 r.path.length q3, .slice n1 r.over.length n3, .slice m1 MA.length m3, .int .i64 near] 184 (0, 0)) := by rw [← hW2]; exact heap_alloc_new _ _
  have K2 : Hid (Below w.heap.size w W2) := K0.out.trans ((hb1.trans (hb2.mono hb1.size)).mono K0.out.size)
  have HW2 := Lib.hid hw2
  have HA2 : Hid (SlA W2 3 RAsk m1 m3 MA) := by
   obtain ⟨a', c', e', h'⟩ := AskOwn.sl (own_below o3 hb2)
   cases e'
   exact h'
  have HL2 := Lib.hid (((hb1.trans (hb2.mono hb1.size)).block _ (lt_of_block HL0.out)).trans HL0.out)
  clear o1 o2 o3 hb1 hb2 hW2 hw2 pp0 pp1 pp2 pp3 pp4 pp5 ll1 lb lc
  have HZ2 : Hid (w.heap.size ≤ W2.heap.size) := K2.out.size
  go_wp2_with fail
  go_loopg [8, 9] MA.length (fun g v i wr => ∃ (k : Nat) (b : Option Addr) (d : Nat), k ≤ MA.length ∧ g = MA.length - k ∧ v = .slice b ((MA.take k).filter (keepP l.gone)).length d ∧ i = .int .i64 k ∧ Below W2.heap.size W2 wr ∧ AskOwn wr W2.heap.size (.slice b ((MA.take k).filter (keepP l.gone)).length d) ((MA.take k).filter (keepP l.gone)))
  case atStart => exact ⟨0, none, 0, by omega, by omega, rfl, rfl, Below.refl _ _, AskOwn.nil _ _⟩
  case round =>
   obtain ⟨k, b, d, hk, rfl, rfl, rfl, hb, ho⟩ := hrel
   have hrow := (hb.block _ (lt_of_block HW2.out)).trans HW2.out
   have hrow2 := (hb.block _ (lt_of_block HL2.out)).trans HL2.out
   have e2 : wr.cell? ⟨W1.heap.size, 2, none⟩ = some (.slice m1 MA.length m3) := (cell_of_row wr _ 2 _ _ _ hrow).trans rfl
   have f2 : wr.cell? ⟨w.heap.size + 1, 2, none⟩ = some (.int .i64 l.gone) := (cell_of_row wr _ 2 _ _ _ hrow2).trans rfl
   have le := block_lt_of_cell e2
   have lf := block_lt_of_cell f2
   have HB := Lib.hid hb
   have HO := Lib.hid ho
   have hwr : W2.heap.size ≤ wr.heap.size := hb.size
   have HAr := Lib.hid (HA2.out.below keeps_ask hb)
   clear hb ho hrow hrow2
   have hfl : ((MA.take k).filter (keepP l.gone)).length ≤ 1000 := Nat.le_trans (List.length_filter_le _ _) (by rw [List.length_take]; omega)
   by_cases hlt : k < MA.length
   ·have hd : decide ((k : Int) < (MA.length : Int)) = true := by simp; omega
    obtain ⟨g, off, vs, rfl, hvl, hvc, hvr⟩ := HAr.out.at_ k hlt
    obtain rfl : vs = [.int .i64 MA[k].pt, .int .i64 MA[k].lie, .int .i64 MA[k].pl] := hvr
    have x0 : wr.cell? ⟨g, off + k * 3, none⟩ = some (.int .i64 MA[k].pt) := hvc 0 (by simp)
    have x1 : wr.cell? ⟨g, off + k * 3 + 1, none⟩ = some (.int .i64 MA[k].lie) := hvc 1 (by simp)
    have x2 : wr.cell? ⟨g, off + k * 3 + 2, none⟩ = some (.int .i64 MA[k].pl) := hvc 2 (by simp)
    have lx := block_lt_of_cell x0
    clear hvc hvl
    have c0 : (0 : Int) ≤ (k : Int) := by omega
    have c1 : (k : Int) < (MA.length : Int) := by omega
    obtain ⟨D, hD⟩ : ∃ D : Bool, D = keepP l.gone MA[k] := ⟨_, rfl⟩
    have HD := Lib.hid hD
    clear hD
    go_upto_region 8 with fail
    go_cut [40] from 23 to 40 (fun v wc => v = .bool D ∧ Below wr.heap.size wr wc)
    case first =>
     by_cases ha : MA[k].pl < 0
     ·have t1 : decide (MA[k].pl < 0) = true := by simp [ha]
      have HV : Hid (D = true) := by show _ = _; rw [HD.out]; unfold keepP; simp [ha]
      clear ha
      go_quiet (fail)
      go_wp2_with fail
      go_meet
      case rel => exact ⟨by rw [HV.out], below_drewN (Below.refl _ _) _⟩
     ·have t1 : decide (MA[k].pl < 0) = false := by simp [ha]
      by_cases hc : l.gone ≤ MA[k].pl
      ·have t2 : decide (l.gone ≤ MA[k].pl) = true := by simp [hc]
       have HV : Hid (D = true) := by show _ = _; rw [HD.out]; unfold keepP; simp [hc]
       clear ha
       go_quiet (fail)
       go_wp2_with fail
       go_meet
       case rel => exact ⟨by rw [HV.out], below_drewN (Below.refl _ _) _⟩
      ·have t2 : decide (l.gone ≤ MA[k].pl) = false := by simp [hc]
       have HV : Hid (D = false) := by show _ = _; rw [HD.out]; unfold keepP; simp [ha, hc]
       clear ha
       go_quiet (fail)
       go_wp2_with fail
       go_meet
       case rel => exact ⟨by rw [HV.out], below_drewN (Below.refl _ _) _⟩
    case rest =>
     obtain ⟨rfl, hbc⟩ := hcut
     have HBC := Lib.hid hbc
     have HB2 : Hid (Below W2.heap.size W2 wc) := HB.out.trans (hbc.mono hwr)
     have hwc : W2.heap.size ≤ wc.heap.size := HB2.out.size
     have HO2 : Hid (AskOwn wc W2.heap.size (.slice b ((MA.take k).filter (keepP l.gone)).length d) ((MA.take k).filter (keepP l.gone))) := own_below HO.out hbc
     have e2' := (hbc.cell (block_lt_of_cell e2)).trans e2
     have x0' := (hbc.cell (block_lt_of_cell x0)).trans x0
     have x1' := (hbc.cell (block_lt_of_cell x1)).trans x1
     have x2' := (hbc.cell (block_lt_of_cell x2)).trans x2
     have le' := block_lt_of_cell e2'
     have lx' := block_lt_of_cell x0'
     clear e2 f2 x0 x1 x2 le lf lx hbc HO HB HAr hwr
     cases D with
     | true =>
      have hst := Lib.hid (filter_take_t (pr := keepP l.gone) hlt HD.out.symm)
      generalize (MA.take k).filter (keepP l.gone) = FK at *
      have O1 : Hid (wc.ownsRow W2.heap.size 281 3 (.slice b FK.length d) FK.length (FK.flatMap askC)) := HO2
      clear HO2
      go_wp2_with (at_builtin; refine wpList_append_one rfl _ _ 182 281 281 _ 3 24 rfl Tryz.underlying182 info281 rfl (by decide) (by decide) W2.heap.size (.slice b FK.length d) FK.length _ rfl O1.out hfl hwc [.int .i64 MA[k].pt, .int .i64 MA[k].lie, .int .i64 MA[k].pl] rfl rfl (ask_cells _) ?_; intro b8 c8 w8 hown8 hgr8)
      have hB8 : RowKit.Below W2.heap.size W2 w8 := (HB2.out.alloc hwc _).trans (grown_below (O1.out.alloc _) (Nat.le_refl _) (by simp; omega) hgr8)
      have ho8 : AskOwn w8 W2.heap.size (.slice (some ⟨b8, 0, none⟩) (FK.length + 1) c8) (FK ++ [MA[k]]) := by
       show World.ownsRow _ _ _ _ _ _ _
       rw [List.length_append, List.flatMap_append]
       exact hown8
      go_roundg (MA.length - (k + 1))
      case measure => go_light; omega
      case rel => go_light; exact ⟨k + 1, some ⟨b8, 0, none⟩, c8, by omega, by omega, by rw [hst.out]; simp, by go_num, hB8, by rw [hst.out]; simpa using ho8⟩
     | false =>
      have hst := Lib.hid (filter_take_f (pr := keepP l.gone) hlt HD.out.symm)
      generalize (MA.take k).filter (keepP l.gone) = FK at *
      go_wp2_with fail
      go_roundg (MA.length - (k + 1))
      case measure => go_light; omega
      case rel => go_light; exact ⟨k + 1, b, d, by omega, by omega, by rw [hst.out], by go_num, HB2.out, by rw [hst.out]; exact HO2.out⟩
   ·obtain rfl : k = MA.length := by omega
    have hd : decide ((MA.length : Int) < (MA.length : Int)) = false := by simp
    rw [List.take_length] at HO hfl ⊢
    go_wp2_with fail
    go_ret
    exact ⟨b, d, by rw [HE.out]; rfl, by rw [HE.out]; exact own_base HO.out HZ2.out, K2.out.trans (HB.out.mono HZ2.out)⟩
end Go.Proofs.YtbiehpjhhopjaaaGreat
