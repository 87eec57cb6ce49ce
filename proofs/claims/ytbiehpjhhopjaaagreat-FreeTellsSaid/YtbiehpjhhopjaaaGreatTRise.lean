/-
 plan.rise, walked at points, signals and routes.
 plan.ends, plan.there, walked.
-/
import Derived.Test.YtbiehpjhhopjaaaGreatTTrackC
import Derived.Test.YtbiehpjhhopjaaaGreatTData
import Derived.Test.YtbiehpjhhopjaaaGreatTTrackD
import Derived.Laws.Rows
set_option linter.unusedVariables false
namespace Go.Proofs.YtbiehpjhhopjaaaGreat
open Go.RowKit Go.Sort
theorem rise_step {α : Type} {f : α → Int} {l : List α} {k : Nat} (h : k < l.length) (hA : RiseTo f l k) (h1 : 1 ≤ f l[k] ∧ f l[k] ≤ 99) (h2 : ∀ h' : 0 < k, f l[k - 1] < f l[k]) : RiseTo f l (k + 1) := by
 intro i hi hik
 by_cases e : i = k
 ·subst e; exact ⟨h1, h2⟩
 ·exact hA i hi (by omega)
theorem rise_no {α : Type} {f : α → Int} {l : List α} {k : Nat} (h : k < l.length) (hb : ¬ ((1 ≤ f l[k] ∧ f l[k] ≤ 99) ∧ ∀ h' : 0 < k, f l[k - 1] < f l[k])) : ¬ RiseTo f l l.length := fun hA => hb (hA k h h)
set_option maxRecDepth 100000 in
set_option maxHeartbeats 2000000 in
theorem risePt (a : Option Addr) (cap : Nat) (l : List Pt) (most : Int) (w : World) (hl : SlA w 2 RPt a cap l) (hm : l.length ≤ 1000) :
  Calls Tryz.prog 376 #[.slice a l.length cap, .int .i64 most] w (BoolPost w (decide (RiseTo Pt.id l l.length ∧ (l.length : Int) ≤ most))) := by
 have HL : Hid (∀ w', Below w.heap.size w w' → SlA w' 2 RPt a cap l) := fun w' hb => hl.below keeps_pt hb
 clear hl
 have HN : Hid (¬ RiseTo Pt.id l l.length → decide (RiseTo Pt.id l l.length ∧ (l.length : Int) ≤ most) = false) := fun h => decide_eq_false fun h' => h h'.1
 have HY : Hid (RiseTo Pt.id l l.length → decide (RiseTo Pt.id l l.length ∧ (l.length : Int) ≤ most) = decide ((l.length : Int) ≤ most)) := fun h => by simp [h]
 generalize decide (RiseTo Pt.id l l.length ∧ (l.length : Int) ≤ most) = B at *
 go_enter Tryz.func376, Tryz.ntmps376
 go_wp2_with fail
 go_loopg [10] l.length (fun g i wr => ∃ k : Nat, k ≤ l.length ∧ g = l.length - k ∧ i = .int .i64 k ∧ Below w.heap.size w wr ∧ RiseTo Pt.id l k)
 case atStart => exact ⟨0, by omega, by omega, rfl, Below.refl _ _, fun i h h0 => by omega⟩
 case round =>
  obtain ⟨k, hk, rfl, rfl, hb, hA⟩ := hrel
  obtain ⟨wo, rfl⟩ : ∃ wo : World, wo = wr := ⟨_, rfl⟩
  have HB := Lib.hid hb
  have HA := Lib.hid hA
  clear hb hA
  by_cases hlt : k < l.length
  ·have hdk : decide ((k : Int) < (l.length : Int)) = true := by simp; omega
   have HBAD : Hid (¬ ((1 ≤ l[k].id ∧ l[k].id ≤ 99) ∧ ∀ h' : 0 < k, l[k - 1].id < l[k].id) → B = false) := fun h => HN.out (rise_no hlt h)
   have HOK : Hid ((1 ≤ l[k].id ∧ l[k].id ≤ 99) → (∀ h' : 0 < k, l[k - 1].id < l[k].id) → RiseTo Pt.id l (k + 1)) := fun h1 h2 => rise_step hlt HA.out h1 h2
   have HPREV : Hid (∀ h' : 0 < k, ∃ hk1 : k - 1 < l.length, ∀ w', Below w.heap.size w w' → ∃ b off, a = some ⟨b, off, none⟩ ∧ w'.cell? ⟨b, off + (k - 1) * 2, none⟩ = some (.int .i64 l[k - 1].id) ∧ w'.cell? ⟨b, off + (k - 1) * 2 + 1, none⟩ = some (.int .i64 l[k - 1].sec)) := fun h' => ⟨by omega, fun w' hb => by
    exact (HL.out _ hb).pt (by omega)⟩
   obtain ⟨b, off, rfl, x0, x1⟩ := (HL.out _ HB.out).pt hlt
   have c0 : (0 : Int) ≤ (k : Int) := by omega
   have c1 : (k : Int) < (l.length : Int) := by omega
   have l1 := World.block_lt_of_cell? _ _ x0
   have HID : Hid (∀ W, Calls Tryz.prog 413 #[.agg #[.int .i64 l[k].id, .int .i64 l[k].sec]] W fun e w' => e = .returned (.int .i64 l[k].id) ∧ Below W.heap.size W w') := fun W => ptId_any _ _ W
   generalize l[k].id = ki at *
   by_cases q1 : ki < 1
   ·have s1 : decide (ki < 1) = true := by simpa using q1
    have HE := Lib.hid (HBAD.out (fun h => by omega))
    go_wp2_with fail
    refine (HID.out _).mono ?_
    rintro e0 w1 ⟨rfl, hb1⟩
    have K1 : Hid (Below w.heap.size w w1) := (HB.out.alloc HB.out.size _).trans (hb1.mono (by have := HB.out.size; simp; omega))
    clear hb1 HID
    go_wp2_with fail
    go_ret
    exact ⟨rbool HE.out.symm, K1.out⟩
   ·have s1 : decide (ki < 1) = false := by simp; omega
    by_cases q2 : 99 < ki
    ·have s2 : decide (99 < ki) = true := by simpa using q2
     have HE := Lib.hid (HBAD.out (fun h => by omega))
     go_wp2_with fail
     refine (HID.out _).mono ?_
     rintro e0 w1 ⟨rfl, hb1⟩
     have K1 : Hid (Below w.heap.size w w1) := (HB.out.alloc HB.out.size _).trans (hb1.mono (by have := HB.out.size; simp; omega))
     clear hb1 HID
     go_wp2_with fail
     go_ret
     exact ⟨rbool HE.out.symm, K1.out⟩
    ·have s2 : decide (99 < ki) = false := by simp; omega
     rcases Nat.eq_zero_or_pos k with hk0 | hk0
     ·have t0 : decide ((0 : Int) < (k : Int)) = false := by simp; omega
      have t0' : decide (0 < k) = false := by simp; omega
      have HO := Lib.hid (HOK.out ⟨by omega, by omega⟩ (fun h' => by omega))
      clear hk0
      go_wp2_with fail
      refine (HID.out _).mono ?_
      rintro e0 w1 ⟨rfl, hb1⟩
      have K1 : Hid (Below w.heap.size w w1) := (HB.out.alloc HB.out.size _).trans (hb1.mono (by have := HB.out.size; simp; omega))
      clear hb1 HID
      go_wp2_with fail
      go_roundg (l.length - (k + 1))
      case measure => go_light; omega
      case rel => go_light; exact ⟨k + 1, by omega, by omega, by go_num, K1.out, HO.out⟩
     ·obtain ⟨hk1, hpv⟩ := HPREV.out hk0
      have HPV := Lib.hid hpv
      have t0 : decide ((0 : Int) < (k : Int)) = true := by simp; omega
      have i0 : (0 : Int) ≤ (k : Int) - 1 := by omega
      have i1 : (k : Int) - 1 < (l.length : Int) := by omega
      have i2 : ((k : Int) - 1).toNat = k - 1 := by omega
      clear hpv
      go_wp2_with fail
      refine (HID.out _).mono ?_
      rintro e0 w1 ⟨rfl, hb1⟩
      have K1 : Hid (Below w.heap.size w w1) := (HB.out.alloc HB.out.size _).trans (hb1.mono (by have := HB.out.size; simp; omega))
      obtain ⟨b2, off2, e2, y0, y1⟩ := HPV.out w1 K1.out
      cases e2
      have HID2 : Hid (∀ W, Calls Tryz.prog 413 #[.agg #[.int .i64 l[k - 1].id, .int .i64 l[k - 1].sec]] W fun e w' => e = .returned (.int .i64 l[k - 1].id) ∧ Below W.heap.size W w') := fun W => ptId_any _ _ W
      clear hb1 HID
      by_cases q3 : ki ≤ l[k - 1].id
      ·have s3 : decide (ki ≤ l[k - 1].id) = true := by simpa using q3
       have HE := Lib.hid (HBAD.out (fun h => by have := h.2 hk0; omega))
       go_wp2_with fail
       refine (HID2.out _).mono ?_
       rintro e1 w2 ⟨rfl, hb2⟩
       have K2 : Hid (Below w.heap.size w w2) := K1.out.trans (hb2.mono K1.out.size)
       clear hb2 HID2
       go_wp2_with fail
       go_ret
       exact ⟨rbool HE.out.symm, K2.out⟩
      ·have s3 : decide (ki ≤ l[k - 1].id) = false := by simp; omega
       have HO := Lib.hid (HOK.out ⟨by omega, by omega⟩ (fun h' => by omega))
       go_wp2_with fail
       refine (HID2.out _).mono ?_
       rintro e1 w2 ⟨rfl, hb2⟩
       have K2 : Hid (Below w.heap.size w w2) := K1.out.trans (hb2.mono K1.out.size)
       clear hb2 HID2
       go_wp2_with fail
       go_roundg (l.length - (k + 1))
       case measure => go_light; omega
       case rel => go_light; exact ⟨k + 1, by omega, by omega, by go_num, K2.out, HO.out⟩
  ·obtain rfl : k = l.length := by omega
   have hdk : decide ((l.length : Int) < (l.length : Int)) = false := by simp
   have HE := Lib.hid (HY.out HA.out)
   go_wp2_with fail
   go_ret
   exact ⟨rbool HE.out.symm, HB.out⟩
set_option maxRecDepth 100000 in
set_option maxHeartbeats 2000000 in
theorem riseSg (a : Option Addr) (cap : Nat) (l : List Sg) (most : Int) (w : World) (hl : SlA w 3 RSg a cap l) (hm : l.length ≤ 1000) :
  Calls Tryz.prog 378 #[.slice a l.length cap, .int .i64 most] w (BoolPost w (decide (RiseTo Sg.id l l.length ∧ (l.length : Int) ≤ most))) := by
 have HL : Hid (∀ w', Below w.heap.size w w' → SlA w' 3 RSg a cap l) := fun w' hb => hl.below keeps_sg hb
 clear hl
 have HN : Hid (¬ RiseTo Sg.id l l.length → decide (RiseTo Sg.id l l.length ∧ (l.length : Int) ≤ most) = false) := fun h => decide_eq_false fun h' => h h'.1
 have HY : Hid (RiseTo Sg.id l l.length → decide (RiseTo Sg.id l l.length ∧ (l.length : Int) ≤ most) = decide ((l.length : Int) ≤ most)) := fun h => by simp [h]
 generalize decide (RiseTo Sg.id l l.length ∧ (l.length : Int) ≤ most) = B at *
 go_enter Tryz.func378, Tryz.ntmps378
 go_wp2_with fail
 go_loopg [10] l.length (fun g i wr => ∃ k : Nat, k ≤ l.length ∧ g = l.length - k ∧ i = .int .i64 k ∧ Below w.heap.size w wr ∧ RiseTo Sg.id l k)
 case atStart => exact ⟨0, by omega, by omega, rfl, Below.refl _ _, fun i h h0 => by omega⟩
 case round =>
  obtain ⟨k, hk, rfl, rfl, hb, hA⟩ := hrel
  obtain ⟨wo, rfl⟩ : ∃ wo : World, wo = wr := ⟨_, rfl⟩
  have HB := Lib.hid hb
  have HA := Lib.hid hA
  clear hb hA
  by_cases hlt : k < l.length
  ·have hdk : decide ((k : Int) < (l.length : Int)) = true := by simp; omega
   have HBAD : Hid (¬ ((1 ≤ l[k].id ∧ l[k].id ≤ 99) ∧ ∀ h' : 0 < k, l[k - 1].id < l[k].id) → B = false) := fun h => HN.out (rise_no hlt h)
   have HOK : Hid ((1 ≤ l[k].id ∧ l[k].id ≤ 99) → (∀ h' : 0 < k, l[k - 1].id < l[k].id) → RiseTo Sg.id l (k + 1)) := fun h1 h2 => rise_step hlt HA.out h1 h2
   have HPREV : Hid (∀ h' : 0 < k, ∃ hk1 : k - 1 < l.length, ∀ w', Below w.heap.size w w' → ∃ b off, a = some ⟨b, off, none⟩ ∧ w'.cell? ⟨b, off + (k - 1) * 3, none⟩ = some (.int .i64 l[k - 1].id) ∧ w'.cell? ⟨b, off + (k - 1) * 3 + 1, none⟩ = some (.int .i64 l[k - 1].sec) ∧ w'.cell? ⟨b, off + (k - 1) * 3 + 2, none⟩ = some (.int .i64 l[k - 1].en)) := fun h' => ⟨by omega, fun w' hb => by
    exact (HL.out _ hb).sg (by omega)⟩
   obtain ⟨b, off, rfl, x0, x1, x2⟩ := (HL.out _ HB.out).sg hlt
   have c0 : (0 : Int) ≤ (k : Int) := by omega
   have c1 : (k : Int) < (l.length : Int) := by omega
   have l1 := World.block_lt_of_cell? _ _ x0
   have HID : Hid (∀ W, Calls Tryz.prog 414 #[.agg #[.int .i64 l[k].id, .int .i64 l[k].sec, .int .i64 l[k].en]] W fun e w' => e = .returned (.int .i64 l[k].id) ∧ Below W.heap.size W w') := fun W => sgId_any _ _ _ W
   generalize l[k].id = ki at *
   by_cases q1 : ki < 1
   ·have s1 : decide (ki < 1) = true := by simpa using q1
    have HE := Lib.hid (HBAD.out (fun h => by omega))
    go_wp2_with fail
    refine (HID.out _).mono ?_
    rintro e0 w1 ⟨rfl, hb1⟩
    have K1 : Hid (Below w.heap.size w w1) := (HB.out.alloc HB.out.size _).trans (hb1.mono (by have := HB.out.size; simp; omega))
    clear hb1 HID
    go_wp2_with fail
    go_ret
    exact ⟨rbool HE.out.symm, K1.out⟩
   ·have s1 : decide (ki < 1) = false := by simp; omega
    by_cases q2 : 99 < ki
    ·have s2 : decide (99 < ki) = true := by simpa using q2
     have HE := Lib.hid (HBAD.out (fun h => by omega))
     go_wp2_with fail
     refine (HID.out _).mono ?_
     rintro e0 w1 ⟨rfl, hb1⟩
     have K1 : Hid (Below w.heap.size w w1) := (HB.out.alloc HB.out.size _).trans (hb1.mono (by have := HB.out.size; simp; omega))
     clear hb1 HID
     go_wp2_with fail
     go_ret
     exact ⟨rbool HE.out.symm, K1.out⟩
    ·have s2 : decide (99 < ki) = false := by simp; omega
     rcases Nat.eq_zero_or_pos k with hk0 | hk0
     ·have t0 : decide ((0 : Int) < (k : Int)) = false := by simp; omega
      have t0' : decide (0 < k) = false := by simp; omega
      have HO := Lib.hid (HOK.out ⟨by omega, by omega⟩ (fun h' => by omega))
      clear hk0
      go_wp2_with fail
      refine (HID.out _).mono ?_
      rintro e0 w1 ⟨rfl, hb1⟩
      have K1 : Hid (Below w.heap.size w w1) := (HB.out.alloc HB.out.size _).trans (hb1.mono (by have := HB.out.size; simp; omega))
      clear hb1 HID
      go_wp2_with fail
      go_roundg (l.length - (k + 1))
      case measure => go_light; omega
      case rel => go_light; exact ⟨k + 1, by omega, by omega, by go_num, K1.out, HO.out⟩
     ·obtain ⟨hk1, hpv⟩ := HPREV.out hk0
      have HPV := Lib.hid hpv
      have t0 : decide ((0 : Int) < (k : Int)) = true := by simp; omega
      have i0 : (0 : Int) ≤ (k : Int) - 1 := by omega
      have i1 : (k : Int) - 1 < (l.length : Int) := by omega
      have i2 : ((k : Int) - 1).toNat = k - 1 := by omega
      clear hpv
      go_wp2_with fail
      refine (HID.out _).mono ?_
      rintro e0 w1 ⟨rfl, hb1⟩
      have K1 : Hid (Below w.heap.size w w1) := (HB.out.alloc HB.out.size _).trans (hb1.mono (by have := HB.out.size; simp; omega))
      obtain ⟨b2, off2, e2, y0, y1, y2⟩ := HPV.out w1 K1.out
      cases e2
      have HID2 : Hid (∀ W, Calls Tryz.prog 414 #[.agg #[.int .i64 l[k - 1].id, .int .i64 l[k - 1].sec, .int .i64 l[k - 1].en]] W fun e w' => e = .returned (.int .i64 l[k - 1].id) ∧ Below W.heap.size W w') := fun W => sgId_any _ _ _ W
      clear hb1 HID
      by_cases q3 : ki ≤ l[k - 1].id
      ·have s3 : decide (ki ≤ l[k - 1].id) = true := by simpa using q3
       have HE := Lib.hid (HBAD.out (fun h => by have := h.2 hk0; omega))
       go_wp2_with fail
       refine (HID2.out _).mono ?_
       rintro e1 w2 ⟨rfl, hb2⟩
       have K2 : Hid (Below w.heap.size w w2) := K1.out.trans (hb2.mono K1.out.size)
       clear hb2 HID2
       go_wp2_with fail
       go_ret
       exact ⟨rbool HE.out.symm, K2.out⟩
      ·have s3 : decide (ki ≤ l[k - 1].id) = false := by simp; omega
       have HO := Lib.hid (HOK.out ⟨by omega, by omega⟩ (fun h' => by omega))
       go_wp2_with fail
       refine (HID2.out _).mono ?_
       rintro e1 w2 ⟨rfl, hb2⟩
       have K2 : Hid (Below w.heap.size w w2) := K1.out.trans (hb2.mono K1.out.size)
       clear hb2 HID2
       go_wp2_with fail
       go_roundg (l.length - (k + 1))
       case measure => go_light; omega
       case rel => go_light; exact ⟨k + 1, by omega, by omega, by go_num, K2.out, HO.out⟩
  ·obtain rfl : k = l.length := by omega
   have hdk : decide ((l.length : Int) < (l.length : Int)) = false := by simp
   have HE := Lib.hid (HY.out HA.out)
   go_wp2_with fail
   go_ret
   exact ⟨rbool HE.out.symm, HB.out⟩
set_option maxRecDepth 100000 in
set_option maxHeartbeats 2000000 in
theorem riseRt (a : Option Addr) (cap : Nat) (l : List Rt) (most : Int) (w : World) (hl : SlA w 7 RRt a cap l) (hm : l.length ≤ 1000) :
  Calls Tryz.prog 299 #[.slice a l.length cap, .int .i64 most] w (BoolPost w (decide (RiseTo Rt.id l l.length ∧ (l.length : Int) ≤ most))) := by
 have HL : Hid (∀ w', Below w.heap.size w w' → SlA w' 7 RRt a cap l) := fun w' hb => hl.below keeps_rt hb
 clear hl
 have HN : Hid (¬ RiseTo Rt.id l l.length → decide (RiseTo Rt.id l l.length ∧ (l.length : Int) ≤ most) = false) := fun h => decide_eq_false fun h' => h h'.1
 have HY : Hid (RiseTo Rt.id l l.length → decide (RiseTo Rt.id l l.length ∧ (l.length : Int) ≤ most) = decide ((l.length : Int) ≤ most)) := fun h => by simp [h]
 generalize decide (RiseTo Rt.id l l.length ∧ (l.length : Int) ≤ most) = B at *
 go_enter Tryz.func299, Tryz.ntmps299
 go_wp2_with fail
 go_loopg [10] l.length (fun g i wr => ∃ k : Nat, k ≤ l.length ∧ g = l.length - k ∧ i = .int .i64 k ∧ Below w.heap.size w wr ∧ RiseTo Rt.id l k)
 case atStart => exact ⟨0, by omega, by omega, rfl, Below.refl _ _, fun i h h0 => by omega⟩
 case round =>
  obtain ⟨k, hk, rfl, rfl, hb, hA⟩ := hrel
  obtain ⟨wo, rfl⟩ : ∃ wo : World, wo = wr := ⟨_, rfl⟩
  have HB := Lib.hid hb
  have HA := Lib.hid hA
  clear hb hA
  by_cases hlt : k < l.length
  ·have hdk : decide ((k : Int) < (l.length : Int)) = true := by simp; omega
   have HBAD : Hid (¬ ((1 ≤ l[k].id ∧ l[k].id ≤ 99) ∧ ∀ h' : 0 < k, l[k - 1].id < l[k].id) → B = false) := fun h => HN.out (rise_no hlt h)
   have HOK : Hid ((1 ≤ l[k].id ∧ l[k].id ≤ 99) → (∀ h' : 0 < k, l[k - 1].id < l[k].id) → RiseTo Rt.id l (k + 1)) := fun h1 h2 => rise_step hlt HA.out h1 h2
   have HPREV : Hid (∀ h' : 0 < k, ∃ hk1 : k - 1 < l.length, ∀ w', Below w.heap.size w w' → ∃ b off p1 p2 p3 o1 o2 o3 f1 f3, a = some ⟨b, off, none⟩ ∧ w'.cell? ⟨b, off + (k - 1) * 7, none⟩ = some (.int .i64 l[k - 1].id) ∧ w'.cell? ⟨b, off + (k - 1) * 7 + 1, none⟩ = some (.int .i64 l[k - 1].entry) ∧ w'.cell? ⟨b, off + (k - 1) * 7 + 2, none⟩ = some (.int .i64 l[k - 1].exit) ∧ w'.cell? ⟨b, off + (k - 1) * 7 + 3, none⟩ = some (.slice p1 p2 p3) ∧ w'.cell? ⟨b, off + (k - 1) * 7 + 4, none⟩ = some (.slice o1 o2 o3) ∧ w'.cell? ⟨b, off + (k - 1) * 7 + 5, none⟩ = some (.slice f1 l[k - 1].fl.length f3) ∧ w'.cell? ⟨b, off + (k - 1) * 7 + 6, none⟩ = some (.int .i64 l[k - 1].timer)) := fun h' => ⟨by omega, fun w' hb => by
    obtain ⟨b, off, pv, ov, fv, e, x0, x1, x2, x3, x4, x5, x6, ⟨p1, p2, p3, rfl, -⟩, ⟨o1, o2, o3, rfl, -⟩, ⟨f1, f3, rfl, -⟩⟩ := (HL.out _ hb).rt (show k - 1 < l.length by omega)
    exact ⟨b, off, p1, p2, p3, o1, o2, o3, f1, f3, e, x0, x1, x2, x3, x4, x5, x6⟩⟩
   obtain ⟨b, off, pv, ov, fv, rfl, x0, x1, x2, x3, x4, x5, x6, hrt⟩ := (HL.out _ HB.out).rt hlt
   obtain ⟨⟨p1, p2, p3, rfl, -⟩, ⟨o1, o2, o3, rfl, -⟩, ⟨f1, f3, rfl, -⟩⟩ := hrt
   have c0 : (0 : Int) ≤ (k : Int) := by omega
   have c1 : (k : Int) < (l.length : Int) := by omega
   have l1 := World.block_lt_of_cell? _ _ x0
   have HID : Hid (∀ W, Calls Tryz.prog 372 #[.agg #[.int .i64 l[k].id, .int .i64 l[k].entry, .int .i64 l[k].exit, .slice p1 p2 p3, .slice o1 o2 o3, .slice f1 l[k].fl.length f3, .int .i64 l[k].timer]] W fun e w' => e = .returned (.int .i64 l[k].id) ∧ Below W.heap.size W w') := fun W => rtId_any _ _ _ _ _ _ _ _ _ _ _ _ _ W
   generalize l[k].id = ki at *
   by_cases q1 : ki < 1
   ·have s1 : decide (ki < 1) = true := by simpa using q1
    have HE := Lib.hid (HBAD.out (fun h => by omega))
    go_wp2_with fail
    refine (HID.out _).mono ?_
    rintro e0 w1 ⟨rfl, hb1⟩
    have K1 : Hid (Below w.heap.size w w1) := (HB.out.alloc HB.out.size _).trans (hb1.mono (by have := HB.out.size; simp; omega))
    clear hb1 HID
    go_wp2_with fail
    go_ret
    exact ⟨rbool HE.out.symm, K1.out⟩
   ·have s1 : decide (ki < 1) = false := by simp; omega
    by_cases q2 : 99 < ki
    ·have s2 : decide (99 < ki) = true := by simpa using q2
     have HE := Lib.hid (HBAD.out (fun h => by omega))
     go_wp2_with fail
     refine (HID.out _).mono ?_
     rintro e0 w1 ⟨rfl, hb1⟩
     have K1 : Hid (Below w.heap.size w w1) := (HB.out.alloc HB.out.size _).trans (hb1.mono (by have := HB.out.size; simp; omega))
     clear hb1 HID
     go_wp2_with fail
     go_ret
     exact ⟨rbool HE.out.symm, K1.out⟩
    ·have s2 : decide (99 < ki) = false := by simp; omega
     rcases Nat.eq_zero_or_pos k with hk0 | hk0
     ·have t0 : decide ((0 : Int) < (k : Int)) = false := by simp; omega
      have t0' : decide (0 < k) = false := by simp; omega
      have HO := Lib.hid (HOK.out ⟨by omega, by omega⟩ (fun h' => by omega))
      clear hk0
      go_wp2_with fail
      refine (HID.out _).mono ?_
      rintro e0 w1 ⟨rfl, hb1⟩
      have K1 : Hid (Below w.heap.size w w1) := (HB.out.alloc HB.out.size _).trans (hb1.mono (by have := HB.out.size; simp; omega))
      clear hb1 HID
      go_wp2_with fail
      go_roundg (l.length - (k + 1))
      case measure => go_light; omega
      case rel => go_light; exact ⟨k + 1, by omega, by omega, by go_num, K1.out, HO.out⟩
     ·obtain ⟨hk1, hpv⟩ := HPREV.out hk0
      have HPV := Lib.hid hpv
      have t0 : decide ((0 : Int) < (k : Int)) = true := by simp; omega
      have i0 : (0 : Int) ≤ (k : Int) - 1 := by omega
      have i1 : (k : Int) - 1 < (l.length : Int) := by omega
      have i2 : ((k : Int) - 1).toNat = k - 1 := by omega
      clear hpv
      go_wp2_with fail
      refine (HID.out _).mono ?_
      rintro e0 w1 ⟨rfl, hb1⟩
      have K1 : Hid (Below w.heap.size w w1) := (HB.out.alloc HB.out.size _).trans (hb1.mono (by have := HB.out.size; simp; omega))
      obtain ⟨b2, off2, q1, q2, q3, r1, r2, r3, g1, g3, e2, y0, y1, y2, y3, y4, y5, y6⟩ := HPV.out w1 K1.out
      cases e2
      have HID2 : Hid (∀ W, Calls Tryz.prog 372 #[.agg #[.int .i64 l[k - 1].id, .int .i64 l[k - 1].entry, .int .i64 l[k - 1].exit, .slice q1 q2 q3, .slice r1 r2 r3, .slice g1 l[k - 1].fl.length g3, .int .i64 l[k - 1].timer]] W fun e w' => e = .returned (.int .i64 l[k - 1].id) ∧ Below W.heap.size W w') := fun W => rtId_any _ _ _ _ _ _ _ _ _ _ _ _ _ W
      clear hb1 HID
      by_cases q3 : ki ≤ l[k - 1].id
      ·have s3 : decide (ki ≤ l[k - 1].id) = true := by simpa using q3
       have HE := Lib.hid (HBAD.out (fun h => by have := h.2 hk0; omega))
       go_wp2_with fail
       refine (HID2.out _).mono ?_
       rintro e1 w2 ⟨rfl, hb2⟩
       have K2 : Hid (Below w.heap.size w w2) := K1.out.trans (hb2.mono K1.out.size)
       clear hb2 HID2
       go_wp2_with fail
       go_ret
       exact ⟨rbool HE.out.symm, K2.out⟩
      ·have s3 : decide (ki ≤ l[k - 1].id) = false := by simp; omega
       have HO := Lib.hid (HOK.out ⟨by omega, by omega⟩ (fun h' => by omega))
       go_wp2_with fail
       refine (HID2.out _).mono ?_
       rintro e1 w2 ⟨rfl, hb2⟩
       have K2 : Hid (Below w.heap.size w w2) := K1.out.trans (hb2.mono K1.out.size)
       clear hb2 HID2
       go_wp2_with fail
       go_roundg (l.length - (k + 1))
       case measure => go_light; omega
       case rel => go_light; exact ⟨k + 1, by omega, by omega, by go_num, K2.out, HO.out⟩
  ·obtain rfl : k = l.length := by omega
   have hdk : decide ((l.length : Int) < (l.length : Int)) = false := by simp
   have HE := Lib.hid (HY.out HA.out)
   go_wp2_with fail
   go_ret
   exact ⟨rbool HE.out.symm, HB.out⟩
end Go.Proofs.YtbiehpjhhopjaaaGreat
set_option linter.unusedVariables false
namespace Go.Proofs.YtbiehpjhhopjaaaGreat
open Go.RowKit Go.Sort
def IntArr (cs : Array Value) (f : Nat → Int) : Prop := cs.size = 100 ∧ ∀ q, q < 100 → cs[q]? = some (.int .i64 (f q))
theorem there_any (cs : Array Value) (f : Nat → Int) (id : Int) (w : World) (h : IntArr cs f) :
  Calls Tryz.prog 379 #[.agg cs, .int .i64 id] w (BoolPost w (decide (0 ≤ id ∧ id ≤ 99 ∧ 0 < f id.toNat))) := by
 have HC := Lib.hid h
 clear h
 have HE : Hid (∀ b, (b = true ↔ (0 ≤ id ∧ id ≤ 99 ∧ 0 < f id.toNat)) → b = decide (0 ≤ id ∧ id ≤ 99 ∧ 0 < f id.toNat)) := fun b hb => by rw [Bool.eq_iff_iff, hb]; simp
 generalize decide (0 ≤ id ∧ id ≤ 99 ∧ 0 < f id.toNat) = B at *
 by_cases h1 : 0 ≤ id ∧ id ≤ 99
 ·obtain ⟨n, rfl⟩ := Int.eq_ofNat_of_zero_le h1.1
  have h0 : n < 100 := by omega
  have hc := HC.out.2 n h0
  have t1 : decide (0 ≤ (n : Int)) = true := by simp
  have t2 : decide ((n : Int) ≤ 99) = true := by simp; omega
  have i0 : (0 : Int) ≤ (n : Int) := by omega
  have i1 : (n : Int) < 100 := by omega
  go_enter Tryz.func379, Tryz.ntmps379
  go_wp2_with fail
  go_ret
  exact ⟨rbool (HE.out _ (by simp; omega)), (Below.refl _ _).alloc (Nat.le_refl _) _⟩
 ·by_cases h2 : 0 ≤ id
  ·have t1 : decide (0 ≤ id) = true := by simpa using h2
   have t2 : decide (id ≤ 99) = false := by simp; omega
   clear h1
   go_enter Tryz.func379, Tryz.ntmps379
   go_wp2_with fail
   go_ret
   exact ⟨rbool (HE.out _ (by simp at t2; simp; omega)), (Below.refl _ _).alloc (Nat.le_refl _) _⟩
  ·have t1 : decide (0 ≤ id) = false := by simpa using h2
   clear h1
   go_enter Tryz.func379, Tryz.ntmps379
   go_wp2_with fail
   go_ret
   exact ⟨rbool (HE.out _ (by simp at t1; simp; omega)), (Below.refl _ _).alloc (Nat.le_refl _) _⟩
def IntRow (W : World) (g n : Nat) (T : TypeId) (f : Nat → Int) : Prop := ∃ cur : Array Value, W.heap[g]? = some (.cells cur T (0, 0)) ∧ cur.size = n ∧ ∀ q, q < n → cur[q]? = some (.int .i64 (f q))
section
variable {W W' : World} {g n : Nat} {T : TypeId} {f : Nat → Int}
theorem IntRow.lt (h : IntRow W g n T f) : g < W.heap.size := by
 obtain ⟨cur, hc, -, -⟩ := h
 rcases Nat.lt_or_ge g W.heap.size with h | h
 ·exact h
 ·rw [Array.getElem?_eq_none h] at hc; cases hc
theorem IntRow.cell (h : IntRow W g n T f) {q : Nat} (hq : q < n) : W.cell? ⟨g, q, none⟩ = some (.int .i64 (f q)) := by
 obtain ⟨cur, hc, -, hx⟩ := h
 rw [cell_of_row W g q cur T _ hc]; exact hx q hq
theorem IntRow.frozen (h : IntRow W g n T f) (q : Nat) : W.frozen? ⟨g, q, none⟩ = false := by
 obtain ⟨cur, hc, -, -⟩ := h
 simp [World.frozen?, hc]
theorem IntRow.below (h : IntRow W g n T f) (hb : Below W.heap.size W W') : IntRow W' g n T f := by
 have hl := h.lt
 obtain ⟨cur, hc, hs, hx⟩ := h
 exact ⟨cur, (hb.block g hl).trans hc, hs, hx⟩
theorem IntRow.set (h : IntRow W g n T f) {q : Nat} (hq : q < n) (b : Int) : IntRow (W.setCell ⟨g, q, none⟩ (.int .i64 b)) g n T (fun i => if i = q then b else f i) := by
 obtain ⟨cur, hc, hs, hx⟩ := h
 refine ⟨cur.setIfInBounds q (.int .i64 b), by simp [World.setCell, Array.getElem?_modify, hc], by simp [hs], fun i hi => ?_⟩
 rw [Array.getElem?_setIfInBounds]
 by_cases hiq : q = i
 ·subst hiq
  simp [hs, hq]
 ·rw [if_neg hiq]
  simp only [if_neg (Ne.symm hiq)]
  exact hx i hi
theorem IntRow.new (W : World) (cs : Array Value) (T : TypeId) (hs : cs.size = n) (hx : ∀ q, q < n → cs[q]? = some (.int .i64 0)) : IntRow (W.alloc (.cells cs T)) W.heap.size n T (fun _ => 0) := ⟨cs, heap_alloc_new W _, hs, hx⟩
theorem IntRow.congr (h : IntRow W g n T f) {f' : Nat → Int} (he : ∀ q, q < n → f q = f' q) : IntRow W g n T f' := by
 obtain ⟨cur, hc, hs, hx⟩ := h
 exact ⟨cur, hc, hs, fun q hq => by rw [← he q hq]; exact hx q hq⟩
end
theorem zero168 : Tryz.zeroCells168 = Array.replicate 100 (.int .i64 0) := by kernel_rfl
theorem zero168_at (q : Nat) (h : q < 100) : Tryz.zeroCells168[q]? = some (.int .i64 0) := by rw [zero168]; simp [h]
def endsOf (l : List Sec) (k : Nat) (q : Nat) : Int := match (l.take k).find? (fun s => decide (s.id = (q : Int))) with | some s => s.ends.length | none => 0
theorem endsOf_zero (l : List Sec) (q : Nat) : endsOf l 0 q = 0 := by unfold endsOf; simp
theorem endsOf_step {l : List Sec} {k : Nat} (h : k < l.length) (hr : Rising l) (p : Nat) (hp : l[k].id = (p : Int)) (q : Nat) : (if q = p then (l[k].ends.length : Int) else endsOf l k q) = endsOf l (k + 1) q := by
 unfold endsOf
 have e : l.take (k + 1) = l.take k ++ [l[k]] := List.take_succ_eq_append_getElem h
 rw [e, List.find?_append]
 by_cases hq : q = p
 ·subst hq
  rw [if_pos rfl]
  have hn : (l.take k).find? (fun s => decide (s.id = (q : Int))) = none := by
   rw [List.find?_eq_none]
   intro x hx
   obtain ⟨i, hi, rfl⟩ := List.getElem_of_mem hx
   rw [List.length_take] at hi
   rw [List.getElem_take]
   have := hr i k (by omega) h (by omega)
   simp; omega
  rw [hn]
  simp [hp]
 ·rw [if_neg hq]
  have hn : [l[k]].find? (fun s => decide (s.id = (q : Int))) = none := by
   rw [List.find?_eq_none]
   intro x hx
   rw [List.mem_singleton] at hx
   subst hx
   simp; omega
  rw [hn]
  cases (l.take k).find? (fun s => decide (s.id = (q : Int))) <;> rfl
theorem info168 : (Tryz.prog.info? 168).map (·.size) = some 100 := by kernel_rfl
set_option maxHeartbeats 1000000 in
theorem ends_any (a : Option Addr) (cap : Nat) (l : List Sec) (w : World) (hl : SlA w 3 RSec a cap l) (hm : l.length ≤ 1000) (hA : SecsA l l.length) :
  Calls Tryz.prog 296 #[.slice a l.length cap] w fun e w' => ∃ cs, e = .returned (.agg cs) ∧ IntArr cs (endsOf l l.length) ∧ Below w.heap.size w w' := by
 have HL : Hid (∀ w', Below w.heap.size w w' → SlA w' 3 RSec a cap l) := fun w' hb => hl.below keeps_sec hb
 have HA := Lib.hid hA
 clear hl hA
 go_enter Tryz.func296, Tryz.ntmps296
 go_wp2_with fail
 have hR0 : IntRow (w.alloc (.cells Tryz.zeroCells168 168)) w.heap.size 100 168 (endsOf l 0) := (IntRow.new w _ _ (by rw [zero168]; simp) zero168_at).congr fun q _ => (endsOf_zero l q).symm
 have HR0 := Lib.hid hR0
 clear hR0
 go_loopg [7] l.length (fun g i wr => ∃ k : Nat, k ≤ l.length ∧ g = l.length - k ∧ i = .int .i64 k ∧ Below w.heap.size w wr ∧ IntRow wr w.heap.size 100 168 (endsOf l k))
 case atStart => exact ⟨0, by omega, by omega, rfl, (Below.refl _ _).alloc (Nat.le_refl _) _, HR0.out⟩
 case round =>
  obtain ⟨k, hk, rfl, rfl, hb, hR⟩ := hrel
  obtain ⟨wo, rfl⟩ : ∃ wo : World, wo = wr := ⟨_, rfl⟩
  have HB := Lib.hid hb
  have HR := Lib.hid hR
  clear hb hR
  by_cases hlt : k < l.length
  ·have hdk : decide ((k : Int) < (l.length : Int)) = true := by simp; omega
   obtain ⟨b, off, a', c', rfl, x0, x1, x2, hends⟩ := (HL.out _ HB.out).sec hlt
   have c0 : (0 : Int) ≤ (k : Int) := by omega
   have c1 : (k : Int) < (l.length : Int) := by omega
   have l1 := World.block_lt_of_cell? _ _ x0
   have lw := HR.out.lt
   have hid := (HA.out k hlt hlt).1
   have HST : Hid (∀ W', IntRow W' w.heap.size 100 168 (endsOf l k) → IntRow (W'.setCell ⟨w.heap.size, l[k].id.toNat, none⟩ (.int .i64 (l[k].ends.length : Int))) w.heap.size 100 168 (endsOf l (k + 1))) := fun W' h => by
    refine (h.set (q := l[k].id.toNat) (by omega) _).congr fun q hq => ?_
    exact endsOf_step hlt (rising_of HA.out) l[k].id.toNat (by omega) q
   have p0 : (0 : Int) ≤ l[k].id := by omega
   have p1 : l[k].id < 100 := by omega
   have v2 := HR.out.cell (q := l[k].id.toNat) (by omega)
   have v3 := HR.out.frozen l[k].id.toNat
   clear hends hid
   go_wp2_with fail
   go_roundg (l.length - (k + 1))
   case measure => go_light; omega
   case rel => go_light; exact ⟨k + 1, by omega, by omega, by go_num, (HB.out.setCell (Nat.le_refl _) _).alloc (HB.out.setCell (p := ⟨w.heap.size, l[k].id.toNat, none⟩) (Nat.le_refl _) (.int .i64 (l[k].ends.length : Int))).size _, (HST.out _ HR.out).below ((Below.refl _ _).alloc (Nat.le_refl _) _)⟩
  ·obtain rfl : k = l.length := by omega
   have hdk : decide ((l.length : Int) < (l.length : Int)) = false := by simp
   obtain ⟨cur, hc, hs, hx⟩ := HR.out
   have HC := Lib.hid hc
   have HX : Hid (IntArr cur (endsOf l l.length)) := ⟨hs, hx⟩
   have HS := Lib.hid hs
   clear hc hs hx
   go_wp2_with fail
   exact bodyPost_ret (v := .agg cur) (results_cell_row rfl _ _ _ _ _ _ _ rfl HC.out Tryz.underlying168 rfl (by rw [info168, HS.out])) rfl ⟨cur, rfl, HX.out, HB.out⟩
end Go.Proofs.YtbiehpjhhopjaaaGreat
