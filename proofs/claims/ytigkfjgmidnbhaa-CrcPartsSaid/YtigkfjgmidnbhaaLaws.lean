/-
  What the laws on check sums share: slices that come in read as lists of bytes; texts; constants; the chapter's first examples.
-/
import Derived.Test.YtigkfjgmidnbhaaSums
import Derived.OpenShut
import Derived.Lib.SlBytesConst
namespace Go.Proofs.Ytigkfjgmidnbhaa
open Go.RowKit
open CrcMath
theorem BL.of_row {w : World} {a : Option Addr} {len cap : Nat} {zs : List Int}
    (h : (a = none ∧ len = 0 ∧ cap = 0 ∧ zs = []) ∨
      ∃ x, a = some x ∧ len ≤ cap ∧ cap ≤ maxLen ∧ zs.length = cap ∧ (∀ i, i < zs.length → w.cell? (x.add i) = some (.int .u8 (zs.getD i 0))) ∧ ∀ n ∈ zs, (Lit.int .u8 n).wf = true) :
    ∃ l, BL w a len l := by
  rcases h with ⟨rfl, rfl, rfl, rfl⟩ | ⟨x, rfl, hl, hm, hz, hcell, hwz⟩
  · exact ⟨[], rfl, fun i h => by simp at h, fun i h => by simp at h⟩
  · have hb : ∀ i (h : i < zs.length), 0 ≤ zs[i] ∧ zs[i] ≤ 255 := fun i h => bounds_u8 (hwz _ (List.getElem_mem h))
    refine ⟨(zs.take len).map Int.toNat, by simp; omega, fun i h => ?_, fun i h => ?_⟩
    · simp only [List.getElem_map, List.getElem_take]
      have := hb i (by simp at h; omega)
      omega
    · have hi : i < zs.length := by simp at h; omega
      obtain ⟨b, off, spot⟩ := x
      have hc := hcell 0 (by omega)
      have hs : spot = none := by simpa [Addr.add] using World.cell?_spot hc
      subst hs
      refine ⟨b, off, rfl, ?_⟩
      have he : (⟨b, off, none⟩ : Addr).add i = ⟨b, off + i, none⟩ := by unfold Addr.add; split <;> simp_all
      have := hb i hi
      rw [← he, hcell i hi]
      simp only [List.getElem_map, List.getElem_take, List.getD_eq_getElem?_getD, List.getElem?_eq_getElem hi, Option.getD_some]
      rw [Int.toNat_of_nonneg this.1]
theorem BL.nil (w : World) : BL w none 0 [] := ⟨rfl, fun i h => by simp at h, fun i h => by simp at h⟩
/-- as text -/
def strB (l : List Nat) : ByteArray := strOfNums (l.map Int.ofNat)
theorem BL.str {w : World} {a : Option Addr} {len : Nat} {l : List Nat} (h : BL w a len l) (cap : Nat) :
    Sem.run Try.prog (convert 25 9 (.slice a len cap)) w = .ok (.string (strB l)) w := by
  obtain ⟨h1, h2, h3⟩ := h
  cases a with
  | none =>
    cases l with
    | nil =>
      have : strB [] = ByteArray.empty := rfl
      rw [this]
      exact run_convert_bytes_nil w 25 5 Try.underlying25 Try.underlying5 _ _ 9 Try.underlying9
    | cons c l => obtain ⟨b, off, e, _⟩ := h3 0 (by simp); cases e
  | some x =>
    cases l with
    | nil =>
      simp at h1
      subst h1
      rw [run_convert_bytes_string w 25 9 5 _ _ _ Try.underlying25 Try.underlying5 Try.underlying9]
      exact run_bytesToString w x 0 cap [] (by simp [loadCells, loadCellsFrom, Sem.run_pure])
    | cons c l =>
      obtain ⟨b, off, e, _⟩ := h3 0 (by simp)
      cases e
      refine run_convert_bytes_arg w 25 5 Try.underlying25 Try.underlying5 b off len cap ((c :: l).map Int.ofNat) (by simpa using h1) (fun i hi => ?_) 9 Try.underlying9
      obtain ⟨b', off', e, hc⟩ := h3 i (by omega)
      cases e
      rw [hc]
      rw [List.getD_eq_getElem?_getD, List.getElem?_map, List.getElem?_eq_getElem (show i < (c :: l).length by omega)]
      rfl
theorem u32_of {n : Int} (h : (Lit.int .u32 n).wf = true) : ∃ s : BitVec 32, n = (s.toNat : Int) := by
  have := bounds_u32 h
  exact ⟨BitVec.ofNat 32 n.toNat, by rw [BitVec.toNat_ofNat]; omega⟩
/-- a slice over a block of the call's own that holds constants -/
theorem BL.lit {w : World} {g : Nat} {l : List Nat} {cs : Array Value} {t : TypeId} {fr : Nat × Nat} (hg : w.heap[g]? = some (.cells cs t fr)) (hl : ∀ x ∈ l, x < 256)
    (hc : cs.toList = l.map (fun c : Nat => Value.int .u8 (c : Int))) : BL w (some ⟨g, 0, none⟩) l.length l := by
  refine ⟨rfl, fun i h => hl _ (List.getElem_mem h), fun i h => ⟨g, 0, rfl, ?_⟩⟩
  rw [Nat.zero_add, cell_of_row w g i cs t fr hg, ← Array.getElem?_toList, hc, List.getElem?_map, List.getElem?_eq_getElem h]
  rfl
theorem ret_bool {a b : Bool} (h : a = b) : Ending.returned (.bool a) = .returned (.bool b) := by rw [h]
theorem sum9 : over 0#32 [49, 50, 51, 52, 53, 54, 55, 56, 57] = 3421780262#32 := by decide +kernel
theorem sum0 : over 0#32 [] = 0#32 := by decide +kernel
theorem alive_any (w : World) : Calls Try.prog 9 #[] w fun e w' => e = .returned (.bool true) ∧ Below w.heap.size w w' := by
  have kc := fun (w : World) (C : Array Value) (n c : Nat) => Lib.run_convert_bytes_const (P := Try.prog) w 25 5 C n c Try.underlying25 Try.underlying5
  have h1 := of_any none 0 0 [] w (BL.nil w) (by omega)
  rw [sum0] at h1
  have H1 := Lib.hid h1
  clear h1
  have HW : Hid (∀ W : World, ∀ C : Array Value, ∀ fr : Nat × Nat, C.toList = [49, 50, 51, 52, 53, 54, 55, 56, 57].map (fun c : Nat => Value.int .u8 (c : Int)) →
      Calls Try.prog 10 #[.slice (some ⟨W.heap.size, 0, none⟩) 9 9] (W.alloc (.cells C 5 fr)) fun e w' => e = .returned (.int .u32 3421780262) ∧ Below (W.heap.size + 1) (W.alloc (.cells C 5 fr)) w') := by
    intro W C fr hC
    have h := of_any (some ⟨W.heap.size, 0, none⟩) 9 9 [49, 50, 51, 52, 53, 54, 55, 56, 57] (W.alloc (.cells C 5 fr)) (BL.lit (l := [49, 50, 51, 52, 53, 54, 55, 56, 57]) (heap_alloc_new W _) (by decide) hC) (by omega)
    rw [sum9, World.size_alloc] at h
    exact h
  go_enter Try.func9, Try.ntmps9
  go_wp2_with fail
  refine H1.out.mono ?_
  rintro e w1 ⟨rfl, hb1⟩
  go_wp2_with fail
  refine (HW.out w1 _ _ (by rfl)).mono ?_
  rintro e w2 ⟨rfl, hb2⟩
  go_wp2_with fail
  go_ret
  refine ⟨rfl, ?_⟩
  exact (hb1.trans ((Below.refl _ _).alloc hb1.size _)).trans (hb2.mono (by have := hb1.size; omega))
theorem names_any (w : World) : Calls Try.prog 3 #[] w fun e w' => e = .returned (.bool true) ∧ Below w.heap.size w w' := by
  have kc := fun (w : World) (C : Array Value) (n c : Nat) => Lib.run_convert_bytes_const (P := Try.prog) w 25 5 C n c Try.underlying25 Try.underlying5
  have HW : Hid (∀ W : World, ∀ l : List Nat, (∀ x ∈ l, x < 256) → l.length ≤ 9 → ∀ n c : Nat, n = l.length → ∀ C : Array Value, ∀ fr : Nat × Nat, C.toList = l.map (fun c : Nat => Value.int .u8 (c : Int)) →
      Calls Try.prog 10 #[.slice (some ⟨W.heap.size, 0, none⟩) n c] (W.alloc (.cells C 5 fr)) fun e w' => e = .returned (.int .u32 (over 0#32 l).toNat) ∧ Below (W.heap.size + 1) (W.alloc (.cells C 5 fr)) w') := by
    rintro W l hl hn n c rfl C fr hC
    have h := of_any (some ⟨W.heap.size, 0, none⟩) l.length c l (W.alloc (.cells C 5 fr)) (BL.lit (heap_alloc_new W _) hl hC) (by omega)
    rw [World.size_alloc] at h
    exact h
  have HV : Hid (∀ W : World, ∀ C : Array Value, ∀ fr : Nat × Nat, C.toList = [54, 55, 56, 57].map (fun c : Nat => Value.int .u8 (c : Int)) →
      Calls Try.prog 11 #[.int .u32 (over 0#32 [49, 50, 51, 52, 53]).toNat, .slice (some ⟨W.heap.size, 0, none⟩) 4 4] (W.alloc (.cells C 5 fr)) fun e w' => e = .returned (.int .u32 3421780262) ∧ Below (W.heap.size + 1) (W.alloc (.cells C 5 fr)) w') := by
    intro W C fr hC
    have h := over_any (over 0#32 [49, 50, 51, 52, 53]) (some ⟨W.heap.size, 0, none⟩) 4 4 [54, 55, 56, 57] (W.alloc (.cells C 5 fr)) (BL.lit (l := [54, 55, 56, 57]) (heap_alloc_new W _) (by decide) hC) (by omega)
    rw [← over_append, World.size_alloc, show [49, 50, 51, 52, 53] ++ [54, 55, 56, 57] = [49, 50, 51, 52, 53, 54, 55, 56, 57] from rfl, sum9] at h
    exact h
  have H97 : Hid (((over 0#32 [97]).toNat : Int) = 3904355907) := by
    have : over 0#32 [97] = 3904355907#32 := by decide +kernel
    rw [this]; rfl
  go_enter Try.func3, Try.ntmps3
  go_wp2_with fail
  refine (alive_any _).mono ?_
  rintro e w1 ⟨rfl, hb1⟩
  go_wp2_with fail
  refine (HW.out w1 [97] (by decide) (by decide) _ _ rfl _ _ (by rfl)).mono ?_
  rintro e w2 ⟨rfl, hb2⟩
  rw [H97.out]
  go_wp2_with fail
  refine (HW.out w2 [49, 50, 51, 52, 53] (by decide) (by decide) _ _ rfl _ _ (by rfl)).mono ?_
  rintro e w3 ⟨rfl, hb3⟩
  go_wp2_with fail
  refine (HV.out w3 _ _ (by rfl)).mono ?_
  rintro e w4 ⟨rfl, hb4⟩
  go_wp2_with fail
  go_ret
  refine ⟨rfl, ?_⟩
  have s1 := hb1.size
  have s2 := hb2.size
  have s3 := hb3.size
  simp only [World.size_alloc] at s2 s3
  exact (((((hb1.trans ((Below.refl _ _).alloc hb1.size _)).trans (hb2.mono (by omega))).trans ((Below.refl _ _).alloc (by omega) _)).trans (hb3.mono (by omega))).trans ((Below.refl _ _).alloc (by omega) _)).trans (hb4.mono (by omega))
end Go.Proofs.Ytigkfjgmidnbhaa
