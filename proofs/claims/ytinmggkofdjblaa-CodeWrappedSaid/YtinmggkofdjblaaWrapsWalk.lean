/-
  The walk of the law CodeWraps.
-/
import Derived.Test.YtinmggkofdjblaaRefUnwrap
import Derived.Test.YtinmggkofdjblaaNamesWalk
namespace Go.Proofs.Ytinmggkofdjblaa
open Go.RowKit
open CodeMath
theorem unwS_lt (l : List Nat) (p most : Int) (h : ∀ i (h : i < l.length), l[i] < 256) : ∀ i (h : i < (unwS l p most).1.length), (unwS l p most).1[i] < 256 := by
  have key : ∀ x ∈ (unwS l p most).1, x < 256 := by
    intro x hx
    unfold unwS at hx
    split at hx
    · split at hx
      · split at hx
        · cases hx
        · split at hx
          · cases hx
          · have hx := List.mem_of_mem_drop (List.mem_of_mem_take hx)
            obtain ⟨i, hi, rfl⟩ := List.getElem_of_mem hx
            exact h i hi
      · cases hx
    · cases hx
  exact fun i hi => key _ (List.getElem_mem hi)
theorem unwS_len (l : List Nat) (p most : Int) : (unwS l p most).1.length ≤ l.length := by
  unfold unwS
  split
  · split
    · split
      · simp
      · split
        · simp
        · simp only [List.length_take, List.length_drop]; omega
    · simp
  · simp
/-- n bytes at the head of block g -/
def Own8 (W : World) (g n : Nat) : Prop := ∃ cur : Array Value, W.heap[g]? = some (.cells cur 5 (0, 0)) ∧ ∀ j, j < n → ∃ c : Nat, c < 256 ∧ cur[j]? = some (.int .u8 (c : Int))
theorem Own8.of_own {W : World} {B n : Nat} {v : Value} {l : List Nat} (h : W.ownsRow B 5 1 v n (byv l)) (hl : ∀ i (h : i < l.length), l[i] < 256) (hn : 0 < n) : ∃ g cap, v = .slice (some ⟨g, 0, none⟩) n cap ∧ B ≤ g ∧ Own8 W g n := by
  have h1 : l.length = n := by simpa [byv] using h.1
  rcases h.2 with ⟨rfl, e2⟩ | ⟨g, cap, cur, rfl, hg, hc, hnc, hm, hsz, ht⟩
  · rw [e2] at h; have := h.1; simp at this; omega
  · refine ⟨g, cap, rfl, hg, cur, hc, fun j hj => ?_⟩
    refine ⟨l[j]'(by omega), hl _ _, ?_⟩
    have : (cur.toList.take (n * 1))[j]? = (byv l)[j]? := by rw [ht]
    rw [List.getElem?_take, if_pos (by omega)] at this
    rw [← Array.getElem?_toList, this]
    unfold byv
    rw [List.getElem?_map, List.getElem?_eq_getElem (by omega)]
    rfl
theorem Own8.cell {W : World} {g n : Nat} (h : Own8 W g n) {j : Nat} (hj : j < n) : ∃ c : Nat, c < 256 ∧ W.cell? ⟨g, j, none⟩ = some (.int .u8 (c : Int)) ∧ W.frozen? ⟨g, j, none⟩ = false := by
  obtain ⟨cur, hc, hx⟩ := h
  obtain ⟨c, hl, hc2⟩ := hx j hj
  exact ⟨c, hl, by rw [cell_of_row W g j cur 5 _ hc]; exact hc2, by simp [World.frozen?, hc]⟩
theorem Own8.set {W : World} {g n : Nat} (h : Own8 W g n) (k c : Nat) (hc : c < 256) : Own8 (W.setCell ⟨g, k, none⟩ (.int .u8 (c : Int))) g n := by
  obtain ⟨cur, hcu, hx⟩ := h
  refine ⟨cur.setIfInBounds k (.int .u8 (c : Int)), by simp [World.setCell, Array.getElem?_modify, hcu], fun j hj => ?_⟩
  obtain ⟨d, hd, he⟩ := hx j hj
  rw [Array.getElem?_setIfInBounds]
  by_cases hjk : k = j
  · subst hjk
    have : k < cur.size := (Array.getElem?_eq_some_iff.1 he).1
    exact ⟨c, hc, by simp [this]⟩
  · exact ⟨d, hd, by rw [if_neg hjk]; exact he⟩
theorem wrap_u8 (x : Int) : ∃ c : Nat, c < 256 ∧ x % 256 = (c : Int) := ⟨(x % 256).toNat, by omega, by omega⟩
set_option maxRecDepth 100000 in
set_option maxHeartbeats 2000000 in
theorem wraps_any (a : Option Addr) (len cap : Nat) (p most : Int) (l : List Nat) (w : World) (hBL : BL w a len l) (hcap : len ≤ cap) (na : a = none → cap = 0) :
    Calls Try.prog 7 #[.slice a len cap, .int .i64 p, .int .i64 most] w fun e w' => e = .returned (.bool true) ∧ Below w.heap.size w w' := by
  by_cases hbig : 70000 < len
  · have hd : decide ((70000 : Int) < (len : Int)) = true := by simp; omega
    clear hBL
    go_enter Try.func7, Try.ntmps7
    go_wp2_with fail
    go_ret
    exact ⟨rfl, Below.refl _ _⟩
  · have hd : decide ((70000 : Int) < (len : Int)) = false := by simp; omega
    have hm : len ≤ 70000 := by omega
    have hcv := BL.str hBL cap
    have HB : Hid (∀ w', Below w.heap.size w w' → BL w' a len l) := fun w' h => hBL.below h
    have HLT := Lib.hid hBL.lt
    have HUL := Lib.hid (unwS_lt l p most hBL.lt)
    have hulen : (unwS l p most).1.length ≤ 70000 := by have := unwS_len l p most; have := hBL.len; omega
    clear hBL
    go_enter Try.func7, Try.ntmps7
    go_wp2_with fail
    refine (wrap_any a len cap l _ (HB.out _ (Below.refl _ _)) na (by omega)).mono ?_
    rintro e w1 ⟨a1, len1, cap1, rfl, hB1, _, _, hb1⟩
    have HB1 : Hid (∀ w', Below w1.heap.size w1 w' → BL w' a1 len1 (wrapL l)) := fun w' h => hB1.below h
    clear hB1
    go_wp2_with fail
    refine (refwrap_any a len cap l _ (HB.out _ hb1) na (by omega)).mono ?_
    rintro e w2 ⟨a2, len2, cap2, rfl, hB2, _, _, hb2⟩
    have k2 : Below w.heap.size w w2 := hb1.trans (hb2.mono hb1.size)
    have HB2 : Hid (∀ w', Below w2.heap.size w2 w' → BL w' a2 len2 (wrapL l)) := fun w' h => hB2.below h
    clear hB2
    go_wp2_with fail
    refine (unwrap_any a len cap p most l _ (HB.out _ k2) (by omega) hcap).mono ?_
    rintro e w3 ⟨v, rfl, hv, hb3⟩
    have k3 : Below w.heap.size w w3 := k2.trans (hb3.mono k2.size)
    have HV := Lib.hid hv
    obtain ⟨a3, cap3, rfl, hB3, n3⟩ := BL.of_own hv HUL.out
    have HB3 : Hid (∀ w', Below w3.heap.size w3 w' → BL w' a3 (unwS l p most).1.length (unwS l p most).1) := fun w' h => hB3.below h
    clear hB3 hv
    go_wp2_with fail
    refine (refunwrap_any a len cap p most l _ (HB.out _ k3) (by omega) hcap na).mono ?_
    rintro e w4 ⟨v4, rfl, hv4, hb4⟩
    have k4 : Below w.heap.size w w4 := k3.trans (hb4.mono k3.size)
    obtain ⟨a4, cap4, rfl, hB4, n4⟩ := BL.of_own hv4 HUL.out
    clear hv4
    have k34 := hb4
    have k24 := hb3.trans (k34.mono hb3.size)
    have k14 := hb2.trans (k24.mono hb2.size)
    have x1 := BL.str (HB1.out _ k14) cap1
    have x2 := BL.str (HB2.out _ k24) cap2
    have x3 := BL.str (HB3.out _ k34) cap3
    have x4 := BL.str hB4 cap4
    clear hB4 HB1 HB2 HB3 hb1 hb2 hb3
    generalize unwS l p most = r at *
    obtain ⟨u, nx, ee⟩ := r
    simp only [] at x3 x4 HV HUL hulen ⊢
    obtain ⟨n, hn⟩ : ∃ n, u.length = n := ⟨_, rfl⟩
    rw [hn] at x3 x4 HV hulen ⊢
    clear hn
    have hs3 : w.heap.size ≤ w2.heap.size := k2.size
    go_wp2_with fail
    go_loopw [19] (fun i wr => ∃ k : Nat, k ≤ n ∧ i = .int .i64 k ∧ Below w.heap.size w wr ∧ (0 < n → ∃ g, a3 = some ⟨g, 0, none⟩ ∧ w.heap.size ≤ g ∧ Own8 wr g n)) (fun i _ => n - (intOf i).toNat)
    case atStart =>
      refine ⟨0, by omega, rfl, k4, fun h0 => ?_⟩
      obtain ⟨g, cp, e, hg, ho⟩ := Own8.of_own HV.out HUL.out h0
      cases e
      refine ⟨g, rfl, by omega, ?_⟩
      obtain ⟨cur, hc, hx⟩ := ho
      refine ⟨cur, ?_, hx⟩
      rw [k34.block g (by rcases Nat.lt_or_ge g w3.heap.size with h | h; exact h; rw [Array.getElem?_eq_none h] at hc; cases hc)]
      exact hc
    case round =>
      obtain ⟨k, hk, rfl, hbr, hown⟩ := hrel
      have HO := Lib.hid hown
      clear hown x1 x2 x3 x4 hcv k14 k24 k34 hb4
      by_cases hlt : k < n
      · have hdk : decide ((k : Int) < (n : Int)) = true := by simp; omega
        obtain ⟨g, rfl, hg, ho⟩ := HO.out (by omega)
        obtain ⟨c, hc8, hc, hf⟩ := ho.cell hlt
        have HO2 := Lib.hid ho
        clear ho
        go_wp2_with fail
        go_roundw
        case rel =>
          obtain ⟨d, hd8, hde⟩ := wrap_u8 ((c : Int) + 1)
          refine ⟨k + 1, by omega, by go_num, ?_, fun _ => ⟨g, rfl, hg, ?_⟩⟩
          · exact hbr.setCell (by simpa using hg) _
          · rw [hde]
            exact HO2.out.set k d hd8
        case measure => simp [intOf]; omega
      · obtain rfl : k = n := by omega
        have hdk : decide ((k : Int) < (k : Int)) = false := by simp
        have y := BL.str (HB.out _ hbr) cap
        clear HO
        go_wp2_with fail
        go_ret
        exact ⟨rfl, hbr⟩
end Go.Proofs.Ytinmggkofdjblaa
