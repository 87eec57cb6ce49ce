/-
  The walk of the law CrcParts.
-/
import Derived.Test.YtigkfjgmidnbhaaApp
namespace Go.Proofs.Ytigkfjgmidnbhaa
open Go.RowKit
open CrcMath
theorem own_ge {w : World} {base B : Nat} {v : Value} {n : Nat} {xs : List Value} {k : Nat} (h : w.ownsRow base 5 1 v n xs) (e : v.ownBlock = some k) (hB : B ≤ base) : B ≤ k := by
  rcases h.2 with ⟨rfl, _⟩ | ⟨g, cap, cur, rfl, hg, _⟩
  · cases e
  · cases e; exact Nat.le_trans hB hg
theorem beqU (x y : BitVec 32) : ((x.toNat : Int) == (y.toNat : Int)) = decide (x = y) := by
  rw [Bool.eq_iff_iff, beq_iff_eq, decide_eq_true_iff]
  constructor
  · intro h; exact BitVec.eq_of_toNat_eq (by omega)
  · rintro rfl; rfl
set_option maxRecDepth 20000 in
theorem parts_any (a b c : Option Addr) (la lb lc ca cb cc : Nat) (x y z : List Nat) (w : World) (hA : BL w a la x) (hB : BL w b lb y) (hC : BL w c lc z)
    (na : a = none → ca = 0) (nc : c = none → cc = 0) :
    Calls Try.prog 6 #[.slice a la ca, .slice b lb cb, .slice c lc cc] w fun e w' => e = .returned (.bool true) ∧ Below w.heap.size w w' := by
  by_cases h1 : 5000 < la
  · have hd : decide ((5000 : Int) < (la : Int)) = true := by simp; omega
    go_enter Try.func6, Try.ntmps6
    go_wp2_with (go_at_call 9; refine (alive_any _).mono ?_; rintro e w1 ⟨rfl, hb1⟩)
    go_ret
    exact ⟨rfl, hb1⟩
  · have hd : decide ((5000 : Int) < (la : Int)) = false := by simp; omega
    by_cases h2 : 5000 < lb
    · have hd2 : decide ((5000 : Int) < (lb : Int)) = true := by simp; omega
      go_enter Try.func6, Try.ntmps6
      go_wp2_with (go_at_call 9; refine (alive_any _).mono ?_; rintro e w1 ⟨rfl, hb1⟩)
      go_ret
      exact ⟨rfl, hb1⟩
    · have hd2 : decide ((5000 : Int) < (lb : Int)) = false := by simp; omega
      by_cases h3 : 5000 < lc
      · have hd3 : decide ((5000 : Int) < (lc : Int)) = true := by simp; omega
        go_enter Try.func6, Try.ntmps6
        go_wp2_with (go_at_call 9; refine (alive_any _).mono ?_; rintro e w1 ⟨rfl, hb1⟩)
        go_ret
        exact ⟨rfl, hb1⟩
      · have hd3 : decide ((5000 : Int) < (lc : Int)) = false := by simp; omega
        go_enter Try.func6, Try.ntmps6
        go_wp2_with fail
        refine (alive_any _).mono ?_
        rintro e w1 ⟨rfl, hb1⟩
        go_wp2_with fail
        refine (of_any a la ca x _ (hA.below hb1) (by omega)).mono ?_
        rintro e w2 ⟨rfl, hb2⟩
        have k2 : Below w.heap.size w w2 := hb1.trans (hb2.mono hb1.size)
        clear hb2
        go_wp2_with fail
        refine (of_any b lb cb y _ (hB.below k2) (by omega)).mono ?_
        rintro e w3 ⟨rfl, hb3⟩
        have k3 : Below w.heap.size w w3 := k2.trans (hb3.mono k2.size)
        clear hb3
        have HB : Hid (BL w3 a la x) := hA.below k3
        have HC : Hid (∀ w', Below w.heap.size w w' → BL w' c lc z) := fun w' h => hC.below h
        have hltx := hA.lt
        have hltz := hC.lt
        have HL : Hid ((∀ i (h : i < x.length), x[i] < 256) ∧ (∀ i (h : i < (x ++ z).length), (x ++ z)[i] < 256)) := ⟨hltx, lt_append hltx hltz⟩
        clear hltx hltz
        go_wp2_with (first | (refine wpList_append_bl rfl (.tmp 34) (.tmp 35) rfl w3.heap.size (.slice none 0 0) 0 [] rfl (World.ownsRow_nil _ _ _ _) a la ca x rfl HB.out na (by omega) (Nat.le_refl _) ?_; intro v4 w4 hown4 hg4; rw [Nat.zero_add, List.nil_append] at hown4; have k4 : Below w.heap.size w w4 := k3.grown hg4 k3.size (fun k e => by cases e); have s4 : w3.heap.size ≤ w4.heap.size := hg4.size; clear hg4) | (refine wpList_append_bl rfl (.tmp 37) (.tmp 38) rfl w3.heap.size v4 la x rfl hown4 c lc cc z rfl (HC.out w4 k4) nc (by omega) s4 ?_; intro v5 w5 hown5 hg5))
        obtain ⟨a5, c5, rfl, hB5, _⟩ := BL.of_own hown5 HL.out.2
        have k5 : Below w.heap.size w w5 := k4.grown hg5 k4.size (fun k e => (own_ge hown4 e k3.size))
        clear hg5 hown5 hown4
        refine (of_any a5 (la + lc) c5 (x ++ z) _ hB5 (by omega)).mono ?_
        rintro e w6 ⟨rfl, hb6⟩
        have k6 : Below w.heap.size w w6 := k5.trans (hb6.mono k5.size)
        clear hb6
        rw [over_append]
        go_wp2_with fail
        refine (over_any _ c lc cc z _ (HC.out w6 k6) (by omega)).mono ?_
        rintro e w7 ⟨rfl, hb7⟩
        have k7 : Below w.heap.size w w7 := k6.trans (hb7.mono k6.size)
        clear hb7
        go_wp2_with fail
        refine (over_any _ c lc cc z _ (HC.out w7 k7) (by omega)).mono ?_
        rintro e w8 ⟨rfl, hb8⟩
        have k8 : Below w.heap.size w w8 := k7.trans (hb8.mono k7.size)
        clear hb8
        go_wp2_with fail
        refine (over_any _ c lc cc z _ (HC.out w8 k8) (by omega)).mono ?_
        rintro e w9 ⟨rfl, hb9⟩
        have k9 : Below w.heap.size w w9 := k8.trans (hb9.mono k8.size)
        clear hb9
        have hq : (((over (over 0#32 x) z).toNat : Int) == ((over (over 0#32 y) z).toNat : Int)) = (((over 0#32 x).toNat : Int) == ((over 0#32 y).toNat : Int)) := by
          rw [beqU, beqU]
          by_cases e : over 0#32 x = over 0#32 y
          · rw [e]; simp
          · rw [decide_eq_false e, decide_eq_false (fun h => e (over_inj z h))]
        go_wp2_with fail
        go_ret
        exact ⟨rfl, k9⟩
end Go.Proofs.Ytigkfjgmidnbhaa
