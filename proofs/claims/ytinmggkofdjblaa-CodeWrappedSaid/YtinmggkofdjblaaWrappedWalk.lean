/-
  The walk of the law CodeWrapped.
-/
import Derived.Test.YtinmggkofdjblaaWrappedMath
import Derived.Test.YtinmggkofdjblaaWrapsWalk
import Derived.BigQuiet
set_option linter.unusedVariables false
namespace Go.Proofs.Ytinmggkofdjblaa
open Go.RowKit
open CodeMath
theorem wrapped_big (a b c : Option Addr) (la lb lc ca cb cc : Nat) (p most : Int) (w : World) (h : 70000 < la ∨ 1000 < lb ∨ 1000 < lc) :
    Calls Try.prog 8 #[.slice a la ca, .slice b lb cb, .slice c lc cc, .int .i64 p, .int .i64 most] w fun e w' => e = .returned (.bool true) ∧ Below w.heap.size w w' := by
  by_cases h1 : 70000 < la
  · have hd : decide ((70000 : Int) < (la : Int)) = true := by simp; omega
    go_enter Try.func8, Try.ntmps8
    go_wp2_with (go_at_call 9; refine (alive_any _).mono ?_; rintro e w1 ⟨rfl, hb1⟩)
    go_ret
    exact ⟨rfl, hb1⟩
  · have hd : decide ((70000 : Int) < (la : Int)) = false := by simp; omega
    by_cases h2 : 1000 < lb
    · have hd2 : decide ((1000 : Int) < (lb : Int)) = true := by simp; omega
      go_enter Try.func8, Try.ntmps8
      go_wp2_with (go_at_call 9; refine (alive_any _).mono ?_; rintro e w1 ⟨rfl, hb1⟩)
      go_ret
      exact ⟨rfl, hb1⟩
    · have hd2 : decide ((1000 : Int) < (lb : Int)) = false := by simp; omega
      have hd3 : decide ((1000 : Int) < (lc : Int)) = true := by simp; omega
      go_enter Try.func8, Try.ntmps8
      go_wp2_with (go_at_call 9; refine (alive_any _).mono ?_; rintro e w1 ⟨rfl, hb1⟩)
      go_ret
      exact ⟨rfl, hb1⟩
set_option maxRecDepth 100000 in
set_option maxHeartbeats 1000000 in
theorem wrapped_no (a b c : Option Addr) (la lb lc ca cb cc : Nat) (o x y : List Nat) (p most : Int) (w : World) (hO : BL w a la o) (hA : BL w b lb x) (hC : BL w c lc y) (h1 : ¬ 70000 < la) (h2 : ¬ 1000 < lb) (h3 : ¬ 1000 < lc) (hca : la ≤ ca) (hcb : lb ≤ cb) (na : a = none → ca = 0) (nb : b = none → cb = 0) (nc : c = none → cc = 0) (hk : 65536 < la) :
    Calls Try.prog 8 #[.slice a la ca, .slice b lb cb, .slice c lc cc, .int .i64 p, .int .i64 most] w fun e w' => e = .returned (.bool true) ∧ Below w.heap.size w w' := by
  have hd : decide ((70000 : Int) < (la : Int)) = false := by simp; omega
  have hd2 : decide ((1000 : Int) < (lb : Int)) = false := by simp; omega
  have hd3 : decide ((1000 : Int) < (lc : Int)) = false := by simp; omega
  have HO : Hid (∀ w', Below w.heap.size w w' → BL w' a la o) := fun w' h => hO.below h
  have HA : Hid (∀ w', Below w.heap.size w w' → BL w' b lb x) := fun w' h => hA.below h
  have HC : Hid (∀ w', Below w.heap.size w w' → BL w' c lc y) := fun w' h => hC.below h
  have HLO := Lib.hid hO.lt
  have HLX := Lib.hid hA.lt
  have HLY := Lib.hid hC.lt
  have hlo := Lib.hid hO.len
  have hlx := Lib.hid hA.len
  have hwe : Hid (wrapE o = 4) := by show _ = _; rw [wrapE, if_neg (by rw [hlo.out]; omega)]
  clear hO hA hC
  go_enter Try.func8, Try.ntmps8
  go_wp2_with fail
  refine (alive_any _).mono ?_
  rintro e w1 ⟨rfl, hb1⟩
  go_wp2_with fail
  refine (wrap_any a la ca o _ (HO.out _ hb1) na (by omega)).mono ?_
  rintro e w2 ⟨a2, len2, cap2, rfl, hB2, n2, lc2, hb2⟩
  have kk : Below w.heap.size w w2 := hb1.trans (hb2.mono hb1.size)
  simp only [hwe.out]
  clear hB2 hb1 hb2
  go_wp2_with fail
  refine (unwrap_any b lb cb p most x _ (HA.out _ kk) (by omega) hcb).mono ?_
  intro e w9 hU
  obtain ⟨a9, c9, rfl, hB9, n9, lc9, hb9⟩ := unwU_str (unwS_lt x p most HLX.out) hU
  clear hU
  have kk9 : Below w.heap.size w w9 := kk.trans (hb9.mono kk.size)
  by_cases hz : (unwS x p most).2.2 = 0
  · obtain ⟨q, rfl, hqn, hnl, hul, hum, hwl, hwe⟩ := unwS_ok x p most HLX.out hz
    generalize unwS x (q : Int) most = r at *
    obtain ⟨u, nx, ee⟩ := r
    simp only [] at hz hB9 n9 lc9 hqn hnl hul hum hwl hwe
    subst hz
    have HWL := Lib.hid hwl
    have HWE := Lib.hid hwe
    clear hwl hwe hb9
    obtain ⟨b1, off, rfl, _⟩ := (HA.out w (Below.refl _ _)).cell 0 (by omega)
    have hx := hlx.out
    have hule : decide ((u.length : Int) ≤ most) = true := by simpa using hum
    go_wp2_with fail
    refine (wrap_any a9 u.length c9 u _ hB9 n9 (by omega)).mono ?_
    rintro e w10 ⟨a3, len3, cap3, rfl, hB3, _, _, hb3⟩
    have k3 : Below w.heap.size w w10 := kk9.trans (hb3.mono kk9.size)
    simp only [HWE.out]
    rw [HWL.out] at hB3
    have hne : ¬ cb = q := by omega
    have c0 : (0 : Int) ≤ (q : Int) := by omega
    have c1 : (q : Int) ≤ (nx : Int) := by omega
    have c2 : (nx : Int) ≤ (cb : Int) := by omega
    have hlx' := Lib.hid hx
    clear hx
    have hx3 : ∀ k, Sem.run Try.prog (convert 23 9 (.slice a3 len3 cap3)) (w10.drewN k) = .ok (.string (strB (List.take (nx - q) (List.drop q x)))) (w10.drewN k) := fun k => BL.str (hB3.drewN k) cap3
    have hx4 : ∀ k, Sem.run Try.prog (convert 23 9 (.slice (some ⟨b1, off + q, none⟩) (nx - q) (cb - q))) (w10.drewN k) = .ok (.string (strB (List.take (nx - q) (List.drop q x)))) (w10.drewN k) := fun k => BL.str ((BL.sub (HA.out w10 k3) q nx (by omega) (by rw [← hlx'.out]; exact hnl)).drewN k) (cb - q)
    clear hB3 hb3 hB9
    go_wp2_with fail
    go_quiet (fail)
    go_wp2_with fail
    go_ret
    exact ⟨rfl, below_drewN k3 _⟩
  · obtain ⟨z1, z2⟩ := unwS_no x p most hz
    generalize unwS x p most = r at *
    obtain ⟨u, nx, ee⟩ := r
    simp only [] at hz z1 z2
    subst z1 z2
    have hee : (ee != 0) = true := by rw [bne_iff_ne]; exact hz
    clear hz hB9 hb9
    go_wp2_with fail
    go_ret
    exact ⟨rfl, kk9⟩
set_option maxRecDepth 100000 in
set_option maxHeartbeats 1000000 in
theorem wrapped_yes (a b c : Option Addr) (la lb lc ca cb cc : Nat) (o x y : List Nat) (p most : Int) (w : World) (hO : BL w a la o) (hA : BL w b lb x) (hC : BL w c lc y) (h1 : ¬ 70000 < la) (h2 : ¬ 1000 < lb) (h3 : ¬ 1000 < lc) (hca : la ≤ ca) (hcb : lb ≤ cb) (na : a = none → ca = 0) (nb : b = none → cb = 0) (nc : c = none → cc = 0) (hk : la ≤ 65536) :
    Calls Try.prog 8 #[.slice a la ca, .slice b lb cb, .slice c lc cc, .int .i64 p, .int .i64 most] w fun e w' => e = .returned (.bool true) ∧ Below w.heap.size w w' := by
  have hd : decide ((70000 : Int) < (la : Int)) = false := by simp; omega
  have hd2 : decide ((1000 : Int) < (lb : Int)) = false := by simp; omega
  have hd3 : decide ((1000 : Int) < (lc : Int)) = false := by simp; omega
  have HO : Hid (∀ w', Below w.heap.size w w' → BL w' a la o) := fun w' h => hO.below h
  have HA : Hid (∀ w', Below w.heap.size w w' → BL w' b lb x) := fun w' h => hA.below h
  have HC : Hid (∀ w', Below w.heap.size w w' → BL w' c lc y) := fun w' h => hC.below h
  have HLO := Lib.hid hO.lt
  have HLX := Lib.hid hA.lt
  have HLY := Lib.hid hC.lt
  have hlo := Lib.hid hO.len
  have hlx := Lib.hid hA.len
  have hwe : Hid (wrapE o = 0 ∧ wrapL o = digs la ++ o) := by
    refine ⟨?_, ?_⟩
    · rw [wrapE, if_pos (by rw [hlo.out]; omega)]
    · rw [wrapL, if_pos (by rw [hlo.out]; omega), hlo.out]
  have hun : Hid (unwS ((x ++ (digs la ++ o)) ++ y) (lb : Int) (la : Int) = (o, lb + ((digs la).length + la), 0)) := by
    have := unwS_wrap x o y (by rw [hlo.out]; exact hk)
    rw [hlo.out, hlx.out] at this
    exact this
  have h5 := digs_len5 (n := la) (by omega)
  clear hO hA hC
  go_enter Try.func8, Try.ntmps8
  go_wp2_with fail
  refine (alive_any _).mono ?_
  rintro e w1 ⟨rfl, hb1⟩
  go_wp2_with fail
  refine (wrap_any a la ca o _ (HO.out _ hb1) na (by omega)).mono ?_
  rintro e w2 ⟨a2, len2, cap2, rfl, hB2, n2, lc2, hb2⟩
  have k2 : Below w.heap.size w w2 := hb1.trans (hb2.mono hb1.size)
  simp only [hwe.out.1]
  rw [hwe.out.2] at hB2
  clear hb1 hb2
  have hl2 := hB2.len
  rw [List.length_append, hlo.out] at hl2
  have HL2 := Lib.hid hl2
  have hl5 : len2 ≤ 70000 := by omega
  have HLW := Lib.hid hB2.lt
  have HB2 : Hid (∀ w', Below w2.heap.size w2 w' → BL w' a2 len2 (digs la ++ o)) := fun w' h => hB2.below h
  clear hB2 hl2 h5
  go_wp2_with (first | (refine wpList_append_bl rfl (.tmp 49) (.tmp 50) rfl w2.heap.size (.slice none 0 0) 0 [] rfl (World.ownsRow_nil _ _ _ _) b lb cb x rfl (HA.out w2 k2) nb (by omega) (Nat.le_refl _) ?_; intro v4 w4 hown4 hg4; rw [Nat.zero_add, List.nil_append] at hown4; have k4 : Below w2.heap.size w2 w4 := (Below.refl _ w2).grown hg4 (Nat.le_refl _) (fun k e => by cases e); have s4 : w2.heap.size ≤ w4.heap.size := hg4.size; clear hg4) | (refine wpList_append_bl rfl (.tmp 52) (.tmp 53) rfl w2.heap.size v4 lb x rfl hown4 a2 len2 cap2 (digs la ++ o) rfl (HB2.out w4 k4) n2 (by omega) s4 ?_; intro v5 w5 hown5 hg5; have k5 : Below w2.heap.size w2 w5 := k4.grown hg5 k4.size (fun k e => own_ge hown4 e (Nat.le_refl _)); have s5 : w2.heap.size ≤ w5.heap.size := Nat.le_trans s4 hg5.size; clear hg5) | (refine wpList_append_bl rfl (.tmp 55) (.tmp 56) rfl w2.heap.size v5 (lb + len2) (x ++ (digs la ++ o)) rfl hown5 c lc cc y rfl (HC.out w5 (k2.trans (k5.mono k2.size))) nc (by omega) s5 ?_; intro v6 w6 hown6 hg6; have k6 : Below w2.heap.size w2 w6 := k5.grown hg6 k5.size (fun k e => own_ge hown5 e (Nat.le_refl _)); clear hg6))
  have hl6 : ∀ i (h : i < ((x ++ (digs la ++ o)) ++ y).length), ((x ++ (digs la ++ o)) ++ y)[i] < 256 := lt_append (lt_append HLX.out HLW.out) HLY.out
  obtain ⟨a6, c6, rfl, hB6, _⟩ := BL.of_own hown6 hl6
  have hc6 : lb + len2 + lc ≤ c6 := own_cap hown6
  have k26 : Below w.heap.size w w6 := k2.trans (k6.mono k2.size)
  clear hown4 hown5 hown6 k4 k5 k6 s4 s5 hl6 HB2
  refine (unwrap_any a6 (lb + len2 + lc) c6 (lb : Int) (la : Int) _ _ hB6 (by omega) hc6).mono ?_
  rw [hun.out]
  intro e w7 hU
  obtain ⟨a7, c7, rfl, hB7, n7, lc7, hb7⟩ := unwU_str HLO.out hU
  have kk : Below w.heap.size w w7 := k26.trans (hb7.mono k26.size)
  simp only [] at hB7 ⊢
  rw [hlo.out] at hB7 ⊢
  have y1 := BL.str hB7 c7
  have y2 := BL.str (HO.out w7 kk) ca
  rw [HL2.out]
  clear hB6 hB7 hU k26 hb7
  go_wp2_with fail
  refine (unwrap_any b lb cb p most x _ (HA.out _ kk) (by omega) hcb).mono ?_
  intro e w9 hU
  obtain ⟨a9, c9, rfl, hB9, n9, lc9, hb9⟩ := unwU_str (unwS_lt x p most HLX.out) hU
  clear hU
  have kk9 : Below w.heap.size w w9 := kk.trans (hb9.mono kk.size)
  by_cases hz : (unwS x p most).2.2 = 0
  · obtain ⟨q, rfl, hqn, hnl, hul, hum, hwl, hwe⟩ := unwS_ok x p most HLX.out hz
    generalize unwS x (q : Int) most = r at *
    obtain ⟨u, nx, ee⟩ := r
    simp only [] at hz hB9 n9 lc9 hqn hnl hul hum hwl hwe
    subst hz
    have HWL := Lib.hid hwl
    have HWE := Lib.hid hwe
    clear hwl hwe hb9
    obtain ⟨b1, off, rfl, _⟩ := (HA.out w (Below.refl _ _)).cell 0 (by omega)
    have hx := hlx.out
    have hule : decide ((u.length : Int) ≤ most) = true := by simpa using hum
    go_wp2_with fail
    refine (wrap_any a9 u.length c9 u _ hB9 n9 (by omega)).mono ?_
    rintro e w10 ⟨a3, len3, cap3, rfl, hB3, _, _, hb3⟩
    have k3 : Below w.heap.size w w10 := kk9.trans (hb3.mono kk9.size)
    simp only [HWE.out]
    rw [HWL.out] at hB3
    have hne : ¬ cb = q := by omega
    have c0 : (0 : Int) ≤ (q : Int) := by omega
    have c1 : (q : Int) ≤ (nx : Int) := by omega
    have c2 : (nx : Int) ≤ (cb : Int) := by omega
    have hlx' := Lib.hid hx
    clear hx
    have hx3 : ∀ k, Sem.run Try.prog (convert 23 9 (.slice a3 len3 cap3)) (w10.drewN k) = .ok (.string (strB (List.take (nx - q) (List.drop q x)))) (w10.drewN k) := fun k => BL.str (hB3.drewN k) cap3
    have hx4 : ∀ k, Sem.run Try.prog (convert 23 9 (.slice (some ⟨b1, off + q, none⟩) (nx - q) (cb - q))) (w10.drewN k) = .ok (.string (strB (List.take (nx - q) (List.drop q x)))) (w10.drewN k) := fun k => BL.str ((BL.sub (HA.out w10 k3) q nx (by omega) (by rw [← hlx'.out]; exact hnl)).drewN k) (cb - q)
    clear hB3 hb3 hB9
    go_wp2_with fail
    go_quiet (fail)
    go_wp2_with fail
    go_ret
    exact ⟨rfl, below_drewN k3 _⟩
  · obtain ⟨z1, z2⟩ := unwS_no x p most hz
    generalize unwS x p most = r at *
    obtain ⟨u, nx, ee⟩ := r
    simp only [] at hz z1 z2
    subst z1 z2
    have hee : (ee != 0) = true := by rw [bne_iff_ne]; exact hz
    clear hz hB9 hb9
    go_wp2_with fail
    go_ret
    exact ⟨rfl, kk9⟩
theorem wrapped_any (a b c : Option Addr) (la lb lc ca cb cc : Nat) (o x y : List Nat) (p most : Int) (w : World) (hO : BL w a la o) (hA : BL w b lb x) (hC : BL w c lc y) (hca : la ≤ ca) (hcb : lb ≤ cb) (na : a = none → ca = 0) (nb : b = none → cb = 0) (nc : c = none → cc = 0) :
    Calls Try.prog 8 #[.slice a la ca, .slice b lb cb, .slice c lc cc, .int .i64 p, .int .i64 most] w fun e w' => e = .returned (.bool true) ∧ Below w.heap.size w w' := by
  by_cases h : 70000 < la ∨ 1000 < lb ∨ 1000 < lc
  · exact wrapped_big a b c la lb lc ca cb cc p most w h
  · by_cases hk : la ≤ 65536
    · exact wrapped_yes a b c la lb lc ca cb cc o x y p most w hO hA hC (by omega) (by omega) (by omega) hca hcb na nb nc hk
    · exact wrapped_no a b c la lb lc ca cb cc o x y p most w hO hA hC (by omega) (by omega) (by omega) hca hcb na nb nc (by omega)
end Go.Proofs.Ytinmggkofdjblaa
