/-
  The walk of the law CodeBack.
-/
import Derived.Test.YtinmggkofdjblaaBackMath
import Derived.Deep.QuietTactic
import Derived.BigQuiet
namespace Go.Proofs.Ytinmggkofdjblaa
open Go.RowKit
open CodeMath
theorem BL.drewN {w : World} {a : Option Addr} {len : Nat} {l : List Nat} (h : BL w a len l) (n : Nat) : BL (w.drewN n) a len l := ⟨h.len, h.lt, fun i hi => h.cell i hi⟩
theorem BL.sub {w : World} {b off len : Nat} {l : List Nat} (h : BL w (some ⟨b, off, none⟩) len l) (i j : Nat) (_hij : i ≤ j) (hj : j ≤ len) : BL w (some ⟨b, off + i, none⟩) (j - i) ((l.drop i).take (j - i)) := by
  have hl := h.len
  refine ⟨by rw [List.length_take, List.length_drop]; omega, fun k hk => ?_, fun k hk => ⟨b, off + i, rfl, ?_⟩⟩
  · rw [List.getElem_take, List.getElem_drop]; exact h.lt _ _
  · rw [List.length_take, List.length_drop] at hk
    obtain ⟨b', off', e, hc⟩ := h.cell (i + k) (by omega)
    cases e
    rw [List.getElem_take, List.getElem_drop, Nat.add_assoc]
    exact hc
theorem getU_no (l : List Nat) (p : Int) (h : (getU l p).2.2 ≠ 0) : (getU l p).1 = 0 ∧ (getU l p).2.1 = 0 := by
  unfold getU at h ⊢
  by_cases hp : 0 ≤ p ∧ p ≤ l.length
  · rw [if_pos hp] at h ⊢
    unfold getS at h ⊢
    cases hsc : scan 0 0 (l.drop p.toNat) with
    | none => exact ⟨rfl, rfl⟩
    | some xc => rw [hsc] at h; exact absurd rfl h
  · rw [if_neg hp]; exact ⟨rfl, rfl⟩
set_option maxRecDepth 100000 in
theorem back_big (n p : Int) (a b : Option Addr) (la lb ca cb : Nat) (w : World) (h : 1000 < la ∨ 1000 < lb) :
    Calls Try.prog 5 #[.int .i64 n, .slice a la ca, .slice b lb cb, .int .i64 p] w fun e w' => e = .returned (.bool true) ∧ Below w.heap.size w w' := by
  by_cases h1 : 1000 < la
  · have hd : decide ((1000 : Int) < (la : Int)) = true := by simp; omega
    go_enter Try.func5, Try.ntmps5
    go_wp2_with (go_at_call 9; refine (alive_any _).mono ?_; rintro e w1 ⟨rfl, hb1⟩)
    go_ret
    exact ⟨rfl, hb1⟩
  · have hd : decide ((1000 : Int) < (la : Int)) = false := by simp; omega
    have hd2 : decide ((1000 : Int) < (lb : Int)) = true := by simp; omega
    go_enter Try.func5, Try.ntmps5
    go_wp2_with (go_at_call 9; refine (alive_any _).mono ?_; rintro e w1 ⟨rfl, hb1⟩)
    go_ret
    exact ⟨rfl, hb1⟩
set_option maxRecDepth 100000 in
theorem back_no (n p : Int) (a b : Option Addr) (la lb ca cb : Nat) (x : List Nat) (w : World) (hA : BL w a la x) (h1 : ¬ 1000 < la) (h2 : ¬ 1000 < lb) (hca : la ≤ ca) (hn : ¬ putOk n) :
    Calls Try.prog 5 #[.int .i64 n, .slice a la ca, .slice b lb cb, .int .i64 p] w fun e w' => e = .returned (.bool true) ∧ Below w.heap.size w w' := by
  have hd : decide ((1000 : Int) < (la : Int)) = false := by simp; omega
  have hd2 : decide ((1000 : Int) < (lb : Int)) = false := by simp; omega
  have HA : Hid (∀ w', Below w.heap.size w w' → BL w' a la x) := fun w' h => hA.below h
  have HLX := Lib.hid hA.lt
  have hlx := Lib.hid hA.len
  have hpe : Hid (putE n = 2) := by show _ = _; rw [putE, if_neg hn]
  clear hA hn
  go_enter Try.func5, Try.ntmps5
  go_wp2_with fail
  refine (alive_any _).mono ?_
  rintro e w1 ⟨rfl, hb1⟩
  go_wp2_with fail
  refine (put_u n _).mono ?_
  rintro e w2 ⟨a2, len2, cap2, rfl, _, _, hb2⟩
  have k2 : Below w.heap.size w w2 := hb1.trans (hb2.mono hb1.size)
  simp only [hpe.out]
  go_wp2_with fail
  refine (get_u a la ca x p _ (HA.out _ k2) (by omega) hca).mono ?_
  rintro e w9 ⟨rfl, rfl⟩
  by_cases hz : (getU x p).2.2 = 0
  · obtain ⟨q, rfl, hq, hm, hqn, hnl, hdg⟩ := getU_ok x p HLX.out hz
    generalize getU x (q : Int) = r at *
    obtain ⟨mm, nx, ee⟩ := r
    simp only [] at hz hm hqn hnl hdg
    subst hz
    have hpos := digs_pos mm
    have hdl := congrArg List.length hdg
    rw [List.length_take, List.length_drop] at hdl
    have hqn2 : q < nx := by omega
    have HDG := Lib.hid hdg
    clear hdg hdl hpos
    obtain ⟨b1, off, rfl, _⟩ := (HA.out w (Below.refl _ _)).cell 0 (by rw [hlx.out]; have := hlx.out; omega)
    have zm : Hid (putE (mm : Int) = 0 ∧ putL (mm : Int) = digs mm) := by
      have ok : putOk (mm : Int) := ⟨by omega, by omega⟩
      exact ⟨by rw [putE, if_pos ok], by rw [putL, if_pos ok, Int.toNat_natCast]⟩
    go_wp2_with fail
    refine (put_u _ _).mono ?_
    rintro e w10 ⟨a3, len3, cap3, rfl, hB3, _, hb3⟩
    have k3 : Below w.heap.size w w10 := k2.trans (hb3.mono k2.size)
    simp only [zm.out.1]
    rw [zm.out.2, HDG.out] at hB3
    have hx1 := BL.str hB3 cap3
    have hx2 := BL.str (BL.sub (HA.out w10 k3) q nx (by omega) (by rw [← hlx.out]; exact hnl)) (ca - q)
    have hne : ¬ ca = q := by rw [hlx.out] at hnl; omega
    have c0 : (0 : Int) ≤ (q : Int) := by omega
    have c1 : (q : Int) ≤ (nx : Int) := by omega
    have c2 : (nx : Int) ≤ (ca : Int) := by rw [hlx.out] at hnl; omega
    have hx3 : ∀ k, Sem.run Try.prog (convert 23 9 (.slice a3 len3 cap3)) (w10.drewN k) = .ok (.string (strB (List.take (nx - q) (List.drop q x)))) (w10.drewN k) := fun k => BL.str (hB3.drewN k) cap3
    have hx4 : ∀ k, Sem.run Try.prog (convert 23 9 (.slice (some ⟨b1, off + q, none⟩) (nx - q) (ca - q))) (w10.drewN k) = .ok (.string (strB (List.take (nx - q) (List.drop q x)))) (w10.drewN k) := fun k => BL.str ((BL.sub (HA.out w10 k3) q nx (by omega) (by rw [← hlx.out]; exact hnl)).drewN k) (ca - q)
    clear hB3 hb3 hx1 hx2
    go_wp2_with fail
    go_quiet (fail)
    go_wp2_with fail
    go_ret
    exact ⟨rfl, below_drewN k3 _⟩
  · obtain ⟨z1, z2⟩ := getU_no x p hz
    generalize getU x p = r at *
    obtain ⟨mm, nx, ee⟩ := r
    simp only [] at hz z1 z2
    subst z1 z2
    have hee : (ee != 0) = true := by rw [bne_iff_ne]; exact hz
    clear hz
    go_wp2_with fail
    go_ret
    exact ⟨rfl, k2⟩
theorem own_cap {w : World} {base : Nat} {a : Option Addr} {n cap : Nat} {xs : List Value} (h : w.ownsRow base 5 1 (.slice a n cap) n xs) : n ≤ cap := by
  rcases h.2 with ⟨e, e2⟩ | ⟨g, cap', cur, e, _, _, hn, _⟩
  · cases e; exact Nat.le_refl _
  · cases e; exact hn
set_option maxRecDepth 100000 in
set_option maxHeartbeats 1000000 in
theorem back_yes (k : Nat) (p : Int) (a b : Option Addr) (la lb ca cb : Nat) (x y : List Nat) (w : World) (hA : BL w a la x) (hBy : BL w b lb y) (h1 : ¬ 1000 < la) (h2 : ¬ 1000 < lb) (hca : la ≤ ca) (na : a = none → ca = 0) (nb : b = none → cb = 0) (hk : k ≤ 2147483647) :
    Calls Try.prog 5 #[.int .i64 (k : Int), .slice a la ca, .slice b lb cb, .int .i64 p] w fun e w' => e = .returned (.bool true) ∧ Below w.heap.size w w' := by
  have hd : decide ((1000 : Int) < (la : Int)) = false := by simp; omega
  have hd2 : decide ((1000 : Int) < (lb : Int)) = false := by simp; omega
  have HA : Hid (∀ w', Below w.heap.size w w' → BL w' a la x) := fun w' h => hA.below h
  have HBy : Hid (∀ w', Below w.heap.size w w' → BL w' b lb y) := fun w' h => hBy.below h
  have HLX := Lib.hid hA.lt
  have HLY := Lib.hid hBy.lt
  have hlx := Lib.hid hA.len
  have hpe : Hid (putE (k : Int) = 0 ∧ putL (k : Int) = digs k) := by
    have ok : putOk (k : Int) := ⟨by omega, by omega⟩
    exact ⟨by rw [putE, if_pos ok], by rw [putL, if_pos ok, Int.toNat_natCast]⟩
  have hgu : Hid (getU ((x ++ digs k) ++ y) (la : Int) = (k, la + (digs k).length, 0)) := by
    have := getS_digs x y k hk
    show _ = _
    rw [getU, if_pos ⟨by omega, by rw [List.append_assoc, List.length_append, hlx.out]; omega⟩, Int.toNat_natCast, List.append_assoc, ← hlx.out, this]
  have h5 := digs_len5 (n := k) (by omega)
  clear hA hBy
  go_enter Try.func5, Try.ntmps5
  go_wp2_with fail
  refine (alive_any _).mono ?_
  rintro e w1 ⟨rfl, hb1⟩
  go_wp2_with fail
  refine (put_u _ _).mono ?_
  rintro e w2 ⟨a2, len2, cap2, rfl, hB2, n2, hb2⟩
  have k2 : Below w.heap.size w w2 := hb1.trans (hb2.mono hb1.size)
  clear hb1 hb2
  simp only [hpe.out.1]
  rw [hpe.out.2] at hB2
  have hl2 := hB2.len
  have HL2 := Lib.hid hl2
  have hl5 : len2 ≤ 5 := by omega
  have HB2 : Hid (∀ w', Below w2.heap.size w2 w' → BL w' a2 len2 (digs k)) := fun w' h => hB2.below h
  clear hB2 hl2 h5
  go_wp2_with (first | (refine wpList_append_bl rfl (.tmp 42) (.tmp 43) rfl w2.heap.size (.slice none 0 0) 0 [] rfl (World.ownsRow_nil _ _ _ _) a la ca x rfl (HA.out w2 k2) na (by omega) (Nat.le_refl _) ?_; intro v4 w4 hown4 hg4; rw [Nat.zero_add, List.nil_append] at hown4; have k4 : Below w2.heap.size w2 w4 := (Below.refl _ w2).grown hg4 (Nat.le_refl _) (fun k e => by cases e); have s4 : w2.heap.size ≤ w4.heap.size := hg4.size; clear hg4) | (refine wpList_append_bl rfl (.tmp 45) (.tmp 46) rfl w2.heap.size v4 la x rfl hown4 a2 len2 cap2 (digs k) rfl (HB2.out w4 k4) n2 (by omega) s4 ?_; intro v5 w5 hown5 hg5; have k5 : Below w2.heap.size w2 w5 := k4.grown hg5 k4.size (fun k e => own_ge hown4 e (Nat.le_refl _)); have s5 : w2.heap.size ≤ w5.heap.size := Nat.le_trans s4 hg5.size; clear hg5) | (refine wpList_append_bl rfl (.tmp 48) (.tmp 49) rfl w2.heap.size v5 (la + len2) (x ++ digs k) rfl hown5 b lb cb y rfl (HBy.out w5 (k2.trans (k5.mono k2.size))) nb (by omega) s5 ?_; intro v6 w6 hown6 hg6; have k6 : Below w2.heap.size w2 w6 := k5.grown hg6 k5.size (fun k e => own_ge hown5 e (Nat.le_refl _)); clear hg6))
  have hl6 : ∀ i (h : i < ((x ++ digs k) ++ y).length), ((x ++ digs k) ++ y)[i] < 256 := lt_append (lt_append HLX.out (digs_byte k)) HLY.out
  obtain ⟨a6, c6, rfl, hB6, _⟩ := BL.of_own hown6 hl6
  have hc6 : la + len2 + lb ≤ c6 := own_cap hown6
  have kk : Below w.heap.size w w6 := k2.trans (k6.mono k2.size)
  clear hown4 hown5 hown6 k4 k5 k6 s4 s5 hl6
  refine (get_u a6 (la + len2 + lb) c6 _ (la : Int) _ hB6 (by omega) hc6).mono ?_
  rintro e w7 ⟨rfl, rfl⟩
  simp only [hgu.out]
  rw [HL2.out]
  clear hB6
  have hd5 : decide ((5 : Int) < (len2 : Int)) = false := by simp; omega
  go_wp2_with fail
  refine (get_u a la ca x p _ (HA.out _ kk) (by omega) hca).mono ?_
  rintro e w9 ⟨rfl, rfl⟩
  by_cases hz : (getU x p).2.2 = 0
  · obtain ⟨q, rfl, hq, hm, hqn, hnl, hdg⟩ := getU_ok x p HLX.out hz
    generalize getU x (q : Int) = r at *
    obtain ⟨mm, nx, ee⟩ := r
    simp only [] at hz hm hqn hnl hdg
    subst hz
    have hpos := digs_pos mm
    have hdl := congrArg List.length hdg
    rw [List.length_take, List.length_drop] at hdl
    have hqn2 : q < nx := by omega
    have HDG := Lib.hid hdg
    clear hdg hdl hpos
    obtain ⟨b1, off, rfl, _⟩ := (HA.out w (Below.refl _ _)).cell 0 (by rw [hlx.out]; have := hlx.out; omega)
    have zm : Hid (putE (mm : Int) = 0 ∧ putL (mm : Int) = digs mm) := by
      have ok : putOk (mm : Int) := ⟨by omega, by omega⟩
      exact ⟨by rw [putE, if_pos ok], by rw [putL, if_pos ok, Int.toNat_natCast]⟩
    go_wp2_with fail
    refine (put_u _ _).mono ?_
    rintro e w10 ⟨a3, len3, cap3, rfl, hB3, _, hb3⟩
    have k3 : Below w.heap.size w w10 := kk.trans (hb3.mono kk.size)
    simp only [zm.out.1]
    rw [zm.out.2, HDG.out] at hB3
    have hx1 := BL.str hB3 cap3
    have hx2 := BL.str (BL.sub (HA.out w10 k3) q nx (by omega) (by rw [← hlx.out]; exact hnl)) (ca - q)
    have hne : ¬ ca = q := by rw [hlx.out] at hnl; omega
    have c0 : (0 : Int) ≤ (q : Int) := by omega
    have c1 : (q : Int) ≤ (nx : Int) := by omega
    have c2 : (nx : Int) ≤ (ca : Int) := by rw [hlx.out] at hnl; omega
    have hx3 : ∀ k, Sem.run Try.prog (convert 23 9 (.slice a3 len3 cap3)) (w10.drewN k) = .ok (.string (strB (List.take (nx - q) (List.drop q x)))) (w10.drewN k) := fun k => BL.str (hB3.drewN k) cap3
    have hx4 : ∀ k, Sem.run Try.prog (convert 23 9 (.slice (some ⟨b1, off + q, none⟩) (nx - q) (ca - q))) (w10.drewN k) = .ok (.string (strB (List.take (nx - q) (List.drop q x)))) (w10.drewN k) := fun k => BL.str ((BL.sub (HA.out w10 k3) q nx (by omega) (by rw [← hlx.out]; exact hnl)).drewN k) (ca - q)
    clear hB3 hb3 hx1 hx2
    go_wp2_with fail
    go_quiet (fail)
    go_wp2_with fail
    go_ret
    exact ⟨rfl, below_drewN k3 _⟩
  · obtain ⟨z1, z2⟩ := getU_no x p hz
    generalize getU x p = r at *
    obtain ⟨mm, nx, ee⟩ := r
    simp only [] at hz z1 z2
    subst z1 z2
    have hee : (ee != 0) = true := by rw [bne_iff_ne]; exact hz
    clear hz
    go_wp2_with fail
    go_ret
    exact ⟨rfl, kk⟩
theorem back_any (n p : Int) (a b : Option Addr) (la lb ca cb : Nat) (x y : List Nat) (w : World) (hA : BL w a la x) (hBy : BL w b lb y) (hca : la ≤ ca) (na : a = none → ca = 0) (nb : b = none → cb = 0) :
    Calls Try.prog 5 #[.int .i64 n, .slice a la ca, .slice b lb cb, .int .i64 p] w fun e w' => e = .returned (.bool true) ∧ Below w.heap.size w w' := by
  by_cases h1 : 1000 < la
  · exact back_big n p a b la lb ca cb w (.inl h1)
  · by_cases h2 : 1000 < lb
    · exact back_big n p a b la lb ca cb w (.inr h2)
    · by_cases hn : putOk n
      · obtain ⟨k, rfl⟩ := Int.eq_ofNat_of_zero_le hn.1
        exact back_yes k p a b la lb ca cb x y w hA hBy h1 h2 hca na nb (by have := hn.2; omega)
      · exact back_no n p a b la lb ca cb x w hA h1 h2 hca hn
end Go.Proofs.Ytinmggkofdjblaa
