/-
  The reference's Unwrap, walked.
-/
import Derived.Test.YtinmggkofdjblaaUnwrap
namespace Go.Proofs.Ytinmggkofdjblaa
open Go.RowKit
open CodeMath
set_option maxRecDepth 100000 in
theorem refunwrap_any (a : Option Addr) (len cap : Nat) (p most : Int) (l : List Nat) (w : World) (hBL : BL w a len l) (hm : len ≤ 100000) (hcap : len ≤ cap) (na : a = none → cap = 0) :
    Calls Try.prog 17 #[.slice a len cap, .int .i64 p, .int .i64 most] w (UnwU w (unwS l p most)) := by
  have hl := hBL.len
  by_cases hok : 0 ≤ p ∧ p ≤ (len : Int) ∧ 0 ≤ most ∧ most ≤ 65536
  · have hS : unwS l p most = if (getU l p).2.2 = 0 then if most < (getU l p).1 then ([], 0, 4) else if l.length < (getU l p).2.1 + (getU l p).1 then ([], 0, 8) else ((l.drop (getU l p).2.1).take (getU l p).1, (getU l p).2.1 + (getU l p).1, 0) else ([], 0, (getU l p).2.2) := by
      unfold unwS; rw [if_pos (by rw [hl]; exact hok)]
    obtain ⟨o1, o2, o3, o4⟩ := hok
    have e1 : decide (p < 0) = false := by simp; omega
    have e2 : decide ((len : Int) < p) = false := by simp; omega
    have e3 : decide (most < 0) = false := by simp; omega
    have e4 : decide ((65536 : Int) < most) = false := by simp; omega
    have HG := Lib.hid (refget_u a len cap l p w hBL (by omega) hcap)
    by_cases hz : (getU l p).2.2 = 0
    · obtain ⟨q, rfl, hq2, hm2, hqn, hnl, hdg⟩ := getU_ok l p hBL.lt hz
      rw [if_pos hz] at hS
      have hdl := congrArg List.length hdg
      have hpos := digs_pos (getU l (q : Int)).1
      rw [List.length_take, List.length_drop] at hdl
      have hqn2 : q < (getU l (q : Int)).2.1 := by omega
      clear hdg hdl hpos
      generalize getU l (q : Int) = r at *
      obtain ⟨n, nx, ee⟩ := r
      simp only [] at hz hm2 hqn hnl hqn2 hS
      subst hz
      have hlx := Lib.hid hl
      rw [hl] at hnl hS
      have HU4 : Hid (∀ w', Below w.heap.size w w' → _) := fun w' hb => unwU_no w w' 4 hb
      have HU8 : Hid (∀ w', Below w.heap.size w w' → _) := fun w' hb => unwU_no w w' 8 hb
      by_cases hmo : most < (n : Int)
      · rw [if_pos hmo] at hS
        have HS := Lib.hid hS
        have e5 : decide (most < (n : Int)) = true := by simp; omega
        clear hS hl
        go_enter Try.func17, Try.ntmps17
        go_wp2_with fail
        refine HG.out.mono ?_
        rintro e w1 ⟨rfl, hb⟩
        go_wp2_with fail
        go_ret3
        rw [HS.out]
        exact HU4.out _ hb
      · rw [if_neg hmo] at hS
        have e5 : decide (most < (n : Int)) = false := by simp; omega
        by_cases hfit : len < nx + n
        · rw [if_pos hfit] at hS
          have HS := Lib.hid hS
          have e6 : decide ((len : Int) < (nx : Int) + (n : Int)) = true := by simp; omega
          clear hS hl
          go_enter Try.func17, Try.ntmps17
          go_wp2_with fail
          refine HG.out.mono ?_
          rintro e w1 ⟨rfl, hb⟩
          go_wp2_with fail
          go_ret3
          rw [HS.out]
          exact HU8.out _ hb
        · rw [if_neg hfit] at hS
          have HS := Lib.hid hS
          have e6 : decide ((len : Int) < (nx : Int) + (n : Int)) = false := by simp; omega
          obtain ⟨b, off, rfl, -⟩ := hBL.cell 0 (by rw [hl]; omega)
          have c0 : (0 : Int) ≤ (nx : Int) := by omega
          have c1 : (nx : Int) ≤ (nx : Int) + (n : Int) := by omega
          have c2 : (nx : Int) + (n : Int) ≤ (cap : Int) := by omega
          have hsub : nx + n - nx = n := by omega
          have hlen : ((l.drop nx).take n).length = n := by rw [List.length_take, List.length_drop, hl]; omega
          have HLN := Lib.hid hlen
          have HB : Hid (∀ w' A, Below w.heap.size w w' → (A = some ⟨b, off + nx, none⟩ ∨ n = 0) → BL w' A n ((l.drop nx).take n)) := by
            intro w' A hb hA
            rcases hA with rfl | hn
            · have := BL.sub (hBL.below hb) nx (nx + n) (by omega) (by omega)
              rwa [hsub] at this
            · subst hn
              exact ⟨by simp, fun i h => by simp at h, fun i h => by simp at h⟩
          clear hS hl hlen hBL
          by_cases hce : cap = nx
          · subst hce
            obtain rfl : n = 0 := by omega
            go_enter Try.func17, Try.ntmps17
            go_wp2_with fail
            refine HG.out.mono ?_
            rintro e w1 ⟨rfl, hb⟩
            go_wp2_with fail
            go_ret3
            rw [HS.out]
            exact ⟨.slice none 0 0, by simp, World.ownsRow_nil _ _ _ _, hb⟩
          · go_enter Try.func17, Try.ntmps17
            go_wp2_with fail
            refine HG.out.mono ?_
            rintro e w1 ⟨rfl, hb⟩
            have HB2 : Hid (BL w1 (some ⟨b, off + nx, none⟩) (nx + n - nx) (List.take n (List.drop nx l))) := by rw [hsub]; exact HB.out _ _ hb (.inl rfl)
            go_wp2_with (refine wpList_append_bl rfl (.tmp 48) (.tmp 54) rfl w.heap.size (.slice none 0 0) 0 [] rfl (World.ownsRow_nil _ _ _ _) (some ⟨b, off + nx, none⟩) (nx + n - nx) (cap - nx) _ rfl HB2.out (fun e => nomatch e) (by omega) hb.size ?_; intro v2 w2 hown2 hg2)
            go_ret3
            rw [HS.out]
            rw [Nat.zero_add, List.nil_append, hsub] at hown2
            exact ⟨v2, by simp, by rw [HLN.out]; exact hown2, hb.grown hg2 hb.size (fun k e => by cases e)⟩
    · obtain ⟨z1, z2⟩ := getU_no l p hz
      rw [if_neg hz] at hS
      generalize getU l p = r at *
      obtain ⟨n, nx, ee⟩ := r
      simp only [] at hz z1 z2 hS
      subst z1 z2
      have hee : (ee != 0) = true := by rw [bne_iff_ne]; exact hz
      have HS := Lib.hid hS
      have HU : Hid (∀ w', Below w.heap.size w w' → _) := fun w' hb => unwU_no w w' ee hb
      clear hS hz hl
      go_enter Try.func17, Try.ntmps17
      go_wp2_with fail
      refine HG.out.mono ?_
      rintro e w1 ⟨rfl, hb⟩
      go_wp2_with fail
      go_ret3
      rw [HS.out]
      exact HU.out _ hb
  · have : unwS l p most = ([], 0, 2) := by unfold unwS; rw [if_neg (by rw [hl]; exact hok)]
    rw [this]
    exact unwrap_arg a len cap p most w hok 17 (.inr rfl)
end Go.Proofs.Ytinmggkofdjblaa
