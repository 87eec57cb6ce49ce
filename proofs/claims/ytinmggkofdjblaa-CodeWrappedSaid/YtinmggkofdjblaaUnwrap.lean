import Derived.Test.YtinmggkofdjblaaWrap
namespace Go.Proofs.Ytinmggkofdjblaa
open Go.RowKit
open CodeMath
def unwS (l : List Nat) (p most : Int) : List Nat × Nat × Int :=
  if 0 ≤ p ∧ p ≤ l.length ∧ 0 ≤ most ∧ most ≤ 65536 then
    if (getU l p).2.2 = 0 then
      if most < (getU l p).1 then ([], 0, 4)
      else if l.length < (getU l p).2.1 + (getU l p).1 then ([], 0, 8)
      else ((l.drop (getU l p).2.1).take (getU l p).1, (getU l p).2.1 + (getU l p).1, 0)
    else ([], 0, (getU l p).2.2)
  else ([], 0, 2)
def UnwU (w : World) (r : List Nat × Nat × Int) (e : Ending) (w' : World) : Prop :=
  ∃ v, e = .returned (.tuple #[v, .int .i64 (r.2.1 : Int), .int .i64 r.2.2]) ∧ w'.ownsRow w.heap.size 5 1 v r.1.length (byv r.1) ∧ Below w.heap.size w w'
theorem unwU_no (w w' : World) (n : Int) (hb : Below w.heap.size w w') : UnwU w ([], 0, n) (.returned (.tuple #[.slice none 0 0, .int .i64 0, .int .i64 n])) w' :=
  ⟨.slice none 0 0, rfl, World.ownsRow_nil _ _ _ _, hb⟩
theorem unwrap_arg (a : Option Addr) (len cap : Nat) (p most : Int) (w : World) (h : ¬ (0 ≤ p ∧ p ≤ (len : Int) ∧ 0 ≤ most ∧ most ≤ 65536)) (f : Nat) (hf : f = 15 ∨ f = 17) :
    Calls Try.prog f #[.slice a len cap, .int .i64 p, .int .i64 most] w (UnwU w ([], 0, 2)) := by
  have HU := Lib.hid (unwU_no w w 2 (Below.refl _ _))
  have d1 : ∀ b : Bool, True := fun _ => trivial
  clear d1
  by_cases h1 : p < 0
  · have e1 : decide (p < 0) = true := by simp; omega
    clear h
    rcases hf with rfl | rfl
    · go_enter Try.func15, Try.ntmps15
      go_wp2_with fail
      go_ret3
      exact HU.out
    · go_enter Try.func17, Try.ntmps17
      go_wp2_with fail
      go_ret3
      exact HU.out
  · have e1 : decide (p < 0) = false := by simp; omega
    by_cases h2 : (len : Int) < p
    · have e2 : decide ((len : Int) < p) = true := by simp; omega
      clear h
      rcases hf with rfl | rfl
      · go_enter Try.func15, Try.ntmps15
        go_wp2_with fail
        go_ret3
        exact HU.out
      · go_enter Try.func17, Try.ntmps17
        go_wp2_with fail
        go_ret3
        exact HU.out
    · have e2 : decide ((len : Int) < p) = false := by simp; omega
      by_cases h3 : most < 0
      · have e3 : decide (most < 0) = true := by simp; omega
        clear h
        rcases hf with rfl | rfl
        · go_enter Try.func15, Try.ntmps15
          go_wp2_with fail
          go_ret3
          exact HU.out
        · go_enter Try.func17, Try.ntmps17
          go_wp2_with fail
          go_ret3
          exact HU.out
      · have e3 : decide (most < 0) = false := by simp; omega
        have e4 : decide ((65536 : Int) < most) = true := by simp; omega
        clear h
        rcases hf with rfl | rfl
        · go_enter Try.func15, Try.ntmps15
          go_wp2_with fail
          go_ret3
          exact HU.out
        · go_enter Try.func17, Try.ntmps17
          go_wp2_with fail
          go_ret3
          exact HU.out
theorem unwrap_any (a : Option Addr) (len cap : Nat) (p most : Int) (l : List Nat) (w : World) (hBL : BL w a len l) (hm : len ≤ 100000) (hcap : len ≤ cap) :
    Calls Try.prog 15 #[.slice a len cap, .int .i64 p, .int .i64 most] w (UnwU w (unwS l p most)) := by
  have hl := hBL.len
  by_cases hok : 0 ≤ p ∧ p ≤ (len : Int) ∧ 0 ≤ most ∧ most ≤ 65536
  · have hS : unwS l p most = if (getU l p).2.2 = 0 then if most < (getU l p).1 then ([], 0, 4) else if l.length < (getU l p).2.1 + (getU l p).1 then ([], 0, 8) else ((l.drop (getU l p).2.1).take (getU l p).1, (getU l p).2.1 + (getU l p).1, 0) else ([], 0, (getU l p).2.2) := by
      unfold unwS; rw [if_pos (by rw [hl]; exact hok)]
    obtain ⟨o1, o2, o3, o4⟩ := hok
    have e1 : decide (p < 0) = false := by simp; omega
    have e2 : decide ((len : Int) < p) = false := by simp; omega
    have e3 : decide (most < 0) = false := by simp; omega
    have e4 : decide ((65536 : Int) < most) = false := by simp; omega
    have HG := Lib.hid (get_u a len cap l p w hBL (by omega) hcap)
    by_cases hz : (getU l p).2.2 = 0
    · obtain ⟨q, rfl, hq2, hm2, hqn, hnl, hdg⟩ := getU_ok l p hBL.lt hz
      rw [if_pos hz] at hS
      have hdl := congrArg List.length hdg
      have hpos := digs_pos (getU l (q : Int)).1
      rw [List.length_take, List.length_drop] at hdl
      have hqn2 : q < (getU l (q : Int)).2.1 := by omega
      clear hdg hdl hpos
      generalize getU l (q : Int) = r at *
      obtain ⟨n, nx, ee⟩ := r
      simp only [] at hz hm2 hqn hnl hqn2 hS
      subst hz
      have hlx := Lib.hid hl
      rw [hl] at hnl hS
      have HU4 := Lib.hid (unwU_no w w 4 (Below.refl _ _))
      have HU8 := Lib.hid (unwU_no w w 8 (Below.refl _ _))
      by_cases hmo : most < (n : Int)
      · rw [if_pos hmo] at hS
        have HS := Lib.hid hS
        have e5 : decide (most < (n : Int)) = true := by simp; omega
        clear hS hl
        go_enter Try.func15, Try.ntmps15
        go_wp2_with fail
        refine HG.out.mono ?_
        rintro e w1 ⟨rfl, rfl⟩
        go_wp2_with fail
        go_ret3
        rw [HS.out]
        exact HU4.out
      · rw [if_neg hmo] at hS
        have e5 : decide (most < (n : Int)) = false := by simp; omega
        by_cases hfit : len < nx + n
        · rw [if_pos hfit] at hS
          have HS := Lib.hid hS
          have e6 : decide ((len : Int) - (nx : Int) < (n : Int)) = true := by simp; omega
          clear hS hl
          go_enter Try.func15, Try.ntmps15
          go_wp2_with fail
          refine HG.out.mono ?_
          rintro e w1 ⟨rfl, rfl⟩
          go_wp2_with fail
          go_ret3
          rw [HS.out]
          exact HU8.out
        · rw [if_neg hfit] at hS
          have HS := Lib.hid hS
          have e6 : decide ((len : Int) - (nx : Int) < (n : Int)) = false := by simp; omega
          obtain ⟨b, off, rfl, -⟩ := hBL.cell 0 (by rw [hl]; omega)
          have c0 : (0 : Int) ≤ (nx : Int) := by omega
          have c1 : (nx : Int) ≤ (nx : Int) + (n : Int) := by omega
          have c2 : (nx : Int) + (n : Int) ≤ (cap : Int) := by omega
          have hsub : nx + n - nx = n := by omega
          have hlen : ((l.drop nx).take n).length = n := by rw [List.length_take, List.length_drop, hl]; omega
          have HLN := Lib.hid hlen
          have HC : Hid (∀ A c, (A = some ⟨b, off + nx, none⟩ ∨ n = 0) → Calls Try.prog 20 #[.slice A n c] w (ClonePost w ((l.drop nx).take n))) := by
            intro A c hA
            refine clone_any A n c _ w ?_ (by omega)
            rcases hA with rfl | hn
            · have := BL.sub hBL nx (nx + n) (by omega) (by omega)
              rwa [hsub] at this
            · subst hn
              exact ⟨by simp, fun i h => by simp at h, fun i h => by simp at h⟩
          clear hS hl hlen
          by_cases hce : cap = nx
          · subst hce
            obtain rfl : n = 0 := by omega
            go_enter Try.func15, Try.ntmps15
            go_wp2_with fail
            refine HG.out.mono ?_
            rintro e w1 ⟨rfl, rfl⟩
            go_wp2_with fail
            refine (HC.out _ _ (by simp)).mono ?_
            rintro e w2 ⟨v, rfl, hown, hb⟩
            go_wp2_with fail
            go_ret3
            rw [HS.out]
            exact ⟨v, rfl, hown, hb⟩
          · go_enter Try.func15, Try.ntmps15
            go_wp2_with fail
            refine HG.out.mono ?_
            rintro e w1 ⟨rfl, rfl⟩
            go_wp2_with fail
            refine (HC.out _ _ (.inl rfl)).mono ?_
            rintro e w2 ⟨v, rfl, hown, hb⟩
            go_wp2_with fail
            go_ret3
            rw [HS.out]
            exact ⟨v, rfl, hown, hb⟩
    · obtain ⟨z1, z2⟩ := getU_no l p hz
      rw [if_neg hz] at hS
      generalize getU l p = r at *
      obtain ⟨n, nx, ee⟩ := r
      simp only [] at hz z1 z2 hS
      subst z1 z2
      have hee : (ee != 0) = true := by rw [bne_iff_ne]; exact hz
      have HS := Lib.hid hS
      have HU := Lib.hid (unwU_no w w ee (Below.refl _ _))
      clear hS hz hl
      go_enter Try.func15, Try.ntmps15
      go_wp2_with fail
      refine HG.out.mono ?_
      rintro e w1 ⟨rfl, rfl⟩
      go_wp2_with fail
      go_ret3
      rw [HS.out]
      exact HU.out
  · have : unwS l p most = ([], 0, 2) := by unfold unwS; rw [if_neg (by rw [hl]; exact hok)]
    rw [this]
    exact unwrap_arg a len cap p most w hok 15 (.inl rfl)
end Go.Proofs.Ytinmggkofdjblaa
