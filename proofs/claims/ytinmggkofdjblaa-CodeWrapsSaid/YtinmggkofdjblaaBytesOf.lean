/-
  The reference's Bytes (a recursion) and Put, walked.
-/
import Derived.Test.YtinmggkofdjblaaGet
namespace Go.Proofs.Ytinmggkofdjblaa
open Go.RowKit
open CodeMath
def BytesPost (w : World) (n : Nat) (e : Ending) (w' : World) : Prop :=
  ∃ v, e = .returned v ∧ w'.ownsRow w.heap.size 5 1 v (digs n).length (byv (digs n)) ∧ Below w.heap.size w w'
theorem own_slice {w : World} {base n : Nat} {v : Value} {l : List Nat} (h : w.ownsRow base 5 1 v n (byv l)) (hn : 0 < n) (hl : ∀ i (h : i < l.length), l[i] < 256) :
    ∃ g cap, v = .slice (some ⟨g, 0, none⟩) n cap ∧ BL w (some ⟨g, 0, none⟩) n l ∧ base ≤ g := by
  obtain ⟨a, cap, rfl, hb, _⟩ := BL.of_own h hl
  rcases h.2 with ⟨e, e2⟩ | ⟨g, cap', cur, e, hg, _⟩
  · omega
  · cases e; exact ⟨g, cap, rfl, hb, hg⟩
set_option maxHeartbeats 400000 in
theorem bytes_any (n : Nat) : ∀ (w : World), n ≤ 34359738367 → Calls Try.prog 19 #[.int .i64 (n : Int)] w (BytesPost w n) := by
  induction n using Nat.strongRecOn with
  | _ n ih =>
    intro w hn
    by_cases h128 : n < 128
    · have hd : decide ((n : Int) < 128) = true := by simp; omega
      have hD : Hid (digs n = [n]) := digs_lt h128
      go_enter Try.func19, Try.ntmps19
      go_wp2_with fail
      go_ret
      refine ⟨_, rfl, ?_, (Below.refl _ _).alloc (Nat.le_refl _) _⟩
      rw [hD.out]
      have := World.ownsRow_lit (base := w.heap.size) (size := 1) (e := 5) w #[.int .u8 (n : Int)] 1 (Nat.le_refl _) (by decide) rfl
      exact this
    · have hd : decide ((n : Int) < 128) = false := by simp; omega
      have IH := ih (n / 128) (by omega)
      have HI : Hid (∀ W : World, Calls Try.prog 19 #[.int .i64 ((n : Int) / 128)] W (BytesPost W (n / 128))) := fun W => by
        have := IH W (by omega)
        rwa [show ((n / 128 : Nat) : Int) = (n : Int) / 128 by omega] at this
      clear IH ih
      have h5 : (digs (n / 128)).length ≤ 5 := digs_len5 (by omega)
      obtain ⟨cs, hcs⟩ : ∃ cs, cs = digs (n / 128) := ⟨_, rfl⟩
      have hpos := digs_pos (n / 128)
      have hbyte := digs_byte (n / 128)
      have HD : Hid (digs n = (128 + n % 128) :: cs) := by rw [hcs]; exact digs_ge (by omega)
      have HCS := Lib.hid hcs
      rw [← hcs] at h5 hpos hbyte
      clear hcs
      go_enter Try.func19, Try.ntmps19
      go_wp2_with fail
      refine (HI.out _).mono ?_
      rintro e w1 ⟨v1, rfl, hown1, hb1⟩
      rw [← HCS.out] at hown1
      rw [World.size_alloc] at hown1 hb1
      obtain ⟨g1, c1, rfl, hB1, hg1⟩ := own_slice hown1 hpos hbyte
      have hrow : w1.ownsRow w.heap.size 5 1 (.slice (some ⟨w.heap.size, 0, none⟩) 1 1) 1 (byv [128 + n % 128]) := by
        have h0 := World.ownsRow_lit (base := w.heap.size) (size := 1) (e := 5) w #[.int .u8 ((128 + n % 128 : Nat) : Int)] 1 (Nat.le_refl _) (by decide) rfl
        rcases h0.2 with ⟨e, _⟩ | ⟨g, cap', cur, e, hg, hc, rest⟩
        · cases e
        · cases e
          refine ⟨h0.1, .inr ⟨_, _, cur, rfl, hg, ?_, rest⟩⟩
          have h3 : ((128 + n % 128 : Nat) : Int) = 128 + (n : Int) % 128 := by omega
          rw [h3] at hc
          rw [hb1.block _ (by omega)]
          exact hc
      have hs1 := hb1.size
      rw [World.size_alloc] at hs1
      go_wp2_with (refine wpList_append_bl rfl (.tmp 14) (.tmp 17) rfl w.heap.size _ 1 [128 + n % 128] rfl hrow _ _ _ cs rfl hB1 (fun e => nomatch e) (by omega) (by omega) ?_; intro v2 w2 hown2 hg2)
      go_ret
      refine ⟨v2, rfl, ?_, ?_⟩
      · rw [HD.out, List.length_cons, Nat.add_comm]; exact hown2
      · exact (((Below.refl _ _).alloc (Nat.le_refl _) _).trans (hb1.mono (by omega))).grown hg2 (by omega) (fun k e => by cases e; exact Nat.le_refl _)
theorem refput_no (n : Int) (w : World) (hn : n < 0 ∨ 2147483647 < n) : Calls Try.prog 11 #[.int .i64 n] w fun e w' => e = .returned (.tuple #[.slice none 0 0, .int .i64 2]) ∧ w = w' := by
  by_cases h0 : n < 0
  · have h1 : decide (n < 0) = true := by simp; omega
    go_enter Try.func11, Try.ntmps11
    go_wp2
    go_ret2
    exact ⟨rfl, rfl⟩
  · have h1 : decide (n < 0) = false := by simp; omega
    have h2 : decide ((2147483647 : Int) < n) = true := by simp; omega
    go_enter Try.func11, Try.ntmps11
    go_wp2
    go_ret2
    exact ⟨rfl, rfl⟩
theorem refput_any (n : Nat) (w : World) (hn : n ≤ 2147483647) : Calls Try.prog 11 #[.int .i64 (n : Int)] w (PutPost w n) := by
  have h1 : decide ((n : Int) < 0) = false := by simp
  have h2 : decide ((2147483647 : Int) < (n : Int)) = false := by simp; omega
  go_enter Try.func11, Try.ntmps11
  go_wp2_with fail
  refine (bytes_any n _ (by omega)).mono ?_
  rintro e w1 ⟨v, rfl, hown, hb⟩
  go_wp2_with fail
  go_ret2
  exact ⟨v, rfl, hown, hb⟩
end Go.Proofs.Ytinmggkofdjblaa
