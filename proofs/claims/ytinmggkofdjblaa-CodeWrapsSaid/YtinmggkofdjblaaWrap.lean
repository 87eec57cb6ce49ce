/-
  slices.Clone, and Wrap of the program and of the reference, walked.
-/
import Derived.Test.YtinmggkofdjblaaBackWalk
namespace Go.Proofs.Ytinmggkofdjblaa
open Go.RowKit
open CodeMath
def ClonePost (w : World) (l : List Nat) (e : Ending) (w' : World) : Prop :=
  ∃ v, e = .returned v ∧ w'.ownsRow w.heap.size 5 1 v l.length (byv l) ∧ Below w.heap.size w w'
theorem clone_any (a : Option Addr) (len cap : Nat) (l : List Nat) (w : World) (hBL : BL w a len l) (hm : len ≤ 100000) : Calls Try.prog 20 #[.slice a len cap] w (ClonePost w l) := by
  have e1 := fun (w : World) (c : Nat) => Lib.run_eql_slice_nil (P := Try.prog) w 23 5 a len c 0 0 Try.underlying23
  have hl := Lib.hid hBL.len
  cases a with
  | none =>
    have h0 : len = 0 := by
      have := hl.out
      cases l with
      | nil => simpa using this.symm
      | cons c l => obtain ⟨b, off, e, _⟩ := hBL.cell 0 (by simp); cases e
    subst h0
    have hn : l = [] := List.eq_nil_of_length_eq_zero hl.out
    subst hn
    simp only [Option.isNone_none] at e1
    go_enter Try.func20, Try.ntmps20
    go_wp2_with fail
    go_ret
    exact ⟨_, rfl, World.ownsRow_nil _ _ _ _, Below.refl _ _⟩
  | some ad =>
    simp only [Option.isNone_some] at e1
    have hrow : (w.alloc (.cells #[] 5)).ownsRow w.heap.size 5 1 (.slice (some ⟨w.heap.size, 0, none⟩) 0 0) 0 (byv []) := World.ownsRow_made w #[] 0 (Nat.le_refl _) (Nat.zero_le _) rfl
    have HB : Hid (BL (w.alloc (.cells #[] 5)) (some ad) len l) := hBL.below ((Below.refl _ _).alloc (Nat.le_refl _) _)
    clear hBL
    go_enter Try.func20, Try.ntmps20
    go_wp2_with (refine wpList_append_bl rfl (.tmp 5) (.tmp 6) rfl w.heap.size _ 0 [] rfl hrow (some ad) len cap l rfl HB.out (fun e => nomatch e) (by omega) (by simp) ?_; intro v2 w2 hown2 hg2)
    go_ret
    rw [Nat.zero_add, List.nil_append, ← hl.out] at hown2
    exact ⟨v2, rfl, hown2, ((Below.refl _ _).alloc (Nat.le_refl _) _).grown hg2 (by simp) (fun k e => by cases e; exact Nat.le_refl _)⟩
def wrapL (l : List Nat) : List Nat := if l.length ≤ 65536 then digs l.length ++ l else []
def wrapE (l : List Nat) : Int := if l.length ≤ 65536 then 0 else 4
def WrapU (w : World) (l : List Nat) (e : Ending) (w' : World) : Prop :=
  ∃ a len cap, e = .returned (.tuple #[.slice a len cap, .int .i64 (wrapE l)]) ∧ BL w' a len (wrapL l) ∧ (a = none → cap = 0) ∧ len ≤ cap ∧ Below w.heap.size w w'
theorem wrapU_big {w : World} {l : List Nat} (h : ¬ l.length ≤ 65536) : WrapU w l (.returned (.tuple #[.slice none 0 0, .int .i64 4])) w :=
  ⟨none, 0, 0, by rw [wrapE, if_neg h], by rw [wrapL, if_neg h]; exact BL.nil _, fun _ => rfl, Nat.le_refl _, Below.refl _ _⟩
theorem wrapU_own {w w' : World} {l : List Nat} {v : Value} (h : l.length ≤ 65536) (hl : ∀ i (h : i < l.length), l[i] < 256) (hown : w'.ownsRow w.heap.size 5 1 v ((digs l.length).length + l.length) (byv (digs l.length ++ l))) (hb : Below w.heap.size w w') :
    WrapU w l (.returned (.tuple #[v, .int .i64 0])) w' := by
  obtain ⟨a, cap, rfl, hB, hn⟩ := BL.of_own hown (lt_append (digs_byte _) hl)
  exact ⟨a, _, cap, by rw [wrapE, if_pos h], by rw [wrapL, if_pos h]; exact hB, hn, own_cap hown, hb⟩
theorem wrap_any (a : Option Addr) (len cap : Nat) (l : List Nat) (w : World) (hBL : BL w a len l) (na : a = none → cap = 0) (hm : len ≤ 100000) : Calls Try.prog 14 #[.slice a len cap] w (WrapU w l) := by
  have hl := hBL.len
  by_cases hbig : 65536 < len
  · have hd : decide ((65536 : Int) < (len : Int)) = true := by simp; omega
    have HW : Hid (WrapU w l (.returned (.tuple #[.slice none 0 0, .int .i64 4])) w) := wrapU_big (by omega)
    clear hl
    go_enter Try.func14, Try.ntmps14
    go_wp2_with fail
    go_ret2
    exact HW.out
  · have hd : decide ((65536 : Int) < (len : Int)) = false := by simp; omega
    have HB : Hid (∀ w', Below w.heap.size w w' → BL w' a len l) := fun w' h => hBL.below h
    have HLT := Lib.hid hBL.lt
    have HL := Lib.hid hl
    have h5 := digs_len5 (n := len) (by omega)
    clear hl hBL
    go_enter Try.func14, Try.ntmps14
    go_wp2_with fail
    refine (put_any len _ (by omega)).mono ?_
    rintro e w1 ⟨v, rfl, hown, hb⟩
    have hs := hb.size
    go_wp2_with (refine wpList_append_bl rfl (.tmp 18) (.tmp 19) rfl w.heap.size v _ (digs len) rfl hown a len cap l rfl (HB.out w1 hb) na (by omega) hs ?_; intro v2 w2 hown2 hg2)
    go_ret2
    have hb2 : Below w.heap.size w w2 := hb.grown hg2 hs (fun k e => own_ge hown e (Nat.le_refl _))
    obtain rfl := HL.out
    exact wrapU_own (by omega) HLT.out hown2 hb2
theorem refwrapped_any (a : Option Addr) (len cap : Nat) (l : List Nat) (w : World) (hBL : BL w a len l) (na : a = none → cap = 0) (hm : len ≤ 100000) :
    Calls Try.prog 21 #[.slice a len cap] w fun e w' => ∃ v, e = .returned v ∧ w'.ownsRow w.heap.size 5 1 v ((digs len).length + len) (byv (digs len ++ l)) ∧ Below w.heap.size w w' := by
  have HB : Hid (∀ w', Below w.heap.size w w' → BL w' a len l) := fun w' h => hBL.below h
  have h5 := digs_len5 (n := len) (by omega)
  clear hBL
  go_enter Try.func21, Try.ntmps21
  go_wp2_with fail
  refine (bytes_any len _ (by omega)).mono ?_
  rintro e w1 ⟨v, rfl, hown, hb⟩
  have hs := hb.size
  go_wp2_with (refine wpList_append_bl rfl (.tmp 5) (.tmp 6) rfl w.heap.size v _ (digs len) rfl hown a len cap l rfl (HB.out w1 hb) na (by omega) hs ?_; intro v2 w2 hown2 hg2)
  go_ret
  exact ⟨v2, rfl, hown2, hb.grown hg2 hs (fun k e => own_ge hown e (Nat.le_refl _))⟩
theorem refwrap_any (a : Option Addr) (len cap : Nat) (l : List Nat) (w : World) (hBL : BL w a len l) (na : a = none → cap = 0) (hm : len ≤ 100000) : Calls Try.prog 16 #[.slice a len cap] w (WrapU w l) := by
  have hl := hBL.len
  by_cases hbig : 65536 < len
  · have hd : decide ((65536 : Int) < (len : Int)) = true := by simp; omega
    have HW : Hid (WrapU w l (.returned (.tuple #[.slice none 0 0, .int .i64 4])) w) := wrapU_big (by omega)
    clear hl
    go_enter Try.func16, Try.ntmps16
    go_wp2_with fail
    go_ret2
    exact HW.out
  · have hd : decide ((65536 : Int) < (len : Int)) = false := by simp; omega
    have HR := Lib.hid (refwrapped_any a len cap l w hBL na hm)
    have HLT := Lib.hid hBL.lt
    have HL := Lib.hid hl
    clear hl hBL
    go_enter Try.func16, Try.ntmps16
    go_wp2_with fail
    refine HR.out.mono ?_
    rintro e w1 ⟨v, rfl, hown, hb⟩
    go_wp2_with fail
    go_ret2
    obtain rfl := HL.out
    exact wrapU_own (by omega) HLT.out hown hb
end Go.Proofs.Ytinmggkofdjblaa
