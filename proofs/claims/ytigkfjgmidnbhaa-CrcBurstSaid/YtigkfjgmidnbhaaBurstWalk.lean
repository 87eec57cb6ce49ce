/-
  The walk of the law CrcBurst.
-/
import Derived.Test.YtigkfjgmidnbhaaThreeWalk
import Derived.Deep.RegionWith
namespace Go.Proofs.Ytigkfjgmidnbhaa
open Go.RowKit
open CrcMath
theorem byv_set (l : List Nat) (i v : Nat) : (byv l).set i (.int .u8 (v : Int)) = byv (l.set i v) := by unfold byv; rw [List.map_set]
theorem lt_set {l : List Nat} (h : ∀ i (h : i < l.length), l[i] < 256) (j v : Nat) (hv : v < 256) : ∀ i (h : i < (l.set j v).length), (l.set j v)[i] < 256 := by
  intro i hi
  rw [List.getElem_set]
  split
  · exact hv
  · exact h i (by simpa using hi)
theorem strB_inj {a b : List Nat} (ha : ∀ i (h : i < a.length), a[i] < 256) (hb : ∀ i (h : i < b.length), b[i] < 256) : strB a = strB b ↔ a = b := by
  constructor
  · intro h
    have h2 : (a.map Int.ofNat).map (fun n => UInt8.ofNat n.toNat) = (b.map Int.ofNat).map (fun n => UInt8.ofNat n.toNat) := by
      have := congrArg (fun s : ByteArray => s.data.toList) h
      simpa [strB, strOfNums_data] using this
    simp only [List.map_map] at h2
    have hl : a.length = b.length := by simpa using congrArg List.length h2
    apply List.ext_getElem hl
    intro i h1 h3
    have h4 := congrArg (fun l => l[i]?) h2
    simp only [List.getElem?_map, List.getElem?_eq_getElem h1, List.getElem?_eq_getElem h3, Option.map_some, Option.some.injEq, Function.comp_apply] at h4
    have h5 := congrArg UInt8.toNat h4
    simp at h5
    have := ha i h1
    have := hb i h3
    omega
  · rintro rfl; rfl
theorem strB_toList {a b : List Nat} (e : (strB a).toList = (strB b).toList) : strB a = strB b := by
  rw [ByteArray.toList_eq, ByteArray.toList_eq] at e
  have := Array.toList_inj.1 e
  cases ha : strB a; cases hb : strB b
  simp_all
set_option maxRecDepth 20000 in
set_option maxHeartbeats 2000000 in
theorem burst_any (a : Option Addr) (la ca : Nat) (p : Nat) (t : BitVec 32) (x : List Nat) (w : World) (hA : BL w a la x) (na : a = none → ca = 0) (h0 : 0 < la) (h1 : la ≤ 5000) (hp : p < 65536) :
    Calls Try.prog 5 #[.slice a la ca, .int .u16 p, .int .u32 t.toNat] w fun e w' => e = .returned (.bool true) ∧ Below w.heap.size w w' := by
  have hd : decide ((5000 : Int) < (la : Int)) = false := by simp; omega
  have hd0 : ((la : Int) == 0) = false := by rw [beq_eq_false_iff_ne]; omega
  have ht := t.isLt
  obtain ⟨f, hf, hfl⟩ : ∃ f : Nat, (p : Int) % (8 * (la : Int)) = (f : Int) ∧ f < 8 * la := ⟨p % (8 * la), by rw [Int.natCast_emod]; rfl, Nat.mod_lt _ (by omega)⟩
  have HA : Hid (∀ w', Below w.heap.size w w' → BL w' a la x) := fun w' h => hA.below h
  have lx := Lib.hid hA.len
  go_enter Try.func5, Try.ntmps5
  go_wp2_with fail
  refine (alive_any _).mono ?_
  rintro e w1 ⟨rfl, hb1⟩
  go_wp2_with (refine wpList_append_bl rfl (.tmp 32) (.tmp 33) rfl w1.heap.size (.slice none 0 0) 0 [] rfl (World.ownsRow_nil _ _ _ _) a la ca x rfl (HA.out w1 hb1) na (by omega) (Nat.le_refl _) ?_; intro v4 w4 hown4 hg4; rw [Nat.zero_add, List.nil_append] at hown4)
  obtain ⟨a4, c4, rfl, hB4, _⟩ := BL.of_own hown4 hA.lt
  have k4 : Below w.heap.size w w4 := hb1.grown hg4 hb1.size (fun k e => by cases e)
  obtain ⟨g, rfl, hgb⟩ : ∃ g, a4 = some ⟨g, 0, none⟩ ∧ w1.heap.size ≤ g := by
    rcases hown4.2 with ⟨e, e2⟩ | ⟨g, cap, cur, e, hg, _⟩
    · omega
    · cases e; exact ⟨g, rfl, hg⟩
  clear hB4 hg4
  go_loopw [10] (fun i wr => ∃ k : Nat, k ≤ 32 ∧ i = .int .i64 k ∧ ∃ (cl : List Nat) (u : BitVec 32), wr.ownsRow w1.heap.size 5 1 (.slice (some ⟨g, 0, none⟩) la c4) la (byv cl) ∧ (∀ i (h : i < cl.length), cl[i] < 256) ∧ Turned x cl f k u ∧ Below w.heap.size w wr) (fun i _ => 32 - (intOf i).toNat)
  case atStart => exact ⟨0, by omega, rfl, x, 0#32, hown4, hA.lt, Turned.start x f, k4⟩
  case round =>
    clear hown4 k4
    obtain ⟨k, hk, rfl, cl, u, hown, hltc, hT, hbr⟩ := hrel
    by_cases hlt : k < 32
    · have hdk : decide ((k : Int) < 32) = true := by simp; omega
      by_cases hin : f + k < 8 * la
      · have hdi : decide ((f : Int) + (k : Int) < 8 * (la : Int)) = true := by simp; omega
        have hj : (f + k) / 8 < la := by omega
        have hlen : cl.length = la := by have := hT.len; have := lx.out; omega
        have hcell := World.ownsRow.cellAt hown ((f + k) / 8) (by omega)
        have hfro := World.ownsRow.frozenAt hown ((f + k) / 8)
        have hget : (byv cl)[(f + k) / 8]? = some (.int .u8 ((cl[(f + k) / 8]'(by omega) : Nat) : Int)) := by
          unfold byv; rw [List.getElem?_map, List.getElem?_eq_getElem (by omega)]; rfl
        rw [hget] at hcell
        have h8 := hltc ((f + k) / 8) (by omega)
        have HT : Hid (Turned x (cl.set ((f + k) / 8) (cl[(f + k) / 8]'(by omega) ^^^ 2 ^ ((f + k) % 8))) f (k + 1) (u ^^^ (1#32 <<< k))) := by
          have := hT.turn (by omega) (by have := hT.len; omega) (by omega)
          exact this
        clear hget
        have HL := Lib.hid hlen
        generalize cl[(f + k) / 8]'(by omega) = q at *
        clear hlen
        go_wp2_with fail
        · go_region
          go_wp2_with fail
          go_roundw
          case rel =>
            obtain ⟨hv1, hv2⟩ := bxor8 q (2 ^ ((f + k) % 8)) h8 (by have : (f + k) % 8 < 8 := Nat.mod_lt _ (by decide); exact Nat.lt_of_le_of_lt (Nat.pow_le_pow_right (by decide) (by omega : (f + k) % 8 ≤ 7)) (by decide))
            have hv0 : (2 : Int) ^ ((f + k) % 8) % 256 = ((2 ^ ((f + k) % 8) : Nat) : Int) := by
              have : (f + k) % 8 < 8 := Nat.mod_lt _ (by decide)
              generalize (f + k) % 8 = m at *
              have : ∀ m : Fin 8, (2 : Int) ^ m.val % 256 = ((2 ^ m.val : Nat) : Int) := by decide
              exact this ⟨m, by omega⟩
            rw [hv0, hv1]
            obtain ⟨hst, hgr⟩ := World.ownsRow.stored hown ((f + k) / 8) (.int .u8 ((q ^^^ 2 ^ ((f + k) % 8) : Nat) : Int))
            rw [byv_set] at hst
            refine ⟨k + 1, by omega, by go_num, cl.set ((f + k) / 8) (q ^^^ 2 ^ ((f + k) % 8)), u ^^^ (1#32 <<< k), hst, lt_set hltc _ _ hv2, HT.out, ?_⟩
            exact (hbr.grown hgr hbr.size (fun r e => by cases e; exact Nat.le_trans hb1.size hgb)).drew
          case measure => simp [intOf]; omega
        · go_roundw
          case rel => exact ⟨k + 1, by omega, by go_num, cl, u, hown, hltc, hT.keep, hbr⟩
          case measure => simp [intOf]; omega
      · have hdi : decide ((f : Int) + (k : Int) < 8 * (la : Int)) = false := by simp; omega
        go_wp2_with fail
        go_roundw
        case rel => exact ⟨k + 1, by omega, by go_num, cl, u, hown, hltc, hT.keep, hbr⟩
        case measure => simp [intOf]; omega
    · obtain rfl : k = 32 := by omega
      have hdk : decide (((32 : Nat) : Int) < 32) = false := by decide
      have hlen : cl.length = la := by have := hT.len; have := lx.out; omega
      obtain ⟨ac, cc, ec, hBc, _⟩ := BL.of_own hown hltc
      cases ec
      have HcA : ∀ w', Below wr.heap.size wr w' → Sem.run Try.prog (convert 25 9 (.slice a la ca)) w' = .ok (.string (strB x)) w' := fun w' h => BL.str (HA.out w' (hbr.trans (h.mono hbr.size))) ca
      have HcC : ∀ w', Below wr.heap.size wr w' → Sem.run Try.prog (convert 25 9 (.slice (some ⟨g, 0, none⟩) la c4)) w' = .ok (.string (strB cl)) w' := fun w' h => BL.str (hBc.below h) c4
      have HbA : Hid (∀ w', Below wr.heap.size wr w' → BL w' a la x) := fun w' h => HA.out w' (hbr.trans (h.mono hbr.size))
      have HbC : Hid (∀ w', Below wr.heap.size wr w' → BL w' (some ⟨g, 0, none⟩) la cl) := fun w' h => hBc.below h
      have HF : Hid ((over 0#32 x = over 0#32 cl) ↔ x = cl) := hT.fin 0#32
      have HS : Hid ((strB x = strB cl) ↔ x = cl) := strB_inj hA.lt hltc
      have hq1 : (((over 0#32 x).toNat : Int) == ((over 0#32 cl).toNat : Int)) = decide (x = cl) := by rw [beqU]; exact decide_eq_decide.2 HF.out
      have hq2 : ((strB x).toList == (strB cl).toList) = decide (x = cl) := by
        rw [Bool.eq_iff_iff, beq_iff_eq, decide_eq_true_iff, ← HS.out]
        exact ⟨fun e => strB_toList e, fun e => by rw [e]⟩
      clear HF HS
      have k0 : Below wr.heap.size wr wr.drew := (Below.refl _ _).drew
      clear hT hltc hBc hown
      go_wp2_with fail
      go_region_with (go_at_call 10; first | ((with_reducible refine (of_any a la ca x _ (HbA.out _ (by assumption)) (by omega)).mono ?_); rintro e w5 ⟨rfl, hb5⟩; have k5 : Below wr.heap.size wr w5 := Below.trans (by assumption) (hb5.mono (by have := Below.size (B := wr.heap.size) (w := wr) (by assumption); exact this)); clear hb5) | ((with_reducible refine (of_any (some ⟨g, 0, none⟩) la c4 cl _ (HbC.out _ (by assumption)) (by omega)).mono ?_); rintro e w6 ⟨rfl, hb6⟩; have k6 : Below wr.heap.size wr w6 := Below.trans (by assumption) (hb6.mono (by have := Below.size (B := wr.heap.size) (w := wr) (by assumption); exact this)); clear hb6))
      all_goals go_wp2_with fail
      all_goals go_ret
      all_goals exact ⟨rfl, hbr.trans (Below.mono (B := wr.heap.size) (by assumption) hbr.size)⟩
theorem burstlaw_any (a : Option Addr) (la ca : Nat) (p : Nat) (t : BitVec 32) (x : List Nat) (w : World) (hA : BL w a la x) (na : a = none → ca = 0) (hp : p < 65536) :
    Calls Try.prog 5 #[.slice a la ca, .int .u16 p, .int .u32 t.toNat] w fun e w' => e = .returned (.bool true) ∧ Below w.heap.size w w' := by
  by_cases h0 : la = 0
  · subst h0
    go_enter Try.func5, Try.ntmps5
    go_wp2_with (go_at_call 9; refine (alive_any _).mono ?_; rintro e w1 ⟨rfl, hb1⟩)
    go_ret
    exact ⟨rfl, hb1⟩
  · by_cases h1 : 5000 < la
    · have hd : decide ((5000 : Int) < (la : Int)) = true := by simp; omega
      have hd0 : ((la : Int) == 0) = false := by rw [beq_eq_false_iff_ne]; omega
      go_enter Try.func5, Try.ntmps5
      go_wp2_with (go_at_call 9; refine (alive_any _).mono ?_; rintro e w1 ⟨rfl, hb1⟩)
      go_ret
      exact ⟨rfl, hb1⟩
    · exact burst_any a la ca p t x w hA na (by omega) (by omega) hp
theorem u16_of {n : Int} (h : (Lit.int .u16 n).wf = true) : ∃ p : Nat, n = (p : Int) ∧ p < 65536 := by
  simp [Lit.wf, IntKind.min, IntKind.max, IntKind.signed, IntKind.bits] at h
  exact ⟨n.toNat, by omega, by omega⟩
end Go.Proofs.Ytigkfjgmidnbhaa
