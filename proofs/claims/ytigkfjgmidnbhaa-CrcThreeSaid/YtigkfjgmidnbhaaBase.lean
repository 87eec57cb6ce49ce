/-
  What the walks of the check sums share: the table, a slice of bytes that reads as a list.
-/
import Derived.Test.YtigkfjgmidnbhaaRows
import Derived.Test.YtigkfjgmidnbhaaMath
import Derived.WalkKit
import Derived.ProofKit
import Derived.Below
import Derived.WalkLawsBesides
import Derived.WalkSpells
import Derived.Deep.WholeRow
namespace Go.Proofs.Ytigkfjgmidnbhaa
open Go.RowKit
open CrcMath
theorem wrapU32 (n : Int) : IntKind.u32.wrap n = n % 4294967296 := by simp [IntKind.wrap, IntKind.bits, IntKind.signed]
theorem ofInt32 (b : BitVec 32) : BitVec.ofInt 32 (b.toNat : Int) = b := by
  apply BitVec.eq_of_toNat_eq; simp
theorem wrapNat (b : BitVec 32) : IntKind.u32.wrap (b.toNat : Int) = (b.toNat : Int) := by
  rw [wrapU32]; have := b.isLt; omega
theorem bxor (a b : BitVec 32) : bits .xor .u32 (a.toNat : Int) (b.toNat : Int) = ((a ^^^ b).toNat : Int) := by
  show IntKind.u32.wrap ((BitVec.ofInt 32 (a.toNat : Int) ^^^ BitVec.ofInt 32 (b.toNat : Int)).toNat : Int) = _
  rw [ofInt32, ofInt32, wrapNat]
theorem band1 (a : BitVec 32) : bits .and .u32 (a.toNat : Int) 1 = if a.getLsbD 0 then 1 else 0 := by
  show IntKind.u32.wrap ((BitVec.ofInt 32 (a.toNat : Int) &&& BitVec.ofInt 32 1).toNat : Int) = _
  rw [ofInt32, wrapNat, BitVec.toNat_and, show (BitVec.ofInt 32 1).toNat = 2 ^ 1 - 1 by decide, Nat.and_two_pow_sub_one_eq_mod, BitVec.getLsbD, Nat.testBit_zero]
  by_cases h : a.toNat % 2 = 1 <;> simp [h]
  omega
theorem shr1 (a : BitVec 32) : (a.toNat : Int) / (2 : Int) = ((a >>> 1).toNat : Int) := by
  rw [BitVec.toNat_ushiftRight, Nat.shiftRight_eq_div_pow]; omega
theorem poly (a : BitVec 32) : bits .xor .u32 (a.toNat : Int) 3988292384 = ((a ^^^ 0xedb88320#32).toNat : Int) := bxor a 0xedb88320#32
theorem ret_int {k : IntKind} {a b : Int} (h : a = b) : Ending.returned (.int k a) = .returned (.int k b) := by rw [h]
def tabA (k : Nat) : Array Value := Array.ofFn (n := 256) fun i => .int .u32 (if i.val < k then ((tab i.val).toNat : Int) else 0)
theorem tabA_size (k : Nat) : (tabA k).size = 256 := by unfold tabA; exact Array.size_ofFn
theorem tabA_get (k i : Nat) (h : i < 256) : (tabA k)[i]? = some (.int .u32 (if i < k then ((tab i).toNat : Int) else 0)) := by
  unfold tabA; rw [Array.getElem?_ofFn, dif_pos h]
theorem tabA_set (k : Nat) (h : k < 256) : (tabA k).setIfInBounds k (.int .u32 ((tab k).toNat : Int)) = tabA (k + 1) := by
  apply Array.ext
  · simp [tabA_size]
  · intro i h1 h2
    rw [tabA_size] at h2
    apply Option.some.inj
    rw [← Array.getElem?_eq_getElem, ← Array.getElem?_eq_getElem, Array.getElem?_setIfInBounds, tabA_get _ _ h2, tabA_get _ _ h2, tabA_size]
    by_cases e : k = i
    · subst e; simp [h]
    · rw [if_neg e]
      by_cases h3 : i < k
      · rw [if_pos h3, if_pos (by omega)]
      · rw [if_neg h3, if_neg (by omega)]
attribute [irreducible] tabA
theorem zero38 (w : World) : Sem.run Try.prog (zeroValue 38) w = .ok (.agg (tabA 0)) w := by kernel_rfl
theorem step_any (b : BitVec 32) (w : World) :
    Calls Try.prog 26 #[.int .u32 b.toNat] w fun e w' => e = .returned (.int .u32 (stp b).toNat) ∧ w = w' := by
  have hb := b.isLt
  by_cases h0 : b.getLsbD 0
  · have ht : (bits .and .u32 (b.toNat : Int) 1 == 1) = true := by rw [band1, if_pos h0]; rfl
    go_enter Try.func26, Try.ntmps26
    go_wp2
    go_ret
    exact ⟨ret_int (by rw [shr1, poly, stp, if_pos h0]), rfl⟩
  · have ht : (bits .and .u32 (b.toNat : Int) 1 == 1) = false := by rw [band1, if_neg h0]; rfl
    go_enter Try.func26, Try.ntmps26
    go_wp2
    go_ret
    exact ⟨ret_int (by rw [shr1, stp, if_neg h0]), rfl⟩
theorem wpList_store_row {P : Program} {ops : Array Oper} {rest : List Oper} {o : Oper} {a : Act} {w : World} {Q : Exit → Act → World → Prop} (hgd : o.guard = none) (ty : TypeId) (x y : Operand) (ho : o.op = .store ty x y)
    (g : Nat) (cells old : Array Value) (t : TypeId) (hx : a.eval x = .pointer (some ⟨g, 0, none⟩)) (hy : a.eval y = .agg cells) (hg : w.heap[g]? = some (.cells old t (0, 0))) (hi : (P.info? ty).map (·.size) = some cells.size)
    (hs : old.size = cells.size) (h1 : cells.all (·.oneCell') = true)
    (h : wpList P ops Q rest (a.put o.dst undef) (w.setRow g cells)) : wpList P ops Q (o :: rest) a w :=
  wpList_plain hgd fun _ hK => by
    unfold Oper.wp execOp
    simp only [ho, hx, hy, Instr.storeAt, Instr.sureAddr, Sem.run_bind, Sem.run_pure, Result.andThen_ok, run_storeVar_row w g t ty old cells hg hi hs h1]
    exact hK _ _ h
theorem tabA_one (k : Nat) : (tabA k).all (·.oneCell') = true := by
  rw [Array.all_eq_true]
  intro i hi
  have h2 : i < 256 := by rw [tabA_size] at hi; exact hi
  have := tabA_get k i h2
  rw [Array.getElem?_eq_getElem hi] at this
  rw [Option.some.inj this]
  rfl
theorem below_setRow (B : Nat) (w : World) (g : Nat) (cs : Array Value) (hB : B ≤ g) : Below B w (w.setRow g cs) :=
  ⟨rfl, rfl, rfl, by simp, fun k hk => setRow_other w g k cs (by omega)⟩
theorem byte32 (k : Nat) (h : k < 256) : (BitVec.ofNat 32 k).toNat = k := by simp; omega
set_option maxRecDepth 20000 in
theorem table_any (w : World) :
    Calls Try.prog 19 #[] w fun e w' => e = .returned (.agg (tabA 256)) ∧ Below w.heap.size w w' := by
    have hz := zero38
    go_enter Try.func19, Try.ntmps19
    go_wp2_with fail
    go_loopw [5] (fun i wr => ∃ k : Nat, k ≤ 256 ∧ i = .int .i64 k ∧ wr = (w.alloc (.cells (tabA 0) 38)).alloc (.cells (tabA k) 38)) (fun i _ => 256 - (intOf i).toNat)
    case atStart => exact ⟨0, by omega, rfl, rfl⟩
    case round =>
      obtain ⟨k, hk, rfl, rfl⟩ := hrel
      by_cases hlt : k < 256
      · have hd : decide ((k : Int) < 256) = true := by simp; omega
        go_wp2_with fail
        go_loop [10, 4] (fun j x => ∃ m : Nat, m ≤ 8 ∧ j = .int .i64 m ∧ x = .int .u32 (stpN m (BitVec.ofNat 32 k)).toNat) (fun j _ => 8 - (intOf j).toNat)
        case atStart => exact ⟨0, by omega, rfl, by rw [stpN, byte32 k hlt]⟩
        case round =>
          obtain ⟨m, hm, rfl, rfl⟩ := hrel
          by_cases hlm : m < 8
          · have hdm : decide ((m : Int) < 8) = true := by simp; omega
            have hb := (stpN m (BitVec.ofNat 32 k)).isLt
            go_wp2_with (go_at_call 26; refine (step_any _ _).mono ?_; rintro e w' ⟨rfl, rfl⟩)
            go_round
            case rel => exact ⟨m + 1, by omega, by go_num, by rw [stpN_succ']⟩
            case measure => simp [intOf]; omega
          · obtain rfl : m = 8 := by omega
            have hb := (stpN 8 (BitVec.ofNat 32 k)).isLt
            have hs : (tabA k).setIfInBounds k (.int .u32 (stpN 8 (BitVec.ofNat 32 k)).toNat) = tabA (k + 1) := tabA_set k hlt
            have hg := tabA_get k k hlt
            go_wp2_with fail
            go_roundw
            case rel => exact ⟨k + 1, by omega, by go_num, rfl⟩
            case measure => simp [intOf]; omega
      · obtain rfl : k = 256 := by omega
        have hd : decide (((256 : Nat) : Int) < 256) = false := by decide
        have hsz := tabA_size 256
        have hsz0 := tabA_size 0
        go_wp2_with (first | (refine wpList_load_row rfl 38 _ rfl (w.heap.size + 1) rfl 38 (tabA 256) (0, 0) _ (heap_alloc2_new _ _ _) Try.underlying38 rfl (by rw [tabA_size]; kernel_rfl) ?_) | (refine wpList_store_row rfl 38 _ _ rfl w.heap.size (tabA 256) (tabA 0) 38 rfl rfl (heap_alloc2_old _ _ _) (by rw [tabA_size]; kernel_rfl) (by rw [tabA_size, tabA_size]) (tabA_one 256) ?_))
        refine bodyPost_ret (v := .agg (tabA 256)) (results_cell_row (p := 0) (ty := 38) rfl _ _ w.heap.size 38 (tabA 256) (0, 0) _ rfl (setRow_heap _ _ _ _ _ _ (heap_alloc2_old _ _ _)) Try.underlying38 rfl (by rw [tabA_size]; kernel_rfl)) rfl ⟨rfl, ?_⟩
        exact (((Below.refl _ _).alloc (Nat.le_refl _) _).alloc (by simp) _).trans (below_setRow _ _ _ _ (Nat.le_refl _))

theorem wpList_store_new {P : Program} {ops : Array Oper} {rest : List Oper} {o : Oper} {a : Act} {w : World} {Q : Exit → Act → World → Prop} (hgd : o.guard = none) (ty : TypeId) (x y : Operand) (ho : o.op = .store ty x y)
    (cells old : Array Value) (hx : a.eval x = .pointer (some ⟨w.heap.size, 0, none⟩)) (hy : a.eval y = .agg cells) (hi : (P.info? ty).map (·.size) = some cells.size)
    (hs : old.size = cells.size) (h1 : cells.all (·.oneCell') = true)
    (h : wpList P ops Q rest (a.put o.dst undef) (w.alloc (.cells cells ty))) : wpList P ops Q (o :: rest) a (w.alloc (.cells old ty)) :=
  wpList_store_row hgd ty x y ho w.heap.size cells old ty hx hy (heap_alloc_new _ _) hi hs h1 (by rw [World.setRow_alloc_new]; exact h)
/-- a slice of bytes that reads as a list -/
structure BL (w : World) (a : Option Addr) (len : Nat) (l : List Nat) : Prop where
  len : l.length = len
  lt : ∀ i (h : i < l.length), l[i] < 256
  cell : ∀ i (h : i < l.length), ∃ b off, a = some ⟨b, off, none⟩ ∧ w.cell? ⟨b, off + i, none⟩ = some (.int .u8 (l[i] : Int))
theorem BL.below {w w' : World} {a : Option Addr} {len : Nat} {l : List Nat} (h : BL w a len l) (hb : Below w.heap.size w w') : BL w' a len l :=
  ⟨h.len, h.lt, fun i hi => by
    obtain ⟨b, off, e, hc⟩ := h.cell i hi
    exact ⟨b, off, e, (hb.cell (p := ⟨b, off + i, none⟩) (block_lt_of_cell hc)).trans hc⟩⟩
end Go.Proofs.Ytigkfjgmidnbhaa
