/-
 A region that draws its order, shown by an invariant: each operation once, whatever has come up ahead of it.
 Slices of numbers that read as lists, and the functions that search and compare them, walked.
 Areas, and the walk of the law AreaHas.
 Two areas compared, walked.
-/
import Derived.Still
import Derived.WalkKit
import Derived.Lib.Hide
import Derived.Below
import Derived.LoopTactic
import Derived.BigQuiet
import Derived.Deep.QuietTactic
import Derived.Test.YtbiehpjhhopjaaaGreatProg
import Derived.Lib.QuietBelow
import Derived.Outline
import Derived.Deep.RegionHeld3
import Derived.Deep.DeepCutAuto
set_option linter.unusedVariables false
namespace Go.Proofs.YtbiehpjhhopjaaaGreat
section
variable {P : Program} {ops : Array Oper} {Q : Exit → Act → World → Prop}
def left' (n : Nat) (listed : Array Bool) : Nat := (List.range n).countP fun j => listed.getD j true = false
theorem countP_lt {l : List Nat} {p q : Nat → Bool} (h : ∀ x, q x = true → p x = true) {i : Nat} (hi : i ∈ l) (hn : l.Nodup) (hp : p i = true) (hq : q i = false) (he : ∀ x, x ≠ i → q x = p x) : l.countP p = l.countP q + 1 := by
 induction l with
 | nil => cases hi
 | cons x l ih =>
  rw [List.countP_cons, List.countP_cons]
  have hn' := List.nodup_cons.1 hn
  rcases List.mem_cons.1 hi with rfl | hi
  ·rw [if_pos hp, if_neg (by simp [hq])]
   have : l.countP p = l.countP q := List.countP_congr fun y hy => by rw [he y (fun e => hn'.1 (e ▸ hy))]
   omega
  ·rw [ih hi hn'.2, he x (fun e => hn'.1 (e ▸ hi))]
   omega
theorem left_set {listed : Array Bool} {i : Nat} (hsz : listed.size = ops.size) (h : listed.getD i true = false) : left' ops.size listed = left' ops.size (listed.setIfInBounds i true) + 1 := by
 have hi : i < listed.size := by
  rcases Nat.lt_or_ge i listed.size with h' | h'
  ·exact h'
  ·simp [Array.getElem?_eq_none h'] at h
 refine countP_lt (i := i) ?_ (by simp; omega) List.nodup_range (by simpa using h) ?_ ?_
 ·intro x hx
  by_cases hxi : x = i
  ·subst hxi; simpa using h
  ·simp only [decide_eq_true_eq] at hx ⊢
   rw [getD_set_ne true (Ne.symm hxi)] at hx
   exact hx
 ·simp [hi]
 ·intro x hxi
  simp only [decide_eq_decide]
  rw [getD_set_ne true (Ne.symm hxi)]
theorem lex_edges : ∀ (fuel k : Nat) (listed : Array Bool), Region.lexFrom .any ops fuel k listed = true → (∀ j, listed.getD j false = true → j < k) →
  ∀ m o, ops[m]? = some o → k ≤ m → m < k + fuel → ∀ e ∈ o.after, Region.binds .any e = true → e.on < m
 | 0, k, listed, _, _, m, _, _, h1, h2 => by omega
 | fuel + 1, k, listed, h, hl, m, o, ho, h1, h2 => by
  simp only [Region.lexFrom, Bool.and_eq_true] at h
  obtain ⟨⟨hr, _⟩, h'⟩ := h
  by_cases hmk : m = k
  ·subst hmk
   have hmem : m ∈ Region.ready .any ops listed := by simpa using hr
   obtain ⟨_, o', ho', hall⟩ := mem_ready.1 hmem
   rw [ho] at ho'
   cases ho'
   exact fun e he hb => hl _ (hall e he hb)
  ·refine lex_edges fuel (k + 1) _ h' ?_ m o ho (by omega) (by omega)
   intro j hj
   by_cases hjk : j = k
   ·omega
   ·rw [getD_set_ne false (Ne.symm hjk)] at hj
    have := hl j hj
    omega
theorem ready_of_left (hB : Region.lexB .any ops = true) {listed : Array Bool} (hsz : listed.size = ops.size) (h : ∃ j, j < ops.size ∧ listed.getD j true = false) : Region.ready .any ops listed ≠ [] := by
 simp only [Region.lexB, Bool.and_eq_true] at hB
 have hE := lex_edges (ops := ops) ops.size 0 _ hB.2 (by intro j hj; exfalso; by_cases hjs : j < ops.size <;> simp [Array.getD, hjs] at hj)
 obtain ⟨j, hj, hun⟩ := h
 have : ∃ k, k < ops.size ∧ listed.getD k true = false ∧ ∀ i, i < k → listed.getD i true = true := by
  induction j using Nat.strongRecOn with
  | _ j ih =>
   by_cases hx : ∃ i, i < j ∧ listed.getD i true = false
   ·obtain ⟨i, hi, hu⟩ := hx
    exact ih i hi (by omega) hu
   ·refine ⟨j, hj, hun, fun i hi => ?_⟩
    cases hc : listed.getD i true with
    | true => rfl
    | false => exact absurd ⟨i, hi, hc⟩ hx
 obtain ⟨k, hk, hku, hlow⟩ := this
 have hmem : k ∈ Region.ready .any ops listed := by
  refine mem_ready.2 ⟨hku, ops[k], Array.getElem?_eq_getElem hk, fun e he hb => ?_⟩
  have h1 := hE k _ (Array.getElem?_eq_getElem hk) (by omega) (by omega) e he hb
  have h2 := hlow _ h1
  have h3 : e.on < listed.size := by omega
  simpa [h3] using h2
 intro e
 rw [e] at hmem
 cases hmem
theorem wpAny_inv (hB : Region.lexB .any ops = true) (I : Array Bool → Act → World → Prop)
  (hstep : ∀ (i : Nat) (o : Oper), ops[i]? = some o → ∀ listed a w, I listed a w → (∀ e ∈ o.after, Region.binds .any e = true → listed.getD e.on false = true) → listed.getD i false = false → wpOp P ops Q i (fun a' w' => I (listed.setIfInBounds i true) a' w') a w)
  (hend : ∀ listed a w, I listed a w → (∀ j, j < ops.size → listed.getD j false = true) → Q .normal a w) :
  ∀ (fuel : Nat) (listed : Array Bool) (a : Act) (w : World), listed.size = ops.size → left' ops.size listed = fuel → I listed a w → wpAny P .any ops Q fuel listed a w := by
 have none : ∀ listed : Array Bool, listed.size = ops.size → Region.ready .any ops listed = [] → ∀ j, j < ops.size → listed.getD j false = true := by
  intro listed hsz hr j hj
  cases hc : listed.getD j false with
  | true => rfl
  | false =>
   have hj' : j < listed.size := by omega
   exact absurd hr (ready_of_left hB hsz ⟨j, hj, by simpa [hj'] using hc⟩)
 intro fuel
 induction fuel with
 | zero =>
  intro listed a w hsz hl hI
  have hall : ∀ j, j < ops.size → listed.getD j false = true := by
   intro j hj
   have := List.countP_eq_zero.1 hl j (by simpa using hj)
   have hj' : j < listed.size := by omega
   simpa [hj'] using this
  refine ⟨?_, hend listed a w hI hall⟩
  cases hr : Region.ready .any ops listed with
  | nil => rfl
  | cons j r =>
   have hm : j ∈ Region.ready .any ops listed := by rw [hr]; exact List.mem_cons_self
   obtain ⟨h1, o, ho, _⟩ := mem_ready.1 hm
   have hj : j < ops.size := (Array.getElem?_eq_some_iff.1 ho).1
   have h2 := hall j hj
   have hj' : j < listed.size := by omega
   simp [hj'] at h1 h2
   rw [h1] at h2
   cases h2
 | succ fuel ih =>
  intro listed a w hsz hl hI
  refine ⟨fun hr => hend listed a w hI (none listed hsz hr), fun i hi => ?_⟩
  obtain ⟨h1, o, ho, hd⟩ := mem_ready.1 hi
  have hilt : i < listed.size := by rw [hsz]; exact (Array.getElem?_eq_some_iff.1 ho).1
  refine wpOp_mono (fun a' w' h' => ih _ a' w' (by simpa using hsz) ?_ h') (hstep i o ho listed a w hI hd (by simpa [hilt] using h1))
  have := left_set (ops := ops) hsz h1
  omega
theorem wp_region_inv {id : Nat} {a : Act} {w : World} (hm : P.follows .mixedOrders = true) (hB : Region.lexB .any ops = true) (I : Array Bool → Act → World → Prop)
  (h0 : I (Array.replicate ops.size false) a { w with drawn := w.drawn + 1 })
  (hstep : ∀ (i : Nat) (o : Oper), ops[i]? = some o → ∀ listed a w, I listed a w → (∀ e ∈ o.after, Region.binds .any e = true → listed.getD e.on false = true) → listed.getD i false = false → wpOp P ops Q i (fun a' w' => I (listed.setIfInBounds i true) a' w') a w)
  (hend : ∀ listed a w, I listed a w → (∀ j, j < ops.size → listed.getD j false = true) → Q .normal a w) : (Code.region id ops true).wp P Q a w := by
 refine wp_region_any hm (wpAny_inv hB I hstep hend _ _ _ _ (by simp) ?_ h0)
 unfold left'
 rw [List.countP_eq_length.2 (fun j hj => by simp at hj; simp [hj])]
 simp
theorem wp_region_inv' {id : Nat} {a : Act} {w : World} (hm : P.follows .mixedOrders = true) (hB : Region.lexB .any ops = true) (I : (Nat → Bool) → Act → World → Prop)
  (h0 : I (fun _ => false) a { w with drawn := w.drawn + 1 })
  (hstep : ∀ (i : Nat) (o : Oper), ops[i]? = some o → ∀ (f : Nat → Bool) a w, I f a w → (∀ e ∈ o.after, Region.binds .any e = true → f e.on = true) → f i = false → wpOp P ops Q i (fun a' w' => I (fun j => decide (j = i) || f j) a' w') a w)
  (hend : ∀ (f : Nat → Bool) a w, I f a w → (∀ j, j < ops.size → f j = true) → Q .normal a w) : (Code.region id ops true).wp P Q a w := by
 refine wp_region_inv hm hB (fun L a w => L.size = ops.size ∧ I (fun j => L.getD j false) a w) ⟨by simp, ?_⟩ ?_ (fun L a w h => hend _ a w h.2)
 ·have e : (fun j => (Array.replicate ops.size false).getD j false) = fun _ => false := by
   funext j
   by_cases hj : j < ops.size <;> simp [Array.getD, hj]
  rw [e]; exact h0
 ·intro i o ho L a w ⟨hsz, hI⟩ hd hun
  have hi : i < L.size := by rw [hsz]; exact (Array.getElem?_eq_some_iff.1 ho).1
  refine wpOp_mono (fun a' w' h => ⟨by simpa using hsz, ?_⟩) (hstep i o ho _ a w hI hd hun)
  have e : (fun j => (L.setIfInBounds i true).getD j false) = fun j => decide (j = i) || L.getD j false := by
   funext j
   by_cases hj : j = i
   ·subst hj; simp [hi]
   ·rw [getD_set_ne false (Ne.symm hj)]; simp [hj]
  rw [e]; exact h
end
end Go.Proofs.YtbiehpjhhopjaaaGreat
set_option linter.unusedVariables false
namespace Go.Proofs.YtbiehpjhhopjaaaGreat
open Go.RowKit
structure IL (w : World) (a : Option Addr) (len : Nat) (l : List Int) : Prop where
 len : l.length = len
 cell : ∀ i (h : i < l.length), ∃ b off, a = some ⟨b, off, none⟩ ∧ w.cell? ⟨b, off + i, none⟩ = some (.int .i64 l[i])
theorem IL.below {w w' : World} {a : Option Addr} {len : Nat} {l : List Int} (h : IL w a len l) (hb : Below w.heap.size w w') : IL w' a len l :=
 ⟨h.len, fun i hi => by
  obtain ⟨b, off, e, hc⟩ := h.cell i hi
  exact ⟨b, off, e, (hb.cell (p := ⟨b, off + i, none⟩) (block_lt_of_cell hc)).trans hc⟩⟩
theorem IL.drewN {w : World} {a : Option Addr} {len : Nat} {l : List Int} (h : IL w a len l) (n : Nat) : IL (w.drewN n) a len l := ⟨h.len, h.cell⟩
theorem rbool {a b : Bool} (h : a = b) : Ending.returned (.bool a) = .returned (.bool b) := by rw [h]
def hasB (l : List Int) (n : Int) : Bool := decide (n ∈ l)
theorem in_any (a : Option Addr) (len cap : Nat) (l : List Int) (n : Int) (w : World) (hl : IL w a len l) (hm : len ≤ 1000000) :
  Calls Tryz.prog 254 #[.slice a len cap, .int .i64 n] w fun e w' => e = .returned (.bool (hasB l n)) ∧ w = w' := by
 have HL := Lib.hid hl
 have hll := Lib.hid hl.len
 clear hl
 go_enter Tryz.func254, Tryz.ntmps254
 go_wp2_with fail
 go_loop [5] (fun i => ∃ k : Nat, k ≤ len ∧ i = .int .i64 k ∧ ∀ j (h : j < l.length), j < k → l[j] ≠ n) (fun i => len - (intOf i).toNat)
 case atStart => exact ⟨0, by omega, rfl, fun j h h0 => by omega⟩
 case round =>
  obtain ⟨k, hk, rfl, hno⟩ := hrel
  have HNO := Lib.hid hno
  clear hno
  by_cases hlt : k < len
  ·have hd : decide ((k : Int) < (len : Int)) = true := by simp; omega
   have hkl : k < l.length := by rw [hll.out]; exact hlt
   obtain ⟨b, off, rfl, hc⟩ := HL.out.cell k hkl
   have c0 : (0 : Int) ≤ (k : Int) := by omega
   have c1 : (k : Int) < (len : Int) := by omega
   by_cases he : l[k] = n
   ·have heq : (l[k] == n) = true := by rw [beq_iff_eq]; exact he
    have HE : Hid (hasB l n = true) := by
     show _ = _
     unfold hasB
     rw [decide_eq_true_iff, ← he]
     exact List.getElem_mem hkl
    clear he
    go_wp2_with fail
    go_ret
    exact ⟨rbool HE.out.symm, rfl⟩
   ·have heq : (l[k] == n) = false := by rw [beq_eq_false_iff_ne]; exact he
    have HE := Lib.hid he
    clear he
    go_wp2_with fail
    go_round
    case rel =>
     refine ⟨k + 1, by omega, by go_num, fun j h hj => ?_⟩
     by_cases hjk : j = k
     ·subst hjk; exact HE.out
     ·exact HNO.out j h (by omega)
    case measure => simp [intOf]; omega
  ·obtain rfl : k = len := by omega
   have hd : decide ((k : Int) < (k : Int)) = false := by simp
   have HE : Hid (hasB l n = false) := by
    show _ = _
    unfold hasB
    rw [decide_eq_false_iff_not]
    intro hmem
    obtain ⟨j, hj, e⟩ := List.getElem_of_mem hmem
    exact HNO.out j hj (by rw [← hll.out]; exact hj) e
   go_wp2_with fail
   go_ret
   exact ⟨rbool HE.out.symm, rfl⟩
theorem rint {k : IntKind} {a b : Int} (h : a = b) : Ending.returned (.int k a) = .returned (.int k b) := by rw [h]
def eqB (l m : List Int) : Bool := decide (l = m)
def Drew (w : World) (b : Bool) (e : Ending) (w' : World) : Prop := e = .returned (.bool b) ∧ ∃ n, w' = w.drewN n
theorem eqB_len {l m : List Int} (h : l.length ≠ m.length) : eqB l m = false := by
 unfold eqB; rw [decide_eq_false_iff_not]; rintro rfl; exact h rfl
theorem eqB_at {l m : List Int} {k : Nat} (h1 : k < l.length) (h2 : k < m.length) (h : l[k] ≠ m[k]) : eqB l m = false := by
 unfold eqB; rw [decide_eq_false_iff_not]; rintro rfl; exact h rfl
theorem eqB_all {l m : List Int} (hl : l.length = m.length) (h : ∀ j (h1 : j < l.length) (h2 : j < m.length), l[j] = m[j]) : eqB l m = true := by
 unfold eqB; rw [decide_eq_true_iff]; exact List.ext_getElem hl h
theorem equal_any (a b : Option Addr) (la lb ca cb : Nat) (l m : List Int) (w : World) (hl : IL w a la l) (hm : IL w b lb m) (ha : la ≤ 1000000) (hb : lb ≤ 1000000) :
  Calls Tryz.prog 99 #[.slice a la ca, .slice b lb cb] w (Drew w (eqB l m)) := by
 have HL := Lib.hid hl
 have HM := Lib.hid hm
 have hll := Lib.hid hl.len
 have hml := Lib.hid hm.len
 clear hl hm
 by_cases hne : la = lb
 ·subst hne
  have hd0 : ((la : Int) != (la : Int)) = false := by simp
  go_enter Tryz.func99, Tryz.ntmps99
  go_wp2_with fail
  go_loopw [13] (fun i wr => ∃ k : Nat, k ≤ la ∧ i = .int .i64 k ∧ (∃ q, wr = w.drewN q) ∧ ∀ j (h1 : j < l.length) (h2 : j < m.length), j < k → l[j] = m[j]) (fun i _ => la - (intOf i).toNat)
  case atStart => exact ⟨0, by omega, rfl, ⟨0, rfl⟩, fun j h1 h2 h0 => by omega⟩
  case round =>
   obtain ⟨k, hk, rfl, ⟨q, rfl⟩, hno⟩ := hrel
   have HNO := Lib.hid hno
   clear hno
   by_cases hlt : k < la
   ·have hd : decide ((k : Int) < (la : Int)) = true := by simp; omega
    have hkl : k < l.length := by rw [hll.out]; exact hlt
    have hkm : k < m.length := by rw [hml.out]; exact hlt
    obtain ⟨b1, o1, rfl, hc⟩ := HL.out.cell k hkl
    obtain ⟨b2, o2, rfl, hc2⟩ := HM.out.cell k hkm
    have c0 : (0 : Int) ≤ (k : Int) := by omega
    have c1 : (k : Int) < (la : Int) := by omega
    by_cases he : l[k] = m[k]
    ·have heq : (l[k] != m[k]) = false := by rw [he]; simp
     have HE := Lib.hid he
     clear he
     go_wp2_with fail
     go_quiet (fail)
     go_wp2_with fail
     go_roundw
     case rel =>
      refine ⟨k + 1, by omega, by go_num, ⟨_, rfl⟩, fun j h1 h2 hj => ?_⟩
      by_cases hjk : j = k
      ·subst hjk; exact HE.out
      ·exact HNO.out j h1 h2 (by omega)
     case measure => simp [intOf]; omega
    ·have heq : (l[k] != m[k]) = true := by rw [bne_iff_ne]; exact he
     have HE : Hid (eqB l m = false) := eqB_at hkl hkm he
     clear he
     go_wp2_with fail
     go_quiet (fail)
     go_wp2_with fail
     go_ret
     exact ⟨rbool HE.out.symm, by first | exact ⟨_, rfl⟩ | exact ⟨_, World.drewN_drewN _ _ _⟩⟩
   ·obtain rfl : k = la := by omega
    have hd : decide ((k : Int) < (k : Int)) = false := by simp
    have HE : Hid (eqB l m = true) := eqB_all (hll.out.trans hml.out.symm) (fun j h1 h2 => HNO.out j h1 h2 (by rw [← hll.out]; exact h1))
    go_wp2_with fail
    go_ret
    exact ⟨rbool HE.out.symm, by first | exact ⟨_, rfl⟩ | exact ⟨_, World.drewN_drewN _ _ _⟩⟩
 ·have hd0 : ((la : Int) != (lb : Int)) = true := by rw [bne_iff_ne]; omega
  have HE : Hid (eqB l m = false) := eqB_len (by rw [hll.out, hml.out]; exact hne)
  clear hne
  go_enter Tryz.func99, Tryz.ntmps99
  go_wp2_with fail
  go_ret
  exact ⟨rbool HE.out.symm, 0, rfl⟩
theorem ints_any (a b : Option Addr) (la lb ca cb : Nat) (l m : List Int) (w : World) (hl : IL w a la l) (hm : IL w b lb m) (ha : la ≤ 1000000) (hb : lb ≤ 1000000) :
  Calls Tryz.prog 97 #[.slice a la ca, .slice b lb cb] w (Drew w (eqB l m)) := by
 have HL := Lib.hid hl
 have HM := Lib.hid hm
 have hll := Lib.hid hl.len
 have hml := Lib.hid hm.len
 clear hl hm
 by_cases hne : la = lb
 ·subst hne
  have hd0 : ((la : Int) != (la : Int)) = false := by simp
  go_enter Tryz.func97, Tryz.ntmps97
  go_wp2_with fail
  go_loopw [5] (fun i wr => ∃ k : Nat, k ≤ la ∧ i = .int .i64 k ∧ (∃ q, wr = w.drewN q) ∧ ∀ j (h1 : j < l.length) (h2 : j < m.length), j < k → l[j] = m[j]) (fun i _ => la - (intOf i).toNat)
  case atStart => exact ⟨0, by omega, rfl, ⟨0, rfl⟩, fun j h1 h2 h0 => by omega⟩
  case round =>
   obtain ⟨k, hk, rfl, ⟨q, rfl⟩, hno⟩ := hrel
   have HNO := Lib.hid hno
   clear hno
   by_cases hlt : k < la
   ·have hd : decide ((k : Int) < (la : Int)) = true := by simp; omega
    have hkl : k < l.length := by rw [hll.out]; exact hlt
    have hkm : k < m.length := by rw [hml.out]; exact hlt
    obtain ⟨b1, o1, rfl, hc⟩ := HL.out.cell k hkl
    obtain ⟨b2, o2, rfl, hc2⟩ := HM.out.cell k hkm
    have c0 : (0 : Int) ≤ (k : Int) := by omega
    have c1 : (k : Int) < (la : Int) := by omega
    by_cases he : l[k] = m[k]
    ·have heq : (l[k] != m[k]) = false := by rw [he]; simp
     have HE := Lib.hid he
     clear he
     go_wp2_with fail
     go_quiet (fail)
     go_wp2_with fail
     go_roundw
     case rel =>
      refine ⟨k + 1, by omega, by go_num, ⟨_, rfl⟩, fun j h1 h2 hj => ?_⟩
      by_cases hjk : j = k
      ·subst hjk; exact HE.out
      ·exact HNO.out j h1 h2 (by omega)
     case measure => simp [intOf]; omega
    ·have heq : (l[k] != m[k]) = true := by rw [bne_iff_ne]; exact he
     have HE : Hid (eqB l m = false) := eqB_at hkl hkm he
     clear he
     go_wp2_with fail
     go_quiet (fail)
     go_wp2_with fail
     go_ret
     exact ⟨rbool HE.out.symm, by first | exact ⟨_, rfl⟩ | exact ⟨_, World.drewN_drewN _ _ _⟩⟩
   ·obtain rfl : k = la := by omega
    have hd : decide ((k : Int) < (k : Int)) = false := by simp
    have HE : Hid (eqB l m = true) := eqB_all (hll.out.trans hml.out.symm) (fun j h1 h2 => HNO.out j h1 h2 (by rw [← hll.out]; exact h1))
    go_wp2_with fail
    go_ret
    exact ⟨rbool HE.out.symm, by first | exact ⟨_, rfl⟩ | exact ⟨_, World.drewN_drewN _ _ _⟩⟩
 ·have hd0 : ((la : Int) != (lb : Int)) = true := by rw [bne_iff_ne]; omega
  have HE : Hid (eqB l m = false) := eqB_len (by rw [hll.out, hml.out]; exact hne)
  clear hne
  go_enter Tryz.func97, Tryz.ntmps97
  go_wp2_with fail
  go_ret
  exact ⟨rbool HE.out.symm, 0, rfl⟩
end Go.Proofs.YtbiehpjhhopjaaaGreat
set_option linter.unusedVariables false
namespace Go.Proofs.YtbiehpjhhopjaaaGreat
open Go.RowKit Go.Sort
def ILv (w : World) (v : Value) (l : List Int) : Prop := ∃ a len cap, v = .slice a len cap ∧ IL w a len l
theorem ILv.below {w w' : World} {v : Value} {l : List Int} (h : ILv w v l) (hb : Below w.heap.size w w') : ILv w' v l := by
 obtain ⟨a, n, c, e, hl⟩ := h
 exact ⟨a, n, c, e, hl.below hb⟩
theorem ILv.nil (w : World) : ILv w (.slice none 0 0) [] := ⟨none, 0, 0, rfl, rfl, fun i h => by simp at h⟩
theorem in_v (v : Value) (l : List Int) (n : Int) (w : World) (hl : ILv w v l) (hm : l.length ≤ 1000000) :
  Calls Tryz.prog 254 #[v, .int .i64 n] w fun e w' => e = .returned (.bool (hasB l n)) ∧ Below w.heap.size w w' := by
 obtain ⟨a, len, c, rfl, hl⟩ := hl
 exact (in_any a len c l n w hl (by rw [← hl.len]; exact hm)).mono fun e w' ⟨h1, h2⟩ => ⟨h1, by subst h2; exact Below.refl _ _⟩
theorem drew_below {w : World} {b : Bool} {e : Ending} {w' : World} (h : Drew w b e w') : e = .returned (.bool b) ∧ Below w.heap.size w w' := by
 obtain ⟨h1, n, rfl⟩ := h
 exact ⟨h1, rfl, rfl, rfl, Nat.le_refl _, fun _ _ => rfl⟩
theorem ints_v (u v : Value) (l m : List Int) (w : World) (hl : ILv w u l) (hm : ILv w v m) (h1 : l.length ≤ 1000000) (h2 : m.length ≤ 1000000) :
  Calls Tryz.prog 97 #[u, v] w fun e w' => e = .returned (.bool (eqB l m)) ∧ Below w.heap.size w w' := by
 obtain ⟨a, la, ca, rfl, hl⟩ := hl
 obtain ⟨b, lb, cb, rfl, hm⟩ := hm
 exact (ints_any a b la lb ca cb l m w hl hm (by rw [← hl.len]; exact h1) (by rw [← hm.len]; exact h2)).mono fun e w' => drew_below
structure Ar where
 s : List Int
 p : List Int
 g : List Int
 r : List Int
structure AL (w : World) (s p g r : Value) (x : Ar) : Prop where
 s : ILv w s x.s
 p : ILv w p x.p
 g : ILv w g x.g
 r : ILv w r x.r
theorem AL.below {w w' : World} {s p g r : Value} {x : Ar} (h : AL w s p g r x) (hb : Below w.heap.size w w') : AL w' s p g r x :=
 ⟨h.s.below hb, h.p.below hb, h.g.below hb, h.r.below hb⟩
def Ar.small (x : Ar) : Prop := x.s.length ≤ 200 ∧ x.p.length ≤ 200 ∧ x.g.length ≤ 200 ∧ x.r.length ≤ 200
instance (x : Ar) : Decidable x.small := by unfold Ar.small; exact inferInstance
theorem lists_any (a1 a2 a3 a4 : Option Addr) (l1 l2 l3 l4 c1 c2 c3 c4 : Nat) (w : World) : Calls Tryz.prog 98 #[.agg #[.slice a1 l1 c1, .slice a2 l2 c2, .slice a3 l3 c3, .slice a4 l4 c4]] w fun e w' => e = .returned (.agg #[.slice none 0 0, .slice a1 l1 c1, .slice a2 l2 c2, .slice a3 l3 c3, .slice a4 l4 c4]) ∧ Below w.heap.size w w' := by
 go_enter Tryz.func98, Tryz.ntmps98
 go_wp2_with fail
 exact bodyPost_ret (v := .agg #[.slice none 0 0, .slice a1 l1 c1, .slice a2 l2 c2, .slice a3 l3 c3, .slice a4 l4 c4]) (by simp [results, Tryz.results98, go_sem]) rfl ⟨rfl, (((Below.refl _ _).alloc (Nat.le_refl _) _).alloc (by simp) _)⟩
theorem great_any (s p g r : Value) (x : Ar) (w : World) (hx : AL w s p g r x) : Calls Tryz.prog 35 #[.agg #[s, p, g, r]] w fun e w' => e = .returned (.bool (!decide x.small)) ∧ Below w.heap.size w w' := by
 obtain ⟨⟨a1, l1, c1, rfl, h1⟩, ⟨a2, l2, c2, rfl, h2⟩, ⟨a3, l3, c3, rfl, h3⟩, ⟨a4, l4, c4, rfl, h4⟩⟩ := hx
 have HE : Hid (x.small ↔ (l1 ≤ 200 ∧ l2 ≤ 200 ∧ l3 ≤ 200 ∧ l4 ≤ 200)) := by
  show _ ↔ _
  unfold Ar.small
  rw [h1.len, h2.len, h3.len, h4.len]
 clear h1 h2 h3 h4
 go_enter Tryz.func35, Tryz.ntmps35
 go_wp2_with fail
 all_goals
  go_ret
  refine ⟨rbool ?_, (Below.refl _ _).alloc (Nat.le_refl _) _⟩
  have h := HE.out
  by_cases hs : x.small <;> simp [hs] <;> simp [hs] at h <;> omega
def hasA (x : Ar) (kind n : Int) : Bool := if kind = 1 then hasB x.s n else if kind = 2 then hasB x.p n else if kind = 3 then hasB x.g n else if kind = 4 then hasB x.r n else false
theorem refhas_any (s p g r : Value) (x : Ar) (kind n : Int) (w : World) (hx : AL w s p g r x) (hs : x.small) (hk : 0 ≤ kind) (hk2 : kind ≤ 255) : Calls Tryz.prog 168 #[.agg #[s, p, g, r], .int .u8 kind, .int .i64 n] w fun e w' => e = .returned (.bool (hasA x kind n)) ∧ Below w.heap.size w w' := by
 obtain ⟨s1, s2, s3, s4⟩ := hs
 have HX : Hid (∀ w', Below w.heap.size w w' → AL w' s p g r x) := fun w' hb => hx.below hb
 obtain ⟨⟨a1, l1, c1, rfl, h1⟩, ⟨a2, l2, c2, rfl, h2⟩, ⟨a3, l3, c3, rfl, h3⟩, ⟨a4, l4, c4, rfl, h4⟩⟩ := hx
 clear h1 h2 h3 h4
 have k0 : Below w.heap.size w (w.alloc (.cells #[.slice a1 l1 c1, .slice a2 l2 c2, .slice a3 l3 c3, .slice a4 l4 c4] 56)) := (Below.refl _ _).alloc (Nat.le_refl _) _
 have K0 := Lib.hid k0
 clear k0
 by_cases h1 : kind = 1
 ·subst h1
  go_enter Tryz.func168, Tryz.ntmps168
  go_wp2_with fail
  refine (in_v _ x.s n _ (HX.out _ K0.out).s (by omega)).mono ?_
  rintro e w1 ⟨rfl, hb⟩
  go_wp2_with fail
  go_ret
  exact ⟨rbool rfl, K0.out.trans (hb.mono K0.out.size)⟩
 ·have e1 : (kind == 1) = false := by rw [beq_eq_false_iff_ne]; exact h1
  by_cases h2 : kind = 2
  ·subst h2
   go_enter Tryz.func168, Tryz.ntmps168
   go_wp2_with fail
   refine (in_v _ x.p n _ (HX.out _ K0.out).p (by omega)).mono ?_
   rintro e w1 ⟨rfl, hb⟩
   go_wp2_with fail
   go_ret
   exact ⟨rbool rfl, K0.out.trans (hb.mono K0.out.size)⟩
  ·have e2 : (kind == 2) = false := by rw [beq_eq_false_iff_ne]; exact h2
   by_cases h3 : kind = 3
   ·subst h3
    go_enter Tryz.func168, Tryz.ntmps168
    go_wp2_with fail
    refine (in_v _ x.g n _ (HX.out _ K0.out).g (by omega)).mono ?_
    rintro e w1 ⟨rfl, hb⟩
    go_wp2_with fail
    go_ret
    exact ⟨rbool rfl, K0.out.trans (hb.mono K0.out.size)⟩
   ·have e3 : (kind == 3) = false := by rw [beq_eq_false_iff_ne]; exact h3
    by_cases h4 : kind = 4
    ·subst h4
     go_enter Tryz.func168, Tryz.ntmps168
     go_wp2_with fail
     refine (in_v _ x.r n _ (HX.out _ K0.out).r (by omega)).mono ?_
     rintro e w1 ⟨rfl, hb⟩
     go_wp2_with fail
     go_ret
     exact ⟨rbool rfl, K0.out.trans (hb.mono K0.out.size)⟩
    ·have e4 : (kind == 4) = false := by rw [beq_eq_false_iff_ne]; exact h4
     have HE : Hid (hasA x kind n = false) := by show _ = _; unfold hasA; rw [if_neg h1, if_neg h2, if_neg h3, if_neg h4]
     clear h1 h2 h3 h4
     go_enter Tryz.func168, Tryz.ntmps168
     go_wp2_with fail
     go_ret
     exact ⟨rbool HE.out.symm, K0.out⟩
def sameA (x y : Ar) : Bool := eqB x.s y.s && eqB x.p y.p && eqB x.g y.g && eqB x.r y.r
end Go.Proofs.YtbiehpjhhopjaaaGreat
namespace Go.Proofs.YtbiehpjhhopjaaaGreat
open Go.RowKit Go.Sort
theorem refsame_any (s p g r s' p' g' r' : Value) (x y : Ar) (w : World) (hx : AL w s p g r x) (hy : AL w s' p' g' r' y) (sx : x.small) (sy : y.small) :
  Calls Tryz.prog 40 #[.agg #[s, p, g, r], .agg #[s', p', g', r']] w fun e w' => e = .returned (.bool (sameA x y)) ∧ Below w.heap.size w w' := by
 obtain ⟨x1, x2, x3, x4⟩ := sx
 obtain ⟨y1, y2, y3, y4⟩ := sy
 have HX : Hid (∀ w', Below w.heap.size w w' → AL w' s p g r x) := fun w' hb => hx.below hb
 have HY : Hid (∀ w', Below w.heap.size w w' → AL w' s' p' g' r' y) := fun w' hb => hy.below hb
 obtain ⟨⟨a1, l1, c1, rfl, h1⟩, ⟨a2, l2, c2, rfl, h2⟩, ⟨a3, l3, c3, rfl, h3⟩, ⟨a4, l4, c4, rfl, h4⟩⟩ := hx
 clear h1 h2 h3 h4
 obtain ⟨⟨b1, m1, d1, rfl, h1⟩, ⟨b2, m2, d2, rfl, h2⟩, ⟨b3, m3, d3, rfl, h3⟩, ⟨b4, m4, d4, rfl, h4⟩⟩ := hy
 clear h1 h2 h3 h4
 have k0 : Below w.heap.size w ((w.alloc (.cells #[.slice a1 l1 c1, .slice a2 l2 c2, .slice a3 l3 c3, .slice a4 l4 c4] 56)).alloc (.cells #[.slice b1 m1 d1, .slice b2 m2 d2, .slice b3 m3 d3, .slice b4 m4 d4] 56)) := ((Below.refl _ _).alloc (Nat.le_refl _) _).alloc (by simp) _
 have K0 := Lib.hid k0
 clear k0
 by_cases q1 : eqB x.s y.s = true
 ·have Q1 := Lib.hid q1
  by_cases q2 : eqB x.p y.p = true
  ·have Q2 := Lib.hid q2
   by_cases q3 : eqB x.g y.g = true
   ·have Q3 := Lib.hid q3
    by_cases q4 : eqB x.r y.r = true
    ·have Q4 := Lib.hid q4
     have HE : Hid (sameA x y = true) := by show _ = _; unfold sameA; rw [q1, q2, q3, q4]; rfl
     clear q1 q2 q3 q4
     go_enter Tryz.func40, Tryz.ntmps40
     go_wp2_with fail
     refine (ints_v _ _ x.s y.s _ (HX.out _ K0.out).s (HY.out _ K0.out).s (by omega) (by omega)).mono ?_
     rintro e w1 ⟨rfl, hb⟩
     have K1 := Lib.hid (K0.out.trans (hb.mono K0.out.size))
     rw [Q1.out]
     have S1 : w.heap.size + 1 + 1 ≤ w1.heap.size := by have := hb.size; simp at this; omega
     have hc := fun b o (h : b < w.heap.size + 1 + 1) => hb.cell (p := ⟨b, o, none⟩) (by simpa using h)
     have HC1 := Lib.hid hc
     clear hb
     go_wp2_with fail
     refine (ints_v _ _ x.p y.p _ (HX.out _ K1.out).p (HY.out _ K1.out).p (by omega) (by omega)).mono ?_
     rintro e w2 ⟨rfl, hb⟩
     have K2 := Lib.hid (K1.out.trans (hb.mono K1.out.size))
     rw [Q2.out]
     have S2 : w.heap.size + 1 + 1 ≤ w2.heap.size := by have := hb.size; omega
     clear hc
     have hc := fun b o (h : b < w.heap.size + 1 + 1) => (hb.cell (p := ⟨b, o, none⟩) (Nat.lt_of_lt_of_le h S1)).trans (HC1.out b o h)
     have HC2 := Lib.hid hc
     clear hb
     go_wp2_with fail
     refine (ints_v _ _ x.g y.g _ (HX.out _ K2.out).g (HY.out _ K2.out).g (by omega) (by omega)).mono ?_
     rintro e w3 ⟨rfl, hb⟩
     have K3 := Lib.hid (K2.out.trans (hb.mono K2.out.size))
     rw [Q3.out]
     have S3 : w.heap.size + 1 + 1 ≤ w3.heap.size := by have := hb.size; omega
     clear hc
     have hc := fun b o (h : b < w.heap.size + 1 + 1) => (hb.cell (p := ⟨b, o, none⟩) (Nat.lt_of_lt_of_le h S2)).trans (HC2.out b o h)
     have HC3 := Lib.hid hc
     clear hb
     go_wp2_with fail
     refine (ints_v _ _ x.r y.r _ (HX.out _ K3.out).r (HY.out _ K3.out).r (by omega) (by omega)).mono ?_
     rintro e w4 ⟨rfl, hb⟩
     have K4 := Lib.hid (K3.out.trans (hb.mono K3.out.size))
     rw [Q4.out]
     clear hb
     go_wp2_with fail
     go_ret
     exact ⟨rbool HE.out.symm, K4.out⟩
    ·rw [Bool.not_eq_true] at q4
     have Q4 := Lib.hid q4
     have HE : Hid (sameA x y = false) := by show _ = _; unfold sameA; rw [q1, q2, q3, q4]; simp
     clear q1 q2 q3 q4
     go_enter Tryz.func40, Tryz.ntmps40
     go_wp2_with fail
     refine (ints_v _ _ x.s y.s _ (HX.out _ K0.out).s (HY.out _ K0.out).s (by omega) (by omega)).mono ?_
     rintro e w1 ⟨rfl, hb⟩
     have K1 := Lib.hid (K0.out.trans (hb.mono K0.out.size))
     rw [Q1.out]
     have S1 : w.heap.size + 1 + 1 ≤ w1.heap.size := by have := hb.size; simp at this; omega
     have hc := fun b o (h : b < w.heap.size + 1 + 1) => hb.cell (p := ⟨b, o, none⟩) (by simpa using h)
     have HC1 := Lib.hid hc
     clear hb
     go_wp2_with fail
     refine (ints_v _ _ x.p y.p _ (HX.out _ K1.out).p (HY.out _ K1.out).p (by omega) (by omega)).mono ?_
     rintro e w2 ⟨rfl, hb⟩
     have K2 := Lib.hid (K1.out.trans (hb.mono K1.out.size))
     rw [Q2.out]
     have S2 : w.heap.size + 1 + 1 ≤ w2.heap.size := by have := hb.size; omega
     clear hc
     have hc := fun b o (h : b < w.heap.size + 1 + 1) => (hb.cell (p := ⟨b, o, none⟩) (Nat.lt_of_lt_of_le h S1)).trans (HC1.out b o h)
     have HC2 := Lib.hid hc
     clear hb
     go_wp2_with fail
     refine (ints_v _ _ x.g y.g _ (HX.out _ K2.out).g (HY.out _ K2.out).g (by omega) (by omega)).mono ?_
     rintro e w3 ⟨rfl, hb⟩
     have K3 := Lib.hid (K2.out.trans (hb.mono K2.out.size))
     rw [Q3.out]
     have S3 : w.heap.size + 1 + 1 ≤ w3.heap.size := by have := hb.size; omega
     clear hc
     have hc := fun b o (h : b < w.heap.size + 1 + 1) => (hb.cell (p := ⟨b, o, none⟩) (Nat.lt_of_lt_of_le h S2)).trans (HC2.out b o h)
     have HC3 := Lib.hid hc
     clear hb
     go_wp2_with fail
     refine (ints_v _ _ x.r y.r _ (HX.out _ K3.out).r (HY.out _ K3.out).r (by omega) (by omega)).mono ?_
     rintro e w4 ⟨rfl, hb⟩
     have K4 := Lib.hid (K3.out.trans (hb.mono K3.out.size))
     rw [Q4.out]
     clear hb
     go_wp2_with fail
     go_ret
     exact ⟨rbool HE.out.symm, K4.out⟩
   ·rw [Bool.not_eq_true] at q3
    have Q3 := Lib.hid q3
    have HE : Hid (sameA x y = false) := by show _ = _; unfold sameA; rw [q1, q2, q3]; simp
    clear q1 q2 q3
    go_enter Tryz.func40, Tryz.ntmps40
    go_wp2_with fail
    refine (ints_v _ _ x.s y.s _ (HX.out _ K0.out).s (HY.out _ K0.out).s (by omega) (by omega)).mono ?_
    rintro e w1 ⟨rfl, hb⟩
    have K1 := Lib.hid (K0.out.trans (hb.mono K0.out.size))
    rw [Q1.out]
    have S1 : w.heap.size + 1 + 1 ≤ w1.heap.size := by have := hb.size; simp at this; omega
    have hc := fun b o (h : b < w.heap.size + 1 + 1) => hb.cell (p := ⟨b, o, none⟩) (by simpa using h)
    have HC1 := Lib.hid hc
    clear hb
    go_wp2_with fail
    refine (ints_v _ _ x.p y.p _ (HX.out _ K1.out).p (HY.out _ K1.out).p (by omega) (by omega)).mono ?_
    rintro e w2 ⟨rfl, hb⟩
    have K2 := Lib.hid (K1.out.trans (hb.mono K1.out.size))
    rw [Q2.out]
    have S2 : w.heap.size + 1 + 1 ≤ w2.heap.size := by have := hb.size; omega
    clear hc
    have hc := fun b o (h : b < w.heap.size + 1 + 1) => (hb.cell (p := ⟨b, o, none⟩) (Nat.lt_of_lt_of_le h S1)).trans (HC1.out b o h)
    have HC2 := Lib.hid hc
    clear hb
    go_wp2_with fail
    refine (ints_v _ _ x.g y.g _ (HX.out _ K2.out).g (HY.out _ K2.out).g (by omega) (by omega)).mono ?_
    rintro e w3 ⟨rfl, hb⟩
    have K3 := Lib.hid (K2.out.trans (hb.mono K2.out.size))
    rw [Q3.out]
    clear hb
    go_wp2_with fail
    go_ret
    exact ⟨rbool HE.out.symm, K3.out⟩
  ·rw [Bool.not_eq_true] at q2
   have Q2 := Lib.hid q2
   have HE : Hid (sameA x y = false) := by show _ = _; unfold sameA; rw [q1, q2]; simp
   clear q1 q2
   go_enter Tryz.func40, Tryz.ntmps40
   go_wp2_with fail
   refine (ints_v _ _ x.s y.s _ (HX.out _ K0.out).s (HY.out _ K0.out).s (by omega) (by omega)).mono ?_
   rintro e w1 ⟨rfl, hb⟩
   have K1 := Lib.hid (K0.out.trans (hb.mono K0.out.size))
   rw [Q1.out]
   have S1 : w.heap.size + 1 + 1 ≤ w1.heap.size := by have := hb.size; simp at this; omega
   have hc := fun b o (h : b < w.heap.size + 1 + 1) => hb.cell (p := ⟨b, o, none⟩) (by simpa using h)
   have HC1 := Lib.hid hc
   clear hb
   go_wp2_with fail
   refine (ints_v _ _ x.p y.p _ (HX.out _ K1.out).p (HY.out _ K1.out).p (by omega) (by omega)).mono ?_
   rintro e w2 ⟨rfl, hb⟩
   have K2 := Lib.hid (K1.out.trans (hb.mono K1.out.size))
   rw [Q2.out]
   clear hb
   go_wp2_with fail
   go_ret
   exact ⟨rbool HE.out.symm, K2.out⟩
 ·rw [Bool.not_eq_true] at q1
  have Q1 := Lib.hid q1
  have HE : Hid (sameA x y = false) := by show _ = _; unfold sameA; rw [q1]; simp
  clear q1
  go_enter Tryz.func40, Tryz.ntmps40
  go_wp2_with fail
  refine (ints_v _ _ x.s y.s _ (HX.out _ K0.out).s (HY.out _ K0.out).s (by omega) (by omega)).mono ?_
  rintro e w1 ⟨rfl, hb⟩
  have K1 := Lib.hid (K0.out.trans (hb.mono K0.out.size))
  rw [Q1.out]
  clear hb
  go_wp2_with fail
  go_ret
  exact ⟨rbool HE.out.symm, K1.out⟩
section
open Go.RowKit
theorem cells2 {W : World} {g : Nat} {c0 c1 : Value} {T : TypeId} {fr : Nat × Nat} (h : W.heap[g]? = some (.cells #[c0, c1] T fr)) : W.cell? ⟨g, 0, none⟩ = some c0 ∧ W.cell? ⟨g, 1, none⟩ = some c1 :=
  ⟨(cell_of_row W g 0 _ _ _ h).trans rfl, (cell_of_row W g 1 _ _ _ h).trans rfl⟩
theorem cells3 {W : World} {g : Nat} {c0 c1 c2 : Value} {T : TypeId} {fr : Nat × Nat} (h : W.heap[g]? = some (.cells #[c0, c1, c2] T fr)) : W.cell? ⟨g, 0, none⟩ = some c0 ∧ W.cell? ⟨g, 1, none⟩ = some c1 ∧ W.cell? ⟨g, 2, none⟩ = some c2 :=
  ⟨(cell_of_row W g 0 _ _ _ h).trans rfl, (cell_of_row W g 1 _ _ _ h).trans rfl, (cell_of_row W g 2 _ _ _ h).trans rfl⟩
theorem cells4 {W : World} {g : Nat} {c0 c1 c2 c3 : Value} {T : TypeId} {fr : Nat × Nat} (h : W.heap[g]? = some (.cells #[c0, c1, c2, c3] T fr)) : W.cell? ⟨g, 0, none⟩ = some c0 ∧ W.cell? ⟨g, 1, none⟩ = some c1 ∧ W.cell? ⟨g, 2, none⟩ = some c2 ∧ W.cell? ⟨g, 3, none⟩ = some c3 :=
  ⟨(cell_of_row W g 0 _ _ _ h).trans rfl, (cell_of_row W g 1 _ _ _ h).trans rfl, (cell_of_row W g 2 _ _ _ h).trans rfl, (cell_of_row W g 3 _ _ _ h).trans rfl⟩
theorem cells6 {W : World} {g : Nat} {c0 c1 c2 c3 c4 c5 : Value} {T : TypeId} {fr : Nat × Nat} (h : W.heap[g]? = some (.cells #[c0, c1, c2, c3, c4, c5] T fr)) : W.cell? ⟨g, 0, none⟩ = some c0 ∧ W.cell? ⟨g, 1, none⟩ = some c1 ∧ W.cell? ⟨g, 2, none⟩ = some c2 ∧ W.cell? ⟨g, 3, none⟩ = some c3 ∧ W.cell? ⟨g, 4, none⟩ = some c4 ∧ W.cell? ⟨g, 5, none⟩ = some c5 :=
  ⟨(cell_of_row W g 0 _ _ _ h).trans rfl, (cell_of_row W g 1 _ _ _ h).trans rfl, (cell_of_row W g 2 _ _ _ h).trans rfl, (cell_of_row W g 3 _ _ _ h).trans rfl, (cell_of_row W g 4 _ _ _ h).trans rfl, (cell_of_row W g 5 _ _ _ h).trans rfl⟩
theorem cells7 {W : World} {g : Nat} {c0 c1 c2 c3 c4 c5 c6 : Value} {T : TypeId} {fr : Nat × Nat} (h : W.heap[g]? = some (.cells #[c0, c1, c2, c3, c4, c5, c6] T fr)) : W.cell? ⟨g, 0, none⟩ = some c0 ∧ W.cell? ⟨g, 1, none⟩ = some c1 ∧ W.cell? ⟨g, 2, none⟩ = some c2 ∧ W.cell? ⟨g, 3, none⟩ = some c3 ∧ W.cell? ⟨g, 4, none⟩ = some c4 ∧ W.cell? ⟨g, 5, none⟩ = some c5 ∧ W.cell? ⟨g, 6, none⟩ = some c6 :=
  ⟨(cell_of_row W g 0 _ _ _ h).trans rfl, (cell_of_row W g 1 _ _ _ h).trans rfl, (cell_of_row W g 2 _ _ _ h).trans rfl, (cell_of_row W g 3 _ _ _ h).trans rfl, (cell_of_row W g 4 _ _ _ h).trans rfl, (cell_of_row W g 5 _ _ _ h).trans rfl, (cell_of_row W g 6 _ _ _ h).trans rfl⟩
theorem cells9 {W : World} {g : Nat} {c0 c1 c2 c3 c4 c5 c6 c7 c8 : Value} {T : TypeId} {fr : Nat × Nat} (h : W.heap[g]? = some (.cells #[c0, c1, c2, c3, c4, c5, c6, c7, c8] T fr)) : W.cell? ⟨g, 0, none⟩ = some c0 ∧ W.cell? ⟨g, 1, none⟩ = some c1 ∧ W.cell? ⟨g, 2, none⟩ = some c2 ∧ W.cell? ⟨g, 3, none⟩ = some c3 ∧ W.cell? ⟨g, 4, none⟩ = some c4 ∧ W.cell? ⟨g, 5, none⟩ = some c5 ∧ W.cell? ⟨g, 6, none⟩ = some c6 ∧ W.cell? ⟨g, 7, none⟩ = some c7 ∧ W.cell? ⟨g, 8, none⟩ = some c8 :=
  ⟨(cell_of_row W g 0 _ _ _ h).trans rfl, (cell_of_row W g 1 _ _ _ h).trans rfl, (cell_of_row W g 2 _ _ _ h).trans rfl, (cell_of_row W g 3 _ _ _ h).trans rfl, (cell_of_row W g 4 _ _ _ h).trans rfl, (cell_of_row W g 5 _ _ _ h).trans rfl, (cell_of_row W g 6 _ _ _ h).trans rfl, (cell_of_row W g 7 _ _ _ h).trans rfl, (cell_of_row W g 8 _ _ _ h).trans rfl⟩
theorem wpOp_put {P : Program} {ops : Array Oper} {i : Nat} {a : Act} {w : World} {Q : Exit → Act → World → Prop} {K : Act → World → Prop} {F9 : Act} {w9 : World} (h : wpOp P ops Q i (fun a' w' => a' = F9 ∧ w' = w9) a w) (hk : K F9 w9) : wpOp P ops Q i K a w :=
  wpOp_mono (fun a' w' hh => by obtain ⟨rfl, rfl⟩ := hh; exact hk) h
theorem wpOp_putB {P : Program} {ops : Array Oper} {i : Nat} {a : Act} {w : World} {Q : Exit → Act → World → Prop} {K : Act → World → Prop} {F9 : Act} {R : World → Prop} (h : wpOp P ops Q i (fun a' w' => a' = F9 ∧ R w') a w) (hk : ∀ w', R w' → K F9 w') : wpOp P ops Q i K a w :=
  wpOp_mono (fun a' w' hh => by obtain ⟨rfl, hb⟩ := hh; exact hk w' hb) h
end
end Go.Proofs.YtbiehpjhhopjaaaGreat
