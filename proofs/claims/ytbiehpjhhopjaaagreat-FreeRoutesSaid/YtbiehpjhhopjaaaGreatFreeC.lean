/-
  free.some, walked.
-/
import Derived.Test.YtbiehpjhhopjaaaGreatFreeA
import Derived.Test.YtbiehpjhhopjaaaGreatShelf
set_option linter.unusedVariables false
set_option linter.unusedSimpArgs false
namespace Go.Proofs.YtbiehpjhhopjaaaGreat
open Go.RowKit Go.Maps Go.Sort
/-- a list of numbers -/
def IPost (w : World) (l : List Int) (e : Ending) (w' : World) : Prop := ∃ v, e = .returned v ∧ ILv w' v l ∧ CapOk v ∧ Below w.heap.size w w'
theorem oneI (x : Int) : ∀ u ∈ [Value.int .i64 x], u.oneCell' = true := by
  intro u hu
  rw [List.mem_singleton] at hu
  subst hu
  rfl
theorem filter_take {α : Type} {pr : α → Bool} {l : List α} {k : Nat} (h : k < l.length) : (l.take (k + 1)).filter pr = (l.take k).filter pr ++ (if pr l[k] then [l[k]] else []) := by
  rw [List.take_succ_eq_append_getElem h, List.filter_append]
  congr 1
  rw [List.filter_cons]
  split <;> simp
set_option maxRecDepth 100000 in
set_option maxHeartbeats 8000000 in
theorem some_any (f : FuncId) (bound : Array Value) (pr : Int → Bool) (a : Option Addr) (cap : Nat) (l : List Int) (w : World) (hl : IL w a l.length l) (hm : l.length ≤ 1000) (hf : PlainF f)
    (hcl : ∀ n W, Below w.heap.size w W → Calls Tryz.prog f (bound ++ #[.int .i64 n]) W (BoolPost W (pr n))) :
    Calls Tryz.prog 91 #[.func (.func f) bound #[], .slice a l.length cap] w (IPost w (normI (l.filter pr))) := by
  have HL : Hid (∀ w', Below w.heap.size w w' → IL w' a l.length l) := fun w' hb => hl.below hb
  have hcf : ∀ (args : Array Value) (w : World), Sem.run Tryz.prog (callFunc f args) w = .ok (.enter f args) w := hf
  have HCL := Lib.hid hcl
  clear hl hcl hf
  go_enter Tryz.func91, Tryz.ntmps91
  go_wp2_with fail
  go_loopg [4, 9] l.length (fun g r i wr => ∃ (k : Nat) (b : Option Addr) (d : Nat), k ≤ l.length ∧ g = l.length - k ∧ r = .slice b ((l.take k).filter pr).length d ∧ i = .int .i64 k ∧ Below w.heap.size w wr ∧ IntOwn wr w.heap.size (.slice b ((l.take k).filter pr).length d) ((l.take k).filter pr))
  case atStart => exact ⟨0, none, 0, by omega, by omega, rfl, rfl, Below.refl _ _, World.ownsRow_nil _ _ _ _⟩
  case round =>
    obtain ⟨k, b, d, hk, rfl, rfl, rfl, hb, ho⟩ := hrel
    have HB := Lib.hid hb
    have HO := Lib.hid ho
    clear hb ho
    by_cases hlt : k < l.length
    · have hd : decide ((k : Int) < (l.length : Int)) = true := by simp; omega
      obtain ⟨g, off, rfl, x0⟩ := (HL.out _ HB.out).cell k hlt
      have c0 : (0 : Int) ≤ (k : Int) := by omega
      have c1 : (k : Int) < (l.length : Int) := by omega
      have HC := Lib.hid (HCL.out l[k] wr HB.out)
      have HFT := Lib.hid (filter_take (pr := pr) hlt)
      have hfl : ((l.take k).filter pr).length ≤ 1000 := Nat.le_trans (List.length_filter_le _ _) (by rw [List.length_take]; omega)
      generalize (l.take k).filter pr = FK at *
      cases hp : pr l[k] with
      | true =>
        rw [hp] at HC HFT
        clear hp
        go_wp2_with fail
        refine HC.out.mono ?_
        rintro e0 w1 ⟨rfl, hb1⟩
        have K1 : Hid (Below w.heap.size w w1) := HB.out.trans (hb1.mono HB.out.size)
        have O1 : Hid (w1.ownsRow w.heap.size 3 1 (.slice b FK.length d) FK.length (FK.map (.int .i64))) := own_below HO.out hb1
        clear hb1 HC x0
        have hbase : w.heap.size ≤ w1.heap.size := K1.out.size
        go_wp2_with (at_builtin; refine wpList_append_one rfl _ _ 54 3 3 _ 1 8 rfl Tryz.underlying54 info3 rfl (by decide) (by decide) w.heap.size (.slice b FK.length d) FK.length _ rfl O1.out hfl hbase [.int .i64 l[k]] rfl rfl (oneI _) ?_; intro b8 c8 w8 hown8 hgr8)
        have hB8 : RowKit.Below w.heap.size w w8 := (K1.out.alloc hbase _).trans (grown_below (O1.out.alloc _) (Nat.le_refl _) (by simp; omega) hgr8)
        have ho8 : IntOwn w8 w.heap.size (.slice (some ⟨b8, 0, none⟩) (FK.length + 1) c8) (FK ++ [l[k]]) := by
          show World.ownsRow _ _ _ _ _ _ _
          rw [List.length_append, List.map_append]
          exact hown8
        go_roundg (l.length - (k + 1))
        case measure => go_light; omega
        case rel => go_light; exact ⟨k + 1, some ⟨b8, 0, none⟩, c8, by omega, by omega, by rw [HFT.out]; simp, by go_num, hB8, by rw [HFT.out]; simpa using ho8⟩
      | false =>
        rw [hp] at HC HFT
        clear hp
        go_wp2_with fail
        refine HC.out.mono ?_
        rintro e0 w1 ⟨rfl, hb1⟩
        have K1 : Hid (Below w.heap.size w w1) := HB.out.trans (hb1.mono HB.out.size)
        have O1 : Hid (IntOwn w1 w.heap.size (.slice b FK.length d) FK) := own_below HO.out hb1
        clear hb1 HC x0
        go_wp2_with fail
        go_roundg (l.length - (k + 1))
        case measure => go_light; omega
        case rel => go_light; exact ⟨k + 1, b, d, by omega, by omega, by rw [HFT.out]; simp, by go_num, K1.out, by rw [HFT.out]; simpa using O1.out⟩
    · obtain rfl : k = l.length := by omega
      have hd : decide ((l.length : Int) < (l.length : Int)) = false := by simp
      have ho := HO.out
      rw [List.take_length] at ho ⊢
      have hfl : (l.filter pr).length ≤ 1000 := Nat.le_trans (List.length_filter_le _ _) hm
      have HS := Lib.hid (sort_own ho HB.out.size hfl)
      unfold normI
      generalize l.filter pr = FK at *
      clear ho HO
      go_wp2_with fail
      refine HS.out.mono ?_
      rintro e w1 ⟨rfl, ho1, hb1⟩
      have K1 : Hid (Below w.heap.size w w1) := HB.out.trans hb1
      have HCO := Lib.hid (compact_own ho1 K1.out.size (by rw [sortI_len]; exact hfl))
      clear ho1 hb1 HS
      go_wp2_with fail
      refine HCO.out.mono ?_
      rintro e w2 ⟨v', rfl, ho2, hb2⟩
      have K2 : Hid (Below w.heap.size w w2) := K1.out.trans hb2
      have HO2 := Lib.hid ho2
      obtain ⟨a', c', rfl⟩ := IntOwn.slice ho2
      clear ho2 hb2 HCO
      go_wp2_with fail
      go_ret
      exact ⟨_, rfl, HO2.out.ilv, own_cap HO2.out, K2.out⟩
end Go.Proofs.YtbiehpjhhopjaaaGreat
