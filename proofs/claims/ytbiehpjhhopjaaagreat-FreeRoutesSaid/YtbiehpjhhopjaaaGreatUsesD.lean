/-
  What a route uses, as a set: area.uses, walked.
  plan.find of routes, walked. (Written by wip/tools/gen_findrt.py.)
  plan.asked of routes, walked. (Written by wip/tools/gen_asked.py.)
-/
import Derived.Test.YtbiehpjhhopjaaaGreatUsesA
import Derived.Test.YtbiehpjhhopjaaaGreatIxfn
import Derived.Test.YtbiehpjhhopjaaaGreatPlanD
import Derived.Test.YtbiehpjhhopjaaaGreatPlanG
set_option linter.unusedVariables false
set_option linter.unusedSimpArgs false
namespace Go.Proofs.YtbiehpjhhopjaaaGreat
open Go.RowKit Go.Maps Go.Sort
/-- area.uses$1 -/
theorem flIs_any (pt lie : Int) (g : Nat) (n : Int) (w : World) (hc : w.cell? ⟨g, 1, none⟩ = some (.int .i64 n)) :
    Calls Tryz.prog 203 #[.agg #[.int .i64 pt, .int .i64 lie], .pointer (some ⟨g, 0, none⟩)] w fun e w' => e = .returned (.bool (pt == n)) ∧ Below w.heap.size w w' := by
  have hlt := block_lt_of_cell hc
  go_enter Tryz.func203, Tryz.ntmps203
  go_wp2_with fail
  go_ret
  exact ⟨rfl, (Below.refl _ _).alloc (Nat.le_refl _) _⟩
/-- the world of area.uses: the two boxes and the set -/
structure Us (w W : World) (pc rc : Array Value) (m : Nat) (S : Int → Int → Prop) : Prop where
  bel : Below w.heap.size w W
  px : W.heap[w.heap.size]? = some (.cells pc 28 (0, 0))
  rx : W.heap[w.heap.size + 1]? = some (.cells rc 102 (0, 0))
  st : SetIs W (w.heap.size + 1 + 1) m S
theorem Us.below {w W W' : World} {pc rc : Array Value} {m : Nat} {S : Int → Int → Prop} (h : Us w W pc rc m S) (hb : Below W.heap.size W W') : Us w W' pc rc m S :=
  ⟨h.bel.trans (hb.mono h.bel.size), (hb.block _ (lt_of_block h.px)).trans h.px, (hb.block _ (lt_of_block h.rx)).trans h.rx, h.st.below hb⟩
theorem addU {w W : World} {pc rc : Array Value} {m : Nat} {S : Int → Int → Prop} (h : Us w W pc rc m S) (hm : m ≤ 999) (kind x : Int) (wk : (Lit.int .u8 kind).wf = true) (wx : (Lit.int .i64 x).wf = true) :
    Calls Tryz.prog 201 #[.map (some (w.heap.size + 1 + 1)), .int .u8 kind, .slice (some ⟨W.heap.size, 0, none⟩) 1 1] (W.alloc (.cells #[.int .i64 x] 3)) fun e w' => e = .returned (.tuple #[]) ∧ Us w w' pc rc (m + 1) (fun q y => (q = kind ∧ y = x) ∨ S q y) ∧ W.heap.size ≤ w'.heap.size ∧ (∀ (c : Addr) v, c.block ≠ w.heap.size + 1 + 1 → W.cell? c = some v → w'.cell? c = some v) := by
  have hV := h.below ((Below.refl W.heap.size W).alloc (Nat.le_refl _) (.cells #[.int .i64 x] 3))
  have hc : (W.alloc (.cells #[.int .i64 x] 3)).cell? ⟨W.heap.size, 0, none⟩ = some (.int .i64 x) := (cell_of_row _ _ 0 #[.int .i64 x] 3 (0, 0) (Go.MapKept.heap_alloc W _).1).trans rfl
  have hil : IL (W.alloc (.cells #[.int .i64 x] 3)) (some ⟨W.heap.size, 0, none⟩) [x].length [x] := ⟨rfl, fun i hi => by
    obtain rfl : i = 0 := by simp at hi; omega
    exact ⟨W.heap.size, 0, rfl, hc⟩⟩
  refine (add_any (w.heap.size + 1 + 1) m S kind (some ⟨W.heap.size, 0, none⟩) 1 [x] _ hV.st hil (by simp) (by omega) wk (fun y hy => by rw [List.mem_singleton] at hy; subst hy; exact wx)).mono ?_
  rintro e w' ⟨rfl, hs, hg⟩
  refine ⟨rfl, ⟨hV.bel.grown hg hV.bel.size (fun j hj => by cases hj; omega), (hg.block _ (lt_of_block hV.px) (by simp; omega)).trans hV.px, (hg.block _ (lt_of_block hV.rx) (by simp)).trans hV.rx, ?_⟩, by have := hg.size; simp at this; omega, fun c v hc' hv => ?_⟩
  rotate_left
  · have hlt := block_lt_of_cell hv
    rw [World.cell?_of_block (w := W)]
    · exact hv
    · exact (hg.block _ (by simp; omega) (fun e => hc' (Option.some.inj e))).trans (heap_alloc_old _ _ hlt)
  exact hs.congr fun q y => by rw [List.mem_singleton]
theorem plain203 : PlainF 203 := fun args w => by simp [go_sem]
/-- what is said of the set of what a route uses -/
structure UseS (p : Pl) (r : Rt) (S : Int → Int → Prop) : Prop where
  rt : S 4 r.id
  sg : ∀ x, S 3 x → x = r.entry ∨ (0 < r.exit ∧ x = r.exit)
def UsePost (w : World) (p : Pl) (r : Rt) (e : Ending) (w' : World) : Prop := ∃ b n S, e = .returned (.map (some b)) ∧ SetIs w' b n S ∧ n ≤ 3 + 2 * p.secs.length ∧ UseS p r S ∧ Below w.heap.size w w'
theorem UseS.put {p : Pl} {r : Rt} {S : Int → Int → Prop} (h : UseS p r S) {kind x : Int} (hk : kind = 1 ∨ kind = 2) : UseS p r (fun q y => (q = kind ∧ y = x) ∨ S q y) :=
  ⟨.inr h.rt, fun y hy => by
    rcases hy with ⟨e, -⟩ | hy
    · rcases hk with rfl | rfl <;> exact absurd e (by decide)
    · exact h.sg y hy⟩
set_option maxRecDepth 100000 in
set_option maxHeartbeats 8000000 in
theorem uses_any (p : Pl) (s q gg rr : Value) (r : Rt) (c5 c6 c7 : Value) (w : World) (hp : PlM w s q gg rr p) (hr : RtM w c5 c6 c7 r) (hf : r.fit) (hn : p.secs.length ≤ 40)
    (w1 : (Lit.int .i64 r.id).wf = true) (w2 : (Lit.int .i64 r.entry).wf = true) (w3 : (Lit.int .i64 r.exit).wf = true) (w4 : ∀ x ∈ p.secs, (Lit.int .i64 x.id).wf = true ∧ (Lit.int .i64 x.pt).wf = true) :
    Calls Tryz.prog 113 #[plV p s q gg rr, .agg #[.int .i64 r.id, .int .i64 r.entry, .int .i64 r.exit, c5, c6, c7, .int .i64 r.timer]] w (UsePost w p r) := by
  obtain ⟨a1, k1, rfl, hsecs⟩ := hp.secs
  have HSE : Hid (∀ W, Below w.heap.size w W → SlA W 3 RSec a1 k1 p.secs) := fun W hb => hsecs.below keeps_sec hb
  clear hsecs
  obtain ⟨a7, k7, rfl, hfl⟩ := hr.fl
  have HCF : Hid (∀ W g n, Below w.heap.size w W → W.cell? ⟨g, 1, none⟩ = some (.int .i64 n) → Calls Tryz.prog 202 #[.slice a7 r.fl.length k7, .func (.func 203) #[] #[.pointer (some ⟨g, 0, none⟩)]] W fun e w' => (∃ bb : Bool, e = .returned (.bool bb)) ∧ Below W.heap.size W w') := fun W g n hb hc =>
    (confnFl 203 #[.pointer (some ⟨g, 0, none⟩)] (fun x => x.pt == n) a7 k7 r.fl W (hfl.below keeps_fl hb) hf.2.2 plain203 (fun W' i h hb' => flIs_any _ _ g n W' (ccell hb' hc))).mono fun e w' h => ⟨⟨_, h.1⟩, h.2⟩
  have HC5 : Hid (∀ W n, Below w.heap.size w W → Calls Tryz.prog 100 #[c5, .int .i64 n] W fun e w' => (∃ bb : Bool, e = .returned (.bool bb)) ∧ Below W.heap.size W w') := fun W n hb => (contains_v c5 r.path n W (hr.path.below hb) (by have := hf.1; omega)).mono fun e w' h => ⟨⟨_, h.1⟩, h.2⟩
  have HC6 : Hid (∀ W n, Below w.heap.size w W → Calls Tryz.prog 100 #[c6, .int .i64 n] W fun e w' => (∃ bb : Bool, e = .returned (.bool bb)) ∧ Below W.heap.size W w') := fun W n hb => (contains_v c6 r.over n W (hr.over.below hb) (by have := hf.2.1; omega)).mono fun e w' h => ⟨⟨_, h.1⟩, h.2⟩
  clear hfl hf hr
  obtain ⟨a2, k2, rfl, -⟩ := hp.pts
  obtain ⟨a3, k3, rfl, -⟩ := hp.sigs
  obtain ⟨a4, k4, rfl, -⟩ := hp.rts
  have W1F := Lib.hid w1
  have W2F := Lib.hid w2
  have W3F := Lib.hid w3
  have W4F := Lib.hid w4
  clear w1 w2 w3 w4
  unfold plV
  have hmm := @run_makeMap Tryz.prog
  go_enter Tryz.func113, Tryz.ntmps113
  go_wp2_with fail
  generalize hW0 : World.alloc (World.alloc (World.alloc w (Obj.cells _ 28)) (Obj.cells _ 102)) (Obj.map #[] 0) = W0
  have U0 : Hid (Us w W0 #[.int .i64 p.ver, .int .i64 p.par, .slice a1 p.secs.length k1, .slice a2 p.pts.length k2, .slice a3 p.sigs.length k3, .slice a4 p.rts.length k4] #[.int .i64 r.id, .int .i64 r.entry, .int .i64 r.exit, c5, c6, .slice a7 r.fl.length k7, .int .i64 r.timer] 0 (fun _ _ => False)) := by
    have e2 : (World.alloc (World.alloc w (Obj.cells #[.int .i64 p.ver, .int .i64 p.par, .slice a1 p.secs.length k1, .slice a2 p.pts.length k2, .slice a3 p.sigs.length k3, .slice a4 p.rts.length k4] 28)) (Obj.cells #[.int .i64 r.id, .int .i64 r.entry, .int .i64 r.exit, c5, c6, .slice a7 r.fl.length k7, .int .i64 r.timer] 102)).heap.size = w.heap.size + 1 + 1 := by simp
    have e1 : (World.alloc w (Obj.cells #[.int .i64 p.ver, .int .i64 p.par, .slice a1 p.secs.length k1, .slice a2 p.pts.length k2, .slice a3 p.sigs.length k3, .slice a4 p.rts.length k4] 28)).heap.size = w.heap.size + 1 := by simp
    rw [← hW0]
    refine ⟨(((Below.refl _ _).alloc (Nat.le_refl _) _).alloc (by omega) _).alloc (by omega) _, ?_, ?_, ?_⟩
    · exact (heap_alloc_old _ _ (by omega)).trans ((heap_alloc_old _ _ (by omega)).trans (heap_alloc_new _ _))
    · refine (heap_alloc_old _ _ (by omega)).trans ?_
      rw [← e1]
      exact heap_alloc_new _ _
    · rw [← e2]
      exact setIs_made _
  have hsz0 : W0.heap.size = w.heap.size + 1 + 1 + 1 := by rw [← hW0]; simp
  clear hW0
  have A0 := addU U0.out (by omega) 4 r.id rfl W1F.out
  rw [hsz0] at A0
  refine A0.mono ?_
  clear A0
  rintro e W1 ⟨rfl, hu1, -, -⟩
  have U1 := Lib.hid hu1
  have r1 : W1.cell? ⟨w.heap.size + 1, 1, none⟩ = some (.int .i64 r.entry) := (cell_of_row W1 _ 1 _ _ _ hu1.rx).trans rfl
  clear hu1
  go_wp2_with fail
  refine (addU U1.out (by omega) 3 r.entry rfl W2F.out).mono ?_
  rintro e W2 ⟨rfl, hu2, -, -⟩
  have U2 := Lib.hid hu2
  have r2 : W2.cell? ⟨w.heap.size + 1, 2, none⟩ = some (.int .i64 r.exit) := (cell_of_row W2 _ 2 _ _ _ hu2.rx).trans rfl
  have p2 : W2.cell? ⟨w.heap.size, 2, none⟩ = some (.slice a1 p.secs.length k1) := (cell_of_row W2 _ 2 _ _ _ hu2.px).trans rfl
  clear hu2 r1
  have hS2 : UseS p r (fun q y => (q = 3 ∧ y = r.entry) ∨ ((q = 4 ∧ y = r.id) ∨ False)) := ⟨.inr (.inl ⟨rfl, rfl⟩), fun x hx => by
    rcases hx with ⟨-, e⟩ | ⟨e, -⟩ | e
    · exact .inl e
    · exact absurd e (by decide)
    · exact e.elim⟩
  have HS2 := Lib.hid hS2
  clear hS2
  by_cases he : 0 < r.exit
  · have hde : decide ((0 : Int) < r.exit) = true := by simp [he]
    have HE := Lib.hid he
    clear he
    go_wp2_with fail
    refine (addU U2.out (by omega) 3 r.exit rfl W3F.out).mono ?_
    rintro e W3 ⟨rfl, hu3, -, -⟩
    have U3 : Hid (∃ m S, m ≤ 3 ∧ Us w W3 #[.int .i64 p.ver, .int .i64 p.par, .slice a1 p.secs.length k1, .slice a2 p.pts.length k2, .slice a3 p.sigs.length k3, .slice a4 p.rts.length k4] #[.int .i64 r.id, .int .i64 r.entry, .int .i64 r.exit, c5, c6, .slice a7 r.fl.length k7, .int .i64 r.timer] m S ∧ UseS p r S) := ⟨_, _, by decide, hu3, ⟨.inr HS2.out.rt, fun x hx => by
      rcases hx with ⟨-, e⟩ | hx
      · exact .inr ⟨HE.out, e⟩
      · exact HS2.out.sg x hx⟩⟩
    have p3 : W3.cell? ⟨w.heap.size, 2, none⟩ = some (.slice a1 p.secs.length k1) := (cell_of_row W3 _ 2 _ _ _ hu3.px).trans rfl
    clear hu3 r2 p2
    go_wp2_with fail
    go_loopg [31] p.secs.length (fun g i wr => ∃ (k m : Nat) (S : Int → Int → Prop), k ≤ p.secs.length ∧ g = p.secs.length - k ∧ i = .int .i64 k ∧ m ≤ 3 + 2 * k ∧ Us w wr #[.int .i64 p.ver, .int .i64 p.par, .slice a1 p.secs.length k1, .slice a2 p.pts.length k2, .slice a3 p.sigs.length k3, .slice a4 p.rts.length k4] #[.int .i64 r.id, .int .i64 r.entry, .int .i64 r.exit, c5, c6, .slice a7 r.fl.length k7, .int .i64 r.timer] m S ∧ UseS p r S)
    case atStart =>
      obtain ⟨m, S, hm, hu, hs⟩ := U3.out
      exact ⟨0, m, S, by omega, by omega, rfl, by omega, hu, hs⟩
    case round =>
      obtain ⟨k, m, S, hk, rfl, rfl, hm, hu, hs⟩ := hrel
      obtain ⟨wo, rfl⟩ : ∃ wo : World, wo = wr := ⟨_, rfl⟩
      have UR := Lib.hid hu
      have US := Lib.hid hs
      clear hu hs
      by_cases hlt : k < p.secs.length
      · have hd1 : decide ((k : Int) < (p.secs.length : Int)) = true := by simp; omega
        obtain ⟨b, off, a', c', rfl, x0, x1, x2, hends⟩ := (HSE.out _ UR.out.bel).sec hlt
        have WF := Lib.hid (W4F.out _ (List.getElem_mem hlt))
        have c0 : (0 : Int) ≤ (k : Int) := by omega
        have c1 : (k : Int) < (p.secs.length : Int) := by omega
        have l1 := World.block_lt_of_cell? _ _ x0
        clear hends
        have q5 : wo.cell? ⟨w.heap.size + 1, 5, none⟩ = some (.slice a7 r.fl.length k7) := (cell_of_row wo _ 5 _ _ _ UR.out.rx).trans rfl
        have lb := lt_of_block UR.out.rx
        go_wp2_with fail
        have HNE : Hid (wo.heap.size ≠ w.heap.size + 1 + 1) := by have := UR.out.st.lt; show _ ≠ _; omega
        generalize hWA : World.alloc wo _ = WA
        have ea : (wo.alloc (.cells #[.int .i64 p.secs[k].id, .int .i64 p.secs[k].pt, .slice a' p.secs[k].ends.length c'] 80)).heap[wo.heap.size]? = _ := heap_alloc_new _ _
        rw [hWA] at ea
        have UA : Hid (Us w WA #[.int .i64 p.ver, .int .i64 p.par, .slice (some ⟨b, off, none⟩) p.secs.length k1, .slice a2 p.pts.length k2, .slice a3 p.sigs.length k3, .slice a4 p.rts.length k4] #[.int .i64 r.id, .int .i64 r.entry, .int .i64 r.exit, c5, c6, .slice a7 r.fl.length k7, .int .i64 r.timer] m S) := by
          rw [← hWA]
          exact UR.out.below ((Below.refl _ _).alloc (Nat.le_refl _) _)
        have ya0 : WA.cell? ⟨wo.heap.size, 0, none⟩ = some (.int .i64 p.secs[k].id) := (cell_of_row WA _ 0 _ _ _ ea).trans rfl
        have ya1 : WA.cell? ⟨wo.heap.size, 1, none⟩ = some (.int .i64 p.secs[k].pt) := (cell_of_row WA _ 1 _ _ _ ea).trans rfl
        clear hWA ea x0 x1 x2 l1 q5 lb
        refine (HCF.out WA wo.heap.size _ UA.out.bel ya1).mono ?_
        rintro e WB ⟨⟨b1, rfl⟩, hbb⟩
        have UB : Hid (Us w WB #[.int .i64 p.ver, .int .i64 p.par, .slice (some ⟨b, off, none⟩) p.secs.length k1, .slice a2 p.pts.length k2, .slice a3 p.sigs.length k3, .slice a4 p.rts.length k4] #[.int .i64 r.id, .int .i64 r.entry, .int .i64 r.exit, c5, c6, .slice a7 r.fl.length k7, .int .i64 r.timer] m S) := UA.out.below hbb
        have yb0 : WB.cell? ⟨wo.heap.size, 0, none⟩ = some (.int .i64 p.secs[k].id) := ccell hbb ya0
        have yb1 := Lib.hid (show WB.cell? ⟨wo.heap.size, 1, none⟩ = some (.int .i64 p.secs[k].pt) from ccell hbb ya1)
        have q3 : WB.cell? ⟨w.heap.size + 1, 3, none⟩ = some c5 := (cell_of_row WB _ 3 _ _ _ UB.out.rx).trans rfl
        clear hbb ya0 ya1
        go_wp2_with fail
        refine (HC5.out WB _ UB.out.bel).mono ?_
        rintro e WC ⟨⟨b2, rfl⟩, hbc⟩
        have UC : Hid (Us w WC #[.int .i64 p.ver, .int .i64 p.par, .slice (some ⟨b, off, none⟩) p.secs.length k1, .slice a2 p.pts.length k2, .slice a3 p.sigs.length k3, .slice a4 p.rts.length k4] #[.int .i64 r.id, .int .i64 r.entry, .int .i64 r.exit, c5, c6, .slice a7 r.fl.length k7, .int .i64 r.timer] m S) := UB.out.below hbc
        have yc0 : WC.cell? ⟨wo.heap.size, 0, none⟩ = some (.int .i64 p.secs[k].id) := ccell hbc yb0
        have yc1 := Lib.hid (show WC.cell? ⟨wo.heap.size, 1, none⟩ = some (.int .i64 p.secs[k].pt) from ccell hbc yb1.out)
        have q4 : WC.cell? ⟨w.heap.size + 1, 4, none⟩ = some c6 := (cell_of_row WC _ 4 _ _ _ UC.out.rx).trans rfl
        clear hbc yb0 yb1 q3
        cases b2 with
        | true =>
          go_wp2_with fail
          refine (addU UC.out (by omega) 1 p.secs[k].id rfl WF.out.1).mono ?_
          rintro e WE ⟨rfl, hue, hse, hke⟩
          have UE : Hid (Us w WE #[.int .i64 p.ver, .int .i64 p.par, .slice (some ⟨b, off, none⟩) p.secs.length k1, .slice a2 p.pts.length k2, .slice a3 p.sigs.length k3, .slice a4 p.rts.length k4] #[.int .i64 r.id, .int .i64 r.entry, .int .i64 r.exit, c5, c6, .slice a7 r.fl.length k7, .int .i64 r.timer] (m + 1) (fun q y => (q = 1 ∧ y = p.secs[k].id) ∨ S q y)) := hue
          have ye1 : WE.cell? ⟨wo.heap.size, 1, none⟩ = some (.int .i64 p.secs[k].pt) := hke _ _ HNE.out yc1.out
          clear hue hke yc0 yc1
          by_cases hpt : 0 < p.secs[k].pt
          · have hdp : decide ((0 : Int) < p.secs[k].pt) = true := by simp [hpt]
            go_wp2_with fail
            refine (addU UE.out (by omega) 2 p.secs[k].pt rfl WF.out.2).mono ?_
            rintro e WF2 ⟨rfl, huf, -, -⟩
            have UF : Hid (Us w WF2 #[.int .i64 p.ver, .int .i64 p.par, .slice (some ⟨b, off, none⟩) p.secs.length k1, .slice a2 p.pts.length k2, .slice a3 p.sigs.length k3, .slice a4 p.rts.length k4] #[.int .i64 r.id, .int .i64 r.entry, .int .i64 r.exit, c5, c6, .slice a7 r.fl.length k7, .int .i64 r.timer] (m + 1 + 1) (fun q y => (q = 2 ∧ y = p.secs[k].pt) ∨ ((q = 1 ∧ y = p.secs[k].id) ∨ S q y))) := huf
            clear huf
            go_wp2_with fail
            go_roundg (p.secs.length - (k + 1))
            case measure => go_light; omega
            case rel => go_light; exact ⟨k + 1, m + 1 + 1, _, by omega, by omega, by go_num, by omega, UF.out, (US.out.put (.inl rfl)).put (.inr rfl)⟩
          · have hdp : decide ((0 : Int) < p.secs[k].pt) = false := by simp; omega
            go_wp2_with fail
            go_roundg (p.secs.length - (k + 1))
            case measure => go_light; omega
            case rel => go_light; exact ⟨k + 1, m + 1, _, by omega, by omega, by go_num, by omega, UE.out, US.out.put (.inl rfl)⟩
        | false =>
          go_wp2_with fail
          refine (HC6.out WC _ UC.out.bel).mono ?_
          rintro e WD ⟨⟨b3, rfl⟩, hbd⟩
          have UD : Hid (Us w WD #[.int .i64 p.ver, .int .i64 p.par, .slice (some ⟨b, off, none⟩) p.secs.length k1, .slice a2 p.pts.length k2, .slice a3 p.sigs.length k3, .slice a4 p.rts.length k4] #[.int .i64 r.id, .int .i64 r.entry, .int .i64 r.exit, c5, c6, .slice a7 r.fl.length k7, .int .i64 r.timer] m S) := UC.out.below hbd
          have yd0 : WD.cell? ⟨wo.heap.size, 0, none⟩ = some (.int .i64 p.secs[k].id) := ccell hbd yc0
          have yd1 := Lib.hid (show WD.cell? ⟨wo.heap.size, 1, none⟩ = some (.int .i64 p.secs[k].pt) from ccell hbd yc1.out)
          clear hbd yc0 yc1 q4
          cases b3 with
          | true =>
            go_wp2_with fail
            refine (addU UD.out (by omega) 1 p.secs[k].id rfl WF.out.1).mono ?_
            rintro e WE ⟨rfl, hue, hse, hke⟩
            have UE : Hid (Us w WE #[.int .i64 p.ver, .int .i64 p.par, .slice (some ⟨b, off, none⟩) p.secs.length k1, .slice a2 p.pts.length k2, .slice a3 p.sigs.length k3, .slice a4 p.rts.length k4] #[.int .i64 r.id, .int .i64 r.entry, .int .i64 r.exit, c5, c6, .slice a7 r.fl.length k7, .int .i64 r.timer] (m + 1) (fun q y => (q = 1 ∧ y = p.secs[k].id) ∨ S q y)) := hue
            have ye1 : WE.cell? ⟨wo.heap.size, 1, none⟩ = some (.int .i64 p.secs[k].pt) := hke _ _ HNE.out yd1.out
            clear hue hke yd0 yd1
            by_cases hpt : 0 < p.secs[k].pt
            · have hdp : decide ((0 : Int) < p.secs[k].pt) = true := by simp [hpt]
              go_wp2_with fail
              refine (addU UE.out (by omega) 2 p.secs[k].pt rfl WF.out.2).mono ?_
              rintro e WF2 ⟨rfl, huf, -, -⟩
              have UF : Hid (Us w WF2 #[.int .i64 p.ver, .int .i64 p.par, .slice (some ⟨b, off, none⟩) p.secs.length k1, .slice a2 p.pts.length k2, .slice a3 p.sigs.length k3, .slice a4 p.rts.length k4] #[.int .i64 r.id, .int .i64 r.entry, .int .i64 r.exit, c5, c6, .slice a7 r.fl.length k7, .int .i64 r.timer] (m + 1 + 1) (fun q y => (q = 2 ∧ y = p.secs[k].pt) ∨ ((q = 1 ∧ y = p.secs[k].id) ∨ S q y))) := huf
              clear huf
              go_wp2_with fail
              go_roundg (p.secs.length - (k + 1))
              case measure => go_light; omega
              case rel => go_light; exact ⟨k + 1, m + 1 + 1, _, by omega, by omega, by go_num, by omega, UF.out, (US.out.put (.inl rfl)).put (.inr rfl)⟩
            · have hdp : decide ((0 : Int) < p.secs[k].pt) = false := by simp; omega
              go_wp2_with fail
              go_roundg (p.secs.length - (k + 1))
              case measure => go_light; omega
              case rel => go_light; exact ⟨k + 1, m + 1, _, by omega, by omega, by go_num, by omega, UE.out, US.out.put (.inl rfl)⟩
          | false =>
            cases b1 with
            | true =>
              go_wp2_with fail
              refine (addU UD.out (by omega) 1 p.secs[k].id rfl WF.out.1).mono ?_
              rintro e WE ⟨rfl, hue, hse, hke⟩
              have UE : Hid (Us w WE #[.int .i64 p.ver, .int .i64 p.par, .slice (some ⟨b, off, none⟩) p.secs.length k1, .slice a2 p.pts.length k2, .slice a3 p.sigs.length k3, .slice a4 p.rts.length k4] #[.int .i64 r.id, .int .i64 r.entry, .int .i64 r.exit, c5, c6, .slice a7 r.fl.length k7, .int .i64 r.timer] (m + 1) (fun q y => (q = 1 ∧ y = p.secs[k].id) ∨ S q y)) := hue
              have ye1 : WE.cell? ⟨wo.heap.size, 1, none⟩ = some (.int .i64 p.secs[k].pt) := hke _ _ HNE.out yd1.out
              clear hue hke yd0 yd1
              by_cases hpt : 0 < p.secs[k].pt
              · have hdp : decide ((0 : Int) < p.secs[k].pt) = true := by simp [hpt]
                go_wp2_with fail
                refine (addU UE.out (by omega) 2 p.secs[k].pt rfl WF.out.2).mono ?_
                rintro e WF2 ⟨rfl, huf, -, -⟩
                have UF : Hid (Us w WF2 #[.int .i64 p.ver, .int .i64 p.par, .slice (some ⟨b, off, none⟩) p.secs.length k1, .slice a2 p.pts.length k2, .slice a3 p.sigs.length k3, .slice a4 p.rts.length k4] #[.int .i64 r.id, .int .i64 r.entry, .int .i64 r.exit, c5, c6, .slice a7 r.fl.length k7, .int .i64 r.timer] (m + 1 + 1) (fun q y => (q = 2 ∧ y = p.secs[k].pt) ∨ ((q = 1 ∧ y = p.secs[k].id) ∨ S q y))) := huf
                clear huf
                go_wp2_with fail
                go_roundg (p.secs.length - (k + 1))
                case measure => go_light; omega
                case rel => go_light; exact ⟨k + 1, m + 1 + 1, _, by omega, by omega, by go_num, by omega, UF.out, (US.out.put (.inl rfl)).put (.inr rfl)⟩
              · have hdp : decide ((0 : Int) < p.secs[k].pt) = false := by simp; omega
                go_wp2_with fail
                go_roundg (p.secs.length - (k + 1))
                case measure => go_light; omega
                case rel => go_light; exact ⟨k + 1, m + 1, _, by omega, by omega, by go_num, by omega, UE.out, US.out.put (.inl rfl)⟩
            | false =>
              go_wp2_with fail
              go_roundg (p.secs.length - (k + 1))
              case measure => go_light; omega
              case rel => go_light; exact ⟨k + 1, m, S, by omega, by omega, by go_num, by omega, UD.out, US.out⟩
      · obtain rfl : k = p.secs.length := by omega
        have hd1 : decide ((p.secs.length : Int) < (p.secs.length : Int)) = false := by simp
        go_wp2_with fail
        go_ret
        exact ⟨_, m, S, rfl, UR.out.st, by omega, US.out, UR.out.bel⟩
  · have hde : decide ((0 : Int) < r.exit) = false := by simp; omega
    have U3 : Hid (∃ m S, m ≤ 3 ∧ Us w W2 #[.int .i64 p.ver, .int .i64 p.par, .slice a1 p.secs.length k1, .slice a2 p.pts.length k2, .slice a3 p.sigs.length k3, .slice a4 p.rts.length k4] #[.int .i64 r.id, .int .i64 r.entry, .int .i64 r.exit, c5, c6, .slice a7 r.fl.length k7, .int .i64 r.timer] m S ∧ UseS p r S) := ⟨_, _, by decide, U2.out, HS2.out⟩
    go_wp2_with fail
    go_loopg [31] p.secs.length (fun g i wr => ∃ (k m : Nat) (S : Int → Int → Prop), k ≤ p.secs.length ∧ g = p.secs.length - k ∧ i = .int .i64 k ∧ m ≤ 3 + 2 * k ∧ Us w wr #[.int .i64 p.ver, .int .i64 p.par, .slice a1 p.secs.length k1, .slice a2 p.pts.length k2, .slice a3 p.sigs.length k3, .slice a4 p.rts.length k4] #[.int .i64 r.id, .int .i64 r.entry, .int .i64 r.exit, c5, c6, .slice a7 r.fl.length k7, .int .i64 r.timer] m S ∧ UseS p r S)
    case atStart =>
      obtain ⟨m, S, hm, hu, hs⟩ := U3.out
      exact ⟨0, m, S, by omega, by omega, rfl, by omega, hu, hs⟩
    case round =>
      obtain ⟨k, m, S, hk, rfl, rfl, hm, hu, hs⟩ := hrel
      obtain ⟨wo, rfl⟩ : ∃ wo : World, wo = wr := ⟨_, rfl⟩
      have UR := Lib.hid hu
      have US := Lib.hid hs
      clear hu hs
      by_cases hlt : k < p.secs.length
      · have hd1 : decide ((k : Int) < (p.secs.length : Int)) = true := by simp; omega
        obtain ⟨b, off, a', c', rfl, x0, x1, x2, hends⟩ := (HSE.out _ UR.out.bel).sec hlt
        have WF := Lib.hid (W4F.out _ (List.getElem_mem hlt))
        have c0 : (0 : Int) ≤ (k : Int) := by omega
        have c1 : (k : Int) < (p.secs.length : Int) := by omega
        have l1 := World.block_lt_of_cell? _ _ x0
        clear hends
        have q5 : wo.cell? ⟨w.heap.size + 1, 5, none⟩ = some (.slice a7 r.fl.length k7) := (cell_of_row wo _ 5 _ _ _ UR.out.rx).trans rfl
        have lb := lt_of_block UR.out.rx
        go_wp2_with fail
        have HNE : Hid (wo.heap.size ≠ w.heap.size + 1 + 1) := by have := UR.out.st.lt; show _ ≠ _; omega
        generalize hWA : World.alloc wo _ = WA
        have ea : (wo.alloc (.cells #[.int .i64 p.secs[k].id, .int .i64 p.secs[k].pt, .slice a' p.secs[k].ends.length c'] 80)).heap[wo.heap.size]? = _ := heap_alloc_new _ _
        rw [hWA] at ea
        have UA : Hid (Us w WA #[.int .i64 p.ver, .int .i64 p.par, .slice (some ⟨b, off, none⟩) p.secs.length k1, .slice a2 p.pts.length k2, .slice a3 p.sigs.length k3, .slice a4 p.rts.length k4] #[.int .i64 r.id, .int .i64 r.entry, .int .i64 r.exit, c5, c6, .slice a7 r.fl.length k7, .int .i64 r.timer] m S) := by
          rw [← hWA]
          exact UR.out.below ((Below.refl _ _).alloc (Nat.le_refl _) _)
        have ya0 : WA.cell? ⟨wo.heap.size, 0, none⟩ = some (.int .i64 p.secs[k].id) := (cell_of_row WA _ 0 _ _ _ ea).trans rfl
        have ya1 : WA.cell? ⟨wo.heap.size, 1, none⟩ = some (.int .i64 p.secs[k].pt) := (cell_of_row WA _ 1 _ _ _ ea).trans rfl
        clear hWA ea x0 x1 x2 l1 q5 lb
        refine (HCF.out WA wo.heap.size _ UA.out.bel ya1).mono ?_
        rintro e WB ⟨⟨b1, rfl⟩, hbb⟩
        have UB : Hid (Us w WB #[.int .i64 p.ver, .int .i64 p.par, .slice (some ⟨b, off, none⟩) p.secs.length k1, .slice a2 p.pts.length k2, .slice a3 p.sigs.length k3, .slice a4 p.rts.length k4] #[.int .i64 r.id, .int .i64 r.entry, .int .i64 r.exit, c5, c6, .slice a7 r.fl.length k7, .int .i64 r.timer] m S) := UA.out.below hbb
        have yb0 : WB.cell? ⟨wo.heap.size, 0, none⟩ = some (.int .i64 p.secs[k].id) := ccell hbb ya0
        have yb1 := Lib.hid (show WB.cell? ⟨wo.heap.size, 1, none⟩ = some (.int .i64 p.secs[k].pt) from ccell hbb ya1)
        have q3 : WB.cell? ⟨w.heap.size + 1, 3, none⟩ = some c5 := (cell_of_row WB _ 3 _ _ _ UB.out.rx).trans rfl
        clear hbb ya0 ya1
        go_wp2_with fail
        refine (HC5.out WB _ UB.out.bel).mono ?_
        rintro e WC ⟨⟨b2, rfl⟩, hbc⟩
        have UC : Hid (Us w WC #[.int .i64 p.ver, .int .i64 p.par, .slice (some ⟨b, off, none⟩) p.secs.length k1, .slice a2 p.pts.length k2, .slice a3 p.sigs.length k3, .slice a4 p.rts.length k4] #[.int .i64 r.id, .int .i64 r.entry, .int .i64 r.exit, c5, c6, .slice a7 r.fl.length k7, .int .i64 r.timer] m S) := UB.out.below hbc
        have yc0 : WC.cell? ⟨wo.heap.size, 0, none⟩ = some (.int .i64 p.secs[k].id) := ccell hbc yb0
        have yc1 := Lib.hid (show WC.cell? ⟨wo.heap.size, 1, none⟩ = some (.int .i64 p.secs[k].pt) from ccell hbc yb1.out)
        have q4 : WC.cell? ⟨w.heap.size + 1, 4, none⟩ = some c6 := (cell_of_row WC _ 4 _ _ _ UC.out.rx).trans rfl
        clear hbc yb0 yb1 q3
        cases b2 with
        | true =>
          go_wp2_with fail
          refine (addU UC.out (by omega) 1 p.secs[k].id rfl WF.out.1).mono ?_
          rintro e WE ⟨rfl, hue, hse, hke⟩
          have UE : Hid (Us w WE #[.int .i64 p.ver, .int .i64 p.par, .slice (some ⟨b, off, none⟩) p.secs.length k1, .slice a2 p.pts.length k2, .slice a3 p.sigs.length k3, .slice a4 p.rts.length k4] #[.int .i64 r.id, .int .i64 r.entry, .int .i64 r.exit, c5, c6, .slice a7 r.fl.length k7, .int .i64 r.timer] (m + 1) (fun q y => (q = 1 ∧ y = p.secs[k].id) ∨ S q y)) := hue
          have ye1 : WE.cell? ⟨wo.heap.size, 1, none⟩ = some (.int .i64 p.secs[k].pt) := hke _ _ HNE.out yc1.out
          clear hue hke yc0 yc1
          by_cases hpt : 0 < p.secs[k].pt
          · have hdp : decide ((0 : Int) < p.secs[k].pt) = true := by simp [hpt]
            go_wp2_with fail
            refine (addU UE.out (by omega) 2 p.secs[k].pt rfl WF.out.2).mono ?_
            rintro e WF2 ⟨rfl, huf, -, -⟩
            have UF : Hid (Us w WF2 #[.int .i64 p.ver, .int .i64 p.par, .slice (some ⟨b, off, none⟩) p.secs.length k1, .slice a2 p.pts.length k2, .slice a3 p.sigs.length k3, .slice a4 p.rts.length k4] #[.int .i64 r.id, .int .i64 r.entry, .int .i64 r.exit, c5, c6, .slice a7 r.fl.length k7, .int .i64 r.timer] (m + 1 + 1) (fun q y => (q = 2 ∧ y = p.secs[k].pt) ∨ ((q = 1 ∧ y = p.secs[k].id) ∨ S q y))) := huf
            clear huf
            go_wp2_with fail
            go_roundg (p.secs.length - (k + 1))
            case measure => go_light; omega
            case rel => go_light; exact ⟨k + 1, m + 1 + 1, _, by omega, by omega, by go_num, by omega, UF.out, (US.out.put (.inl rfl)).put (.inr rfl)⟩
          · have hdp : decide ((0 : Int) < p.secs[k].pt) = false := by simp; omega
            go_wp2_with fail
            go_roundg (p.secs.length - (k + 1))
            case measure => go_light; omega
            case rel => go_light; exact ⟨k + 1, m + 1, _, by omega, by omega, by go_num, by omega, UE.out, US.out.put (.inl rfl)⟩
        | false =>
          go_wp2_with fail
          refine (HC6.out WC _ UC.out.bel).mono ?_
          rintro e WD ⟨⟨b3, rfl⟩, hbd⟩
          have UD : Hid (Us w WD #[.int .i64 p.ver, .int .i64 p.par, .slice (some ⟨b, off, none⟩) p.secs.length k1, .slice a2 p.pts.length k2, .slice a3 p.sigs.length k3, .slice a4 p.rts.length k4] #[.int .i64 r.id, .int .i64 r.entry, .int .i64 r.exit, c5, c6, .slice a7 r.fl.length k7, .int .i64 r.timer] m S) := UC.out.below hbd
          have yd0 : WD.cell? ⟨wo.heap.size, 0, none⟩ = some (.int .i64 p.secs[k].id) := ccell hbd yc0
          have yd1 := Lib.hid (show WD.cell? ⟨wo.heap.size, 1, none⟩ = some (.int .i64 p.secs[k].pt) from ccell hbd yc1.out)
          clear hbd yc0 yc1 q4
          cases b3 with
          | true =>
            go_wp2_with fail
            refine (addU UD.out (by omega) 1 p.secs[k].id rfl WF.out.1).mono ?_
            rintro e WE ⟨rfl, hue, hse, hke⟩
            have UE : Hid (Us w WE #[.int .i64 p.ver, .int .i64 p.par, .slice (some ⟨b, off, none⟩) p.secs.length k1, .slice a2 p.pts.length k2, .slice a3 p.sigs.length k3, .slice a4 p.rts.length k4] #[.int .i64 r.id, .int .i64 r.entry, .int .i64 r.exit, c5, c6, .slice a7 r.fl.length k7, .int .i64 r.timer] (m + 1) (fun q y => (q = 1 ∧ y = p.secs[k].id) ∨ S q y)) := hue
            have ye1 : WE.cell? ⟨wo.heap.size, 1, none⟩ = some (.int .i64 p.secs[k].pt) := hke _ _ HNE.out yd1.out
            clear hue hke yd0 yd1
            by_cases hpt : 0 < p.secs[k].pt
            · have hdp : decide ((0 : Int) < p.secs[k].pt) = true := by simp [hpt]
              go_wp2_with fail
              refine (addU UE.out (by omega) 2 p.secs[k].pt rfl WF.out.2).mono ?_
              rintro e WF2 ⟨rfl, huf, -, -⟩
              have UF : Hid (Us w WF2 #[.int .i64 p.ver, .int .i64 p.par, .slice (some ⟨b, off, none⟩) p.secs.length k1, .slice a2 p.pts.length k2, .slice a3 p.sigs.length k3, .slice a4 p.rts.length k4] #[.int .i64 r.id, .int .i64 r.entry, .int .i64 r.exit, c5, c6, .slice a7 r.fl.length k7, .int .i64 r.timer] (m + 1 + 1) (fun q y => (q = 2 ∧ y = p.secs[k].pt) ∨ ((q = 1 ∧ y = p.secs[k].id) ∨ S q y))) := huf
              clear huf
              go_wp2_with fail
              go_roundg (p.secs.length - (k + 1))
              case measure => go_light; omega
              case rel => go_light; exact ⟨k + 1, m + 1 + 1, _, by omega, by omega, by go_num, by omega, UF.out, (US.out.put (.inl rfl)).put (.inr rfl)⟩
            · have hdp : decide ((0 : Int) < p.secs[k].pt) = false := by simp; omega
              go_wp2_with fail
              go_roundg (p.secs.length - (k + 1))
              case measure => go_light; omega
              case rel => go_light; exact ⟨k + 1, m + 1, _, by omega, by omega, by go_num, by omega, UE.out, US.out.put (.inl rfl)⟩
          | false =>
            cases b1 with
            | true =>
              go_wp2_with fail
              refine (addU UD.out (by omega) 1 p.secs[k].id rfl WF.out.1).mono ?_
              rintro e WE ⟨rfl, hue, hse, hke⟩
              have UE : Hid (Us w WE #[.int .i64 p.ver, .int .i64 p.par, .slice (some ⟨b, off, none⟩) p.secs.length k1, .slice a2 p.pts.length k2, .slice a3 p.sigs.length k3, .slice a4 p.rts.length k4] #[.int .i64 r.id, .int .i64 r.entry, .int .i64 r.exit, c5, c6, .slice a7 r.fl.length k7, .int .i64 r.timer] (m + 1) (fun q y => (q = 1 ∧ y = p.secs[k].id) ∨ S q y)) := hue
              have ye1 : WE.cell? ⟨wo.heap.size, 1, none⟩ = some (.int .i64 p.secs[k].pt) := hke _ _ HNE.out yd1.out
              clear hue hke yd0 yd1
              by_cases hpt : 0 < p.secs[k].pt
              · have hdp : decide ((0 : Int) < p.secs[k].pt) = true := by simp [hpt]
                go_wp2_with fail
                refine (addU UE.out (by omega) 2 p.secs[k].pt rfl WF.out.2).mono ?_
                rintro e WF2 ⟨rfl, huf, -, -⟩
                have UF : Hid (Us w WF2 #[.int .i64 p.ver, .int .i64 p.par, .slice (some ⟨b, off, none⟩) p.secs.length k1, .slice a2 p.pts.length k2, .slice a3 p.sigs.length k3, .slice a4 p.rts.length k4] #[.int .i64 r.id, .int .i64 r.entry, .int .i64 r.exit, c5, c6, .slice a7 r.fl.length k7, .int .i64 r.timer] (m + 1 + 1) (fun q y => (q = 2 ∧ y = p.secs[k].pt) ∨ ((q = 1 ∧ y = p.secs[k].id) ∨ S q y))) := huf
                clear huf
                go_wp2_with fail
                go_roundg (p.secs.length - (k + 1))
                case measure => go_light; omega
                case rel => go_light; exact ⟨k + 1, m + 1 + 1, _, by omega, by omega, by go_num, by omega, UF.out, (US.out.put (.inl rfl)).put (.inr rfl)⟩
              · have hdp : decide ((0 : Int) < p.secs[k].pt) = false := by simp; omega
                go_wp2_with fail
                go_roundg (p.secs.length - (k + 1))
                case measure => go_light; omega
                case rel => go_light; exact ⟨k + 1, m + 1, _, by omega, by omega, by go_num, by omega, UE.out, US.out.put (.inl rfl)⟩
            | false =>
              go_wp2_with fail
              go_roundg (p.secs.length - (k + 1))
              case measure => go_light; omega
              case rel => go_light; exact ⟨k + 1, m, S, by omega, by omega, by go_num, by omega, UD.out, US.out⟩
      · obtain rfl : k = p.secs.length := by omega
        have hd1 : decide ((p.secs.length : Int) < (p.secs.length : Int)) = false := by simp
        go_wp2_with fail
        go_ret
        exact ⟨_, m, S, rfl, UR.out.st, by omega, US.out, UR.out.bel⟩
end Go.Proofs.YtbiehpjhhopjaaaGreat
set_option linter.unusedVariables false
set_option linter.unusedSimpArgs false
namespace Go.Proofs.YtbiehpjhhopjaaaGreat
open Go.RowKit Go.Sort
theorem plain371 : PlainF 371 := fun args w => by simp [go_sem]
set_option maxHeartbeats 1000000 in
theorem isRt (x : Rt) (p1 o1 f1 : Option Addr) (p2 p3 o2 o3 f2 f3 : Nat) (n : Int) (g : Nat) (w : World) (hn : w.cell? ⟨g, 0, none⟩ = some (.int .i64 n)) :
    Calls Tryz.prog 371 #[.agg #[.int .i64 x.id, .int .i64 x.entry, .int .i64 x.exit, .slice p1 p2 p3, .slice o1 o2 o3, .slice f1 f2 f3, .int .i64 x.timer], .pointer (some ⟨g, 0, none⟩)] w (BoolPost w (decide (x.id = n))) := by
  have HE : Hid (∀ b, (b = true ↔ x.id = n) → b = decide (x.id = n)) := fun b hb => by rw [Bool.eq_iff_iff, hb]; simp
  generalize decide (x.id = n) = B at *
  have l0 := World.block_lt_of_cell? _ _ hn
  go_enter Tryz.func371, Tryz.ntmps371
  go_wp2_with fail
  generalize hW : w.alloc (.cells #[.int .i64 x.id, .int .i64 x.entry, .int .i64 x.exit, .slice p1 p2 p3, .slice o1 o2 o3, .slice f1 f2 f3, .int .i64 x.timer] 102) = W
  have hbW : Below w.heap.size w W := by rw [← hW]; exact (Below.refl _ _).alloc (Nat.le_refl _) _
  have KW := Lib.hid hbW
  have cN : Hid (∀ d os, Calls Tryz.prog 372 #[.agg #[.int .i64 x.id, .int .i64 x.entry, .int .i64 x.exit, .slice p1 p2 p3, .slice o1 o2 o3, .slice f1 f2 f3, .int .i64 x.timer]] (grow (redrawn W d) os) fun e w'' => e = .returned (.int .i64 x.id) ∧ ∃ p : Regrown, w'' = grow (redrawn W p.d) p.os) := fun d os => Calls.regrown_of (rtId_any x.id x.entry x.exit x.timer _ _ _ _ _ _ _ _ _ _)
  have y0 := cell_regrown (show W.cell? ⟨g, 0, none⟩ = some (.int .i64 n) from ccell hbW hn)
  have z0 := cell_regrown (show W.cell? ⟨w.heap.size, 0, none⟩ = some (.int .i64 x.id) by rw [← hW]; simp)
  have z1 := cell_regrown (show W.cell? ⟨w.heap.size, 1, none⟩ = some (.int .i64 x.entry) by rw [← hW]; simp)
  have z2 := cell_regrown (show W.cell? ⟨w.heap.size, 2, none⟩ = some (.int .i64 x.exit) by rw [← hW]; simp)
  have z3 := cell_regrown (show W.cell? ⟨w.heap.size, 3, none⟩ = some (.slice p1 p2 p3) by rw [← hW]; simp)
  have z4 := cell_regrown (show W.cell? ⟨w.heap.size, 4, none⟩ = some (.slice o1 o2 o3) by rw [← hW]; simp)
  have z5 := cell_regrown (show W.cell? ⟨w.heap.size, 5, none⟩ = some (.slice f1 f2 f3) by rw [← hW]; simp)
  have z6 := cell_regrown (show W.cell? ⟨w.heap.size, 6, none⟩ = some (.int .i64 x.timer) by rw [← hW]; simp)
  clear hW hbW hn
  refine wp_region_quiet_below (by kernel_rfl) (by kernel_rfl) ?_
  repeat (go_big_quiet_step (first | (with_reducible exact cN.out _ _)))
  refine wpQuiet_nil ?_
  rintro _ ⟨⟨dq, osq⟩, rfl⟩
  go_wp2_with fail
  go_ret
  exact ⟨rbool (HE.out _ (by simp)), KW.out.trans ((below_regrown W dq osq).mono KW.out.size)⟩
/-- a route found, or none -/
def FindRt (w0 w : World) (l : List Rt) (n : Int) (e : Ending) (w' : World) : Prop :=
  Below w.heap.size w w' ∧ ((∃ (k : Nat) (h : k < l.length) (p1 o1 f1 : Option Addr) (p2 p3 o2 o3 f2 f3 : Nat), l[k].id = n ∧ e = .returned (.tuple #[.agg #[.int .i64 l[k].id, .int .i64 l[k].entry, .int .i64 l[k].exit, .slice p1 p2 p3, .slice o1 o2 o3, .slice f1 f2 f3, .int .i64 l[k].timer], .bool true]) ∧ RtM w0 (.slice p1 p2 p3) (.slice o1 o2 o3) (.slice f1 f2 f3) l[k]) ∨
    e = .returned (.tuple #[.agg #[.int .i64 0, .int .i64 0, .int .i64 0, .slice none 0 0, .slice none 0 0, .slice none 0 0, .int .i64 0], .bool false]))
set_option maxRecDepth 100000 in
set_option maxHeartbeats 1000000 in
theorem findRt (a : Option Addr) (cap : Nat) (l : List Rt) (n : Int) (w0 w : World) (hb0 : Below w0.heap.size w0 w) (hl : SlA w0 7 RRt a cap l) (hm : l.length ≤ 1000) :
    Calls Tryz.prog 281 #[.slice a l.length cap, .int .i64 n] w (FindRt w0 w l n) := by
  have HL : Hid (∀ w', Below w.heap.size w w' → SlA w' 7 RRt a cap l) := fun w' hb => hl.below keeps_rt (hb0.trans (hb.mono hb0.size))
  have HL0 := Lib.hid hl
  have HB0 : Hid (∀ w', Below w.heap.size w w' → Below w0.heap.size w0 w') := fun w' hb => hb0.trans (hb.mono hb0.size)
  clear hl hb0
  rcases fix_cases (fun x : Rt => decide (x.id = n)) l with ⟨h1, h2⟩ | ⟨k, hk, h1, h2, h3⟩
  · have HF := Lib.hid h1
    go_enter Tryz.func281, Tryz.ntmps281
    go_wp2_with fail
    generalize hW : (w.alloc _).alloc _ = W
    have hbW : Below w.heap.size w W := by rw [← hW]; exact ((Below.refl _ _).alloc (Nat.le_refl _) _).alloc (by simp) _
    have hn : W.cell? ⟨w.heap.size, 0, none⟩ = some (.int .i64 n) := by rw [← hW]; simp
    have hz : W.heap.size = w.heap.size + 2 := by rw [← hW]; simp
    have KW := Lib.hid hbW
    have KZ := Lib.hid hz
    have HS : Hid (SaysRt 371 #[.pointer (some ⟨w.heap.size, 0, none⟩)] (fun x : Rt => decide (x.id = n)) l W) := fun W' i h hb p1 p2 p3 o1 o2 o3 f1 f2 f3 _ => isRt l[i] p1 o1 f1 p2 p3 o2 o3 f2 f3 n w.heap.size W' (ccell hb hn)
    have Y0 := Lib.hid (show W.cell? ⟨w.heap.size + 1, 0, none⟩ = some (.int .i64 0) by rw [← hW]; simp)
    have Y1 := Lib.hid (show W.cell? ⟨w.heap.size + 1, 1, none⟩ = some (.int .i64 0) by rw [← hW]; simp)
    have Y2 := Lib.hid (show W.cell? ⟨w.heap.size + 1, 2, none⟩ = some (.int .i64 0) by rw [← hW]; simp)
    have Y3 := Lib.hid (show W.cell? ⟨w.heap.size + 1, 3, none⟩ = some (.slice none 0 0) by rw [← hW]; simp)
    have Y4 := Lib.hid (show W.cell? ⟨w.heap.size + 1, 4, none⟩ = some (.slice none 0 0) by rw [← hW]; simp)
    have Y5 := Lib.hid (show W.cell? ⟨w.heap.size + 1, 5, none⟩ = some (.slice none 0 0) by rw [← hW]; simp)
    have Y6 := Lib.hid (show W.cell? ⟨w.heap.size + 1, 6, none⟩ = some (.int .i64 0) by rw [← hW]; simp)
    have hcz : W.heap[w.heap.size + 1]? = some (.cells #[.int .i64 0, .int .i64 0, .int .i64 0, .slice none 0 0, .slice none 0 0, .slice none 0 0, .int .i64 0] 102 (0, 0)) := by
      rw [← hW]
      have := heap_alloc_new (w.alloc (.cells #[.int .i64 n] 3)) (.cells #[.int .i64 0, .int .i64 0, .int .i64 0, .slice none 0 0, .slice none 0 0, .slice none 0 0, .int .i64 0] 102)
      rw [show (w.alloc (.cells #[.int .i64 n] 3)).heap.size = w.heap.size + 1 by simp] at this
      exact this
    have FF := Lib.hid (show ∀ o, W.frozen? ⟨w.heap.size + 1, o, none⟩ = false from fun o => by simp [World.frozen?, hcz])
    clear hcz
    clear hW hbW
    refine (ixfnRt 371 #[.pointer (some ⟨w.heap.size, 0, none⟩)] (fun x : Rt => decide (x.id = n)) a cap l W (HL.out _ KW.out) hm plain371 HS.out).mono ?_
    rintro e w1 ⟨rfl, hb1⟩
    rw [HF.out]
    have y0 : w1.cell? ⟨w.heap.size + 1, 0, none⟩ = some (.int .i64 0) := (hb1.cell (by simp [hz])).trans Y0.out
    have y1 : w1.cell? ⟨w.heap.size + 1, 1, none⟩ = some (.int .i64 0) := (hb1.cell (by simp [hz])).trans Y1.out
    have y2 : w1.cell? ⟨w.heap.size + 1, 2, none⟩ = some (.int .i64 0) := (hb1.cell (by simp [hz])).trans Y2.out
    have y3 : w1.cell? ⟨w.heap.size + 1, 3, none⟩ = some (.slice none 0 0) := (hb1.cell (by simp [hz])).trans Y3.out
    have y4 : w1.cell? ⟨w.heap.size + 1, 4, none⟩ = some (.slice none 0 0) := (hb1.cell (by simp [hz])).trans Y4.out
    have y5 : w1.cell? ⟨w.heap.size + 1, 5, none⟩ = some (.slice none 0 0) := (hb1.cell (by simp [hz])).trans Y5.out
    have y6 : w1.cell? ⟨w.heap.size + 1, 6, none⟩ = some (.int .i64 0) := (hb1.cell (by simp [hz])).trans Y6.out
    have ff : ∀ o, w1.frozen? ⟨w.heap.size + 1, o, none⟩ = false := fun o => (hb1.frozen (by simp [hz])).trans (FF.out o)
    have hz1 : w.heap.size + 1 < w1.heap.size := by have := hb1.size; omega
    have KE : Hid (Below w.heap.size w w1) := KW.out.trans (hb1.mono KW.out.size)
    have hne : w1.heap.size ≠ w.heap.size + 1 := by omega
    clear h1 h2 hb1 hz hn
    go_wp2_with fail
    generalize hWE : World.alloc _ _ = WE
    have q0 : WE.cell? ⟨w.heap.size + 1, 0, none⟩ = some (.int .i64 0) := by rw [← hWE]; simp [go_sem, hz1, y0, y1, y2, y3, y4, y5, y6]
    have q1 : WE.cell? ⟨w.heap.size + 1, 1, none⟩ = some (.int .i64 0) := by rw [← hWE]; simp [go_sem, hz1, y0, y1, y2, y3, y4, y5, y6]
    have q2 : WE.cell? ⟨w.heap.size + 1, 2, none⟩ = some (.int .i64 0) := by rw [← hWE]; simp [go_sem, hz1, y0, y1, y2, y3, y4, y5, y6]
    have q3 : WE.cell? ⟨w.heap.size + 1, 3, none⟩ = some (.slice none 0 0) := by rw [← hWE]; simp [go_sem, hz1, y0, y1, y2, y3, y4, y5, y6]
    have q4 : WE.cell? ⟨w.heap.size + 1, 4, none⟩ = some (.slice none 0 0) := by rw [← hWE]; simp [go_sem, hz1, y0, y1, y2, y3, y4, y5, y6]
    have q5 : WE.cell? ⟨w.heap.size + 1, 5, none⟩ = some (.slice none 0 0) := by rw [← hWE]; simp [go_sem, hz1, y0, y1, y2, y3, y4, y5, y6]
    have q6 : WE.cell? ⟨w.heap.size + 1, 6, none⟩ = some (.int .i64 0) := by rw [← hWE]; simp [go_sem, hz1, y0, y1, y2, y3, y4, y5, y6]
    have KB : Hid (Below w.heap.size w WE) := by show Below _ _ _; rw [← hWE]; exact Below.alloc (Below.setCell (Below.setCell (Below.setCell (Below.setCell (Below.setCell (Below.setCell (Below.setCell (KE.out) (by simp) _) (by simp) _) (by simp) _) (by simp) _) (by simp) _) (by simp) _) (by simp) _) (by simp; omega) _
    clear hWE
    exact bodyPost_ret (v := .tuple #[.agg #[.int .i64 0, .int .i64 0, .int .i64 0, .slice none 0 0, .slice none 0 0, .slice none 0 0, .int .i64 0], .bool false]) (by simp [results, Tryz.f281, go_sem, q0, q1, q2, q3, q4, q5, q6]) rfl ⟨KB.out, .inr rfl⟩
  · have HF := Lib.hid h1
    go_enter Tryz.func281, Tryz.ntmps281
    go_wp2_with fail
    generalize hW : (w.alloc _).alloc _ = W
    have hbW : Below w.heap.size w W := by rw [← hW]; exact ((Below.refl _ _).alloc (Nat.le_refl _) _).alloc (by simp) _
    have hn : W.cell? ⟨w.heap.size, 0, none⟩ = some (.int .i64 n) := by rw [← hW]; simp
    have hz : W.heap.size = w.heap.size + 2 := by rw [← hW]; simp
    have KW := Lib.hid hbW
    have KZ := Lib.hid hz
    have HS : Hid (SaysRt 371 #[.pointer (some ⟨w.heap.size, 0, none⟩)] (fun x : Rt => decide (x.id = n)) l W) := fun W' i h hb p1 p2 p3 o1 o2 o3 f1 f2 f3 _ => isRt l[i] p1 o1 f1 p2 p3 o2 o3 f2 f3 n w.heap.size W' (ccell hb hn)
    have Y0 := Lib.hid (show W.cell? ⟨w.heap.size + 1, 0, none⟩ = some (.int .i64 0) by rw [← hW]; simp)
    have Y1 := Lib.hid (show W.cell? ⟨w.heap.size + 1, 1, none⟩ = some (.int .i64 0) by rw [← hW]; simp)
    have Y2 := Lib.hid (show W.cell? ⟨w.heap.size + 1, 2, none⟩ = some (.int .i64 0) by rw [← hW]; simp)
    have Y3 := Lib.hid (show W.cell? ⟨w.heap.size + 1, 3, none⟩ = some (.slice none 0 0) by rw [← hW]; simp)
    have Y4 := Lib.hid (show W.cell? ⟨w.heap.size + 1, 4, none⟩ = some (.slice none 0 0) by rw [← hW]; simp)
    have Y5 := Lib.hid (show W.cell? ⟨w.heap.size + 1, 5, none⟩ = some (.slice none 0 0) by rw [← hW]; simp)
    have Y6 := Lib.hid (show W.cell? ⟨w.heap.size + 1, 6, none⟩ = some (.int .i64 0) by rw [← hW]; simp)
    have hcz : W.heap[w.heap.size + 1]? = some (.cells #[.int .i64 0, .int .i64 0, .int .i64 0, .slice none 0 0, .slice none 0 0, .slice none 0 0, .int .i64 0] 102 (0, 0)) := by
      rw [← hW]
      have := heap_alloc_new (w.alloc (.cells #[.int .i64 n] 3)) (.cells #[.int .i64 0, .int .i64 0, .int .i64 0, .slice none 0 0, .slice none 0 0, .slice none 0 0, .int .i64 0] 102)
      rw [show (w.alloc (.cells #[.int .i64 n] 3)).heap.size = w.heap.size + 1 by simp] at this
      exact this
    have FF := Lib.hid (show ∀ o, W.frozen? ⟨w.heap.size + 1, o, none⟩ = false from fun o => by simp [World.frozen?, hcz])
    clear hcz
    clear hW hbW
    refine (ixfnRt 371 #[.pointer (some ⟨w.heap.size, 0, none⟩)] (fun x : Rt => decide (x.id = n)) a cap l W (HL.out _ KW.out) hm plain371 HS.out).mono ?_
    rintro e w1 ⟨rfl, hb1⟩
    rw [HF.out]
    have y0 : w1.cell? ⟨w.heap.size + 1, 0, none⟩ = some (.int .i64 0) := (hb1.cell (by simp [hz])).trans Y0.out
    have y1 : w1.cell? ⟨w.heap.size + 1, 1, none⟩ = some (.int .i64 0) := (hb1.cell (by simp [hz])).trans Y1.out
    have y2 : w1.cell? ⟨w.heap.size + 1, 2, none⟩ = some (.int .i64 0) := (hb1.cell (by simp [hz])).trans Y2.out
    have y3 : w1.cell? ⟨w.heap.size + 1, 3, none⟩ = some (.slice none 0 0) := (hb1.cell (by simp [hz])).trans Y3.out
    have y4 : w1.cell? ⟨w.heap.size + 1, 4, none⟩ = some (.slice none 0 0) := (hb1.cell (by simp [hz])).trans Y4.out
    have y5 : w1.cell? ⟨w.heap.size + 1, 5, none⟩ = some (.slice none 0 0) := (hb1.cell (by simp [hz])).trans Y5.out
    have y6 : w1.cell? ⟨w.heap.size + 1, 6, none⟩ = some (.int .i64 0) := (hb1.cell (by simp [hz])).trans Y6.out
    have ff : ∀ o, w1.frozen? ⟨w.heap.size + 1, o, none⟩ = false := fun o => (hb1.frozen (by simp [hz])).trans (FF.out o)
    have hz1 : w.heap.size + 1 < w1.heap.size := by have := hb1.size; omega
    have KE : Hid (Below w.heap.size w w1) := KW.out.trans (hb1.mono KW.out.size)
    obtain ⟨b, off, p, oo, f, rfl, x0, x1, x2, x3, x4, x5, x6, hrt⟩ := HL0.out.rt hk
    replace x0 := ccell (HB0.out _ KE.out) x0
    replace x1 := ccell (HB0.out _ KE.out) x1
    replace x2 := ccell (HB0.out _ KE.out) x2
    replace x3 := ccell (HB0.out _ KE.out) x3
    replace x4 := ccell (HB0.out _ KE.out) x4
    replace x5 := ccell (HB0.out _ KE.out) x5
    replace x6 := ccell (HB0.out _ KE.out) x6
    obtain ⟨p1, p2, p3, rfl, hpp⟩ := hrt.path
    obtain ⟨o1, o2, o3, rfl, hoo⟩ := hrt.over
    obtain ⟨f1, f3, rfl, hff⟩ := hrt.fl
    have HM := Lib.hid hrt
    have HID : Hid (l[k].id = n) := Lib.hid (of_decide_eq_true h2)
    have t0 : decide ((k : Int) < 0) = false := by simp
    have i0 : (0 : Int) ≤ (k : Int) := by omega
    have i1 : (k : Int) < (l.length : Int) := by omega
    clear h1 h2 h3 hb1 hz hn hrt hpp hoo hff
    go_wp2_with fail
    generalize hWE : World.setCell _ _ _ = WE
    have q0 : WE.cell? ⟨w.heap.size + 1, 0, none⟩ = some (.int .i64 l[k].id) := by rw [← hWE]; simp [go_sem, hz1, y0, y1, y2, y3, y4, y5, y6]
    have q1 : WE.cell? ⟨w.heap.size + 1, 1, none⟩ = some (.int .i64 l[k].entry) := by rw [← hWE]; simp [go_sem, hz1, y0, y1, y2, y3, y4, y5, y6]
    have q2 : WE.cell? ⟨w.heap.size + 1, 2, none⟩ = some (.int .i64 l[k].exit) := by rw [← hWE]; simp [go_sem, hz1, y0, y1, y2, y3, y4, y5, y6]
    have q3 : WE.cell? ⟨w.heap.size + 1, 3, none⟩ = some (.slice p1 p2 p3) := by rw [← hWE]; simp [go_sem, hz1, y0, y1, y2, y3, y4, y5, y6]
    have q4 : WE.cell? ⟨w.heap.size + 1, 4, none⟩ = some (.slice o1 o2 o3) := by rw [← hWE]; simp [go_sem, hz1, y0, y1, y2, y3, y4, y5, y6]
    have q5 : WE.cell? ⟨w.heap.size + 1, 5, none⟩ = some (.slice f1 l[k].fl.length f3) := by rw [← hWE]; simp [go_sem, hz1, y0, y1, y2, y3, y4, y5, y6]
    have q6 : WE.cell? ⟨w.heap.size + 1, 6, none⟩ = some (.int .i64 l[k].timer) := by rw [← hWE]; simp [go_sem, hz1, y0, y1, y2, y3, y4, y5, y6]
    have KB : Hid (Below w.heap.size w WE) := by show Below _ _ _; rw [← hWE]; exact Below.setCell (Below.setCell (Below.setCell (Below.setCell (Below.setCell (Below.setCell (Below.setCell (KE.out) (by simp) _) (by simp) _) (by simp) _) (by simp) _) (by simp) _) (by simp) _) (by simp) _
    clear hWE
    exact bodyPost_ret (v := .tuple #[.agg #[.int .i64 l[k].id, .int .i64 l[k].entry, .int .i64 l[k].exit, .slice p1 p2 p3, .slice o1 o2 o3, .slice f1 l[k].fl.length f3, .int .i64 l[k].timer], .bool true]) (by simp [results, Tryz.f281, go_sem, q0, q1, q2, q3, q4, q5, q6]) rfl ⟨KB.out, .inl ⟨k, hk, _, _, _, _, _, _, _, _, _, HID.out, rfl, HM.out⟩⟩
end Go.Proofs.YtbiehpjhhopjaaaGreat
set_option linter.unusedVariables false
set_option linter.unusedSimpArgs false
namespace Go.Proofs.YtbiehpjhhopjaaaGreat
open Go.RowKit Go.Sort
/-- no route -/
def nRt : Rt := ⟨0, 0, 0, [], [], [], 0⟩
theorem nRt_m (w : World) : RtM w (.slice none 0 0) (.slice none 0 0) (.slice none 0 0) nRt :=
  ⟨ILv.nil w, ILv.nil w, ⟨none, 0, rfl, ⟨Nat.le_refl _, fun _ => rfl, fun i h => absurd h (by simp [nRt])⟩⟩⟩
/-- a route asked for: of a checked plan, or none -/
def AskedRt (w : World) (p : Pl) (n : Int) (e : Ending) (w' : World) : Prop :=
  ∃ (x : Rt) (E : Int) (p1 o1 f1 : Option Addr) (p2 p3 o2 o3 f2 f3 : Nat), e = .returned (.tuple #[.agg #[.int .i64 x.id, .int .i64 x.entry, .int .i64 x.exit, .slice p1 p2 p3, .slice o1 o2 o3, .slice f1 f2 f3, .int .i64 x.timer], .int .i64 E]) ∧ RtM w (.slice p1 p2 p3) (.slice o1 o2 o3) (.slice f1 f2 f3) x ∧ Below w.heap.size w w' ∧ (x = nRt ∨ x ∈ p.rts) ∧ (E = 0 → PlanMay p ∧ x ∈ p.rts ∧ x.id = n)
set_option maxRecDepth 100000 in
set_option maxHeartbeats 2000000 in
theorem askedRt_any (p : Pl) (s q gg rr : Value) (n : Int) (w : World) (hp : PlM w s q gg rr p) (hf : p.Fit) :
    Calls Tryz.prog 200 #[plV p s q gg rr, rr, .int .i64 n] w (AskedRt w p n) := by
  have HCK : Hid (∀ w', Below w.heap.size w w' → Calls Tryz.prog 208 #[plV p s q gg rr] w' (ErrPost w' (if PlanMay p then 0 else 8))) := fun w' hb => plancheck_any p s q gg rr w' (hp.below hb) hf
  obtain ⟨a1, k1, rfl, -⟩ := hp.secs
  obtain ⟨a2, k2, rfl, -⟩ := hp.pts
  obtain ⟨a3, k3, rfl, -⟩ := hp.sigs
  obtain ⟨a4, k4, rfl, h4⟩ := hp.rts
  have HFR : Hid (∀ w', Below w.heap.size w w' → Calls Tryz.prog 281 #[.slice a4 p.rts.length k4, .int .i64 n] w' (FindRt w w' p.rts n)) := fun w' hb => findRt a4 k4 p.rts n w w' hb h4 hf.rts
  clear h4 hp hf
  unfold plV at *
  go_enter Tryz.func200, Tryz.ntmps200
  go_wp2_with fail
  generalize hW0 : World.alloc _ _ = W0
  have eA : (w.alloc (.cells #[.int .i64 p.ver, .int .i64 p.par, .slice a1 p.secs.length k1, .slice a2 p.pts.length k2, .slice a3 p.sigs.length k3, .slice a4 p.rts.length k4] 28)).heap.size = w.heap.size + 1 := by simp
  have eB : ((w.alloc (.cells #[.int .i64 p.ver, .int .i64 p.par, .slice a1 p.secs.length k1, .slice a2 p.pts.length k2, .slice a3 p.sigs.length k3, .slice a4 p.rts.length k4] 28)).alloc (.cells #[.int .i64 0, .int .i64 0, .int .i64 0, .slice none 0 0, .slice none 0 0, .slice none 0 0, .int .i64 0] 102)).heap.size = w.heap.size + 2 := by simp
  have hb0 : Hid (Below w.heap.size w W0) := by show Below _ _ _; rw [← hW0]; exact (((Below.refl _ _).alloc (Nat.le_refl _) _).alloc (by omega) _).alloc (by omega) _
  have hr1 : Hid (W0.heap[w.heap.size + 1]? = some (.cells #[.int .i64 0, .int .i64 0, .int .i64 0, .slice none 0 0, .slice none 0 0, .slice none 0 0, .int .i64 0] 102 (0, 0))) := by
    show _ = _
    rw [← hW0]
    refine (heap_alloc_old _ _ (by omega)).trans ?_
    have := heap_alloc_new (w.alloc (.cells #[.int .i64 p.ver, .int .i64 p.par, .slice a1 p.secs.length k1, .slice a2 p.pts.length k2, .slice a3 p.sigs.length k3, .slice a4 p.rts.length k4] 28)) (.cells #[.int .i64 0, .int .i64 0, .int .i64 0, .slice none 0 0, .slice none 0 0, .slice none 0 0, .int .i64 0] 102)
    rw [eA] at this
    exact this
  have hr2 : Hid (W0.heap[w.heap.size + 1 + 1]? = some (.cells #[.int .i64 0, .int .i64 0, .int .i64 0, .slice none 0 0, .slice none 0 0, .slice none 0 0, .int .i64 0] 102 (0, 0))) := by
    show _ = _
    rw [← hW0]
    have := heap_alloc_new ((w.alloc (.cells #[.int .i64 p.ver, .int .i64 p.par, .slice a1 p.secs.length k1, .slice a2 p.pts.length k2, .slice a3 p.sigs.length k3, .slice a4 p.rts.length k4] 28)).alloc (.cells #[.int .i64 0, .int .i64 0, .int .i64 0, .slice none 0 0, .slice none 0 0, .slice none 0 0, .int .i64 0] 102)) (.cells #[.int .i64 0, .int .i64 0, .int .i64 0, .slice none 0 0, .slice none 0 0, .slice none 0 0, .int .i64 0] 102)
    rw [eB] at this
    exact this
  have hs0 : W0.heap.size = w.heap.size + 3 := by rw [← hW0]; simp
  clear hW0 eA eB
  refine (HCK.out W0 hb0.out).mono ?_
  rintro e W1 ⟨rfl, hb1⟩
  have B1 : Hid (Below w.heap.size w W1) := hb0.out.trans (hb1.mono hb0.out.size)
  have R1 : W1.heap[w.heap.size + 1]? = some (.cells #[.int .i64 0, .int .i64 0, .int .i64 0, .slice none 0 0, .slice none 0 0, .slice none 0 0, .int .i64 0] 102 (0, 0)) := (hb1.block _ (by omega)).trans hr1.out
  have R2 : W1.heap[w.heap.size + 1 + 1]? = some (.cells #[.int .i64 0, .int .i64 0, .int .i64 0, .slice none 0 0, .slice none 0 0, .slice none 0 0, .int .i64 0] 102 (0, 0)) := (hb1.block _ (by omega)).trans hr2.out
  have hs1 : w.heap.size + 3 ≤ W1.heap.size := by have := hb1.size; omega
  clear hb1
  by_cases hpm : PlanMay p
  · rw [if_pos hpm]
    have HPM := Lib.hid hpm
    have HR1 := Lib.hid R1
    have HR2 := Lib.hid R2
    clear hpm R1 R2
    go_wp2_with fail
    refine (HFR.out W1 B1.out).mono ?_
    rintro e W2 ⟨hb2, hcase⟩
    have B2 : Hid (Below w.heap.size w W2) := B1.out.trans (hb2.mono B1.out.size)
    have R1 : W2.heap[w.heap.size + 1]? = some (.cells #[.int .i64 0, .int .i64 0, .int .i64 0, .slice none 0 0, .slice none 0 0, .slice none 0 0, .int .i64 0] 102 (0, 0)) := (hb2.block _ (by omega)).trans HR1.out
    have R2 : W2.heap[w.heap.size + 1 + 1]? = some (.cells #[.int .i64 0, .int .i64 0, .int .i64 0, .slice none 0 0, .slice none 0 0, .slice none 0 0, .int .i64 0] 102 (0, 0)) := (hb2.block _ (by omega)).trans HR2.out
    have hs2 : w.heap.size + 3 ≤ W2.heap.size := by have := hb2.size; omega
    clear hb2 HR1 HR2 hs1
    rcases hcase with ⟨k, hk, p1, o1, f1, p2, p3, o2, o3, f2, f3, hid, rfl, hrm⟩ | rfl
    · have HID := Lib.hid hid
      have HRM := Lib.hid hrm
      clear hid hrm R2
      have y0 : W2.cell? ⟨w.heap.size + 1, 0, none⟩ = some (.int .i64 0) := (cell_of_row W2 _ 0 _ _ _ R1).trans rfl
      have y1 : W2.cell? ⟨w.heap.size + 1, 1, none⟩ = some (.int .i64 0) := (cell_of_row W2 _ 1 _ _ _ R1).trans rfl
      have y2 : W2.cell? ⟨w.heap.size + 1, 2, none⟩ = some (.int .i64 0) := (cell_of_row W2 _ 2 _ _ _ R1).trans rfl
      have y3 : W2.cell? ⟨w.heap.size + 1, 3, none⟩ = some (.slice none 0 0) := (cell_of_row W2 _ 3 _ _ _ R1).trans rfl
      have y4 : W2.cell? ⟨w.heap.size + 1, 4, none⟩ = some (.slice none 0 0) := (cell_of_row W2 _ 4 _ _ _ R1).trans rfl
      have y5 : W2.cell? ⟨w.heap.size + 1, 5, none⟩ = some (.slice none 0 0) := (cell_of_row W2 _ 5 _ _ _ R1).trans rfl
      have y6 : W2.cell? ⟨w.heap.size + 1, 6, none⟩ = some (.int .i64 0) := (cell_of_row W2 _ 6 _ _ _ R1).trans rfl
      have ff : ∀ o, W2.frozen? ⟨w.heap.size + 1, o, none⟩ = false := fun o => by simp [World.frozen?, R1]
      have lr := lt_of_block R1
      clear R1
      have hne : W2.heap.size ≠ w.heap.size + 1 := by omega
      go_wp2_with fail
      generalize hWE : World.alloc _ _ = WE
      have q0 : WE.cell? ⟨w.heap.size + 1, 0, none⟩ = some (.int .i64 p.rts[k].id) := by rw [← hWE]; simp [go_sem, lr, hne, y0, y1, y2, y3, y4, y5, y6]
      have q1 : WE.cell? ⟨w.heap.size + 1, 1, none⟩ = some (.int .i64 p.rts[k].entry) := by rw [← hWE]; simp [go_sem, lr, hne, y0, y1, y2, y3, y4, y5, y6]
      have q2 : WE.cell? ⟨w.heap.size + 1, 2, none⟩ = some (.int .i64 p.rts[k].exit) := by rw [← hWE]; simp [go_sem, lr, hne, y0, y1, y2, y3, y4, y5, y6]
      have q3 : WE.cell? ⟨w.heap.size + 1, 3, none⟩ = some (.slice p1 p2 p3) := by rw [← hWE]; simp [go_sem, lr, hne, y0, y1, y2, y3, y4, y5, y6]
      have q4 : WE.cell? ⟨w.heap.size + 1, 4, none⟩ = some (.slice o1 o2 o3) := by rw [← hWE]; simp [go_sem, lr, hne, y0, y1, y2, y3, y4, y5, y6]
      have q5 : WE.cell? ⟨w.heap.size + 1, 5, none⟩ = some (.slice f1 f2 f3) := by rw [← hWE]; simp [go_sem, lr, hne, y0, y1, y2, y3, y4, y5, y6]
      have q6 : WE.cell? ⟨w.heap.size + 1, 6, none⟩ = some (.int .i64 p.rts[k].timer) := by rw [← hWE]; simp [go_sem, lr, hne, y0, y1, y2, y3, y4, y5, y6]
      have KB : Hid (Below w.heap.size w WE) := by show Below _ _ _; rw [← hWE]; exact Below.alloc (Below.setCell (Below.setCell (Below.setCell (Below.setCell (Below.setCell (Below.setCell (Below.setCell (B2.out) (by simp) _) (by simp) _) (by simp) _) (by simp) _) (by simp) _) (by simp) _) (by simp) _) (by simp; omega) _
      clear hWE
      refine bodyPost_ret (v := .tuple #[.agg #[.int .i64 p.rts[k].id, .int .i64 p.rts[k].entry, .int .i64 p.rts[k].exit, .slice p1 p2 p3, .slice o1 o2 o3, .slice f1 f2 f3, .int .i64 p.rts[k].timer], .int .i64 0]) (by simp [results, Tryz.f200, go_sem, q0, q1, q2, q3, q4, q5, q6]) rfl ?_
      exact ⟨p.rts[k], 0, _, _, _, _, _, _, _, _, _, rfl, HRM.out, KB.out, .inr (List.getElem_mem hk), fun _ => ⟨HPM.out, List.getElem_mem hk, HID.out⟩⟩
    · -- none
      have y0 : W2.cell? ⟨w.heap.size + 1, 0, none⟩ = some (.int .i64 0) := (cell_of_row W2 _ 0 _ _ _ R1).trans rfl
      have y1 : W2.cell? ⟨w.heap.size + 1, 1, none⟩ = some (.int .i64 0) := (cell_of_row W2 _ 1 _ _ _ R1).trans rfl
      have y2 : W2.cell? ⟨w.heap.size + 1, 2, none⟩ = some (.int .i64 0) := (cell_of_row W2 _ 2 _ _ _ R1).trans rfl
      have y3 : W2.cell? ⟨w.heap.size + 1, 3, none⟩ = some (.slice none 0 0) := (cell_of_row W2 _ 3 _ _ _ R1).trans rfl
      have y4 : W2.cell? ⟨w.heap.size + 1, 4, none⟩ = some (.slice none 0 0) := (cell_of_row W2 _ 4 _ _ _ R1).trans rfl
      have y5 : W2.cell? ⟨w.heap.size + 1, 5, none⟩ = some (.slice none 0 0) := (cell_of_row W2 _ 5 _ _ _ R1).trans rfl
      have y6 : W2.cell? ⟨w.heap.size + 1, 6, none⟩ = some (.int .i64 0) := (cell_of_row W2 _ 6 _ _ _ R1).trans rfl
      have ff : ∀ o, W2.frozen? ⟨w.heap.size + 1, o, none⟩ = false := fun o => by simp [World.frozen?, R1]
      have lr := lt_of_block R1
      have t0 : W2.cell? ⟨w.heap.size + 1 + 1, 0, none⟩ = some (.int .i64 0) := (cell_of_row W2 _ 0 _ _ _ R2).trans rfl
      have t1 : W2.cell? ⟨w.heap.size + 1 + 1, 1, none⟩ = some (.int .i64 0) := (cell_of_row W2 _ 1 _ _ _ R2).trans rfl
      have t2 : W2.cell? ⟨w.heap.size + 1 + 1, 2, none⟩ = some (.int .i64 0) := (cell_of_row W2 _ 2 _ _ _ R2).trans rfl
      have t3 : W2.cell? ⟨w.heap.size + 1 + 1, 3, none⟩ = some (.slice none 0 0) := (cell_of_row W2 _ 3 _ _ _ R2).trans rfl
      have t4 : W2.cell? ⟨w.heap.size + 1 + 1, 4, none⟩ = some (.slice none 0 0) := (cell_of_row W2 _ 4 _ _ _ R2).trans rfl
      have t5 : W2.cell? ⟨w.heap.size + 1 + 1, 5, none⟩ = some (.slice none 0 0) := (cell_of_row W2 _ 5 _ _ _ R2).trans rfl
      have t6 : W2.cell? ⟨w.heap.size + 1 + 1, 6, none⟩ = some (.int .i64 0) := (cell_of_row W2 _ 6 _ _ _ R2).trans rfl
      have lr2 := lt_of_block R2
      clear R1 R2
      have hne : W2.heap.size ≠ w.heap.size + 1 := by omega
      go_wp2_with fail
      generalize hWE : World.alloc _ _ = WE
      have q0 : WE.cell? ⟨w.heap.size + 1, 0, none⟩ = some (.int .i64 0) := by rw [← hWE]; simp [go_sem, lr, hne, y0, y1, y2, y3, y4, y5, y6]
      have q1 : WE.cell? ⟨w.heap.size + 1, 1, none⟩ = some (.int .i64 0) := by rw [← hWE]; simp [go_sem, lr, hne, y0, y1, y2, y3, y4, y5, y6]
      have q2 : WE.cell? ⟨w.heap.size + 1, 2, none⟩ = some (.int .i64 0) := by rw [← hWE]; simp [go_sem, lr, hne, y0, y1, y2, y3, y4, y5, y6]
      have q3 : WE.cell? ⟨w.heap.size + 1, 3, none⟩ = some (.slice none 0 0) := by rw [← hWE]; simp [go_sem, lr, hne, y0, y1, y2, y3, y4, y5, y6]
      have q4 : WE.cell? ⟨w.heap.size + 1, 4, none⟩ = some (.slice none 0 0) := by rw [← hWE]; simp [go_sem, lr, hne, y0, y1, y2, y3, y4, y5, y6]
      have q5 : WE.cell? ⟨w.heap.size + 1, 5, none⟩ = some (.slice none 0 0) := by rw [← hWE]; simp [go_sem, lr, hne, y0, y1, y2, y3, y4, y5, y6]
      have q6 : WE.cell? ⟨w.heap.size + 1, 6, none⟩ = some (.int .i64 0) := by rw [← hWE]; simp [go_sem, lr, hne, y0, y1, y2, y3, y4, y5, y6]
      have KB : Hid (Below w.heap.size w WE) := by show Below _ _ _; rw [← hWE]; exact Below.alloc (Below.setCell (Below.setCell (Below.setCell (Below.setCell (Below.setCell (Below.setCell (Below.setCell (B2.out) (by simp) _) (by simp) _) (by simp) _) (by simp) _) (by simp) _) (by simp) _) (by simp) _) (by simp; omega) _
      clear hWE
      refine bodyPost_ret (v := .tuple #[.agg #[.int .i64 0, .int .i64 0, .int .i64 0, .slice none 0 0, .slice none 0 0, .slice none 0 0, .int .i64 0], .int .i64 6]) (by simp [results, Tryz.f200, go_sem, q0, q1, q2, q3, q4, q5, q6]) rfl ?_
      exact ⟨nRt, 6, _, _, _, _, _, _, _, _, _, rfl, nRt_m _, KB.out, .inl rfl, fun h => absurd h (by decide)⟩
  · rw [if_neg hpm]
    have HPM := Lib.hid hpm
    have y0 : W1.cell? ⟨w.heap.size + 1, 0, none⟩ = some (.int .i64 0) := (cell_of_row W1 _ 0 _ _ _ R1).trans rfl
    have y1 : W1.cell? ⟨w.heap.size + 1, 1, none⟩ = some (.int .i64 0) := (cell_of_row W1 _ 1 _ _ _ R1).trans rfl
    have y2 : W1.cell? ⟨w.heap.size + 1, 2, none⟩ = some (.int .i64 0) := (cell_of_row W1 _ 2 _ _ _ R1).trans rfl
    have y3 : W1.cell? ⟨w.heap.size + 1, 3, none⟩ = some (.slice none 0 0) := (cell_of_row W1 _ 3 _ _ _ R1).trans rfl
    have y4 : W1.cell? ⟨w.heap.size + 1, 4, none⟩ = some (.slice none 0 0) := (cell_of_row W1 _ 4 _ _ _ R1).trans rfl
    have y5 : W1.cell? ⟨w.heap.size + 1, 5, none⟩ = some (.slice none 0 0) := (cell_of_row W1 _ 5 _ _ _ R1).trans rfl
    have y6 : W1.cell? ⟨w.heap.size + 1, 6, none⟩ = some (.int .i64 0) := (cell_of_row W1 _ 6 _ _ _ R1).trans rfl
    have ff : ∀ o, W1.frozen? ⟨w.heap.size + 1, o, none⟩ = false := fun o => by simp [World.frozen?, R1]
    have lr := lt_of_block R1
    have t0 : W1.cell? ⟨w.heap.size + 1 + 1, 0, none⟩ = some (.int .i64 0) := (cell_of_row W1 _ 0 _ _ _ R2).trans rfl
    have t1 : W1.cell? ⟨w.heap.size + 1 + 1, 1, none⟩ = some (.int .i64 0) := (cell_of_row W1 _ 1 _ _ _ R2).trans rfl
    have t2 : W1.cell? ⟨w.heap.size + 1 + 1, 2, none⟩ = some (.int .i64 0) := (cell_of_row W1 _ 2 _ _ _ R2).trans rfl
    have t3 : W1.cell? ⟨w.heap.size + 1 + 1, 3, none⟩ = some (.slice none 0 0) := (cell_of_row W1 _ 3 _ _ _ R2).trans rfl
    have t4 : W1.cell? ⟨w.heap.size + 1 + 1, 4, none⟩ = some (.slice none 0 0) := (cell_of_row W1 _ 4 _ _ _ R2).trans rfl
    have t5 : W1.cell? ⟨w.heap.size + 1 + 1, 5, none⟩ = some (.slice none 0 0) := (cell_of_row W1 _ 5 _ _ _ R2).trans rfl
    have t6 : W1.cell? ⟨w.heap.size + 1 + 1, 6, none⟩ = some (.int .i64 0) := (cell_of_row W1 _ 6 _ _ _ R2).trans rfl
    have lr2 := lt_of_block R2
    clear hpm R1 R2
    go_wp2_with fail
    generalize hWE : World.setCell _ _ _ = WE
    have q0 : WE.cell? ⟨w.heap.size + 1, 0, none⟩ = some (.int .i64 0) := by rw [← hWE]; simp [go_sem, lr, y0, y1, y2, y3, y4, y5, y6]
    have q1 : WE.cell? ⟨w.heap.size + 1, 1, none⟩ = some (.int .i64 0) := by rw [← hWE]; simp [go_sem, lr, y0, y1, y2, y3, y4, y5, y6]
    have q2 : WE.cell? ⟨w.heap.size + 1, 2, none⟩ = some (.int .i64 0) := by rw [← hWE]; simp [go_sem, lr, y0, y1, y2, y3, y4, y5, y6]
    have q3 : WE.cell? ⟨w.heap.size + 1, 3, none⟩ = some (.slice none 0 0) := by rw [← hWE]; simp [go_sem, lr, y0, y1, y2, y3, y4, y5, y6]
    have q4 : WE.cell? ⟨w.heap.size + 1, 4, none⟩ = some (.slice none 0 0) := by rw [← hWE]; simp [go_sem, lr, y0, y1, y2, y3, y4, y5, y6]
    have q5 : WE.cell? ⟨w.heap.size + 1, 5, none⟩ = some (.slice none 0 0) := by rw [← hWE]; simp [go_sem, lr, y0, y1, y2, y3, y4, y5, y6]
    have q6 : WE.cell? ⟨w.heap.size + 1, 6, none⟩ = some (.int .i64 0) := by rw [← hWE]; simp [go_sem, lr, y0, y1, y2, y3, y4, y5, y6]
    have KB : Hid (Below w.heap.size w WE) := by show Below _ _ _; rw [← hWE]; exact Below.setCell (Below.setCell (Below.setCell (Below.setCell (Below.setCell (Below.setCell (Below.setCell (B1.out) (by simp) _) (by simp) _) (by simp) _) (by simp) _) (by simp) _) (by simp) _) (by simp) _
    clear hWE
    refine bodyPost_ret (v := .tuple #[.agg #[.int .i64 0, .int .i64 0, .int .i64 0, .slice none 0 0, .slice none 0 0, .slice none 0 0, .int .i64 0], .int .i64 8]) (by simp [results, Tryz.f200, go_sem, q0, q1, q2, q3, q4, q5, q6]) rfl ?_
    exact ⟨nRt, 8, _, _, _, _, _, _, _, _, _, rfl, nRt_m _, KB.out, .inl rfl, fun h => absurd h (by decide)⟩
end Go.Proofs.YtbiehpjhhopjaaaGreat
