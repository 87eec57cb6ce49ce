/-
  state.held, state.asks, walked.
-/
import Derived.Test.YtbiehpjhhopjaaaGreatStateA
import Derived.Test.YtbiehpjhhopjaaaGreatConcat
import Derived.Deep.LoopGhost
import Derived.Deep.Light
import Derived.StillTailTactics
set_option linter.unusedVariables false
set_option linter.unusedSimpArgs false
namespace Go.Proofs.YtbiehpjhhopjaaaGreat
open Go.RowKit Go.Maps
/-- what all steps of a grip leave -/
def GraPost (W : World) (gR gG : Nat) (v : Value) (g' : Gr) (e : Ending) (W' : World) : Prop := e = .returned (.tuple #[]) ∧ GrM W' gR gG g' v ∧ Tw gR gG W W'
set_option maxRecDepth 100000 in
set_option maxHeartbeats 8000000 in
theorem asks_any (gR gM gG b : Nat) (m : Nat) (f : Int → Int) (g : Gr) (v : Value) (ww : Wy) (l : Lk) (vp vo : Value) (aa : Option Addr) (ca : Nat) (W : World) (h : GrM W gR gG g v) (hl : W.cell? ⟨gM, 0, none⟩ = some (.map (some b))) (hm : MapIs W b m f) (hfit : AsksFit ww.asks) (n1 : gR ≠ gG) (n2 : gM ≠ gR) (n3 : gM ≠ gG)
    (ha : ∀ W', Tw gR gG W W' → SlA W' 3 RAsk aa ca ww.asks) (hal : ww.asks.length ≤ 1000) :
    Calls Tryz.prog 293 #[.agg #[vp, vo, .slice aa ww.asks.length ca, .int .i64 ww.near], .agg #[.int .i64 l.id, .int .u8 l.ph, .int .i64 l.gone, .int .i64 l.left], .func (.func 294) #[] #[.pointer (some ⟨gR, 0, none⟩), .pointer (some ⟨gM, 0, none⟩), .pointer (some ⟨gG, 0, none⟩)]] W (GraPost W gR gG v (askAll f (asksL ww l) g)) := by
  have hcf : ∀ (args : Array Value) (w : World), Sem.run Tryz.prog (callFunc 294 args) w = .ok (.enter 294 args) w := plain294
  have lR := lt_of_block h.ok
  have lG := h.row.lt
  have lM : gM < W.heap.size := World.block_lt_of_cell? _ _ hl
  have HA := Lib.hid ha
  have HG := Lib.hid h
  have HFI := Lib.hid hfit
  have HLK : Hid (∀ W', Tw gR gG W W' → W'.cell? ⟨gM, 0, none⟩ = some (.map (some b))) := fun W' ht => (World.cell?_of_block (w := W) (ht.block gM lM n2 n3)).trans hl
  have HMM : Hid (∀ W', Tw gR gG W W' → MapIs W' b m f) := fun W' ht => hm.same (ht.block b hm.lt (fun e => by
    subst e
    obtain ⟨D, ⟨es, clock, hb, _⟩, _⟩ := hm
    rw [h.ok] at hb
    cases hb) (fun e => by
    subst e
    obtain ⟨D, ⟨es, clock, hb, _⟩, _⟩ := hm
    obtain ⟨cur, hc, _⟩ := h.row.row
    rw [hc] at hb
    cases hb))
  have HE : Hid (asksL ww l = if l.ph = 0 then [] else ww.asks.filter fun a => decide (a.pl < 0 ∨ l.gone ≤ a.pl)) := rfl
  generalize asksL ww l = L at *
  clear h hl hm hfit ha
  by_cases hph : l.ph = 0
  · have t0 : (l.ph == 0) = true := by rw [beq_iff_eq]; exact hph
    rw [if_pos hph] at HE
    have hE := HE.out
    subst hE
    clear hph
    go_enter Tryz.func293, Tryz.ntmps293
    go_wp2_with fail
    have hb : Below W.heap.size W ((W.alloc (.cells #[vp, vo, .slice aa ww.asks.length ca, .int .i64 ww.near] 184)).alloc (.cells #[.int .i64 l.id, .int .u8 l.ph, .int .i64 l.gone, .int .i64 l.left] 99)) := ((Below.refl _ _).alloc (Nat.le_refl _) _).alloc (by simp) _
    exact bodyPost_ret (v := .tuple #[]) (by simp [results, Tryz.f293, go_sem]) rfl ⟨rfl, HG.out.below hb, Tw.of_below hb⟩
  · have t0 : (l.ph == 0) = false := by rw [beq_eq_false_iff_ne]; exact hph
    rw [if_neg hph] at HE
    clear hph
    go_enter Tryz.func293, Tryz.ntmps293
    go_wp2_with fail
    generalize hW : (W.alloc _).alloc _ = W1
    have hb1 : Below W.heap.size W W1 := by rw [← hW]; exact ((Below.refl _ _).alloc (Nat.le_refl _) _).alloc (by simp) _
    have HT1 : Hid (Tw gR gG W W1) := Tw.of_below hb1
    have HLC : Hid (∀ W', Tw gR gG W1 W' → W'.cell? ⟨W.heap.size + 1, 2, none⟩ = some (.int .i64 l.gone) ∧ W.heap.size + 1 < W'.heap.size) := fun W' ht =>
      ⟨(World.cell?_of_block (w := W1) (ht.block (W.heap.size + 1) (by rw [← hW]; simp) (by omega) (by omega))).trans (by rw [← hW]; simp [go_sem]), Nat.lt_of_lt_of_le (by rw [← hW]; simp) ht.size⟩
    have HG1 := Lib.hid (HG.out.below hb1)
    clear hW hb1
    go_loopg [14] ww.asks.length (fun g' i wr => ∃ (k : Nat) (gk : Gr), k ≤ ww.asks.length ∧ g' = ww.asks.length - k ∧ i = .int .i64 k ∧ GrM wr gR gG gk v ∧ Tw gR gG W1 wr ∧ askAll f L g = askAll f ((ww.asks.drop k).filter fun a => decide (a.pl < 0 ∨ l.gone ≤ a.pl)) gk)
    case atStart => exact ⟨0, g, by omega, by omega, rfl, HG1.out, Tw.refl _ _ _, by rw [HE.out]; rfl⟩
    case round =>
      obtain ⟨k, gk, hk, rfl, rfl, hg, ht, heq⟩ := hrel
      obtain ⟨wo, rfl⟩ : ∃ wo : World, wo = wr := ⟨_, rfl⟩
      have HGK := Lib.hid hg
      have HTK := Lib.hid ht
      have HEQ := Lib.hid heq
      have HT0 : Hid (Tw gR gG W wo) := HT1.out.trans ht
      clear hg ht heq
      by_cases hlt : k < ww.asks.length
      · have hdk : decide ((k : Int) < (ww.asks.length : Int)) = true := by simp; omega
        obtain ⟨bb, off, rfl, x0, x1, x2⟩ := (HA.out _ HT0.out).ask hlt
        have c0 : (0 : Int) ≤ (k : Int) := by omega
        have c1 : (k : Int) < (ww.asks.length : Int) := by omega
        have lb := World.block_lt_of_cell? _ _ x0
        obtain ⟨y2, ly⟩ := HLC.out _ HTK.out
        have HDR : Hid (ww.asks.drop k = ww.asks[k] :: ww.asks.drop (k + 1)) := List.drop_eq_getElem_cons hlt
        have hfk := HFI.out ww.asks[k] (List.getElem_mem hlt)
        go_upto_region 5 with fail
        generalize hWJ : wo.alloc _ = WJ
        have hbJ : Below wo.heap.size wo WJ := by rw [← hWJ]; exact (Below.refl _ _).alloc (Nat.le_refl _) _
        have HTJ : Hid (Tw gR gG W1 WJ) := HTK.out.trans (Tw.of_below hbJ)
        have HTJ0 : Hid (Tw gR gG W WJ) := HT0.out.trans (Tw.of_below hbJ)
        have HGJ := Lib.hid (HGK.out.below hbJ)
        have j0 : WJ.cell? ⟨wo.heap.size, 0, none⟩ = some (.int .i64 ww.asks[k].pt) := by rw [← hWJ]; simp
        have j1 : WJ.cell? ⟨wo.heap.size, 1, none⟩ = some (.int .i64 ww.asks[k].lie) := by rw [← hWJ]; simp
        have j2 : WJ.cell? ⟨wo.heap.size, 2, none⟩ = some (.int .i64 ww.asks[k].pl) := by rw [← hWJ]; simp
        have y2 : WJ.cell? ⟨W.heap.size + 1, 2, none⟩ = some (.int .i64 l.gone) := (HLC.out _ HTJ.out).1
        have HCL := Lib.hid (askone_any gR gM gG b m f gk v ww.asks[k] WJ HGJ.out (HLK.out _ HTJ0.out) (HMM.out _ HTJ0.out) hfk.1 hfk.2 n1 n2 n3)
        clear hWJ hbJ x0 x1 x2 lb ly hfk
        by_cases hp : ww.asks[k].pl < 0 ∨ l.gone ≤ ww.asks[k].pl
        · have HF : Hid (askAll f L g = if (askOne f gk ww.asks[k]).ok then askAll f ((ww.asks.drop (k + 1)).filter fun a => decide (a.pl < 0 ∨ l.gone ≤ a.pl)) (askOne f gk ww.asks[k]) else askOne f gk ww.asks[k]) := by
            show _ = _
            rw [HEQ.out, HDR.out, List.filter_cons_of_pos (by simpa using hp)]
            rfl
          generalize hG2 : askOne f gk ww.asks[k] = G2 at *
          clear hG2
          have tail : True := trivial
          by_cases hp1 : ww.asks[k].pl < 0
          · have t1 : decide (ww.asks[k].pl < 0) = true := by simpa using hp1
            clear hp hp1
            cases hok : G2.ok with
            | true =>
              unfold GrPost at HCL
              rw [hok] at HCL
              rw [hok] at HF
              clear hok
              go_wp2_with fail
              refine HCL.out.mono ?_
              rintro e w2 ⟨rfl, hg2, ht2⟩
              have HG2 := Lib.hid hg2
              have HT2 : Hid (Tw gR gG W1 w2) := HTJ.out.trans ht2
              clear hg2 ht2 HCL j0 j1 j2 y2
              go_wp2_with fail
              go_roundg (ww.asks.length - (k + 1))
              case measure => go_light; omega
              case rel => go_light; exact ⟨k + 1, G2, by omega, by omega, by go_num, HG2.out, HT2.out, by simpa using HF.out⟩
            | false =>
              unfold GrPost at HCL
              rw [hok] at HCL
              rw [hok] at HF
              clear hok
              go_wp2_with fail
              refine HCL.out.mono ?_
              rintro e w2 ⟨rfl, hg2, ht2⟩
              have HG2 := Lib.hid hg2
              have HT2 : Hid (Tw gR gG W w2) := HTJ0.out.trans ht2
              clear hg2 ht2 HCL j0 j1 j2 y2
              go_wp2_with fail
              refine bodyPost_ret (v := .tuple #[]) (by simp [results, Tryz.f293, go_sem]) rfl ⟨rfl, ?_, HT2.out⟩
              have hF := HF.out
              simp at hF
              rw [hF]
              exact HG2.out
          · have t1 : decide (ww.asks[k].pl < 0) = false := by simpa using hp1
            have t2 : decide (l.gone ≤ ww.asks[k].pl) = true := by simp; omega
            clear hp hp1
            cases hok : G2.ok with
            | true =>
              unfold GrPost at HCL
              rw [hok] at HCL
              rw [hok] at HF
              clear hok
              go_wp2_with fail
              refine HCL.out.mono ?_
              rintro e w2 ⟨rfl, hg2, ht2⟩
              have HG2 := Lib.hid hg2
              have HT2 : Hid (Tw gR gG W1 w2) := HTJ.out.trans ht2
              clear hg2 ht2 HCL j0 j1 j2 y2
              go_wp2_with fail
              go_roundg (ww.asks.length - (k + 1))
              case measure => go_light; omega
              case rel => go_light; exact ⟨k + 1, G2, by omega, by omega, by go_num, HG2.out, HT2.out, by simpa using HF.out⟩
            | false =>
              unfold GrPost at HCL
              rw [hok] at HCL
              rw [hok] at HF
              clear hok
              go_wp2_with fail
              refine HCL.out.mono ?_
              rintro e w2 ⟨rfl, hg2, ht2⟩
              have HG2 := Lib.hid hg2
              have HT2 : Hid (Tw gR gG W w2) := HTJ0.out.trans ht2
              clear hg2 ht2 HCL j0 j1 j2 y2
              go_wp2_with fail
              refine bodyPost_ret (v := .tuple #[]) (by simp [results, Tryz.f293, go_sem]) rfl ⟨rfl, ?_, HT2.out⟩
              have hF := HF.out
              simp at hF
              rw [hF]
              exact HG2.out
        · have t1 : decide (ww.asks[k].pl < 0) = false := by simp; omega
          have t2 : decide (l.gone ≤ ww.asks[k].pl) = false := by simp; omega
          have HF : Hid (askAll f L g = askAll f ((ww.asks.drop (k + 1)).filter fun a => decide (a.pl < 0 ∨ l.gone ≤ a.pl)) gk) := by
            show _ = _
            rw [HEQ.out, HDR.out, List.filter_cons_of_neg (by simpa using hp)]
          clear hp HCL
          go_wp2_with fail
          go_roundg (ww.asks.length - (k + 1))
          case measure => go_light; omega
          case rel => go_light; exact ⟨k + 1, gk, by omega, by omega, by go_num, HGJ.out, HTJ.out, HF.out⟩
      · obtain rfl : k = ww.asks.length := by omega
        have hdk : decide ((ww.asks.length : Int) < (ww.asks.length : Int)) = false := by simp
        have HF : Hid (askAll f L g = gk) := by
          show _ = _
          rw [HEQ.out, List.drop_length]
          rfl
        go_wp2_with fail
        refine bodyPost_ret (v := .tuple #[]) (by simp [results, Tryz.f293, go_sem]) rfl ⟨rfl, ?_, HT0.out⟩
        rw [HF.out]
        exact HGK.out
end Go.Proofs.YtbiehpjhhopjaaaGreat
