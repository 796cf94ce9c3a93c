/- push and pop of the heap of package dag (machine side): a heap that lies in memory holds behind the call the list that the plain functions tell; nothing else is turned. -/
import Derived.Test.YtbahnialbffkeaaPx0
import Derived.Test.YtbahnialbffkeaaHeapL
import Derived.BigRegion
import Derived.BigQuiet
import Derived.Deep.QuietTactic
import Derived.Deep.LoopGhost
import Derived.Lib.Hide
import Derived.Outline
namespace Go.Proofs.Ytbahnialbffkeaa.P
open Go.RowKit Go.Proofs.YtbahnialbffkeaaW.PrintWords Go.Proofs.YtbahnialbffkeaaW.PrintLast Go.Proofs.YtbahnialbffkeaaW.PrintMore
set_option linter.unusedVariables false
set_option linter.unusedSimpArgs false
abbrev LESS : Value := .func (.func 45) #[] #[]

theorem rising_calls (a b : Int) (w : World) : Calls Try.prog 45 #[.int .i64 a, .int .i64 b] w fun e w' => e = .returned (.bool (decide (a < b))) ∧ w' = w := by
  go_enter Try.func45, Try.ntmps45
  go_wp2
  go_ret
  exact ⟨rfl, rfl⟩

def PushPost (g : Nat) (l : List Int) (P : Nat → Prop) (w0 w : World) (e : Ending) (w' : World) : Prop := ∃ v', e = .returned (.tuple #[]) ∧ w'.heap[g]? = some (.cells #[v', LESS] 63 (0, 0)) ∧
  Kd.R (Kd.int .i64) 3 w' w0.heap.size (fun k => P k ∨ w.heap.size ≤ k) v' l ∧ Below w0.heap.size w0 w' ∧ Kept w w' (fun k => P k ∨ k = g)

set_option maxHeartbeats 4000000 in
set_option maxRecDepth 100000 in
theorem push_calls (g : Nat) (v : Value) (l : List Int) (x : Int) (P : Nat → Prop) (w0 w : World) (hB : Below w0.heap.size w0 w) (hg : w0.heap.size ≤ g) (hblk : w.heap[g]? = some (.cells #[v, LESS] 63 (0, 0)))
    (hR : Kd.R (Kd.int .i64) 3 w w0.heap.size P v l) (hlen : l.length + 1 ≤ 1048576) :
    Calls Try.prog 46 #[.pointer (some ⟨g, 0, none⟩), .int .i64 x] w (PushPost g (pushL l x) P w0 w) := by
  have hc0 : w.cell? ⟨g, 0, none⟩ = some v := (blk_cell hblk 0).trans rfl
  have hc1 : w.cell? ⟨g, 1, none⟩ = some LESS := (blk_cell hblk 1).trans rfl
  have hf0 := blk_frozen hblk 0
  have HR := Aside0.mk (Kd.R_mono (ok' := fun k => P k ∨ w.heap.size ≤ k) hR (fun k hk => .inl hk))
  have HBK := Aside0.mk hblk
  have HB := Aside0.mk hB
  have HG := Aside0.mk hg
  have HL := Aside0.mk hlen
  clear hR hblk hB hg hlen
  go_enter Try.func46, Try.ntmps46
  go_wp2_with (first | ((with_reducible refine gate_builtin (b := .append) (xs := #[.tmp 10, .tmp 12]) rfl ?_); at_builtin; refine Kd.R_append (Kd.int .i64) (w0 := w0) w0.heap.size rfl (.tmp 10) (.tmp 12) 33 3 (.int .i64 0) 8 rfl Try.underlying33 info3 rfl (by decide) (by omega) v l x [.int .i64 x] (fun k => P k ∨ w.heap.size ≤ k) (fun _ => False) rfl rfl ?aP (fun _ hk => hk.elim) ?aF ?aO ?aB ?aS ?aL ?_; (case aP => rfl); (case aB => exact HB.out); (case aF => exact fun k hk => .inr hk); (case aO => exact HR.out); (case aS => exact HB.out.size); (case aL => have := HL.out; omega); intro v1 w1 ho hb hg hat; have HR1 := Aside0.mk ho; have HB1 := Aside0.mk hb; have HBK1 := Aside0.mk (blk_grown HBK.out hg (Kd.R_ne HR.out HBK.out (by decide))); have HK1 := Aside0.mk (Kept.of_grown hg (Kept.refl w (fun k => P k ∨ k = g)) (fun k hk => by rcases HR.out.1 k hk with h | h; exact .inl (.inl h); exact .inr h)); clear ho hb hg hat hc0 hc1 hf0; obtain ⟨A1, co1, eo1⟩ := Kd.R_slice HR1.out; rw [List.length_append, List.length_singleton] at eo1; subst eo1; have hc0 : w1.cell? ⟨g, 0, none⟩ = some v := (blk_cell HBK1.out 0).trans rfl; have hf0 := blk_frozen HBK1.out 0) | ((with_reducible refine gate_store (t := 33) (p := 15) rfl ?_); refine store_event (t := 33) (p := 15) (v := ?vo) (w1 := (w1.setCell ⟨g, 0, none⟩ (.slice A1 (l.length + 1) co1))) ?hg ?ho ?hn ?hr ?_; (case ho => rfl); (case hg => rfl); (case hn => rfl); (case hr => first | (go_simp; done) | (go_simp; rfl)); intro w2 hw; have HBK2 := Aside0.mk (show w2.heap[g]? = some (.cells #[.slice A1 (l.length + 1) co1, LESS] 63 (0, 0)) from by rw [hw]; exact blk_put HBK1.out 0 _ rfl); have HR2 := Aside0.mk (show Kd.R (Kd.int .i64) 3 w2 w0.heap.size (fun k => P k ∨ w.heap.size ≤ k) (.slice A1 (l.length + 1) co1) (l ++ [x]) from by rw [hw]; exact Kd.R_set HR1.out HBK1.out (by decide) 0 _); have HB2 := Aside0.mk (show Below w0.heap.size w0 w2 from by rw [hw]; exact below_set HB1.out HG.out); have HK2 := Aside0.mk (show Kept w w2 (fun k => P k ∨ k = g) from by rw [hw]; exact Kept.setCell HK1.out (.inl (.inr rfl)) _); clear hc0 hf0 hw HBK1 HR1 HB1 HK1; have hc0 : w2.cell? ⟨g, 0, none⟩ = some (.slice A1 (l.length + 1) co1) := (blk_cell HBK2.out 0).trans rfl))
  have hwl : wrap64 ((l.length : Nat) : Int) = (l.length : Int) := by have := HL.out; unfold wrap64; omega
  rw [hwl]
  clear hwl hc0
  obtain ⟨hx2n, hx2c, -⟩ := Kd.R_reads' HR2.out
  obtain ⟨gi, ci, ei, -, -, -⟩ := Kd.R_form HR2.out (by simp)
  obtain ⟨rfl, rfl⟩ : A1 = some ⟨gi, 0, none⟩ ∧ co1 = ci := by
    injection ei with e1 e2 e3
    exact ⟨e1, e3⟩
  clear ei hx2n hx2c
  go_loopg [4] (l.length + 1) (fun kq v4 w' => ∃ (i : Nat) (y : List Int), v4 = .int .i64 (i : Int) ∧ Aside0 (i ≤ kq ∧ i < l.length + 1 ∧ y.length = l.length + 1) ∧ Aside0 (siftUp y i = pushL l x) ∧ Aside0 (w'.heap[g]? = some (.cells #[.slice (some ⟨gi, 0, none⟩) (l.length + 1) co1, LESS] 63 (0, 0))) ∧ Aside0 (Kd.R (Kd.int .i64) 3 w' w0.heap.size (fun k => P k ∨ w.heap.size ≤ k) (.slice (some ⟨gi, 0, none⟩) (l.length + 1) co1) y) ∧ Aside0 (Kept w w' (fun k => P k ∨ k = g)) ∧ Aside0 (Below w0.heap.size w0 w'))
  case atStart => exact ⟨l.length, l ++ [x], rfl, ⟨by omega, by omega, by simp⟩, ⟨rfl⟩, HBK2, HR2, HK2, HB2⟩
  case round =>
    clear HBK2 HR2 HK2 HB2 HR HB HBK
    obtain ⟨i, y, rfl, HI, HS, HBK, HR, HK, HB⟩ := hrel
    by_cases hi : 0 < i
    · obtain ⟨up, hup⟩ : ∃ up, up = (i - 1) / 2 := ⟨_, rfl⟩
      have hc0 : wr.cell? ⟨g, 0, none⟩ = some (.slice (some ⟨gi, 0, none⟩) (l.length + 1) co1) := (blk_cell HBK.out 0).trans rfl
      have hc1 : wr.cell? ⟨g, 1, none⟩ = some LESS := (blk_cell HBK.out 1).trans rfl
      obtain ⟨ca, fa⟩ := Kd.R_celln 0 HR.out (i : Int) (by omega) (by have := HI.out; omega)
      obtain ⟨cb, fb⟩ := Kd.R_celln 0 HR.out (up : Int) (by omega) (by have := HI.out; omega)
      obtain ⟨a, ha⟩ : ∃ a, y.getD i 0 = a := ⟨_, rfl⟩
      obtain ⟨b, hb⟩ : ∃ b, y.getD up 0 = b := ⟨_, rfl⟩
      have ca' : wr.cell? ⟨gi, i, none⟩ = some (.int .i64 a) := by rw [← ha]; exact ca
      have cb' : wr.cell? ⟨gi, up, none⟩ = some (.int .i64 b) := by rw [← hb]; exact cb
      have fa' : wr.frozen? ⟨gi, i, none⟩ = false := fa
      have fb' : wr.frozen? ⟨gi, up, none⟩ = false := fb
      clear ca cb fa fb
      have HUP := Aside0.mk hup
      have HA := Aside0.mk ha
      have HBb := Aside0.mk hb
      clear hup ha hb
      have t1 : (0 : Int) < (i : Int) := by omega
      have d3 : wrap64 ((wrap64 ((i : Int) - 1)).tdiv 2) = (up : Int) := by
        have h1 := HUP.out
        have h2 := HI.out
        have h3 := HL.out
        have h4 : wrap64 ((i : Int) - 1) = (i : Int) - 1 := by unfold wrap64; omega
        rw [h4, Int.tdiv_eq_ediv_of_nonneg (by omega)]
        unfold wrap64
        omega
      have D3 := Aside0.mk d3
      clear d3
      have hi1 : (i : Int) < (l.length : Int) + 1 := by have := HI.out; omega
      have hu1 : (up : Int) < (l.length : Int) + 1 := by have := HI.out; have := HUP.out; omega
      by_cases hlt : a < b
      · go_wp2_with fail
        rw [D3.out]
        go_quiet ((go_at_call 45; exact Calls.quiet_of_same (rising_calls _ _ _)))
        go_wp2_with fail
        generalize hwq : wr.drewN _ = wq
        have hc0' : wq.cell? ⟨g, 0, none⟩ = some (.slice (some ⟨gi, 0, none⟩) (l.length + 1) co1) := by rw [← hwq]; exact hc0
        have ca'' : wq.cell? ⟨gi, i, none⟩ = some (.int .i64 a) := by rw [← hwq]; exact ca'
        have cb'' : wq.cell? ⟨gi, up, none⟩ = some (.int .i64 b) := by rw [← hwq]; exact cb'
        have fa'' : wq.frozen? ⟨gi, i, none⟩ = false := by rw [← hwq]; exact fa'
        have fb'' : wq.frozen? ⟨gi, up, none⟩ = false := by rw [← hwq]; exact fb'
        have HBK' := Aside0.mk (show wq.heap[g]? = some (.cells #[.slice (some ⟨gi, 0, none⟩) (l.length + 1) co1, LESS] 63 (0, 0)) from by rw [← hwq]; exact blk_drewN HBK.out _)
        have HR' := Aside0.mk (show Kd.R (Kd.int .i64) 3 wq w0.heap.size (fun k => P k ∨ w.heap.size ≤ k) (.slice (some ⟨gi, 0, none⟩) (l.length + 1) co1) y from by rw [← hwq]; exact Kd.R_drewN HR.out _)
        have HK' := Aside0.mk (show Kept w wq (fun k => P k ∨ k = g) from by rw [← hwq]; exact Kept.drewN HK.out _)
        have HB' := Aside0.mk (show Below w0.heap.size w0 wq from by rw [← hwq]; exact pw_below_drewN HB.out _)
        have hiu : ¬ (i = up) := by have := HUP.out; omega
        have hui : ¬ (up = i) := fun e => hiu e.symm
        clear hc0 ca' cb' fa' fb' HBK HR HK HB hc1 hwq
        go_region
        go_wp2
        go_roundg up
        case measure => have := HUP.out; have := HI.out; omega
        case rel =>
          have hgg : g ≠ gi := fun e => by have h1 := Kd.R_ne HR'.out HBK'.out (by decide); exact h1 (by rw [e]; rfl)
          have hgB : w0.heap.size ≤ gi := Kd.R_base HR'.out _ rfl
          have hSg : (P gi ∨ gi = g) ∨ w.heap.size ≤ gi := by rcases HR'.out.1 gi rfl with h | h; exact .inl (.inl h); exact .inr h
          have hsw : siftUp y i = siftUp (swp y i up) up := by rw [HUP.out]; exact siftUp_go y i hi (by rw [← HUP.out, HA.out, HBb.out]; exact hlt)
          have hR1 := Kd.R_putn (Kd.R_putn HR'.out (i : Int) b) (up : Int) a
          refine ⟨up, swp y i up, by rfl, ⟨by omega, by have := HUP.out; have := HI.out; omega, by rw [swp_length]; exact HI.out.2.2⟩, ⟨by rw [← hsw]; exact HS.out⟩, ⟨?_⟩, ⟨?_⟩, ⟨?_⟩, ⟨?_⟩⟩
          · exact blk_far (blk_far HBK'.out hgg _) hgg _
          · have e : swp y i up = (y.set (i : Int).toNat b).set (up : Int).toNat a := by simp only [swp, HA.out, HBb.out, Int.toNat_natCast]
            rw [e]
            exact hR1
          · exact Kept.setCell (Kept.setCell HK'.out hSg _) hSg _
          · exact below_drew1 (below_set (below_set HB'.out hgB) hgB)
      · go_wp2_with fail
        rw [D3.out]
        go_quiet ((go_at_call 45; exact Calls.quiet_of_same (rising_calls _ _ _)))
        go_wp2
        first | go_end0 | ((try simp only [Exit.inBlock, Exit.then]); refine bodyPost_ret (results_none rfl _ _ _) rfl ?_)
        refine ⟨_, rfl, blk_drewN HBK.out _, ?_, pw_below_drewN HB.out _, Kept.drewN HK.out _⟩
        rw [← HS.out, siftUp_stop y i hi (by rw [← HUP.out, HA.out, HBb.out]; omega)]
        exact Kd.R_drewN HR.out _
        exfalso
        rename_i h _ _
        simp only [Bool.not_eq_false', decide_eq_true_eq] at h
        omega
    · have t0 : ¬ ((0 : Int) < (i : Int)) := by omega
      go_wp2
      go_end0
      refine ⟨_, rfl, HBK.out, ?_, HB.out, HK.out⟩
      obtain rfl : i = 0 := by omega
      rw [← HS.out, siftUp_zero]
      exact HR.out
end Go.Proofs.Ytbahnialbffkeaa.P
