/- pop of the heap of package dag (machine side): a heap that lies in memory holds behind the call the list that the plain functions tell; nothing else is turned. -/
import Derived.Test.YtbahnialbffkeaaPx0
import Derived.Test.YtbahnialbffkeaaHeap
import Derived.BigRegion
import Derived.BigQuiet
import Derived.Deep.QuietTactic
import Derived.Deep.LoopGhost
import Derived.Lib.Hide
import Derived.Outline
namespace Go.Proofs.Ytbahnialbffkeaa.P
open Go.RowKit Go.Proofs.YtbahnialbffkeaaW.PrintWords Go.Proofs.YtbahnialbffkeaaW.PrintLast Go.Proofs.YtbahnialbffkeaaW.PrintMore
set_option linter.unusedVariables false
set_option linter.unusedSimpArgs false

def PopPost (g : Nat) (x : Int) (l : List Int) (P : Nat → Prop) (w0 w : World) (e : Ending) (w' : World) : Prop := ∃ v', e = .returned (.int .i64 x) ∧ w'.heap[g]? = some (.cells #[v', LESS] 63 (0, 0)) ∧
  Kd.R (Kd.int .i64) 3 w' w0.heap.size P v' l ∧ Below w0.heap.size w0 w' ∧ Kept w w' (fun k => P k ∨ k = g)

def leastAt (n : Nat) (l : List Int) (i : Nat) : Nat → Nat
  | 0 => i
  | j + 1 => if 2 * i + 1 + j < n ∧ l.getD (2 * i + 1 + j) 0 < l.getD (leastAt n l i j) 0 then 2 * i + 1 + j else leastAt n l i j
theorem leastAt_step (n : Nat) (l : List Int) (i j : Nat) : leastAt n l i (j + 1) = if 2 * i + 1 + j < n ∧ l.getD (2 * i + 1 + j) 0 < l.getD (leastAt n l i j) 0 then 2 * i + 1 + j else leastAt n l i j := rfl
theorem leastAt_two (n : Nat) (l : List Int) (i : Nat) : leastAt n l i 2 = leastOf n l i := rfl
theorem leastAt_off (n : Nat) (l : List Int) (i j : Nat) (hj : j < 2) (h : n ≤ 2 * i + 1 + j) : leastAt n l i j = leastOf n l i := by
  rw [← leastAt_two]
  have e1 : n ≤ 2 * i + 1 + 1 → leastAt n l i 2 = leastAt n l i 1 := fun h => by rw [leastAt_step n l i 1, if_neg (fun h2 => by omega)]
  have e0 : n ≤ 2 * i + 1 + 0 → leastAt n l i 1 = leastAt n l i 0 := fun h => by rw [leastAt_step n l i 0, if_neg (fun h2 => by omega)]
  obtain rfl | rfl : j = 0 ∨ j = 1 := by omega
  · rw [e1 (by omega), e0 h]
  · rw [e1 h]
theorem leastAt_lt (n : Nat) (l : List Int) (i j : Nat) : leastAt n l i j = i ∨ leastAt n l i j < n := by
  induction j with
  | zero => exact .inl rfl
  | succ j ih =>
    rw [leastAt_step]
    split
    · next h => exact .inr h.1
    · exact ih

theorem pop_exit (n i j c : Nat) (h1 : j ≤ 2) (h2 : c = 2 * i + 1 + j) (hin : ¬ (j < 2 ∧ c < n)) : ((c : Int) ≤ ((2 * i + 2 : Nat) : Int) ∧ (n : Int) ≤ (c : Int)) ∨ ((2 * i + 2 : Nat) : Int) < (c : Int) := by
  by_cases hj : j = 2
  · exact .inr (by omega)
  · exact .inl ⟨by omega, by have : ¬ c < n := fun h => hin ⟨by omega, h⟩; omega⟩
theorem pop_least (n : Nat) (y : List Int) (i j c lt : Nat) (h1 : j ≤ 2) (h3 : lt = leastAt n y i j) (h2 : c = 2 * i + 1 + j) (hin : ¬ (j < 2 ∧ c < n)) : lt = leastOf n y i := by
  by_cases hj : j = 2
  · rw [h3, hj, leastAt_two]
  · have : ¬ c < n := fun h => hin ⟨by omega, h⟩
    rw [h3]
    exact leastAt_off n y i j (by omega) (by omega)

set_option maxHeartbeats 4000000 in
set_option maxRecDepth 100000 in
theorem pop_calls (g : Nat) (v : Value) (l : List Int) (P : Nat → Prop) (w0 w : World) (hB : Below w0.heap.size w0 w) (hg : w0.heap.size ≤ g) (hblk : w.heap[g]? = some (.cells #[v, LESS] 63 (0, 0)))
    (hR : Kd.R (Kd.int .i64) 3 w w0.heap.size P v l) (hlen : l.length ≤ 1048576) (hpos : 0 < l.length) :
    Calls Try.prog 47 #[.pointer (some ⟨g, 0, none⟩)] w (PopPost g (l.getD 0 0) (popL l) P w0 w) := by
  obtain ⟨n, hn⟩ : ∃ n, l.length = n + 1 := ⟨l.length - 1, by omega⟩
  have hwl : wrap64 (n : Int) = (n : Int) := by clear hblk hB hR; unfold wrap64; omega
  have t1 : (0 : Int) < (n : Int) + 1 := by clear hblk hB hR; omega
  obtain ⟨gi, co, rfl, hgi, -, -⟩ := Kd.R_form hR hpos
  rw [hn] at hR hblk
  have hco : n + 1 ≤ co := (Kd.R_reads' hR).2.1
  have t2 : n ≤ co := by clear hblk hB hR hgi; omega
  have hc0 : w.cell? ⟨g, 0, none⟩ = some (.slice (some ⟨gi, 0, none⟩) (n + 1) co) := (blk_cell hblk 0).trans rfl
  have hf0 := blk_frozen hblk 0
  obtain ⟨ca, fa⟩ := Kd.R_celln 0 hR (0 : Int) (by omega) (by omega)
  obtain ⟨cb, fb⟩ := Kd.R_celln 0 hR (n : Int) (by omega) (by omega)
  obtain ⟨a, ha⟩ : ∃ a, l.getD 0 0 = a := ⟨_, rfl⟩
  obtain ⟨b, hb⟩ : ∃ b, l.getD n 0 = b := ⟨_, rfl⟩
  have ca' : w.cell? ⟨gi, 0, none⟩ = some (.int .i64 a) := by rw [← ha]; exact ca
  have cb' : w.cell? ⟨gi, n, none⟩ = some (.int .i64 b) := by rw [← hb]; exact cb
  have fa' : w.frozen? ⟨gi, 0, none⟩ = false := fa
  clear ca cb fa fb
  rw [ha]
  have HA := Aside0.mk ha
  have HBb := Aside0.mk hb
  have HR := Aside0.mk hR
  have HBK := Aside0.mk hblk
  have HB := Aside0.mk hB
  have HG := Aside0.mk hg
  have HN := Aside0.mk hn
  have HL := Aside0.mk hlen
  have HGI := Aside0.mk hgi
  clear hR hblk hB hg hn hlen hgi hco hpos ha hb
  go_enter Try.func47, Try.ntmps47
  have hgg : ¬ (g = gi) := fun e => by have h1 := Kd.R_ne HR.out HBK.out (by decide); exact h1 (by rw [e]; rfl)
  have hgg' : ¬ (gi = g) := fun e => hgg e.symm
  go_wp2_with fail
  rw [hwl]
  go_region
  generalize hw2 : World.drew _ = w2
  have HBK2 := Aside0.mk (show w2.heap[g]? = some (.cells #[.slice (some ⟨gi, 0, none⟩) (n + 1) co, LESS] 63 (0, 0)) from by rw [← hw2]; exact blk_far HBK.out hgg _)
  have HR2 := Aside0.mk (show Kd.R (Kd.int .i64) 3 w2 w0.heap.size P (.slice (some ⟨gi, 0, none⟩) (n + 1) co) (l.set 0 b) from by rw [← hw2]; exact Kd.R_putn HR.out (0 : Int) b)
  have HB2 := Aside0.mk (show Below w0.heap.size w0 w2 from by rw [← hw2]; exact below_drew1 (below_set HB.out HGI.out))
  have HK2 := Aside0.mk (show Kept w w2 (fun k => P k ∨ k = g) from by rw [← hw2]; exact Kept.setCell (Kept.refl w _) (.inl (.inl (HR.out.1 gi rfl))) _)
  have hc0' : w2.cell? ⟨g, 0, none⟩ = some (.slice (some ⟨gi, 0, none⟩) (n + 1) co) := (blk_cell HBK2.out 0).trans rfl
  have hf0' := blk_frozen HBK2.out 0
  clear hw2 hc0 hf0 ca' cb' fa'
  go_wp2_with fail
  generalize hw3 : World.setCell _ _ _ = w3
  have HBK3 := Aside0.mk (show w3.heap[g]? = some (.cells #[.slice (some ⟨gi, 0, none⟩) n co, LESS] 63 (0, 0)) from by rw [← hw3]; exact blk_put HBK2.out 0 _ rfl)
  have HR3 := Aside0.mk (show Kd.R (Kd.int .i64) 3 w3 w0.heap.size P (.slice (some ⟨gi, 0, none⟩) n co) ((l.set 0 b).take n) from by rw [← hw3]; exact Kd.R_take (Kd.R_set HR2.out HBK2.out (by decide) 0 _) (by rw [List.length_set, HN.out]; omega))
  have HB3 := Aside0.mk (show Below w0.heap.size w0 w3 from by rw [← hw3]; exact below_set HB2.out HG.out)
  have HK3 := Aside0.mk (show Kept w w3 (fun k => P k ∨ k = g) from by rw [← hw3]; exact Kept.setCell HK2.out (.inl (.inr rfl)) _)
  clear hw3 hc0' hf0' HBK2 HR2 HB2 HK2
  have HP := Aside0.mk (show siftDn n ((l.set 0 b).take n) 0 = popL l from by rw [popL, HN.out, Nat.add_sub_cancel, HBb.out])
  have HYL := Aside0.mk (show ((l.set 0 b).take n).length = n from by rw [List.length_take, List.length_set, HN.out]; omega)
  go_loopg [5] (n + 1) (fun kq v5 w' => ∃ (i : Nat) (y : List Int), v5 = .int .i64 (i : Int) ∧ Aside0 (n - i < kq ∧ (i < n ∨ i = 0) ∧ y.length = n) ∧ Aside0 (siftDn n y i = popL l) ∧ Aside0 (w'.heap[g]? = some (.cells #[.slice (some ⟨gi, 0, none⟩) n co, LESS] 63 (0, 0))) ∧ Aside0 (Kd.R (Kd.int .i64) 3 w' w0.heap.size P (.slice (some ⟨gi, 0, none⟩) n co) y) ∧ Aside0 (Kept w w' (fun k => P k ∨ k = g)) ∧ Aside0 (Below w0.heap.size w0 w'))
  case atStart => exact ⟨0, (l.set 0 b).take n, rfl, ⟨by omega, .inr rfl, HYL.out⟩, HP, HBK3, HR3, HK3, HB3⟩
  case round =>
    clear HBK3 HR3 HK3 HB3 HR HB HBK HP HYL
    obtain ⟨i, y, rfl, HI, HS, HBK, HR, HK, HB⟩ := hrel
    have hc0 : wr.cell? ⟨g, 0, none⟩ = some (.slice (some ⟨gi, 0, none⟩) n co) := (blk_cell HBK.out 0).trans rfl
    have hc1 : wr.cell? ⟨g, 1, none⟩ = some LESS := (blk_cell HBK.out 1).trans rfl
    have D2 := Aside0.mk (show wrap64 (wrap64 (2 * (i : Int)) + 1) = ((2 * i + 1 : Nat) : Int) from by have := HI.out; have := HL.out; have := HN.out; unfold wrap64; omega)
    have D4 := Aside0.mk (show wrap64 (wrap64 (2 * (i : Int)) + 2) = ((2 * i + 2 : Nat) : Int) from by have := HI.out; have := HL.out; have := HN.out; unfold wrap64; omega)
    go_wp2_with fail
    rw [D2.out]
    clear hc0 hc1
    go_loopg [6, 7] 3 (fun kq v6 v7 w' => ∃ (lt j c : Nat), v6 = .int .i64 (lt : Int) ∧ v7 = .int .i64 (c : Int) ∧ Aside0 (2 - j < kq ∧ j ≤ 2 ∧ lt = leastAt n y i j ∧ c = 2 * i + 1 + j) ∧ Aside0 (w'.heap[g]? = some (.cells #[.slice (some ⟨gi, 0, none⟩) n co, LESS] 63 (0, 0))) ∧ Aside0 (Kd.R (Kd.int .i64) 3 w' w0.heap.size P (.slice (some ⟨gi, 0, none⟩) n co) y) ∧ Aside0 (Kept w w' (fun k => P k ∨ k = g)) ∧ Aside0 (Below w0.heap.size w0 w'))
    case atStart => exact ⟨i, 0, 2 * i + 1, rfl, rfl, ⟨by omega, by omega, rfl, rfl⟩, HBK, HR, HK, HB⟩
    case round =>
      clear HBK HR HK HB
      obtain ⟨lt, j, c, rfl, rfl, HJ, HBK, HR, HK, HB⟩ := hrel
      have hc0 : wr.cell? ⟨g, 0, none⟩ = some (.slice (some ⟨gi, 0, none⟩) n co) := (blk_cell HBK.out 0).trans rfl
      have hc1 : wr.cell? ⟨g, 1, none⟩ = some LESS := (blk_cell HBK.out 1).trans rfl
      by_cases hin : j < 2 ∧ c < n
      · have t3 : (c : Int) ≤ wrap64 (wrap64 (2 * (i : Int)) + 2) := by rw [D4.out]; have := HJ.out; omega
        have t4 : (c : Int) < (n : Int) := by omega
        have hl : lt < n := by have := HJ.out; have := leastAt_lt n y i j; omega
        have t5 : (lt : Int) < (n : Int) := by omega
        obtain ⟨ca, -⟩ := Kd.R_celln 0 HR.out (c : Int) (by omega) (by omega)
        obtain ⟨cb, -⟩ := Kd.R_celln 0 HR.out (lt : Int) (by omega) (by omega)
        obtain ⟨aa, haa⟩ : ∃ aa, y.getD c 0 = aa := ⟨_, rfl⟩
        obtain ⟨bb, hbb⟩ : ∃ bb, y.getD lt 0 = bb := ⟨_, rfl⟩
        have ca' : wr.cell? ⟨gi, c, none⟩ = some (.int .i64 aa) := by rw [← haa]; exact ca
        have cb' : wr.cell? ⟨gi, lt, none⟩ = some (.int .i64 bb) := by rw [← hbb]; exact cb
        have HAA := Aside0.mk haa
        have HBB := Aside0.mk hbb
        have HIN := Aside0.mk hin
        clear ca cb haa hbb hl hin
        go_wp2_with fail
        go_quiet ((go_at_call 45; exact Calls.quiet_of_same (rising_calls _ _ _)))
        by_cases hlt : aa < bb
        · go_wp2
          go_roundg (2 - (j + 1) + 1)
          case measure => have := HJ.out; have := HIN.out; omega
          case rel =>
            have hwc : wrap64 ((c : Int) + 1) = ((c + 1 : Nat) : Int) := by have := HIN.out; have := HL.out; have := HN.out; unfold wrap64; omega
            refine ⟨c, j + 1, c + 1, rfl, by rw [hwc], ⟨by omega, by have := HIN.out; omega, ?_, by have := HJ.out; omega⟩, ⟨blk_drewN HBK.out _⟩, ⟨Kd.R_drewN HR.out _⟩, ⟨Kept.drewN HK.out _⟩, ⟨pw_below_drewN HB.out _⟩⟩
            rw [leastAt_step, if_pos (by rw [← HJ.out.2.2.1, ← HJ.out.2.2.2, HAA.out, HBB.out]; exact ⟨HIN.out.2, hlt⟩)]
            exact HJ.out.2.2.2
        · go_wp2
          go_roundg (2 - (j + 1) + 1)
          case measure => have := HJ.out; have := HIN.out; omega
          case rel =>
            have hwc : wrap64 ((c : Int) + 1) = ((c + 1 : Nat) : Int) := by have := HIN.out; have := HL.out; have := HN.out; unfold wrap64; omega
            refine ⟨lt, j + 1, c + 1, rfl, by rw [hwc], ⟨by omega, by have := HIN.out; omega, ?_, by have := HJ.out; omega⟩, ⟨blk_drewN HBK.out _⟩, ⟨Kd.R_drewN HR.out _⟩, ⟨Kept.drewN HK.out _⟩, ⟨pw_below_drewN HB.out _⟩⟩
            rw [leastAt_step, if_neg (by rw [← HJ.out.2.2.1, ← HJ.out.2.2.2, HAA.out, HBB.out]; exact fun h => by have := h.2; omega)]
            exact HJ.out.2.2.1
      · have HLO := Aside0.mk (pop_least n y i j c lt HJ.out.2.1 HJ.out.2.2.1 HJ.out.2.2.2 hin)
        have hcc := pop_exit n i j c HJ.out.2.1 HJ.out.2.2.2 hin
        obtain ⟨tp, htp⟩ : ∃ tp, tp = 2 * i + 2 := ⟨_, rfl⟩
        have D5 := D4.out
        rw [← htp] at D5 hcc
        clear htp
        clear hin
        by_cases hs : lt = i
        · have hsi : (lt : Int) = (i : Int) := by rw [hs]
          obtain ⟨t3, t4⟩ | t3 := hcc
          · have t5 : decide ((c : Int) ≤ (tp : Int)) = true := decide_eq_true t3
            have t6 : decide ((c : Int) < (n : Int)) = false := decide_eq_false (Int.not_lt.mpr t4)
            go_wp2
            go_ret
            refine ⟨_, rfl, HBK.out, ?_, HB.out, HK.out⟩
            rw [← HS.out, siftDn_stop _ _ _ (by rw [← HLO.out]; exact hs)]
            exact HR.out
          · have t5 : decide ((c : Int) ≤ (tp : Int)) = false := decide_eq_false (Int.not_le.mpr t3)
            go_wp2
            go_ret
            refine ⟨_, rfl, HBK.out, ?_, HB.out, HK.out⟩
            rw [← HS.out, siftDn_stop _ _ _ (by rw [← HLO.out]; exact hs)]
            exact HR.out
        · have hsi : ¬ ((lt : Int) = (i : Int)) := by omega
          have hli : lt < n ∧ i < lt := by
            have h1 := leastAt_lt n y i j
            have h2 := leastOf_ge n y i
            have h3 := HLO.out
            have h4 := HJ.out
            omega
          have hiu : ¬ (i = lt) := by omega
          have HLI := Aside0.mk hli
          have t5 : (lt : Int) < (n : Int) := by omega
          have t6 : (i : Int) < (n : Int) := by omega
          obtain ⟨ca, fa⟩ := Kd.R_celln 0 HR.out (i : Int) (by omega) (by omega)
          obtain ⟨cb, fb⟩ := Kd.R_celln 0 HR.out (lt : Int) (by omega) (by omega)
          obtain ⟨aa, haa⟩ : ∃ aa, y.getD i 0 = aa := ⟨_, rfl⟩
          obtain ⟨bb, hbb⟩ : ∃ bb, y.getD lt 0 = bb := ⟨_, rfl⟩
          have ca' : wr.cell? ⟨gi, i, none⟩ = some (.int .i64 aa) := by rw [← haa]; exact ca
          have cb' : wr.cell? ⟨gi, lt, none⟩ = some (.int .i64 bb) := by rw [← hbb]; exact cb
          have fa' : wr.frozen? ⟨gi, i, none⟩ = false := fa
          have fb' : wr.frozen? ⟨gi, lt, none⟩ = false := fb
          have HAA := Aside0.mk haa
          have HBB := Aside0.mk hbb
          clear ca cb fa fb haa hbb hli
          obtain ⟨t3, t4⟩ | t3 := hcc
          · have t7 : decide ((c : Int) ≤ (tp : Int)) = true := decide_eq_true t3
            have t8 : decide ((c : Int) < (n : Int)) = false := decide_eq_false (Int.not_lt.mpr t4)
            go_wp2_with fail
            go_region
            go_wp2
            go_roundg (n - lt + 1)
            case measure => have := HLI.out; have := HI.out; omega
            case rel =>
              have hgB : w0.heap.size ≤ gi := Kd.R_base HR.out _ rfl
              have hSg : (P gi ∨ gi = g) ∨ w.heap.size ≤ gi := .inl (.inl (HR.out.1 gi rfl))
              have hsw : siftDn n y i = siftDn n (swp y i lt) lt := by rw [HLO.out]; exact siftDn_go n y i (by rw [← HLO.out]; exact hs)
              have hR1 := Kd.R_putn (Kd.R_putn HR.out (i : Int) bb) (lt : Int) aa
              refine ⟨lt, swp y i lt, rfl, ⟨by omega, .inl HLI.out.1, by rw [swp_length]; exact HI.out.2.2⟩, ⟨by rw [← hsw]; exact HS.out⟩, ⟨?_⟩, ⟨?_⟩, ⟨?_⟩, ⟨?_⟩⟩
              · exact blk_far (blk_far HBK.out hgg _) hgg _
              · have e : swp y i lt = (y.set (i : Int).toNat bb).set (lt : Int).toNat aa := by simp only [swp, HAA.out, HBB.out, Int.toNat_natCast]
                rw [e]
                exact hR1
              · exact Kept.setCell (Kept.setCell HK.out hSg _) hSg _
              · exact below_drew1 (below_set (below_set HB.out hgB) hgB)
          · have t7 : decide ((c : Int) ≤ (tp : Int)) = false := decide_eq_false (Int.not_le.mpr t3)
            go_wp2_with fail
            go_region
            go_wp2
            go_roundg (n - lt + 1)
            case measure => have := HLI.out; have := HI.out; omega
            case rel =>
              have hgB : w0.heap.size ≤ gi := Kd.R_base HR.out _ rfl
              have hSg : (P gi ∨ gi = g) ∨ w.heap.size ≤ gi := .inl (.inl (HR.out.1 gi rfl))
              have hsw : siftDn n y i = siftDn n (swp y i lt) lt := by rw [HLO.out]; exact siftDn_go n y i (by rw [← HLO.out]; exact hs)
              have hR1 := Kd.R_putn (Kd.R_putn HR.out (i : Int) bb) (lt : Int) aa
              refine ⟨lt, swp y i lt, rfl, ⟨by omega, .inl HLI.out.1, by rw [swp_length]; exact HI.out.2.2⟩, ⟨by rw [← hsw]; exact HS.out⟩, ⟨?_⟩, ⟨?_⟩, ⟨?_⟩, ⟨?_⟩⟩
              · exact blk_far (blk_far HBK.out hgg _) hgg _
              · have e : swp y i lt = (y.set (i : Int).toNat bb).set (lt : Int).toNat aa := by simp only [swp, HAA.out, HBB.out, Int.toNat_natCast]
                rw [e]
                exact hR1
              · exact Kept.setCell (Kept.setCell HK.out hSg _) hSg _
              · exact below_drew1 (below_set (below_set HB.out hgB) hgB)
end Go.Proofs.Ytbahnialbffkeaa.P
