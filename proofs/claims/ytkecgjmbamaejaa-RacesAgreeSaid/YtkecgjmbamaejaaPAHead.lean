/- plunderlaw19.head: walked. -/
import Derived.Test.YtkecgjmbamaejaaPARH
import Derived.Test.YtkecgjmbamaejaaPARB
namespace Go.Proofs.Ytkecgjmbamaejaa.P
open Go.RowKit Go.Maps Go.Proofs.YtkecgjmbamaejaaW.PrintWords Go.Proofs.YtkecgjmbamaejaaW.PrintLast Go.Proofs.YtkecgjmbamaejaaW.PrintMore
set_option linter.unusedVariables false
set_option linter.unusedSimpArgs false
set_option maxHeartbeats 1000000
set_option maxRecDepth 100000
def flatD (l : List S52) : List Value := l.flatMap fun e => [.int .i64 e.f0, .int .i64 e.f1]
theorem flatD_at : ∀ (l : List S52) (j : Nat) (e : S52), l[j]? = some e → (flatD l)[j * 2]? = some (.int .i64 e.f0) ∧ (flatD l)[j * 2 + 1]? = some (.int .i64 e.f1)
  | [], j, e, h => by simp at h
  | x :: l, 0, e, h => by simp at h; subst h; exact ⟨rfl, rfl⟩
  | x :: l, j + 1, e, h => by
    have h2 := flatD_at l j e (by simpa using h)
    have h3 : flatD (x :: l) = .int .i64 x.f0 :: .int .i64 x.f1 :: flatD l := by simp [flatD]
    rw [h3, show (j + 1) * 2 = j * 2 + 1 + 1 by omega]
    exact h2
theorem lit_C (W : World) (l : List S52) (h : l.length ≤ 4096) : Kd.C k52 (W.alloc (.cells (flatD l).toArray 52 (0, 0))) (some ⟨W.heap.size, 0, none⟩) l.length l := by
  have hb := blk_new W (.cells (flatD l).toArray 52 (0, 0))
  refine ⟨rfl, by omega, fun _ => ⟨_, rfl, fun j e hj => ⟨_, rfl, k52_mk _ e, fun i u hu => ?_⟩⟩⟩
  obtain ⟨e1, e2⟩ := flatD_at l j e hj
  have hc : ∀ q, (W.alloc (.cells (flatD l).toArray 52 (0, 0))).cell? ⟨W.heap.size, q, none⟩ = (flatD l)[q]? := fun q => by
    rw [blk_cell hb q]
    simp
  have e3 : (Addr.add ⟨W.heap.size, 0, none⟩ (j * k52.sz + i)) = ⟨W.heap.size, j * 2 + i, none⟩ := by
    have hs : k52.sz = 2 := rfl
    rw [hs]
    unfold Addr.add; simp
    intros; omega
  rw [e3, hc]
  match i, hu with
  | 0, hu => simp at hu; subst hu; exact e1
  | 1, hu => simp at hu; subst hu; exact e2
def hd1 : List S52 := [⟨0, 0⟩, ⟨4, 7⟩, ⟨1, 0⟩, ⟨3, 7⟩]
def hd2 : List S52 := [⟨0, 0⟩, ⟨4, 7⟩, ⟨1, 0⟩, ⟨2, 0⟩, ⟨3, 7⟩]
theorem hd1_det : detV hd1 = ([7], 0) := by decide +kernel
theorem hd2_det : detV hd2 = ([], 0) := by decide +kernel
theorem hd1_fir : firstV hd1 = (3, 1, 7, true, 0) := by decide +kernel
set_option maxHeartbeats 4000000 in
theorem head_calls (w : World) : Calls Try.prog 30 #[] w fun e w' => e = .returned (.bool true) ∧ Below w.heap.size w w' := by
  have HL := Aside0.mk (Locs.nil w)
  have hu52 := Try.underlying52
  have hu37 := Try.underlying37
  have hu22 := Try.underlying22
  obtain ⟨P, hP⟩ : ∃ P : Ending → World → Prop, (fun e w' => e = .returned (.bool true) ∧ Below w.heap.size w w') = P := ⟨_, rfl⟩
  have HP := Aside0.mk hP
  rw [hP]
  clear hP
  go_enter Try.func30, Try.ntmps30
  go_upto_region 2 with (first | ((with_reducible refine gate_dst (N := 1) rfl ?_); (try (refine gate_guard (by rfl) ?_; dsimp only)); refine box_locs (by repeat (first | exact HL.out | refine Locs.drew ?_ | refine Locs.drewN ?_ _)) ?hg (N := 1) ?hd (cs := #[.int .i64 0, .int .i64 0]) (t := 52) ?hr ?_; (case hd => rfl); (case hg => rfl); (case hr => first | (go_simp; done) | (go_simp; rfl)); intro g1 wb1 HLn HKb; clear HL; have HL := HLn; clear HLn HKb; (try clear hf); have hf := HL.out.facts; simp only [factsOf, List.cons_append, List.nil_append] at hf; skip))
  generalize hwt : World.setCell _ _ _ = w1
  have HLn : Aside0 (Locs w w1 [(g1, #[.int .i64 0, .int .i64 0], 52)]) := ⟨by rw [← hwt]; exact (HL.out.set 0 rfl 0 _).set 0 rfl 1 _⟩
  clear HL hwt; have HL := HLn; clear HLn; (try clear hf); have hf := HL.out.facts; simp only [factsOf, List.cons_append, List.nil_append] at hf; skip
  go_upto_region 3 with (first | ((with_reducible refine gate_dst (N := 2) rfl ?_); (try (refine gate_guard (by rfl) ?_; dsimp only)); refine box_locs (by repeat (first | exact HL.out | refine Locs.drew ?_ | refine Locs.drewN ?_ _)) ?hg (N := 2) ?hd (cs := #[.int .i64 0, .int .i64 0]) (t := 52) ?hr ?_; (case hd => rfl); (case hg => rfl); (case hr => first | (go_simp; done) | (go_simp; rfl)); intro g2 wb3 HLn HKb; clear HL; have HL := HLn; clear HLn HKb; (try clear hf); have hf := HL.out.facts; simp only [factsOf, List.cons_append, List.nil_append] at hf; skip))
  generalize hwt : World.setCell _ _ _ = w2
  have HLn : Aside0 (Locs w w2 [(g2, #[.int .i64 4, .int .i64 7], 52), (g1, #[.int .i64 0, .int .i64 0], 52)]) := ⟨by rw [← hwt]; exact (HL.out.set 0 rfl 0 _).set 0 rfl 1 _⟩
  clear HL hwt; have HL := HLn; clear HLn; (try clear hf); have hf := HL.out.facts; simp only [factsOf, List.cons_append, List.nil_append] at hf; skip
  go_upto_region 4 with (first | ((with_reducible refine gate_dst (N := 3) rfl ?_); (try (refine gate_guard (by rfl) ?_; dsimp only)); refine box_locs (by repeat (first | exact HL.out | refine Locs.drew ?_ | refine Locs.drewN ?_ _)) ?hg (N := 3) ?hd (cs := #[.int .i64 0, .int .i64 0]) (t := 52) ?hr ?_; (case hd => rfl); (case hg => rfl); (case hr => first | (go_simp; done) | (go_simp; rfl)); intro g3 wb5 HLn HKb; clear HL; have HL := HLn; clear HLn HKb; (try clear hf); have hf := HL.out.facts; simp only [factsOf, List.cons_append, List.nil_append] at hf; skip))
  generalize hwt : World.setCell _ _ _ = w3
  have HLn : Aside0 (Locs w w3 [(g3, #[.int .i64 1, .int .i64 0], 52), (g2, #[.int .i64 4, .int .i64 7], 52), (g1, #[.int .i64 0, .int .i64 0], 52)]) := ⟨by rw [← hwt]; exact (HL.out.set 0 rfl 0 _).set 0 rfl 1 _⟩
  clear HL hwt; have HL := HLn; clear HLn; (try clear hf); have hf := HL.out.facts; simp only [factsOf, List.cons_append, List.nil_append] at hf; skip
  go_upto_region 5 with (first | ((with_reducible refine gate_dst (N := 4) rfl ?_); (try (refine gate_guard (by rfl) ?_; dsimp only)); refine box_locs (by repeat (first | exact HL.out | refine Locs.drew ?_ | refine Locs.drewN ?_ _)) ?hg (N := 4) ?hd (cs := #[.int .i64 0, .int .i64 0]) (t := 52) ?hr ?_; (case hd => rfl); (case hg => rfl); (case hr => first | (go_simp; done) | (go_simp; rfl)); intro g4 wb7 HLn HKb; clear HL; have HL := HLn; clear HLn HKb; (try clear hf); have hf := HL.out.facts; simp only [factsOf, List.cons_append, List.nil_append] at hf; skip))
  generalize hwt : World.setCell _ _ _ = w4
  have HLn : Aside0 (Locs w w4 [(g4, #[.int .i64 2, .int .i64 0], 52), (g3, #[.int .i64 1, .int .i64 0], 52), (g2, #[.int .i64 4, .int .i64 7], 52), (g1, #[.int .i64 0, .int .i64 0], 52)]) := ⟨by rw [← hwt]; exact (HL.out.set 0 rfl 0 _).set 0 rfl 1 _⟩
  clear HL hwt; have HL := HLn; clear HLn; (try clear hf); have hf := HL.out.facts; simp only [factsOf, List.cons_append, List.nil_append] at hf; skip
  go_upto_region 6 with (first | ((with_reducible refine gate_dst (N := 5) rfl ?_); (try (refine gate_guard (by rfl) ?_; dsimp only)); refine box_locs (by repeat (first | exact HL.out | refine Locs.drew ?_ | refine Locs.drewN ?_ _)) ?hg (N := 5) ?hd (cs := #[.int .i64 0, .int .i64 0]) (t := 52) ?hr ?_; (case hd => rfl); (case hg => rfl); (case hr => first | (go_simp; done) | (go_simp; rfl)); intro g5 wb9 HLn HKb; clear HL; have HL := HLn; clear HLn HKb; (try clear hf); have hf := HL.out.facts; simp only [factsOf, List.cons_append, List.nil_append] at hf; skip))
  generalize hwt : World.setCell _ _ _ = w5
  have HLn : Aside0 (Locs w w5 [(g5, #[.int .i64 3, .int .i64 7], 52), (g4, #[.int .i64 2, .int .i64 0], 52), (g3, #[.int .i64 1, .int .i64 0], 52), (g2, #[.int .i64 4, .int .i64 7], 52), (g1, #[.int .i64 0, .int .i64 0], 52)]) := ⟨by rw [← hwt]; exact (HL.out.set 0 rfl 0 _).set 0 rfl 1 _⟩
  clear HL hwt; have HL := HLn; clear HLn; (try clear hf); have hf := HL.out.facts; simp only [factsOf, List.cons_append, List.nil_append] at hf; skip
  have HD1 : Aside0 (∀ W : World, Calls Try.prog 27 #[.slice (some ⟨W.heap.size, 0, none⟩) 4 4] (W.alloc (.cells #[.int .i64 0, .int .i64 0, .int .i64 4, .int .i64 7, .int .i64 1, .int .i64 0, .int .i64 3, .int .i64 7] 52 (0, 0))) fun e w' => ∃ v0_ : Value, e = .returned (.tuple #[v0_, .int .i64 0]) ∧ Kd.R (Kd.int .i64) 2 w' W.heap.size (fun _ => True) v0_ [7] ∧ Below W.heap.size W w') := ⟨fun W => by
    have h := detect_calls (some ⟨W.heap.size, 0, none⟩) 4 hd1 (W.alloc (.cells (flatD hd1).toArray 52 (0, 0))) (lit_C W hd1 (by decide)) (by decide) (by decide) (by decide)
    unfold DetPost at h
    rw [hd1_det] at h
    refine h.mono ?_
    rintro e w' ⟨v, rfl, hR, hb⟩
    have hb0 : Below W.heap.size W (W.alloc (.cells (flatD hd1).toArray 52 (0, 0))) := below_alloc (Below.refl _ _) _
    exact ⟨v, rfl, Kd.R_lower hR (below_size hb0), below_step hb0 hb⟩⟩
  have HD2 : Aside0 (∀ W : World, Calls Try.prog 27 #[.slice (some ⟨W.heap.size, 0, none⟩) 5 5] (W.alloc (.cells #[.int .i64 0, .int .i64 0, .int .i64 4, .int .i64 7, .int .i64 1, .int .i64 0, .int .i64 2, .int .i64 0, .int .i64 3, .int .i64 7] 52 (0, 0))) fun e w' => ∃ v0_ : Value, e = .returned (.tuple #[v0_, .int .i64 0]) ∧ Kd.R (Kd.int .i64) 2 w' W.heap.size (fun _ => True) v0_ [] ∧ Below W.heap.size W w') := ⟨fun W => by
    have h := detect_calls (some ⟨W.heap.size, 0, none⟩) 5 hd2 (W.alloc (.cells (flatD hd2).toArray 52 (0, 0))) (lit_C W hd2 (by decide)) (by decide) (by decide) (by decide)
    unfold DetPost at h
    rw [hd2_det] at h
    refine h.mono ?_
    rintro e w' ⟨v, rfl, hR, hb⟩
    have hb0 : Below W.heap.size W (W.alloc (.cells (flatD hd2).toArray 52 (0, 0))) := below_alloc (Below.refl _ _) _
    exact ⟨v, rfl, Kd.R_lower hR (below_size hb0), below_step hb0 hb⟩⟩
  have HD3 : Aside0 (∀ W : World, Calls Try.prog 23 #[.slice (some ⟨W.heap.size, 0, none⟩) 4 4] (W.alloc (.cells #[.int .i64 0, .int .i64 0, .int .i64 4, .int .i64 7, .int .i64 1, .int .i64 0, .int .i64 3, .int .i64 7] 52 (0, 0))) fun e w' => e = .returned (.tuple #[.agg #[.int .i64 3, .int .i64 1, .int .i64 7], .bool true, .int .i64 0]) ∧ Below W.heap.size W w') := ⟨fun W => by
    have h := first_calls (some ⟨W.heap.size, 0, none⟩) 4 hd1 (W.alloc (.cells (flatD hd1).toArray 52 (0, 0))) (lit_C W hd1 (by decide)) (by decide) (by decide) (by decide)
    unfold FirPost at h
    rw [hd1_fir] at h
    refine h.mono ?_
    rintro e w' ⟨rfl, hb⟩
    have hb0 : Below W.heap.size W (W.alloc (.cells (flatD hd1).toArray 52 (0, 0))) := below_alloc (Below.refl _ _) _
    exact ⟨rfl, below_step hb0 hb⟩⟩
  go_upto_region 7 with (first | (go_at_call 27; have hcall := HD1.out w5; (with_reducible refine hcall.mono ?_); clear hcall; rintro e_ w6 ⟨va, rfl, hR, hb_⟩; have HA := Aside0.mk (Kd.R_lower hR (below_size HL.out.below)); have HLn := Aside0.mk (HL.out.step hb_); clear HL hb_ hR; have HL := HLn; clear HLn; (try clear hf); have hf := HL.out.facts; simp only [factsOf, List.cons_append, List.nil_append] at hf; skip))
  obtain ⟨ga, ca, hva, -⟩ := Kd.R_form HA.out (by decide)
  subst hva
  go_upto_region 8 with (first | (go_at_call 27; have hcall := HD2.out w6; (with_reducible refine hcall.mono ?_); clear hcall; rintro e_ w7 ⟨vb, rfl, hR, hb_⟩; have HB := Aside0.mk (Kd.R_lower hR (below_size HL.out.below)); have HAn := Aside0.mk (Kd.R_below HA.out hb_); clear HA; have HA := HAn; clear HAn; have HLn := Aside0.mk (HL.out.step hb_); clear HL hb_ hR; have HL := HLn; clear HLn; (try clear hf); have hf := HL.out.facts; simp only [factsOf, List.cons_append, List.nil_append] at hf; skip))
  obtain ⟨Ab, cb, hvb⟩ := Kd.R_slice HB.out
  subst hvb
  go_upto_region 9 with (first | (go_at_call 23; have hcall := HD3.out w7; (with_reducible refine hcall.mono ?_); clear hcall; rintro e_ w8 ⟨rfl, hb_⟩; have HAn := Aside0.mk (Kd.R_below HA.out hb_); clear HA HB; have HA := HAn; clear HAn; have HLn := Aside0.mk (HL.out.step hb_); clear HL hb_; have HL := HLn; clear HLn; (try clear hf); have hf := HL.out.facts; simp only [factsOf, List.cons_append, List.nil_append] at hf; skip) | ((with_reducible refine gate_dst (N := 10) rfl ?_); (try (refine gate_guard (by rfl) ?_; dsimp only)); refine box_locs (by repeat (first | exact HL.out | refine Locs.drew ?_ | refine Locs.drewN ?_ _)) ?hg (N := 10) ?hd (cs := #[.int .i64 0, .int .i64 0, .int .i64 0]) (t := 37) ?hr ?_; (case hd => rfl); (case hg => rfl); (case hr => first | (go_simp; done) | (go_simp; rfl)); intro g10 wb15 HLn HKb; have HAn := Aside0.mk (Kd.R_below HA.out HKb.out); clear HA; have HA := HAn; clear HAn; clear HL; have HL := HLn; clear HLn HKb; (try clear hf); have hf := HL.out.facts; simp only [factsOf, List.cons_append, List.nil_append] at hf; skip))
  generalize hwt : World.setCell _ _ _ = w9
  have hlt : ∀ k, (Value.slice (some ⟨ga, 0, none⟩) 1 ca).ownBlock = some k → k ≠ g10 := fun k hk e => by
    obtain ⟨c, hc⟩ := Kd.R_typed HA.out k hk
    subst e
    exact blk_ne hc (HL.out.at 0 rfl) (by decide) rfl
  have HAn : Aside0 (Kd.R (Kd.int .i64) 2 w9 w.heap.size (fun _ => True) (.slice (some ⟨ga, 0, none⟩) 1 ca) [7]) := ⟨by
    rw [← hwt]
    have h1 := Kd.R_tight rfl HA.out
    refine Kd.R_mono (Kd.R_far (p := ⟨g10, 2, none⟩) (Kd.R_far (p := ⟨g10, 1, none⟩) (Kd.R_far (p := ⟨g10, 0, none⟩) h1 (fun k hk => hlt k hk.symm) _) (fun k hk => hlt k hk.symm) _) (fun k hk => hlt k hk.symm) _) (fun _ _ => trivial)⟩
  have HLn : Aside0 (Locs w w9 ((g10, #[.int .i64 3, .int .i64 1, .int .i64 7], 37) :: [(g5, #[.int .i64 3, .int .i64 7], 52), (g4, #[.int .i64 2, .int .i64 0], 52), (g3, #[.int .i64 1, .int .i64 0], 52), (g2, #[.int .i64 4, .int .i64 7], 52), (g1, #[.int .i64 0, .int .i64 0], 52)])) := ⟨by rw [← hwt]; exact (((HL.out.set 0 rfl 0 _).set 0 rfl 1 _).set 0 rfl 2 _)⟩
  clear HL HA hwt hlt; have HL := HLn; clear HLn; (try clear hf); have hf := HL.out.facts; simp only [factsOf, List.cons_append, List.nil_append] at hf; skip
  have hca := (Kd.R_celln (0 : Int) HAn.out (0 : Int) (by decide) (by decide)).1
  rw [show rdOf (0 : Int) [7] 0 = 7 from rfl, show (0 : Int).toNat = 0 from rfl] at hca
  go_wp2_with (first | fail)
  rw [← HP.out]
  exact ⟨rfl, HL.out.below⟩
end Go.Proofs.Ytkecgjmbamaejaa.P
