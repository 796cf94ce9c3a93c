/- RacesFirst: its calls. -/
import Derived.Deep.RegionHeld3
import Derived.Test.YtkecgjmbamaejaaPFPx0
import Derived.Test.YtkecgjmbamaejaaPFPx12
import Derived.Test.YtkecgjmbamaejaaPFPx2
import Derived.Test.YtkecgjmbamaejaaPFPx3
import Derived.Test.YtkecgjmbamaejaaPFPx4
import Derived.Test.YtkecgjmbamaejaaPFPx5
import Derived.Test.YtkecgjmbamaejaaPFPx7
import Derived.Test.YtkecgjmbamaejaaPFPx8
import Derived.Test.YtkecgjmbamaejaaPFRC
set_option linter.unusedVariables false
set_option linter.unusedSimpArgs false
namespace Go.Proofs.Ytkecgjmbamaejaa.P
open Go.RowKit Go.Proofs.YtkecgjmbamaejaaW.PrintWords Go.Proofs.YtkecgjmbamaejaaW.PrintLast Go.Proofs.YtkecgjmbamaejaaW.PrintMore
set_option linter.unusedVariables false
set_option linter.unusedSimpArgs false
set_option maxHeartbeats 1000000

abbrev RI (W : World) (base : Nat) (ok : Nat → Prop) (v : Value) (l : List Int) : Prop := Kd.R (Kd.int .i64) 3 W base ok v l

/-- the row is still there, in front of what has been laid behind it -/
def HD (b : Nat) (W : World) (u : Value) (l : List Int) : Prop := ∃ v' y, RI W b (fun k => some k = u.ownBlock) v' y ∧ v'.ownBlock = u.ownBlock ∧ l <+: y
section
variable {ops : Array Oper} {rest : List Oper} {o : Oper} {a : Act} {Q : Exit → Act → World → Prop}
end

end Go.Proofs.Ytkecgjmbamaejaa.P
namespace Go.Proofs.Ytkecgjmbamaejaa.P
open Go.RowKit Go.Proofs.YtkecgjmbamaejaaW.PrintWords Go.Proofs.YtkecgjmbamaejaaW.PrintLast Go.Proofs.YtkecgjmbamaejaaW.PrintMore
set_option linter.unusedVariables false

end Go.Proofs.Ytkecgjmbamaejaa.P
namespace Go.Proofs.Ytkecgjmbamaejaa.P
open Go.RowKit Go.Proofs.YtkecgjmbamaejaaW.PrintWords Go.Proofs.YtkecgjmbamaejaaW.PrintLast Go.Proofs.YtkecgjmbamaejaaW.PrintMore
set_option linter.unusedVariables false
set_option linter.unusedSimpArgs false
set_option maxHeartbeats 1000000

theorem HD.kept {b : Nat} {W w' : World} {u : Value} {l : List Int} {S : Nat → Prop} (h : HD b W u l) (hk : Kept W w' S) (ne : ∀ k, some k = u.ownBlock → ¬ S k) : HD b w' u l := by
  obtain ⟨v', y, h1, h2, h3⟩ := h
  exact ⟨v', y, Kd.R_step h1 (fun k ho hlt => hk.2 k hlt (ne k ho)), h2, h3⟩
section
variable {w w1 W : World} {A0 : Option Addr} {l : List S52} {A3 : Option Addr} {g : List S52} {q1 q2 q3 q4 : Bool} {u1 u2 u3 u4 : Value} {l1 l2 l3 l4 : List Int}
end

/-- behind spare -/
structure S1 (w w1 W : World) (A0 : Option Addr) (l : List S52) (A3 : Option Addr) (g : List S52) : Prop where
  W1 : Below w.heap.size w w1
  B : Below w1.heap.size w1 W
  D : Kd.C k52 w A0 l.length l
  G : Kd.C k52 w1 A3 g.length g
theorem S1.drewN {w w1 W : World} {A0 A3 : Option Addr} {l g : List S52} (h : S1 w w1 W A0 l A3 g) (n : Nat) : S1 w w1 (W.drewN n) A0 l A3 g := ⟨h.W1, below_step h.B (pw_below_drewN (Below.refl _ _) n), h.D, h.G⟩
theorem S1.drew {w w1 W : World} {A0 A3 : Option Addr} {l g : List S52} (h : S1 w w1 W A0 l A3 g) : S1 w w1 W.drew A0 l A3 g := ⟨h.W1, below_step h.B (below_drew (Below.refl _ _)), h.D, h.G⟩
theorem spare_s1 {w w1 : World} {A0 : Option Addr} {c0 k : Nat} {l g : List S52} (hb : Below w.heap.size w w1) (hD : Kd.C k52 w A0 l.length l) (hc0 : l.length ≤ c0) (hf : plunderlaw19_spare.f k l = some g) :
    Calls Try.prog 12 #[.slice A0 l.length c0] w1 fun e w' => ∃ A3 c3, e = .returned (.slice A3 g.length c3) ∧ g.length ≤ c3 ∧ S1 w w' w' A0 l A3 g := by
  refine (plunderlaw19_spare.calls k A0 c0 l g w1 (Kd.C_below hD hb) hc0 hf).mono ?_
  rintro e w' ⟨v, rfl, hr, hb2⟩
  obtain ⟨A3, c3, rfl⟩ := Kd.R_slice hr
  exact ⟨A3, c3, rfl, (Kd.R_reads' hr).2.1, below_step hb hb2, Below.refl _ _, hD, (Kd.R_reads' hr).2.2⟩
theorem cut_c {W : World} {A3 : Option Addr} {l g : List S52} (hg : g.take l.length = l) (hG : Kd.C k52 W A3 g.length g) : Kd.C k52 W A3 l.length l := by
  have hle : l.length ≤ g.length := by rw [← hg, List.length_take]; omega
  have := Kd.C_take (m := l.length) hG hle
  rwa [hg] at this
theorem cut_g {A3 : Option Addr} {c3 : Nat} {l g : List S52} (hg : g.take l.length = l) (hc : g.length ≤ c3) : ∀ W : World, (Instr.slice 22 (.slice A3 g.length c3) none (some (.int .i64 (l.length : Int))) none).run Try.prog W = .ok (.slice A3 l.length c3) W := by
  intro W
  have hle : l.length ≤ g.length := by rw [← hg, List.length_take]; omega
  obtain ⟨i0, hi, -, -, -⟩ := info_parts info52
  have := cut_to (P := Try.prog) 22 52 .i64 Try.underlying22 hi A3 g.length c3 (l.length : Int) (by omega) (by omega) hc W
  rwa [Int.toNat_natCast] at this
end Go.Proofs.Ytkecgjmbamaejaa.P
namespace Go.Proofs.Ytkecgjmbamaejaa.P
open Go.RowKit Go.Proofs.YtkecgjmbamaejaaW.PrintWords Go.Proofs.YtkecgjmbamaejaaW.PrintLast Go.Proofs.YtkecgjmbamaejaaW.PrintMore
set_option linter.unusedVariables false
theorem wf_wrap (x : Int) : (Lit.int .i64 (wrap64 x)).wf = true := by
  refine WalkArith.wf_i64 ?_
  unfold wrap64
  omega
theorem wfB_turn {l : List S52} (h : wfB l = true) : wfB (l.map tnE) = true := by
  refine List.all_eq_true.2 (fun e he => ?_)
  obtain ⟨d, hd, rfl⟩ := List.mem_map.1 he
  have hw := List.all_eq_true.1 h d hd
  unfold tnE
  split
  · exact wf_wrap _
  · split
    · exact wf_wrap _
    · split
      · exact hw
      · exact hw
theorem first_ev {l : List S52} (hw : wfB l = true) (hl : l.length < 1099511627776) : Ev (fun k => races_First.f k l) (firstV l) := by
  refine Ev.congr (f := fun _ => some (firstV l)) (fun k => ?_) (Ev.now _)
  unfold races_First.f
  rw [if_pos ⟨hw, hl⟩]
theorem firstPlaced_ev (l : List S52) (hl : l.length < 1099511627776) (hw : wfB l = true) : Ev (fun k => plunderlaw19_firstPlaced.f k l) true := by
  unfold plunderlaw19_firstPlaced.f
  have hm : (l.map tnE).length = l.length := by simp
  have h0 : (0 : Int) ≤ ((l.map tnE).length : Int) := by omega
  have h1 : ((l.map tnE).length : Int) ≤ ((l.map tnE ++ odd).length : Int) := by simp [odd]; omega
  have h3 : (l.map tnE ++ odd).take (((l.map tnE).length : Int)).toNat = l.map tnE := by simp
  refine Ev.bind (turned_ev l hl) ?_
  refine Ev.bind (spare_ev _ (by omega)) ?_
  simp only [if_pos h0, if_pos h1, h3, Option.bind_some]
  refine Ev.bind (first_ev (wfB_turn hw) (by omega)) ?_
  refine Ev.bind (lay_ev _ l hl (by simp)) ?_
  refine Ev.bind (first_ev hw hl) ?_
  refine Ev.bind (refFirst_ev _ (by omega)) ?_
  refine Ev.bind (refFirst_ev l hl) ?_
  simp only [beq_self_eq_true, Bool.and_self, if_true]
  exact Ev.now true
end Go.Proofs.Ytkecgjmbamaejaa.P
namespace Go.Proofs.Ytkecgjmbamaejaa.P
open Go.RowKit Go.Proofs.YtkecgjmbamaejaaW.PrintWords Go.Proofs.YtkecgjmbamaejaaW.PrintLast Go.Proofs.YtkecgjmbamaejaaW.PrintMore
set_option linter.unusedVariables false
set_option linter.unusedSimpArgs false
def plunderlaw19_RacesFirst.f (k : Nat) (l0 : List S52) : Option Bool := if l0.length ≤ 1048576 ∧ wfB l0 = true then some true else none
set_option maxHeartbeats 4000000 in
set_option maxRecDepth 100000 in
theorem plunderlaw19_RacesFirst.calls (k : Nat) (A0 : Option Addr) (c0 : Nat) (l0 : List S52) (r : Bool) (w : World) (hr0 : Kd.C k52 w A0 l0.length l0) (hc0 : l0.length ≤ c0) (h : plunderlaw19_RacesFirst.f k l0 = some r) :
    Calls Try.prog 5 #[.slice A0 l0.length c0] w fun e w' => e = .returned (.bool r) ∧ Below w.heap.size w w' := by
  unfold plunderlaw19_RacesFirst.f at h
  by_cases hl : l0.length ≤ 1048576 ∧ wfB l0 = true
  case neg => rw [if_neg hl] at h; cases h
  rw [if_pos hl] at h
  obtain rfl := Option.some.inj h
  clear h
  have hl2 : l0.length < 1099511627776 := by omega
  obtain ⟨g, hg⟩ : ∃ g : List S52, g = l0 ++ odd := ⟨_, rfl⟩
  have HGT : Aside0 (g.take l0.length = l0) := ⟨by rw [hg, List.take_left' rfl]⟩
  have HLE : Aside0 (l0.length ≤ g.length) := ⟨by rw [hg, List.length_append]; omega⟩
  obtain ⟨k1, F1⟩ := Ev.rounds (spare_ev l0 hl2)
  obtain ⟨k2, F2⟩ := Ev.rounds (refFirst_ev l0 hl2)
  obtain ⟨k3, F3⟩ := Ev.rounds (untouched_ev l0 hl2)
  obtain ⟨k4, F4⟩ := Ev.rounds (firstPlaced_ev l0 hl2 hl.2)
  obtain ⟨⟨r1, r2, r3, r4, r5⟩, hv⟩ : ∃ v, firstV l0 = v := ⟨_, rfl⟩
  rw [← hg] at F1 F3
  rw [hv] at F2
  have HFF : Aside0 (∀ (A : Option Addr) (c : Nat) (W : World), Kd.C k52 W A l0.length l0 → l0.length ≤ c → Calls Try.prog 23 #[.slice A l0.length c] W fun e w' => e = .returned (.tuple #[.agg #[.int .i64 r1, .int .i64 r2, .int .i64 r3], .bool r4, .int .i64 r5]) ∧ Below W.heap.size W w') := ⟨fun A c W h1 h2 => by
    have hh := first_calls A c l0 W h1 h2 hl.2 hl2
    unfold FirPost at hh
    rw [hv] at hh
    exact hh⟩
  have G1 := Aside0.mk F1
  have G2 := Aside0.mk F2
  have G3 := Aside0.mk F3
  have G4 := Aside0.mk F4
  have HD := Aside0.mk hr0
  have HC := Aside0.mk hc0
  have HB := Aside0.mk (Below.refl w.heap.size w)
  have hu37 := Try.underlying37
  clear hr0 hc0 hg hl hl2 F1 F2 F3 F4 hv
  go_enter Try.func5, Try.ntmps5
  go_upto_region 2 with (first | (go_at_call 12; (with_reducible refine (spare_s1 HB.out HD.out HC.out G1.out).mono ?_); rintro e_ w1 ⟨A3, c3, rfl, hc3, hs⟩; have HS := Aside0.mk hs; have HC3 := Aside0.mk hc3; have HC3' := Aside0.mk (Nat.le_trans HLE.out hc3); have hcut := cut_g (A3 := A3) HGT.out hc3; have HL := Aside0.mk (Locs.nil w1); clear hs hc3))
  go_upto_region 3 with (first | (go_at_call 23; have hcall := HFF.out A3 c3 _ (cut_c HGT.out (Kd.C_below HS.out.G (by repeat (first | exact HL.out.below | refine below_drew1 ?_)))) HC3'.out; (with_reducible refine hcall.mono ?_); clear hcall; rintro e_ w2 ⟨rfl, hb_⟩; have HLn := Aside0.mk (HL.out.step hb_); clear HL hb_; have HL := HLn; clear HLn) | ((with_reducible refine gate_dst (N := 4) rfl ?_); (try (refine gate_guard (by rfl) ?_; dsimp only)); refine box_locs (by repeat (first | exact HL.out | refine Locs.drew ?_ | refine Locs.drewN ?_ _)) ?hg (N := 4) ?hd (cs := #[.int .i64 0, .int .i64 0, .int .i64 0]) (t := 37) ?hr ?_; (case hd => rfl); (case hg => rfl); (case hr => first | (go_simp; done) | (go_simp; rfl)); intro g4 wb2 HLn HKb; clear HL; have HL := HLn; clear HLn HKb; (try clear hf); have hf := HL.out.facts; simp only [factsOf, List.cons_append, List.nil_append] at hf; skip))
  generalize hwt : World.setCell _ _ _ = w3
  have HLn : Aside0 (Locs w1 w3 [(g4, #[.int .i64 r1, .int .i64 r2, .int .i64 r3], 37)]) := ⟨by rw [← hwt]; exact ((HL.out.set 0 rfl 0 _).set 0 rfl 1 _).set 0 rfl 2 _⟩
  clear HL hwt; have HL := HLn; clear HLn; (try clear hf); have hf := HL.out.facts; simp only [factsOf, List.cons_append, List.nil_append] at hf; skip
  go_upto_region 4 with (first | (go_at_call 24; have hcall := plunderref19_First.calls k2 A0 c0 l0 r1 r2 r3 r4 r5 _ (Kd.C_below HS.out.D (below_step HS.out.W1 (by repeat (first | exact HL.out.below | refine below_drew1 ?_)))) HC.out G2.out; (with_reducible refine hcall.mono ?_); clear hcall; rintro e_ w4 ⟨rfl, hb_⟩; have HLn := Aside0.mk (HL.out.step hb_); clear HL hb_; have HL := HLn; clear HLn; (try clear hf); have hf := HL.out.facts; simp only [factsOf, List.cons_append, List.nil_append] at hf; skip) | ((with_reducible refine gate_dst (N := 7) rfl ?_); (try (refine gate_guard (by rfl) ?_; dsimp only)); refine box_locs (by repeat (first | exact HL.out | refine Locs.drew ?_ | refine Locs.drewN ?_ _)) ?hg (N := 7) ?hd (cs := #[.int .i64 0, .int .i64 0, .int .i64 0]) (t := 37) ?hr ?_; (case hd => rfl); (case hg => rfl); (case hr => first | (go_simp; done) | (go_simp; rfl)); intro g7 wb6 HLn HKb; clear HL; have HL := HLn; clear HLn HKb; (try clear hf); have hf := HL.out.facts; simp only [factsOf, List.cons_append, List.nil_append] at hf; skip))
  generalize hwt : World.setCell _ _ _ = w5
  have HLn : Aside0 (Locs w1 w5 [(g7, #[.int .i64 r1, .int .i64 r2, .int .i64 r3], 37), (g4, #[.int .i64 r1, .int .i64 r2, .int .i64 r3], 37)]) := ⟨by rw [← hwt]; exact ((HL.out.set 0 rfl 0 _).set 0 rfl 1 _).set 0 rfl 2 _⟩
  clear HL hwt; have HL := HLn; clear HLn; (try clear hf); have hf := HL.out.facts; simp only [factsOf, List.cons_append, List.nil_append] at hf; skip
  go_wp2_with (first | (go_at_call 18; have hcall := plunderlaw19_untouched.calls k3 A3 c3 g A0 c0 l0 true _ (Kd.C_below HS.out.G (by repeat (first | exact HL.out.below | refine below_drew1 ?_))) HC3.out (Kd.C_below HS.out.D (below_step HS.out.W1 (by repeat (first | exact HL.out.below | refine below_drew1 ?_)))) HC.out G3.out; (with_reducible refine hcall.mono ?_); clear hcall; rintro e_ w6 ⟨rfl, ⟨nd, rfl⟩⟩; have HLn := Aside0.mk (HL.out.drewN nd); clear HL; have HL := HLn; clear HLn; (try clear hf)) | (go_at_call 25; have hcall := plunderlaw19_firstPlaced.calls k4 A0 c0 l0 true _ (Kd.C_below HS.out.D (below_step HS.out.W1 (by repeat (first | exact HL.out.below | refine below_drew1 ?_)))) HC.out G4.out; (with_reducible refine hcall.mono ?_); clear hcall; rintro e_ w7 ⟨rfl, hb_⟩; have HLn := Aside0.mk (HL.out.step hb_); clear HL hb_; have HL := HLn; clear HLn))
  go_ret
  exact ⟨rfl, below_step HS.out.W1 HL.out.below⟩
end Go.Proofs.Ytkecgjmbamaejaa.P
