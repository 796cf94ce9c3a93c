/- Plain law: firstPlaced; the deeds turned keep whole numbers. -/
import Derived.Test.YtkecgjmbamaejaaPEPx0
import Derived.Test.YtkecgjmbamaejaaPEPx12
import Derived.Test.YtkecgjmbamaejaaPEPx2
import Derived.Test.YtkecgjmbamaejaaPEPx3
import Derived.Test.YtkecgjmbamaejaaPEPx4
import Derived.Test.YtkecgjmbamaejaaPEPx5
import Derived.Test.YtkecgjmbamaejaaPEPx7
import Derived.Test.YtkecgjmbamaejaaPELat
import Derived.Test.YtkecgjmbamaejaaPERC
set_option linter.unusedVariables false
set_option linter.unusedSimpArgs false
namespace Go.Proofs.Ytkecgjmbamaejaa.P
open Go.RowKit Go.Proofs.YtkecgjmbamaejaaW.PrintWords Go.Proofs.YtkecgjmbamaejaaW.PrintLast Go.Proofs.YtkecgjmbamaejaaW.PrintMore
set_option linter.unusedVariables false
set_option linter.unusedSimpArgs false
set_option maxHeartbeats 1000000

abbrev RI (W : World) (base : Nat) (ok : Nat → Prop) (v : Value) (l : List Int) : Prop := Kd.R (Kd.int .i64) 3 W base ok v l

/-- the row is still there, in front of what has been laid behind it -/
def HD (b : Nat) (W : World) (u : Value) (l : List Int) : Prop := ∃ v' y, RI W b (fun k => some k = u.ownBlock) v' y ∧ v'.ownBlock = u.ownBlock ∧ l <+: y
section
variable {ops : Array Oper} {rest : List Oper} {o : Oper} {a : Act} {Q : Exit → Act → World → Prop}
end

end Go.Proofs.Ytkecgjmbamaejaa.P
namespace Go.Proofs.Ytkecgjmbamaejaa.P
open Go.RowKit Go.Proofs.YtkecgjmbamaejaaW.PrintWords Go.Proofs.YtkecgjmbamaejaaW.PrintLast Go.Proofs.YtkecgjmbamaejaaW.PrintMore
set_option linter.unusedVariables false

end Go.Proofs.Ytkecgjmbamaejaa.P
namespace Go.Proofs.Ytkecgjmbamaejaa.P
open Go.RowKit Go.Proofs.YtkecgjmbamaejaaW.PrintWords Go.Proofs.YtkecgjmbamaejaaW.PrintLast Go.Proofs.YtkecgjmbamaejaaW.PrintMore
set_option linter.unusedVariables false
set_option linter.unusedSimpArgs false
set_option maxHeartbeats 1000000

theorem HD.kept {b : Nat} {W w' : World} {u : Value} {l : List Int} {S : Nat → Prop} (h : HD b W u l) (hk : Kept W w' S) (ne : ∀ k, some k = u.ownBlock → ¬ S k) : HD b w' u l := by
  obtain ⟨v', y, h1, h2, h3⟩ := h
  exact ⟨v', y, Kd.R_step h1 (fun k ho hlt => hk.2 k hlt (ne k ho)), h2, h3⟩
def NE (u v : Value) : Prop := ∀ k, some k = u.ownBlock → some k ≠ v.ownBlock
theorem NE.symm {u v : Value} (h : NE u v) : NE v u := fun k hk hu => h k hu hk

section
variable {w w1 W : World} {A0 : Option Addr} {l : List S52} {A3 : Option Addr} {g : List S52} {q1 q2 q3 q4 : Bool} {u1 u2 u3 u4 : Value} {l1 l2 l3 l4 : List Int}
end

/-- behind spare -/
structure S1 (w w1 W : World) (A0 : Option Addr) (l : List S52) (A3 : Option Addr) (g : List S52) : Prop where
  W1 : Below w.heap.size w w1
  B : Below w1.heap.size w1 W
  D : Kd.C k52 w A0 l.length l
  G : Kd.C k52 w1 A3 g.length g
theorem S1.drewN {w w1 W : World} {A0 A3 : Option Addr} {l g : List S52} (h : S1 w w1 W A0 l A3 g) (n : Nat) : S1 w w1 (W.drewN n) A0 l A3 g := ⟨h.W1, below_step h.B (pw_below_drewN (Below.refl _ _) n), h.D, h.G⟩
theorem S1.drew {w w1 W : World} {A0 A3 : Option Addr} {l g : List S52} (h : S1 w w1 W A0 l A3 g) : S1 w w1 W.drew A0 l A3 g := ⟨h.W1, below_step h.B (below_drew (Below.refl _ _)), h.D, h.G⟩
theorem cut_c {W : World} {A3 : Option Addr} {l g : List S52} (hg : g.take l.length = l) (hG : Kd.C k52 W A3 g.length g) : Kd.C k52 W A3 l.length l := by
  have hle : l.length ≤ g.length := by rw [← hg, List.length_take]; omega
  have := Kd.C_take (m := l.length) hG hle
  rwa [hg] at this
theorem cut_g {A3 : Option Addr} {c3 : Nat} {l g : List S52} (hg : g.take l.length = l) (hc : g.length ≤ c3) : ∀ W : World, (Instr.slice 22 (.slice A3 g.length c3) none (some (.int .i64 (l.length : Int))) none).run Try.prog W = .ok (.slice A3 l.length c3) W := by
  intro W
  have hle : l.length ≤ g.length := by rw [← hg, List.length_take]; omega
  obtain ⟨i0, hi, -, -, -⟩ := info_parts info52
  have := cut_to (P := Try.prog) 22 52 .i64 Try.underlying22 hi A3 g.length c3 (l.length : Int) (by omega) (by omega) hc W
  rwa [Int.toNat_natCast] at this
end Go.Proofs.Ytkecgjmbamaejaa.P
namespace Go.Proofs.Ytkecgjmbamaejaa.P
open Go.RowKit Go.Proofs.YtkecgjmbamaejaaW.PrintWords Go.Proofs.YtkecgjmbamaejaaW.PrintLast Go.Proofs.YtkecgjmbamaejaaW.PrintMore
set_option linter.unusedVariables false
theorem wf_wrap (x : Int) : (Lit.int .i64 (wrap64 x)).wf = true := by
  refine WalkArith.wf_i64 ?_
  unfold wrap64
  omega
theorem wfB_turn {l : List S52} (h : wfB l = true) : wfB (l.map tnE) = true := by
  refine List.all_eq_true.2 (fun e he => ?_)
  obtain ⟨d, hd, rfl⟩ := List.mem_map.1 he
  have hw := List.all_eq_true.1 h d hd
  unfold tnE
  split
  · exact wf_wrap _
  · split
    · exact wf_wrap _
    · split
      · exact hw
      · exact hw
theorem detect_ev {l : List S52} (hw : wfB l = true) (hl : l.length < 1099511627776) : Ev (fun k => races_Detect.f k l) (detV l) := by
  refine Ev.congr (f := fun _ => some (detV l)) (fun k => ?_) (Ev.now _)
  unfold races_Detect.f
  rw [if_pos ⟨hw, hl⟩]
end Go.Proofs.Ytkecgjmbamaejaa.P
