/- plunderref19.Steps: the appends of its walk; its lists. -/
import Derived.BigQuiet
import Derived.BigRegion
import Derived.Deep.LoopGhost
import Derived.Deep.QuietTactic
import Derived.Lib.Hide
import Derived.Outline
import Derived.Test.YtkecgjmbamaejaaPAPx0
import Derived.Test.YtkecgjmbamaejaaPARA
set_option linter.unusedVariables false
set_option linter.unusedSimpArgs false
namespace Go.Proofs.Ytkecgjmbamaejaa.P
open Go.RowKit Go.Proofs.YtkecgjmbamaejaaW.PrintWords Go.Proofs.YtkecgjmbamaejaaW.PrintLast Go.Proofs.YtkecgjmbamaejaaW.PrintMore
set_option linter.unusedVariables false

structure Locs (w W : World) (bs : List (Nat × Array Value × TypeId)) : Prop where
  below : Below w.heap.size w W
  blk : ∀ b ∈ bs, W.heap[b.1]? = some (.cells b.2.1 b.2.2 (0, 0))
  new : ∀ b ∈ bs, w.heap.size ≤ b.1
  apart : bs.Pairwise (fun a b => a.1 ≠ b.1)

def factsOf (W : World) : List (Nat × Array Value × TypeId) → Prop
  | [] => True
  | b :: r => ((∀ j, W.cell? ⟨b.1, j, none⟩ = b.2.1[j]?) ∧ (∀ j, W.frozen? ⟨b.1, j, none⟩ = false)) ∧ factsOf W r

theorem factsOf_all {W : World} : ∀ (bs : List (Nat × Array Value × TypeId)), (∀ b ∈ bs, W.heap[b.1]? = some (.cells b.2.1 b.2.2 (0, 0))) → factsOf W bs
  | [], _ => trivial
  | b :: r, h => ⟨⟨fun j => blk_cell (h b List.mem_cons_self) j, fun j => blk_frozen (h b List.mem_cons_self) j⟩, factsOf_all r (fun x hx => h x (List.mem_cons_of_mem _ hx))⟩

section
variable {w W W1 : World} {bs : List (Nat × Array Value × TypeId)}
theorem Locs.nil (w : World) : Locs w w [] := ⟨Below.refl _ _, fun b h => (List.not_mem_nil h).elim, fun b h => (List.not_mem_nil h).elim, List.Pairwise.nil⟩
theorem Locs.facts (h : Locs w W bs) : factsOf W bs := factsOf_all bs h.blk
theorem Locs.step (h : Locs w W bs) (k : Below W.heap.size W W1) : Locs w W1 bs :=
  ⟨below_step h.below k, fun b hb => blk_below (h.blk b hb) k, h.new, h.apart⟩
theorem Locs.drew (h : Locs w W bs) : Locs w W.drew bs := ⟨below_drew1 h.below, h.blk, h.new, h.apart⟩
theorem Locs.drewN (h : Locs w W bs) (n : Nat) : Locs w (W.drewN n) bs := ⟨pw_below_drewN h.below n, h.blk, h.new, h.apart⟩
theorem Locs.at (h : Locs w W bs) (i : Nat) {g : Nat} {cs : Array Value} {t : TypeId} (hi : bs[i]? = some (g, cs, t)) : W.heap[g]? = some (.cells cs t (0, 0)) := h.blk _ (List.mem_of_getElem? hi)
theorem Locs.ge (h : Locs w W bs) (i : Nat) {g : Nat} {cs : Array Value} {t : TypeId} (hi : bs[i]? = some (g, cs, t)) : w.heap.size ≤ g := h.new _ (List.mem_of_getElem? hi)
theorem Locs.lt (h : Locs w W bs) (b : Nat × Array Value × TypeId) (hb : b ∈ bs) : b.1 < W.heap.size := blk_lt (h.blk b hb)
theorem Locs.alloc (h : Locs w W bs) (cs : Array Value) (t : TypeId) : Locs w (W.alloc (.cells cs t (0, 0))) ((W.heap.size, cs, t) :: bs) := by
  refine ⟨below_alloc h.below _, fun b hb => ?_, fun b hb => ?_, List.Pairwise.cons (fun b hb => ?_) h.apart⟩
  · rcases List.mem_cons.1 hb with rfl | hb
    · exact blk_new W _
    · exact blk_alloc (h.blk b hb) _
  · rcases List.mem_cons.1 hb with rfl | hb
    · exact h.below.size
    · exact h.new b hb
  · exact Nat.ne_of_gt (h.lt b hb)
theorem Locs.set (h : Locs w W bs) (i : Nat) {g : Nat} {cs : Array Value} {t : TypeId} (hi : bs[i]? = some (g, cs, t)) (j : Nat) (v : Value) :
    Locs w (W.setCell ⟨g, j, none⟩ v) (bs.set i (g, cs.setIfInBounds j v, t)) := by
  have hlt : i < bs.length := (List.getElem?_eq_some_iff.1 hi).1
  have hgi : bs[i] = (g, cs, t) := (List.getElem?_eq_some_iff.1 hi).2
  have hkeys : (bs.set i (g, cs.setIfInBounds j v, t)).map (·.1) = bs.map (·.1) := by
    rw [List.map_set]
    have : (bs.map (·.1))[i]? = some g := by rw [List.getElem?_map, hi]; rfl
    apply List.ext_getElem?
    intro k
    by_cases hk : i = k
    · subst hk
      rw [List.getElem?_set_self (by simpa using hlt), this]
    · rw [List.getElem?_set_ne hk]
  refine ⟨below_set h.below (h.ge i hi), fun b hb => ?_, fun b hb => ?_, ?_⟩
  · obtain ⟨k, hk⟩ := List.mem_iff_getElem?.1 hb
    by_cases hki : i = k
    · subst hki
      rw [List.getElem?_set_self hlt] at hk
      injection hk with hk
      subst hk
      exact blk_set (h.at i hi) j v
    · rw [List.getElem?_set_ne hki] at hk
      have hkl : k < bs.length := (List.getElem?_eq_some_iff.1 hk).1
      have hne : b.1 ≠ g := by
        have hbk : bs[k] = b := (List.getElem?_eq_some_iff.1 hk).2
        have hp := List.pairwise_iff_getElem.1 h.apart
        rcases Nat.lt_or_gt_of_ne hki with hl | hl
        · have := hp i k hlt hkl hl
          rw [hgi, hbk] at this
          exact fun e => this e.symm
        · have := hp k i hkl hlt hl
          rw [hgi, hbk] at this
          exact this
      exact (Below.heap_setCell W ⟨g, j, none⟩ v b.1 hne).trans (h.blk b (List.mem_of_getElem? hk))
  · have : b.1 ∈ bs.map (·.1) := by rw [← hkeys]; exact List.mem_map.2 ⟨b, hb, rfl⟩
    obtain ⟨b2, hb2, e⟩ := List.mem_map.1 this
    rw [← e]; exact h.new b2 hb2
  · have h1 : (bs.map (·.1)).Pairwise (· ≠ ·) := List.pairwise_map.2 h.apart
    rw [← hkeys] at h1
    exact List.pairwise_map.1 h1
/-- some of them -/
theorem Locs.sub (h : Locs w W bs) {bs' : List (Nat × Array Value × TypeId)} (hs : bs'.Sublist bs) : Locs w W bs' :=
  ⟨h.below, fun b hb => h.blk b (hs.subset hb), fun b hb => h.new b (hs.subset hb), h.apart.sublist hs⟩
end
section
variable {P : Program} {ops : Array Oper} {rest : List Oper} {o : Oper} {a : Act} {Q : Exit → Act → World → Prop}
theorem box_locs {w W : World} {bs : List (Nat × Array Value × TypeId)} (HL : Locs w W bs) (hgd : o.guard = none) {N : Tmp} (_hd : o.dst = some N) {cs : Array Value} {t : TypeId}
    (hrun : (execOp a.eval o).run P W = .ok (.value (.pointer (some ⟨W.heap.size, 0, none⟩))) (W.alloc (.cells cs t (0, 0))))
    (h : ∀ g w1, Aside0 (Locs w w1 ((g, cs, t) :: bs)) → Aside0 (Below W.heap.size W w1) → wpList P ops Q rest (a.put o.dst (.pointer (some ⟨g, 0, none⟩))) w1) : wpList P ops Q (o :: rest) a W :=
  Kd.event_run hgd hrun (h _ _ ⟨HL.alloc cs t⟩ ⟨below_alloc (Below.refl _ _) _⟩)
end

theorem Locs.grown {w W W1 : World} {bs : List (Nat × Array Value × TypeId)} (h : Locs w W bs) {row : Option Nat} (hb : Below w.heap.size w W1) (hg : W.grownBy W1 row) (hne : ∀ b ∈ bs, some b.1 ≠ row) : Locs w W1 bs :=
  ⟨hb, fun b hb' => blk_grown (h.blk b hb') hg (hne b hb'), h.new, h.apart⟩

end Go.Proofs.Ytkecgjmbamaejaa.P
namespace Go.Proofs.Ytkecgjmbamaejaa.P
open Go.RowKit Go.Proofs.YtkecgjmbamaejaaW.PrintWords Go.Proofs.YtkecgjmbamaejaaW.PrintLast Go.Proofs.YtkecgjmbamaejaaW.PrintMore
set_option linter.unusedVariables false

theorem EI (t : Nat) (h : 3 ≠ t) : ∀ q, q ∈ 3 :: (Kd.int .i64).E → q ≠ t := by
  intro q hq
  rw [show (Kd.int .i64).E = [] from rfl, List.mem_singleton] at hq
  rw [hq]; exact h
theorem nat0 {k : Nat} {v v' : Value} {n : Nat} (hat : v'.ownBlock = v.ownBlock ∨ ∃ b, v'.ownBlock = some b ∧ n ≤ b) (h1 : some k ≠ v.ownBlock) (h2 : k < n) : some k ≠ v'.ownBlock := by
  rcases hat with e | ⟨b, e, hb⟩
  · rw [e]; exact h1
  · rw [e]; intro he; injection he with he; omega

structure LT (w W : World) (g5 g8 : Nat) (vl vk : Value) (l : List Int) (kss : List (List Int)) : Prop where
  below : Below w.heap.size w W
  b5 : W.heap[g5]? = some (.cells #[vl] 24 (0, 0))
  b8 : W.heap[g8]? = some (.cells #[vk] 46 (0, 0))
  n5 : w.heap.size ≤ g5
  n8 : w.heap.size ≤ g8
  rl : Kd.R (Kd.int .i64) 3 W w.heap.size (fun _ => True) vl l
  rk : ∃ ok : Nat → Prop, Kd.R (Kd.slice 3 (Kd.int .i64)) 24 W w.heap.size ok vk kss ∧ ∀ k, ok k → k ≠ g5 ∧ some k ≠ vl.ownBlock
section
variable {w W W1 : World} {g5 g8 : Nat} {vl vk : Value} {l : List Int} {kss : List (List Int)}
theorem LT.ne58 (h : LT w W g5 g8 vl vk l kss) : g5 ≠ g8 := blk_ne h.b5 h.b8 (by decide)
theorem LT.step (h : LT w W g5 g8 vl vk l kss) (k : Below W.heap.size W W1) : LT w W1 g5 g8 vl vk l kss := by
  obtain ⟨ok, h1, h2⟩ := h.rk
  exact ⟨below_step h.below k, blk_below h.b5 k, blk_below h.b8 k, h.n5, h.n8, Kd.R_below h.rl k, ok, Kd.R_below h1 k, h2⟩
theorem LT.drew (h : LT w W g5 g8 vl vk l kss) : LT w W.drew g5 g8 vl vk l kss := h.step (below_drew (Below.refl _ _))
theorem LT.drewN (h : LT w W g5 g8 vl vk l kss) (n : Nat) : LT w (W.drewN n) g5 g8 vl vk l kss := h.step (pw_below_drewN (Below.refl _ _) n)
theorem LT.alloc (h : LT w W g5 g8 vl vk l kss) (o : Obj) : LT w (W.alloc o) g5 g8 vl vk l kss := h.step (below_alloc (Below.refl _ _) o)
theorem LT.start {cs : Array Value} (h5 : W.heap[g5]? = some (.cells #[.slice none 0 0] 24 (0, 0))) (h8 : W.heap[g8]? = some (.cells #[.slice none 0 0] 46 (0, 0))) (n5 : w.heap.size ≤ g5) (n8 : w.heap.size ≤ g8) (hb : Below w.heap.size w W) :
    LT w W g5 g8 (.slice none 0 0) (.slice none 0 0) [] [] :=
  ⟨hb, h5, h8, n5, n8, Kd.R_nil _ _ _ _ _, fun _ => False, Kd.R_nil _ _ _ _ _, fun _ h => h.elim⟩
/-- the list has grown -/
theorem LT.put5 (h : LT w W g5 g8 vl vk l kss) {v1 : Value} {l1 : List Int} (hR : Kd.R (Kd.int .i64) 3 W1 w.heap.size (fun _ => True) v1 l1) (hb : Below w.heap.size w W1) (hg : W.grownBy W1 vl.ownBlock)
    (hat : v1.ownBlock = vl.ownBlock ∨ ∃ b, v1.ownBlock = some b ∧ W.heap.size ≤ b) : LT w (W1.setCell ⟨g5, 0, none⟩ v1) g5 g8 v1 vk l1 kss := by
  obtain ⟨ok, h1, h2⟩ := h.rk
  have b5 := blk_grown h.b5 hg (Kd.R_ne h.rl h.b5 (by decide))
  have b8 := blk_grown h.b8 hg (Kd.R_ne h.rl h.b8 (by decide))
  refine ⟨below_set hb h.n5, blk_set b5 0 v1, blk_far b8 (p := ⟨g5, 0, none⟩) (fun e => h.ne58 e.symm) v1, h.n5, h.n8, Kd.R_set hR b5 (EI 24 (by decide)) 0 v1, fun k => ok k ∧ k < W.heap.size, ?_, fun k hk => ⟨(h2 k hk.1).1, nat0 hat (h2 k hk.1).2 hk.2⟩⟩
  have h3 := Kd.R_mono (Kd.R_grown (Kd.R_bound h1) hg (fun k hk => (h2 k hk.1).2)) (ok' := fun k => ok k ∧ k < W.heap.size) (fun k hk => ⟨hk.1, hk.2.2.1⟩)
  exact Kd.R_far (p := ⟨g5, 0, none⟩) h3 (fun k hk => (h2 k hk.1).1) v1
/-- the rows are fewer -/
theorem LT.cut8 {A : Option Addr} {n c : Nat} (h : LT w W g5 g8 vl (.slice A n c) l kss) {m : Nat} (hm : m ≤ kss.length) : LT w (W.setCell ⟨g8, 0, none⟩ (.slice A m c)) g5 g8 vl (.slice A m c) l (kss.take m) := by
  obtain ⟨ok, h1, h2⟩ := h.rk
  have h3 := Kd.R_take h1 hm
  refine ⟨below_set h.below h.n8, blk_far h.b5 (p := ⟨g8, 0, none⟩) h.ne58 _, blk_set h.b8 0 _, h.n5, h.n8, Kd.R_set h.rl h.b8 (EI 46 (by decide)) 0 _, ok, ?_, h2⟩
  refine Kd.R_set h3 h.b8 ?_ 0 _
  show ∀ q, q ∈ [24, 3] → q ≠ 46
  decide
/-- a row of its own joins the rows: what the append asks for -/
theorem LT.rows (h : LT w W g5 g8 vl vk l kss) {vc : Value} {c : List Int} {b : Nat} (hc : Kd.R (Kd.int .i64) 3 W b (fun _ => True) vc c) (hb5 : g5 < b) (hbl : ∀ k, vl.ownBlock = some k → k < b) (hwb : w.heap.size ≤ b) :
    ∃ ok okc : Nat → Prop, Kd.R (Kd.slice 3 (Kd.int .i64)) 24 W w.heap.size ok vk kss ∧ Kd.M (Kd.slice 3 (Kd.int .i64)) W w.heap.size okc c [vc] ∧ (∀ k, okc k → ok k ∧ some k ≠ vk.ownBlock) ∧ (∀ k, W.heap.size ≤ k → ok k) ∧ ∀ k, ok k → k ≠ g5 ∧ some k ≠ vl.ownBlock := by
  obtain ⟨ok, h1, h2⟩ := h.rk
  have ht := Kd.R_tight rfl hc
  refine ⟨fun k => ok k ∨ some k = vc.ownBlock ∨ W.heap.size ≤ k, fun k => some k = vc.ownBlock, Kd.R_mono h1 (fun k hk => Or.inl hk), ⟨vc, rfl, Kd.R_lower ht hwb⟩, fun k hk => ⟨Or.inr (Or.inl hk), fun he => ?_⟩, fun k hk => Or.inr (Or.inr hk), fun k hk => ?_⟩
  · obtain ⟨c1, e1⟩ := Kd.R_typed hc k hk.symm
    obtain ⟨c2, e2⟩ := Kd.R_typed h1 k he.symm
    exact blk_ne e1 e2 (by decide) rfl
  · rcases hk with hk | hk | hk
    · exact h2 k hk
    · have hkb := Kd.R_base hc k hk.symm
      exact ⟨by omega, fun he => by have := hbl k he.symm; omega⟩
    · exact ⟨by have := blk_lt h.b5; omega, fun he => by have := Kd.R_lt h.rl k he.symm; omega⟩
/-- and behind it -/
theorem LT.put8 (h : LT w W g5 g8 vl vk l kss) {v1 : Value} {ok : Nat → Prop} {k1 : List (List Int)} (h1 : Kd.R (Kd.slice 3 (Kd.int .i64)) 24 W w.heap.size ok vk kss) (h2 : ∀ k, ok k → k ≠ g5 ∧ some k ≠ vl.ownBlock)
    (hR : Kd.R (Kd.slice 3 (Kd.int .i64)) 24 W1 w.heap.size ok v1 k1) (hb : Below w.heap.size w W1) (hg : W.grownBy W1 vk.ownBlock) : LT w (W1.setCell ⟨g8, 0, none⟩ v1) g5 g8 vl v1 l k1 := by
  have b5 := blk_grown h.b5 hg (fun he => (h2 g5 (h1.1 g5 he.symm)).1 rfl)
  have b8 := blk_grown h.b8 hg (Kd.R_ne h1 h.b8 (by decide))
  have rl : Kd.R (Kd.int .i64) 3 W1 w.heap.size (fun _ => True) vl l := Kd.R_mono (Kd.R_grown (Kd.R_tight rfl h.rl) hg (fun k hk he => (h2 k (h1.1 k he.symm)).2 hk)) (fun _ _ => trivial)
  refine ⟨below_set hb h.n8, blk_far b5 (p := ⟨g8, 0, none⟩) h.ne58 v1, blk_set b8 0 v1, h.n5, h.n8, Kd.R_set rl b8 (EI 46 (by decide)) 0 v1, ok, ?_, h2⟩
  refine Kd.R_set hR b8 ?_ 0 v1
  show ∀ q, q ∈ [24, 3] → q ≠ 46
  decide
theorem LT.cells (h : LT w W g5 g8 vl vk l kss) : (∀ j, W.cell? ⟨g5, j, none⟩ = #[vl][j]?) ∧ (∀ j, W.frozen? ⟨g5, j, none⟩ = false) ∧ (∀ j, W.cell? ⟨g8, j, none⟩ = #[vk][j]?) ∧ (∀ j, W.frozen? ⟨g8, j, none⟩ = false) :=
  ⟨fun j => blk_cell h.b5 j, fun j => blk_frozen h.b5 j, fun j => blk_cell h.b8 j, fun j => blk_frozen h.b8 j⟩
/-- the last row -/
theorem LT.last (h : LT w W g5 g8 vl vk l kss) {j : Nat} (hj : j < kss.length) : ∃ (g c : Nat) (A : Option Addr) (c2 : Nat), vk = .slice (some ⟨g, 0, none⟩) kss.length c ∧ W.cell? ⟨g, j, none⟩ = some (.slice A (kss.getD j []).length c2) ∧
    Kd.C (Kd.int .i64) W A (kss.getD j []).length (kss.getD j []) ∧ g ≠ g5 := by
  obtain ⟨ok, h1, h2⟩ := h.rk
  obtain ⟨g, c, rfl, -⟩ := Kd.R_form h1 (by omega)
  obtain ⟨cs, hcl, hM, hcc, hfr⟩ := Kd.R_elem h1 [] (j : Int) (by omega) (by omega)
  rw [Int.toNat_natCast] at hM hcc
  obtain ⟨v, rfl, hR⟩ := hM
  obtain ⟨A, c2, rfl, -, hC⟩ := Kd.R_reads hR
  have e := hcc 0 _ rfl
  rw [show (Kd.slice 3 (Kd.int .i64)).sz = 1 from rfl, Nat.mul_one, Nat.add_zero] at e
  exact ⟨g, c, A, c2, rfl, e, hC, (h2 g (h1.1 g rfl)).1⟩
end
end Go.Proofs.Ytkecgjmbamaejaa.P
namespace Go.Proofs.Ytkecgjmbamaejaa.P
open Go.RowKit Go.Proofs.YtkecgjmbamaejaaW.PrintWords Go.Proofs.YtkecgjmbamaejaaW.PrintLast Go.Proofs.YtkecgjmbamaejaaW.PrintMore
set_option linter.unusedVariables false
theorem cut_rest {S G : Option Addr → Nat → Nat → World → Prop} {M : Prop} (h : (∀ A n c W, S A n c W → G A n c W) → M) (r : ∀ A n c W, S A n c W → G A n c W) : M := h r
section
variable {ops : Array Oper} {rest : List Oper} {o : Oper} {a : Act} {Q : Exit → Act → World → Prop} {Kc : Act → World → Prop} {w W : World} {g5 g8 : Nat} {vl vk : Value} {l : List Int} {kss : List (List Int)}
theorem late_app1 (hgd : o.guard = none) (s x : Operand) (ho : o.op = .call { callee := .builtin .append, args := #[s, x], argTypes := #[24, 24] }) (H : LT w W g5 g8 vl vk l kss) (hs : a.eval s = vl) (y : Int)
    (hx : a.eval x = .slice (some ⟨W.heap.size, 0, none⟩) 1 1) (hl : l.length ≤ 8388608)
    (h : ∀ A1 n1 c1 w1, Aside0 (LT w (w1.setCell ⟨g5, 0, none⟩ (.slice A1 n1 c1)) g5 g8 (.slice A1 n1 c1) vk (l ++ [y]) kss) → w1.cell? ⟨g5, 0, none⟩ = some vl → w1.frozen? ⟨g5, 0, none⟩ = false →
      wpList Try.prog ops Q rest (a.put o.dst (.slice A1 n1 c1)) w1) :
    wpList Try.prog ops Q (o :: rest) a (W.alloc (.cells #[.int .i64 y] 3)) := by
  refine Kd.R_append (Kd.int .i64) (w0 := w) w.heap.size hgd s x 24 3 (.int .i64 0) 8 ho Try.underlying24 info3 rfl (by decide) (by omega) vl l y [.int .i64 y] (fun _ => True) (fun _ => False) hs hx rfl (fun _ h => h.elim) (fun _ _ => trivial) H.rl H.below H.below.size (by omega) ?_
  intro v1 w1 hR hb hg hat
  obtain ⟨A1, c1, rfl⟩ := Kd.R_slice hR
  rw [List.length_append, List.length_singleton] at hR hat ⊢
  have b5 := blk_grown H.b5 hg (Kd.R_ne H.rl H.b5 (by decide))
  exact h A1 _ c1 w1 ⟨H.put5 hR hb hg hat⟩ (blk_cell b5 0) (blk_frozen b5 0)
theorem late_app8 (hgd : o.guard = none) (s x : Operand) (ho : o.op = .call { callee := .builtin .append, args := #[s, x], argTypes := #[46, 46] }) (H : LT w W g5 g8 vl vk l kss) (hs : a.eval s = vk) {vc : Value} {c : List Int} {b : Nat}
    (hc : Kd.R (Kd.int .i64) 3 W b (fun _ => True) vc c) (hb5 : g5 < b) (hbl : ∀ k, vl.ownBlock = some k → k < b) (hwb : w.heap.size ≤ b)
    (hx : a.eval x = .slice (some ⟨W.heap.size, 0, none⟩) 1 1) (hl : kss.length ≤ 8388608)
    (h : ∀ A1 n1 c1 w1, Aside0 (LT w (w1.setCell ⟨g8, 0, none⟩ (.slice A1 n1 c1)) g5 g8 vl (.slice A1 n1 c1) l (kss ++ [c])) → w1.cell? ⟨g8, 0, none⟩ = some vk → w1.frozen? ⟨g8, 0, none⟩ = false →
      wpList Try.prog ops Q rest (a.put o.dst (.slice A1 n1 c1)) w1) :
    wpList Try.prog ops Q (o :: rest) a (W.alloc (.cells #[vc] 24)) := by
  obtain ⟨ok, okc, h1, h2, h3, h4, h5⟩ := H.rows hc hb5 hbl hwb
  refine Kd.R_append (Kd.slice 3 (Kd.int .i64)) (w0 := w) w.heap.size hgd s x 46 24 (.slice none 0 0) 24 ho Try.underlying46 info24 rfl (by decide) (by omega) vk kss c [vc] ok okc hs hx h2 h3 h4 h1 H.below H.below.size (by omega) ?_
  intro v1 w1 hR hb hg hat
  obtain ⟨A1, c1, rfl⟩ := Kd.R_slice hR
  rw [List.length_append, List.length_singleton] at hR hat ⊢
  have b8 := blk_grown H.b8 hg (Kd.R_ne h1 H.b8 (by decide))
  exact h A1 _ c1 w1 ⟨H.put8 h1 h5 hR hb hg⟩ (blk_cell b8 0) (blk_frozen b8 0)
theorem late_rows {E : Prop} (hgd : o.guard = none) (s x : Operand) (ho : o.op = .call { callee := .builtin .append, args := #[s, x], argTypes := #[24, 24] }) (H : LT w W g5 g8 vl vk l kss) (hs : a.eval s = vl) {A : Option Addr} {c2 : Nat} (ys : List Int)
    (hx : a.eval x = .slice A ys.length c2) (hC : Kd.C (Kd.int .i64) W A ys.length ys) (hl : l.length + ys.length ≤ 8388608)
    (h : ∀ A1 n1 c1 w1, LT w (w1.setCell ⟨g5, 0, none⟩ (.slice A1 n1 c1)) g5 g8 (.slice A1 n1 c1) vk (l ++ ys) kss → w1.cell? ⟨g5, 0, none⟩ = some vl → w1.frozen? ⟨g5, 0, none⟩ = false →
      Kc (a.put o.dst (.slice A1 n1 c1)) w1) :
    if Region.wanted o (yielded ops a.tmps) = true then Oper.wp Try.prog o a W Kc Q else E := by
  have hw : Region.wanted o (yielded ops a.tmps) = true := by simp [Region.wanted, hgd]
  have h1 := Kd.R_append_rows_step (P := Try.prog) (ops := ops) (o := o) (a := a) (Q := Q) (Kc := Kc) (Kd.int .i64) (w0 := w) w.heap.size hw s x 24 3 (.int .i64 0) 8 ho Try.underlying24 info3 rfl (by decide) (by omega) vl l ys A ys.length c2 (fun _ => True) (fun _ => False) hs hx H.rl hC
    (fun x cs hx => hx) (fun _ h => h.elim) (fun _ _ => trivial) H.below H.below.size (by omega) (by
      intro v1 w1 hR hb hg hat
      obtain ⟨A1, c1, rfl⟩ := Kd.R_slice hR
      rw [List.length_append] at hR hat ⊢
      have b5 := blk_grown H.b5 hg (Kd.R_ne H.rl H.b5 (by decide))
      exact h A1 _ c1 w1 (H.put5 hR hb hg hat) (blk_cell b5 0) (blk_frozen b5 0))
  rw [if_pos hw] at h1 ⊢
  exact h1
end
end Go.Proofs.Ytkecgjmbamaejaa.P
namespace Go.Proofs.Ytkecgjmbamaejaa.P
open Go.RowKit Go.Proofs.YtkecgjmbamaejaaW.PrintWords Go.Proofs.YtkecgjmbamaejaaW.PrintLast Go.Proofs.YtkecgjmbamaejaaW.PrintMore
set_option linter.unusedVariables false

end Go.Proofs.Ytkecgjmbamaejaa.P
namespace Go.Proofs.Ytkecgjmbamaejaa.P
open Go.RowKit Go.Proofs.YtkecgjmbamaejaaW.PrintWords Go.Proofs.YtkecgjmbamaejaaW.PrintLast Go.Proofs.YtkecgjmbamaejaaW.PrintMore
set_option linter.unusedVariables false

end Go.Proofs.Ytkecgjmbamaejaa.P
