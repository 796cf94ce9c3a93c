/- plunderref19.Steps: the appends of its walk; its lists. -/
import Derived.BigQuiet
import Derived.BigRegion
import Derived.Deep.LoopGhost
import Derived.Deep.QuietTactic
import Derived.Lib.Hide
import Derived.Outline
import Derived.Test.YtkecgjmbamaejaaPEPx0
import Derived.Test.YtkecgjmbamaejaaPERA
set_option linter.unusedVariables false
set_option linter.unusedSimpArgs false
namespace Go.Proofs.Ytkecgjmbamaejaa.P
open Go.RowKit Go.Proofs.YtkecgjmbamaejaaW.PrintWords Go.Proofs.YtkecgjmbamaejaaW.PrintLast Go.Proofs.YtkecgjmbamaejaaW.PrintMore
set_option linter.unusedVariables false

structure Locs (w W : World) (bs : List (Nat × Array Value × TypeId)) : Prop where
  below : Below w.heap.size w W
  blk : ∀ b ∈ bs, W.heap[b.1]? = some (.cells b.2.1 b.2.2 (0, 0))
  new : ∀ b ∈ bs, w.heap.size ≤ b.1
  apart : bs.Pairwise (fun a b => a.1 ≠ b.1)

def factsOf (W : World) : List (Nat × Array Value × TypeId) → Prop
  | [] => True
  | b :: r => ((∀ j, W.cell? ⟨b.1, j, none⟩ = b.2.1[j]?) ∧ (∀ j, W.frozen? ⟨b.1, j, none⟩ = false)) ∧ factsOf W r

theorem factsOf_all {W : World} : ∀ (bs : List (Nat × Array Value × TypeId)), (∀ b ∈ bs, W.heap[b.1]? = some (.cells b.2.1 b.2.2 (0, 0))) → factsOf W bs
  | [], _ => trivial
  | b :: r, h => ⟨⟨fun j => blk_cell (h b List.mem_cons_self) j, fun j => blk_frozen (h b List.mem_cons_self) j⟩, factsOf_all r (fun x hx => h x (List.mem_cons_of_mem _ hx))⟩

section
variable {w W W1 : World} {bs : List (Nat × Array Value × TypeId)}
theorem Locs.nil (w : World) : Locs w w [] := ⟨Below.refl _ _, fun b h => (List.not_mem_nil h).elim, fun b h => (List.not_mem_nil h).elim, List.Pairwise.nil⟩
theorem Locs.facts (h : Locs w W bs) : factsOf W bs := factsOf_all bs h.blk
theorem Locs.step (h : Locs w W bs) (k : Below W.heap.size W W1) : Locs w W1 bs :=
  ⟨below_step h.below k, fun b hb => blk_below (h.blk b hb) k, h.new, h.apart⟩
theorem Locs.drew (h : Locs w W bs) : Locs w W.drew bs := ⟨below_drew1 h.below, h.blk, h.new, h.apart⟩
theorem Locs.drewN (h : Locs w W bs) (n : Nat) : Locs w (W.drewN n) bs := ⟨pw_below_drewN h.below n, h.blk, h.new, h.apart⟩
theorem Locs.at (h : Locs w W bs) (i : Nat) {g : Nat} {cs : Array Value} {t : TypeId} (hi : bs[i]? = some (g, cs, t)) : W.heap[g]? = some (.cells cs t (0, 0)) := h.blk _ (List.mem_of_getElem? hi)
theorem Locs.ge (h : Locs w W bs) (i : Nat) {g : Nat} {cs : Array Value} {t : TypeId} (hi : bs[i]? = some (g, cs, t)) : w.heap.size ≤ g := h.new _ (List.mem_of_getElem? hi)
theorem Locs.lt (h : Locs w W bs) (b : Nat × Array Value × TypeId) (hb : b ∈ bs) : b.1 < W.heap.size := blk_lt (h.blk b hb)
theorem Locs.alloc (h : Locs w W bs) (cs : Array Value) (t : TypeId) : Locs w (W.alloc (.cells cs t (0, 0))) ((W.heap.size, cs, t) :: bs) := by
  refine ⟨below_alloc h.below _, fun b hb => ?_, fun b hb => ?_, List.Pairwise.cons (fun b hb => ?_) h.apart⟩
  · rcases List.mem_cons.1 hb with rfl | hb
    · exact blk_new W _
    · exact blk_alloc (h.blk b hb) _
  · rcases List.mem_cons.1 hb with rfl | hb
    · exact h.below.size
    · exact h.new b hb
  · exact Nat.ne_of_gt (h.lt b hb)
theorem Locs.set (h : Locs w W bs) (i : Nat) {g : Nat} {cs : Array Value} {t : TypeId} (hi : bs[i]? = some (g, cs, t)) (j : Nat) (v : Value) :
    Locs w (W.setCell ⟨g, j, none⟩ v) (bs.set i (g, cs.setIfInBounds j v, t)) := by
  have hlt : i < bs.length := (List.getElem?_eq_some_iff.1 hi).1
  have hgi : bs[i] = (g, cs, t) := (List.getElem?_eq_some_iff.1 hi).2
  have hkeys : (bs.set i (g, cs.setIfInBounds j v, t)).map (·.1) = bs.map (·.1) := by
    rw [List.map_set]
    have : (bs.map (·.1))[i]? = some g := by rw [List.getElem?_map, hi]; rfl
    apply List.ext_getElem?
    intro k
    by_cases hk : i = k
    · subst hk
      rw [List.getElem?_set_self (by simpa using hlt), this]
    · rw [List.getElem?_set_ne hk]
  refine ⟨below_set h.below (h.ge i hi), fun b hb => ?_, fun b hb => ?_, ?_⟩
  · obtain ⟨k, hk⟩ := List.mem_iff_getElem?.1 hb
    by_cases hki : i = k
    · subst hki
      rw [List.getElem?_set_self hlt] at hk
      injection hk with hk
      subst hk
      exact blk_set (h.at i hi) j v
    · rw [List.getElem?_set_ne hki] at hk
      have hkl : k < bs.length := (List.getElem?_eq_some_iff.1 hk).1
      have hne : b.1 ≠ g := by
        have hbk : bs[k] = b := (List.getElem?_eq_some_iff.1 hk).2
        have hp := List.pairwise_iff_getElem.1 h.apart
        rcases Nat.lt_or_gt_of_ne hki with hl | hl
        · have := hp i k hlt hkl hl
          rw [hgi, hbk] at this
          exact fun e => this e.symm
        · have := hp k i hkl hlt hl
          rw [hgi, hbk] at this
          exact this
      exact (Below.heap_setCell W ⟨g, j, none⟩ v b.1 hne).trans (h.blk b (List.mem_of_getElem? hk))
  · have : b.1 ∈ bs.map (·.1) := by rw [← hkeys]; exact List.mem_map.2 ⟨b, hb, rfl⟩
    obtain ⟨b2, hb2, e⟩ := List.mem_map.1 this
    rw [← e]; exact h.new b2 hb2
  · have h1 : (bs.map (·.1)).Pairwise (· ≠ ·) := List.pairwise_map.2 h.apart
    rw [← hkeys] at h1
    exact List.pairwise_map.1 h1
/-- some of them -/
theorem Locs.sub (h : Locs w W bs) {bs' : List (Nat × Array Value × TypeId)} (hs : bs'.Sublist bs) : Locs w W bs' :=
  ⟨h.below, fun b hb => h.blk b (hs.subset hb), fun b hb => h.new b (hs.subset hb), h.apart.sublist hs⟩
end
section
variable {P : Program} {ops : Array Oper} {rest : List Oper} {o : Oper} {a : Act} {Q : Exit → Act → World → Prop}
theorem box_locs {w W : World} {bs : List (Nat × Array Value × TypeId)} (HL : Locs w W bs) (hgd : o.guard = none) {N : Tmp} (_hd : o.dst = some N) {cs : Array Value} {t : TypeId}
    (hrun : (execOp a.eval o).run P W = .ok (.value (.pointer (some ⟨W.heap.size, 0, none⟩))) (W.alloc (.cells cs t (0, 0))))
    (h : ∀ g w1, Aside0 (Locs w w1 ((g, cs, t) :: bs)) → Aside0 (Below W.heap.size W w1) → wpList P ops Q rest (a.put o.dst (.pointer (some ⟨g, 0, none⟩))) w1) : wpList P ops Q (o :: rest) a W :=
  Kd.event_run hgd hrun (h _ _ ⟨HL.alloc cs t⟩ ⟨below_alloc (Below.refl _ _) _⟩)
end

theorem Locs.grown {w W W1 : World} {bs : List (Nat × Array Value × TypeId)} (h : Locs w W bs) {row : Option Nat} (hb : Below w.heap.size w W1) (hg : W.grownBy W1 row) (hne : ∀ b ∈ bs, some b.1 ≠ row) : Locs w W1 bs :=
  ⟨hb, fun b hb' => blk_grown (h.blk b hb') hg (hne b hb'), h.new, h.apart⟩

end Go.Proofs.Ytkecgjmbamaejaa.P
namespace Go.Proofs.Ytkecgjmbamaejaa.P
open Go.RowKit Go.Proofs.YtkecgjmbamaejaaW.PrintWords Go.Proofs.YtkecgjmbamaejaaW.PrintLast Go.Proofs.YtkecgjmbamaejaaW.PrintMore
set_option linter.unusedVariables false

theorem EI (t : Nat) (h : 3 ≠ t) : ∀ q, q ∈ 3 :: (Kd.int .i64).E → q ≠ t := by
  intro q hq
  rw [show (Kd.int .i64).E = [] from rfl, List.mem_singleton] at hq
  rw [hq]; exact h
section
variable {w W W1 : World} {g5 g8 : Nat} {vl vk : Value} {l : List Int} {kss : List (List Int)}
end
end Go.Proofs.Ytkecgjmbamaejaa.P
namespace Go.Proofs.Ytkecgjmbamaejaa.P
open Go.RowKit Go.Proofs.YtkecgjmbamaejaaW.PrintWords Go.Proofs.YtkecgjmbamaejaaW.PrintLast Go.Proofs.YtkecgjmbamaejaaW.PrintMore
set_option linter.unusedVariables false
theorem cut_rest {S G : Option Addr → Nat → Nat → World → Prop} {M : Prop} (h : (∀ A n c W, S A n c W → G A n c W) → M) (r : ∀ A n c W, S A n c W → G A n c W) : M := h r
section
variable {ops : Array Oper} {rest : List Oper} {o : Oper} {a : Act} {Q : Exit → Act → World → Prop} {Kc : Act → World → Prop} {w W : World} {g5 g8 : Nat} {vl vk : Value} {l : List Int} {kss : List (List Int)}
end
end Go.Proofs.Ytkecgjmbamaejaa.P
namespace Go.Proofs.Ytkecgjmbamaejaa.P
open Go.RowKit Go.Proofs.YtkecgjmbamaejaaW.PrintWords Go.Proofs.YtkecgjmbamaejaaW.PrintLast Go.Proofs.YtkecgjmbamaejaaW.PrintMore
set_option linter.unusedVariables false

/-- an element of a row of rows: it may be written anew, behind an event on what it leads to -/
theorem S_inner {α : Type} {d : Kd α} {e g n cap base : Nat} {ok : Nat → Prop} {W : World} {xs : List α} (h : Kd.S d e W base ok (.slice (some ⟨g, 0, none⟩) n cap) xs) (z : α) (i : Nat) (h1 : i < xs.length) :
    ∃ (oki : Nat → Prop) (c : List Value), c.length = d.sz ∧ d.M W base oki (xs.getD i z) c ∧ (∀ j u, c[j]? = some u → W.cell? ⟨g, i * d.sz + j, none⟩ = some u) ∧ (∀ j, W.frozen? ⟨g, i * d.sz + j, none⟩ = false) ∧ (∀ k, oki k → ok k ∧ k ≠ g) ∧
      ∀ (w1 : World) (row : Option Nat) (seg : List Value) (j : Nat) (x' : α), W.grownBy w1 row → (∀ k, row = some k → oki k) → j + seg.length ≤ d.sz → d.M w1 base (fun k => oki k ∨ W.heap.size ≤ k) x' (c.take j ++ seg ++ c.drop (j + seg.length)) →
        Kd.S d e (w1.setCells g (i * d.sz + j) seg) base (fun k => ok k ∨ W.heap.size ≤ k) (.slice (some ⟨g, 0, none⟩) n cap) (xs.set i x') ∧ w1.grownBy (w1.setCells g (i * d.sz + j) seg) (some g) := by
  have hn : n = xs.length := (Kd.S_reads' h).1
  have hgl : g < W.heap.size := Kd.S_lt h g rfl
  obtain ⟨oki, c, hcl, hM, hcc, hfr, hoki, hH⟩ := Kd.S_elem h z (i : Int) (by omega) (by omega)
  rw [Int.toNat_natCast] at hM hcc hfr
  refine ⟨oki, c, hcl, hM, hcc, hfr, hoki, fun w1 row seg j x' hg hrow hj hM' => ?_⟩
  have hH1 := Kd.H_grown (Kd.H_widen (Kd.H_mono hH (ok' := fun k => ok k ∨ W.heap.size ≤ k) (fun k hk => Or.inl hk))) hg (fun k hk => Or.inl (hrow k hk))
  obtain ⟨h2, h3⟩ := Kd.H_seg hH1 (by omega) (by omega) hj (fun q hq => d.K_one (d.K_of_M hM') q (List.mem_append_left _ (List.mem_append_right _ hq)))
  rw [Int.toNat_natCast] at h2 h3
  refine ⟨?_, h3⟩
  have hb := Kd.H_back h2 (Kd.M_step hM' (fun k hk hlt => h3.block k hlt (fun he => by
    injection he with he
    rcases hk with hk | hk
    · exact (hoki k hk).2 he
    · omega))) (fun k hk => hk.elim Or.inl (fun h => Or.inr ⟨Or.inr h, h⟩))
  rw [Int.toNat_natCast] at hb
  exact hb

structure S98 where
  f0 : Int
  f1 : Int
  f2 : List Int
def z98 : S98 := ⟨(0 : Int), (0 : Int), ([] : List Int)⟩
def k98 : Kd S98 := Kd.iso (Kd.pair (Kd.int .i64) (Kd.pair (Kd.int .i64) (Kd.slice 3 (Kd.int .i64)))) (fun x : S98 => (x.f0, x.f1, x.f2))
theorem k98_openM {w : World} {base : Nat} {ok : Nat → Prop} {x : S98} {cs : List Value} (h : k98.M w base ok x cs) : ∃ v2, cs = [.int .i64 x.f0, .int .i64 x.f1, v2] ∧ (Kd.int .i64).R 3 w base ok v2 x.f2 := by
  obtain ⟨_, _, rfl, rfl, _, _, rfl, rfl, v2, rfl, g2⟩ := h
  exact ⟨v2, rfl, g2⟩
theorem k98_mkM (w : World) (base : Nat) (ok : Nat → Prop) (x : S98) {v2 : Value} (g2 : (Kd.int .i64).R 3 w base ok v2 x.f2) : k98.M w base ok x [.int .i64 x.f0, .int .i64 x.f1, v2] :=
  ⟨[.int .i64 x.f0], [.int .i64 x.f1, v2], rfl, rfl, ⟨[.int .i64 x.f1], [v2], rfl, rfl, ⟨v2, rfl, g2⟩⟩⟩
theorem info98 : (Try.prog.info? 98).map (fun i => (i.zero, i.size, i.bytes)) = some (some (.agg #[(.int .i64 0), (.int .i64 0), .slice none 0 0]), 3, 40) := by kernel_rfl

structure ST (w W : World) (P : Nat → Prop) (vf vo : Value) (fs : List (List Int)) (ts : List S98) : Prop where
  below : Below w.heap.size w W
  pl : ∀ k, P k → k < W.heap.size
  ex : ∃ okF okO : Nat → Prop, Kd.S (Kd.slice 3 (Kd.int .i64)) 24 W w.heap.size okF vf fs ∧ Kd.S k98 98 W w.heap.size okO vo ts ∧ (∀ k, okF k → ¬ okO k) ∧ ∀ k, okF k ∨ okO k → ¬ P k
section
variable {w W W1 : World} {P : Nat → Prop} {vf vo : Value} {fs : List (List Int)} {ts : List S98}
theorem ST.step (h : ST w W P vf vo fs ts) (k : Below W.heap.size W W1) : ST w W1 P vf vo fs ts := by
  obtain ⟨okF, okO, h1, h2, h3, h4⟩ := h.ex
  exact ⟨below_step h.below k, fun g hg => Nat.lt_of_lt_of_le (h.pl g hg) k.size, okF, okO, Kd.S_below h1 k, Kd.S_below h2 k, h3, h4⟩
theorem ST.mono (h : ST w W P vf vo fs ts) {P' : Nat → Prop} (hp : ∀ k, P' k → P k) : ST w W P' vf vo fs ts := by
  obtain ⟨okF, okO, h1, h2, h3, h4⟩ := h.ex
  exact ⟨h.below, fun k hk => h.pl k (hp k hk), okF, okO, h1, h2, h3, fun k hk h5 => h4 k hk (hp k h5)⟩
/-- what is made now is nobody's -/
theorem ST.fresh (h : ST w W P vf vo fs ts) (k : Below W.heap.size W W1) (hs : W.heap.size < W1.heap.size) : ST w W1 (fun g => g = W.heap.size) vf vo fs ts := by
  obtain ⟨okF, okO, h1, h2, h3, h4⟩ := h.ex
  refine ⟨below_step h.below k, fun g hg => hg ▸ hs, fun g => okF g ∧ g < W.heap.size, fun g => okO g ∧ g < W.heap.size, Kd.S_old h1 k, Kd.S_old h2 k, fun g hg ho => h3 g hg.1 ho.1, fun g hg he => ?_⟩
  rcases hg with hg | hg <;> omega
/-- row i of the rows -/
theorem ST.frow (h : ST w W P vf vo fs ts) {i : Nat} (hi : i < fs.length) : ∃ (g cf : Nat) (vi : Value), vf = .slice (some ⟨g, 0, none⟩) fs.length cf ∧ W.cell? ⟨g, i, none⟩ = some vi ∧ W.frozen? ⟨g, i, none⟩ = false ∧ Kd.R (Kd.int .i64) 3 W w.heap.size (fun _ => True) vi (fs.getD i []) ∧
    ∀ (w1 : World) (v1 : Value) (X : List Int), Kd.R (Kd.int .i64) 3 w1 w.heap.size (fun _ => True) v1 X → W.grownBy w1 vi.ownBlock → Below w.heap.size w w1 → (v1.ownBlock = vi.ownBlock ∨ ∃ b, v1.ownBlock = some b ∧ W.heap.size ≤ b) →
      ST w (w1.setCell ⟨g, i, none⟩ v1) P vf vo (fs.set i X) ts ∧ w1.cell? ⟨g, i, none⟩ = some vi ∧ w1.frozen? ⟨g, i, none⟩ = false ∧ ∀ k, P k ∨ vo.ownBlock = some k → k < W.heap.size → (w1.setCell ⟨g, i, none⟩ v1).heap[k]? = W.heap[k]? := by
  obtain ⟨okF, okO, h1, h2, h3, h4⟩ := h.ex
  obtain ⟨g, cf, rfl, hbg, hlg, cells0, hgc⟩ := Kd.S_form h1 (by omega)
  obtain ⟨oki, c, hcl, hM, hcc, hfr, hoki, hback⟩ := S_inner h1 [] i hi
  obtain ⟨vi, rfl, hR⟩ := hM
  have hsz : (Kd.slice 3 (Kd.int .i64)).sz = 1 := rfl
  simp only [hsz, Nat.mul_one, Nat.add_zero] at hcc hfr hback
  have e0 := hcc 0 vi rfl
  have f0 := hfr 0
  rw [Nat.add_zero] at e0 f0
  refine ⟨g, cf, vi, rfl, e0, f0, Kd.R_mono hR (fun _ _ => trivial), fun w1 v1 X hX hg hb hat => ?_⟩
  have hvo : ∀ k, vo.ownBlock = some k → okO k := fun k hk => by obtain ⟨f, hf⟩ := h2; exact hf.1 k hk
  have hrow : ∀ k, vi.ownBlock = some k → oki k := fun k hk => hR.1 k hk
  have hv1 : ∀ k, some k = v1.ownBlock → oki k ∨ W.heap.size ≤ k := fun k hk => by
    rcases hat with he | ⟨b, he, hbb⟩
    · rw [he] at hk; exact Or.inl (hrow k hk.symm)
    · rw [he] at hk; injection hk with hk; subst hk; exact Or.inr hbb
  obtain ⟨s1, s2⟩ := hback w1 vi.ownBlock [v1] 0 X hg hrow (Nat.le_refl _) ⟨v1, rfl, Kd.R_mono (Kd.R_tight rfl hX) hv1⟩
  rw [Nat.add_zero] at s1 s2
  have hokF : ∀ k, vi.ownBlock = some k → okF k := fun k hk => (hoki k (hrow k hk)).1
  have hgF : okF g := by obtain ⟨f, hf⟩ := h1; exact hf.1 g rfl
  have hO : Kd.S k98 98 (w1.setCell ⟨g, i, none⟩ v1) w.heap.size (fun k => okO k ∧ k < W.heap.size) vo ts := by
    have a1 : Kd.S k98 98 W w.heap.size (fun k => okO k ∧ k < W.heap.size) vo ts := Kd.S_mono (Kd.S_bound h2) (fun k hk => ⟨hk.1, hk.2.2.1⟩)
    have a2 := Kd.S_grown a1 hg (fun k hk he => h3 k (hokF k he.symm) hk.1)
    exact Kd.S_far (p := ⟨g, i, none⟩) a2 (fun k hk he => h3 k (by rw [he]; exact hgF) hk.1) v1
  have hne : some g ≠ vi.ownBlock := fun he => (hoki g (hrow g he.symm)).2 rfl
  have hblk : ∀ k, k < W.heap.size → ¬ okF k → (w1.setCell ⟨g, i, none⟩ v1).heap[k]? = W.heap[k]? := fun k hk hn =>
    (Below.heap_setCell w1 ⟨g, i, none⟩ v1 k (fun he => hn (by rw [he]; exact hgF))).trans (hg.block k hk (fun he => hn (hokF k he.symm)))
  have hg1 : w1.heap[g]? = W.heap[g]? := hg.block g hlg hne
  refine ⟨⟨below_set hb hbg, fun k hk => Nat.lt_of_lt_of_le (h.pl k hk) (Nat.le_trans hg.size s2.size), fun k => okF k ∨ W.heap.size ≤ k, fun k => okO k ∧ k < W.heap.size, s1, hO, fun k hk ho => ?_, fun k hk hp => ?_⟩, ?_, ?_, fun k hp hk => hblk k hk (fun hf => hp.elim (h4 k (Or.inl hf)) (fun hv => h3 k hf (hvo k hv)))⟩
  · rcases hk with hk | hk
    · exact h3 k hk ho.1
    · have := ho.2; omega
  · rcases hk with (hk | hk) | hk
    · exact h4 k (Or.inl hk) hp
    · have := h.pl k hp; omega
    · exact h4 k (Or.inr hk.1) hp
  · have := e0
    unfold World.cell? at this ⊢
    simp only at this ⊢
    rw [hg1]
    exact this
  · have := f0
    unfold World.frozen? at this ⊢
    simp only at this ⊢
    rw [hg1]
    exact this
/-- a task -/
theorem ST.orow (h : ST w W P vf vo fs ts) {i : Nat} (hi : i < ts.length) : ∃ (g co : Nat) (vi : Value), vo = .slice (some ⟨g, 0, none⟩) ts.length co ∧
    (W.cell? ⟨g, i * 3, none⟩ = some (.int .i64 (ts.getD i z98).f0) ∧ W.cell? ⟨g, i * 3 + 1, none⟩ = some (.int .i64 (ts.getD i z98).f1) ∧ W.cell? ⟨g, i * 3 + 2, none⟩ = some vi) ∧
    (W.frozen? ⟨g, i * 3, none⟩ = false ∧ W.frozen? ⟨g, i * 3 + 1, none⟩ = false ∧ W.frozen? ⟨g, i * 3 + 2, none⟩ = false) ∧ Kd.R (Kd.int .i64) 3 W w.heap.size (fun _ => True) vi (ts.getD i z98).f2 ∧ (∀ k, P k → k ≠ g) ∧
    (∀ (a b : Int) (o : Bool), ST w (((W.setCell ⟨g, i * 3, none⟩ (.int .i64 a)).setCell ⟨g, i * 3 + 1, none⟩ (.int .i64 b)).setCell ⟨g, i * 3 + 2, none⟩ (if o = true then vi else .slice none 0 0)) P vf vo fs (ts.set i ⟨a, b, if o = true then (ts.getD i z98).f2 else []⟩)) ∧
    ∀ (w1 : World) (v1 : Value) (X : List Int), Kd.R (Kd.int .i64) 3 w1 w.heap.size (fun _ => True) v1 X → W.grownBy w1 vi.ownBlock → Below w.heap.size w w1 → (v1.ownBlock = vi.ownBlock ∨ ∃ b, v1.ownBlock = some b ∧ W.heap.size ≤ b) →
      ST w (w1.setCell ⟨g, i * 3 + 2, none⟩ v1) P vf vo fs (ts.set i ⟨(ts.getD i z98).f0, (ts.getD i z98).f1, X⟩) ∧ w1.cell? ⟨g, i * 3 + 2, none⟩ = some vi ∧ w1.frozen? ⟨g, i * 3 + 2, none⟩ = false := by
  obtain ⟨okF, okO, h1, h2, h3, h4⟩ := h.ex
  obtain ⟨g, co, rfl, hbg, hlg, cells0, hgc⟩ := Kd.S_form h2 (by omega)
  obtain ⟨oki, c, hcl, hM, hcc, hfr, hoki, hback⟩ := S_inner h2 z98 i hi
  obtain ⟨vi, rfl, hR⟩ := k98_openM hM
  have hsz : k98.sz = 3 := rfl
  simp only [hsz] at hcc hfr hback
  have e2 := hcc 2 _ rfl
  have f2 := hfr 2
  have hrow : ∀ k, vi.ownBlock = some k → oki k := fun k hk => hR.1 k hk
  have hgO : okO g := by obtain ⟨f, hf⟩ := h2; exact hf.1 g rfl
  have hF : ∀ (w1 : World) (row : Option Nat), W.grownBy w1 row → (∀ k, row = some k → oki k) → ∀ (j : Nat) (seg : List Value), (w1.grownBy (w1.setCells g j seg) (some g)) → Kd.S (Kd.slice 3 (Kd.int .i64)) 24 (w1.setCells g j seg) w.heap.size (fun k => okF k ∧ k < W.heap.size) vf fs := fun w1 row hg hr j seg hg2 => by
    have a1 : Kd.S (Kd.slice 3 (Kd.int .i64)) 24 W w.heap.size (fun k => okF k ∧ k < W.heap.size) vf fs := Kd.S_mono (Kd.S_bound h1) (fun k hk => ⟨hk.1, hk.2.2.1⟩)
    have a2 := Kd.S_grown a1 hg (fun k hk he => h3 k hk.1 (hoki k (hr k he.symm)).1)
    exact Kd.S_grown a2 hg2 (fun k hk he => by injection he with he; exact h3 k hk.1 (by rw [he]; exact hgO))
  have hST : ∀ (w1 : World) (row : Option Nat) (j : Nat) (seg : List Value) (x' : S98), W.grownBy w1 row → (∀ k, row = some k → oki k) → Below w.heap.size w (w1.setCells g (i * 3 + j) seg) → (w1.grownBy (w1.setCells g (i * 3 + j) seg) (some g)) →
      Kd.S k98 98 (w1.setCells g (i * 3 + j) seg) w.heap.size (fun k => okO k ∨ W.heap.size ≤ k) (.slice (some ⟨g, 0, none⟩) ts.length co) (ts.set i x') → ST w (w1.setCells g (i * 3 + j) seg) P vf (.slice (some ⟨g, 0, none⟩) ts.length co) fs (ts.set i x') := fun w1 row j seg x' hg hr hb hg2 hs => by
    refine ⟨hb, fun k hk => Nat.lt_of_lt_of_le (h.pl k hk) (Nat.le_trans hg.size hg2.size), fun k => okF k ∧ k < W.heap.size, fun k => okO k ∨ W.heap.size ≤ k, hF w1 row hg hr _ seg hg2, hs, fun k hk ho => ?_, fun k hk hp => ?_⟩
    · rcases ho with ho | ho
      · exact h3 k hk.1 ho
      · have := hk.2; omega
    · rcases hk with hk | (hk | hk)
      · exact h4 k (Or.inl hk.1) hp
      · exact h4 k (Or.inr hk) hp
      · have := h.pl k hp; omega
  refine ⟨g, co, vi, rfl, ⟨hcc 0 _ rfl, hcc 1 _ rfl, e2⟩, ⟨hfr 0, hfr 1, f2⟩, Kd.R_mono hR (fun _ _ => trivial), fun k hp he => h4 k (Or.inr (by rw [he]; exact hgO)) hp, fun a b o => ?_, fun w1 v1 X hX hg hb hat => ?_⟩
  · obtain ⟨s1, s2⟩ := hback W none [.int .i64 a, .int .i64 b, if o = true then vi else .slice none 0 0] 0 ⟨a, b, if o = true then (ts.getD i z98).f2 else []⟩ (World.grownBy.refl W _) (fun k hk => by cases hk) (Nat.le_refl _) (by
      cases o with
      | true => exact k98_mkM W w.heap.size _ ⟨a, b, (ts.getD i z98).f2⟩ (Kd.R_mono hR (fun k hk => Or.inl hk))
      | false => exact k98_mkM W w.heap.size _ ⟨a, b, []⟩ (Kd.R_nil _ _ _ _ _))
    exact hST W none 0 [.int .i64 a, .int .i64 b, if o = true then vi else .slice none 0 0] _ (World.grownBy.refl W _) (fun k hk => by cases hk) (show Below w.heap.size w (((W.setCell ⟨g, i * 3, none⟩ (.int .i64 a)).setCell ⟨g, i * 3 + 1, none⟩ (.int .i64 b)).setCell ⟨g, i * 3 + 2, none⟩ (if o = true then vi else .slice none 0 0)) from below_set (below_set (below_set h.below hbg) hbg) hbg) s2 s1
  · have hv1 : ∀ k, some k = v1.ownBlock → oki k ∨ W.heap.size ≤ k := fun k hk => by
      rcases hat with he | ⟨b, he, hbb⟩
      · rw [he] at hk; exact Or.inl (hrow k hk.symm)
      · rw [he] at hk; injection hk with hk; subst hk; exact Or.inr hbb
    obtain ⟨s1, s2⟩ := hback w1 vi.ownBlock [v1] 2 ⟨(ts.getD i z98).f0, (ts.getD i z98).f1, X⟩ hg hrow (Nat.le_refl _) (k98_mkM w1 w.heap.size _ ⟨(ts.getD i z98).f0, (ts.getD i z98).f1, X⟩ (Kd.R_mono (Kd.R_tight rfl hX) hv1))
    have hne : some g ≠ vi.ownBlock := fun he => (hoki g (hrow g he.symm)).2 rfl
    have hg1 : w1.heap[g]? = W.heap[g]? := hg.block g hlg hne
    refine ⟨hST w1 vi.ownBlock 2 [v1] _ hg hrow (below_set hb hbg) s2 s1, ?_, ?_⟩
    · have := e2
      unfold World.cell? at this ⊢
      simp only at this ⊢
      rw [hg1]
      exact this
    · have := f2
      unfold World.frozen? at this ⊢
      simp only at this ⊢
      rw [hg1]
      exact this
/-- a store into a foreign block -/
theorem ST.box (h : ST w W P vf vo fs ts) {g : Nat} (hp : P g) (hw : w.heap.size ≤ g) (j : Nat) (v : Value) : ST w (W.setCell ⟨g, j, none⟩ v) P vf vo fs ts := by
  obtain ⟨okF, okO, h1, h2, h3, h4⟩ := h.ex
  exact ⟨below_set h.below hw, fun k hk => Nat.lt_of_lt_of_le (h.pl k hk) (by simp), okF, okO, Kd.S_far (p := ⟨g, j, none⟩) h1 (fun k hk he => h4 k (Or.inl hk) (by rw [he]; exact hp)) v, Kd.S_far (p := ⟨g, j, none⟩) h2 (fun k hk he => h4 k (Or.inr hk) (by rw [he]; exact hp)) v, h3, h4⟩
theorem cell_same {W W1 : World} {g j : Nat} (h : W1.heap[g]? = W.heap[g]?) : W1.cell? ⟨g, j, none⟩ = W.cell? ⟨g, j, none⟩ := by
  unfold World.cell?
  simp only
  rw [h]
/-- the tasks are fewer -/
theorem ST.otake {A : Option Addr} {n c : Nat} (h : ST w W P vf (.slice A n c) fs ts) {m : Nat} (hm : m ≤ ts.length) : ST w W P vf (.slice A m c) fs (ts.take m) := by
  obtain ⟨okF, okO, h1, h2, h3, h4⟩ := h.ex
  exact ⟨h.below, h.pl, okF, okO, h1, Kd.S_take h2 hm, h3, h4⟩
end
end Go.Proofs.Ytkecgjmbamaejaa.P
namespace Go.Proofs.Ytkecgjmbamaejaa.P
open Go.RowKit Go.Proofs.YtkecgjmbamaejaaW.PrintWords Go.Proofs.YtkecgjmbamaejaaW.PrintLast Go.Proofs.YtkecgjmbamaejaaW.PrintMore
set_option linter.unusedVariables false
section
variable {ops : Array Oper} {rest : List Oper} {o : Oper} {a : Act} {Q : Exit → Act → World → Prop} {Kc : Act → World → Prop} {w W : World} {P : Nat → Prop} {vf vo vi : Value} {fs : List (List Int)} {ts : List S98} {l : List Int}
theorem int_app (hgd : o.guard = none) (s x : Operand) (ho : o.op = .call { callee := .builtin .append, args := #[s, x], argTypes := #[24, 24] }) (HR : Kd.R (Kd.int .i64) 3 W w.heap.size (fun _ => True) vi l) (HB : Below w.heap.size w W) (hs : a.eval s = vi) (y : Int)
    (hx : a.eval x = .slice (some ⟨W.heap.size, 0, none⟩) 1 1) (hl : l.length ≤ 8388608)
    (h : ∀ A1 n1 c1 w1, Kd.R (Kd.int .i64) 3 w1 w.heap.size (fun _ => True) (.slice A1 n1 c1) (l ++ [y]) → W.grownBy w1 vi.ownBlock → Below w.heap.size w w1 → ((Value.slice A1 n1 c1).ownBlock = vi.ownBlock ∨ ∃ b, (Value.slice A1 n1 c1).ownBlock = some b ∧ W.heap.size ≤ b) →
      wpList Try.prog ops Q rest (a.put o.dst (.slice A1 n1 c1)) w1) :
    wpList Try.prog ops Q (o :: rest) a (W.alloc (.cells #[.int .i64 y] 3)) := by
  refine Kd.R_append (Kd.int .i64) (w0 := w) w.heap.size hgd s x 24 3 (.int .i64 0) 8 ho Try.underlying24 info3 rfl (by decide) (by omega) vi l y [.int .i64 y] (fun _ => True) (fun _ => False) hs hx rfl (fun _ h => h.elim) (fun _ _ => trivial) HR HB HB.size (by omega) ?_
  intro v1 w1 hR hb hg hat
  obtain ⟨A1, c1, rfl⟩ := Kd.R_slice hR
  exact h A1 _ c1 w1 hR hg hb hat
theorem int_app_step {E : Prop} (hgd : o.guard = none) (s x : Operand) (ho : o.op = .call { callee := .builtin .append, args := #[s, x], argTypes := #[24, 24] }) (HR : Kd.R (Kd.int .i64) 3 W w.heap.size (fun _ => True) vi l) (HB : Below w.heap.size w W) (hs : a.eval s = vi) (y : Int)
    (hx : a.eval x = .slice (some ⟨W.heap.size, 0, none⟩) 1 1) (hl : l.length ≤ 8388608)
    (h : ∀ A1 n1 c1 w1, Kd.R (Kd.int .i64) 3 w1 w.heap.size (fun _ => True) (.slice A1 n1 c1) (l ++ [y]) → W.grownBy w1 vi.ownBlock → Below w.heap.size w w1 → ((Value.slice A1 n1 c1).ownBlock = vi.ownBlock ∨ ∃ b, (Value.slice A1 n1 c1).ownBlock = some b ∧ W.heap.size ≤ b) →
      Kc (a.put o.dst (.slice A1 n1 c1)) w1) :
    if Region.wanted o (yielded ops a.tmps) = true then Oper.wp Try.prog o a (W.alloc (.cells #[.int .i64 y] 3)) Kc Q else E := by
  have hw : Region.wanted o (yielded ops a.tmps) = true := by simp [Region.wanted, hgd]
  have h1 := Kd.R_append_step (P := Try.prog) (ops := ops) (o := o) (a := a) (Q := Q) (Kc := Kc) (Kd.int .i64) (w0 := w) w.heap.size hw s x 24 3 (.int .i64 0) 8 ho Try.underlying24 info3 rfl (by decide) (by omega) vi l y [.int .i64 y] (fun _ => True) (fun _ => False) hs hx rfl (fun _ h => h.elim) (fun _ _ => trivial) HR HB HB.size (by omega) (by
      intro v1 w1 hR hb hg hat
      obtain ⟨A1, c1, rfl⟩ := Kd.R_slice hR
      exact h A1 _ c1 w1 hR hg hb hat)
  rw [if_pos hw] at h1 ⊢
  exact h1
theorem ste_push (hgd : o.guard = none) (s x : Operand) (ho : o.op = .call { callee := .builtin .append, args := #[s, x], argTypes := #[99, 99] }) (H : ST w W P vf vo fs ts) (hs : a.eval s = vo) (y : Int)
    (hx : a.eval x = .slice (some ⟨W.heap.size, 0, none⟩) 1 1) (hl : ts.length ≤ 8388608)
    (h : ∀ A1 n1 c1 w1, ST w w1 P vf (.slice A1 n1 c1) fs (ts ++ [⟨-1, y, []⟩]) → wpList Try.prog ops Q rest (a.put o.dst (.slice A1 n1 c1)) w1) :
    wpList Try.prog ops Q (o :: rest) a (W.alloc (.cells #[.int .i64 (-1), .int .i64 y, .slice none 0 0] 98)) := by
  obtain ⟨okF, okO, h1, h2, h3, h4⟩ := H.ex
  refine Kd.S_append k98 (w0 := w) w.heap.size hgd s x 99 98 (.agg #[(.int .i64 0), (.int .i64 0), .slice none 0 0]) 40 ho Try.underlying99 info98 rfl (by decide) (by omega) vo ts ⟨-1, y, []⟩ [.int .i64 (-1), .int .i64 y, .slice none 0 0] (fun k => okO k ∨ W.heap.size ≤ k) (fun _ => False) hs hx
    (k98_mkM W w.heap.size _ ⟨-1, y, []⟩ (Kd.R_nil _ _ _ _ _)) (fun _ h => h.elim) (fun k hk => Or.inr hk) (Kd.S_mono h2 (fun k hk => ⟨Or.inl hk, fun h => h⟩)) H.below H.below.size (by omega) ?_
  intro v1 w1 hS hb hg hat
  obtain ⟨A1, c1, rfl⟩ := Kd.S_slice hS
  have hvo : ∀ k, vo.ownBlock = some k → okO k := fun k hk => by obtain ⟨f, hf⟩ := h2; exact hf.1 k hk
  have hF : Kd.S (Kd.slice 3 (Kd.int .i64)) 24 w1 w.heap.size (fun k => okF k ∧ k < W.heap.size) vf fs :=
    Kd.S_grown (Kd.S_mono (Kd.S_bound h1) (fun k hk => ⟨hk.1, hk.2.2.1⟩)) hg (fun k hk he => h3 k hk.1 (hvo k he.symm))
  refine h A1 _ c1 w1 ⟨hb, fun k hk => Nat.lt_of_lt_of_le (H.pl k hk) hg.size, fun k => okF k ∧ k < W.heap.size, fun k => okO k ∨ W.heap.size ≤ k, hF, hS, fun k hk ho => ?_, fun k hk hp => ?_⟩
  · rcases ho with ho | ho
    · exact h3 k hk.1 ho
    · have := hk.2; omega
  · rcases hk with hk | (hk | hk)
    · exact h4 k (Or.inl hk.1) hp
    · exact h4 k (Or.inr hk) hp
    · have := H.pl k hp; omega
end

def tS (t : DT) : S98 := ⟨t.last, t.by_, t.out⟩
def tsAt (ks : List Int) (i : Nat) : List S98 := (dts ks i).reverse.map tS
def fsAt (ks : List Int) (i : Nat) : List (List Int) := (List.range i).map (frm ks) ++ List.replicate (ks.length - i) []
theorem dts_len (ks : List Int) : ∀ i, (dts ks i).length = (frs ks i).length
  | 0 => rfl
  | i + 1 => by
    have ih := dts_len ks i
    show (dstep _ _ (dts ks i)).length = (stepF _ _ (frs ks i)).length
    cases hd : dts ks i with
    | nil =>
      rw [hd] at ih
      exact absurd (List.eq_nil_of_length_eq_zero ih.symm) (frs_ne ks i)
    | cons t u =>
      cases hf : frs ks i with
      | nil => exact absurd hf (frs_ne ks i)
      | cons f r =>
        rw [hd, hf] at ih
        simp only [List.length_cons] at ih
        simp only [dstep, stepF]
        by_cases k0 : ks.getD i 0 = 0
        · rw [if_pos k0, if_pos k0]; simp only [List.length_cons]; omega
        · rw [if_neg k0, if_neg k0]
          by_cases k1 : ks.getD i 0 = 1
          · rw [if_pos k1, if_pos k1]
            cases u with
            | nil =>
              cases r with
              | nil => rfl
              | cons g r2 => simp at ih
            | cons t2 u2 =>
              cases r with
              | nil => simp at ih
              | cons g r2 => simp only [List.length_cons] at ih ⊢; omega
          · rw [if_neg k1, if_neg k1]
            by_cases k2 : ks.getD i 0 = 2
            · rw [if_pos k2]; simp only [List.length_cons]; omega
            · rw [if_neg k2]; simp only [List.length_cons]; omega
theorem frs_le (ks : List Int) : ∀ i, (frs ks i).length ≤ i + 1
  | 0 => Nat.le_refl _
  | i + 1 => by
    have ih := frs_le ks i
    show (stepF _ _ (frs ks i)).length ≤ _
    cases hf : frs ks i with
    | nil => exact Nat.zero_le _
    | cons f r =>
      rw [hf] at ih
      simp only [List.length_cons] at ih
      simp only [stepF]
      split
      · simp only [List.length_cons]; omega
      · split
        · cases r with
          | nil => simp only [List.length_cons, List.length_nil]; omega
          | cons g r2 => simp only [List.length_cons] at ih ⊢; omega
        · split <;> (simp only [List.length_cons]; omega)
theorem dts_cons (ks : List Int) (i : Nat) : ∃ t u, dts ks i = t :: u := by
  cases hd : dts ks i with
  | nil =>
    have := dts_len ks i
    rw [hd] at this
    exact absurd (List.eq_nil_of_length_eq_zero this.symm) (frs_ne ks i)
  | cons t u => exact ⟨t, u, rfl⟩
theorem fsAt_zero (ks : List Int) : fsAt ks 0 = List.replicate ks.length [] := rfl
theorem fsAt_len {ks : List Int} {i : Nat} (h : i ≤ ks.length) : (fsAt ks i).length = ks.length := by unfold fsAt; rw [List.length_append, List.length_map, List.length_range, List.length_replicate]; omega
theorem fsAt_at {ks : List Int} {i : Nat} (h : i < ks.length) : (fsAt ks i).getD i [] = [] := by
  unfold fsAt
  rw [List.getD_eq_getElem?_getD, List.getElem?_append_right (by rw [List.length_map, List.length_range]; omega), List.length_map, List.length_range, Nat.sub_self, List.getElem?_replicate]
  split <;> rfl
theorem fsAt_set {ks : List Int} {i : Nat} (h : i < ks.length) : (fsAt ks i).set i (frm ks i) = fsAt ks (i + 1) := by
  unfold fsAt
  have hl : ((List.range i).map (frm ks)).length = i := by rw [List.length_map, List.length_range]
  rw [List.set_append_right _ _ (by omega), hl, Nat.sub_self, List.range_succ, List.map_append, List.append_assoc]
  congr 1
  rw [show ks.length - i = (ks.length - (i + 1)) + 1 by omega, List.replicate_succ, List.set_cons_zero]
  rfl
theorem fsAt_nil {ks : List Int} {i : Nat} (h : i < ks.length) : (fsAt ks i).set i [] = fsAt ks i := by
  apply List.ext_getElem?
  intro q
  rw [List.getElem?_set]
  by_cases e : i = q
  · subst e
    have hl : i < (fsAt ks i).length := by rw [fsAt_len (by omega)]; exact h
    have := fsAt_at h
    rw [List.getD_eq_getElem?_getD, List.getElem?_eq_getElem hl] at this
    rw [if_pos rfl, if_pos hl, List.getElem?_eq_getElem hl]
    exact congrArg some this.symm
  · rw [if_neg e]
theorem fsAt_full (ks : List Int) : fsAt ks ks.length = (List.range ks.length).map (frm ks) := by unfold fsAt; rw [Nat.sub_self, List.replicate_zero, List.append_nil]
theorem set_set {α : Type} (l : List α) (i : Nat) (x y : α) : (l.set i x).set i y = l.set i y := List.set_set _
theorem set_at {α : Type} (l : List α) (i : Nat) (x z : α) (h : i < l.length) : (l.set i x).getD i z = x := by rw [List.getD_eq_getElem?_getD, List.getElem?_set_self h]; rfl
/-- a round's tasks -/
theorem tsAt_cons {ks : List Int} {i : Nat} {t : DT} {u : List DT} (h : dts ks i = t :: u) : tsAt ks i = u.reverse.map tS ++ [tS t] := by unfold tsAt; rw [h, List.reverse_cons, List.map_append]; rfl
theorem snoc_at {α : Type} (l : List α) (x z : α) : (l ++ [x]).getD l.length z = x := by rw [List.getD_eq_getElem?_getD, List.getElem?_append_right (Nat.le_refl _), Nat.sub_self]; rfl
theorem snoc_set {α : Type} (l : List α) (x y : α) : (l ++ [x]).set l.length y = l ++ [y] := by rw [List.set_append_right _ _ (Nat.le_refl _), Nat.sub_self]; rfl
theorem tsAt_spawn {ks : List Int} {i : Nat} {t : DT} {u : List DT} (h : dts ks i = t :: u) (k0 : ks.getD i 0 = 0) : tsAt ks (i + 1) = (u.reverse.map tS ++ [⟨i, t.by_, t.out⟩]) ++ [⟨-1, i, []⟩] := by
  have e : dts ks (i + 1) = ⟨-1, i, []⟩ :: ⟨i, t.by_, t.out⟩ :: u := by
    show dstep _ _ (dts ks i) = _
    rw [h]
    simp only [dstep]
    rw [if_pos k0]
    unfold dself
    rw [if_neg (by omega)]
  rw [tsAt_cons e, List.reverse_cons, List.map_append]
  rfl
theorem tsAt_sync {ks : List Int} {i : Nat} {t : DT} {u : List DT} (h : dts ks i = t :: u) (k2 : ks.getD i 0 = 2) : tsAt ks (i + 1) = u.reverse.map tS ++ [⟨i, t.by_, []⟩] := by
  have e : dts ks (i + 1) = ⟨i, t.by_, []⟩ :: u := by
    show dstep _ _ (dts ks i) = _
    rw [h]
    simp only [dstep]
    rw [if_neg (by omega), if_neg (by omega)]
    unfold dself
    rw [if_pos (Or.inl k2)]
  rw [tsAt_cons e]
  rfl
theorem tsAt_other {ks : List Int} {i : Nat} {t : DT} {u : List DT} (h : dts ks i = t :: u) (k0 : ks.getD i 0 ≠ 0) (k1 : ks.getD i 0 ≠ 1) (k2 : ks.getD i 0 ≠ 2) : tsAt ks (i + 1) = u.reverse.map tS ++ [⟨i, t.by_, t.out⟩] := by
  have e : dts ks (i + 1) = ⟨i, t.by_, t.out⟩ :: u := by
    show dstep _ _ (dts ks i) = _
    rw [h]
    simp only [dstep]
    rw [if_neg k0, if_neg k1]
    unfold dself
    rw [if_neg (by omega)]
  rw [tsAt_cons e]
  rfl
theorem tsAt_ret {ks : List Int} {i : Nat} {t g : DT} {u : List DT} (h : dts ks i = t :: g :: u) (k1 : ks.getD i 0 = 1) : tsAt ks (i + 1) = u.reverse.map tS ++ [⟨g.last, g.by_, g.out ++ [(i : Int)]⟩] := by
  have e : dts ks (i + 1) = ⟨g.last, g.by_, g.out ++ [(i : Int)]⟩ :: u := by
    show dstep _ _ (dts ks i) = _
    rw [h]
    simp only [dstep]
    rw [if_neg (by omega), if_pos k1]
  rw [tsAt_cons e]
  rfl
theorem dts_out (ks : List Int) : ∀ i, ∀ t ∈ dts ks i, t.out.length ≤ i
  | 0, t, h => by rw [List.mem_singleton.1 h]; exact Nat.le_refl _
  | i + 1, t, h => by
    have ih := dts_out ks i
    have hs : ∀ x ∈ dts ks i, (dself (ks.getD i 0) i x).out.length ≤ i := fun x hx => by
      unfold dself
      show (if _ then [] else x.out : List Int).length ≤ i
      split
      · exact Nat.zero_le _
      · exact ih x hx
    have h2 : t ∈ dstep (ks.getD i 0) i (dts ks i) := h
    cases hd : dts ks i with
    | nil => rw [hd] at h2; cases h2
    | cons a u =>
      rw [hd] at h2 ih hs
      have ha := hs a List.mem_cons_self
      simp only [dstep] at h2
      split at h2
      · rcases List.mem_cons.1 h2 with rfl | h2
        · exact Nat.zero_le _
        rcases List.mem_cons.1 h2 with rfl | h2
        · omega
        · have := ih t (List.mem_cons_of_mem _ h2); omega
      · split at h2
        · cases u with
          | nil => rw [List.mem_singleton.1 h2]; omega
          | cons g u2 =>
            rcases List.mem_cons.1 h2 with rfl | h2
            · have := ih g (List.mem_cons_of_mem _ List.mem_cons_self)
              show (g.out ++ [(i : Int)]).length ≤ i + 1
              rw [List.length_append, List.length_singleton]
              omega
            · have := ih t (List.mem_cons_of_mem _ (List.mem_cons_of_mem _ h2)); omega
        · rcases List.mem_cons.1 h2 with rfl | h2
          · omega
          · have := ih t (List.mem_cons_of_mem _ h2); omega
theorem frm_eq {ks : List Int} {i : Nat} {t : DT} {u : List DT} (h : dts ks i = t :: u) : frm ks i = dfrom (ks.getD i 0) t := by unfold frm; rw [h]; rfl
theorem fs_next {ks : List Int} {i : Nat} {t : DT} {u : List DT} {p : List Int} (h : i < ks.length) (hd : dts ks i = t :: u) (hp : p = dfrom (ks.getD i 0) t) : (fsAt ks i).set i p = fsAt ks (i + 1) := by
  rw [hp, ← frm_eq hd]; exact fsAt_set h
theorem frm_no {k kd : Int} {la tb : Int} {out : List Int} (h : k = kd) (h1 : kd ≠ 1) (h2 : kd ≠ 2) : dfrom k ⟨la, tb, out⟩ = (if la ≥ 0 then [la] else if tb ≥ 0 then [tb] else []) := by
  unfold dfrom
  rw [h, if_neg (show ¬ (kd = 2 ∨ kd = 1) by omega), List.append_nil]
theorem frm_yes {k : Int} {la tb : Int} {out : List Int} (h : k = 2 ∨ k = 1) : dfrom k ⟨la, tb, out⟩ = (if la ≥ 0 then [la] else if tb ≥ 0 then [tb] else []) ++ out := by
  unfold dfrom
  rw [if_pos h]
theorem int_suc (k : Nat) : Value.int .i64 ((k : Int) + 1) = Value.int .i64 ((k + 1 : Nat) : Int) := by rw [Int.natCast_add]; rfl
theorem take_rd {l : List Int} {j : Nat} (h : j < l.length) : l.take j ++ [rdOf (0 : Int) l (j : Int)] = l.take (j + 1) := by
  rw [List.take_succ_eq_append_getElem h]
  congr 2
  unfold rdOf
  rw [Int.toNat_natCast, List.getD_eq_getElem?_getD, List.getElem?_eq_getElem h]
  rfl
end Go.Proofs.Ytkecgjmbamaejaa.P
