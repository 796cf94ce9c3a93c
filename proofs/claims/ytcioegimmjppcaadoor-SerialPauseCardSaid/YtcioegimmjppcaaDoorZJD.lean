/- serial.Eval and serial.Tree: their answers as plain functions, and their calls, in the print's form. -/
import Derived.Deep.RegionLaw
import Derived.Laws.Pointers
import Derived.Recover
import Derived.Test.YtcioegimmjppcaaDoorZJB
import Derived.Test.YtcioegimmjppcaaDoorZJC
set_option linter.unusedVariables false
set_option linter.unusedSimpArgs false
/-! serial's play (machine side). -/
namespace Go.Proofs.YtcioegimmjppcaaDoor.P
open Go.RowKit Go.Proofs.YtcioegimmjppcaaDoorW.PrintWords Go.Proofs.YtcioegimmjppcaaDoorW.PrintLast Go.Proofs.YtcioegimmjppcaaDoorW.PrintMore
set_option linter.unusedVariables false
set_option linter.unusedSimpArgs false
set_option maxHeartbeats 1000000
set_option maxRecDepth 100000
attribute [local go_sem] max2_int max_two

theorem u43 : Tryd.prog.underlying 43 = some (.slice 49) := by kernel_rfl
theorem info49n : (Tryd.prog.info? 49).map (fun i => (i.zero, i.size, i.bytes)) = some (some (.agg #[.int .i64 0, .int .i64 0, .int .i64 0, .int .i64 0, .int .i64 0, .int .i64 0, .int .i64 0]), 7, 56) := by kernel_rfl

def cellOf (W : World) (a : Addr) : Value := (W.cell? a).getD undef
theorem cellOf_eq {W : World} {a : Addr} {v : Value} (h : W.cell? a = some v) : W.cell? a = some (cellOf W a) := by
  unfold cellOf
  rw [h]
  rfl

theorem node_state {w0 W : World} {gr g6 gt gn m cap : Nat} {A : Option Addr} {n c : Nat} {rs : RS} {vE : Value} {ends : List Int} {cs ct : Array Value} (h : RB w0 W gr [(g6, cs, 36), (gt, ct, 78)] A n c rs (.slice (some ⟨gn, 0, none⟩) m cap) vE ends) (i : Nat) (hi : i < rs.nodes.length) :
    (∀ j, W.cell? ⟨gr, j, none⟩ = (runC A n c rs (.slice (some ⟨gn, 0, none⟩) m cap))[j]?) ∧ (∀ j, W.cell? ⟨g6, j, none⟩ = cs[j]?) ∧ (∀ j, W.cell? ⟨gt, j, none⟩ = ct[j]?) ∧
    W.cell? ⟨gn, i * 7 + 6, none⟩ = some (cellOf W ⟨gn, i * 7 + 6, none⟩) ∧ W.frozen? ⟨gn, i * 7 + 6, none⟩ = false ∧ W.cell? ⟨gn, i * 7 + 3, none⟩ = some (cellOf W ⟨gn, i * 7 + 3, none⟩) ∧ W.frozen? ⟨gn, i * 7 + 3, none⟩ = false := by
  have hN := h.N
  unfold NR at hN
  have hl := hN.1
  rcases hN.2 with ⟨e, _⟩ | ⟨g', cap', cur, e, hb, hg, hnc, hcm, hcs, htake⟩
  · cases e
  · injection e with e1 e2 e3
    injection e1 with e1
    injection e1 with e1
    subst e1
    have hc : ∀ j, j < rs.nodes.length * 7 → ∃ v, W.cell? ⟨gn, j, none⟩ = some v := fun j hj => by
      rw [blk_cell hg]
      exact ⟨_, Array.getElem?_eq_getElem (by rw [hcs]; have := Nat.mul_le_mul_right 7 hnc; omega)⟩
    obtain ⟨v6, h6⟩ := hc (i * 7 + 6) (by omega)
    obtain ⟨v3, h3⟩ := hc (i * 7 + 3) (by omega)
    exact ⟨fun j => blk_cell h.blkR j, fun j => blk_cell (h.L.at 1 rfl) j, fun j => blk_cell (h.L.at 2 rfl) j, cellOf_eq h6, blk_frozen hg _, cellOf_eq h3, blk_frozen hg _⟩

theorem cnt_tick {rs : RS} {t : TS} {U : Int} (h : Cnt rs t U) (hl : rs.left ≠ 0) (i : Ins) : Cnt { rs with left := rs.left - 1 } (tick t i) U := by
  obtain ⟨u1, u2, u3, u4, u5, u6, u7⟩ := h
  refine ⟨u1, ?_, ?_, ?_, ?_, ?_, u7⟩
  · show 0 ≤ (if i.kind = 6 then t.c else t.c + 1) ∧ (if i.kind = 6 then t.c else t.c + 1) + ((rs.left - 1 : Nat) : Int) ≤ U
    split <;> omega
  · show 0 ≤ t.work + 1 ∧ t.work + 1 + ((rs.left - 1 : Nat) : Int) ≤ U
    omega
  · show 0 ≤ t.kids ∧ t.kids + ((rs.left - 1 : Nat) : Int) ≤ U
    omega
  · intro e he
    have := u5 e he
    show 0 ≤ e ∧ e + ((rs.left - 1 : Nat) : Int) ≤ U
    omega
  · show (t.ends.length : Int) + ((rs.left - 1 : Nat) : Int) ≤ U
    omega

theorem insOf_map (L : List S39) (f p : Nat) (hf : f < L.length) (hp : p < (rd_T39 L (f : Int)).f3.length) : insOf (L.map fnS) (f : Int) (p : Int) = insS (rd_T36 (rd_T39 L (f : Int)).f3 (p : Int)) := by
  unfold insOf
  rw [fnOf_map L (f : Int) (by omega) (by omega)]
  show ((rd_T39 L (f : Int)).f3.map insS).getD (p : Int).toNat default = _
  unfold rd_T36
  rw [Int.toNat_natCast, List.getD_eq_getElem?_getD, List.getElem?_map, List.getElem?_eq_getElem hp, List.getD_eq_getElem?_getD, List.getElem?_eq_getElem hp]
  rfl

section
variable {ops : Array Oper} {o : Oper} {a : Act} {Q : Exit → Act → World → Prop} {Kc : Act → World → Prop}
theorem nodes_append {E : Prop} {w0 W : World} {gr : Nat} {bs : List (Nat × Array Value × TypeId)} {A : Option Addr} {n c : Nat} {rs : RS} {vN vE : Value} {ends : List Int} (hgd : o.guard = none) (s x : Operand)
    (ho : o.op = .call { callee := .builtin .append, args := #[s, x], argTypes := #[43, 43] }) (HB : RB w0 W gr bs A n c rs vN vE ends) (hs : a.eval s = vN) (nd : Nd) (hx : a.eval x = .slice (some ⟨W.heap.size, 0, none⟩) 1 1) (hl : rs.nodes.length ≤ 8388608)
    (h : ∀ v1 w1, Aside0 (Locs w0 w1 ((gr, runC A n c rs vN, 68) :: bs)) → Aside0 (RB w0 (w1.setCell ⟨gr, 4, none⟩ v1) gr bs A n c { rs with nodes := rs.nodes ++ [nd] } v1 vE ends) → Aside0 (∀ k, k < W.heap.size → vN.ownBlock ≠ some k → w1.heap[k]? = W.heap[k]?) →
      Aside0 (v1.ownBlock = vN.ownBlock ∨ ∃ b, v1.ownBlock = some b ∧ W.heap.size ≤ b) → Aside0 (W.heap.size ≤ w1.heap.size) → (∃ A1 c1, v1 = .slice A1 (rs.nodes.length + 1) c1) → Kc (a.put o.dst v1) w1) :
    if Region.wanted o (yielded ops a.tmps) = true then Oper.wp Tryd.prog o a (W.alloc (.cells #[.int .i64 nd.parent, .int .i64 nd.index, .int .i64 nd.func, .int .i64 nd.work, .int .i64 nd.ped, .int .i64 nd.arg, .int .i64 nd.v] 49)) Kc Q else E := by
  have hw : Region.wanted o (yielded ops a.tmps) = true := by simp [Region.wanted, hgd]
  have h1 := step_append_cells (P := Tryd.prog) (ops := ops) (o := o) (a := a) (Q := Q) (K := Kc) (w0 := w0) w0.heap.size hw s x 43 49 _ 7 56 ho u43 info49n rfl (by decide) (by omega) vN rs.nodes.length (flatN rs.nodes) (nodeL nd) hs hx rfl (fun u hu => by
      simp only [nodeL, List.mem_cons, List.not_mem_nil, or_false] at hu
      rcases hu with rfl | rfl | rfl | rfl | rfl | rfl | rfl <;> rfl) HB.N HB.L.below HB.L.below.size (by omega) (by
      intro v1 w1 hown hb hg hat
      have hN : NR w1 w0.heap.size v1 (rs.nodes ++ [nd]) := by
        unfold NR
        rw [List.length_append, List.length_singleton, flatN_app, show flatN [nd] = nodeL nd by simp [flatN]]
        exact hown
      obtain ⟨g1, g2⟩ := HB.grewN hb hg hN hat
      refine h v1 w1 ⟨g1⟩ ⟨g2⟩ ⟨fun k hk hne => hg.block k hk (fun e => hne e.symm)⟩ ⟨hat⟩ ⟨hg.size⟩ ?_
      rcases hown.2 with ⟨-, e⟩ | ⟨g', cap', cur, e, -⟩
      · omega
      · exact ⟨_, _, e⟩)
  rw [if_pos hw] at h1 ⊢
  exact h1
end

theorem cut_rest {S G : Option Addr → Nat → World → Prop} {M : Prop} (h : (∀ A c W, S A c W → G A c W) → M) (r : ∀ A c W, S A c W → G A c W) : M := h r

theorem play_calls {L : List S39} : ∀ m, PLAY L m := by
  intro m
  induction m using Nat.strongRecOn with
  | _ m ih => ?_
  intro w0 w ad c gr gt rs t vN parent index hC hcL hV h hAt hends hwork hc hkids hdep hB hB1 hB2 hm
  have HR := Aside0.mk h
  have HC := Aside0.mk hC
  have HV := Aside0.mk hV
  have HAT := Aside0.mk hAt
  have HT0 := Aside0.mk (And.intro hends (And.intro hwork (And.intro hc (And.intro hkids hdep))))
  have HB := Aside0.mk (And.intro hB (And.intro hB1 hB2))
  have HIH := Aside0.mk ih
  have HLL : Aside0 (TLen t) := ⟨⟨hAt.regs, hAt.slots⟩⟩
  have hft := taskC_facts (ev := .slice none 0 0) HLL.out
  have hu36 := Tryd.underlying36
  have hu78 := Tryd.underlying78
  obtain ⟨vA, vc, hvn⟩ : ∃ A1 c1, vN = .slice A1 rs.nodes.length c1 := by
    have hN := h.N
    unfold NR at hN
    rcases hN.2 with ⟨e, e2⟩ | ⟨g', cap', cur, e, -⟩
    · exact ⟨none, 0, by rw [e, e2]⟩
    · exact ⟨_, _, e⟩
  subst hvn
  obtain ⟨f, hf0⟩ : ∃ f : Nat, t.f = (f : Int) := ⟨t.f.toNat, by have := hAt.f.1; omega⟩
  have HF : Aside0 (f < L.length) := ⟨by have h1 := hAt.f.2; rw [hf0, List.length_map] at h1; omega⟩
  rw [hf0] at hft
  have HF0 := Aside0.mk hf0
  obtain ⟨lr, hlr⟩ : ∃ lr, loop pdS apS (L.map fnS) m (enter (L.map fnS) rs t parent index) t 0 rs.nodes.length = lr := ⟨_, rfl⟩
  rw [hlr]
  have HLR := Aside0.mk hlr
  clear hlr hf0 h hC hV hAt hends hwork hc hkids hdep hB hB1 hB2 ih
  (try clear hf); have hf := HR.out.L.facts; simp only [factsOf, runC, List.cons_append, List.nil_append] at hf; skip
  go_enter Tryd.func38, Tryd.ntmps38
  go_upto_region 2 with (first | fail)
  have hfa := (HR.out.step (below_alloc (Below.refl _ _) (.cells #[.int .i64 0, .int .i64 0, .int .i64 0, .int .i64 0, .int .i64 0, .int .i64 0, .int .i64 0] 49 (0, 0)))).L.facts
  simp only [factsOf, runC, List.cons_append, List.nil_append] at hfa
  go_region
  generalize hwt : World.drew _ = w1
  have HRn : Aside0 (RB w0 w1 gr ((w.heap.size, #[.int .i64 parent, .int .i64 index, .int .i64 (f : Int), .int .i64 0, .int .i64 t.ped, .int .i64 0, .int .i64 0], 49) :: [(gt, taskC t (.slice none 0 0), 78)]) (some ad) L.length c rs (.slice vA rs.nodes.length vc) (.slice none 0 0) []) := ⟨by
    rw [← hwt]
    exact (HR.out.alloc _ 49).drew⟩
  have HKW := Aside0.mk (show ∀ k, k < w.heap.size → w1.heap[k]? = w.heap[k]? from fun k hk => by
    rw [← hwt]
    exact (Below.heap_alloc w _ k hk))
  have HSZ := Aside0.mk (show w.heap.size ≤ w1.heap.size by rw [← hwt]; exact (below_alloc (Below.refl _ w) _).size)
  clear hwt hfa HR hf
  have HR := HRn
  clear HRn
  generalize hgg : w.heap.size = g11 at HR ⊢
  have HGG := Aside0.mk hgg
  clear hgg
  obtain ⟨ad2, A3, c3, e0, hc3, hC3, hx3⟩ := fun_cells HC.out f HF.out
  cases e0
  have HX := Aside0.mk hx3
  have HC3 := Aside0.mk hC3
  clear hx3 hC3
  have hx := (HX.out _ HR.out.L.below).1
  have hf2 : (f : Int) < (L.length : Int) := by have := HF.out; omega
  obtain ⟨pn, hpn⟩ : ∃ pn, (rd_T39 L (f : Int)).f0 = pn := ⟨_, rfl⟩
  rw [hpn] at hx
  have HPN := Aside0.mk hpn
  clear hpn
  (try clear hf); have hf := HR.out.L.facts; simp only [factsOf, runC, List.cons_append, List.nil_append] at hf; skip
  go_wp2_with (first | fail)
  go_quiet (fail)
  generalize hwk : World.drewN _ _ = w2
  have HRn : Aside0 (RB w0 w2 gr ((g11, #[.int .i64 parent, .int .i64 index, .int .i64 (f : Int), .int .i64 0, .int .i64 t.ped, .int .i64 0, .int .i64 0], 49) :: [(gt, taskC t (.slice none 0 0), 78)]) (some ad) L.length c rs (.slice vA rs.nodes.length vc) (.slice none 0 0) []) := ⟨by rw [← hwk]; exact HR.out.drewN _⟩
  have HKW2 := Aside0.mk (show ∀ k, k < w.heap.size → w2.heap[k]? = w.heap[k]? from fun k hk => by rw [← hwk]; exact HKW.out k hk)
  have HSZ2 := Aside0.mk (show w.heap.size ≤ w2.heap.size by rw [← hwk]; exact HSZ.out)
  clear HR HKW HSZ hwk hx hf
  have HR := HRn
  clear HRn
  (try clear hf); have hf := HR.out.L.facts; simp only [factsOf, runC, List.cons_append, List.nil_append] at hf; skip
  obtain ⟨arg, harg⟩ : ∃ arg, (if pn > 0 then gi t.regs 0 else 0) = arg := ⟨_, rfl⟩
  have HARG := Aside0.mk harg
  have hr0 := taskC_reg (ev := .slice none 0 0) HLL.out 0 (by decide)
  by_cases hp0 : 0 < pn
  case' pos =>
    have hpb : decide (0 < pn) = true := decide_eq_true hp0
    have hra : t.regs.getD 0 0 = arg := by rw [← harg, if_pos hp0]; rfl
    rw [hra] at hr0
    clear harg
    go_upto_region 5 with (first | fail)
    generalize hwt : World.setCell _ _ _ = w3
    have HRn : Aside0 (RB w0 w3 gr ((g11, #[.int .i64 parent, .int .i64 index, .int .i64 (f : Int), .int .i64 0, .int .i64 t.ped, .int .i64 arg, .int .i64 0], 49) :: [(gt, taskC t (.slice none 0 0), 78)]) (some ad) L.length c rs (.slice vA rs.nodes.length vc) (.slice none 0 0) []) := ⟨by rw [← hwt]; exact HR.out.setB 0 rfl 5 (.int .i64 arg)⟩
    have HKW := Aside0.mk (show ∀ k, k < w.heap.size → w3.heap[k]? = w.heap[k]? from fun k hk => by
      rw [← hwt]
      have := HGG.out
      exact (Below.heap_setCell _ ⟨g11, 5, none⟩ _ k (by show k ≠ g11; omega)).trans (HKW2.out k hk))
    have HSZ := Aside0.mk (show w.heap.size ≤ w3.heap.size by rw [← hwt, World.size_setCell]; exact HSZ2.out)
    clear HR HKW2 HSZ2 hwt hf hp0 hpb hra hr0
  case' neg =>
    have hpb : decide (0 < pn) = false := decide_eq_false hp0
    have hra : arg = 0 := by rw [← harg, if_neg hp0]
    clear harg
    go_upto_region 5 with (first | fail)
    generalize hwt : w2 = w3 at *
    have HRn : Aside0 (RB w0 w3 gr ((g11, #[.int .i64 parent, .int .i64 index, .int .i64 (f : Int), .int .i64 0, .int .i64 t.ped, .int .i64 arg, .int .i64 0], 49) :: [(gt, taskC t (.slice none 0 0), 78)]) (some ad) L.length c rs (.slice vA rs.nodes.length vc) (.slice none 0 0) []) := ⟨by rw [hra]; exact HR.out⟩
    have HKW := HKW2
    have HSZ := HSZ2
    clear HR HKW2 HSZ2 hwt hf hp0 hpb hra hr0
  all_goals
    have HR := HRn
    clear HRn
    (try clear hf); have hf := HR.out.L.facts; simp only [factsOf, runC, List.cons_append, List.nil_append] at hf; skip
    have hml : rs.nodes.length ≤ 8388608 := by have := HB.out; omega
    have hfa := (HR.out.step (below_alloc (Below.refl _ _) (.cells #[.int .i64 parent, .int .i64 index, .int .i64 (f : Int), .int .i64 0, .int .i64 t.ped, .int .i64 arg, .int .i64 0] 49 (0, 0)))).L.facts
    simp only [factsOf, runC, List.cons_append, List.nil_append] at hfa
    apply cut_rest (S := fun A1 c1 w9 => RB w0 (w9.setCell ⟨gr, 4, none⟩ (.slice A1 (rs.nodes.length + 1) c1)) gr ((g11, #[.int .i64 parent, .int .i64 index, .int .i64 (f : Int), .int .i64 0, .int .i64 t.ped, .int .i64 arg, .int .i64 0], 49) :: [(gt, taskC t (.slice none 0 0), 78)]) (some ad) L.length c { rs with nodes := rs.nodes ++ [({ parent := parent, index := index, func := (f : Int), work := 0, ped := t.ped, arg := arg, v := 0 } : Nd)] } (.slice A1 (rs.nodes.length + 1) c1) (.slice none 0 0) [] ∧       (∀ k, k < w.heap.size → (Value.slice vA rs.nodes.length vc).ownBlock ≠ some k → w9.heap[k]? = w.heap[k]?) ∧       (∀ k, (Value.slice A1 (rs.nodes.length + 1) c1).ownBlock = some k → (Value.slice vA rs.nodes.length vc).ownBlock = some k ∨ w.heap.size ≤ k) ∧ w.heap.size ≤ w9.heap.size)
    case' h =>
      intro REST
      go_region_law (refine nodes_append rfl (.tmp 54) (.tmp 56) rfl HR.out.drew rfl ⟨parent, index, (f : Int), 0, t.ped, arg, 0⟩ rfl hml ?_; intro v1 w9 HA1 HA2 HA3 HA4 HA5 HA6; obtain ⟨A1, c1, rfl⟩ := HA6; have hfe := HA1.out.facts; simp only [factsOf, runC, List.cons_append, List.nil_append] at hfe)
      all_goals
        refine REST A1 c1 w9 ⟨HA2.out, fun k hk hne => (HA3.out k (Nat.lt_of_lt_of_le hk HSZ.out) hne).trans (HKW.out k hk), fun k hk => ?_, Nat.le_trans HSZ.out HA5.out⟩
        rcases HA4.out with e | ⟨q, e, hq⟩
        · exact Or.inl (e ▸ hk)
        · rw [e] at hk
          cases hk
          exact Or.inr (Nat.le_trans HSZ.out hq)
    case r =>
      clear HR HKW HSZ hfa hml hf
      intro A1 c1 w9 HST
      obtain ⟨hR, hk, ho, hs⟩ := HST
      generalize hwt : World.setCell w9 _ _ = w4 at hR ⊢
      have HR : Aside0 (RB w0 w4 gr [(gt, taskC t (.slice none 0 0), 78)] (some ad) L.length c ({ rs with nodes := rs.nodes ++ [({ parent := parent, index := index, func := (f : Int), work := 0, ped := t.ped, arg := arg, v := 0 } : Nd)] } : RS) (.slice A1 (rs.nodes.length + 1) c1) (.slice none 0 0) []) := ⟨hR.sub (List.sublist_cons_self _ _)⟩
      have HKW := Aside0.mk (show ∀ k, k < w.heap.size → k ≠ gr → (Value.slice vA rs.nodes.length vc).ownBlock ≠ some k → w4.heap[k]? = w.heap[k]? from fun k h1 h2 h3 => by
        rw [← hwt]
        exact (Below.heap_setCell _ ⟨gr, 4, none⟩ _ k h2).trans (hk k h1 h3))
      have HSZ := Aside0.mk (show w.heap.size ≤ w4.heap.size by rw [← hwt, World.size_setCell]; exact hs)
      have HOW := Aside0.mk ho
      clear hwt hR hk hs ho
      have hw1 : wrap64 (rs.tasks + 1) = rs.tasks + 1 := by have h1 := HB.out.1.tasks; have := HB.out.2; unfold wrap64; omega
      (try clear hf); have hf := HR.out.L.facts; simp only [factsOf, runC, List.cons_append, List.nil_append] at hf; skip
      go_upto_region 7 with (first | fail)
      generalize hwt : World.setCell _ _ _ = w5
      have HRn : Aside0 (RB w0 w5 gr [(gt, taskC t (.slice none 0 0), 78)] (some ad) L.length c { ({ rs with nodes := rs.nodes ++ [({ parent := parent, index := index, func := (f : Int), work := 0, ped := t.ped, arg := arg, v := 0 } : Nd)] } : RS) with tasks := rs.tasks + 1 } (.slice A1 (rs.nodes.length + 1) c1) (.slice none 0 0) []) := ⟨by
        rw [← hwt]
        exact HR.out.setRun 2 (.int .i64 (rs.tasks + 1)) rfl rfl⟩
      have HKW2 := Aside0.mk (show ∀ k, k < w.heap.size → k ≠ gr → (Value.slice vA rs.nodes.length vc).ownBlock ≠ some k → w5.heap[k]? = w.heap[k]? from fun k h1 h2 h3 => by
        rw [← hwt]
        exact (Below.heap_setCell _ ⟨gr, 2, none⟩ _ k h2).trans (HKW.out k h1 h2 h3))
      have HSZ2 := Aside0.mk (show w.heap.size ≤ w5.heap.size by rw [← hwt, World.size_setCell]; exact HSZ.out)
      clear hwt HR HKW HSZ hf
      have HR := HRn
      clear HRn
      (try clear hf); have hf := HR.out.L.facts; simp only [factsOf, runC, List.cons_append, List.nil_append] at hf; skip
      go_region
      obtain ⟨m2, hm2⟩ : ∃ m2 : Int, (if rs.deepest < t.depth then t.depth else rs.deepest) = m2 := ⟨_, rfl⟩
      rw [hm2]
      generalize hwt : World.drew _ = w6
      have HEN : Aside0 (({ ({ rs with nodes := rs.nodes ++ [({ parent := parent, index := index, func := (f : Int), work := 0, ped := t.ped, arg := arg, v := 0 } : Nd)] } : RS) with tasks := rs.tasks + 1, deepest := m2 } : RS) = enter (L.map fnS) rs t parent index) := ⟨by
        unfold enter
        rw [HF0.out, fnOf_map L (f : Int) (by omega) (by have := HF.out; omega), show (fnS (rd_T39 L (f : Int))).params = pn from HPN.out, HARG.out, show max rs.deepest t.depth = m2 by rw [← hm2]; omega]⟩
      have HRn : Aside0 (RB w0 w6 gr [(gt, taskC t (.slice none 0 0), 78)] (some ad) L.length c { ({ rs with nodes := rs.nodes ++ [({ parent := parent, index := index, func := (f : Int), work := 0, ped := t.ped, arg := arg, v := 0 } : Nd)] } : RS) with tasks := rs.tasks + 1, deepest := m2 } (.slice A1 (rs.nodes.length + 1) c1) (.slice none 0 0) []) := ⟨by
        rw [← hwt]
        exact (HR.out.setRun (rs' := { ({ rs with nodes := rs.nodes ++ [({ parent := parent, index := index, func := (f : Int), work := 0, ped := t.ped, arg := arg, v := 0 } : Nd)] } : RS) with tasks := rs.tasks + 1, deepest := m2 }) 3 (.int .i64 m2) rfl rfl).drew⟩
      have HKW := Aside0.mk (show ∀ k, k < w.heap.size → k ≠ gr → (Value.slice vA rs.nodes.length vc).ownBlock ≠ some k → w6.heap[k]? = w.heap[k]? from fun k h1 h2 h3 => by
        rw [← hwt]
        exact (Below.heap_setCell _ ⟨gr, 3, none⟩ _ k h2).trans (HKW2.out k h1 h2 h3))
      have HSZ := Aside0.mk (show w.heap.size ≤ w6.heap.size by rw [← hwt, show ∀ W : World, W.drew.heap.size = W.heap.size from fun _ => rfl, World.size_setCell]; exact HSZ2.out)
      clear hwt HR HKW2 HSZ2 hf hm2
      have HR := HRn
      clear HRn
      have hx := (HX.out _ HR.out.L.below).2.2.2
      (try clear hf); have hf := HR.out.L.facts; simp only [factsOf, runC, List.cons_append, List.nil_append] at hf; skip
      go_wp2_with (first | fail)
      go_quiet (fail)
      generalize hwk : World.drewN _ _ = w7
      have HRn : Aside0 (RB w0 w7 gr [(gt, taskC t (.slice none 0 0), 78)] (some ad) L.length c (enter (L.map fnS) rs t parent index) (.slice A1 (rs.nodes.length + 1) c1) (.slice none 0 0) t.ends) := ⟨by
        rw [← hwk, ← HEN.out, HT0.out.1]
        exact HR.out.drewN _⟩
      have HKW2 := Aside0.mk (show ∀ k, k < w.heap.size → k ≠ gr → (Value.slice vA rs.nodes.length vc).ownBlock ≠ some k → w7.heap[k]? = w.heap[k]? from fun k h1 h2 h3 => by
        rw [← hwk]
        exact HKW.out k h1 h2 h3)
      have HSZ2 := Aside0.mk (show w.heap.size ≤ w7.heap.size by rw [← hwk]; exact HSZ.out)
      have HRE := Aside0.mk (show (enter (L.map fnS) rs t parent index).left = rs.left ∧ (enter (L.map fnS) rs t parent index).nodes.length = rs.nodes.length + 1 ∧ (enter (L.map fnS) rs t parent index).tasks = rs.tasks + 1 from ⟨rfl, by simp [enter], rfl⟩)
      clear hwk HR HKW HSZ hf hx hft HEN hf2 HARG
      have HR := HRn
      have HKW := HKW2
      have HSZ := HSZ2
      clear HRn HKW2 HSZ2
      go_wp2_with (first | fail)
      go_loopg [13] m (fun kq v13 w' => ∃ (kk p : Nat) (rs1 : RS) (t1 : TS) (vN1 vE1 : Value), kq = kk ∧ v13 = .int .i64 (p : Int) ∧ Aside0 (loop pdS apS (L.map fnS) kk rs1 t1 (p : Int) rs.nodes.length = lr) ∧ Aside0 (rs1.left < kk ∧ kk ≤ m) ∧         Aside0 (RB w0 w' gr [(gt, taskC t1 vE1, 78)] (some ad) L.length c rs1 vN1 vE1 t1.ends) ∧ Aside0 (At (L.map fnS) t1 (p : Int) ∧ t1.f = (f : Int)) ∧ Aside0 (Cnt rs1 t1 (rs.left : Int)) ∧         Aside0 (rs.nodes.length < rs1.nodes.length ∧ rs1.nodes.length + rs1.left ≤ 4194305 ∧ 0 ≤ rs1.tasks ∧ rs1.tasks + (rs1.left : Int) ≤ 4194305) ∧         Aside0 (∀ k, k < w.heap.size → k ≠ gr → k ≠ gt → (Value.slice vA rs.nodes.length vc).ownBlock ≠ some k → w'.heap[k]? = w.heap[k]?) ∧ Aside0 (∀ k, vN1.ownBlock = some k → (Value.slice vA rs.nodes.length vc).ownBlock = some k ∨ w.heap.size ≤ k) ∧         Aside0 (∀ k, vE1.ownBlock = some k → w.heap.size ≤ k) ∧ Aside0 (w.heap.size ≤ w'.heap.size))
      case atStart =>
        refine ⟨m, 0, _, t, _, _, rfl, rfl, ⟨HLR.out⟩, ⟨by rw [HRE.out.1]; exact hm, Nat.le_refl _⟩, HR, ⟨HAT.out, HF0.out⟩, ⟨?_⟩, ⟨?_⟩, ⟨fun k h1 h2 _ h3 => HKW.out k h1 h2 h3⟩, HOW, ⟨fun k hk => by simp [Value.ownBlock] at hk⟩, HSZ⟩
        · have h1 := HT0.out
          have h2 := HB.out.2.1
          have h3 := HRE.out.1
          refine ⟨by omega, by rw [h3]; omega, by rw [h3]; omega, by rw [h3]; omega, fun e he => ?_, by rw [h3, h1.1]; simp, h1.2.2.2.2⟩
          rw [h1.1] at he
          cases he
        · have h3 := HRE.out
          have h4 := HB.out
          have h5 := h4.1.tasks
          omega
      case round =>
        clear HR HKW HSZ HOW HLR HAT HT0 HRE
        obtain ⟨kk, p, rs1, t1, vN1, vE1, hkk, rfl, HLR, HK, HR, HAT, HCN, HBB, HKW, HOW, HOE, HSZ⟩ := hrel
        have HLL : Aside0 (TLen t1) := ⟨⟨HAT.out.1.regs, HAT.out.1.slots⟩⟩
        have hft := taskC_facts (ev := vE1) HLL.out
        (try clear hf); have hf := HR.out.L.facts; simp only [factsOf, runC, List.cons_append, List.nil_append] at hf; skip
        by_cases hl0 : rs1.left = 0
        · have hlb : ((rs1.left : Int) == 0) = true := beq_iff_eq.mpr (by omega)
          have HST : Aside0 (lr = .stop 62) := ⟨by rw [← HLR.out]; exact loop_empty _ _ _ _ _ _ _ _ hl0⟩
          clear hl0
          go_wp2_with (first | fail)
          refine ⟨rfl, ?_⟩
          rw [HST.out]
          exact ⟨rfl, HR.out.L.below⟩
        · have hlb : ((rs1.left : Int) == 0) = false := beq_eq_false_iff_ne.mpr (by omega)
          have HL0 := Aside0.mk hl0
          have hwl : wrap64 ((rs1.left : Int) - 1) = ((rs1.left - 1 : Nat) : Int) := by have := HBB.out; unfold wrap64; omega
          have hww : wrap64 (t1.work + 1) = t1.work + 1 := by have h1 := HCN.out.work; have h2 := HCN.out.u; unfold wrap64; omega
          have HPL : Aside0 (p < (rd_T39 L (f : Int)).f3.length) := ⟨by
            have h1 := HAT.out.1.place.2
            rw [HAT.out.2, fnOf_map L (f : Int) (by omega) (by have := HF.out; omega)] at h1
            have h2 : ((p : Int)) < (((rd_T39 L (f : Int)).f3.map insS).length : Int) := h1
            rw [List.length_map] at h2
            omega⟩
          clear hl0
          go_upto_region 14 with (first | fail)
          generalize hwt : World.setCell _ _ _ = w8
          have HRn : Aside0 (RB w0 w8 gr [(gt, taskC { t1 with work := t1.work + 1 } vE1, 78)] (some ad) L.length c { rs1 with left := rs1.left - 1 } vN1 vE1 t1.ends) := ⟨by
            rw [← hwt]
            have h1 := (HR.out.setRun (rs' := { rs1 with left := rs1.left - 1 }) 1 (.int .i64 ((rs1.left - 1 : Nat) : Int)) rfl rfl).setB 0 rfl 28 (.int .i64 (t1.work + 1))
            rw [taskC_setWork HLL.out] at h1
            exact h1⟩
          have HKWn := Aside0.mk (show ∀ k, k < w.heap.size → k ≠ gr → k ≠ gt → (Value.slice vA rs.nodes.length vc).ownBlock ≠ some k → w8.heap[k]? = w.heap[k]? from fun k h1 h2 h3 h4 => by
            rw [← hwt]
            exact (Below.heap_setCell _ ⟨gt, 28, none⟩ _ k h3).trans ((Below.heap_setCell _ ⟨gr, 1, none⟩ _ k h2).trans (HKW.out k h1 h2 h3 h4)))
          have HSZn := Aside0.mk (show w.heap.size ≤ w8.heap.size by rw [← hwt, World.size_setCell, World.size_setCell]; exact HSZ.out)
          have HL2 : Aside0 (TLen { t1 with work := t1.work + 1 }) := ⟨⟨HLL.out.r, HLL.out.s⟩⟩
          clear hwt HR HKW HSZ hf hft
          have HR := HRn
          have HKW := HKWn
          have HSZ := HSZn
          clear HRn HKWn HSZn
          have hft := taskC_facts (ev := vE1) HL2.out
          obtain ⟨i, hi⟩ : ∃ i, rd_T36 (rd_T39 L (f : Int)).f3 (p : Int) = i := ⟨_, rfl⟩
          have HI : Aside0 (insOf (L.map fnS) t1.f (p : Int) = insS i) := ⟨by rw [HAT.out.2, insOf_map L f p HF.out HPL.out, hi]⟩
          obtain ⟨ac, hac, hx3⟩ := ins_cells HC3.out (Below.refl _ _) (p : Int) (by omega) (by have := HPL.out; omega)
          subst hac
          rw [hi, Int.toNat_natCast] at hx3
          have HXI := Aside0.mk hx3
          have hpl2 : (p : Int) < ((rd_T39 L (f : Int)).f3.length : Int) := by have := HPL.out; omega
          clear hi hx3
          obtain ⟨k0, k1, k2, k3, k4⟩ := i
          have hx := HXI.out _ HR.out.L.below
          simp only at hx
          (try clear hf); have hf := HR.out.L.facts; simp only [factsOf, runC, List.cons_append, List.nil_append] at hf; skip
          go_upto_region 15 with (first | ((with_reducible refine gate_dst (N := 14) rfl ?_); (try (refine gate_guard (by rfl) ?_; dsimp only)); refine box_RB (by repeat (first | exact HR.out | refine RB.drew ?_ | refine RB.drewN ?_ _)) ?hg (N := 14) ?hd (cs := #[.int .i64 0, .int .i64 0, .int .i64 0, .int .i64 0, .int .i64 0]) (t := 36) ?hr ?_; (case hd => rfl); (case hg => rfl); (case hr => first | (go_simp; done) | (go_simp; rfl)); intro g14 wb27 HLn HKb HGb; have HKB := Aside0.mk HKb.out; have HGN := Aside0.mk HGb.out; clear HR; have HR := HLn; clear HLn HKb HGb; (try clear hf); have hf := HR.out.L.facts; simp only [factsOf, runC, List.cons_append, List.nil_append] at hf; skip))
          generalize hwt : World.setCell _ _ _ = w9
          have HRn : Aside0 (RB w0 w9 gr [(g14, #[.int .i64 k0, .int .i64 k1, .int .i64 k2, .int .i64 k3, .int .i64 k4], 36), (gt, taskC { t1 with work := t1.work + 1 } vE1, 78)] (some ad) L.length c { rs1 with left := rs1.left - 1 } vN1 vE1 t1.ends) := ⟨by
            rw [← hwt]
            exact ((((HR.out.setB 0 rfl 0 (.int .i64 k0)).setB 0 rfl 1 (.int .i64 k1)).setB 0 rfl 2 (.int .i64 k2)).setB 0 rfl 3 (.int .i64 k3)).setB 0 rfl 4 (.int .i64 k4)⟩
          have HG14 : Aside0 (w.heap.size ≤ g14) := ⟨Nat.le_trans HSZ.out HGN.out⟩
          have HKWn := Aside0.mk (show ∀ k, k < w.heap.size → k ≠ gr → k ≠ gt → (Value.slice vA rs.nodes.length vc).ownBlock ≠ some k → w9.heap[k]? = w.heap[k]? from fun k h1 h2 h3 h4 => by
            have hne : k ≠ g14 := by have := HG14.out; omega
            rw [← hwt]
            exact (Below.heap_setCell _ ⟨g14, 4, none⟩ _ k hne).trans ((Below.heap_setCell _ ⟨g14, 3, none⟩ _ k hne).trans ((Below.heap_setCell _ ⟨g14, 2, none⟩ _ k hne).trans ((Below.heap_setCell _ ⟨g14, 1, none⟩ _ k hne).trans ((Below.heap_setCell _ ⟨g14, 0, none⟩ _ k hne).trans ((HKB.out.block k (Nat.lt_of_lt_of_le h1 HSZ.out)).trans (HKW.out k h1 h2 h3 h4)))))))
          have HSZn := Aside0.mk (show w.heap.size ≤ w9.heap.size by rw [← hwt]; simp only [World.size_setCell]; exact Nat.le_trans HSZ.out HKB.out.size)
          clear hwt HR HKW HSZ hf hx HKB HGN
          have HR := HRn
          have HKW := HKWn
          have HSZ := HSZn
          clear HRn HKWn HSZn
          (try clear hf); have hf := HR.out.L.facts; simp only [factsOf, runC, List.cons_append, List.nil_append] at hf; skip
          by_cases h9 : k0 = 9
          · subst h9
            have hk6 : ((9 : Int) != 6) = true := rfl
            have hk9 : ((9 : Int) == 9) = true := rfl
            have hwc : wrap64 (t1.c + 1) = t1.c + 1 := by have h1 := HCN.out.c; have h2 := HCN.out.u; unfold wrap64; omega
            obtain ⟨a, ha, ha2⟩ : ∃ a : Nat, k1 = (a : Int) ∧ a < 16 := by
              have hf := HV.out.each _ (fnOf_mem HAT.out.1.f)
              have hs := hf.shape
              unfold shapeOK at hs
              have hok := hf.ins _ (insOf_mem HAT.out.1.place)
              rw [HI.out] at hok
              obtain ⟨-, -, -, -, -, -, -, -, -, -, o9⟩ := hok
              have o := o9 rfl
              unfold inR at o
              have o' : 0 ≤ k1 ∧ k1 < (fnOf (L.map fnS) t1.f).regs := o
              exact ⟨k1.toNat, by omega, by omega⟩
            subst ha
            have ha3 : (a : Int) < 16 := by omega
            go_upto_region 17 with (first | fail)
            generalize hwt : World.setCell _ _ _ = w10
            have HL3 : Aside0 (TLen { t1 with work := t1.work + 1, c := t1.c + 1 }) := ⟨⟨HLL.out.r, HLL.out.s⟩⟩
            have HRn : Aside0 (RB w0 w10 gr [(g14, #[.int .i64 9, .int .i64 (a : Int), .int .i64 k2, .int .i64 k3, .int .i64 k4], 36), (gt, taskC { t1 with work := t1.work + 1, c := t1.c + 1 } vE1, 78)] (some ad) L.length c { rs1 with left := rs1.left - 1 } vN1 vE1 t1.ends) := ⟨by
              rw [← hwt]
              have h1 := HR.out.setB 1 rfl 29 (.int .i64 (t1.c + 1))
              rw [taskC_setC HL2.out] at h1
              exact h1⟩
            have HKWn := Aside0.mk (show ∀ k, k < w.heap.size → k ≠ gr → k ≠ gt → (Value.slice vA rs.nodes.length vc).ownBlock ≠ some k → w10.heap[k]? = w.heap[k]? from fun k h1 h2 h3 h4 => by
              rw [← hwt]
              exact (Below.heap_setCell _ ⟨gt, 29, none⟩ _ k h3).trans (HKW.out k h1 h2 h3 h4))
            have HSZn := Aside0.mk (show w.heap.size ≤ w10.heap.size by rw [← hwt, World.size_setCell]; exact HSZ.out)
            obtain ⟨gn, cap, hvn⟩ : ∃ gn cap, vN1 = .slice (some ⟨gn, 0, none⟩) rs1.nodes.length cap := by
              have hN := HR.out.N
              unfold NR at hN
              rcases hN.2 with ⟨e, e2⟩ | ⟨g', cap', cur, e, -⟩
              · exfalso
                have h1 : rs1.nodes.length = 0 := e2
                have := HBB.out.1
                omega
              · exact ⟨_, _, e⟩
            subst hvn
            clear hwt HR HKW HSZ hf hft hk6
            have HR := HRn
            have HKW := HKWn
            have HSZ := HSZn
            clear HRn HKWn HSZn
            have hft := taskC_facts (ev := vE1) HL3.out
            obtain ⟨v, hv⟩ : ∃ v, t1.regs.getD a 0 = v := ⟨_, rfl⟩
            have hra := (taskC_reg (ev := vE1) HL3.out a ha2)
            rw [show ({ t1 with work := t1.work + 1, c := t1.c + 1 } : TS).regs.getD a 0 = v from hv] at hra
            have hself : (rs.nodes.length : Int) < (rs1.nodes.length : Int) := by have := HBB.out.1; omega
            have HSF : Aside0 (rs.nodes.length < rs1.nodes.length) := ⟨HBB.out.1⟩
            have HV9 := Aside0.mk hv
            clear hv
            have hlv : ∀ l : List Nd, rs.nodes.length < l.length → (l.modify rs.nodes.length (fun nd => ({ nd with v := v } : Nd))).length = l.length := fun l _ => by simp
            have HS1 := Aside0.mk (HR.out.drew.setNode (rs.nodes.length * 7 + 6) (.int .i64 v) (l' := rs1.nodes.modify rs.nodes.length (fun nd => ({ nd with v := v } : Nd))) (by simp) (flatN_setV _ _ HSF.out v))
            have HS2 := Aside0.mk (HS1.out.setNode (rs.nodes.length * 7 + 3) (.int .i64 (t1.work + 1)) (l' := (rs1.nodes.modify rs.nodes.length (fun nd => ({ nd with v := v } : Nd))).modify rs.nodes.length (fun nd => ({ nd with work := t1.work + 1 } : Nd))) (by simp) (flatN_setW _ _ (by simpa using HSF.out) _))
            clear hlv
            (try clear hf); have hf := HR.out.L.facts; simp only [factsOf, runC, List.cons_append, List.nil_append] at hf; skip
            go_wp2_with (first | fail)
            go_region_held3 (fun W' => (∀ j, W'.cell? ⟨gr, j, none⟩ = #[Value.slice (some ad) L.length c, .int .i64 ((rs1.left - 1 : Nat) : Int), .int .i64 rs1.tasks, .int .i64 rs1.deepest, .slice (some ⟨gn, 0, none⟩) rs1.nodes.length cap][j]?) ∧ (∀ j, W'.cell? ⟨g14, j, none⟩ = #[Value.int .i64 9, .int .i64 (a : Int), .int .i64 k2, .int .i64 k3, .int .i64 k4][j]?) ∧ (∀ j, W'.cell? ⟨gt, j, none⟩ = (taskC { t1 with work := t1.work + 1, c := t1.c + 1 } vE1)[j]?) ∧               W'.cell? ⟨gn, rs.nodes.length * 7 + 6, none⟩ = some (cellOf W' ⟨gn, rs.nodes.length * 7 + 6, none⟩) ∧ W'.frozen? ⟨gn, rs.nodes.length * 7 + 6, none⟩ = false ∧ W'.cell? ⟨gn, rs.nodes.length * 7 + 3, none⟩ = some (cellOf W' ⟨gn, rs.nodes.length * 7 + 3, none⟩) ∧ W'.frozen? ⟨gn, rs.nodes.length * 7 + 3, none⟩ = false)               (first | exact node_state HR.out.drew _ HSF.out | exact node_state HS1.out _ (by simpa using HSF.out) | exact node_state HS2.out _ (by simpa using HSF.out)) (fail)
            generalize hwt : World.drew _ = w11
            have HRn : Aside0 (RB w0 w11 gr [(g14, #[.int .i64 9, .int .i64 (a : Int), .int .i64 k2, .int .i64 k3, .int .i64 k4], 36), (gt, taskC { t1 with work := t1.work + 1, c := t1.c + 1 } vE1, 78)] (some ad) L.length c (leave { rs1 with left := rs1.left - 1 } rs.nodes.length v (t1.work + 1)) (.slice (some ⟨gn, 0, none⟩) rs1.nodes.length cap) vE1 t1.ends) := ⟨by
              rw [← hwt]
              unfold leave
              have h1 := HS2.out
              rw [modify_two] at h1
              exact h1⟩
            have HKWn := Aside0.mk (show ∀ k, k < w.heap.size → k ≠ gr → k ≠ gt → (Value.slice vA rs.nodes.length vc).ownBlock ≠ some k → w11.heap[k]? = w.heap[k]? from fun k h1 h2 h3 h4 => by
              have hne : k ≠ gn := by
                rintro rfl
                rcases HOW.out k rfl with e | e
                · exact h4 e
                · omega
              rw [← hwt]
              exact (Below.heap_setCell _ ⟨gn, rs.nodes.length * 7 + 3, none⟩ _ k hne).trans ((Below.heap_setCell _ ⟨gn, rs.nodes.length * 7 + 6, none⟩ _ k hne).trans (HKW.out k h1 h2 h3 h4)))
            have HSZn := Aside0.mk (show w.heap.size ≤ w11.heap.size by rw [← hwt]; show w.heap.size ≤ (World.setCell (World.setCell w10 _ _) _ _).heap.size; rw [World.size_setCell, World.size_setCell]; exact HSZ.out)
            clear hwt HR HKW HSZ hf HS1 HS2 hself
            have HR := HRn
            have HKW := HKWn
            have HSZ := HSZn
            clear HRn HKWn HSZn
            (try clear hf); have hf := HR.out.L.facts; simp only [factsOf, runC, List.cons_append, List.nil_append] at hf; skip
            go_wp2_with (first | fail)
            go_quiet (fail)
            generalize hwk : World.drewN _ _ = w12
            have HKZ : w12.heap = w11.heap := by rw [← hwk]; rfl
            have HRn : RB w0 w12 gr [(g14, #[.int .i64 9, .int .i64 (a : Int), .int .i64 k2, .int .i64 k3, .int .i64 k4], 36), (gt, taskC { t1 with work := t1.work + 1, c := t1.c + 1 } vE1, 78)] (some ad) L.length c (leave { rs1 with left := rs1.left - 1 } rs.nodes.length v (t1.work + 1)) (.slice (some ⟨gn, 0, none⟩) rs1.nodes.length cap) vE1 t1.ends := by
              rw [← hwk]
              exact HR.out.drewN _
            clear hwk hf hft hra
            go_wp2_with (first | fail)
            go_ret2
            have hlr : lr = .done (leave { rs1 with left := rs1.left - 1 } rs.nodes.length v (t1.work + 1)) v (t1.c + 1) := by
              obtain ⟨kq, rfl⟩ : ∃ kq, kk = kq + 1 := ⟨kk - 1, by have := HK.out; omega⟩
              have h1 := loop_ret pdS apS (L.map fnS) kq rs1 t1 (p : Int) rs.nodes.length HL0.out _ HI.out rfl
              rw [HLR.out] at h1
              rw [h1, show gi t1.regs (insS ⟨9, (a : Int), k2, k3, k4⟩).a = v from HV9.out]
            rw [hlr]
            refine ⟨rfl, _, (HRn.sub (List.nil_sublist _)).noEnds, fun k h1 h2 h3 h4 => ?_, HOW.out, ?_⟩
            · rw [HKZ]
              exact HKW.out k h1 h2 h3 h4
            · rw [HKZ]
              exact HSZ.out
          · have hk9 : (k0 == 9) = false := beq_eq_false_iff_ne.mpr h9
            have HK9 := Aside0.mk h9
            by_cases h6 : k0 = 6
            case' pos =>
              have hk6 : (k0 != 6) = false := by rw [h6]; rfl
              have HK6 := Aside0.mk h6
              clear h9 h6
              go_upto_region 20 with (first | fail)
              generalize hwt : w9 = w10 at *
              have HRn : Aside0 (RB w0 w10 gr [(g14, #[.int .i64 k0, .int .i64 k1, .int .i64 k2, .int .i64 k3, .int .i64 k4], 36), (gt, taskC (tick t1 ⟨k0, k1, k2, k3, k4⟩) vE1, 78)] (some ad) L.length c { rs1 with left := rs1.left - 1 } vN1 vE1 t1.ends) := ⟨by
                have e : tick t1 ⟨k0, k1, k2, k3, k4⟩ = { t1 with work := t1.work + 1 } := by unfold tick; rw [if_pos HK6.out]
                rw [e]
                exact HR.out⟩
              have HKWn := HKW
              have HSZn := HSZ
              clear hwt HR HKW HSZ hf hk6 hk9
            case' neg =>
              have hk6 : (k0 != 6) = true := bne_iff_ne.mpr h6
              have HK6 := Aside0.mk h6
              have hwc : wrap64 (t1.c + 1) = t1.c + 1 := by have h1 := HCN.out.c; have h2 := HCN.out.u; unfold wrap64; omega
              clear h9
              go_upto_region 17 with (first | fail)
              generalize hwt : World.setCell _ _ _ = w10
              have HRn : Aside0 (RB w0 w10 gr [(g14, #[.int .i64 k0, .int .i64 k1, .int .i64 k2, .int .i64 k3, .int .i64 k4], 36), (gt, taskC (tick t1 ⟨k0, k1, k2, k3, k4⟩) vE1, 78)] (some ad) L.length c { rs1 with left := rs1.left - 1 } vN1 vE1 t1.ends) := ⟨by
                have e : tick t1 ⟨k0, k1, k2, k3, k4⟩ = { t1 with work := t1.work + 1, c := t1.c + 1 } := by unfold tick; rw [if_neg HK6.out]
                rw [e, ← hwt]
                have h1 := HR.out.setB 1 rfl 29 (.int .i64 (t1.c + 1))
                rw [taskC_setC HL2.out] at h1
                exact h1⟩
              have HKWn := Aside0.mk (show ∀ k, k < w.heap.size → k ≠ gr → k ≠ gt → (Value.slice vA rs.nodes.length vc).ownBlock ≠ some k → w10.heap[k]? = w.heap[k]? from fun k h1 h2 h3 h4 => by
                rw [← hwt]
                exact (Below.heap_setCell _ ⟨gt, 29, none⟩ _ k h3).trans (HKW.out k h1 h2 h3 h4))
              have HSZn := Aside0.mk (show w.heap.size ≤ w10.heap.size by rw [← hwt, World.size_setCell]; exact HSZ.out)
              clear hwt HR HKW HSZ hf hft hk6
              have HR := HRn
              (try clear hf); have hf := HR.out.L.facts; simp only [factsOf, runC, List.cons_append, List.nil_append] at hf; skip
              go_upto_region 20 with (first | fail)
              clear HR hf
            all_goals
              clear HK6
              have HR := HRn
              have HKW := HKWn
              have HSZ := HSZn
              clear HRn HKWn HSZn
              (try clear hf); have hf := HR.out.L.facts; simp only [factsOf, runC, List.cons_append, List.nil_append] at hf; skip
              obtain ⟨kq, rfl⟩ : ∃ kq, kk = kq + 1 := ⟨kk - 1, by have := HK.out; omega⟩
              obtain ⟨r, hr⟩ : ∃ r, stepR (L.map fnS) kq { rs1 with left := rs1.left - 1 } (tick t1 ⟨k0, k1, k2, k3, k4⟩) ⟨k0, k1, k2, k3, k4⟩ (p : Int) rs.nodes.length = r := ⟨_, rfl⟩
              have HSR := Aside0.mk hr
              have HLS : Aside0 ((∀ why, r = .inr why → lr = .stop why) ∧ ∀ x, r = .inl x → lr = loop pdS apS (L.map fnS) kq x.1 x.2.1 x.2.2 rs.nodes.length) := ⟨by
                have h1 := loop_stepR (L.map fnS) kq rs1 t1 (p : Int) rs.nodes.length HL0.out (by rw [HI.out]; exact HK9.out)
                rw [HI.out, show insS ⟨k0, k1, k2, k3, k4⟩ = ⟨k0, k1, k2, k3, k4⟩ from rfl, hr, HLR.out] at h1
                exact ⟨fun why e => by rw [h1, e], fun x e => by rw [h1, e]⟩⟩
              clear hr
              cases r with
              | inr why =>
                go_wp2_with (first | (go_at_call 44; go_loud (have hcall := step_calls (m := kq) (HIH.out kq (by have := HK.out; omega)) HC.out hcL HV.out (p : Int) rs.nodes.length ⟨k0, k1, k2, k3, k4⟩ (HR.out.sub (List.sublist_cons_self _ _)) HAT.out.1 HI.out HK9.out ⟨by have := HBB.out; simp only; omega, by have := HBB.out; simp only; omega⟩ ⟨by have := HBB.out; have := HL0.out; simp only; omega, by have := HBB.out; have := HL0.out; simp only; omega⟩ (rs.left : Int) (cnt_tick HCN.out HL0.out _) (by have := HK.out; have := HL0.out; simp only; omega); rw [HSR.out] at hcall; simp only [insV] at hcall; with_reducible refine hcall.mono ?_; clear hcall; rintro e_ wc hP); unfold StepPost at hP; obtain ⟨rfl, hb_⟩ := hP))
                refine ⟨rfl, ?_⟩
                rw [HLS.out.1 why rfl]
                exact ⟨rfl, hb_⟩
              | inl x =>
                obtain ⟨rs', t', at'⟩ := x
                have HNX := Aside0.mk (step_next (U := (rs.left : Int)) HV.out HAT.out.1 HCN.out HL0.out (by rw [HI.out]; exact HK9.out) (by rw [HI.out]; exact HSR.out))
                obtain ⟨p', hp'⟩ : ∃ p' : Nat, at' = (p' : Int) := ⟨at'.toNat, by have := HNX.out.at_.place.1; omega⟩
                subst hp'
                go_wp2_with (first | (go_at_call 44; go_loud (have hcall := step_calls (m := kq) (HIH.out kq (by have := HK.out; omega)) HC.out hcL HV.out (p : Int) rs.nodes.length ⟨k0, k1, k2, k3, k4⟩ (HR.out.sub (List.sublist_cons_self _ _)) HAT.out.1 HI.out HK9.out ⟨by have := HBB.out; simp only; omega, by have := HBB.out; simp only; omega⟩ ⟨by have := HBB.out; have := HL0.out; simp only; omega, by have := HBB.out; have := HL0.out; simp only; omega⟩ (rs.left : Int) (cnt_tick HCN.out HL0.out _) (by have := HK.out; have := HL0.out; simp only; omega); rw [HSR.out] at hcall; simp only [insV] at hcall; with_reducible refine hcall.mono ?_; clear hcall; rintro e_ wc hP); unfold StepPost at hP; obtain ⟨rfl, vN2, vE2, HP, hk2, hN2, hE2, hs2⟩ := hP))
                go_roundg kq
                case measure => omega
                case rel =>
                  have hsz := HSZ.out
                  refine ⟨kq, p', rs', t', vN2, vE2, rfl, rfl, ⟨(HLS.out.2 _ rfl).symm⟩, ⟨?_⟩, ⟨HP⟩, ⟨HNX.out.at_, HNX.out.f.trans HAT.out.2⟩, ⟨HNX.out.cnt⟩, ⟨?_⟩, ⟨?_⟩, ⟨?_⟩, ⟨?_⟩, ⟨Nat.le_trans hsz hs2⟩⟩
                  · have h1 := HNX.out.left
                    have h2 := HK.out
                    omega
                  · have h1 := HNX.out
                    have h2 := h1.nodes
                    have h3 := h1.nodes2
                    have h4 := h1.tasks
                    have h5 := h1.tasks2
                    have h6 := HBB.out
                    omega
                  · intro k h1 h2 h3 h4
                    refine (hk2 k (Nat.lt_of_lt_of_le h1 hsz) h2 h3 (fun e => ?_) (fun e => ?_)).trans (HKW.out k h1 h2 h3 h4)
                    · rcases HOW.out k e with e | e
                      · exact h4 e
                      · omega
                    · have := HOE.out k e
                      omega
                  · intro k e
                    rcases hN2 k e with e | e
                    · exact HOW.out k e
                    · exact Or.inr (Nat.le_trans hsz e)
                  · intro k e
                    rcases hE2 k e with e | e
                    · exact HOE.out k e
                    · exact Nat.le_trans hsz e
end Go.Proofs.YtcioegimmjppcaaDoor.P
/-! serial's judged (machine side). -/
namespace Go.Proofs.YtcioegimmjppcaaDoor.P
open Go.RowKit Go.Proofs.YtcioegimmjppcaaDoorW.PrintWords Go.Proofs.YtcioegimmjppcaaDoorW.PrintLast Go.Proofs.YtcioegimmjppcaaDoorW.PrintMore
set_option linter.unusedVariables false
set_option linter.unusedSimpArgs false
set_option maxHeartbeats 1000000
set_option maxRecDepth 100000

def judgedOf (P : List Fn) (n : Nat) (fuel : Int) : Int :=
  if validB P = false then 60 else if (n : Int) ≠ (fnOf P 0).params then 61 else if fuel < 0 ∨ fuel > 4194304 then 3 else 0

theorem field90 (x a b : Int) (W : World) : (Instr.field 90 (.agg #[.int .i64 x, .int .i64 a, .int .i64 b]) 0).run Tryd.prog W = .ok (.int .i64 x) W := by
  have hu := Tryd.underlying90
  unfold Instr.field
  simp [go_sem, part, run_underlying hu, asAgg]

theorem judged_calls (A : Option Addr) (c : Nat) (L : List S39) (A1 : Option Addr) (n c1 : Nat) (fuel : Int) (w : World) (hr : Kd.C k39 w A L.length L) (hc : L.length ≤ c) (hT : Tab w) :
    Calls Tryd.prog 36 #[.agg #[.slice A L.length c], .slice A1 n c1, .int .i64 fuel] w fun e w' => e = .returned (.int .i64 (judgedOf (L.map fnS) n fuel)) ∧ Below w.heap.size w w' := by
  have HL := Aside0.mk (Locs.nil w)
  have HT := Aside0.mk hT
  have HC := Aside0.mk hr
  have hu39 := Tryd.underlying39
  have hu24 := Tryd.underlying24
  have hfld := field90
  clear hr hT
  obtain ⟨b, hb⟩ : ∃ b, checkB L = b := ⟨_, rfl⟩
  have HV := Aside0.mk hb
  have HVB : Aside0 (validB (L.map fnS) = b) := ⟨by rw [← checkB_valid, hb]⟩
  clear hb
  cases b
  · have HJ : Aside0 (judgedOf (L.map fnS) n fuel = 60) := ⟨by unfold judgedOf; rw [if_pos HVB.out]⟩
    rw [HJ.out]
    go_enter Tryd.func36, Tryd.ntmps36
    go_wp2_with (first | ((with_reducible refine gate_dst (N := 3) rfl ?_); (try (refine gate_guard (by rfl) ?_; dsimp only)); refine box_locs (by repeat (first | exact HL.out | refine Locs.drew ?_ | refine Locs.drewN ?_ _)) ?hg (N := 3) ?hd (cs := #[.slice A L.length c]) (t := 24) ?hr ?_; (case hd => rfl); (case hg => rfl); (case hr => first | (go_simp; done) | (go_simp; rfl)); intro g3 wb1 HLn HKb; clear HL; have HL := HLn; clear HLn HKb; (try clear hf); have hf := HL.out.facts; simp only [factsOf, List.cons_append, List.nil_append] at hf; skip) | (go_at_call 43; have hcall := check_calls _ c L _ (Kd.C_below HC.out HL.out.below) hc (HT.out.below HL.out.below); rw [HV.out] at hcall; with_reducible refine hcall.mono ?_; clear hcall; rintro e_ wc hP; unfold CkPost at hP; obtain ⟨x, xa, xb, rfl, hx, hb_⟩ := hP; have HLn := Aside0.mk (Locs.step (by repeat (first | exact HL.out | refine Locs.drew ?_ | refine Locs.drewN ?_ _)) hb_); clear HL hb_; have HL := HLn; clear HLn; (try clear hf); have hf := HL.out.facts; simp only [factsOf, List.cons_append, List.nil_append] at hf; skip; have hxb : (x != 0) = true := bne_iff_ne.mpr (fun e => by have := hx.1 e; cases this)))
    go_ret
    exact ⟨rfl, HL.out.below⟩
  · have h1 : 1 ≤ L.length := by
      have h := ((validB_iff _).1 HVB.out).some
      rw [List.length_map] at h
      exact h
    obtain ⟨ad, A3, c3, rfl, -, -, hx3⟩ := fun_cells HC.out 0 h1
    have HX := Aside0.mk hx3
    obtain ⟨pn, hpn⟩ : ∃ pn, (rd_T39 L ((0 : Nat) : Int)).f0 = pn := ⟨_, rfl⟩
    have HPN : Aside0 ((fnOf (L.map fnS) 0).params = pn) := ⟨by rw [fnOf_map L 0 (by omega) (by omega)]; exact hpn⟩
    rw [hpn] at hx3
    have HY := Aside0.mk (show ∀ W, Below w.heap.size w W → W.cell? ad = some (.int .i64 pn) from fun W hW => by
      have h := (hx3 W hW).1
      rw [show ad.add (0 * 4) = ad by cases ad; simp [Addr.add]] at h
      exact h)
    have h1i : (0 : Int) < (L.length : Int) := by omega
    clear hx3 hpn HX
    by_cases hn : (n : Int) = pn
    · have hnb : ((n : Int) != pn) = false := by rw [hn]; simp
      by_cases hf0 : fuel < 0
      · have HJ : Aside0 (judgedOf (L.map fnS) n fuel = 3) := ⟨by unfold judgedOf; rw [if_neg (by rw [HVB.out]; decide), if_neg (by rw [HPN.out]; omega), if_pos (Or.inl hf0)]⟩
        have hfb : decide (fuel < 0) = true := decide_eq_true hf0
        clear hn hf0
        rw [HJ.out]
        go_enter Tryd.func36, Tryd.ntmps36
        go_wp2_with (first | ((with_reducible refine gate_dst (N := 3) rfl ?_); (try (refine gate_guard (by rfl) ?_; dsimp only)); refine box_locs (by repeat (first | exact HL.out | refine Locs.drew ?_ | refine Locs.drewN ?_ _)) ?hg (N := 3) ?hd (cs := #[.slice (some ad) L.length c]) (t := 24) ?hr ?_; (case hd => rfl); (case hg => rfl); (case hr => first | (go_simp; done) | (go_simp; rfl)); intro g3 wb4 HLn HKb; clear HL; have HL := HLn; clear HLn HKb; (try clear hf); have hf := HL.out.facts; simp only [factsOf, List.cons_append, List.nil_append] at hf; (try clear hy); have hy := HY.out _ HL.out.below) | (go_at_call 43; have hcall := check_calls _ c L _ (Kd.C_below HC.out HL.out.below) hc (HT.out.below HL.out.below); rw [HV.out] at hcall; with_reducible refine hcall.mono ?_; clear hcall; rintro e_ wc hP; unfold CkPost at hP; obtain ⟨x, xa, xb, rfl, hx, hb_⟩ := hP; have HLn := Aside0.mk (Locs.step (by repeat (first | exact HL.out | refine Locs.drew ?_ | refine Locs.drewN ?_ _)) hb_); clear HL hb_; have HL := HLn; clear HLn; (try clear hf); have hf := HL.out.facts; simp only [factsOf, List.cons_append, List.nil_append] at hf; (try clear hy); have hy := HY.out _ HL.out.below; obtain rfl : x = 0 := hx.2 rfl))
        go_ret
        exact ⟨rfl, HL.out.below⟩
      · have hfb : decide (fuel < 0) = false := decide_eq_false hf0
        by_cases hf1 : 4194304 < fuel
        · have HJ : Aside0 (judgedOf (L.map fnS) n fuel = 3) := ⟨by unfold judgedOf; rw [if_neg (by rw [HVB.out]; decide), if_neg (by rw [HPN.out]; omega), if_pos (Or.inr hf1)]⟩
          have hfc : decide (4194304 < fuel) = true := decide_eq_true hf1
          clear hn hf0 hf1
          rw [HJ.out]
          go_enter Tryd.func36, Tryd.ntmps36
          go_wp2_with (first | ((with_reducible refine gate_dst (N := 3) rfl ?_); (try (refine gate_guard (by rfl) ?_; dsimp only)); refine box_locs (by repeat (first | exact HL.out | refine Locs.drew ?_ | refine Locs.drewN ?_ _)) ?hg (N := 3) ?hd (cs := #[.slice (some ad) L.length c]) (t := 24) ?hr ?_; (case hd => rfl); (case hg => rfl); (case hr => first | (go_simp; done) | (go_simp; rfl)); intro g3 wb7 HLn HKb; clear HL; have HL := HLn; clear HLn HKb; (try clear hf); have hf := HL.out.facts; simp only [factsOf, List.cons_append, List.nil_append] at hf; (try clear hy); have hy := HY.out _ HL.out.below) | (go_at_call 43; have hcall := check_calls _ c L _ (Kd.C_below HC.out HL.out.below) hc (HT.out.below HL.out.below); rw [HV.out] at hcall; with_reducible refine hcall.mono ?_; clear hcall; rintro e_ wc hP; unfold CkPost at hP; obtain ⟨x, xa, xb, rfl, hx, hb_⟩ := hP; have HLn := Aside0.mk (Locs.step (by repeat (first | exact HL.out | refine Locs.drew ?_ | refine Locs.drewN ?_ _)) hb_); clear HL hb_; have HL := HLn; clear HLn; (try clear hf); have hf := HL.out.facts; simp only [factsOf, List.cons_append, List.nil_append] at hf; (try clear hy); have hy := HY.out _ HL.out.below; obtain rfl : x = 0 := hx.2 rfl))
          go_ret
          exact ⟨rfl, HL.out.below⟩
        · have HJ : Aside0 (judgedOf (L.map fnS) n fuel = 0) := ⟨by unfold judgedOf; rw [if_neg (by rw [HVB.out]; decide), if_neg (by rw [HPN.out]; omega), if_neg (by omega)]⟩
          have hfc : decide (4194304 < fuel) = false := decide_eq_false hf1
          clear hn hf0 hf1
          rw [HJ.out]
          go_enter Tryd.func36, Tryd.ntmps36
          go_wp2_with (first | ((with_reducible refine gate_dst (N := 3) rfl ?_); (try (refine gate_guard (by rfl) ?_; dsimp only)); refine box_locs (by repeat (first | exact HL.out | refine Locs.drew ?_ | refine Locs.drewN ?_ _)) ?hg (N := 3) ?hd (cs := #[.slice (some ad) L.length c]) (t := 24) ?hr ?_; (case hd => rfl); (case hg => rfl); (case hr => first | (go_simp; done) | (go_simp; rfl)); intro g3 wb10 HLn HKb; clear HL; have HL := HLn; clear HLn HKb; (try clear hf); have hf := HL.out.facts; simp only [factsOf, List.cons_append, List.nil_append] at hf; (try clear hy); have hy := HY.out _ HL.out.below) | (go_at_call 43; have hcall := check_calls _ c L _ (Kd.C_below HC.out HL.out.below) hc (HT.out.below HL.out.below); rw [HV.out] at hcall; with_reducible refine hcall.mono ?_; clear hcall; rintro e_ wc hP; unfold CkPost at hP; obtain ⟨x, xa, xb, rfl, hx, hb_⟩ := hP; have HLn := Aside0.mk (Locs.step (by repeat (first | exact HL.out | refine Locs.drew ?_ | refine Locs.drewN ?_ _)) hb_); clear HL hb_; have HL := HLn; clear HLn; (try clear hf); have hf := HL.out.facts; simp only [factsOf, List.cons_append, List.nil_append] at hf; (try clear hy); have hy := HY.out _ HL.out.below; obtain rfl : x = 0 := hx.2 rfl))
          go_ret
          exact ⟨rfl, HL.out.below⟩
    · have hnb : ((n : Int) != pn) = true := bne_iff_ne.mpr hn
      have HJ : Aside0 (judgedOf (L.map fnS) n fuel = 61) := ⟨by unfold judgedOf; rw [if_neg (by rw [HVB.out]; decide), if_pos (by rw [HPN.out]; exact hn)]⟩
      clear hn
      rw [HJ.out]
      go_enter Tryd.func36, Tryd.ntmps36
      go_wp2_with (first | ((with_reducible refine gate_dst (N := 3) rfl ?_); (try (refine gate_guard (by rfl) ?_; dsimp only)); refine box_locs (by repeat (first | exact HL.out | refine Locs.drew ?_ | refine Locs.drewN ?_ _)) ?hg (N := 3) ?hd (cs := #[.slice (some ad) L.length c]) (t := 24) ?hr ?_; (case hd => rfl); (case hg => rfl); (case hr => first | (go_simp; done) | (go_simp; rfl)); intro g3 wb13 HLn HKb; clear HL; have HL := HLn; clear HLn HKb; (try clear hf); have hf := HL.out.facts; simp only [factsOf, List.cons_append, List.nil_append] at hf; (try clear hy); have hy := HY.out _ HL.out.below) | (go_at_call 43; have hcall := check_calls _ c L _ (Kd.C_below HC.out HL.out.below) hc (HT.out.below HL.out.below); rw [HV.out] at hcall; with_reducible refine hcall.mono ?_; clear hcall; rintro e_ wc hP; unfold CkPost at hP; obtain ⟨x, xa, xb, rfl, hx, hb_⟩ := hP; have HLn := Aside0.mk (Locs.step (by repeat (first | exact HL.out | refine Locs.drew ?_ | refine Locs.drewN ?_ _)) hb_); clear HL hb_; have HL := HLn; clear HLn; (try clear hf); have hf := HL.out.facts; simp only [factsOf, List.cons_append, List.nil_append] at hf; (try clear hy); have hy := HY.out _ HL.out.below; obtain rfl : x = 0 := hx.2 rfl))
      go_ret
      exact ⟨rfl, HL.out.below⟩
end Go.Proofs.YtcioegimmjppcaaDoor.P
/-! serial's whole: its deferred function, its results (machine side). -/
namespace Go.Proofs.YtcioegimmjppcaaDoor.P
open Go.RowKit Go.Proofs.YtcioegimmjppcaaDoorW.PrintWords Go.Proofs.YtcioegimmjppcaaDoorW.PrintLast Go.Proofs.YtcioegimmjppcaaDoorW.PrintMore
set_option linter.unusedVariables false
set_option linter.unusedSimpArgs false
set_option maxHeartbeats 1000000
set_option maxRecDepth 100000

theorem World.setCell_alloc (W : World) (a : Addr) (v : Value) (o : Obj) (h : a.block < W.heap.size) : (W.alloc o).setCell a v = (W.setCell a v).alloc o := by
  unfold World.setCell World.alloc
  simp only
  congr 1
  apply Array.ext
  · simp
  · intro i h1 h2
    simp only [Array.getElem_modify, Array.getElem_push, Array.size_modify]
    simp at h1
    by_cases hi : i < W.heap.size
    · simp [hi]
    · have : i = W.heap.size := by omega
      subst this
      have hne : ¬ a.block = W.heap.size := by omega
      simp [hne]

theorem whole1_idle (p q r : Addr) (w : World) :
    CallsD Tryd.prog 37 #[.pointer (some p), .pointer (some q), .pointer (some r)] .returning w fun e u' w' => e = .returned (.tuple #[]) ∧ u' = .returning ∧ w' = w := by
  refine callsD_of_wpS Tryd.func37 rfl fun c₀ cs hu => ?_
  simp only [Tryd.ntmps37, List.size_toArray, List.length_cons, List.length_nil, Nat.reduceAdd, Nat.reduceSub, Array.replicate_succ, Array.replicate_zero, List.push_toArray, List.append_toArray, List.nil_append, List.cons_append]
  apply wpS_seq
  apply wpS_region
  simp [wpOpsS, go_sem, recoverD, hu, Exit.thenS]
  refine wpS_of_wp ?_
  go_wp2
  cases c₀
  simp_all [bodyPostS, results, Tryd.results37]

theorem assert72 (v : Value) (W : World) : (Instr.typeAssert (.iface 72 v) 20 72 true).run Tryd.prog W = .ok (.tuple #[v, .bool true]) W := by
  simp [Instr.typeAssert, run_underlying Tryd.underlying72, Result.andThen]

theorem whole1_panicking (w0 w : World) (bs : List (Nat × Array Value × TypeId)) (g6 g7 g8 : Nat) (u : Value) (a1 a2 a3 a4 a5 e why : Int) (HL0 : Locs w0 w ((g6, #[u], 60) :: (g7, #[.int .i64 a1, .int .i64 a2, .int .i64 a3, .int .i64 a4, .int .i64 a5], 28) :: (g8, #[.int .i64 e], 29) :: bs)) :
    CallsD Tryd.prog 37 #[.pointer (some ⟨g6, 0, none⟩), .pointer (some ⟨g7, 0, none⟩), .pointer (some ⟨g8, 0, none⟩)] (.panicking (stopV why)) w fun en u' w' =>
      en = .returned (.tuple #[]) ∧ u' = .panicking [{ v := .iface 72 (.agg #[.int .i64 why]), recovered := true }] ∧ Locs w0 w' ((g6, #[.pointer none], 60) :: (g7, #[.int .i64 0, .int .i64 0, .int .i64 0, .int .i64 0, .int .i64 0], 28) :: (g8, #[.int .i64 why], 29) :: bs) := by
  have HL := Aside0.mk HL0
  have has := assert72
  clear HL0
  refine callsD_of_wpS Tryd.func37 rfl fun c₀ cs hu => ?_
  simp only [Tryd.ntmps37, List.size_toArray, List.length_cons, List.length_nil, Nat.reduceAdd, Nat.reduceSub, Array.replicate_succ, Array.replicate_zero, List.push_toArray, List.append_toArray, List.nil_append, List.cons_append]
  apply wpS_seq
  apply wpS_region
  simp [wpOpsS, go_sem, recoverD, hu, Exit.thenS, stopV]
  refine wpS_of_wp ?_
  (try clear hf); have hf := HL.out.facts; simp only [factsOf, List.cons_append, List.nil_append] at hf; skip
  go_upto_region 5 with (first | ((with_reducible refine gate_dst (N := 4) rfl ?_); (try (refine gate_guard (by rfl) ?_; dsimp only)); refine box_locs (by repeat (first | exact HL.out | refine Locs.drew ?_ | refine Locs.drewN ?_ _)) ?hg (N := 4) ?hd (cs := #[.int .i64 0]) (t := 72) ?hr ?_; (case hd => rfl); (case hg => rfl); (case hr => first | (go_simp; done) | (go_simp; rfl)); intro g4 wb4 HLn HKb; clear HL; have HL := HLn; clear HLn HKb; (try clear hf); have hf := HL.out.facts; simp only [factsOf, List.cons_append, List.nil_append] at hf; skip))
  generalize hwt : World.setCell _ _ _ = w3
  have HLn : Aside0 (Locs w0 w3 ((g4, #[.int .i64 why], 72) :: (g6, #[u], 60) :: (g7, #[.int .i64 a1, .int .i64 a2, .int .i64 a3, .int .i64 a4, .int .i64 a5], 28) :: (g8, #[.int .i64 e], 29) :: bs)) := ⟨by rw [← hwt]; exact (HL.out.set 0 rfl 0 _)⟩
  clear HL hwt; have HL := HLn; clear HLn; (try clear hf); have hf := HL.out.facts; simp only [factsOf, List.cons_append, List.nil_append] at hf; skip
  have hap := HL.out.apart
  have ha1 := (List.pairwise_cons.1 hap).1
  have ha2 := (List.pairwise_cons.1 (List.pairwise_cons.1 hap).2).1
  have ha3 := (List.pairwise_cons.1 (List.pairwise_cons.1 (List.pairwise_cons.1 hap).2).2).1
  have n46 : g4 ≠ g6 := ha1 (g6, #[u], 60) (by simp)
  have n47 : g4 ≠ g7 := ha1 (g7, #[.int .i64 a1, .int .i64 a2, .int .i64 a3, .int .i64 a4, .int .i64 a5], 28) (by simp)
  have n48 : g4 ≠ g8 := ha1 (g8, #[.int .i64 e], 29) (by simp)
  have n67 : g6 ≠ g7 := ha2 (g7, #[.int .i64 a1, .int .i64 a2, .int .i64 a3, .int .i64 a4, .int .i64 a5], 28) (by simp)
  have n68 : g6 ≠ g8 := ha2 (g8, #[.int .i64 e], 29) (by simp)
  have n78 : g7 ≠ g8 := ha3 (g8, #[.int .i64 e], 29) (by simp)
  have m46 := n46.symm
  have m47 := n47.symm
  have m48 := n48.symm
  have m67 := n67.symm
  have m68 := n68.symm
  have m78 := n78.symm
  clear hap ha1 ha2 ha3
  go_region
  generalize hwt : World.drew _ = w4
  have HLn : Locs w0 w4 ((g6, #[.pointer none], 60) :: (g7, #[.int .i64 0, .int .i64 0, .int .i64 0, .int .i64 0, .int .i64 0], 28) :: (g8, #[.int .i64 why], 29) :: bs) := by
    rw [← hwt]
    exact ((((((((HL.out.set 1 rfl 0 (.pointer none)).set 2 rfl 0 (.int .i64 0)).set 2 rfl 1 (.int .i64 0)).set 2 rfl 2 (.int .i64 0)).set 2 rfl 3 (.int .i64 0)).set 2 rfl 4 (.int .i64 0)).set 3 rfl 0 (.int .i64 why)).drew).sub (List.sublist_cons_self _ _)
  clear hf HL hwt n46 n47 n48 n67 n68 n78 m46 m47 m48 m67 m68 m78
  go_wp2_with (first | fail)
  cases c₀
  simp_all [bodyPostS, results, Tryd.results37]

theorem res31 (tmps : Array Value) (g6 g7 g8 : Nat) (h6 : tmps[6]? = some (.pointer (some ⟨g6, 0, none⟩))) (h7 : tmps[7]? = some (.pointer (some ⟨g7, 0, none⟩))) (h8 : tmps[8]? = some (.pointer (some ⟨g8, 0, none⟩))) {w W : World} {bs : List (Nat × Array Value × TypeId)} {u : Value} {a1 a2 a3 a4 a5 e : Int} (HL : Locs w W ((g6, #[u], 60) :: (g7, #[.int .i64 a1, .int .i64 a2, .int .i64 a3, .int .i64 a4, .int .i64 a5], 28) :: (g8, #[.int .i64 e], 29) :: bs)) :
    (results Tryd.f31 tmps).run Tryd.prog W = .ok (.tuple #[u, .agg #[.int .i64 a1, .int .i64 a2, .int .i64 a3, .int .i64 a4, .int .i64 a5], .int .i64 e]) W := by
  have hf := HL.facts
  simp only [factsOf] at hf
  have hu28 := Tryd.underlying28
  have c6 := hf.1.1
  have c7 := hf.2.1.1
  have c8 := hf.2.2.1.1
  simp [results, Tryd.results31, h6, h7, h8, go_sem, c6, c7, c8]
end Go.Proofs.YtcioegimmjppcaaDoor.P
/-! serial's whole (machine side). -/
namespace Go.Proofs.YtcioegimmjppcaaDoor.P
open Go.RowKit Go.Proofs.YtcioegimmjppcaaDoorW.PrintWords Go.Proofs.YtcioegimmjppcaaDoorW.PrintLast Go.Proofs.YtcioegimmjppcaaDoorW.PrintMore
set_option linter.unusedVariables false
set_option linter.unusedSimpArgs false
set_option maxHeartbeats 1000000
set_option maxRecDepth 100000

theorem apart3 {w W : World} {a b c : Nat × Array Value × TypeId} {r : List (Nat × Array Value × TypeId)} (h : Locs w W (a :: b :: c :: r)) : a.1 ≠ b.1 ∧ a.1 ≠ c.1 ∧ b.1 ≠ c.1 ∧ b.1 ≠ a.1 ∧ c.1 ≠ a.1 ∧ c.1 ≠ b.1 := by
  have hap := h.apart
  have h1 := (List.pairwise_cons.1 hap).1
  have h2 := (List.pairwise_cons.1 (List.pairwise_cons.1 hap).2).1
  have e1 := h1 b (by simp)
  have e2 := h1 c (by simp)
  have e3 := h2 c (by simp)
  exact ⟨e1, e2, e3, e1.symm, e2.symm, e3.symm⟩

theorem perm3 {α : Type} (a b c : α) (r : List α) : (c :: b :: a :: r).Perm (a :: b :: c :: r) := (List.reverse_perm [a, b, c]).append_right r

def trunc (W : World) (N : Nat) : World := { W with heap := W.heap.extract 0 N }
theorem trunc_size (W : World) (N : Nat) (h : N ≤ W.heap.size) : (trunc W N).heap.size = N := by simp [trunc]; omega
theorem trunc_get (W : World) (N k : Nat) (h : k < N) : (trunc W N).heap[k]? = W.heap[k]? := by
  unfold trunc
  simp only [Array.getElem?_extract]
  by_cases hk : k < W.heap.size
  · rw [if_pos (by omega), Nat.zero_add]
  · rw [if_neg (by omega), Array.getElem?_eq_none (by omega)]
theorem below_trunc (W : World) (N : Nat) (h : N ≤ W.heap.size) : Below (trunc W N).heap.size (trunc W N) W := by
  rw [trunc_size W N h]
  exact ⟨rfl, rfl, rfl, by rw [trunc_size W N h]; exact h, fun k hk => (trunc_get W N k hk).symm⟩
/-- what was there before is there in the world cut off -/
theorem Locs.trunc {w W : World} {bs : List (Nat × Array Value × TypeId)} (h : Locs w W bs) (N : Nat) (h1 : w.heap.size ≤ N) (h2 : N ≤ W.heap.size) (h3 : ∀ b ∈ bs, b.1 < N) : Locs w (P.trunc W N) bs :=
  ⟨⟨h.below.os, h.below.tape, h.below.output, by rw [trunc_size W N h2]; exact h1, fun k hk => (trunc_get W N k (Nat.lt_of_lt_of_le hk h1)).trans (h.below.block k hk)⟩,
    fun b hb => (trunc_get W N b.1 (h3 b hb)).trans (h.blk b hb), h.new, h.apart⟩

section
variable {P : Program} {ops : Array Oper} {rest : List Oper} {o : Oper} {a : Act} {Q : Exit → Act → World → Prop}
theorem box_LG {w W : World} {bs : List (Nat × Array Value × TypeId)} (HL : Locs w W bs) (hgd : o.guard = none) {N : Tmp} (_hd : o.dst = some N) {cs : Array Value} {t : TypeId}
    (hrun : (execOp a.eval o).run P W = .ok (.value (.pointer (some ⟨W.heap.size, 0, none⟩))) (W.alloc (.cells cs t (0, 0))))
    (h : ∀ g w1, Aside0 (Locs w w1 ((g, cs, t) :: bs)) → Aside0 (∃ N, N ≤ g ∧ N ≤ w1.heap.size ∧ w.heap.size ≤ N ∧ ∀ b ∈ bs, b.1 < N) → wpList P ops Q rest (a.put o.dst (.pointer (some ⟨g, 0, none⟩))) w1) : wpList P ops Q (o :: rest) a W :=
  Kd.event_run hgd hrun (h _ _ ⟨HL.alloc cs t⟩ ⟨⟨W.heap.size, Nat.le_refl _, (below_alloc (Below.refl _ W) _).size, HL.below.size, fun b hb => HL.lt b hb⟩⟩)
end

theorem sliceC (g : Nat) (W : World) : (Instr.sliceAt 75 (.pointer (some ⟨g, 3, none⟩)) none none none).run Tryd.prog W = .ok (.slice (some ⟨g, 3, none⟩) 16 16) W := by
  have hu75 : Tryd.prog.underlying 75 = some (.array (Tryd.prog.arrayLen 75) (Tryd.prog.elem 75)) := by kernel_rfl
  have hl : Tryd.prog.arrayLen 75 = 16 := by kernel_rfl
  have he : Tryd.prog.elem 75 = 2 := by kernel_rfl
  rw [run_sliceAt_array_all W 75 ⟨g, 3, none⟩ hu75, hl, he]
  obtain ⟨i0, hi, hzz⟩ := Option.map_eq_some_iff.1 info2
  simp only [Prod.mk.injEq] at hzz
  simp [sizeOf, typeInfo, hi, hzz.2.1, slicedAt, Result.andThen, Addr.add]

theorem copyC (ty : TypeId) (g : Nat) (A1 : Option Addr) (c1 : Nat) (l1 : List Int) (h16 : l1.length ≤ 16) (W : World) (hC : Kd.C (Kd.int .i64) W A1 l1.length l1) (hc : ∀ j, j < 16 → (W.cell? ⟨g, 3 + j, none⟩).isSome = true) (hf : ∀ j, W.frozen? ⟨g, 3 + j, none⟩ = false) :
    (Builtin.copy_ #[25, 25] ty #[.slice (some ⟨g, 3, none⟩) 16 16, .slice A1 l1.length c1]).run Tryd.prog W = .ok (goInt l1.length) (W.setCells g 3 (ints l1)) := by
  have hi : (Tryd.prog.info? 2).map (·.size) = some 1 := by kernel_rfl
  by_cases h0 : l1.length = 0
  · rw [run_copy_none W 25 25 ty 2 (some ⟨g, 3, none⟩) A1 16 16 l1.length c1 Tryd.underlying25 hi (by rw [h0]; rfl), h0]
    rw [List.length_eq_zero_iff.1 h0]
    rfl
  · obtain ⟨a1, rfl, -⟩ := Kd.at_int hC 0 (by omega) (by omega)
    have hn : (ints l1).length = Nat.min l1.length 16 := by rw [ints_len]; exact (Nat.min_eq_left h16).symm
    have h := run_copy_cells (P := Tryd.prog) W 25 25 ty 2 g 3 16 16 a1 l1.length c1 (ints l1) Tryd.underlying25 hi hn (fun j v hj => ?_) (fun j hj => hc j (by rw [ints_len] at hj; omega)) (fun j hj => hf j) (fun v hv => by
      unfold ints at hv
      obtain ⟨x, -, rfl⟩ := List.mem_map.1 hv
      rfl)
    · rw [ints_len] at h
      exact h
    · have hjl : j < l1.length := by
        have := (List.getElem?_eq_some_iff.1 hj).1
        rw [ints_len] at this
        exact this
      obtain ⟨a2, e, hce⟩ := Kd.at_int hC (j : Int) (by omega) (by omega)
      cases e
      rw [Int.toNat_natCast] at hce
      rw [hce, ← hj, ints_get _ _ hjl]
      rfl

theorem cellOf_val {W : World} {a : Addr} {v : Value} (h : W.cell? a = some v) : cellOf W a = v := by
  unfold cellOf
  rw [h]
  rfl

structure Apart4 (g6 g7 g8 gr : Nat) : Prop where
  a : g8 ≠ g7
  b : g8 ≠ g6
  c : g7 ≠ g6
  d : g8 ≠ gr
  e : g7 ≠ gr
  f : g6 ≠ gr

/-- what a return of whole meets in memory -/
structure WS (g6 g7 g8 gr : Nat) (cr : Array Value) (W : World) : Prop where
  e : ∃ x, W.heap[g8]? = some (.cells #[x] 29 (0, 0))
  v : ∃ a1 a2 a3 a4 a5, W.heap[g7]? = some (.cells #[a1, a2, a3, a4, a5] 28 (0, 0))
  p : W.heap[g6]? = some (.cells #[.pointer (some ⟨gr, 0, none⟩)] 60 (0, 0))
  r : W.heap[gr]? = some (.cells cr 68 (0, 0))

section
variable {g6 g7 g8 gr : Nat} {cr : Array Value} {W : World}
theorem WS.drew (h : WS g6 g7 g8 gr cr W) : WS g6 g7 g8 gr cr W.drew := ⟨h.e, h.v, h.p, h.r⟩
theorem WS.set6 (hd : Apart4 g6 g7 g8 gr) (h : WS g6 g7 g8 gr cr W) : WS g6 g7 g8 gr cr (W.setCell ⟨g6, 0, none⟩ (.pointer (some ⟨gr, 0, none⟩))) := by
  obtain ⟨x, h1⟩ := h.e
  obtain ⟨a1, a2, a3, a4, a5, h2⟩ := h.v
  exact ⟨⟨x, (Below.heap_setCell W ⟨g6, 0, none⟩ _ g8 hd.b).trans h1⟩, ⟨a1, a2, a3, a4, a5, (Below.heap_setCell W ⟨g6, 0, none⟩ _ g7 hd.c).trans h2⟩, blk_set h.p 0 _, (Below.heap_setCell W ⟨g6, 0, none⟩ _ gr hd.f.symm).trans h.r⟩
theorem WS.set8 (hd : Apart4 g6 g7 g8 gr) (v : Value) (h : WS g6 g7 g8 gr cr W) : WS g6 g7 g8 gr cr (W.setCell ⟨g8, 0, none⟩ v) := by
  obtain ⟨x, h1⟩ := h.e
  obtain ⟨a1, a2, a3, a4, a5, h2⟩ := h.v
  exact ⟨⟨v, blk_set h1 0 v⟩, ⟨a1, a2, a3, a4, a5, (Below.heap_setCell W ⟨g8, 0, none⟩ _ g7 hd.a.symm).trans h2⟩, (Below.heap_setCell W ⟨g8, 0, none⟩ _ g6 hd.b.symm).trans h.p, (Below.heap_setCell W ⟨g8, 0, none⟩ _ gr hd.d.symm).trans h.r⟩
theorem WS.set7 (hd : Apart4 g6 g7 g8 gr) (j : Nat) (v : Value) (h : WS g6 g7 g8 gr cr W) : WS g6 g7 g8 gr cr (W.setCell ⟨g7, j, none⟩ v) := by
  obtain ⟨x, h1⟩ := h.e
  obtain ⟨a1, a2, a3, a4, a5, h2⟩ := h.v
  refine ⟨⟨x, (Below.heap_setCell W ⟨g7, j, none⟩ _ g8 hd.a).trans h1⟩, ?_, (Below.heap_setCell W ⟨g7, j, none⟩ _ g6 hd.c.symm).trans h.p, (Below.heap_setCell W ⟨g7, j, none⟩ _ gr hd.e.symm).trans h.r⟩
  have h3 := blk_set h2 j v
  rcases j with _ | _ | _ | _ | _ | j
  · exact ⟨_, _, _, _, _, h3⟩
  · exact ⟨_, _, _, _, _, h3⟩
  · exact ⟨_, _, _, _, _, h3⟩
  · exact ⟨_, _, _, _, _, h3⟩
  · exact ⟨_, _, _, _, _, h3⟩
  · refine ⟨a1, a2, a3, a4, a5, h3.trans ?_⟩
    rw [Array.setIfInBounds_eq_of_size_le (by simp)]
theorem WS.state (h : WS g6 g7 g8 gr cr W) : W.cell? ⟨g6, 0, none⟩ = some (.pointer (some ⟨gr, 0, none⟩)) ∧ W.frozen? ⟨g6, 0, none⟩ = false ∧ (∀ j, W.cell? ⟨gr, j, none⟩ = cr[j]?) ∧
    (∀ j, W.cell? ⟨g7, j, none⟩ = #[cellOf W ⟨g7, 0, none⟩, cellOf W ⟨g7, 1, none⟩, cellOf W ⟨g7, 2, none⟩, cellOf W ⟨g7, 3, none⟩, cellOf W ⟨g7, 4, none⟩][j]?) ∧
    (∀ j, W.frozen? ⟨g7, j, none⟩ = false) ∧ W.cell? ⟨g8, 0, none⟩ = some (cellOf W ⟨g8, 0, none⟩) ∧ W.frozen? ⟨g8, 0, none⟩ = false := by
  obtain ⟨x, h1⟩ := h.e
  obtain ⟨a1, a2, a3, a4, a5, h2⟩ := h.v
  exact ⟨blk_cell h.p 0, blk_frozen h.p 0, fun j => blk_cell h.r j, fun j => by
    rw [blk_cell h2 j, cellOf_val (blk_cell h2 0 : _ = some a1), cellOf_val (blk_cell h2 1 : _ = some a2), cellOf_val (blk_cell h2 2 : _ = some a3), cellOf_val (blk_cell h2 3 : _ = some a4), cellOf_val (blk_cell h2 4 : _ = some a5)]; rfl, fun j => blk_frozen h2 j, cellOf_eq (blk_cell h1 0), blk_frozen h1 0⟩
end

theorem NR_lower {W : World} {b b' : Nat} {v : Value} {l : List Nd} (h : NR W b v l) (hb : b' ≤ b) : NR W b' v l := by
  unfold NR at h ⊢
  refine ⟨h.1, ?_⟩
  rcases h.2 with e | ⟨g', cap', cur, e1, e2, e3⟩
  · exact Or.inl e
  · exact Or.inr ⟨g', cap', cur, e1, Nat.le_trans hb e2, e3⟩

def wagg (a1 a2 a3 a4 a5 : Int) : Value := .agg #[.int .i64 a1, .int .i64 a2, .int .i64 a3, .int .i64 a4, .int .i64 a5]

/-- what a call of whole comes to -/
def WhoPost (w : World) (A : Option Addr) (n c : Nat) (fuel j : Int) (r : Res) (e : Ending) (w' : World) : Prop :=
  Below w.heap.size w w' ∧ if j ≠ 0 then e = .returned (.tuple #[.pointer none, wagg 0 0 0 0 0, .int .i64 j]) else
    match r with
    | .stop why => e = .returned (.tuple #[.pointer none, wagg 0 0 0 0 0, .int .i64 why])
    | .done rs v s => ∃ gr vN, e = .returned (.tuple #[.pointer (some ⟨gr, 0, none⟩), wagg v (fuel - (rs.left : Int)) rs.tasks rs.deepest s, .int .i64 0]) ∧ w.heap.size ≤ gr ∧ w'.heap[gr]? = some (.cells (runC A n c rs vN) 68 (0, 0)) ∧ NR w' w.heap.size vN rs.nodes

theorem whole_calls (A : Option Addr) (c : Nat) (L : List S39) (A1 : Option Addr) (c1 : Nat) (l1 : List Int) (fuel : Int) (w : World) (hr : Kd.C k39 w A L.length L) (hc : L.length ≤ c) (hr1 : Kd.C (Kd.int .i64) w A1 l1.length l1) (hc1 : l1.length ≤ c1) (hT : Tab w) :
    Calls Tryd.prog 31 #[.agg #[.slice A L.length c], .slice A1 l1.length c1, .int .i64 fuel] w (WhoPost w A L.length c fuel (judgedOf (L.map fnS) l1.length fuel) (whole pdS apS (L.map fnS) l1 fuel.toNat)) := by
  have HL := Aside0.mk (Locs.nil w)
  have HT := Aside0.mk hT
  have HC := Aside0.mk hr
  have HC1 := Aside0.mk hr1
  have hmf : ∀ (fn : Go.Fn) (first cap : Array Value) (w : World), (Instr.makeFunc fn first cap).run Tryd.prog w = .ok (.func fn first cap) w := fun _ _ _ _ => rfl
  have hu24 := Tryd.underlying24
  have hu28 := Tryd.underlying28
  obtain ⟨j, hj⟩ : ∃ j, judgedOf (L.map fnS) l1.length fuel = j := ⟨_, rfl⟩
  have HJ := Aside0.mk hj
  rw [hj]
  clear hr hr1 hT hj
  by_cases hj0 : j = 0
  · subst hj0
    have hv := HJ.out
    unfold judgedOf at hv
    have hvb : validB (L.map fnS) = true := by
      cases hb : validB (L.map fnS) with
      | false => rw [hb, if_pos rfl] at hv; cases hv
      | true => rfl
    rw [hvb, if_neg (by decide)] at hv
    have hpar : (l1.length : Int) = (fnOf (L.map fnS) 0).params := by
      by_cases e : (l1.length : Int) = (fnOf (L.map fnS) 0).params
      · exact e
      · rw [if_pos e] at hv; cases hv
    rw [if_neg (by omega)] at hv
    have hfu : 0 ≤ fuel ∧ fuel ≤ 4194304 := by
      by_cases e : fuel < 0 ∨ fuel > 4194304
      · rw [if_pos e] at hv; cases hv
      · omega
    have hV := (validB_iff _).1 hvb
    have hlen : 1 ≤ L.length := by have h := hV.some; rw [List.length_map] at h; exact h
    have hs0 := (hV.each _ (fnOf_mem (P := L.map fnS) (f := 0) ⟨by omega, by rw [List.length_map]; omega⟩)).shape
    unfold shapeOK at hs0
    have hl16 : l1.length ≤ 16 := by omega
    obtain ⟨m, rfl⟩ : ∃ m : Nat, fuel = (m : Int) := ⟨fuel.toNat, by omega⟩
    have hm : m ≤ 4194304 := by omega
    rw [show ((m : Int)).toNat = m from Int.toNat_natCast m]
    obtain ⟨ad, A3, c3, rfl, -, -, -⟩ := fun_cells HC.out 0 hlen
    have HV := Aside0.mk hV
    have HM := Aside0.mk (And.intro hm hl16)
    clear hv hvb hpar hfu hV hs0 hm hl16 hlen
    obtain ⟨lr, hlr⟩ : ∃ lr, whole pdS apS (L.map fnS) l1 m = lr := ⟨_, rfl⟩
    have HLR := Aside0.mk hlr
    rw [hlr]
    clear hlr
    obtain ⟨t0, ht0⟩ : ∃ t0 : TS, t0 = { f := 0, depth := 1, ped := 1, regs := List.replicate 16 0, slots := List.replicate 8 0, kids := 0, work := 0, c := 0, ends := [] } := ⟨_, rfl⟩
    have HT0 := Aside0.mk ht0
    clear ht0
    go_enter_defers Tryd.func31, Tryd.ntmps31
    go_upto_region 7 with (first | ((with_reducible refine gate_dst (N := 3) rfl ?_); (try (refine gate_guard (by rfl) ?_; dsimp only)); refine box_locs (by repeat (first | exact HL.out | refine Locs.drew ?_ | refine Locs.drewN ?_ _)) ?hg (N := 3) ?hd (cs := #[.slice (some ad) L.length c]) (t := 24) ?hr ?_; (case hd => rfl); (case hg => rfl); (case hr => first | (go_simp; done) | (go_simp; rfl)); intro g3 wb1 HLn HKb; clear HL; have HL := HLn; clear HLn HKb; (try clear hf); have hf := HL.out.facts; simp only [factsOf, List.cons_append, List.nil_append] at hf; skip) | ((with_reducible refine gate_dst (N := 6) rfl ?_); (try (refine gate_guard (by rfl) ?_; dsimp only)); refine box_locs (by repeat (first | exact HL.out | refine Locs.drew ?_ | refine Locs.drewN ?_ _)) ?hg (N := 6) ?hd (cs := #[.pointer none]) (t := 60) ?hr ?_; (case hd => rfl); (case hg => rfl); (case hr => first | (go_simp; done) | (go_simp; rfl)); intro g6 wb2 HLn HKb; clear HL; have HL := HLn; clear HLn HKb; (try clear hf); have hf := HL.out.facts; simp only [factsOf, List.cons_append, List.nil_append] at hf; skip) | ((with_reducible refine gate_dst (N := 7) rfl ?_); (try (refine gate_guard (by rfl) ?_; dsimp only)); refine box_locs (by repeat (first | exact HL.out | refine Locs.drew ?_ | refine Locs.drewN ?_ _)) ?hg (N := 7) ?hd (cs := #[.int .i64 0, .int .i64 0, .int .i64 0, .int .i64 0, .int .i64 0]) (t := 28) ?hr ?_; (case hd => rfl); (case hg => rfl); (case hr => first | (go_simp; done) | (go_simp; rfl)); intro g7 wb3 HLn HKb; clear HL; have HL := HLn; clear HLn HKb; (try clear hf); have hf := HL.out.facts; simp only [factsOf, List.cons_append, List.nil_append] at hf; skip) | ((with_reducible refine gate_dst (N := 8) rfl ?_); (try (refine gate_guard (by rfl) ?_; dsimp only)); refine box_locs (by repeat (first | exact HL.out | refine Locs.drew ?_ | refine Locs.drewN ?_ _)) ?hg (N := 8) ?hd (cs := #[.int .i64 0]) (t := 29) ?hr ?_; (case hd => rfl); (case hg => rfl); (case hr => first | (go_simp; done) | (go_simp; rfl)); intro g8 wb4 HLn HKb; clear HL; have HL := HLn; clear HLn HKb; (try clear hf); have hf := HL.out.facts; simp only [factsOf, List.cons_append, List.nil_append] at hf; skip) | (go_at_call 36; have hcall := judged_calls (some ad) c L A1 l1.length c1 (m : Int) _ (Kd.C_below HC.out HL.out.below) hc (HT.out.below HL.out.below); with_reducible refine hcall.mono ?_; clear hcall; rintro e_ wc5 ⟨he_, hb_⟩; rw [HJ.out] at he_; subst he_; have HLn := Aside0.mk (Locs.step (by repeat (first | exact HL.out | refine Locs.drew ?_ | refine Locs.drewN ?_ _)) hb_); clear HL hb_; have HL := HLn; clear HLn; (try clear hf); have hf := HL.out.facts; simp only [factsOf, List.cons_append, List.nil_append] at hf; skip) | ((with_reducible refine gate_dst (N := 24) rfl ?_); (try (refine gate_guard (by rfl) ?_; dsimp only)); refine box_LG (by repeat (first | exact HL.out | refine Locs.drew ?_ | refine Locs.drewN ?_ _)) ?hg (N := 24) ?hd (cs := #[.slice (some ad) L.length c, .int .i64 (m : Int), .int .i64 0, .int .i64 0, .slice none 0 0]) (t := 68) ?hr ?_; (case hd => rfl); (case hg => rfl); (case hr => first | (go_simp; done) | (go_simp; rfl)); intro gr wb24 HLn24 HGb; have HG24 := Aside0.mk HGb.out; clear HL HGb; have HL := HLn24; clear HLn24; (try clear hf); have hf := HL.out.facts; simp only [factsOf, List.cons_append, List.nil_append] at hf; skip))
    obtain ⟨N, hN1, hN2, hN3, hN4⟩ := HG24.out
    generalize hwt : World.alloc _ _ = w7
    have hL7 : Locs w w7 ((wb24.heap.size, taskC t0 (.slice none 0 0), 78) :: (gr, #[.slice (some ad) L.length c, .int .i64 (m : Int), .int .i64 0, .int .i64 0, .slice none 0 0], 68) :: [(g8, #[.int .i64 0], 29), (g7, #[.int .i64 0, .int .i64 0, .int .i64 0, .int .i64 0, .int .i64 0], 28), (g6, #[.pointer (some ⟨gr, 0, none⟩)], 60), (g3, #[.slice (some ad) L.length c], 24)]) := by
      rw [← hwt, HT0.out]
      have h1 := (HL.out.set 3 rfl 0 (.pointer (some ⟨gr, 0, none⟩))).alloc (taskC t0 (.slice none 0 0)) 78
      rw [World.size_setCell, HT0.out] at h1
      exact h1
    have hgt : N ≤ wb24.heap.size := hN2
    have hw7 : N ≤ w7.heap.size := by
      rw [← hwt]
      exact Nat.le_trans hN2 (by rw [← World.size_setCell wb24 ⟨g6, 0, none⟩ (.pointer (some ⟨gr, 0, none⟩))]; exact (below_alloc (Below.refl _ _) _).size)
    clear hwt HL hf HG24
    generalize wb24.heap.size = gt at hL7 hgt ⊢
    have HL0 : Aside0 (Locs w (trunc w7 N) [(g8, #[.int .i64 0], 29), (g7, #[.int .i64 0, .int .i64 0, .int .i64 0, .int .i64 0, .int .i64 0], 28), (g6, #[.pointer (some ⟨gr, 0, none⟩)], 60), (g3, #[.slice (some ad) L.length c], 24)]) := ⟨Locs.trunc (hL7.sub ((List.sublist_cons_self _ _).trans (List.sublist_cons_self _ _))) N hN3 hw7 (fun b hb => by
      simp only [List.mem_cons, List.not_mem_nil, or_false] at hb
      rcases hb with rfl | rfl | rfl | rfl
      · exact hN4 (g8, _) (by simp)
      · exact hN4 (g7, _) (by simp)
      · exact hN4 (g6, #[.pointer none], 60) (by simp)
      · exact hN4 (g3, _) (by simp))⟩
    have HR : Aside0 (RB (trunc w7 N) w7 gr [(gt, taskC t0 (.slice none 0 0), 78)] (some ad) L.length c ⟨m, 0, 0, []⟩ (.slice none 0 0) (.slice none 0 0) []) := ⟨by
      refine ⟨⟨below_trunc w7 N hw7, fun b hb => ?_, fun b hb => ?_, ?_⟩, ?_, Kd.R_nil _ _ _ _ _, fun b hb e => by simp [Value.ownBlock] at e, fun b hb e => by simp [Value.ownBlock] at e⟩
      · rcases List.mem_cons.1 hb with rfl | hb
        · exact hL7.at 1 rfl
        · rcases List.mem_cons.1 hb with rfl | hb
          · exact hL7.at 0 rfl
          · cases hb
      · rw [trunc_size w7 N hw7]
        rcases List.mem_cons.1 hb with rfl | hb
        · exact hN1
        · rcases List.mem_cons.1 hb with rfl | hb
          · exact hgt
          · cases hb
      · have h1 := (List.pairwise_cons.1 hL7.apart).1 _ List.mem_cons_self
        refine List.pairwise_cons.2 ⟨fun b hb => ?_, List.pairwise_singleton _ _⟩
        rw [List.mem_singleton.1 hb]
        exact h1.symm
      · exact ⟨rfl, Or.inl ⟨rfl, rfl⟩⟩⟩
    have HB0 := Aside0.mk (show Below w.heap.size w w7 from hL7.below)
    clear hL7 hgt hw7 hN1 hN2 hN3 hN4
    have HTL : Aside0 (TLen t0) := ⟨by rw [HT0.out]; exact ⟨rfl, rfl⟩⟩
    have hsl := sliceC gt
    have hcp := fun ty => copyC ty gt A1 c1 l1 HM.out.2 w7 (Kd.C_below HC1.out HB0.out) (fun j hj => by
      rw [(blk_cell (HR.out.L.at 1 rfl) (3 + j)).trans (taskC_reg HTL.out j hj)]
      rfl) (fun j => blk_frozen (HR.out.L.at 1 rfl : w7.heap[gt]? = _) _)
    have HL : Aside0 (Locs w w7 [(g8, #[.int .i64 0], 29), (g7, #[.int .i64 0, .int .i64 0, .int .i64 0, .int .i64 0, .int .i64 0], 28), (g6, #[.pointer (some ⟨gr, 0, none⟩)], 60), (g3, #[.slice (some ad) L.length c], 24)]) := ⟨HL0.out.step HR.out.L.below⟩
    (try clear hf); have hf := HL.out.facts; simp only [factsOf, List.cons_append, List.nil_append] at hf; skip
    go_upto_region 8 with (first | fail)
    generalize hwt : World.setCells _ _ _ _ = w8
    have HRn : Aside0 (RB (trunc w7 N) w8 gr [(gt, taskC (root l1) (.slice none 0 0), 78)] (some ad) L.length c ⟨m, 0, 0, []⟩ (.slice none 0 0) (.slice none 0 0) []) := ⟨by
      rw [← hwt]
      have h1 := RB.setMany (ints l1) _ _ _ (3 + 0) HR.out
      have e1 := setMany_regs l1 t0 (.slice none 0 0) 0 HTL.out (by have := HM.out.2; omega)
      have e2 : ({ t0 with regs := overL t0.regs 0 l1 } : TS) = root l1 := by
        rw [HT0.out]
        show TS.mk _ _ _ (overL (List.replicate 16 0) 0 l1) _ _ _ _ _ = _
        rw [overL_fill l1 HM.out.2]
        rfl
      rw [e1, e2] at h1
      exact h1⟩
    clear hwt HL hf hsl hcp HB0 HT0 HTL HR
    have HR := HRn
    clear HRn
    have HL : Aside0 (Locs w w8 [(g8, #[.int .i64 0], 29), (g7, #[.int .i64 0, .int .i64 0, .int .i64 0, .int .i64 0, .int .i64 0], 28), (g6, #[.pointer (some ⟨gr, 0, none⟩)], 60), (g3, #[.slice (some ad) L.length c], 24)]) := ⟨HL0.out.step HR.out.L.below⟩
    (try clear hf); have hf := HL.out.facts; simp only [factsOf, List.cons_append, List.nil_append] at hf; skip
    have HPC := Aside0.mk (play_calls (L := L) (m + 1) (trunc w7 N) w8 ad c gr gt ⟨m, 0, 0, []⟩ (root l1) (.slice none 0 0) (-1) 0 (Kd.C_below HC.out HL0.out.below) hc HV.out HR.out (At.root HV.out l1) rfl rfl rfl rfl ⟨by show (1 : Int) ≤ 1; decide, by show (1 : Int) ≤ 4096; decide⟩ ⟨by have := HM.out.1; show 0 + m ≤ 4194305; omega, by have := HM.out.1; show (0 : Int) ≤ 0 ∧ 0 + (m : Int) ≤ 4194305; omega⟩ (by have := HM.out.1; show 0 + m ≤ 4194304; omega) (by have := HM.out.1; show (0 : Int) + (m : Int) ≤ 4194304; omega) (by show m < m + 1; omega))
    have HLW : Aside0 (loop pdS apS (L.map fnS) (m + 1) (enter (L.map fnS) ⟨m, 0, 0, []⟩ (root l1) (-1) 0) (root l1) 0 0 = lr) := ⟨HLR.out⟩
    cases lr with
    | stop why =>
      go_wp2_with (first | (go_at_call 38; have hcall := HPC.out; rw [show ([] : List Nd).length = 0 from rfl, HLW.out] at hcall; with_reducible refine hcall.mono ?_; clear hcall; rintro e_ wc hP; unfold PlayPost at hP; obtain ⟨rfl, hb_⟩ := hP))
      refine leaves_cons (f := 37) (args := #[.pointer (some ⟨g6, 0, none⟩), .pointer (some ⟨g7, 0, none⟩), .pointer (some ⟨g8, 0, none⟩)]) (by simp [stopV]) (by simp [go_sem]) ?_
      refine (whole1_panicking w _ [(g3, #[.slice (some ad) L.length c], 24)] g6 g7 g8 _ 0 0 0 0 0 0 why (Locs.perm (HL0.out.step hb_) (perm3 _ _ _ _))).mono ?_
      rintro en u' w'' ⟨rfl, rfl, HL2⟩
      refine ⟨_, res31 _ g6 g7 g8 rfl rfl rfl HL2, HL2.below, ?_⟩
      rw [if_neg (fun h => h rfl)]
      rfl
    | done rs v span =>
      go_upto_region 9 with (first | (go_at_call 38; have hcall := HPC.out; rw [show ([] : List Nd).length = 0 from rfl, HLW.out] at hcall; with_reducible refine hcall.mono ?_; clear hcall; rintro e_ wc hP; unfold PlayPost at hP; obtain ⟨rfl, vN2, HP, hkept, hown, hsz2⟩ := hP))
      have HPP := Aside0.mk HP
      have HLn : Aside0 (Locs w wc [(g8, #[.int .i64 0], 29), (g7, #[.int .i64 0, .int .i64 0, .int .i64 0, .int .i64 0, .int .i64 0], 28), (g6, #[.pointer (some ⟨gr, 0, none⟩)], 60), (g3, #[.slice (some ad) L.length c], 24)]) := ⟨HL0.out.step HP.L.below⟩
      clear HL HP hkept hown hsz2 hf
      have HL := HLn
      clear HLn
      (try clear hf); have hf := HL.out.facts; simp only [factsOf, List.cons_append, List.nil_append] at hf; skip
      have hap := apart3 HL.out
      simp only at hap
      have hge : (trunc w7 N).heap.size ≤ gr := HPP.out.L.ge 0 rfl
      have n8 : g8 < gr := Nat.lt_of_lt_of_le (blk_lt (HL0.out.at 0 rfl)) hge
      have n7 : g7 < gr := Nat.lt_of_lt_of_le (blk_lt (HL0.out.at 1 rfl)) hge
      have n6 : g6 < gr := Nat.lt_of_lt_of_le (blk_lt (HL0.out.at 2 rfl)) hge
      have HD : Aside0 (Apart4 g6 g7 g8 gr) := ⟨⟨hap.1, hap.2.1, hap.2.2.1, Nat.ne_of_lt n8, Nat.ne_of_lt n7, Nat.ne_of_lt n6⟩⟩
      have HWS : Aside0 (WS g6 g7 g8 gr #[.slice (some ad) L.length c, .int .i64 (rs.left : Int), .int .i64 rs.tasks, .int .i64 rs.deepest, vN2] wc) := ⟨⟨⟨_, HL.out.at 0 rfl⟩, ⟨_, _, _, _, _, HL.out.at 1 rfl⟩, HL.out.at 2 rfl, HPP.out.L.at 0 rfl⟩⟩
      have hleft : (rs.left : Int) ≤ (m : Int) := by
        have h1 := (loop_sizes _ _ _ _ _ _ _ _ _ _ _ HLW.out).1
        have h2 : rs.left < m := h1
        omega
      have hwf : wrap64 ((m : Int) - (rs.left : Int)) = (m : Int) - (rs.left : Int) := by have := HM.out.1; unfold wrap64; omega
      have HLE := Aside0.mk hleft
      clear hge n8 n7 n6 hleft
      go_region_held3 (fun W' => W'.cell? ⟨g6, 0, none⟩ = some (.pointer (some ⟨gr, 0, none⟩)) ∧ W'.frozen? ⟨g6, 0, none⟩ = false ∧ (∀ j, W'.cell? ⟨gr, j, none⟩ = #[Value.slice (some ad) L.length c, .int .i64 (rs.left : Int), .int .i64 rs.tasks, .int .i64 rs.deepest, vN2][j]?) ∧ (∀ j, W'.cell? ⟨g7, j, none⟩ = #[cellOf W' ⟨g7, 0, none⟩, cellOf W' ⟨g7, 1, none⟩, cellOf W' ⟨g7, 2, none⟩, cellOf W' ⟨g7, 3, none⟩, cellOf W' ⟨g7, 4, none⟩][j]?) ∧ (∀ j, W'.frozen? ⟨g7, j, none⟩ = false) ∧ W'.cell? ⟨g8, 0, none⟩ = some (cellOf W' ⟨g8, 0, none⟩) ∧ W'.frozen? ⟨g8, 0, none⟩ = false) (exact WS.state (cr := #[Value.slice (some ad) L.length c, .int .i64 (rs.left : Int), .int .i64 rs.tasks, .int .i64 rs.deepest, vN2]) (by with_reducible repeat (first | exact HWS.out | refine WS.drew ?_ | refine WS.set6 HD.out ?_ | refine WS.set8 HD.out _ ?_ | refine WS.set7 HD.out _ _ ?_))) (fail)
      rw [show IntKind.i64.wrap ((m : Int) - (rs.left : Int)) = (m : Int) - (rs.left : Int) from (i64_w _).trans hwf]
      have hbase : (trunc w7 N).heap.size ≤ gr := HPP.out.L.ge 0 rfl
      have m8 : g8 < (trunc w7 N).heap.size := blk_lt (HL0.out.at 0 rfl)
      have m7 : g7 < (trunc w7 N).heap.size := blk_lt (HL0.out.at 1 rfl)
      have m6 : g6 < (trunc w7 N).heap.size := blk_lt (HL0.out.at 2 rfl)
      generalize hwt : World.drew _ = wd
      have HLd : Locs w wd ((g6, #[.pointer (some ⟨gr, 0, none⟩)], 60) :: (g7, #[.int .i64 v, .int .i64 ((m : Int) - (rs.left : Int)), .int .i64 rs.tasks, .int .i64 rs.deepest, .int .i64 span], 28) :: (g8, #[.int .i64 0], 29) :: [(g3, #[.slice (some ad) L.length c], 24)]) := by
        rw [← hwt]
        exact Locs.perm (((((((((HL.out.set 2 rfl 0 (.pointer (some ⟨gr, 0, none⟩))).set 1 rfl 0 (.int .i64 v)).set 1 rfl 1 (.int .i64 ((m : Int) - (rs.left : Int)))).set 1 rfl 2 (.int .i64 rs.tasks)).set 1 rfl 3 (.int .i64 rs.deepest)).set 1 rfl 4 (.int .i64 span)).set 0 rfl 0 (.int .i64 0))).drew) (perm3 _ _ _ _)
      have hkeep : ∀ k, (trunc w7 N).heap.size ≤ k → wd.heap[k]? = wc.heap[k]? := by
        intro k hk
        rw [← hwt, show ∀ W : World, W.drew.heap = W.heap from fun _ => rfl]
        clear HPP HWS HL HLd hwt
        have h6 : k ≠ g6 := Nat.ne_of_gt (Nat.lt_of_lt_of_le m6 hk)
        have h7 : k ≠ g7 := Nat.ne_of_gt (Nat.lt_of_lt_of_le m7 hk)
        have h8 : k ≠ g8 := Nat.ne_of_gt (Nat.lt_of_lt_of_le m8 hk)
        rw [Below.heap_setCell _ ⟨g8, 0, none⟩ _ k h8, Below.heap_setCell _ ⟨g7, 4, none⟩ _ k h7, Below.heap_setCell _ ⟨g7, 3, none⟩ _ k h7, Below.heap_setCell _ ⟨g7, 2, none⟩ _ k h7, Below.heap_setCell _ ⟨g7, 1, none⟩ _ k h7, Below.heap_setCell _ ⟨g7, 0, none⟩ _ k h7, Below.heap_setCell _ ⟨g6, 0, none⟩ _ k h6]
      have hGR : wd.heap[gr]? = some (.cells (runC (some ad) L.length c rs vN2) 68 (0, 0)) := (hkeep gr hbase).trans (HPP.out.L.at 0 rfl)
      have hNR : NR wd w.heap.size vN2 rs.nodes := NR_lower (own_same HPP.out.N (fun k hk => hkeep k (HPP.out.N.lt k hk).1)) HL0.out.below.size
      have hge := Nat.le_trans HL0.out.below.size hbase
      clear hwt HL HPP HWS hf hap hbase m8 m7 m6 hkeep
      go_wp2_with (first | fail)
      refine leaves_cons (f := 37) (args := #[.pointer (some ⟨g6, 0, none⟩), .pointer (some ⟨g7, 0, none⟩), .pointer (some ⟨g8, 0, none⟩)]) (by simp) (by simp [go_sem]) ?_
      refine (whole1_idle ⟨g6, 0, none⟩ ⟨g7, 0, none⟩ ⟨g8, 0, none⟩ _).mono ?_
      rintro e u' w'' ⟨rfl, rfl, rfl⟩
      refine ⟨_, res31 _ g6 g7 g8 rfl rfl rfl HLd, HLd.below, ?_⟩
      rw [if_neg (fun h => h rfl)]
      exact ⟨gr, vN2, rfl, hge, hGR, hNR⟩
  · have hjb : (j != 0) = true := bne_iff_ne.mpr hj0
    have HJ0 := Aside0.mk hj0
    clear hj0
    go_enter_defers Tryd.func31, Tryd.ntmps31
    go_upto_region 3 with (first | ((with_reducible refine gate_dst (N := 3) rfl ?_); (try (refine gate_guard (by rfl) ?_; dsimp only)); refine box_locs (by repeat (first | exact HL.out | refine Locs.drew ?_ | refine Locs.drewN ?_ _)) ?hg (N := 3) ?hd (cs := #[.slice A L.length c]) (t := 24) ?hr ?_; (case hd => rfl); (case hg => rfl); (case hr => first | (go_simp; done) | (go_simp; rfl)); intro g3 wb17 HLn HKb; clear HL; have HL := HLn; clear HLn HKb; (try clear hf); have hf := HL.out.facts; simp only [factsOf, List.cons_append, List.nil_append] at hf; skip) | ((with_reducible refine gate_dst (N := 6) rfl ?_); (try (refine gate_guard (by rfl) ?_; dsimp only)); refine box_locs (by repeat (first | exact HL.out | refine Locs.drew ?_ | refine Locs.drewN ?_ _)) ?hg (N := 6) ?hd (cs := #[.pointer none]) (t := 60) ?hr ?_; (case hd => rfl); (case hg => rfl); (case hr => first | (go_simp; done) | (go_simp; rfl)); intro g6 wb18 HLn HKb; clear HL; have HL := HLn; clear HLn HKb; (try clear hf); have hf := HL.out.facts; simp only [factsOf, List.cons_append, List.nil_append] at hf; skip) | ((with_reducible refine gate_dst (N := 7) rfl ?_); (try (refine gate_guard (by rfl) ?_; dsimp only)); refine box_locs (by repeat (first | exact HL.out | refine Locs.drew ?_ | refine Locs.drewN ?_ _)) ?hg (N := 7) ?hd (cs := #[.int .i64 0, .int .i64 0, .int .i64 0, .int .i64 0, .int .i64 0]) (t := 28) ?hr ?_; (case hd => rfl); (case hg => rfl); (case hr => first | (go_simp; done) | (go_simp; rfl)); intro g7 wb19 HLn HKb; clear HL; have HL := HLn; clear HLn HKb; (try clear hf); have hf := HL.out.facts; simp only [factsOf, List.cons_append, List.nil_append] at hf; skip) | ((with_reducible refine gate_dst (N := 8) rfl ?_); (try (refine gate_guard (by rfl) ?_; dsimp only)); refine box_locs (by repeat (first | exact HL.out | refine Locs.drew ?_ | refine Locs.drewN ?_ _)) ?hg (N := 8) ?hd (cs := #[.int .i64 0]) (t := 29) ?hr ?_; (case hd => rfl); (case hg => rfl); (case hr => first | (go_simp; done) | (go_simp; rfl)); intro g8 wb20 HLn HKb; clear HL; have HL := HLn; clear HLn HKb; (try clear hf); have hf := HL.out.facts; simp only [factsOf, List.cons_append, List.nil_append] at hf; skip) | (go_at_call 36; have hcall := judged_calls A c L A1 l1.length c1 fuel _ (Kd.C_below HC.out HL.out.below) hc (HT.out.below HL.out.below); with_reducible refine hcall.mono ?_; clear hcall; rintro e_ wc21 ⟨he_, hb_⟩; rw [HJ.out] at he_; subst he_; have HLn := Aside0.mk (Locs.step (by repeat (first | exact HL.out | refine Locs.drew ?_ | refine Locs.drewN ?_ _)) hb_); clear HL hb_; have HL := HLn; clear HLn; (try clear hf); have hf := HL.out.facts; simp only [factsOf, List.cons_append, List.nil_append] at hf; skip))
    have hap := apart3 HL.out
    simp only at hap
    go_wp2_with (first | fail)
    generalize hwt : World.setCell _ _ _ = w3
    have HLn : Aside0 (Locs w w3 ((g6, #[.pointer none], 60) :: (g7, #[.int .i64 0, .int .i64 0, .int .i64 0, .int .i64 0, .int .i64 0], 28) :: (g8, #[.int .i64 j], 29) :: [(g3, #[.slice A L.length c], 24)])) := ⟨by
      rw [← hwt]
      exact Locs.perm ((((((((HL.out.set 2 rfl 0 (.pointer none)).set 1 rfl 0 (.int .i64 0)).set 1 rfl 1 (.int .i64 0)).set 1 rfl 2 (.int .i64 0)).set 1 rfl 3 (.int .i64 0)).set 1 rfl 4 (.int .i64 0)).set 0 rfl 0 (.int .i64 j))) (perm3 _ _ _ _)⟩
    clear hwt HL hf hap
    refine ⟨_, res31 _ g6 g7 g8 rfl rfl rfl HLn.out, HLn.out.below, ?_⟩
    rw [if_pos HJ0.out]
    rfl
end Go.Proofs.YtcioegimmjppcaaDoor.P
/-! serial.Eval and serial.Tree: their answers as plain functions, and their calls, in the print's form. -/
namespace Go.Proofs.YtcioegimmjppcaaDoor.P
open Go.RowKit Go.Proofs.YtcioegimmjppcaaDoorW.PrintWords Go.Proofs.YtcioegimmjppcaaDoorW.PrintLast Go.Proofs.YtcioegimmjppcaaDoorW.PrintMore
set_option linter.unusedVariables false
set_option linter.unusedSimpArgs false
set_option maxHeartbeats 1000000
set_option maxRecDepth 100000

theorem evalOf_judged (pd : Int → Int → Int) (ap : Int → Int → Int → Int) (P : List Fn) (args : List Int) (fuel : Int) : evalOf pd ap P args fuel = if judgedOf P args.length fuel ≠ 0 then (0, 0, 0, 0, 0, judgedOf P args.length fuel) else
    match whole pd ap P args fuel.toNat with
    | .stop w => (0, 0, 0, 0, 0, w)
    | .done rs v s => (v, fuel - (rs.left : Int), rs.tasks, rs.deepest, s, 0) := by
  unfold evalOf judgedOf
  by_cases h1 : validB P = false
  · simp [h1]
  · rw [if_neg h1, if_neg h1]
    by_cases h2 : (args.length : Int) ≠ (fnOf P 0).params
    · simp [h2]
    · rw [if_neg h2, if_neg h2]
      by_cases h3 : fuel < 0 ∨ fuel > 4194304
      · rw [if_pos h3, if_pos h3, if_pos (by decide)]
      · rw [if_neg h3, if_neg h3, if_neg (by decide)]
        cases whole pd ap P args fuel.toNat <;> rfl

theorem treeOf_judged (pd : Int → Int → Int) (ap : Int → Int → Int → Int) (P : List Fn) (args : List Int) (fuel : Int) : treeOf pd ap P args fuel = if judgedOf P args.length fuel ≠ 0 then ([], judgedOf P args.length fuel) else
    match whole pd ap P args fuel.toNat with
    | .stop w => ([], w)
    | .done rs v s => (rs.nodes, 0) := by
  unfold treeOf judgedOf
  by_cases h1 : validB P = false
  · simp [h1]
  · rw [if_neg h1, if_neg h1]
    by_cases h2 : (args.length : Int) ≠ (fnOf P 0).params
    · simp [h2]
    · rw [if_neg h2, if_neg h2]
      by_cases h3 : fuel < 0 ∨ fuel > 4194304
      · rw [if_pos h3, if_pos h3, if_pos (by decide)]
      · rw [if_neg h3, if_neg h3, if_neg (by decide)]
        cases whole pd ap P args fuel.toNat <;> rfl

/-- what Eval makes of whole's answer: the pointer left open -/
theorem who_eval {w : World} {A : Option Addr} {n c : Nat} {P : List Fn} {args : List Int} {fuel : Int} {e : Ending} {w' : World} (h : WhoPost w A n c fuel (judgedOf P args.length fuel) (whole pdS apS P args fuel.toNat) e w') :
    Below w.heap.size w w' ∧ ∃ u a1 a2 a3 a4 a5 x, evalOf pdS apS P args fuel = (a1, a2, a3, a4, a5, x) ∧ e = .returned (.tuple #[u, .agg #[.int .i64 a1, .int .i64 a2, .int .i64 a3, .int .i64 a4, .int .i64 a5], .int .i64 x]) := by
  obtain ⟨hb, h⟩ := h
  refine ⟨hb, ?_⟩
  rw [evalOf_judged]
  by_cases hj : judgedOf P args.length fuel ≠ 0
  · rw [if_pos hj] at h ⊢
    exact ⟨_, _, _, _, _, _, _, rfl, h⟩
  · rw [if_neg hj] at h ⊢
    cases hw : whole pdS apS P args fuel.toNat with
    | stop why => rw [hw] at h; exact ⟨_, _, _, _, _, _, _, rfl, h⟩
    | done rs v s =>
      rw [hw] at h
      obtain ⟨gr, vN, h1, -⟩ := h
      exact ⟨_, _, _, _, _, _, _, rfl, h1⟩

theorem res14 (tmps : Array Value) (g6 : Nat) (a1 a2 a3 a4 a5 e : Int) (h6 : tmps[6]? = some (.pointer (some ⟨g6, 0, none⟩))) (h7 : tmps[7]? = some (.int .i64 e)) {w W : World} {bs : List (Nat × Array Value × TypeId)} (HL : Locs w W ((g6, #[.int .i64 a1, .int .i64 a2, .int .i64 a3, .int .i64 a4, .int .i64 a5], 28) :: bs)) :
    (results Tryd.f14 tmps).run Tryd.prog W = .ok (.tuple #[.agg #[.int .i64 a1, .int .i64 a2, .int .i64 a3, .int .i64 a4, .int .i64 a5], .int .i64 e]) W := by
  have hf := HL.facts
  simp only [factsOf] at hf
  have hu28 := Tryd.underlying28
  have c6 := hf.1.1
  simp [results, Tryd.results14, h6, h7, go_sem, c6]

def serial_Eval.f (k : Nat) (l0 : List S39) (l1 : List Int) (a2 : Int) : Option (Int × Int × Int × Int × Int × Int) := some (evalOf pdS apS (l0.map fnS) l1 a2)

theorem serial_Eval.mono (a0 : List S39) (a1 : List Int) (a2 : Int) (k : Nat) : LeO (serial_Eval.f k a0 a1 a2) (serial_Eval.f (k + 1) a0 a1 a2) := fun r h => h

theorem serial_Eval.calls (k : Nat) (A0 : Option Addr) (c0 : Nat) (l0 : List S39) (A1 : Option Addr) (c1 : Nat) (l1 : List Int) (a2 : Int) (r1 r2 r3 r4 r5 r6 : Int) (w : World) (hT : Tab w)
    (h0 : Kd.C k39 w A0 l0.length l0) (hc0 : l0.length ≤ c0) (h1 : Kd.C (Kd.int .i64) w A1 l1.length l1) (hc1 : l1.length ≤ c1) (h : serial_Eval.f k l0 l1 a2 = some (r1, r2, r3, r4, r5, r6)) :
    Calls Tryd.prog 14 #[.agg #[.slice A0 l0.length c0], .slice A1 l1.length c1, .int .i64 a2] w fun e w' => e = .returned (.tuple #[.agg #[.int .i64 r1, .int .i64 r2, .int .i64 r3, .int .i64 r4, .int .i64 r5], .int .i64 r6]) ∧ Below w.heap.size w w' := by
  have HL := Aside0.mk (Locs.nil w)
  have HT := Aside0.mk hT
  have HC := Aside0.mk h0
  have HC1 := Aside0.mk h1
  have hu24 := Tryd.underlying24
  have hu28 := Tryd.underlying28
  have HE : Aside0 (evalOf pdS apS (l0.map fnS) l1 a2 = (r1, r2, r3, r4, r5, r6)) := ⟨Option.some.inj h⟩
  clear h0 h1 hT h
  go_enter Tryd.func14, Tryd.ntmps14
  go_upto_region 2 with (first | ((with_reducible refine gate_dst (N := 3) rfl ?_); (try (refine gate_guard (by rfl) ?_; dsimp only)); refine box_locs (by repeat (first | exact HL.out | refine Locs.drew ?_ | refine Locs.drewN ?_ _)) ?hg (N := 3) ?hd (cs := #[.slice A0 l0.length c0]) (t := 24) ?hr ?_; (case hd => rfl); (case hg => rfl); (case hr => first | (go_simp; done) | (go_simp; rfl)); intro g3 wb1 HLn HKb; clear HL; have HL := HLn; clear HLn HKb; (try clear hf); have hf := HL.out.facts; simp only [factsOf, List.cons_append, List.nil_append] at hf; skip) | ((with_reducible refine gate_dst (N := 6) rfl ?_); (try (refine gate_guard (by rfl) ?_; dsimp only)); refine box_locs (by repeat (first | exact HL.out | refine Locs.drew ?_ | refine Locs.drewN ?_ _)) ?hg (N := 6) ?hd (cs := #[.int .i64 0, .int .i64 0, .int .i64 0, .int .i64 0, .int .i64 0]) (t := 28) ?hr ?_; (case hd => rfl); (case hg => rfl); (case hr => first | (go_simp; done) | (go_simp; rfl)); intro g6 wb2 HLn HKb; clear HL; have HL := HLn; clear HLn HKb; (try clear hf); have hf := HL.out.facts; simp only [factsOf, List.cons_append, List.nil_append] at hf; skip) | (go_at_call 31; have hcall := whole_calls A0 c0 l0 A1 c1 l1 a2 _ (Kd.C_below HC.out HL.out.below) hc0 (Kd.C_below HC1.out HL.out.below) hc1 (HT.out.below HL.out.below); with_reducible refine hcall.mono ?_; clear hcall; intro e_ wc hP; obtain ⟨hb_, u, a1, a2, a3, a4, a5, x, hev, he_⟩ := who_eval hP; rw [HE.out] at hev; cases hev; subst he_; have HLn := Aside0.mk (Locs.step HL.out hb_); clear HL hb_; have HL := HLn; clear HLn; (try clear hf); have hf := HL.out.facts; simp only [factsOf, List.cons_append, List.nil_append] at hf; skip) | ((with_reducible refine gate_dst (N := 9) rfl ?_); (try (refine gate_guard (by rfl) ?_; dsimp only)); refine box_locs (by repeat (first | exact HL.out | refine Locs.drew ?_ | refine Locs.drewN ?_ _)) ?hg (N := 9) ?hd (cs := #[.int .i64 0, .int .i64 0, .int .i64 0, .int .i64 0, .int .i64 0]) (t := 28) ?hr ?_; (case hd => rfl); (case hg => rfl); (case hr => first | (go_simp; done) | (go_simp; rfl)); intro g9 wb4 HLn HKb; clear HL; have HL := HLn; clear HLn HKb; (try clear hf); have hf := HL.out.facts; simp only [factsOf, List.cons_append, List.nil_append] at hf; skip))
  generalize hwt : World.setCell _ _ _ = w3
  have HLn : Aside0 (Locs w w3 [(g9, #[.int .i64 r1, .int .i64 r2, .int .i64 r3, .int .i64 r4, .int .i64 r5], 28), (g6, #[.int .i64 0, .int .i64 0, .int .i64 0, .int .i64 0, .int .i64 0], 28), (g3, #[.slice A0 l0.length c0], 24)]) := ⟨by
    rw [← hwt]
    exact ((((HL.out.set 0 rfl 0 (.int .i64 r1)).set 0 rfl 1 (.int .i64 r2)).set 0 rfl 2 (.int .i64 r3)).set 0 rfl 3 (.int .i64 r4)).set 0 rfl 4 (.int .i64 r5)⟩
  clear hwt HL hf
  have HL := HLn
  clear HLn
  (try clear hf); have hf := HL.out.facts; simp only [factsOf, List.cons_append, List.nil_append] at hf; skip
  have hap := apart3 HL.out
  simp only at hap
  go_wp2_with (first | fail)
  generalize hwt : World.setCell _ _ _ = w4
  have HLn : Locs w w4 ((g6, #[.int .i64 r1, .int .i64 r2, .int .i64 r3, .int .i64 r4, .int .i64 r5], 28) :: [(g3, #[.slice A0 l0.length c0], 24)]) := by
    rw [← hwt]
    exact (((((HL.out.set 1 rfl 0 (.int .i64 r1)).set 1 rfl 1 (.int .i64 r2)).set 1 rfl 2 (.int .i64 r3)).set 1 rfl 3 (.int .i64 r4)).set 1 rfl 4 (.int .i64 r5)).sub (List.sublist_cons_self _ _)
  exact ⟨rfl, _, res14 _ g6 r1 r2 r3 r4 r5 r6 rfl rfl HLn, rfl, HLn.below⟩

theorem flatN_at : ∀ (l : List Nd) (j : Nat) (x : Nd), l[j]? = some x → ((flatN l).drop (j * 7)).take 7 = nodeL x
  | [], j, x, h => by simp at h
  | y :: l, 0, x, h => by
    simp only [List.getElem?_cons_zero, Option.some.injEq] at h
    subst h
    simp [flatN, nodeL]
  | y :: l, j + 1, x, h => by
    have ih := flatN_at l j x (by simpa using h)
    have e : flatN (y :: l) = nodeL y ++ flatN l := by simp [flatN]
    rw [e, show (j + 1) * 7 = 7 + j * 7 by omega, ← List.drop_drop, show (nodeL y ++ flatN l).drop 7 = flatN l from List.drop_left' rfl]
    exact ih

theorem reps_nodes (W : World) (b : Nat) (ok : Nat → Prop) (l : List Nd) : Reps (k49.M W b ok) 7 (l.map ndS) (flatN l) := by
  refine ⟨by rw [flatN_len, List.length_map], fun j p hp => ?_⟩
  rw [List.getElem?_map] at hp
  obtain ⟨x, hx, rfl⟩ := Option.map_eq_some_iff.1 hp
  rw [flatN_at l j x hx]
  exact k49_mkM W b ok (ndS x)

theorem NR_row {W : World} {b : Nat} {v : Value} {l : List Nd} (h : NR W b v l) : Kd.R k49 49 W b (fun _ => True) v (l.map ndS) := by
  refine ⟨fun _ _ => trivial, flatN l, ?_, reps_nodes W b _ l⟩
  rw [List.length_map]
  exact h

theorem whole_stop_ne {pd : Int → Int → Int} {ap : Int → Int → Int → Int} {P : List Fn} {args : List Int} {fuel : Nat} {w : Int} (h : whole pd ap P args fuel = .stop w) : w ≠ 0 := by
  have h1 := loop_stop pd ap P _ _ _ _ _ _ h
  omega

/-- what Tree makes of whole's answer -/
theorem who_tree {w : World} {A : Option Addr} {n c : Nat} {P : List Fn} {args : List Int} {fuel : Int} {e : Ending} {w' : World} (h : WhoPost w A n c fuel (judgedOf P args.length fuel) (whole pdS apS P args fuel.toNat) e w') :
    Below w.heap.size w w' ∧ ∃ u a1 a2 a3 a4 a5 x l, treeOf pdS apS P args fuel = (l, x) ∧ e = .returned (.tuple #[u, .agg #[.int .i64 a1, .int .i64 a2, .int .i64 a3, .int .i64 a4, .int .i64 a5], .int .i64 x]) ∧
      ((x ≠ 0 ∧ l = []) ∨ (x = 0 ∧ ∃ gr cr vN, u = .pointer (some ⟨gr, 0, none⟩) ∧ w'.heap[gr]? = some (.cells cr 68 (0, 0)) ∧ cr[4]? = some vN ∧ NR w' w.heap.size vN l)) := by
  obtain ⟨hb, h⟩ := h
  refine ⟨hb, ?_⟩
  rw [treeOf_judged]
  by_cases hj : judgedOf P args.length fuel ≠ 0
  · rw [if_pos hj] at h ⊢
    exact ⟨_, _, _, _, _, _, _, _, rfl, h, Or.inl ⟨hj, rfl⟩⟩
  · rw [if_neg hj] at h ⊢
    cases hw : whole pdS apS P args fuel.toNat with
    | stop why =>
      rw [hw] at h
      exact ⟨_, _, _, _, _, _, _, _, rfl, h, Or.inl ⟨whole_stop_ne hw, rfl⟩⟩
    | done rs v s =>
      rw [hw] at h
      obtain ⟨gr, vN, h1, -, h3, h4⟩ := h
      exact ⟨_, _, _, _, _, _, _, _, rfl, h1, Or.inr ⟨rfl, gr, _, vN, rfl, h3, rfl, h4⟩⟩

def serial_Tree.f (k : Nat) (l0 : List S39) (l1 : List Int) (a2 : Int) : Option (List S49 × Int) := some (((treeOf pdS apS (l0.map fnS) l1 a2).1.map ndS), (treeOf pdS apS (l0.map fnS) l1 a2).2)

theorem serial_Tree.mono (a0 : List S39) (a1 : List Int) (a2 : Int) (k : Nat) : LeO (serial_Tree.f k a0 a1 a2) (serial_Tree.f (k + 1) a0 a1 a2) := fun r h => h

theorem serial_Tree.calls (k : Nat) (A0 : Option Addr) (c0 : Nat) (l0 : List S39) (A1 : Option Addr) (c1 : Nat) (l1 : List Int) (a2 : Int) (r1 : List S49) (r2 : Int) (w : World) (hT : Tab w)
    (h0 : Kd.C k39 w A0 l0.length l0) (hc0 : l0.length ≤ c0) (h1 : Kd.C (Kd.int .i64) w A1 l1.length l1) (hc1 : l1.length ≤ c1) (h : serial_Tree.f k l0 l1 a2 = some (r1, r2)) :
    Calls Tryd.prog 19 #[.agg #[.slice A0 l0.length c0], .slice A1 l1.length c1, .int .i64 a2] w fun e w' => ∃ v0_ : Value, e = .returned (.tuple #[v0_, .int .i64 r2]) ∧ Kd.R k49 49 w' w.heap.size (fun _ => True) v0_ r1 ∧ Below w.heap.size w w' := by
  have HL := Aside0.mk (Locs.nil w)
  have HT := Aside0.mk hT
  have HC := Aside0.mk h0
  have HC1 := Aside0.mk h1
  have hu24 := Tryd.underlying24
  have hu28 := Tryd.underlying28
  obtain ⟨l, x, hlx⟩ : ∃ l x, treeOf pdS apS (l0.map fnS) l1 a2 = (l, x) := ⟨_, _, rfl⟩
  have h2 : (l.map ndS, x) = (r1, r2) := by
    have h3 := Option.some.inj h
    rw [hlx] at h3
    exact h3
  injection h2 with e1 e2
  subst e1
  subst e2
  have HE := Aside0.mk hlx
  clear h0 h1 hT h hlx
  by_cases hx : x = 0
  · subst hx
    go_enter Tryd.func19, Tryd.ntmps19
    go_upto_region 2 with (first | ((with_reducible refine gate_dst (N := 3) rfl ?_); (try (refine gate_guard (by rfl) ?_; dsimp only)); refine box_locs (by repeat (first | exact HL.out | refine Locs.drew ?_ | refine Locs.drewN ?_ _)) ?hg (N := 3) ?hd (cs := #[.slice A0 l0.length c0]) (t := 24) ?hr ?_; (case hd => rfl); (case hg => rfl); (case hr => first | (go_simp; done) | (go_simp; rfl)); intro g3 wb6 HLn HKb; clear HL; have HL := HLn; clear HLn HKb; (try clear hf); have hf := HL.out.facts; simp only [factsOf, List.cons_append, List.nil_append] at hf; skip) | (go_at_call 31; have hcall := whole_calls A0 c0 l0 A1 c1 l1 a2 _ (Kd.C_below HC.out HL.out.below) hc0 (Kd.C_below HC1.out HL.out.below) hc1 (HT.out.below HL.out.below); with_reducible refine hcall.mono ?_; clear hcall; intro e_ wc hP; obtain ⟨hb_, u, a1, a2, a3, a4, a5, x2, l2, hev, he_, hrow⟩ := who_tree hP; rw [HE.out] at hev; cases hev; subst he_; have HW := Aside0.mk hrow; have HBS := Aside0.mk HL.out.below.size; have HLn := Aside0.mk (Locs.step HL.out hb_); clear HL hb_ hrow; have HL := HLn; clear HLn; (try clear hf); have hf := HL.out.facts; simp only [factsOf, List.cons_append, List.nil_append] at hf; skip) | ((with_reducible refine gate_dst (N := 9) rfl ?_); (try (refine gate_guard (by rfl) ?_; dsimp only)); refine box_locs (by repeat (first | exact HL.out | refine Locs.drew ?_ | refine Locs.drewN ?_ _)) ?hg (N := 9) ?hd (cs := #[.int .i64 0, .int .i64 0, .int .i64 0, .int .i64 0, .int .i64 0]) (t := 28) ?hr ?_; (case hd => rfl); (case hg => rfl); (case hr => first | (go_simp; done) | (go_simp; rfl)); intro g9 wb9 HLn HKb; have HK9 := Aside0.mk HKb.out; clear HL; have HL := HLn; clear HLn HKb; (try clear hf); have hf := HL.out.facts; simp only [factsOf, List.cons_append, List.nil_append] at hf; skip))
    obtain ⟨gr, cr, vN, rfl, hgr, hc4, hNR⟩ := (HW.out.resolve_left (fun h => h.1 rfl)).2
    generalize hwt : World.setCell _ _ _ = w3
    have hL3 : Locs w w3 [(g9, #[.int .i64 a1, .int .i64 a2, .int .i64 a3, .int .i64 a4, .int .i64 a5], 28), (g3, #[.slice A0 l0.length c0], 24)] := by
      rw [← hwt]
      exact ((((HL.out.set 0 rfl 0 (.int .i64 a1)).set 0 rfl 1 (.int .i64 a2)).set 0 rfl 2 (.int .i64 a3)).set 0 rfl 3 (.int .i64 a4)).set 0 rfl 4 (.int .i64 a5)
    have hkeep : ∀ (k : Nat) (cells : Array Value) (ty : TypeId), ty ≠ 28 → wc.heap[k]? = some (.cells cells ty (0, 0)) → w3.heap[k]? = wc.heap[k]? := fun k cells ty hty hk => by
      have h1 := HK9.out.block k (blk_lt hk)
      have hne : k ≠ g9 := blk_types (h1.trans hk) (HL.out.at 0 rfl) hty
      rw [← hwt, Below.heap_setCell _ ⟨g9, 4, none⟩ _ k hne, Below.heap_setCell _ ⟨g9, 3, none⟩ _ k hne, Below.heap_setCell _ ⟨g9, 2, none⟩ _ k hne, Below.heap_setCell _ ⟨g9, 1, none⟩ _ k hne, Below.heap_setCell _ ⟨g9, 0, none⟩ _ k hne]
      exact h1
    have hN3 : NR w3 w.heap.size vN l := NR_lower (own_same hNR (fun k hk => by
      obtain ⟨cells, hc⟩ := own_typed hNR k hk
      exact hkeep k cells 49 (by decide) hc)) HBS.out
    have hcr : w3.cell? ⟨gr, 4, none⟩ = some vN := (blk_cell ((hkeep gr cr 68 (by decide) hgr).trans hgr) 4).trans hc4
    have HN3 := Aside0.mk hN3
    have HL3 := Aside0.mk hL3
    clear hwt HL hf HW HK9 hgr hc4 hNR hkeep hN3 hL3
    go_wp2_with (first | fail)
    go_ret2
    exact ⟨vN, rfl, NR_row HN3.out, HL3.out.below⟩
  · have hxb : (x != 0) = true := bne_iff_ne.mpr hx
    have HX := Aside0.mk hx
    clear hx
    go_enter Tryd.func19, Tryd.ntmps19
    go_upto_region 2 with (first | ((with_reducible refine gate_dst (N := 3) rfl ?_); (try (refine gate_guard (by rfl) ?_; dsimp only)); refine box_locs (by repeat (first | exact HL.out | refine Locs.drew ?_ | refine Locs.drewN ?_ _)) ?hg (N := 3) ?hd (cs := #[.slice A0 l0.length c0]) (t := 24) ?hr ?_; (case hd => rfl); (case hg => rfl); (case hr => first | (go_simp; done) | (go_simp; rfl)); intro g3 wb10 HLn HKb; clear HL; have HL := HLn; clear HLn HKb; (try clear hf); have hf := HL.out.facts; simp only [factsOf, List.cons_append, List.nil_append] at hf; skip) | (go_at_call 31; have hcall := whole_calls A0 c0 l0 A1 c1 l1 a2 _ (Kd.C_below HC.out HL.out.below) hc0 (Kd.C_below HC1.out HL.out.below) hc1 (HT.out.below HL.out.below); with_reducible refine hcall.mono ?_; clear hcall; intro e_ wc hP; obtain ⟨hb_, u, a1, a2, a3, a4, a5, x2, l2, hev, he_, hrow⟩ := who_tree hP; rw [HE.out] at hev; cases hev; subst he_; have HW := Aside0.mk hrow; have HBS := Aside0.mk HL.out.below.size; have HLn := Aside0.mk (Locs.step HL.out hb_); clear HL hb_ hrow; have HL := HLn; clear HLn; (try clear hf); have hf := HL.out.facts; simp only [factsOf, List.cons_append, List.nil_append] at hf; skip) | ((with_reducible refine gate_dst (N := 9) rfl ?_); (try (refine gate_guard (by rfl) ?_; dsimp only)); refine box_locs (by repeat (first | exact HL.out | refine Locs.drew ?_ | refine Locs.drewN ?_ _)) ?hg (N := 9) ?hd (cs := #[.int .i64 0, .int .i64 0, .int .i64 0, .int .i64 0, .int .i64 0]) (t := 28) ?hr ?_; (case hd => rfl); (case hg => rfl); (case hr => first | (go_simp; done) | (go_simp; rfl)); intro g9 wb13 HLn HKb; have HK9 := Aside0.mk HKb.out; clear HL; have HL := HLn; clear HLn HKb; (try clear hf); have hf := HL.out.facts; simp only [factsOf, List.cons_append, List.nil_append] at hf; skip))
    have hl := HW.out.resolve_right (fun h => HX.out h.1)
    generalize hwt : World.setCell _ _ _ = w3
    have hL3 : Locs w w3 [(g9, #[.int .i64 a1, .int .i64 a2, .int .i64 a3, .int .i64 a4, .int .i64 a5], 28), (g3, #[.slice A0 l0.length c0], 24)] := by
      rw [← hwt]
      exact ((((HL.out.set 0 rfl 0 (.int .i64 a1)).set 0 rfl 1 (.int .i64 a2)).set 0 rfl 2 (.int .i64 a3)).set 0 rfl 3 (.int .i64 a4)).set 0 rfl 4 (.int .i64 a5)
    have HL3 := Aside0.mk hL3
    have HLE := Aside0.mk hl.2
    clear hwt HL hf HW HK9 hL3 hl
    go_wp2_with (first | fail)
    go_ret2
    rw [HLE.out]
    exact ⟨_, rfl, Kd.R_nil _ _ _ _ _, HL3.out.below⟩
end Go.Proofs.YtcioegimmjppcaaDoor.P
