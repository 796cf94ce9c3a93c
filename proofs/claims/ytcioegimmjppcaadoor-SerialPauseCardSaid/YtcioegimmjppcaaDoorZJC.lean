/- The runs of package serial, plain: what stands behind a step keeps the bounds. -/
import Derived.Deep.RegionHeld3
import Derived.Deep.RegionLaw
import Derived.Test.YtcioegimmjppcaaDoorZJA
import Derived.Test.YtcioegimmjppcaaDoorZJB
import Derived.Test.YtcioegimmjppcaaDoorZJP
import Derived.Test.YtcioegimmjppcaaDoorZJX
set_option linter.unusedVariables false
set_option linter.unusedSimpArgs false
/-! Words for the runs of package serial: a run's block, a task's block, the row of the nodes. -/
namespace Go.Proofs.YtcioegimmjppcaaDoor.P
open Go.RowKit Go.Proofs.YtcioegimmjppcaaDoorW.PrintWords Go.Proofs.YtcioegimmjppcaaDoorW.PrintLast Go.Proofs.YtcioegimmjppcaaDoorW.PrintMore
set_option linter.unusedVariables false
set_option maxRecDepth 100000

/-! ### a task's cells -/
def ints (l : List Int) : List Value := l.map (Value.int .i64)
theorem ints_len (l : List Int) : (ints l).length = l.length := by simp [ints]
theorem ints_get (l : List Int) (a : Nat) (h : a < l.length) : (ints l)[a]? = some (.int .i64 (l.getD a 0)) := by
  unfold ints
  rw [List.getElem?_map, List.getElem?_eq_getElem h, List.getD_eq_getElem?_getD, List.getElem?_eq_getElem h]
  rfl
theorem ints_set (l : List Int) (a : Nat) (v : Int) : (ints l).set a (.int .i64 v) = ints (l.set a v) := by simp [ints, List.map_set]

def taskL (t : TS) (ev : Value) : List Value :=
  .int .i64 t.f :: .int .i64 t.depth :: .int .i64 t.ped :: (ints t.regs ++ (ints t.slots ++ [.int .i64 t.kids, .int .i64 t.work, .int .i64 t.c, ev]))
def taskC (t : TS) (ev : Value) : Array Value := (taskL t ev).toArray

structure TLen (t : TS) : Prop where
  r : t.regs.length = 16
  s : t.slots.length = 8

section
variable {t : TS} {ev : Value}
theorem taskC_reg (h : TLen t) (a : Nat) (ha : a < 16) : (taskC t ev)[3 + a]? = some (.int .i64 (t.regs.getD a 0)) := by
  unfold taskC taskL
  rw [List.getElem?_toArray, show 3 + a = a + 1 + 1 + 1 by omega, List.getElem?_cons_succ, List.getElem?_cons_succ, List.getElem?_cons_succ, List.getElem?_append_left (by rw [ints_len, h.r]; exact ha)]
  exact ints_get _ _ (by rw [h.r]; exact ha)
theorem taskC_slot (h : TLen t) (b : Nat) (hb : b < 8) : (taskC t ev)[19 + b]? = some (.int .i64 (t.slots.getD b 0)) := by
  unfold taskC taskL
  rw [List.getElem?_toArray, show 19 + b = (16 + b) + 1 + 1 + 1 by omega, List.getElem?_cons_succ, List.getElem?_cons_succ, List.getElem?_cons_succ, List.getElem?_append_right (by rw [ints_len, h.r]; omega), ints_len, h.r,
    Nat.add_sub_cancel_left, List.getElem?_append_left (by rw [ints_len, h.s]; exact hb)]
  exact ints_get _ _ (by rw [h.s]; exact hb)
theorem taskC_tail (h : TLen t) (j : Nat) : (taskC t ev)[27 + j]? = [Value.int .i64 t.kids, .int .i64 t.work, .int .i64 t.c, ev][j]? := by
  unfold taskC taskL
  rw [List.getElem?_toArray, show 27 + j = (24 + j) + 1 + 1 + 1 by omega, List.getElem?_cons_succ, List.getElem?_cons_succ, List.getElem?_cons_succ, List.getElem?_append_right (by rw [ints_len, h.r]; omega), ints_len, h.r,
    List.getElem?_append_right (by rw [ints_len, h.s]; omega), ints_len, h.s]
  congr 1
  omega
/-- what is fetched of a task by its fields -/
theorem taskC_facts (h : TLen t) : (taskC t ev)[0]? = some (.int .i64 t.f) ∧ (taskC t ev)[1]? = some (.int .i64 t.depth) ∧ (taskC t ev)[2]? = some (.int .i64 t.ped) ∧ (taskC t ev)[27]? = some (.int .i64 t.kids) ∧
    (taskC t ev)[28]? = some (.int .i64 t.work) ∧ (taskC t ev)[29]? = some (.int .i64 t.c) ∧ (taskC t ev)[30]? = some ev :=
  ⟨rfl, rfl, rfl, taskC_tail h 0, taskC_tail h 1, taskC_tail h 2, taskC_tail h 3⟩

theorem taskC_setReg (h : TLen t) (a : Nat) (ha : a < 16) (v : Int) : (taskC t ev).setIfInBounds (3 + a) (.int .i64 v) = taskC { t with regs := t.regs.set a v } ev := by
  unfold taskC taskL
  rw [List.setIfInBounds_toArray, show 3 + a = a + 1 + 1 + 1 by omega, List.set_cons_succ, List.set_cons_succ, List.set_cons_succ, List.set_append_left _ _ (by rw [ints_len, h.r]; exact ha), ints_set]
theorem taskC_setSlot (h : TLen t) (b : Nat) (hb : b < 8) (v : Int) : (taskC t ev).setIfInBounds (19 + b) (.int .i64 v) = taskC { t with slots := t.slots.set b v } ev := by
  unfold taskC taskL
  rw [List.setIfInBounds_toArray, show 19 + b = (16 + b) + 1 + 1 + 1 by omega, List.set_cons_succ, List.set_cons_succ, List.set_cons_succ, List.set_append_right _ _ (by rw [ints_len, h.r]; omega), ints_len, h.r, Nat.add_sub_cancel_left,
    List.set_append_left _ _ (by rw [ints_len, h.s]; exact hb), ints_set]
theorem taskC_setTail (h : TLen t) (j : Nat) (v : Value) : (taskC t ev).setIfInBounds (27 + j) v = (Value.int .i64 t.f :: .int .i64 t.depth :: .int .i64 t.ped :: (ints t.regs ++ (ints t.slots ++ [Value.int .i64 t.kids, .int .i64 t.work, .int .i64 t.c, ev].set j v))).toArray := by
  unfold taskC taskL
  rw [List.setIfInBounds_toArray, show 27 + j = (24 + j) + 1 + 1 + 1 by omega, List.set_cons_succ, List.set_cons_succ, List.set_cons_succ, List.set_append_right _ _ (by rw [ints_len, h.r]; omega), ints_len, h.r,
    List.set_append_right _ _ (by rw [ints_len, h.s]; omega), ints_len, h.s, show 24 + j - 16 - 8 = j by omega]
theorem taskC_setKids (h : TLen t) (v : Int) : (taskC t ev).setIfInBounds 27 (.int .i64 v) = taskC { t with kids := v } ev := taskC_setTail h 0 _
theorem taskC_setWork (h : TLen t) (v : Int) : (taskC t ev).setIfInBounds 28 (.int .i64 v) = taskC { t with work := v } ev := taskC_setTail h 1 _
theorem taskC_setC (h : TLen t) (v : Int) : (taskC t ev).setIfInBounds 29 (.int .i64 v) = taskC { t with c := v } ev := taskC_setTail h 2 _
theorem taskC_setEnds (h : TLen t) (u : Value) (es : List Int) : (taskC t ev).setIfInBounds 30 u = taskC { t with ends := es } u := taskC_setTail h 3 _
end

/-! ### a run's cells, the nodes -/
def runC (A : Option Addr) (n c : Nat) (rs : RS) (vN : Value) : Array Value := #[.slice A n c, .int .i64 (rs.left : Int), .int .i64 rs.tasks, .int .i64 rs.deepest, vN]
def nodeL (x : Nd) : List Value := [.int .i64 x.parent, .int .i64 x.index, .int .i64 x.func, .int .i64 x.work, .int .i64 x.ped, .int .i64 x.arg, .int .i64 x.v]
def flatN (l : List Nd) : List Value := l.flatMap nodeL
theorem flatN_app (l m : List Nd) : flatN (l ++ m) = flatN l ++ flatN m := by simp [flatN]
theorem flatN_len (l : List Nd) : (flatN l).length = l.length * 7 := by
  induction l with
  | nil => rfl
  | cons x l ih =>
    have e : flatN (x :: l) = nodeL x ++ flatN l := by simp [flatN]
    have e7 : (nodeL x).length = 7 := rfl
    rw [e, List.length_append, e7, ih, List.length_cons]
    omega
theorem flatN_modify : ∀ (l : List Nd) (i : Nat), i < l.length → ∀ (v work : Int), ((flatN l).set (i * 7 + 6) (.int .i64 v)).set (i * 7 + 3) (.int .i64 work) = flatN (l.modify i (fun nd => ({ nd with v := v, work := work } : Nd)))
  | [], i, h, v, work => by simp at h
  | x :: l, 0, h, v, work => by simp [flatN, nodeL]
  | x :: l, i + 1, h, v, work => by
    have ih := flatN_modify l i (by simpa using h) v work
    rw [List.modify_succ_cons]
    simp only [flatN, List.flatMap_cons] at ih ⊢
    rw [List.set_append_right _ _ (by simp [nodeL]; omega), List.set_append_right _ _ (by simp [nodeL]; omega), show (nodeL x).length = 7 from rfl, show (i + 1) * 7 + 6 - 7 = i * 7 + 6 by omega, show (i + 1) * 7 + 3 - 7 = i * 7 + 3 by omega, ih]

def NR (W : World) (base : Nat) (vN : Value) (l : List Nd) : Prop := W.ownsRow base 49 7 vN l.length (flatN l)

theorem own_same {W W1 : World} {base : Nat} {e : TypeId} {size n : Nat} {v : Value} {xs : List Value} (h : W.ownsRow base e size v n xs) (hk : ∀ k, v.ownBlock = some k → W1.heap[k]? = W.heap[k]?) : W1.ownsRow base e size v n xs := own_move h hk

/-! ### what stands in memory while a run is on its way -/
structure RB (w0 W : World) (gr : Nat) (bs : List (Nat × Array Value × TypeId)) (A : Option Addr) (n c : Nat) (rs : RS) (vN vE : Value) (ends : List Int) : Prop where
  L : Locs w0 W ((gr, runC A n c rs vN, 68) :: bs)
  N : NR W w0.heap.size vN rs.nodes
  E : Kd.R (Kd.int .i64) 3 W w0.heap.size (fun k => some k = vE.ownBlock) vE ends
  nN : ∀ b ∈ bs, vN.ownBlock ≠ some b.1
  nE : ∀ b ∈ bs, vE.ownBlock ≠ some b.1

section
variable {w0 W W1 : World} {gr : Nat} {bs : List (Nat × Array Value × TypeId)} {A : Option Addr} {n c : Nat} {rs : RS} {vN vE : Value} {ends : List Int}
theorem RB.blkN (h : RB w0 W gr bs A n c rs vN vE ends) {k : Nat} (hk : vN.ownBlock = some k) : k < W.heap.size ∧ ∃ cells, W.heap[k]? = some (.cells cells 49 (0, 0)) := ⟨(h.N.lt k hk).2, own_typed h.N k hk⟩
theorem RB.blkE (h : RB w0 W gr bs A n c rs vN vE ends) {k : Nat} (hk : vE.ownBlock = some k) : k < W.heap.size ∧ ∃ cells, W.heap[k]? = some (.cells cells 3 (0, 0)) := by
  obtain ⟨inner, ho⟩ := Kd.R_own h.E
  exact ⟨Kd.R_lt h.E k hk, own_typed ho k hk⟩
theorem RB.blkR (h : RB w0 W gr bs A n c rs vN vE ends) : W.heap[gr]? = some (.cells (runC A n c rs vN) 68 (0, 0)) := h.L.at 0 rfl
theorem blk_types {W : World} {a b : Nat} {c1 c2 : Array Value} {t1 t2 : TypeId} {f1 f2 : Nat × Nat} (h1 : W.heap[a]? = some (.cells c1 t1 f1)) (h2 : W.heap[b]? = some (.cells c2 t2 f2)) (h : t1 ≠ t2) : a ≠ b := by
  rintro rfl
  rw [h1] at h2
  injection h2 with h3
  injection h3 with _ h4
  exact h h4
theorem RB.neNR (h : RB w0 W gr bs A n c rs vN vE ends) : vN.ownBlock ≠ some gr := fun e => by
  obtain ⟨_, cells, hc⟩ := h.blkN e
  exact blk_types hc h.blkR (by decide) rfl
theorem RB.neER (h : RB w0 W gr bs A n c rs vN vE ends) : vE.ownBlock ≠ some gr := fun e => by
  obtain ⟨_, cells, hc⟩ := h.blkE e
  exact blk_types hc h.blkR (by decide) rfl
theorem RB.neEN (h : RB w0 W gr bs A n c rs vN vE ends) {k : Nat} (hE : vE.ownBlock = some k) : vN.ownBlock ≠ some k := fun e => by
  obtain ⟨_, cells, hc⟩ := h.blkN e
  obtain ⟨_, cells2, hc2⟩ := h.blkE hE
  exact blk_types hc hc2 (by decide) rfl
theorem RB.step (h : RB w0 W gr bs A n c rs vN vE ends) (k : Below W.heap.size W W1) : RB w0 W1 gr bs A n c rs vN vE ends :=
  ⟨h.L.step k, own_same h.N (fun i hi => k.block i (h.blkN hi).1), Kd.R_step h.E (fun i _ hi => k.block i hi), h.nN, h.nE⟩
theorem RB.drew (h : RB w0 W gr bs A n c rs vN vE ends) : RB w0 W.drew gr bs A n c rs vN vE ends := h.step (below_drew1 (Below.refl _ _))
theorem RB.drewN (h : RB w0 W gr bs A n c rs vN vE ends) (m : Nat) : RB w0 (W.drewN m) gr bs A n c rs vN vE ends := h.step (pw_below_drewN (Below.refl _ _) m)
theorem RB.alloc (h : RB w0 W gr bs A n c rs vN vE ends) (cs : Array Value) (t : TypeId) : RB w0 (W.alloc (.cells cs t (0, 0))) gr ((W.heap.size, cs, t) :: bs) A n c rs vN vE ends := by
  have hs := h.step (below_alloc (Below.refl _ W) (.cells cs t (0, 0)))
  refine ⟨(h.L.alloc cs t).perm (List.Perm.swap _ _ _), hs.N, hs.E, fun b hb => ?_, fun b hb => ?_⟩
  · rcases List.mem_cons.1 hb with rfl | hb
    · exact fun e => Nat.lt_irrefl _ (h.blkN e).1
    · exact h.nN b hb
  · rcases List.mem_cons.1 hb with rfl | hb
    · exact fun e => Nat.lt_irrefl _ (h.blkE e).1
    · exact h.nE b hb
/-- a store into the run's block -/
theorem RB.setRun (h : RB w0 W gr bs A n c rs vN vE ends) (j : Nat) (v : Value) {rs' : RS} (hC : (runC A n c rs vN).setIfInBounds j v = runC A n c rs' vN) (hn : rs'.nodes = rs.nodes) : RB w0 (W.setCell ⟨gr, j, none⟩ v) gr bs A n c rs' vN vE ends := by
  have h1 := h.L.set 0 rfl j v
  rw [hC] at h1
  refine ⟨h1, ?_, Kd.R_step h.E (fun i hi _ => Below.heap_setCell W ⟨gr, j, none⟩ v i (fun e => h.neER (by rw [← hi]; exact congrArg some e))), h.nN, h.nE⟩
  rw [hn]
  exact own_same h.N (fun i hi => Below.heap_setCell W ⟨gr, j, none⟩ v i (fun e => h.neNR (by rw [hi]; exact congrArg some e)))
/-- a store into another block -/
theorem RB.setB (h : RB w0 W gr bs A n c rs vN vE ends) (i : Nat) {g : Nat} {cs : Array Value} {t : TypeId} (hi : bs[i]? = some (g, cs, t)) (j : Nat) (v : Value) : RB w0 (W.setCell ⟨g, j, none⟩ v) gr (bs.set i (g, cs.setIfInBounds j v, t)) A n c rs vN vE ends := by
  have h1 := h.L.set (i + 1) hi j v
  have hg := List.mem_of_getElem? hi
  refine ⟨h1, own_same h.N (fun k hk => Below.heap_setCell W ⟨g, j, none⟩ v k (fun e => h.nN _ hg (by rw [hk]; exact congrArg some e))),
    Kd.R_step h.E (fun k hk _ => Below.heap_setCell W ⟨g, j, none⟩ v k (fun e => h.nE _ hg (by rw [← hk]; exact congrArg some e))), fun b hb => ?_, fun b hb => ?_⟩
  · rcases List.mem_or_eq_of_mem_set hb with hb | rfl
    · exact h.nN b hb
    · exact h.nN (g, cs, t) hg
  · rcases List.mem_or_eq_of_mem_set hb with hb | rfl
    · exact h.nE b hb
    · exact h.nE (g, cs, t) hg
theorem RB.sub (h : RB w0 W gr bs A n c rs vN vE ends) {bs' : List (Nat × Array Value × TypeId)} (hs : bs'.Sublist bs) : RB w0 W gr bs' A n c rs vN vE ends :=
  ⟨h.L.sub (hs.cons_cons _), h.N, h.E, fun b hb => h.nN b (hs.subset hb), fun b hb => h.nE b (hs.subset hb)⟩
theorem RB.perm (h : RB w0 W gr bs A n c rs vN vE ends) {bs' : List (Nat × Array Value × TypeId)} (hp : bs.Perm bs') : RB w0 W gr bs' A n c rs vN vE ends :=
  ⟨h.L.perm (hp.cons _), h.N, h.E, fun b hb => h.nN b (hp.mem_iff.2 hb), fun b hb => h.nE b (hp.mem_iff.2 hb)⟩
/-- the children's ends are forgotten -/
theorem RB.noEnds (h : RB w0 W gr bs A n c rs vN vE ends) : RB w0 W gr bs A n c rs vN (.slice none 0 0) [] :=
  ⟨h.L, h.N, Kd.R_nil _ _ _ _ _, h.nN, fun b _ e => by simp [Value.ownBlock] at e⟩
/-- the nodes' row has grown; the run's block still tells the old one -/
theorem RB.grewN (h : RB w0 W gr bs A n c rs vN vE ends) {vN' : Value} {l' : List Nd} (hb : Below w0.heap.size w0 W1) (hg : W.grownBy W1 vN.ownBlock) (hN : NR W1 w0.heap.size vN' l') (hd : vN'.ownBlock = vN.ownBlock ∨ ∃ b, vN'.ownBlock = some b ∧ W.heap.size ≤ b) :
    Locs w0 W1 ((gr, runC A n c rs vN, 68) :: bs) ∧ RB w0 (W1.setCell ⟨gr, 4, none⟩ vN') gr bs A n c { rs with nodes := l' } vN' vE ends := by
  have hL1 : Locs w0 W1 ((gr, runC A n c rs vN, 68) :: bs) := h.L.grown hb hg (fun b hb' e => by
    rcases List.mem_cons.1 hb' with rfl | hb'
    · exact h.neNR e.symm
    · exact h.nN b hb' e.symm)
  have hE1 : Kd.R (Kd.int .i64) 3 W1 w0.heap.size (fun k => some k = vE.ownBlock) vE ends := Kd.R_step h.E (fun i hi hlt => hg.block i hlt (fun e => h.neEN hi.symm e.symm))
  have nN' : ∀ k, k < W.heap.size → vN.ownBlock ≠ some k → vN'.ownBlock ≠ some k := fun k hk hne e => by
    rcases hd with hd | ⟨b, hb2, hb3⟩
    · exact hne (hd ▸ e)
    · rw [hb2] at e
      cases e
      omega
  refine ⟨hL1, hL1.set 0 rfl 4 vN', own_same hN (fun i hi => Below.heap_setCell W1 ⟨gr, 4, none⟩ vN' i (fun e => nN' gr (blk_lt h.blkR) h.neNR (by rw [hi]; exact congrArg some e))),
    Kd.R_step hE1 (fun i hi _ => Below.heap_setCell W1 ⟨gr, 4, none⟩ vN' i (fun e => h.neER (by rw [← hi]; exact congrArg some e))), fun b hb' => nN' b.1 (h.L.lt b (List.mem_cons_of_mem _ hb')) (h.nN b hb'), h.nE⟩
/-- a cell of the nodes' row -/
theorem RB.setNode {g m cap : Nat} (h : RB w0 W gr bs A n c rs (.slice (some ⟨g, 0, none⟩) m cap) vE ends) (j : Nat) (v : Value) {l' : List Nd} (hl : l'.length = rs.nodes.length) (hC : (flatN rs.nodes).set j v = flatN l') :
    RB w0 (W.setCell ⟨g, j, none⟩ v) gr bs A n c { rs with nodes := l' } (.slice (some ⟨g, 0, none⟩) m cap) vE ends := by
  have hN := h.N
  unfold NR at hN
  have hm : m = rs.nodes.length := by
    rcases hN.2 with ⟨e, _⟩ | ⟨g', cap', cur, e, _⟩
    · cases e
    · injection e
  subst hm
  obtain ⟨h1, h2⟩ := hN.stored j v
  rw [hC] at h1
  have hgr : gr ≠ g := fun e => h.neNR (by rw [e]; rfl)
  have hL := h.L.grown (h.L.below.grown h2 h.L.below.size (fun k hk => by cases hk; exact (h.N.lt _ rfl).1)) h2 (fun b hb e => by
    rcases List.mem_cons.1 hb with rfl | hb
    · exact hgr (Option.some.inj e)
    · exact h.nN b hb e.symm)
  refine ⟨hL, ?_, Kd.R_step h.E (fun i hi hlt => h2.block i hlt (fun e => h.neEN hi.symm (by rw [e]; rfl))), h.nN, h.nE⟩
  unfold NR
  simp only
  rw [hl]
  exact h1
/-- the children's ends have grown -/
theorem RB.grewE (h : RB w0 W gr bs A n c rs vN vE ends) {vE' : Value} {ends' : List Int} (hb : Below w0.heap.size w0 W1) (hg : W.grownBy W1 vE.ownBlock) (hE : Kd.R (Kd.int .i64) 3 W1 w0.heap.size (fun k => some k = vE'.ownBlock) vE' ends')
    (hd : vE'.ownBlock = vE.ownBlock ∨ ∃ b, vE'.ownBlock = some b ∧ W.heap.size ≤ b) : RB w0 W1 gr bs A n c rs vN vE' ends' := by
  refine ⟨h.L.grown hb hg (fun b hb' e => by
    rcases List.mem_cons.1 hb' with rfl | hb'
    · exact h.neER e.symm
    · exact h.nE b hb' e.symm), own_same h.N (fun i hi => hg.block i (h.blkN hi).1 (fun e => h.neEN e.symm hi)), hE, h.nN, fun b hb' e => ?_⟩
  rcases hd with hd | ⟨k, hk, hk2⟩
  · exact h.nE b hb' (hd ▸ e)
  · rw [hk] at e
    cases e
    have := h.L.lt b (List.mem_cons_of_mem _ hb')
    omega
/-- behind a call that has gone on with the run: the caller's own blocks stand -/
theorem RB.after {gk : Nat} {rs' : RS} {vN' : Value} (h : RB w0 W gr bs A n c rs vN vE ends) (p : RB w0 W1 gr [] A n c rs' vN' (.slice none 0 0) []) (hk : ∀ b ∈ bs, b.1 ≠ gk) (hgk : vE.ownBlock ≠ some gk)
    (kept : ∀ k, k < W.heap.size → k ≠ gr → k ≠ gk → vN.ownBlock ≠ some k → W1.heap[k]? = W.heap[k]?) (own : ∀ k, vN'.ownBlock = some k → vN.ownBlock = some k ∨ W.heap.size ≤ k) : RB w0 W1 gr bs A n c rs' vN' vE ends := by
  have keep : ∀ b ∈ bs, W1.heap[b.1]? = W.heap[b.1]? := fun b hb => kept b.1 (h.L.lt b (List.mem_cons_of_mem _ hb)) (fun e => by
    have := (List.pairwise_cons.1 h.L.apart).1 b hb
    exact this e.symm) (hk b hb) (h.nN b hb)
  refine ⟨⟨p.L.below, fun b hb => ?_, fun b hb => ?_, ?_⟩, p.N, Kd.R_step h.E (fun i hi hlt => kept i hlt (fun e => h.neER (by rw [← hi, e])) (fun e => hgk (by rw [← hi, e])) (h.neEN hi.symm)), fun b hb e => ?_, h.nE⟩
  · rcases List.mem_cons.1 hb with rfl | hb
    · exact p.blkR
    · exact (keep b hb).trans (h.L.blk b (List.mem_cons_of_mem _ hb))
  · rcases List.mem_cons.1 hb with rfl | hb
    · exact h.L.ge 0 rfl
    · exact h.L.new b (List.mem_cons_of_mem _ hb)
  · exact List.pairwise_cons.2 ⟨(List.pairwise_cons.1 h.L.apart).1, (List.pairwise_cons.1 h.L.apart).2⟩
  · rcases own b.1 e with e | e
    · exact h.nN b hb e
    · have := h.L.lt b (List.mem_cons_of_mem _ hb)
      omega
end

/-! ### many cells at once -/
def setMany (cs : Array Value) : Nat → List Value → Array Value
  | _, [] => cs
  | o, v :: r => setMany (cs.setIfInBounds o v) (o + 1) r
def overL : List Int → Nat → List Int → List Int
  | l, _, [] => l
  | l, a, x :: r => overL (l.set a x) (a + 1) r
theorem overL_len : ∀ (xs l : List Int) (a : Nat), (overL l a xs).length = l.length
  | [], l, a => rfl
  | x :: r, l, a => by rw [overL, overL_len r, List.length_set]
theorem overL_val : ∀ (xs l : List Int) (a : Nat), a + xs.length ≤ l.length → overL l a xs = l.take a ++ (xs ++ l.drop (a + xs.length))
  | [], l, a, h => by simp [overL]
  | x :: r, l, a, h => by
    simp only [List.length_cons] at h
    rw [overL, overL_val r _ _ (by rw [List.length_set]; omega)]
    have h1 : (l.set a x).take (a + 1) = l.take a ++ [x] := by
      rw [List.take_add_one, List.getElem?_set_self (by omega), List.take_set_of_le (Nat.le_refl _)]
      rfl
    have h2 : (l.set a x).drop (a + 1 + r.length) = l.drop (a + (r.length + 1)) := by
      rw [List.drop_set_of_lt (by omega)]
      congr 1
      omega
    rw [h1, h2]
    simp
theorem overL_fill (xs : List Int) (h : xs.length ≤ 16) : overL (List.replicate 16 0) 0 xs = fill 16 xs := by
  rw [overL_val _ _ _ (by simpa using h)]
  unfold fill
  have e : min (16 - xs.length) 16 = 16 - xs.length := by omega
  have h1 : (List.replicate 16 (0 : Int)).take (16 - xs.length) = List.replicate (16 - xs.length) 0 := by rw [List.take_replicate, e]
  have h2 : (List.replicate 16 (0 : Int)).drop xs.length = List.replicate (16 - xs.length) 0 := List.drop_replicate
  rw [Nat.zero_add, h2, List.take_append, List.take_of_length_le h, h1]
  rfl
theorem setMany_regs : ∀ (xs : List Int) (t : TS) (ev : Value) (a : Nat), TLen t → a + xs.length ≤ 16 → setMany (taskC t ev) (3 + a) (ints xs) = taskC { t with regs := overL t.regs a xs } ev
  | [], t, ev, a, h, ha => rfl
  | x :: r, t, ev, a, h, ha => by
    simp only [List.length_cons] at ha
    show setMany ((taskC t ev).setIfInBounds (3 + a) (.int .i64 x)) (3 + a + 1) (ints r) = _
    rw [taskC_setReg h a (by omega), Nat.add_assoc, setMany_regs r { t with regs := t.regs.set a x } ev (a + 1) ⟨by rw [List.length_set]; exact h.r, h.s⟩ (by omega)]
    rfl
theorem RB.setMany {w0 : World} {gr : Nat} {A : Option Addr} {n c : Nat} {rs : RS} {vN vE : Value} {ends : List Int} : ∀ (vs : List Value) (W : World) (bs : List (Nat × Array Value × TypeId)) (cs : Array Value) (o : Nat) {g : Nat} {t : TypeId}, RB w0 W gr ((g, cs, t) :: bs) A n c rs vN vE ends →
    RB w0 (W.setCells g o vs) gr ((g, P.setMany cs o vs, t) :: bs) A n c rs vN vE ends
  | [], W, bs, cs, o, g, t, h => h
  | v :: r, W, bs, cs, o, g, t, h => RB.setMany r _ bs _ (o + 1) (h.setB 0 rfl o v)
theorem setCells_block (g : Nat) : ∀ (vs : List Value) (W : World) (o k : Nat), k ≠ g → (W.setCells g o vs).heap[k]? = W.heap[k]?
  | [], W, o, k, h => rfl
  | v :: r, W, o, k, h => (setCells_block g r _ (o + 1) k h).trans (Below.heap_setCell W ⟨g, o, none⟩ v k h)
end Go.Proofs.YtcioegimmjppcaaDoor.P
/-! The runs of package serial: what a call of play, of step comes to, said of the plain runs. -/
namespace Go.Proofs.YtcioegimmjppcaaDoor.P
open Go.RowKit Go.Proofs.YtcioegimmjppcaaDoorW.PrintWords Go.Proofs.YtcioegimmjppcaaDoorW.PrintLast Go.Proofs.YtcioegimmjppcaaDoorW.PrintMore
set_option linter.unusedVariables false

def pdS (a b : Int) : Int := wrap64 (wrap64 (wrap64 (a * 1000003) + b) + 1)
def apS (op a b : Int) : Int := ((ops_Apply.f op a b).getD (0, 0)).1
def ndS (x : Nd) : S49 := ⟨x.parent, x.index, x.func, x.work, x.ped, x.arg, x.v⟩

theorem u64_nonneg (x : Int) : 0 ≤ IntKind.u64.wrap x := by
  unfold IntKind.wrap
  simp only [IntKind.signed, IntKind.bits]
  exact Int.emod_nonneg _ (by decide)

theorem ops_some (a0 a1 a2 : Int) (h : 0 ≤ a0 ∧ a0 < 16) : ∃ x, ops_Apply.f a0 a1 a2 = some (x, 0) := by
  have hi : ops_isOp.f a0 = some true := by unfold ops_isOp.f; rw [if_pos h.1, decide_eq_true h.2]
  have hd : ∃ q, ops_divide.f a1 a2 = some q := by
    unfold ops_divide.f
    by_cases h1 : a2 = 0
    · rw [if_pos h1]; exact ⟨_, rfl⟩
    · by_cases h2 : a2 = -1
      · rw [if_neg h1, if_pos h2]; exact ⟨_, rfl⟩
      · rw [if_neg h1, if_neg h2]; exact ⟨_, rfl⟩
  have ht : ∀ b, ∃ q, ops_truth.f b = some q := fun b => by cases b <;> exact ⟨_, rfl⟩
  have hw : ∃ x, ops_work.f a0 a1 a2 = some x := by
    obtain ⟨q, hq⟩ := hd
    obtain ⟨t1, h1⟩ := ht (decide (a1 < a2))
    obtain ⟨t2, h2⟩ := ht (decide (a1 ≤ a2))
    obtain ⟨t3, h3⟩ := ht (a1 == a2)
    obtain ⟨t4, h4⟩ := ht (a1 != a2)
    have hc : a0 = 0 ∨ a0 = 1 ∨ a0 = 2 ∨ a0 = 3 ∨ a0 = 4 ∨ a0 = 5 ∨ a0 = 6 ∨ a0 = 7 ∨ a0 = 8 ∨ a0 = 9 ∨ a0 = 10 ∨ a0 = 11 ∨ a0 = 12 ∨ a0 = 13 ∨ a0 = 14 ∨ a0 = 15 := by omega
    unfold ops_work.f
    rw [hq, h1, h2, h3, h4]
    simp only [u64_nonneg, ↓reduceIte, Option.bind_some]
    rcases hc with h | h | h | h | h | h | h | h | h | h | h | h | h | h | h | h <;> subst h <;> exact ⟨_, rfl⟩
  obtain ⟨x, hx⟩ := hw
  refine ⟨x, ?_⟩
  unfold ops_Apply.f
  rw [hi, Option.bind_some, if_pos rfl, hx]
  rfl

theorem apS_val (a0 a1 a2 : Int) (h : 0 ≤ a0 ∧ a0 < 16) : ops_Apply.f a0 a1 a2 = some (apS a0 a1 a2, 0) := by
  obtain ⟨x, hx⟩ := ops_some a0 a1 a2 h
  unfold apS
  rw [hx]
  rfl

/-- an instruction that is no return: how the run goes on, or why it stops -/
def stepR (P : List Fn) (m : Nat) (rs : RS) (t : TS) (i : Ins) (at_ : Int) (self : Nat) : (RS × TS × Int) ⊕ Int :=
  if i.kind = 5 then
    if t.depth = 4096 then .inr 63 else
    match loop pdS apS P m (enter P rs (kidOf pdS P t i) self t.kids) (kidOf pdS P t i) 0 rs.nodes.length with
    | .stop w => .inr w
    | .done rs2 v span => .inl (rs2, { t with kids := t.kids + 1, slots := si t.slots i.a v, ends := t.ends ++ [t.c + span] }, at_ + 1)
  else .inl (rs, plainT apS t i, plainAt t i at_)

theorem loop_stepR (P : List Fn) (m : Nat) (rs : RS) (t : TS) (at_ : Int) (self : Nat) (h : rs.left ≠ 0) (h9 : (insOf P t.f at_).kind ≠ 9) :
    loop pdS apS P (m + 1) rs t at_ self = match stepR P m { rs with left := rs.left - 1 } (tick t (insOf P t.f at_)) (insOf P t.f at_) at_ self with
      | .inr w => .stop w
      | .inl x => loop pdS apS P m x.1 x.2.1 x.2.2 self := by
  simp only [loop, stepR]
  rw [if_neg h, if_neg h9]
  by_cases h5 : (insOf P t.f at_).kind = 5
  · rw [if_pos h5, if_pos h5]
    by_cases hd : (tick t (insOf P t.f at_)).depth = 4096
    · rw [if_pos hd, if_pos hd]
    · rw [if_neg hd, if_neg hd]
      cases loop pdS apS P m (enter P { rs with left := rs.left - 1 } (kidOf pdS P (tick t (insOf P t.f at_)) (insOf P t.f at_)) self (tick t (insOf P t.f at_)).kids) (kidOf pdS P (tick t (insOf P t.f at_)) (insOf P t.f at_)) 0 rs.nodes.length <;> rfl
  · rw [if_neg h5, if_neg h5]

def stopV (why : Int) : List PanicEntry := [{ v := .iface 72 (.agg #[.int .i64 why]), recovered := false }]

def PlayPost (w0 w : World) (gr gt : Nat) (A : Option Addr) (n c : Nat) (vN : Value) (r : Res) (e : Ending) (w' : World) : Prop :=
  match r with
  | .stop why => e = .panicked (stopV why) ∧ Below w0.heap.size w0 w'
  | .done rs' v s => e = .returned (.tuple #[.int .i64 v, .int .i64 s]) ∧ ∃ vN', RB w0 w' gr [] A n c rs' vN' (.slice none 0 0) [] ∧ (∀ k, k < w.heap.size → k ≠ gr → k ≠ gt → vN.ownBlock ≠ some k → w'.heap[k]? = w.heap[k]?) ∧
      (∀ k, vN'.ownBlock = some k → vN.ownBlock = some k ∨ w.heap.size ≤ k) ∧ w.heap.size ≤ w'.heap.size

def StepPost (w0 w : World) (gr gt : Nat) (A : Option Addr) (n c : Nat) (vN vE : Value) (r : (RS × TS × Int) ⊕ Int) (e : Ending) (w' : World) : Prop :=
  match r with
  | .inr why => e = .panicked (stopV why) ∧ Below w0.heap.size w0 w'
  | .inl (rs', t', at') => e = .returned (.int .i64 at') ∧ ∃ vN' vE', RB w0 w' gr [(gt, taskC t' vE', 78)] A n c rs' vN' vE' t'.ends ∧
      (∀ k, k < w.heap.size → k ≠ gr → k ≠ gt → vN.ownBlock ≠ some k → vE.ownBlock ≠ some k → w'.heap[k]? = w.heap[k]?) ∧
      (∀ k, vN'.ownBlock = some k → vN.ownBlock = some k ∨ w.heap.size ≤ k) ∧ (∀ k, vE'.ownBlock = some k → vE.ownBlock = some k ∨ w.heap.size ≤ k) ∧ w.heap.size ≤ w'.heap.size

theorem StepPost.ok {w0 w w' : World} {gr gt : Nat} {A : Option Addr} {n c : Nat} {vN vE vN' vE' : Value} {rs' : RS} {t' : TS} {at' : Int} {en : Ending} (hen : en = .returned (.int .i64 at')) (h : RB w0 w' gr [(gt, taskC t' vE', 78)] A n c rs' vN' vE' t'.ends)
    (hk : ∀ k, k < w.heap.size → k ≠ gr → k ≠ gt → w'.heap[k]? = w.heap[k]?)
    (hN : ∀ k, vN'.ownBlock = some k → vN.ownBlock = some k ∨ w.heap.size ≤ k) (hE : ∀ k, vE'.ownBlock = some k → vE.ownBlock = some k ∨ w.heap.size ≤ k) :
    StepPost w0 w gr gt A n c vN vE (.inl (rs', t', at')) en w' := by
  refine ⟨hen, vN', vE', h, fun k a b c _ _ => hk k a b c, hN, hE, ?_⟩
  rcases Nat.lt_or_ge w'.heap.size w.heap.size with hlt | hge
  · have h1 := hk _ hlt (Nat.ne_of_gt (blk_lt h.blkR)) (Nat.ne_of_gt (h.L.lt (gt, taskC t' vE', 78) (by simp)))
    rw [Array.getElem?_eq_getElem hlt, Array.getElem?_eq_none (Nat.le_refl _)] at h1
    cases h1
  · exact hge

/-- the numbers of a run, bounded -/
structure Bnd (rs : RS) : Prop where
  nodes : rs.nodes.length + rs.left ≤ 4194305
  tasks : 0 ≤ rs.tasks ∧ rs.tasks + (rs.left : Int) ≤ 4194305

/-- the numbers of a task, bounded by U, what there was to be spent -/
structure Cnt (rs : RS) (t : TS) (U : Int) : Prop where
  u : U ≤ 4194305
  c : 0 ≤ t.c ∧ t.c + (rs.left : Int) ≤ U
  work : 0 ≤ t.work ∧ t.work + (rs.left : Int) ≤ U
  kids : 0 ≤ t.kids ∧ t.kids + (rs.left : Int) ≤ U
  ends : ∀ e ∈ t.ends, 0 ≤ e ∧ e + (rs.left : Int) ≤ U
  many : (t.ends.length : Int) + (rs.left : Int) ≤ U
  depth : 1 ≤ t.depth ∧ t.depth ≤ 4096

section
variable {P : Program} {ops : Array Oper} {rest : List Oper} {o : Oper} {a : Act} {Q : Exit → Act → World → Prop}
theorem box_RB {w0 W : World} {gr : Nat} {bs : List (Nat × Array Value × TypeId)} {A : Option Addr} {n c : Nat} {rs : RS} {vN vE : Value} {ends : List Int} (HB : RB w0 W gr bs A n c rs vN vE ends) (hgd : o.guard = none) {N : Tmp} (_hd : o.dst = some N) {cs : Array Value} {t : TypeId}
    (hrun : (execOp a.eval o).run P W = .ok (.value (.pointer (some ⟨W.heap.size, 0, none⟩))) (W.alloc (.cells cs t (0, 0))))
    (h : ∀ g w1, Aside0 (RB w0 w1 gr ((g, cs, t) :: bs) A n c rs vN vE ends) → Aside0 (Below W.heap.size W w1) → Aside0 (W.heap.size ≤ g) → wpList P ops Q rest (a.put o.dst (.pointer (some ⟨g, 0, none⟩))) w1) : wpList P ops Q (o :: rest) a W :=
  Kd.event_run hgd hrun (h _ _ ⟨HB.alloc cs t⟩ ⟨below_alloc (Below.refl _ _) _⟩ ⟨Nat.le_refl _⟩)
end
end Go.Proofs.YtcioegimmjppcaaDoor.P
/-! serial's step (machine side): an operation. -/
namespace Go.Proofs.YtcioegimmjppcaaDoor.P
open Go.RowKit Go.Proofs.YtcioegimmjppcaaDoorW.PrintWords Go.Proofs.YtcioegimmjppcaaDoorW.PrintLast Go.Proofs.YtcioegimmjppcaaDoorW.PrintMore
set_option linter.unusedVariables false
set_option linter.unusedSimpArgs false
set_option maxHeartbeats 1000000
set_option maxRecDepth 100000
attribute [local go_sem] max2_int max_two

theorem instr_cells {w0 W : World} {gr g7 : Nat} {bs : List (Nat × Array Value × TypeId)} {A : Option Addr} {n c : Nat} {rs : RS} {vN vE : Value} {ends : List Int} {cs : Array Value} (h : RB w0 W gr ((g7, cs, 36) :: bs) A n c rs vN vE ends) : ∀ j, W.cell? ⟨g7, j, none⟩ = cs[j]? := fun j => blk_cell (h.L.at 1 rfl) j

set_option maxHeartbeats 4000000 in
theorem step_two {w0 w : World} {gr gt : Nat} {A : Option Addr} {n c : Nat} {rs : RS} {t : TS} {vN vE : Value} (h : RB w0 w gr [(gt, taskC t vE, 78)] A n c rs vN vE t.ends) (hl : TLen t) (k1 k2 k3 k4 at_ self : Int)
    (hA : 0 ≤ k1 ∧ k1 < 16) (hB : 0 ≤ k2 ∧ k2 < 16) (hC : (0 ≤ k3 ∧ k3 < 16) ∧ 0 ≤ k4 ∧ k4 < 16) (hat : 0 ≤ at_ ∧ at_ < 512) :
    Calls Tryd.prog 44 #[.pointer (some ⟨gr, 0, none⟩), .pointer (some ⟨gt, 0, none⟩), .agg #[.int .i64 2, .int .i64 k1, .int .i64 k2, .int .i64 k3, .int .i64 k4], .int .i64 at_, .int .i64 self] w
      (StepPost w0 w gr gt A n c vN vE (.inl (rs, plainT apS t ⟨2, k1, k2, k3, k4⟩, plainAt t ⟨2, k1, k2, k3, k4⟩ at_))) := by
  have HR := Aside0.mk h
  have hwa : wrap64 (at_ + 1) = at_ + 1 := by unfold wrap64; omega
  have hu36 := Tryd.underlying36
  have hu78 := Tryd.underlying78
  have hft := taskC_facts (ev := vE) hl
  have HLL := Aside0.mk hl
  clear h hl
  obtain ⟨a, rfl⟩ : ∃ a : Nat, k1 = (a : Int) := ⟨k1.toNat, by omega⟩
  obtain ⟨b, rfl⟩ : ∃ b : Nat, k2 = (b : Int) := ⟨k2.toNat, by omega⟩
  obtain ⟨d, rfl⟩ : ∃ d : Nat, k3 = (d : Int) := ⟨k3.toNat, by omega⟩
  have ha : a < 16 := by omega
  have ha2 : (a : Int) < 16 := by omega
  have HA := Aside0.mk ha
  have hra := taskC_reg (ev := vE) HLL.out a ha
  have hb : b < 16 := by omega
  have hb2 : (b : Int) < 16 := by omega
  have hrb := taskC_reg (ev := vE) HLL.out b hb
  have hd : d < 16 := by omega
  have hd2 : (d : Int) < 16 := by omega
  have hrd := taskC_reg (ev := vE) HLL.out d hd
  obtain ⟨vb, hvb⟩ : ∃ v, t.regs.getD b 0 = v := ⟨_, rfl⟩
  obtain ⟨vd, hvd⟩ : ∃ v, t.regs.getD d 0 = v := ⟨_, rfl⟩
  rw [hvb] at hrb
  rw [hvd] at hrd
  have hap : ops_Apply.f k4 vb vd = some (apS k4 vb vd, 0) := apS_val _ _ _ (by omega)
  obtain ⟨x, hx⟩ : ∃ x, apS k4 vb vd = x := ⟨_, rfl⟩
  rw [hx] at hap
  have HAP := Aside0.mk hap
  have HXX : Aside0 (plainT apS t ⟨2, (a : Int), (b : Int), (d : Int), k4⟩ = { t with regs := t.regs.set a x }) := ⟨by
    rw [← hx, ← hvb, ← hvd]
    rfl⟩
  clear hap hx hvb hvd
  clear hA hB hC hat
  go_enter Tryd.func44, Tryd.ntmps44
  go_wp2_with (first | ((with_reducible refine gate_dst (N := 7) rfl ?_); (try (refine gate_guard (by rfl) ?_; dsimp only)); refine box_RB (by repeat (first | exact HR.out | refine RB.drew ?_ | refine RB.drewN ?_ _)) ?hg (N := 7) ?hd (cs := #[.int .i64 2, .int .i64 (a : Int), .int .i64 (b : Int), .int .i64 (d : Int), .int .i64 k4]) (t := 36) ?hr ?_; (case hd => rfl); (case hg => rfl); (case hr => first | (go_simp; done) | (go_simp; rfl)); intro g7 wb2 HLn HKb HGb; have HKW := Aside0.mk HKb.out; clear HR; have HR := HLn; clear HLn HKb HGb; (try clear hf); have hf := HR.out.L.facts; simp only [factsOf, runC, List.cons_append, List.nil_append] at hf; skip))
  refine wp_region_noPanic ?_
  refine wp_region_held_drew (S := fun W' => ∀ j, W'.cell? ⟨g7, j, none⟩ = #[Value.int .i64 2, .int .i64 (a : Int), .int .i64 (b : Int), .int .i64 (d : Int), .int .i64 k4][j]?) (by kernel_rfl) (instr_cells HR.out.drew) (fun hHeld => ?_)
  (refine wpAnyH_take (i := 0) (oi := _) (v := ?_) rfl (by kernel_rfl) (by kernel_rfl) (by kernel_rfl) (fun _ _ _ h => h) (Or.inl ⟨by rfl, ?_⟩) (by assumption) ?_; rotate_left; (intro w hSw; (try dsimp only at hSw); go_simp; try with_reducible rfl); (try simp only [Act.put, List.setIfInBounds_toArray, List.set_cons_zero, List.set_cons_succ]))
  (refine wpAnyH_take (i := 1) (oi := _) (v := ?_) rfl (by kernel_rfl) (by kernel_rfl) (by kernel_rfl) (fun _ _ _ h => h) (Or.inl ⟨by rfl, ?_⟩) (by assumption) ?_; rotate_left; (intro w hSw; (try dsimp only at hSw); go_simp; try with_reducible rfl); (try simp only [Act.put, List.setIfInBounds_toArray, List.set_cons_zero, List.set_cons_succ]))
  (refine wpAnyH_take (i := 2) (oi := _) (v := ?_) rfl (by kernel_rfl) (by kernel_rfl) (by kernel_rfl) (fun _ _ _ h => h) (Or.inl ⟨by rfl, ?_⟩) (by assumption) ?_; rotate_left; (intro w hSw; (try dsimp only at hSw); go_simp; try with_reducible rfl); (try simp only [Act.put, List.setIfInBounds_toArray, List.set_cons_zero, List.set_cons_succ]))
  (refine wpAnyH_take (i := 3) (oi := _) (v := ?_) rfl (by kernel_rfl) (by kernel_rfl) (by kernel_rfl) (fun _ _ _ h => h) (Or.inl ⟨by rfl, ?_⟩) (by assumption) ?_; rotate_left; (intro w hSw; (try dsimp only at hSw); go_simp; try with_reducible rfl); (try simp only [Act.put, List.setIfInBounds_toArray, List.set_cons_zero, List.set_cons_succ]))
  (refine wpAnyH_take (i := 4) (oi := _) (v := ?_) rfl (by kernel_rfl) (by kernel_rfl) (by kernel_rfl) (fun _ _ _ h => h) (Or.inl ⟨by rfl, ?_⟩) (by assumption) ?_; rotate_left; (intro w hSw; (try dsimp only at hSw); go_simp; try with_reducible rfl); (try simp only [Act.put, List.setIfInBounds_toArray, List.set_cons_zero, List.set_cons_succ]))
  (refine wpAnyH_take (i := 5) (oi := _) (v := ?_) rfl (by kernel_rfl) (by kernel_rfl) (by kernel_rfl) (fun _ _ _ h => h) (Or.inl ⟨by rfl, ?_⟩) (by assumption) ?_; rotate_left; (intro w hSw; (try dsimp only at hSw); go_simp; try with_reducible rfl); (try simp only [Act.put, List.setIfInBounds_toArray, List.set_cons_zero, List.set_cons_succ]))
  (refine wpAnyH_take (i := 6) (oi := _) (v := ?_) rfl (by kernel_rfl) (by kernel_rfl) (by kernel_rfl) (fun _ _ _ h => h) (Or.inl ⟨by rfl, ?_⟩) (by assumption) ?_; rotate_left; (intro w hSw; (try dsimp only at hSw); go_simp; try with_reducible rfl); (try simp only [Act.put, List.setIfInBounds_toArray, List.set_cons_zero, List.set_cons_succ]))
  (refine wpAnyH_take (i := 7) (oi := _) (v := ?_) rfl (by kernel_rfl) (by kernel_rfl) (by kernel_rfl) (fun _ _ _ h => h) (Or.inl ⟨by rfl, ?_⟩) (by assumption) ?_; rotate_left; (intro w hSw; (try dsimp only at hSw); go_simp; try with_reducible rfl); (try simp only [Act.put, List.setIfInBounds_toArray, List.set_cons_zero, List.set_cons_succ]))
  (refine wpAnyH_take (i := 8) (oi := _) (v := ?_) rfl (by kernel_rfl) (by kernel_rfl) (by kernel_rfl) (fun _ _ _ h => h) (Or.inl ⟨by rfl, ?_⟩) (by assumption) ?_; rotate_left; (intro w hSw; (try dsimp only at hSw); go_simp; try with_reducible rfl); (try simp only [Act.put, List.setIfInBounds_toArray, List.set_cons_zero, List.set_cons_succ]))
  (refine wpAnyH_take (i := 9) (oi := _) (v := ?_) rfl (by kernel_rfl) (by kernel_rfl) (by kernel_rfl) (fun _ _ _ h => h) (Or.inl ⟨by rfl, ?_⟩) (by assumption) ?_; rotate_left; (intro w hSw; (try dsimp only at hSw); go_simp; try with_reducible rfl); (try simp only [Act.put, List.setIfInBounds_toArray, List.set_cons_zero, List.set_cons_succ]))
  (refine wpAnyH_take (i := 10) (oi := _) (v := ?_) rfl (by kernel_rfl) (by kernel_rfl) (by kernel_rfl) (fun _ _ _ h => h) (Or.inl ⟨by rfl, ?_⟩) (by assumption) ?_; rotate_left; (intro w hSw; (try dsimp only at hSw); go_simp; try with_reducible rfl); (try simp only [Act.put, List.setIfInBounds_toArray, List.set_cons_zero, List.set_cons_succ]))
  (refine wpAnyH_take (i := 12) (oi := _) (v := ?_) rfl (by kernel_rfl) (by kernel_rfl) (by kernel_rfl) (fun _ _ _ h => h) (Or.inl ⟨by rfl, ?_⟩) (by assumption) ?_; rotate_left; (intro w hSw; (try dsimp only at hSw); go_simp; try with_reducible rfl); (try simp only [Act.put, List.setIfInBounds_toArray, List.set_cons_zero, List.set_cons_succ]))
  (refine wpAnyH_take (i := 13) (oi := _) (v := ?_) rfl (by kernel_rfl) (by kernel_rfl) (by kernel_rfl) (fun _ _ _ h => h) (Or.inl ⟨by rfl, ?_⟩) (by assumption) ?_; rotate_left; (intro w hSw; (try dsimp only at hSw); go_simp; try with_reducible rfl); (try simp only [Act.put, List.setIfInBounds_toArray, List.set_cons_zero, List.set_cons_succ]))
  (refine wpAnyH_take (i := 14) (oi := _) (v := ?_) rfl (by kernel_rfl) (by kernel_rfl) (by kernel_rfl) (fun _ _ _ h => h) (Or.inl ⟨by rfl, ?_⟩) (by assumption) ?_; rotate_left; (intro w hSw; (try dsimp only at hSw); go_simp; try with_reducible rfl); (try simp only [Act.put, List.setIfInBounds_toArray, List.set_cons_zero, List.set_cons_succ]))
  (refine wpAnyH_take (i := 15) (oi := _) (v := ?_) rfl (by kernel_rfl) (by kernel_rfl) (by kernel_rfl) (fun _ _ _ h => h) (Or.inl ⟨by rfl, ?_⟩) (by assumption) ?_; rotate_left; (intro w hSw; (try dsimp only at hSw); go_simp; try with_reducible rfl); (try simp only [Act.put, List.setIfInBounds_toArray, List.set_cons_zero, List.set_cons_succ]))
  (refine wpAnyH_take (i := 16) (oi := _) (v := ?_) rfl (by kernel_rfl) (by kernel_rfl) (by kernel_rfl) (fun _ _ _ h => h) (Or.inl ⟨by rfl, ?_⟩) (by assumption) ?_; rotate_left; (intro w hSw; (try dsimp only at hSw); go_simp; try with_reducible rfl); (try simp only [Act.put, List.setIfInBounds_toArray, List.set_cons_zero, List.set_cons_succ]))
  (refine wpAnyH_take (i := 17) (oi := _) (v := ?_) rfl (by kernel_rfl) (by kernel_rfl) (by kernel_rfl) (fun _ _ _ h => h) (Or.inl ⟨by rfl, ?_⟩) (by assumption) ?_; rotate_left; (intro w hSw; (try dsimp only at hSw); go_simp; try with_reducible rfl); (try simp only [Act.put, List.setIfInBounds_toArray, List.set_cons_zero, List.set_cons_succ]))
  (refine wpAnyH_take (i := 23) (oi := _) (v := ?_) rfl (by kernel_rfl) (by kernel_rfl) (by kernel_rfl) (fun _ _ _ h => h) (Or.inl ⟨by rfl, ?_⟩) (by assumption) ?_; rotate_left; (intro w hSw; (try dsimp only at hSw); go_simp; try with_reducible rfl); (try simp only [Act.put, List.setIfInBounds_toArray, List.set_cons_zero, List.set_cons_succ]))
  (refine wpAnyH_take (i := 24) (oi := _) (v := ?_) rfl (by kernel_rfl) (by kernel_rfl) (by kernel_rfl) (fun _ _ _ h => h) (Or.inl ⟨by rfl, ?_⟩) (by assumption) ?_; rotate_left; (intro w hSw; (try dsimp only at hSw); go_simp; try with_reducible rfl); (try simp only [Act.put, List.setIfInBounds_toArray, List.set_cons_zero, List.set_cons_succ]))
  refine wpAnyH_ready (rs := [11, 18]) (by kernel_rfl) (by simp) ?_
  refine AllReadyH.cons (o := _) rfl (fun K hK => ?_) (AllReadyH.cons (o := _) rfl (fun K hK => ?_) AllReadyH.nil)
  (go_simp; refine hK.out _ _ (instr_cells HR.out.drew) (fun hHeld => ?_); clear hK K; (try simp only [Act.put, List.setIfInBounds_toArray, List.set_cons_zero, List.set_cons_succ]))
  refine wpAnyH_ready (rs := [18]) (by kernel_rfl) (by simp) (AllReadyH.cons (o := _) rfl (fun K hK => ?_) AllReadyH.nil)
  (go_simp; refine hK.out _ _ (instr_cells HR.out.drew) (fun hHeld => ?_); clear hK K; (try simp only [Act.put, List.setIfInBounds_toArray, List.set_cons_zero, List.set_cons_succ]))
  rotate_left
  (go_simp; refine hK.out _ _ (instr_cells HR.out.drew) (fun hHeld => ?_); clear hK K; (try simp only [Act.put, List.setIfInBounds_toArray, List.set_cons_zero, List.set_cons_succ]))
  refine wpAnyH_ready (rs := [11]) (by kernel_rfl) (by simp) (AllReadyH.cons (o := _) rfl (fun K hK => ?_) AllReadyH.nil)
  (go_simp; refine hK.out _ _ (instr_cells HR.out.drew) (fun hHeld => ?_); clear hK K; (try simp only [Act.put, List.setIfInBounds_toArray, List.set_cons_zero, List.set_cons_succ]))
  all_goals
    refine wpAnyH_ready (rs := [19]) (by kernel_rfl) (by simp) (AllReadyH.cons (o := _) rfl (fun K hK => ?_) AllReadyH.nil)
    go_simp
    (go_at_call 18; refine (ops_Apply.calls k4 vb vd x 0 _ HAP.out).mono ?_; rintro e_ wq ⟨rfl, hb_⟩; have HKN := Aside0.mk hb_; have HLn := Aside0.mk (RB.step HR.out.drew hb_); clear HR hb_ hf hrb hrd; have HR := HLn; clear HLn; have hq1 := (blk_cell (HR.out.L.at 2 rfl) (3 + a)).trans hra; have hq2 := blk_frozen (HR.out.L.at 2 rfl) (3 + a))
    dsimp only
    refine hK.out _ _ (instr_cells HR.out) (fun hHeld => ?_)
    clear hK K
    (try simp only [Act.put, List.setIfInBounds_toArray, List.set_cons_zero, List.set_cons_succ])
    (refine wpAnyH_take (i := 20) (oi := _) (v := ?_) rfl (by kernel_rfl) (by kernel_rfl) (by kernel_rfl) (fun _ _ _ h => h) (Or.inl ⟨by rfl, ?_⟩) (by assumption) ?_; rotate_left; (intro w hSw; (try dsimp only at hSw); go_simp; try with_reducible rfl); (try simp only [Act.put, List.setIfInBounds_toArray, List.set_cons_zero, List.set_cons_succ]))
    (refine wpAnyH_take (i := 21) (oi := _) (v := ?_) rfl (by kernel_rfl) (by kernel_rfl) (by kernel_rfl) (fun _ _ _ h => h) (Or.inl ⟨by rfl, ?_⟩) (by assumption) ?_; rotate_left; (intro w hSw; (try dsimp only at hSw); go_simp; try with_reducible rfl); (try simp only [Act.put, List.setIfInBounds_toArray, List.set_cons_zero, List.set_cons_succ]))
    (refine wpAnyH_take (i := 22) (oi := _) (v := ?_) rfl (by kernel_rfl) (by kernel_rfl) (by kernel_rfl) (fun _ _ _ h => h) (Or.inl ⟨by rfl, ?_⟩) (by assumption) ?_; rotate_left; (intro w hSw; (try dsimp only at hSw); go_simp; try with_reducible rfl); (try simp only [Act.put, List.setIfInBounds_toArray, List.set_cons_zero, List.set_cons_succ]))
    (refine wpAnyH_take (i := 25) (oi := _) (v := ?_) rfl (by kernel_rfl) (by kernel_rfl) (by kernel_rfl) (fun _ _ _ h => h) (Or.inl ⟨by rfl, ?_⟩) (by assumption) ?_; rotate_left; (intro w hSw; (try dsimp only at hSw); go_simp; try with_reducible rfl); (try simp only [Act.put, List.setIfInBounds_toArray, List.set_cons_zero, List.set_cons_succ]))
    refine wpAnyH_ready (rs := [26]) (by kernel_rfl) (by simp) (AllReadyH.cons (o := _) rfl (fun K hK => ?_) AllReadyH.nil)
    go_simp
    refine hK.out _ _ (instr_cells (HR.out.setB 1 rfl (3 + a) _)) (fun hHeld => ?_)
    clear hK K
    (try simp only [Act.put, List.setIfInBounds_toArray, List.set_cons_zero, List.set_cons_succ])
    refine wpAnyH_done (by kernel_rfl) ?_ _
    refine NoPanic.normal ?_
  all_goals
    generalize hwt : World.setCell _ _ _ = w5
    have HRn : RB w0 w5 gr [(g7, #[.int .i64 2, .int .i64 (a : Int), .int .i64 (b : Int), .int .i64 (d : Int), .int .i64 k4], 36), (gt, taskC { t with regs := t.regs.set a x } vE, 78)] A n c rs vN vE t.ends := by
      rw [← hwt]
      have h1 := HR.out.setB 1 rfl (3 + a) (.int .i64 x)
      rw [taskC_setReg HLL.out a HA.out] at h1
      exact h1
    have hkp : ∀ k, k < w.heap.size → k ≠ gt → w5.heap[k]? = w.heap[k]? := fun k hk hne => by
      rw [← hwt]
      exact (Below.heap_setCell _ ⟨gt, 3 + a, none⟩ _ k hne).trans ((HKN.out.block k (Nat.lt_of_lt_of_le hk HKW.out.size)).trans (HKW.out.block k hk))
    clear hwt hft
    go_wp2_with (first | fail)
    go_ret
    have hfin : StepPost w0 w gr gt A n c vN vE (.inl (rs, { t with regs := t.regs.set a x }, at_ + 1)) (.returned (.int .i64 (wrap64 (at_ + 1)))) w5 := StepPost.ok (congrArg (fun x => Ending.returned (Value.int .i64 x)) hwa) (HRn.sub (List.sublist_cons_self _ _)) (fun k hk h1 h2 => hkp k hk h2) (fun k hk => Or.inl hk) (fun k hk => Or.inl hk)
    rw [← HXX.out] at hfin
    exact hfin
end Go.Proofs.YtcioegimmjppcaaDoor.P
/-! serial's step (machine side): an instruction that is neither a spawn nor a return. -/
namespace Go.Proofs.YtcioegimmjppcaaDoor.P
open Go.RowKit Go.Proofs.YtcioegimmjppcaaDoorW.PrintWords Go.Proofs.YtcioegimmjppcaaDoorW.PrintLast Go.Proofs.YtcioegimmjppcaaDoorW.PrintMore
set_option linter.unusedVariables false
set_option linter.unusedSimpArgs false
set_option maxHeartbeats 1000000
set_option maxRecDepth 100000
attribute [local go_sem] max2_int max_two

theorem step_plain {w0 w : World} {gr gt : Nat} {A : Option Addr} {n c : Nat} {rs : RS} {t : TS} {vN vE : Value} (h : RB w0 w gr [(gt, taskC t vE, 78)] A n c rs vN vE t.ends) (hl : TLen t) (k0 k1 k2 k3 k4 at_ self : Int)
    (hk : 0 ≤ k0 ∧ k0 ≤ 9) (h5 : k0 ≠ 5) (h9 : k0 ≠ 9) (hA : k0 = 0 ∨ k0 = 1 ∨ k0 = 2 ∨ k0 = 4 ∨ k0 = 7 ∨ k0 = 8 → 0 ≤ k1 ∧ k1 < 16) (hB : k0 = 1 ∨ k0 = 2 → 0 ≤ k2 ∧ k2 < 16) (hC : k0 = 2 → (0 ≤ k3 ∧ k3 < 16) ∧ 0 ≤ k4 ∧ k4 < 16) (hS : k0 = 7 → 0 ≤ k2 ∧ k2 < 8)
    (hat : 0 ≤ at_ ∧ at_ < 512) (hc : 0 ≤ t.c ∧ t.c ≤ 4194305) (he : ∀ e ∈ t.ends, 0 ≤ e ∧ e ≤ 4194305) (hm : t.ends.length ≤ 4194305) :
    Calls Tryd.prog 44 #[.pointer (some ⟨gr, 0, none⟩), .pointer (some ⟨gt, 0, none⟩), .agg #[.int .i64 k0, .int .i64 k1, .int .i64 k2, .int .i64 k3, .int .i64 k4], .int .i64 at_, .int .i64 self] w
      (StepPost w0 w gr gt A n c vN vE (.inl (rs, plainT apS t ⟨k0, k1, k2, k3, k4⟩, plainAt t ⟨k0, k1, k2, k3, k4⟩ at_))) := by
  have HR := Aside0.mk h
  have hwa : wrap64 (at_ + 1) = at_ + 1 := by unfold wrap64; omega
  have hu36 := Tryd.underlying36
  have hu78 := Tryd.underlying78
  have hft := taskC_facts (ev := vE) hl
  have HLL := Aside0.mk hl
  have hcs : k0 = 0 ∨ k0 = 1 ∨ k0 = 2 ∨ k0 = 3 ∨ k0 = 4 ∨ k0 = 6 ∨ k0 = 7 ∨ k0 = 8 := by omega
  clear h hk h5 h9 hl
  rcases hcs with rfl | rfl | rfl | rfl | rfl | rfl | rfl | rfl
  · obtain ⟨a, rfl⟩ : ∃ a : Nat, k1 = (a : Int) := ⟨k1.toNat, by omega⟩
    have ha : a < 16 := by omega
    have ha2 : (a : Int) < 16 := by omega
    have HA := Aside0.mk ha
    have hra := taskC_reg (ev := vE) HLL.out a ha
    clear hA hB hC hS hc he hm hat
    go_enter Tryd.func44, Tryd.ntmps44
    go_wp2_with (first | ((with_reducible refine gate_dst (N := 7) rfl ?_); (try (refine gate_guard (by rfl) ?_; dsimp only)); refine box_RB (by repeat (first | exact HR.out | refine RB.drew ?_ | refine RB.drewN ?_ _)) ?hg (N := 7) ?hd (cs := #[.int .i64 0, .int .i64 (a : Int), .int .i64 k2, .int .i64 k3, .int .i64 k4]) (t := 36) ?hr ?_; (case hd => rfl); (case hg => rfl); (case hr => first | (go_simp; done) | (go_simp; rfl)); intro g7 wb2 HLn HKb HGb; have HKW := Aside0.mk HKb.out; clear HR; have HR := HLn; clear HLn HKb HGb; (try clear hf); have hf := HR.out.L.facts; simp only [factsOf, runC, List.cons_append, List.nil_append] at hf; skip))
    go_region
    generalize hwt : World.drew _ = w5
    have HRn : RB w0 w5 gr [(g7, #[.int .i64 0, .int .i64 (a : Int), .int .i64 k2, .int .i64 k3, .int .i64 k4], 36), (gt, taskC { t with regs := t.regs.set a (k4) } vE, 78)] A n c rs vN vE t.ends := by
      rw [← hwt]
      have h1 := HR.out.setB 1 rfl (3 + a) (.int .i64 (k4))
      rw [taskC_setReg HLL.out a HA.out] at h1
      exact h1.drew
    have hkp : ∀ k, k < w.heap.size → k ≠ gt → w5.heap[k]? = w.heap[k]? := fun k hk hne => by
      rw [← hwt]
      exact (Below.heap_setCell _ ⟨gt, 3 + a, none⟩ _ k hne).trans (HKW.out.block k hk)
    clear hwt hf hft
    go_wp2_with (first | fail)
    go_ret
    exact StepPost.ok (at' := at_ + 1) (t' := { t with regs := t.regs.set a (k4) }) (congrArg (fun x => Ending.returned (Value.int .i64 x)) hwa) (HRn.sub (List.sublist_cons_self _ _)) (fun k hk h1 h2 => hkp k hk h2) (fun k hk => Or.inl hk) (fun k hk => Or.inl hk)
  · obtain ⟨a, rfl⟩ : ∃ a : Nat, k1 = (a : Int) := ⟨k1.toNat, by omega⟩
    obtain ⟨b, rfl⟩ : ∃ b : Nat, k2 = (b : Int) := ⟨k2.toNat, by omega⟩
    have ha : a < 16 := by omega
    have ha2 : (a : Int) < 16 := by omega
    have HA := Aside0.mk ha
    have hra := taskC_reg (ev := vE) HLL.out a ha
    have hb : b < 16 := by omega
    have hb2 : (b : Int) < 16 := by omega
    have hrb := taskC_reg (ev := vE) HLL.out b hb
    clear hA hB hC hS hc he hm hat
    go_enter Tryd.func44, Tryd.ntmps44
    go_wp2_with (first | ((with_reducible refine gate_dst (N := 7) rfl ?_); (try (refine gate_guard (by rfl) ?_; dsimp only)); refine box_RB (by repeat (first | exact HR.out | refine RB.drew ?_ | refine RB.drewN ?_ _)) ?hg (N := 7) ?hd (cs := #[.int .i64 1, .int .i64 (a : Int), .int .i64 (b : Int), .int .i64 k3, .int .i64 k4]) (t := 36) ?hr ?_; (case hd => rfl); (case hg => rfl); (case hr => first | (go_simp; done) | (go_simp; rfl)); intro g7 wb5 HLn HKb HGb; have HKW := Aside0.mk HKb.out; clear HR; have HR := HLn; clear HLn HKb HGb; (try clear hf); have hf := HR.out.L.facts; simp only [factsOf, runC, List.cons_append, List.nil_append] at hf; skip))
    go_region
    generalize hwt : World.drew _ = w5
    have HRn : RB w0 w5 gr [(g7, #[.int .i64 1, .int .i64 (a : Int), .int .i64 (b : Int), .int .i64 k3, .int .i64 k4], 36), (gt, taskC { t with regs := t.regs.set a (t.regs.getD b 0) } vE, 78)] A n c rs vN vE t.ends := by
      rw [← hwt]
      have h1 := HR.out.setB 1 rfl (3 + a) (.int .i64 (t.regs.getD b 0))
      rw [taskC_setReg HLL.out a HA.out] at h1
      exact h1.drew
    have hkp : ∀ k, k < w.heap.size → k ≠ gt → w5.heap[k]? = w.heap[k]? := fun k hk hne => by
      rw [← hwt]
      exact (Below.heap_setCell _ ⟨gt, 3 + a, none⟩ _ k hne).trans (HKW.out.block k hk)
    clear hwt hf hft
    go_wp2_with (first | fail)
    go_ret
    exact StepPost.ok (at' := at_ + 1) (t' := { t with regs := t.regs.set a (t.regs.getD b 0) }) (congrArg (fun x => Ending.returned (Value.int .i64 x)) hwa) (HRn.sub (List.sublist_cons_self _ _)) (fun k hk h1 h2 => hkp k hk h2) (fun k hk => Or.inl hk) (fun k hk => Or.inl hk)
  · exact step_two HR.out HLL.out k1 k2 k3 k4 at_ self (hA (by omega)) (hB (by omega)) (hC rfl) hat
  · clear hA hB hC hS hc he hm hat
    go_enter Tryd.func44, Tryd.ntmps44
    go_wp2_with (first | ((with_reducible refine gate_dst (N := 7) rfl ?_); (try (refine gate_guard (by rfl) ?_; dsimp only)); refine box_RB (by repeat (first | exact HR.out | refine RB.drew ?_ | refine RB.drewN ?_ _)) ?hg (N := 7) ?hd (cs := #[.int .i64 3, .int .i64 k1, .int .i64 k2, .int .i64 k3, .int .i64 k4]) (t := 36) ?hr ?_; (case hd => rfl); (case hg => rfl); (case hr => first | (go_simp; done) | (go_simp; rfl)); intro g7 wb8 HLn HKb HGb; have HKW := Aside0.mk HKb.out; clear HR; have HR := HLn; clear HLn HKb HGb; (try clear hf); have hf := HR.out.L.facts; simp only [factsOf, runC, List.cons_append, List.nil_append] at hf; skip))
    go_ret
    exact StepPost.ok (at' := k1) (t' := t) rfl (HR.out.sub (List.sublist_cons_self _ _)) (fun k hk h1 h2 => HKW.out.block k hk) (fun k hk => Or.inl hk) (fun k hk => Or.inl hk)
  · obtain ⟨a, rfl⟩ : ∃ a : Nat, k1 = (a : Int) := ⟨k1.toNat, by omega⟩
    have ha : a < 16 := by omega
    have ha2 : (a : Int) < 16 := by omega
    have HA := Aside0.mk ha
    have hra := taskC_reg (ev := vE) HLL.out a ha
    obtain ⟨v, hv⟩ : ∃ v, t.regs.getD a 0 = v := ⟨_, rfl⟩
    rw [hv] at hra
    by_cases hv0 : v = 0
    · have hvb : (v != 0) = false := by rw [hv0]; rfl
      have hpa : plainAt t ⟨4, (a : Int), k2, k3, k4⟩ at_ = at_ + 1 := by
        unfold plainAt
        rw [if_neg (show ¬ ((4 : Int) = 3) by decide), if_pos rfl, if_neg (by show ¬ (t.regs.getD a 0 ≠ 0); rw [hv, hv0]; decide)]
      rw [hpa]
      clear hv hv0 hpa
      clear hA hB hC hS hc he hm hat
      go_enter Tryd.func44, Tryd.ntmps44
      go_wp2_with (first | ((with_reducible refine gate_dst (N := 7) rfl ?_); (try (refine gate_guard (by rfl) ?_; dsimp only)); refine box_RB (by repeat (first | exact HR.out | refine RB.drew ?_ | refine RB.drewN ?_ _)) ?hg (N := 7) ?hd (cs := #[.int .i64 4, .int .i64 (a : Int), .int .i64 k2, .int .i64 k3, .int .i64 k4]) (t := 36) ?hr ?_; (case hd => rfl); (case hg => rfl); (case hr => first | (go_simp; done) | (go_simp; rfl)); intro g7 wb10 HLn HKb HGb; have HKW := Aside0.mk HKb.out; clear HR; have HR := HLn; clear HLn HKb HGb; (try clear hf); have hf := HR.out.L.facts; simp only [factsOf, runC, List.cons_append, List.nil_append] at hf; skip))
      go_quiet (fail)
      go_wp2_with (first | fail)
      go_ret
      exact StepPost.ok (at' := at_ + 1) (t' := t) (congrArg (fun x => Ending.returned (Value.int .i64 x)) hwa) ((HR.out.drewN _).sub (List.sublist_cons_self _ _)) (fun k hk h1 h2 => HKW.out.block k hk) (fun k hk => Or.inl hk) (fun k hk => Or.inl hk)
    · have hvb : (v != 0) = true := bne_iff_ne.mpr hv0
      have hpa : plainAt t ⟨4, (a : Int), k2, k3, k4⟩ at_ = k2 := by
        unfold plainAt
        rw [if_neg (show ¬ ((4 : Int) = 3) by decide), if_pos rfl, if_pos (by show t.regs.getD a 0 ≠ 0; rw [hv]; exact hv0)]
      rw [hpa]
      clear hv hv0 hpa
      clear hA hB hC hS hc he hm hat
      go_enter Tryd.func44, Tryd.ntmps44
      go_wp2_with (first | ((with_reducible refine gate_dst (N := 7) rfl ?_); (try (refine gate_guard (by rfl) ?_; dsimp only)); refine box_RB (by repeat (first | exact HR.out | refine RB.drew ?_ | refine RB.drewN ?_ _)) ?hg (N := 7) ?hd (cs := #[.int .i64 4, .int .i64 (a : Int), .int .i64 k2, .int .i64 k3, .int .i64 k4]) (t := 36) ?hr ?_; (case hd => rfl); (case hg => rfl); (case hr => first | (go_simp; done) | (go_simp; rfl)); intro g7 wb12 HLn HKb HGb; have HKW := Aside0.mk HKb.out; clear HR; have HR := HLn; clear HLn HKb HGb; (try clear hf); have hf := HR.out.L.facts; simp only [factsOf, runC, List.cons_append, List.nil_append] at hf; skip))
      go_quiet (fail)
      go_wp2_with (first | fail)
      go_ret
      exact StepPost.ok (at' := k2) (t' := t) rfl ((HR.out.drewN _).sub (List.sublist_cons_self _ _)) (fun k hk h1 h2 => HKW.out.block k hk) (fun k hk => Or.inl hk) (fun k hk => Or.inl hk)
  · clear hA hB hC hS hat
    obtain ⟨vA, vc, hve⟩ := Kd.R_slice HR.out.E
    subst hve
    have HCC := Aside0.mk (And.intro hc (And.intro he hm))
    clear hc he hm
    go_enter Tryd.func44, Tryd.ntmps44
    go_wp2_with (first | ((with_reducible refine gate_dst (N := 7) rfl ?_); (try (refine gate_guard (by rfl) ?_; dsimp only)); refine box_RB (by repeat (first | exact HR.out | refine RB.drew ?_ | refine RB.drewN ?_ _)) ?hg (N := 7) ?hd (cs := #[.int .i64 6, .int .i64 k1, .int .i64 k2, .int .i64 k3, .int .i64 k4]) (t := 36) ?hr ?_; (case hd => rfl); (case hg => rfl); (case hr => first | (go_simp; done) | (go_simp; rfl)); intro g7 wb14 HLn HKb HGb; have HKW := Aside0.mk HKb.out; clear HR; have HR := HLn; clear HLn HKb HGb; (try clear hf); have hf := HR.out.L.facts; simp only [factsOf, runC, List.cons_append, List.nil_append] at hf; skip))
    have hcs0 : taskC t (.slice vA t.ends.length vc) = taskC { t with c := ([] : List Int).foldl max t.c } (.slice vA t.ends.length vc) := rfl
    go_loopg [98] (t.ends.length + 1) (fun kq v98 w' => ∃ (j : Nat), v98 = .int .i64 (j : Int) ∧ Aside0 (t.ends.length - j < kq ∧ j ≤ t.ends.length) ∧ Aside0 (∀ k, k < w.heap.size → k ≠ gt → w'.heap[k]? = w.heap[k]?) ∧
      Aside0 (RB w0 w' gr [(g7, #[.int .i64 6, .int .i64 k1, .int .i64 k2, .int .i64 k3, .int .i64 k4], 36), (gt, taskC { t with c := (t.ends.take j).foldl max t.c } (.slice vA t.ends.length vc), 78)] A n c rs vN (.slice vA t.ends.length vc) t.ends))
    case atStart => exact ⟨0, rfl, ⟨by omega, by omega⟩, ⟨fun k hk _ => HKW.out.block k hk⟩, HR⟩
    case round =>
      clear HR hf hft hcs0
      obtain ⟨j, rfl, HJ, HKP, HR⟩ := hrel
      have hl2 : TLen { t with c := (t.ends.take j).foldl max t.c } := ⟨HLL.out.r, HLL.out.s⟩
      obtain ⟨cc, hcc⟩ : ∃ cc, (t.ends.take j).foldl max t.c = cc := ⟨_, rfl⟩
      rw [hcc] at HR hl2
      have hcb : 0 ≤ cc ∧ cc ≤ 4194305 := by
        rw [← hcc]
        have h1 := le_maxL (t.ends.take j) t.c
        have h2 := maxL_le (U := 4194305) (t.ends.take j) t.c HCC.out.1.2 (fun e he => (HCC.out.2.1 e (List.mem_of_mem_take he)).2)
        unfold maxL at h1 h2
        have := HCC.out.1.1
        omega
      have HCB := Aside0.mk hcb
      have HCX := Aside0.mk hcc
      have hft := taskC_facts (ev := .slice vA t.ends.length vc) hl2
      have HL2 := Aside0.mk hl2
      clear hcc hcb hl2
      (try clear hf); have hf := HR.out.L.facts; simp only [factsOf, runC, List.cons_append, List.nil_append] at hf; skip
      by_cases hin : j < t.ends.length
      · have hin2 : (j : Int) < (t.ends.length : Int) := by omega
        have HIN := Aside0.mk hin
        obtain ⟨g, cr, er, -⟩ := Kd.R_form HR.out.E (by omega)
        obtain ⟨rfl, rfl⟩ : vA = some ⟨g, 0, none⟩ ∧ vc = cr := by
          injection er with e1 e2 e3
          exact ⟨e1, e3⟩
        obtain ⟨y, hy⟩ : ∃ y, t.ends.getD j 0 = y := ⟨_, rfl⟩
        have hce : wr.cell? ⟨g, j, none⟩ = some (.int .i64 y) := by
          have h1 := (Kd.R_celln (0 : Int) HR.out.E (j : Int) (by omega) hin2).1
          rw [Int.toNat_natCast] at h1
          rw [h1, ← hy]
          rfl
        have hwc : wrap64 ((j : Int) + 1) = ((j + 1 : Nat) : Int) := by have := HIN.out; have := HCC.out.2.2; unfold wrap64; omega
        have htk : (t.ends.take (j + 1)).foldl max t.c = max cc y := by
          rw [List.take_add_one, List.getElem?_eq_getElem hin, List.foldl_append, HCX.out, ← hy, List.getD_eq_getElem?_getD, List.getElem?_eq_getElem hin]
          rfl
        have HTK := Aside0.mk htk
        obtain ⟨m2, hm2⟩ : ∃ m2 : Int, (if cc < y then y else cc) = m2 := ⟨_, rfl⟩
        have hmm : max cc y = m2 := by rw [← hm2]; omega
        rw [hmm] at HTK
        clear er hy hin htk hmm
        go_wp2_with (first | fail)
        generalize hwt : World.setCell _ _ _ = w5
        have HRn : RB w0 w5 gr [(g7, #[.int .i64 6, .int .i64 k1, .int .i64 k2, .int .i64 k3, .int .i64 k4], 36), (gt, taskC { t with c := (t.ends.take (j + 1)).foldl max t.c } (.slice (some ⟨g, 0, none⟩) t.ends.length vc), 78)] A n c rs vN (.slice (some ⟨g, 0, none⟩) t.ends.length vc) t.ends := by
          rw [← hwt, HTK.out]
          have h1 := HR.out.setB 1 rfl 29 (.int .i64 m2)
          rw [taskC_setC HL2.out] at h1
          exact h1
        have HKPn : Aside0 (∀ k, k < w.heap.size → k ≠ gt → w5.heap[k]? = w.heap[k]?) := ⟨fun k hk hne => by
          rw [← hwt]
          exact (Below.heap_setCell _ ⟨gt, 29, none⟩ _ k hne).trans (HKP.out k hk hne)⟩
        clear hwt hf hce
        go_wp2_with (first | fail)
        go_roundg (t.ends.length - (j + 1) + 1)
        case measure => have := HJ.out; have := HIN.out; omega
        case rel => exact ⟨j + 1, (by first | rw [hwc] | simp), ⟨by omega, HIN.out⟩, HKPn, ⟨HRn⟩⟩
      · have hlt : ¬ ((j : Int) < (t.ends.length : Int)) := by omega
        have hwc1 : wrap64 (cc + 1) = cc + 1 := by have := HCB.out; unfold wrap64; omega
        have HCE : Aside0 (cc = maxL t.c t.ends) := ⟨by rw [← HCX.out, List.take_of_length_le (by omega)]; rfl⟩
        clear hin
        go_upto_region 22 with (first | fail)
        generalize hwt : World.setCell _ _ _ = w5
        have HRn : RB w0 w5 gr [(g7, #[.int .i64 6, .int .i64 k1, .int .i64 k2, .int .i64 k3, .int .i64 k4], 36), (gt, taskC { t with c := cc, ends := [] } (.slice none 0 0), 78)] A n c rs vN (.slice none 0 0) [] := by
          rw [← hwt]
          have h1 := HR.out.setB 1 rfl 30 (.slice none 0 0)
          rw [taskC_setEnds HL2.out _ []] at h1
          exact h1.noEnds
        have HKPn : Aside0 (∀ k, k < w.heap.size → k ≠ gt → w5.heap[k]? = w.heap[k]?) := ⟨fun k hk hne => by
          rw [← hwt]
          exact (Below.heap_setCell _ ⟨gt, 30, none⟩ _ k hne).trans (HKP.out k hk hne)⟩
        clear hwt hf HR HKP hft
        have HR := Aside0.mk HRn
        have HL3 : Aside0 (TLen { t with c := cc, ends := [] }) := ⟨⟨HLL.out.r, HLL.out.s⟩⟩
        have hft := taskC_facts (ev := .slice none 0 0) HL3.out
        clear HRn
        (try clear hf); have hf := HR.out.L.facts; simp only [factsOf, runC, List.cons_append, List.nil_append] at hf; skip
        go_wp2_with (first | fail)
        generalize hwt : World.setCell _ _ _ = w6
        have HRn : RB w0 w6 gr [(g7, #[.int .i64 6, .int .i64 k1, .int .i64 k2, .int .i64 k3, .int .i64 k4], 36), (gt, taskC { t with c := cc + 1, ends := [] } (.slice none 0 0), 78)] A n c rs vN (.slice none 0 0) [] := by
          rw [← hwt]
          have h1 := HR.out.setB 1 rfl 29 (.int .i64 (cc + 1))
          rw [taskC_setC HL3.out] at h1
          exact h1
        have hkp : ∀ k, k < w.heap.size → k ≠ gt → w6.heap[k]? = w.heap[k]? := fun k hk hne => by
          rw [← hwt]
          exact (Below.heap_setCell _ ⟨gt, 29, none⟩ _ k hne).trans (HKPn.out k hk hne)
        clear hwt hf hft
        go_wp2_with (first | fail)
        go_ret
        have hpl : plainT apS t ⟨6, k1, k2, k3, k4⟩ = { t with c := cc + 1, ends := [] } := by rw [HCE.out]; rfl
        rw [hpl]
        exact StepPost.ok (at' := at_ + 1) (t' := { t with c := cc + 1, ends := [] }) (vE' := .slice none 0 0) (by first | exact congrArg (fun x => Ending.returned (Value.int .i64 x)) hwa | rfl) (HRn.sub (List.sublist_cons_self _ _)) (fun k hk h1 h2 => hkp k hk h2) (fun k hk => Or.inl hk) (fun k hk => by simp [Value.ownBlock] at hk)
  · obtain ⟨a, rfl⟩ : ∃ a : Nat, k1 = (a : Int) := ⟨k1.toNat, by omega⟩
    obtain ⟨b, rfl⟩ : ∃ b : Nat, k2 = (b : Int) := ⟨k2.toNat, by omega⟩
    have ha : a < 16 := by omega
    have ha2 : (a : Int) < 16 := by omega
    have HA := Aside0.mk ha
    have hra := taskC_reg (ev := vE) HLL.out a ha
    have hb : b < 8 := by omega
    have hb2 : (b : Int) < 8 := by omega
    have hrb := taskC_slot (ev := vE) HLL.out b hb
    clear hA hB hC hS hc he hm hat
    go_enter Tryd.func44, Tryd.ntmps44
    go_wp2_with (first | ((with_reducible refine gate_dst (N := 7) rfl ?_); (try (refine gate_guard (by rfl) ?_; dsimp only)); refine box_RB (by repeat (first | exact HR.out | refine RB.drew ?_ | refine RB.drewN ?_ _)) ?hg (N := 7) ?hd (cs := #[.int .i64 7, .int .i64 (a : Int), .int .i64 (b : Int), .int .i64 k3, .int .i64 k4]) (t := 36) ?hr ?_; (case hd => rfl); (case hg => rfl); (case hr => first | (go_simp; done) | (go_simp; rfl)); intro g7 wb22 HLn HKb HGb; have HKW := Aside0.mk HKb.out; clear HR; have HR := HLn; clear HLn HKb HGb; (try clear hf); have hf := HR.out.L.facts; simp only [factsOf, runC, List.cons_append, List.nil_append] at hf; skip))
    go_region
    generalize hwt : World.drew _ = w5
    have HRn : RB w0 w5 gr [(g7, #[.int .i64 7, .int .i64 (a : Int), .int .i64 (b : Int), .int .i64 k3, .int .i64 k4], 36), (gt, taskC { t with regs := t.regs.set a (t.slots.getD b 0) } vE, 78)] A n c rs vN vE t.ends := by
      rw [← hwt]
      have h1 := HR.out.setB 1 rfl (3 + a) (.int .i64 (t.slots.getD b 0))
      rw [taskC_setReg HLL.out a HA.out] at h1
      exact h1.drew
    have hkp : ∀ k, k < w.heap.size → k ≠ gt → w5.heap[k]? = w.heap[k]? := fun k hk hne => by
      rw [← hwt]
      exact (Below.heap_setCell _ ⟨gt, 3 + a, none⟩ _ k hne).trans (HKW.out.block k hk)
    clear hwt hf hft
    go_wp2_with (first | fail)
    go_ret
    exact StepPost.ok (at' := at_ + 1) (t' := { t with regs := t.regs.set a (t.slots.getD b 0) }) (congrArg (fun x => Ending.returned (Value.int .i64 x)) hwa) (HRn.sub (List.sublist_cons_self _ _)) (fun k hk h1 h2 => hkp k hk h2) (fun k hk => Or.inl hk) (fun k hk => Or.inl hk)
  · obtain ⟨a, rfl⟩ : ∃ a : Nat, k1 = (a : Int) := ⟨k1.toNat, by omega⟩
    have ha : a < 16 := by omega
    have ha2 : (a : Int) < 16 := by omega
    have HA := Aside0.mk ha
    have hra := taskC_reg (ev := vE) HLL.out a ha
    clear hA hB hC hS hc he hm hat
    go_enter Tryd.func44, Tryd.ntmps44
    go_wp2_with (first | ((with_reducible refine gate_dst (N := 7) rfl ?_); (try (refine gate_guard (by rfl) ?_; dsimp only)); refine box_RB (by repeat (first | exact HR.out | refine RB.drew ?_ | refine RB.drewN ?_ _)) ?hg (N := 7) ?hd (cs := #[.int .i64 8, .int .i64 (a : Int), .int .i64 k2, .int .i64 k3, .int .i64 k4]) (t := 36) ?hr ?_; (case hd => rfl); (case hg => rfl); (case hr => first | (go_simp; done) | (go_simp; rfl)); intro g7 wb25 HLn HKb HGb; have HKW := Aside0.mk HKb.out; clear HR; have HR := HLn; clear HLn HKb HGb; (try clear hf); have hf := HR.out.L.facts; simp only [factsOf, runC, List.cons_append, List.nil_append] at hf; skip))
    go_region
    generalize hwt : World.drew _ = w5
    have HRn : RB w0 w5 gr [(g7, #[.int .i64 8, .int .i64 (a : Int), .int .i64 k2, .int .i64 k3, .int .i64 k4], 36), (gt, taskC { t with regs := t.regs.set a (t.ped) } vE, 78)] A n c rs vN vE t.ends := by
      rw [← hwt]
      have h1 := HR.out.setB 1 rfl (3 + a) (.int .i64 (t.ped))
      rw [taskC_setReg HLL.out a HA.out] at h1
      exact h1.drew
    have hkp : ∀ k, k < w.heap.size → k ≠ gt → w5.heap[k]? = w.heap[k]? := fun k hk hne => by
      rw [← hwt]
      exact (Below.heap_setCell _ ⟨gt, 3 + a, none⟩ _ k hne).trans (HKW.out.block k hk)
    clear hwt hf hft
    go_wp2_with (first | fail)
    go_ret
    exact StepPost.ok (at' := at_ + 1) (t' := { t with regs := t.regs.set a (t.ped) }) (congrArg (fun x => Ending.returned (Value.int .i64 x)) hwa) (HRn.sub (List.sublist_cons_self _ _)) (fun k hk h1 h2 => hkp k hk h2) (fun k hk => Or.inl hk) (fun k hk => Or.inl hk)
end Go.Proofs.YtcioegimmjppcaaDoor.P
/-! serial's spawn (machine side): a child is made, and runs. -/
namespace Go.Proofs.YtcioegimmjppcaaDoor.P
open Go.RowKit Go.Proofs.YtcioegimmjppcaaDoorW.PrintWords Go.Proofs.YtcioegimmjppcaaDoorW.PrintLast Go.Proofs.YtcioegimmjppcaaDoorW.PrintMore
set_option linter.unusedVariables false
set_option linter.unusedSimpArgs false
set_option maxHeartbeats 1000000
set_option maxRecDepth 100000

theorem ped_calls (a b : Int) (w : World) : Calls Tryd.prog 35 #[.int .i64 a, .int .i64 b] w fun e w' => e = .returned (.int .i64 (pdS a b)) ∧ Below w.heap.size w w' := by
  go_enter Tryd.func35, Tryd.ntmps35
  go_wp2
  go_ret
  exact ⟨rfl, Below.refl _ _⟩

/-- what a call of play comes to, for all runs with less than m to be spent -/
def PLAY (L : List S39) (m : Nat) : Prop :=
  ∀ (w0 w : World) (ad : Addr) (c gr gt : Nat) (rs : RS) (t : TS) (vN : Value) (parent index : Int), Kd.C k39 w0 (some ad) L.length L → L.length ≤ c → Valid (L.map fnS) →
    RB w0 w gr [(gt, taskC t (.slice none 0 0), 78)] (some ad) L.length c rs vN (.slice none 0 0) [] → At (L.map fnS) t 0 → t.ends = [] → t.work = 0 → t.c = 0 → t.kids = 0 → 1 ≤ t.depth ∧ t.depth ≤ 4096 → Bnd rs → rs.nodes.length + rs.left ≤ 4194304 → rs.tasks + (rs.left : Int) ≤ 4194304 → rs.left < m →
    Calls Tryd.prog 38 #[.pointer (some ⟨gr, 0, none⟩), .pointer (some ⟨gt, 0, none⟩), .int .i64 parent, .int .i64 index] w
      (PlayPost w0 w gr gt (some ad) L.length c vN (loop pdS apS (L.map fnS) m (enter (L.map fnS) rs t parent index) t 0 rs.nodes.length))

def SpPost (w0 w : World) (gr gt : Nat) (A : Option Addr) (n c : Nat) (vN vE : Value) (r : (RS × TS × Int) ⊕ Int) (e : Ending) (w' : World) : Prop :=
  match r with
  | .inr why => e = .panicked (stopV why) ∧ Below w0.heap.size w0 w'
  | .inl (rs', t', at') => e = .returned (.tuple #[]) ∧ ∃ vN' vE', RB w0 w' gr [(gt, taskC t' vE', 78)] A n c rs' vN' vE' t'.ends ∧
      (∀ k, k < w.heap.size → k ≠ gr → k ≠ gt → vN.ownBlock ≠ some k → vE.ownBlock ≠ some k → w'.heap[k]? = w.heap[k]?) ∧
      (∀ k, vN'.ownBlock = some k → vN.ownBlock = some k ∨ w.heap.size ≤ k) ∧ (∀ k, vE'.ownBlock = some k → vE.ownBlock = some k ∨ w.heap.size ≤ k) ∧ w.heap.size ≤ w'.heap.size

theorem spawn_state {w0 W : World} {gr g6 gt : Nat} {A : Option Addr} {n c : Nat} {rs : RS} {t : TS} {vN vE : Value} {ends : List Int} {cs : Array Value} {bs : List (Nat × Array Value × TypeId)} (h : RB w0 W gr ((g6, cs, 36) :: (gt, taskC t vE, 78) :: bs) A n c rs vN vE ends) :
    (∀ j, W.cell? ⟨g6, j, none⟩ = cs[j]?) ∧ (∀ j, W.cell? ⟨gt, j, none⟩ = (taskC t vE)[j]?) := ⟨fun j => blk_cell (h.L.at 1 rfl) j, fun j => blk_cell (h.L.at 2 rfl) j⟩

theorem kid_state {w0 W : World} {gr gk g6 gt : Nat} {A : Option Addr} {n c : Nat} {rs : RS} {t : TS} {vN vE : Value} {ends : List Int} {cs ck : Array Value} {bs : List (Nat × Array Value × TypeId)} (h : RB w0 W gr ((gk, ck, 78) :: (g6, cs, 36) :: (gt, taskC t vE, 78) :: bs) A n c rs vN vE ends) :
    (∀ j, W.cell? ⟨g6, j, none⟩ = cs[j]?) ∧ (∀ j, W.cell? ⟨gt, j, none⟩ = (taskC t vE)[j]?) := ⟨fun j => blk_cell (h.L.at 2 rfl) j, fun j => blk_cell (h.L.at 3 rfl) j⟩

theorem sliceA (g n : Nat) (h : n ≤ 16) (W : World) : (Instr.sliceAt 75 (.pointer (some ⟨g, 3, none⟩)) none (some (.int .i64 (n : Int))) none).run Tryd.prog W = .ok (.slice (some ⟨g, 3, none⟩) n 16) W := by
  have hu75 : Tryd.prog.underlying 75 = some (.array (Tryd.prog.arrayLen 75) (Tryd.prog.elem 75)) := by kernel_rfl
  have hl : Tryd.prog.arrayLen 75 = 16 := by kernel_rfl
  have he : Tryd.prog.elem 75 = 2 := by kernel_rfl
  rw [run_sliceAt_array_h W 75 ⟨g, 3, none⟩ hu75 .i64 (n : Int) (by omega) (by rw [hl]; omega), hl, he]
  obtain ⟨i0, hi, hzz⟩ := Option.map_eq_some_iff.1 info2
  simp only [Prod.mk.injEq] at hzz
  simp [sizeOf, typeInfo, hi, hzz.2.1, slicedAt, Result.andThen, Addr.add]

theorem sliceB (g : Nat) (q : Int) (n : Nat) (h0 : 0 ≤ q) (h : q + (n : Int) ≤ 16) (hn : 0 < n) (W : World) : (Instr.sliceAt 75 (.pointer (some ⟨g, 3, none⟩)) (some (.int .i64 q)) (some (.int .i64 (q + (n : Int)))) none).run Tryd.prog W = .ok (.slice (some ⟨g, 3 + q.toNat, none⟩) n (16 - q.toNat)) W := by
  have hu75 : Tryd.prog.underlying 75 = some (.array (Tryd.prog.arrayLen 75) (Tryd.prog.elem 75)) := by kernel_rfl
  have hl : Tryd.prog.arrayLen 75 = 16 := by kernel_rfl
  have he : Tryd.prog.elem 75 = 2 := by kernel_rfl
  rw [run_sliceAt_array_lh W 75 ⟨g, 3, none⟩ hu75 .i64 .i64 q (q + (n : Int)) h0 (by omega) (by rw [hl]; omega), hl, he]
  obtain ⟨i0, hi, hzz⟩ := Option.map_eq_some_iff.1 info2
  simp only [Prod.mk.injEq] at hzz
  have e1 : (q + (n : Int)).toNat - q.toNat = n := by omega
  have e2 : ¬ 16 = q.toNat := by omega
  simp [sizeOf, typeInfo, hi, hzz.2.1, slicedAt, Result.andThen, e1, e2, Addr.add]

theorem copyB (ty : TypeId) (g g2 o n c1 c2 : Nat) (cs : List Value) (hl : cs.length = n) (W : World) (hsrc : ∀ j v, cs[j]? = some v → W.cell? ⟨g2, o + j, none⟩ = some v) (hc : ∀ j, j < cs.length → (W.cell? ⟨g, 3 + j, none⟩).isSome = true) (hf : ∀ j, j < cs.length → W.frozen? ⟨g, 3 + j, none⟩ = false) (h1 : ∀ v ∈ cs, v.oneCell' = true) :
    (Builtin.copy_ #[25, 25] ty #[.slice (some ⟨g, 3, none⟩) n c1, .slice (some ⟨g2, o, none⟩) n c2]).run Tryd.prog W = .ok (goInt n) (W.setCells g 3 cs) := by
  have hi : (Tryd.prog.info? 2).map (·.size) = some 1 := by kernel_rfl
  have h := run_copy_cells (P := Tryd.prog) W 25 25 ty 2 g 3 n c1 ⟨g2, o, none⟩ n c2 cs Tryd.underlying25 hi (by rw [hl]; exact (Nat.min_self n).symm) (fun j v hj => by rw [Addr.add_lit]; exact hsrc j v hj) hc hf h1
  rw [hl] at h
  exact h

theorem R_tidy {W : World} {b : Nat} {ok : Nat → Prop} {v : Value} {xs : List Int} (h : Kd.R (Kd.int .i64) 3 W b ok v xs) : Kd.R (Kd.int .i64) 3 W b (fun k => some k = v.ownBlock) v xs := ⟨fun k hk => hk.symm, h.2⟩

theorem World.size_setCell (W : World) (p : Addr) (v : Value) : (W.setCell p v).heap.size = W.heap.size := by simp [World.setCell]

theorem app_run {w0 W : World} (base : Nat) (t ty e : TypeId) (z : Value) (size bytes : Nat) (ht : Tryd.prog.underlying t = some (.slice e)) (hinfo : (Tryd.prog.info? e).map (fun i => (i.zero, i.size, i.bytes)) = some (some z, size, bytes)) (hz : z.cells.size = size) (hs0 : 0 < size) (hb0 : 0 < bytes)
    (v : Value) (n : Nat) (xs ys : List Value) (hys : ys.length = size) (h1 : ∀ u ∈ ys, u.oneCell' = true) (HO : W.ownsRow base e size v n xs) (HB : Below base w0 W) (hbase : base ≤ W.heap.size) (hl : (n + 1) * bytes ≤ 140737488355328) :
    ∃ v1 w1, (Builtin.append_ #[t, t] ty #[v, .slice (some ⟨W.heap.size, 0, none⟩) 1 1]).run Tryd.prog (W.alloc (.cells ys.toArray e)) = .ok v1 w1 ∧ w1.ownsRow base e size v1 (n + 1) (xs ++ ys) ∧ Below base w0 w1 ∧ W.grownBy w1 v.ownBlock ∧ (v1.ownBlock = v.ownBlock ∨ ∃ b, v1.ownBlock = some b ∧ W.heap.size ≤ b) := by
  obtain ⟨i0, hi, hzz⟩ := Option.map_eq_some_iff.1 hinfo
  simp only [Prod.mk.injEq] at hzz
  obtain ⟨hz0, hz1, hz2⟩ := hzz
  have hlen : n + 1 ≤ 140737488355328 := Nat.le_trans (Nat.le_mul_of_pos_right _ hb0) hl
  obtain ⟨v1, w1, hr, hown, hg, -, hat⟩ := run_append_own_at (P := Tryd.prog) (W.alloc (.cells ys.toArray e)) base t ty e i0 z size bytes ht hi hz0 hz1 hz2 hz hs0 v n xs (HO.alloc _) ⟨W.heap.size, 0, none⟩ 1 1 ys (by rw [hys]; simp)
    (by simpa using World.news_of_block (cs := ys.toArray) (t := e) (fr := (0, 0)) (heap_alloc_new W (.cells ys.toArray e))) h1 (by simp only [maxLen]; omega) hl (by simp; omega)
  refine ⟨v1, w1, hr, hown, (HB.alloc hbase _).grown hg (by simp; omega) (own_base HO), World.grownBy.trans (World.grownBy_alloc W _ _) hg, ?_⟩
  rcases hat with hat | hat
  · exact .inl hat
  · exact .inr ⟨_, hat, by simp⟩

section
variable {ops : Array Oper} {o : Oper} {a : Act} {Q : Exit → Act → World → Prop} {Kc : Act → World → Prop}
theorem ends_append {E : Prop} {w0 W : World} {gr : Nat} {bs : List (Nat × Array Value × TypeId)} {A : Option Addr} {n c : Nat} {rs : RS} {vN vE : Value} {ends : List Int} (hgd : o.guard = none) (s x : Operand)
    (ho : o.op = .call { callee := .builtin .append, args := #[s, x], argTypes := #[52, 52] }) (HB : RB w0 W gr bs A n c rs vN vE ends) (hs : a.eval s = vE) (y : Int) (hx : a.eval x = .slice (some ⟨W.heap.size, 0, none⟩) 1 1) (hl : ends.length ≤ 8388608)
    (h : ∀ v1 w1, Aside0 (RB w0 w1 gr bs A n c rs vN v1 (ends ++ [y])) → Aside0 (∀ k, k < W.heap.size → vE.ownBlock ≠ some k → w1.heap[k]? = W.heap[k]?) → Aside0 (v1.ownBlock = vE.ownBlock ∨ ∃ b, v1.ownBlock = some b ∧ W.heap.size ≤ b) → Aside0 (W.heap.size ≤ w1.heap.size) → Kc (a.put o.dst v1) w1) :
    if Region.wanted o (yielded ops a.tmps) = true then Oper.wp Tryd.prog o a (W.alloc (.cells #[Value.int .i64 y] 3)) Kc Q else E := by
  have hw : Region.wanted o (yielded ops a.tmps) = true := by simp [Region.wanted, hgd]
  have h1 := Kd.R_append_step (P := Tryd.prog) (ops := ops) (o := o) (a := a) (Q := Q) (Kc := Kc) (Kd.int .i64) (w0 := w0) w0.heap.size hw s x 52 3 (.int .i64 0) 8 ho Tryd.underlying52 info3 rfl (by decide) (by omega) vE ends y [.int .i64 y] (fun _ => True) (fun _ => False) hs hx rfl (fun _ hk => hk.elim) (fun _ _ => trivial)
    (Kd.R_mono HB.E (fun _ _ => trivial)) HB.L.below HB.L.below.size (by omega) (by
      intro v1 w1 hR hb hg hat
      exact h v1 w1 ⟨HB.grewE hb hg (R_tidy hR) hat⟩ ⟨fun k hk hne => hg.block k hk (fun e => hne e.symm)⟩ ⟨hat⟩ ⟨hg.size⟩)
  rw [if_pos hw] at h1 ⊢
  exact h1
end

theorem spawn_calls {L : List S39} {m : Nat} (HPLAY : PLAY L m) {w0 w : World} {ad : Addr} {c gr gt : Nat} {rs : RS} {t : TS} {vN vE : Value} (hC : Kd.C k39 w0 (some ad) L.length L) (hcL : L.length ≤ c) (hV : Valid (L.map fnS))
    (h : RB w0 w gr [(gt, taskC t vE, 78)] (some ad) L.length c rs vN vE t.ends) (hl : TLen t) (b f : Nat) (k3 k4 at_ : Int) (self : Nat) (hb : b < 8) (hfl : f < L.length)
    (hn : (rd_T39 L (f : Int)).f0 = 0 ∨ (0 ≤ k3 ∧ k3 + (rd_T39 L (f : Int)).f0 ≤ 16)) (hn2 : 0 ≤ (rd_T39 L (f : Int)).f0 ∧ (rd_T39 L (f : Int)).f0 ≤ 8)
    (hkid : At (L.map fnS) (kidOf pdS (L.map fnS) t ⟨5, (b : Int), (f : Int), k3, k4⟩) 0) (hB : Bnd rs) (hB2 : rs.nodes.length + rs.left ≤ 4194304 ∧ rs.tasks + (rs.left : Int) ≤ 4194304) (hU : ∃ U, Cnt rs t U) (hm : rs.left < m) :
    Calls Tryd.prog 52 #[.pointer (some ⟨gr, 0, none⟩), .pointer (some ⟨gt, 0, none⟩), .agg #[.int .i64 5, .int .i64 (b : Int), .int .i64 (f : Int), .int .i64 k3, .int .i64 k4], .int .i64 (self : Int)] w
      (SpPost w0 w gr gt (some ad) L.length c vN vE (stepR (L.map fnS) m rs t ⟨5, (b : Int), (f : Int), k3, k4⟩ at_ self)) := by
  obtain ⟨U, hU⟩ := hU
  have HR := Aside0.mk h
  have HU := Aside0.mk hU
  have HLL := Aside0.mk hl
  have HC := Aside0.mk hC
  have HB := Aside0.mk (And.intro hB hB2)
  have HV := Aside0.mk hV
  have HKID := Aside0.mk hkid
  have HN := Aside0.mk (And.intro hn hn2)
  have HPL := Aside0.mk HPLAY
  have hu36 := Tryd.underlying36
  have hu78 := Tryd.underlying78
  have hft := taskC_facts (ev := vE) hl
  clear h hl hC hV hkid hB hB2 hU hn hn2 HPLAY
  by_cases hd : t.depth = 4096
  · have hdb : (t.depth == 4096) = true := beq_iff_eq.mpr hd
    have HS : Aside0 (stepR (L.map fnS) m rs t ⟨5, (b : Int), (f : Int), k3, k4⟩ at_ self = .inr 63) := ⟨by unfold stepR; rw [if_pos rfl, if_pos hd]⟩
    rw [HS.out]
    clear hd
    go_enter Tryd.func52, Tryd.ntmps52
    go_wp2_with (first | ((with_reducible refine gate_dst (N := 6) rfl ?_); (try (refine gate_guard (by rfl) ?_; dsimp only)); refine box_RB (by repeat (first | exact HR.out | refine RB.drew ?_ | refine RB.drewN ?_ _)) ?hg (N := 6) ?hd (cs := #[.int .i64 5, .int .i64 (b : Int), .int .i64 (f : Int), .int .i64 k3, .int .i64 k4]) (t := 36) ?hr ?_; (case hd => rfl); (case hg => rfl); (case hr => first | (go_simp; done) | (go_simp; rfl)); intro g6 wb1 HLn HKb HGb; clear HR; have HR := HLn; clear HLn HKb HGb; (try clear hf); have hf := HR.out.L.facts; simp only [factsOf, runC, List.cons_append, List.nil_append] at hf; skip))
    exact ⟨rfl, rfl, HR.out.L.below⟩
  have hdb : (t.depth == 4096) = false := beq_eq_false_iff_ne.mpr hd
  have HD := Aside0.mk hd
  clear hd
  go_enter Tryd.func52, Tryd.ntmps52
  go_wp2_with (first | ((with_reducible refine gate_dst (N := 6) rfl ?_); (try (refine gate_guard (by rfl) ?_; dsimp only)); refine box_RB (by repeat (first | exact HR.out | refine RB.drew ?_ | refine RB.drewN ?_ _)) ?hg (N := 6) ?hd (cs := #[.int .i64 5, .int .i64 (b : Int), .int .i64 (f : Int), .int .i64 k3, .int .i64 k4]) (t := 36) ?hr ?_; (case hd => rfl); (case hg => rfl); (case hr => first | (go_simp; done) | (go_simp; rfl)); intro g6 wb2 HLn HKb HGb; have HKW := Aside0.mk HKb.out; clear HR; have HR := HLn; clear HLn HKb HGb; (try clear hf); have hf := HR.out.L.facts; simp only [factsOf, runC, List.cons_append, List.nil_append] at hf; skip))
  have hw1 : wrap64 (t.depth + 1) = t.depth + 1 := by have := HU.out.depth; unfold wrap64; omega
  go_region_held3 (fun W' => (∀ j, W'.cell? ⟨g6, j, none⟩ = #[Value.int .i64 5, .int .i64 (b : Int), .int .i64 (f : Int), .int .i64 k3, .int .i64 k4][j]?) ∧ (∀ j, W'.cell? ⟨gt, j, none⟩ = (taskC t vE)[j]?)) (first | exact spawn_state HR.out.drew | exact spawn_state HR.out | exact spawn_state (HR.out.step (below_alloc (Below.refl _ _) _)) | exact spawn_state HR.out.drew) (first | (go_at_call 35; refine (ped_calls t.ped t.kids _).mono ?_; rintro e_ wq ⟨rfl, hb_⟩; have HKN := Aside0.mk (below_step (below_drew1 (Below.refl _ _)) hb_); have HLn := Aside0.mk (RB.step HR.out.drew hb_); clear HR hb_ hf; have HR := HLn; clear HLn))
  rw [show IntKind.i64.wrap (t.depth + 1) = t.depth + 1 from (i64_w _).trans hw1]
  generalize hwk : World.alloc _ _ = wk
  obtain ⟨kid0, hkid0⟩ : ∃ kid0 : TS, kid0 = { f := (f : Int), depth := t.depth + 1, ped := pdS t.ped t.kids, regs := List.replicate 16 0, slots := List.replicate 8 0, kids := 0, work := 0, c := 0, ends := [] } := ⟨_, rfl⟩
  have HRn : RB w0 wk gr ((wq.heap.size, taskC kid0 (.slice none 0 0), 78) :: [(g6, #[.int .i64 5, .int .i64 (b : Int), .int .i64 (f : Int), .int .i64 k3, .int .i64 k4], 36), (gt, taskC t vE, 78)]) (some ad) L.length c rs vN vE t.ends := by
    rw [← hwk, hkid0]
    exact HR.out.alloc _ 78
  have hgk : w.heap.size ≤ wq.heap.size := Nat.le_trans HKW.out.size HKN.out.size
  have HKWn := Aside0.mk (show ∀ k, k < w.heap.size → wk.heap[k]? = w.heap[k]? from fun k hk => by
    rw [← hwk]
    exact (Below.heap_alloc wq _ k (Nat.lt_of_lt_of_le hk hgk)).trans ((HKN.out.block k (Nat.lt_of_lt_of_le hk HKW.out.size)).trans (HKW.out.block k hk)))
  have HLK : Aside0 (TLen kid0) := ⟨by rw [hkid0]; exact ⟨rfl, rfl⟩⟩
  have HKID0 := Aside0.mk hkid0
  clear HR hwk HKW HKN hkid0
  have HR := Aside0.mk HRn
  clear HRn
  generalize wq.heap.size = gk at HR hgk ⊢
  have HGK := Aside0.mk hgk
  clear hgk
  obtain ⟨ad2, A3, c3, e0, -, -, hx3⟩ := fun_cells HC.out f hfl
  cases e0
  obtain ⟨pn, hpn⟩ : ∃ pn : Nat, (rd_T39 L (f : Int)).f0 = (pn : Int) := ⟨(rd_T39 L (f : Int)).f0.toNat, by have := HN.out.2; omega⟩
  have HPN := Aside0.mk hpn
  rw [hpn] at hx3
  have HX := Aside0.mk hx3
  have hx := (HX.out _ HR.out.L.below).1
  have hf2 : (f : Int) < (L.length : Int) := by omega
  have hftk := taskC_facts (ev := .slice none 0 0) HLK.out
  clear hpn hx3
  (try clear hf); have hf := HR.out.L.facts; simp only [factsOf, runC, List.cons_append, List.nil_append] at hf; skip
  go_wp2_with (first | fail)
  go_quiet (fail)
  generalize hwk : World.drewN _ _ = w5
  have HRn : RB w0 w5 gr ((gk, taskC kid0 (.slice none 0 0), 78) :: [(g6, #[.int .i64 5, .int .i64 (b : Int), .int .i64 (f : Int), .int .i64 k3, .int .i64 k4], 36), (gt, taskC t vE, 78)]) (some ad) L.length c rs vN vE t.ends := by
    rw [← hwk]
    exact HR.out.drewN _
  have HKWm := Aside0.mk (show ∀ k, k < w.heap.size → w5.heap[k]? = w.heap[k]? from fun k hk => by
    rw [← hwk]
    exact HKWn.out k hk)
  clear HR hwk hx hf HKWn
  have HR := Aside0.mk HRn
  have HKW := HKWm
  clear HRn HKWm
  (try clear hf); have hf := HR.out.L.facts; simp only [factsOf, runC, List.cons_append, List.nil_append] at hf; skip
  obtain ⟨kid, hkid⟩ : ∃ kid : TS, kidOf pdS (L.map fnS) t ⟨5, (b : Int), (f : Int), k3, k4⟩ = kid := ⟨_, rfl⟩
  have HKK := Aside0.mk hkid
  clear hkid
  by_cases hp0 : 0 < pn
  case' pos =>
    have hpb : decide (0 < (pn : Int)) = true := decide_eq_true (by omega)
    have hq := HN.out.1.resolve_left (by rw [HPN.out]; omega)
    rw [HPN.out] at hq
    obtain ⟨xs, hxs⟩ : ∃ xs, (t.regs.drop k3.toNat).take pn = xs := ⟨_, rfl⟩
    have hxl : xs.length = pn := by rw [← hxs, List.length_take, List.length_drop, HLL.out.r]; omega
    have HXS := Aside0.mk hxs
    have HXL := Aside0.mk hxl
    have hsa := sliceA gk pn (by omega)
    have hsb := sliceB gt k3 pn hq.1 hq.2 hp0
    have hsrc : ∀ (j : Nat) (v : Value), (ints xs)[j]? = some v → w5.drew.cell? ⟨gt, 3 + k3.toNat + j, none⟩ = some v := fun j v hj => by
      have hjl : j < pn := by have := (List.getElem?_eq_some_iff.1 hj).1; rw [ints_len, hxl] at this; exact this
      have h1 := (blk_cell (HR.out.L.at 3 rfl) (3 + (k3.toNat + j))).trans (taskC_reg HLL.out (k3.toNat + j) (by omega))
      rw [ints_get _ _ (by rw [hxl]; exact hjl)] at hj
      rw [← hj, show 3 + k3.toNat + j = 3 + (k3.toNat + j) by omega, show w5.drew.cell? ⟨gt, 3 + (k3.toNat + j), none⟩ = w5.cell? ⟨gt, 3 + (k3.toNat + j), none⟩ from rfl, h1, ← hxs]
      congr 2
      rw [List.getD_eq_getElem?_getD, List.getD_eq_getElem?_getD, List.getElem?_take, if_pos hjl, List.getElem?_drop]
    have hdst : ∀ j, j < (ints xs).length → (w5.drew.cell? ⟨gk, 3 + j, none⟩).isSome = true := fun j hj => by
      have hjl : j < pn := by rw [ints_len, hxl] at hj; exact hj
      have h1 := (blk_cell (HR.out.L.at 1 rfl) (3 + j)).trans (taskC_reg HLK.out j (by omega))
      rw [show w5.drew.cell? ⟨gk, 3 + j, none⟩ = w5.cell? ⟨gk, 3 + j, none⟩ from rfl, h1]
      rfl
    have hfz : ∀ j, j < (ints xs).length → w5.drew.frozen? ⟨gk, 3 + j, none⟩ = false := fun j hj => blk_frozen (HR.out.L.at 1 rfl : w5.drew.heap[gk]? = _) _
    have hone : ∀ v ∈ ints xs, v.oneCell' = true := fun v hv => by
      unfold ints at hv
      obtain ⟨x, -, rfl⟩ := List.mem_map.1 hv
      rfl
    have hcp := fun ty => copyB ty gk gt (3 + k3.toNat) pn 16 (16 - k3.toNat) (ints xs) (by rw [ints_len, hxl]) w5.drew hsrc hdst hfz hone
    clear hsrc hdst hfz hone
    have hwA : IntKind.i64.wrap (k3 + (pn : Int)) = k3 + (pn : Int) := (i64_w _).trans (by unfold wrap64; omega)
    have hwB : wrap64 (k3 + (pn : Int)) = k3 + (pn : Int) := by unfold wrap64; omega
    clear hq hxs hxl
    go_wp2_with (first | fail)
    go_region_held3 (fun W' => (∀ j, W'.cell? ⟨g6, j, none⟩ = #[Value.int .i64 5, .int .i64 (b : Int), .int .i64 (f : Int), .int .i64 k3, .int .i64 k4][j]?) ∧ (∀ j, W'.cell? ⟨gt, j, none⟩ = (taskC t vE)[j]?)) (first | exact kid_state HR.out.drew | exact kid_state (RB.setMany (ints xs) _ _ _ 3 HR.out.drew)) (fail)
    generalize hwk : World.setCells _ _ _ _ = w6
    have HRn : Aside0 (RB w0 w6 gr ((gk, taskC kid (.slice none 0 0), 78) :: [(g6, #[.int .i64 5, .int .i64 (b : Int), .int .i64 (f : Int), .int .i64 k3, .int .i64 k4], 36), (gt, taskC t vE, 78)]) (some ad) L.length c rs vN vE t.ends) := ⟨by
      rw [← hwk]
      have h1 := RB.setMany (ints xs) _ _ _ (3 + 0) HR.out.drew
      have e1 := setMany_regs xs kid0 (.slice none 0 0) 0 HLK.out (by have := HXL.out; have := HPN.out; have := HN.out.2; omega)
      have e2 : ({ kid0 with regs := overL kid0.regs 0 xs } : TS) = kid := by
        have e3 : kid0.regs = List.replicate 16 0 := by rw [HKID0.out]
        rw [e3, overL_fill xs (by have := HXL.out; have := HPN.out; have := HN.out.2; omega), ← HKK.out, HKID0.out, ← HXS.out]
        show _ = TS.mk _ _ _ (fill 16 ((t.regs.drop k3.toNat).take (fnOf (L.map fnS) (f : Int)).params.toNat)) _ _ _ _ _
        rw [fnOf_map L (f : Int) (by omega) (by omega), show (fnS (rd_T39 L (f : Int))).params = (rd_T39 L (f : Int)).f0 from rfl, HPN.out, Int.toNat_natCast]
      rw [e1, e2] at h1
      exact h1⟩
    have HKWm := Aside0.mk (show ∀ k, k < w.heap.size → w6.heap[k]? = w.heap[k]? from fun k hk => by
      rw [← hwk]
      exact (setCells_block gk _ _ _ _ (by have := HGK.out; omega)).trans (HKW.out k hk))
    clear hwk HR HKW hsa hsb hcp hwA hwB hf hp0 hpb
  case' neg =>
    have hpb : decide (0 < (pn : Int)) = false := decide_eq_false (by omega)
    generalize hwk : w5 = w6 at *
    have HRn : Aside0 (RB w0 w6 gr ((gk, taskC kid (.slice none 0 0), 78) :: [(g6, #[.int .i64 5, .int .i64 (b : Int), .int .i64 (f : Int), .int .i64 k3, .int .i64 k4], 36), (gt, taskC t vE, 78)]) (some ad) L.length c rs vN vE t.ends) := ⟨by
      have e2 : kid0 = kid := by
        rw [← HKK.out, HKID0.out]
        show _ = TS.mk _ _ _ (fill 16 ((t.regs.drop k3.toNat).take (fnOf (L.map fnS) (f : Int)).params.toNat)) _ _ _ _ _
        rw [fnOf_map L (f : Int) (by omega) (by omega), show (fnS (rd_T39 L (f : Int))).params = (rd_T39 L (f : Int)).f0 from rfl, HPN.out, Int.toNat_natCast, show pn = 0 by omega]
        rfl
      rw [← e2]
      exact HR.out⟩
    have HKWm := HKW
    clear hwk HR HKW hf
  all_goals
    have HR := HRn
    have HKW := HKWm
    clear HRn HKWm
    (try clear hf); have hf := HR.out.L.facts; simp only [factsOf, runC, List.cons_append, List.nil_append] at hf; skip
    have hwk1 : wrap64 (t.kids + 1) = t.kids + 1 := by have := HU.out.kids; have := HU.out.u; unfold wrap64; omega
    have hwk2 : wrap64 (t.kids + 1 - 1) = t.kids := by have := HU.out.kids; have := HU.out.u; unfold wrap64; omega
    have hwk3 : wrap64 t.kids = t.kids := by have := HU.out.kids; have := HU.out.u; unfold wrap64; omega
    go_upto_region 8 with (first | fail)
    generalize hwk : World.setCell _ _ _ = w7
    have HL1 : Aside0 (TLen { t with kids := t.kids + 1 }) := ⟨⟨HLL.out.r, HLL.out.s⟩⟩
    have HRn : Aside0 (RB w0 w7 gr ((gk, taskC kid (.slice none 0 0), 78) :: [(g6, #[.int .i64 5, .int .i64 (b : Int), .int .i64 (f : Int), .int .i64 k3, .int .i64 k4], 36), (gt, taskC { t with kids := t.kids + 1 } vE, 78)]) (some ad) L.length c rs vN vE t.ends) := ⟨by
      rw [← hwk]
      have h1 := HR.out.setB 2 rfl 27 (.int .i64 (t.kids + 1))
      rw [taskC_setKids HLL.out] at h1
      exact h1⟩
    have HKWm := Aside0.mk (show ∀ k, k < w.heap.size → k ≠ gt → w7.heap[k]? = w.heap[k]? from fun k hk hne => by
      rw [← hwk]
      exact (Below.heap_setCell _ ⟨gt, 27, none⟩ _ k hne).trans (HKW.out k hk))
    have hft := taskC_facts (ev := vE) HL1.out
    clear hwk HR HKW hf
    have HR := HRn
    have HKW := HKWm
    clear HRn HKWm
    (try clear hf); have hf := HR.out.L.facts; simp only [factsOf, runC, List.cons_append, List.nil_append] at hf; skip
    have HRP : Aside0 (RB w0 w7 gr [(gk, taskC kid (.slice none 0 0), 78)] (some ad) L.length c rs vN (.slice none 0 0) []) := ⟨(HR.out.sub ((List.nil_sublist _).cons_cons _)).noEnds⟩
    have HKD : Aside0 (kid.ends = [] ∧ kid.work = 0 ∧ kid.c = 0 ∧ kid.kids = 0 ∧ 1 ≤ kid.depth ∧ kid.depth ≤ 4096) := ⟨by
      rw [← HKK.out]
      refine ⟨rfl, rfl, rfl, rfl, ?_⟩
      show 1 ≤ t.depth + 1 ∧ t.depth + 1 ≤ 4096
      have := HU.out.depth
      have := HD.out
      omega⟩
    have HKA : Aside0 (At (L.map fnS) kid 0) := ⟨by rw [← HKK.out]; exact HKID.out⟩
    have HSR : Aside0 (stepR (L.map fnS) m rs t ⟨5, (b : Int), (f : Int), k3, k4⟩ at_ self = match loop pdS apS (L.map fnS) m (enter (L.map fnS) rs kid self t.kids) kid 0 rs.nodes.length with
      | .stop w => .inr w
      | .done rs2 v span => .inl (rs2, { t with kids := t.kids + 1, slots := si t.slots (b : Int) v, ends := t.ends ++ [t.c + span] }, at_ + 1)) := ⟨by
      unfold stepR
      rw [if_pos rfl, if_neg HD.out, HKK.out]
      try (generalize loop pdS apS (List.map fnS L) m (enter (List.map fnS L) rs kid self t.kids) kid 0 rs.nodes.length = x; cases x <;> rfl)⟩
    obtain ⟨lr, hlr⟩ : ∃ lr, loop pdS apS (L.map fnS) m (enter (L.map fnS) rs kid self t.kids) kid 0 rs.nodes.length = lr := ⟨_, rfl⟩
    have HLR := Aside0.mk hlr
    rw [hlr] at HSR
    clear hlr
    cases lr with
    | stop why =>
      simp only at HSR
      go_wp2_with (first | (go_at_call 38; have hcall := HPL.out w0 w7 ad c gr gk rs kid vN self t.kids HC.out hcL HV.out HRP.out HKA.out HKD.out.1 HKD.out.2.1 HKD.out.2.2.1 HKD.out.2.2.2.1 HKD.out.2.2.2.2 HB.out.1 HB.out.2.1 HB.out.2.2 hm; rw [HLR.out] at hcall; with_reducible refine hcall.mono ?_; clear hcall; rintro e_ wc hP; unfold PlayPost at hP; obtain ⟨rfl, hb_⟩ := hP))
      refine ⟨rfl, ?_⟩
      rw [HSR.out]
      exact ⟨rfl, hb_⟩
    | done rs2 v span =>
      simp only at HSR
      go_upto_region 9 with (first | (go_at_call 38; have hcall := HPL.out w0 w7 ad c gr gk rs kid vN self t.kids HC.out hcL HV.out HRP.out HKA.out HKD.out.1 HKD.out.2.1 HKD.out.2.2.1 HKD.out.2.2.2.1 HKD.out.2.2.2.2 HB.out.1 HB.out.2.1 HB.out.2.2 hm; rw [HLR.out] at hcall; with_reducible refine hcall.mono ?_; clear hcall; rintro e_ wc hP; unfold PlayPost at hP; obtain ⟨rfl, vN2, HP, hkept, hown, hsz2⟩ := hP))
      have HSP : Aside0 (0 ≤ span ∧ span ≤ (rs.left : Int)) := ⟨by
        have h1 := loop_sizes _ _ _ _ _ _ _ _ _ _ _ HLR.out
        obtain ⟨-, -, -, -, -, -, h7, h8, -⟩ := h1
        have h9 := h8 0 (by rw [HKD.out.2.2.1]; exact Int.le_refl _) (fun e he => by rw [HKD.out.1] at he; cases he)
        rw [HKD.out.2.2.1] at h7
        have e1 : (enter (L.map fnS) rs kid (self : Int) t.kids).left = rs.left := rfl
        rw [e1] at h9
        omega⟩
      have hap := HR.out.L.apart
      have hne6 : g6 ≠ gk ∧ gt ≠ gk := by
        have h1 := (List.pairwise_cons.1 (List.pairwise_cons.1 hap).2).1
        exact ⟨fun e => h1 ((g6, #[.int .i64 5, .int .i64 (b : Int), .int .i64 (f : Int), .int .i64 k3, .int .i64 k4], 36)) (by simp) e.symm, fun e => h1 (gt, taskC { t with kids := t.kids + 1 } vE, 78) (by simp) e.symm⟩
      have HRn : Aside0 (RB w0 wc gr [(g6, #[.int .i64 5, .int .i64 (b : Int), .int .i64 (f : Int), .int .i64 k3, .int .i64 k4], 36), (gt, taskC { t with kids := t.kids + 1 } vE, 78)] (some ad) L.length c rs2 vN2 vE t.ends) := ⟨by
        refine RB.after (gk := gk) (HR.out.sub (List.sublist_cons_self _ _)) HP (fun b hb => ?_) (HR.out.nE _ List.mem_cons_self) hkept hown
        rcases List.mem_cons.1 hb with rfl | hb
        · exact hne6.1
        · rcases List.mem_cons.1 hb with rfl | hb
          · exact hne6.2
          · cases hb⟩
      have hsz : w.heap.size ≤ w7.heap.size := by
        have h1 := HR.out.L.lt (gk, taskC kid (.slice none 0 0), 78) (by simp)
        have h2 := HGK.out
        exact Nat.le_trans h2 (Nat.le_of_lt h1)
      have HSZ := Aside0.mk (show w.heap.size ≤ wc.heap.size from Nat.le_trans hsz hsz2)
      have HKWm := Aside0.mk (show ∀ k, k < w.heap.size → k ≠ gr → k ≠ gt → vN.ownBlock ≠ some k → wc.heap[k]? = w.heap[k]? from fun k hk h1 h2 h3 => by
        have h4 := HGK.out
        exact (hkept k (by omega) h1 (by omega) h3).trans (HKW.out k hk h2))
      have HOWN := Aside0.mk (show ∀ k, vN2.ownBlock = some k → vN.ownBlock = some k ∨ w.heap.size ≤ k from fun k hk => (hown k hk).imp id (fun h => Nat.le_trans hsz h))
      clear hap hne6 HR HKW HP hkept hown hf HRP hsz hsz2
      have HR := HRn
      have HKW := HKWm
      clear HRn HKWm
      have hb2 : (b : Int) < 8 := by omega
      have hrb := taskC_slot (ev := vE) HL1.out b hb
      (try clear hf); have hf := HR.out.L.facts; simp only [factsOf, runC, List.cons_append, List.nil_append] at hf; skip
      go_region
      generalize hwt : World.drew _ = w8
      have HRn : Aside0 (RB w0 w8 gr [(g6, #[.int .i64 5, .int .i64 (b : Int), .int .i64 (f : Int), .int .i64 k3, .int .i64 k4], 36), (gt, taskC { t with kids := t.kids + 1, slots := t.slots.set b v } vE, 78)] (some ad) L.length c rs2 vN2 vE t.ends) := ⟨by
        rw [← hwt]
        have h1 := HR.out.setB 1 rfl (19 + b) (.int .i64 v)
        rw [taskC_setSlot HL1.out b hb] at h1
        exact h1.drew⟩
      have HL2 : Aside0 (TLen { t with kids := t.kids + 1, slots := t.slots.set b v }) := ⟨⟨HLL.out.r, by rw [List.length_set]; exact HLL.out.s⟩⟩
      have HKWm := Aside0.mk (show ∀ k, k < w.heap.size → k ≠ gr → k ≠ gt → vN.ownBlock ≠ some k → w8.heap[k]? = w.heap[k]? from fun k hk h1 h2 h3 => by
        rw [← hwt]
        exact (Below.heap_setCell _ ⟨gt, 19 + b, none⟩ _ k h2).trans (HKW.out k hk h1 h2 h3))
      have HSZ8 : Aside0 (w.heap.size ≤ w8.heap.size) := ⟨by rw [← hwt]; have := HSZ.out; simpa [World.setCell, World.drew] using this⟩
      have hft := taskC_facts (ev := vE) HL2.out
      have hwc : wrap64 (t.c + span) = t.c + span := by have := HU.out.c; have := HU.out.u; have := HSP.out; unfold wrap64; omega
      have hwd : IntKind.i64.wrap (t.c + span) = t.c + span := (i64_w _).trans hwc
      clear hwt HR HKW hf hrb
      have HR := HRn
      have HKW := HKWm
      clear HRn HKWm
      (try clear hf); have hf := HR.out.L.facts; simp only [factsOf, runC, List.cons_append, List.nil_append] at hf; skip
      go_wp2_with (first | fail)
      have hgt : gt < w8.heap.size := HR.out.L.lt (gt, taskC { t with kids := t.kids + 1, slots := t.slots.set b v } vE, 78) (by simp)
      have hnw : w8.heap.size ≠ gt := Nat.ne_of_gt hgt
      have hfa := (HR.out.drew.step (below_alloc (Below.refl _ _) (.cells #[.int .i64 (t.c + span)] 3 (0, 0)))).L.facts
      simp only [factsOf, runC, List.cons_append, List.nil_append] at hfa
      have hml : t.ends.length ≤ 8388608 := by have := HU.out.many; have := HU.out.u; omega
      go_region_law (refine ends_append rfl (.tmp 95) (.tmp 102) rfl HR.out.drew rfl (t.c + span) rfl hml ?_; intro v1 w9 HAE1 HAE2 HAE3 HAE4; obtain ⟨A1, c1, hv1⟩ := Kd.R_slice HAE1.out.E; rw [List.length_append, List.length_singleton] at hv1; subst hv1; have hfe := HAE1.out.L.facts; simp only [factsOf, runC, List.cons_append, List.nil_append] at hfe)
      all_goals
        clear hfe hfa hf hft hnw hgt
        go_end0
        rw [HSR.out]
        have h1 := HAE1.out.setB 1 rfl 30 (.slice A1 (t.ends.length + 1) c1)
        rw [taskC_setEnds HL2.out _ (t.ends ++ [t.c + span])] at h1
        refine ⟨rfl, vN2, .slice A1 (t.ends.length + 1) c1, h1.sub (List.sublist_cons_self _ _), fun k hk p1 p2 p3 p4 => ?_, HOWN.out, fun k hk => ?_, ?_⟩
        · exact (Below.heap_setCell _ ⟨gt, 30, none⟩ _ k p2).trans ((HAE2.out k (Nat.lt_of_lt_of_le hk HSZ8.out) p4).trans (HKW.out k hk p1 p2 p3))
        · rcases HAE3.out with e | ⟨q, e, hq⟩
          · exact Or.inl (e ▸ hk)
          · rw [e] at hk
            cases hk
            exact Or.inr (Nat.le_trans HSZ8.out hq)
        · rw [World.size_setCell]
          exact Nat.le_trans HSZ8.out HAE4.out
end Go.Proofs.YtcioegimmjppcaaDoor.P
/-! serial's step (machine side): a spawn. -/
namespace Go.Proofs.YtcioegimmjppcaaDoor.P
open Go.RowKit Go.Proofs.YtcioegimmjppcaaDoorW.PrintWords Go.Proofs.YtcioegimmjppcaaDoorW.PrintLast Go.Proofs.YtcioegimmjppcaaDoorW.PrintMore
set_option linter.unusedVariables false
set_option linter.unusedSimpArgs false
set_option maxHeartbeats 1000000
set_option maxRecDepth 100000

theorem stepR_at {P : List Fn} {m : Nat} {rs rs' : RS} {t t' : TS} {i : Ins} {at_ at' : Int} {self : Nat} (h5 : i.kind = 5) (h : stepR P m rs t i at_ self = .inl (rs', t', at')) : at' = at_ + 1 := by
  unfold stepR at h
  rw [if_pos h5] at h
  by_cases hd : t.depth = 4096
  · rw [if_pos hd] at h
    cases h
  · rw [if_neg hd] at h
    generalize loop pdS apS P m (enter P rs (kidOf pdS P t i) self t.kids) (kidOf pdS P t i) 0 rs.nodes.length = x at h
    cases x with
    | stop w => cases h
    | done rs2 v s =>
      injection h with h
      injection h with h1 h2
      injection h2 with h2 h3
      exact h3.symm

theorem step_spawn {L : List S39} {m : Nat} (HPLAY : PLAY L m) {w0 w : World} {ad : Addr} {c gr gt : Nat} {rs : RS} {t : TS} {vN vE : Value} (hC : Kd.C k39 w0 (some ad) L.length L) (hcL : L.length ≤ c) (hV : Valid (L.map fnS))
    (h : RB w0 w gr [(gt, taskC t vE, 78)] (some ad) L.length c rs vN vE t.ends) (hl : TLen t) (b f : Nat) (k3 k4 at_ : Int) (self : Nat) (hb : b < 8) (hfl : f < L.length)
    (hn : (rd_T39 L (f : Int)).f0 = 0 ∨ (0 ≤ k3 ∧ k3 + (rd_T39 L (f : Int)).f0 ≤ 16)) (hn2 : 0 ≤ (rd_T39 L (f : Int)).f0 ∧ (rd_T39 L (f : Int)).f0 ≤ 8)
    (hkid : At (L.map fnS) (kidOf pdS (L.map fnS) t ⟨5, (b : Int), (f : Int), k3, k4⟩) 0) (hB : Bnd rs) (hB2 : rs.nodes.length + rs.left ≤ 4194304 ∧ rs.tasks + (rs.left : Int) ≤ 4194304) (hU : ∃ U, Cnt rs t U) (hm : rs.left < m) (hat : 0 ≤ at_ ∧ at_ < 512) :
    Calls Tryd.prog 44 #[.pointer (some ⟨gr, 0, none⟩), .pointer (some ⟨gt, 0, none⟩), .agg #[.int .i64 5, .int .i64 (b : Int), .int .i64 (f : Int), .int .i64 k3, .int .i64 k4], .int .i64 at_, .int .i64 (self : Int)] w
      (StepPost w0 w gr gt (some ad) L.length c vN vE (stepR (L.map fnS) m rs t ⟨5, (b : Int), (f : Int), k3, k4⟩ at_ self)) := by
  have HR := Aside0.mk h
  have HU := Aside0.mk hU
  have HLL := Aside0.mk hl
  have HC := Aside0.mk hC
  have HB := Aside0.mk (And.intro hB hB2)
  have HV := Aside0.mk hV
  have HKID := Aside0.mk hkid
  have HN := Aside0.mk (And.intro hn hn2)
  have HPL := Aside0.mk HPLAY
  have hwa : wrap64 (at_ + 1) = at_ + 1 := by unfold wrap64; omega
  have hu36 := Tryd.underlying36
  clear h hl hC hV hkid hB hB2 hU hn hn2 HPLAY hat
  obtain ⟨r, hr⟩ : ∃ r, stepR (L.map fnS) m rs t ⟨5, (b : Int), (f : Int), k3, k4⟩ at_ self = r := ⟨_, rfl⟩
  have HSR := Aside0.mk hr
  rw [hr]
  clear hr
  cases r with
  | inr why =>
    go_enter Tryd.func44, Tryd.ntmps44
    go_wp2_with (first | ((with_reducible refine gate_dst (N := 7) rfl ?_); (try (refine gate_guard (by rfl) ?_; dsimp only)); refine box_RB (by repeat (first | exact HR.out | refine RB.drew ?_ | refine RB.drewN ?_ _)) ?hg (N := 7) ?hd (cs := #[.int .i64 5, .int .i64 (b : Int), .int .i64 (f : Int), .int .i64 k3, .int .i64 k4]) (t := 36) ?hr ?_; (case hd => rfl); (case hg => rfl); (case hr => first | (go_simp; done) | (go_simp; rfl)); intro g7 wb1 HLn HKb HGb; have HKW := Aside0.mk HKb.out; clear HR; have HR := HLn; clear HLn HKb HGb; (try clear hf); have hf := HR.out.L.facts; simp only [factsOf, runC, List.cons_append, List.nil_append] at hf; skip) | (go_at_call 52; have hcall := spawn_calls HPL.out HC.out hcL HV.out (HR.out.sub (List.sublist_cons_self _ _)) HLL.out b f k3 k4 at_ self hb hfl HN.out.1 HN.out.2 HKID.out HB.out.1 HB.out.2 HU.out hm; rw [HSR.out] at hcall; with_reducible refine hcall.mono ?_; clear hcall; rintro e_ wc hP; unfold SpPost at hP; obtain ⟨rfl, hb_⟩ := hP))
    exact ⟨rfl, rfl, hb_⟩
  | inl x =>
    obtain ⟨rs', t', at'⟩ := x
    have hat := stepR_at rfl HSR.out
    subst hat
    go_enter Tryd.func44, Tryd.ntmps44
    go_wp2_with (first | ((with_reducible refine gate_dst (N := 7) rfl ?_); (try (refine gate_guard (by rfl) ?_; dsimp only)); refine box_RB (by repeat (first | exact HR.out | refine RB.drew ?_ | refine RB.drewN ?_ _)) ?hg (N := 7) ?hd (cs := #[.int .i64 5, .int .i64 (b : Int), .int .i64 (f : Int), .int .i64 k3, .int .i64 k4]) (t := 36) ?hr ?_; (case hd => rfl); (case hg => rfl); (case hr => first | (go_simp; done) | (go_simp; rfl)); intro g7 wb3 HLn HKb HGb; have HKW := Aside0.mk HKb.out; clear HR; have HR := HLn; clear HLn HKb HGb; (try clear hf); have hf := HR.out.L.facts; simp only [factsOf, runC, List.cons_append, List.nil_append] at hf; skip) | (go_at_call 52; have hcall := spawn_calls HPL.out HC.out hcL HV.out (HR.out.sub (List.sublist_cons_self _ _)) HLL.out b f k3 k4 at_ self hb hfl HN.out.1 HN.out.2 HKID.out HB.out.1 HB.out.2 HU.out hm; rw [HSR.out] at hcall; with_reducible refine hcall.mono ?_; clear hcall; rintro e_ wc hP; unfold SpPost at hP; obtain ⟨rfl, vN2, vE2, HP, hk2, hN2, hE2, hs2⟩ := hP))
    go_ret
    have hsz := HKW.out.size
    exact ⟨congrArg (fun x => Ending.returned (Value.int .i64 x)) hwa, vN2, vE2, HP, fun k hk p1 p2 p3 p4 => (hk2 k (Nat.lt_of_lt_of_le hk hsz) p1 p2 p3 p4).trans (HKW.out.block k hk), fun k hk => (hN2 k hk).imp id (fun q => Nat.le_trans hsz q), fun k hk => (hE2 k hk).imp id (fun q => Nat.le_trans hsz q), Nat.le_trans hsz hs2⟩

def insV (i : Ins) : Value := .agg #[.int .i64 i.kind, .int .i64 i.a, .int .i64 i.b, .int .i64 i.c, .int .i64 i.k]

theorem tick_len {t : TS} (h : TLen t) (i : Ins) : TLen (tick t i) := ⟨h.r, h.s⟩

theorem step_calls {L : List S39} {m : Nat} (HPLAY : PLAY L m) {w0 w : World} {ad : Addr} {c gr gt : Nat} {rs : RS} {t : TS} {vN vE : Value} (hC : Kd.C k39 w0 (some ad) L.length L) (hcL : L.length ≤ c) (hV : Valid (L.map fnS)) (at_ : Int) (self : Nat) (i : Ins)
    (h : RB w0 w gr [(gt, taskC (tick t i) vE, 78)] (some ad) L.length c rs vN vE t.ends) (hAt : At (L.map fnS) t at_) (hi : insOf (L.map fnS) t.f at_ = i) (h9 : i.kind ≠ 9)
    (hB : Bnd rs) (hB2 : rs.nodes.length + rs.left ≤ 4194304 ∧ rs.tasks + (rs.left : Int) ≤ 4194304) (U : Int) (hU : Cnt rs (tick t i) U) (hm : rs.left < m) :
    Calls Tryd.prog 44 #[.pointer (some ⟨gr, 0, none⟩), .pointer (some ⟨gt, 0, none⟩), insV i, .int .i64 at_, .int .i64 (self : Int)] w
      (StepPost w0 w gr gt (some ad) L.length c vN vE (stepR (L.map fnS) m rs (tick t i) i at_ self)) := by
  have hf := hV.each _ (fnOf_mem hAt.f)
  have hs := hf.shape
  unfold shapeOK at hs
  have hok := hf.ins _ (insOf_mem hAt.place)
  rw [hi] at hok
  obtain ⟨k0, k9, o0, o1, o2, o3, o4, o5, o7, o8, o9⟩ := hok
  unfold inR at o0 o1 o2 o3 o4 o5 o7 o8 o9
  have hpl := hAt.place
  unfold inR at hpl
  have hat : 0 ≤ at_ ∧ at_ < 512 := by omega
  have hl : TLen (tick t i) := ⟨hAt.regs, hAt.slots⟩
  by_cases h5 : i.kind = 5
  · have hkid : At (L.map fnS) (kidOf pdS (L.map fnS) (tick t i) i) 0 := by
      have := At.kid hV pdS hAt (by rw [hi]; exact h5)
      rw [hi] at this
      exact this
    obtain ⟨kd, a, b, c1, k⟩ := i
    simp only at h5
    subst h5
    have q := o5 rfl
    simp only [List.length_map] at q
    obtain ⟨a, rfl⟩ : ∃ x : Nat, a = (x : Int) := ⟨a.toNat, by omega⟩
    obtain ⟨b, rfl⟩ : ∃ x : Nat, b = (x : Int) := ⟨b.toNat, by omega⟩
    have hfl : b < L.length := by omega
    have hp : (fnOf (L.map fnS) (b : Int)).params = (rd_T39 L (b : Int)).f0 := by
      rw [fnOf_map L (b : Int) (by omega) (by omega)]
      rfl
    have hs2 := (hV.each _ (fnOf_mem (P := L.map fnS) (f := (b : Int)) ⟨by omega, by rw [List.length_map]; omega⟩)).shape
    unfold shapeOK at hs2
    rw [hp] at q hs2
    exact step_spawn HPLAY hC hcL hV h hl a b c1 k at_ self (by omega) hfl (by omega) (by omega) hkid hB hB2 ⟨U, hU⟩ hm hat
  · have hst : stepR (L.map fnS) m rs (tick t i) i at_ self = .inl (rs, plainT apS (tick t i) i, plainAt (tick t i) i at_) := by
      unfold stepR
      rw [if_neg h5]
    rw [hst]
    have hUu := hU.u
    have hUc := hU.c
    have hUm := hU.many
    obtain ⟨kd, a, b, c1, k⟩ := i
    simp only at h5 h9 k0 k9 o0 o1 o2 o3 o4 o5 o7 o8 o9
    exact step_plain h hl kd a b c1 k at_ self ⟨k0, k9⟩ h5 h9 (by omega) (by omega) (by omega) (by omega) hat (by omega) (fun e he => by have := hU.ends e he; omega) (by omega)
end Go.Proofs.YtcioegimmjppcaaDoor.P
/-! The runs of package serial, plain: what stands behind a step keeps the bounds. -/
namespace Go.Proofs.YtcioegimmjppcaaDoor.P
set_option linter.unusedVariables false

theorem loop_len (pd : Int → Int → Int) (ap : Int → Int → Int → Int) (P : List Fn) : ∀ (n : Nat) (rs : RS) (t : TS) (at_ : Int) (self : Nat) (rs' : RS) (v s : Int), loop pd ap P n rs t at_ self = .done rs' v s →
    (rs'.nodes.length : Int) - rs'.tasks = (rs.nodes.length : Int) - rs.tasks := by
  refine loop_done_ind pd ap P (fun rs t at_ self rs' v s => (rs'.nodes.length : Int) - rs'.tasks = (rs.nodes.length : Int) - rs.tasks) ?_ ?_ ?_
  · intro rs t at_ self hl hk
    simp [leave]
  · intro rs t at_ self rs' v s hl hk hk5 h
    exact h
  · intro rs t at_ self rs2 v2 s2 rs' v s hl hk hd h2 h
    simp only [enter, List.length_append, List.length_singleton] at h2
    omega

structure NextOK (P : List Fn) (U : Int) (rs : RS) (t : TS) (rs' : RS) (t' : TS) (at' : Int) : Prop where
  at_ : At P t' at'
  cnt : Cnt rs' t' U
  left : rs'.left < rs.left
  f : t'.f = t.f
  nodes : rs.nodes.length ≤ rs'.nodes.length
  nodes2 : rs'.nodes.length + rs'.left ≤ rs.nodes.length + rs.left
  tasks : rs.tasks ≤ rs'.tasks
  tasks2 : rs'.tasks + (rs'.left : Int) ≤ rs.tasks + (rs.left : Int)

theorem step_next {P : List Fn} (hv : Valid P) {m : Nat} {rs rs' : RS} {t t' : TS} {at_ at' U : Int} {self : Nat} (hA : At P t at_) (hU : Cnt rs t U) (hl : rs.left ≠ 0) (h9 : (insOf P t.f at_).kind ≠ 9)
    (h : stepR P m { rs with left := rs.left - 1 } (tick t (insOf P t.f at_)) (insOf P t.f at_) at_ self = .inl (rs', t', at')) : NextOK P U rs t rs' t' at' := by
  obtain ⟨u1, u2, u3, u4, u5, u6, u7⟩ := hU
  by_cases h5 : (insOf P t.f at_).kind = 5
  · unfold stepR at h
    rw [if_pos h5] at h
    by_cases hd : (tick t (insOf P t.f at_)).depth = 4096
    · rw [if_pos hd] at h
      cases h
    · rw [if_neg hd] at h
      generalize hx : loop pdS apS P m (enter P { rs with left := rs.left - 1 } (kidOf pdS P (tick t (insOf P t.f at_)) (insOf P t.f at_)) self (tick t (insOf P t.f at_)).kids) (kidOf pdS P (tick t (insOf P t.f at_)) (insOf P t.f at_)) 0 _ = x at h
      cases x with
      | stop w => cases h
      | done rs2 v s =>
        injection h with h
        injection h with h1 h2
        injection h2 with h2 h3
        subst h1
        subst h2
        subst h3
        have e1 : (tick t (insOf P t.f at_)).c = t.c + 1 := by
          simp only [tick]
          rw [if_neg (by omega)]
        have ha := At.spawned hv hA h5 (t.c + 1) (t.kids + 1) v (t.c + 1 + s)
        have hs := loop_sizes _ _ _ _ _ _ _ _ _ _ _ hx
        obtain ⟨a1, a2, a3, a4, a5, a6, a7, a8, a9⟩ := hs
        have hn := loop_len _ _ _ _ _ _ _ _ _ _ _ hx
        have a10 := a8 0 (by show (0 : Int) ≤ 0; omega) (fun e he => by cases he)
        simp only [enter, List.length_append, List.length_singleton] at a1 a2 a3 a10 hn
        have a7' : (0 : Int) < s := a7
        refine ⟨?_, ⟨u1, ?_, ?_, ?_, ?_, ?_, u7⟩, by omega, rfl, by omega, by omega, by omega, by omega⟩
        · rw [← e1] at ha
          exact ha
        · show 0 ≤ (tick t (insOf P t.f at_)).c ∧ (tick t (insOf P t.f at_)).c + (rs2.left : Int) ≤ U
          rw [e1]
          omega
        · show 0 ≤ t.work + 1 ∧ t.work + 1 + (rs2.left : Int) ≤ U
          omega
        · show 0 ≤ t.kids + 1 ∧ t.kids + 1 + (rs2.left : Int) ≤ U
          omega
        · intro e he
          rw [e1] at he
          rcases List.mem_append.1 (show e ∈ t.ends ++ [t.c + 1 + s] from he) with he | he
          · have := u5 e he
            omega
          · rw [List.mem_singleton.1 he]
            omega
        · show ((t.ends ++ [_]).length : Int) + _ ≤ U
          rw [List.length_append, List.length_singleton]
          omega
  · unfold stepR at h
    rw [if_neg h5] at h
    injection h with h
    injection h with h1 h2
    injection h2 with h2 h3
    subst h1
    subst h2
    subst h3
    obtain ⟨c1, c2⟩ := plainT_chain apS t (insOf P t.f at_)
    obtain ⟨k1, k2, k3, k4, k5⟩ := plainT_keeps apS (tick t (insOf P t.f at_)) (insOf P t.f at_)
    have hm : maxL t.c t.ends + (rs.left : Int) ≤ U := by
      have := maxL_le (U := U - (rs.left : Int)) t.ends t.c (by omega) (fun e he => by have := u5 e he; omega)
      omega
    have hm2 := le_maxL t.ends t.c
    refine ⟨hA.go hv apS h9 h5, ⟨u1, ?_, ?_, ?_, ?_, ?_, ?_⟩, by simp only; omega, k1, Nat.le_refl _, by simp only; omega, Int.le_refl _, by simp only; omega⟩
    · rw [c1]
      simp only
      split <;> omega
    · rw [k5]
      show 0 ≤ t.work + 1 ∧ t.work + 1 + ((rs.left - 1 : Nat) : Int) ≤ U
      omega
    · rw [k4]
      show 0 ≤ t.kids ∧ t.kids + ((rs.left - 1 : Nat) : Int) ≤ U
      omega
    · intro e he
      rw [c2] at he
      simp only
      by_cases h6 : (insOf P t.f at_).kind = 6
      · rw [if_pos h6] at he
        cases he
      · rw [if_neg h6] at he
        have := u5 e he
        omega
    · rw [c2]
      simp only
      split
      · simp only [List.length_nil]
        omega
      · omega
    · rw [k2]
      exact u7

theorem modify_two {α : Type} (f g : α → α) : ∀ (l : List α) (i : Nat), (l.modify i f).modify i g = l.modify i (fun x => g (f x))
  | [], i => by simp
  | x :: l, 0 => by simp
  | x :: l, i + 1 => by
    rw [List.modify_succ_cons, List.modify_succ_cons, List.modify_succ_cons, modify_two f g l i]

theorem flatN_setV : ∀ (l : List Nd) (i : Nat), i < l.length → ∀ (v : Int), (flatN l).set (i * 7 + 6) (.int .i64 v) = flatN (l.modify i (fun nd => ({ nd with v := v } : Nd)))
  | [], i, h, v => by simp at h
  | x :: l, 0, h, v => by simp [flatN, nodeL]
  | x :: l, i + 1, h, v => by
    have ih := flatN_setV l i (by simpa using h) v
    rw [List.modify_succ_cons]
    simp only [flatN, List.flatMap_cons] at ih ⊢
    rw [List.set_append_right _ _ (by simp [nodeL]; omega), show (nodeL x).length = 7 from rfl, show (i + 1) * 7 + 6 - 7 = i * 7 + 6 by omega, ih]
theorem flatN_setW : ∀ (l : List Nd) (i : Nat), i < l.length → ∀ (v : Int), (flatN l).set (i * 7 + 3) (.int .i64 v) = flatN (l.modify i (fun nd => ({ nd with work := v } : Nd)))
  | [], i, h, v => by simp at h
  | x :: l, 0, h, v => by simp [flatN, nodeL]
  | x :: l, i + 1, h, v => by
    have ih := flatN_setW l i (by simpa using h) v
    rw [List.modify_succ_cons]
    simp only [flatN, List.flatMap_cons] at ih ⊢
    rw [List.set_append_right _ _ (by simp [nodeL]; omega), show (nodeL x).length = 7 from rfl, show (i + 1) * 7 + 3 - 7 = i * 7 + 3 by omega, ih]
end Go.Proofs.YtcioegimmjppcaaDoor.P
