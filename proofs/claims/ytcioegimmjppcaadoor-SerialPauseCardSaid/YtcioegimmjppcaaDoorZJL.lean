/- SerialPause's walk: a row of one's own put into the field Code of an element. -/
import Derived.Test.YtcioegimmjppcaaDoorZJB
import Derived.Test.YtcioegimmjppcaaDoorZJK
import Derived.Test.YtcioegimmjppcaaDoorZJP
import Derived.Test.YtcioegimmjppcaaDoorZPxC
set_option linter.unusedVariables false
set_option linter.unusedSimpArgs false
/-! Nothing: the words stand unpruned. -/

/-! Nothing: the words stand unpruned. -/

/-! plunderlaw6.swapped: what its walk needs: a swap in a row of rows, a store into an inner row, the plain loops. -/
namespace Go.Proofs.YtcioegimmjppcaaDoor.P
open Go.RowKit Go.Proofs.YtcioegimmjppcaaDoorW.PrintWords Go.Proofs.YtcioegimmjppcaaDoorW.PrintLast Go.Proofs.YtcioegimmjppcaaDoorW.PrintMore
set_option linter.unusedVariables false
set_option linter.unusedSimpArgs false

/-! ### copied -/
theorem copied_l (L : List S39) (hl : L.length ≤ 32) (hc : ∀ f ∈ L, f.f3.length ≤ 512) : ∀ (k i : Nat), i ≤ L.length → L.length < i + k → plunderlaw6_copied.l0 k (i : Int) L (L.take i) = some L
  | 0, i, h1, h2 => absurd h2 (by omega)
  | k + 1, i, h1, h2 => by
    unfold plunderlaw6_copied.l0
    by_cases hi : i < L.length
    · have e : rd_T39 L (i : Int) = L[i] := by unfold rd_T39; rw [List.getD_eq_getElem?_getD, Int.toNat_natCast, List.getElem?_eq_getElem hi]; rfl
      have hcl := hc _ (List.getElem_mem hi)
      have ht : (L.take i).length = i := by rw [List.length_take]; omega
      have hw : wrap64 ((i : Int) + 1) = ((i + 1 : Nat) : Int) := by unfold wrap64; omega
      rw [if_pos (by omega), if_pos (by omega)]
      show (if ([] : List S36).length + (rd_T39 L (i : Int)).f3.length < 3518437208883 then _ else _) = _
      rw [e, if_pos (by rw [List.length_nil]; omega), if_pos (by rw [ht]; omega), hw]
      have e2 : L.take i ++ [(⟨L[i].f0, L[i].f1, L[i].f2, [] ++ L[i].f3⟩ : S39)] = L.take (i + 1) := by
        rw [List.take_add_one, List.getElem?_eq_getElem hi]; rfl
      rw [e2]
      exact copied_l L hl hc k (i + 1) (by omega) (by omega)
    · rw [if_neg (by omega), List.take_of_length_le (by omega)]
theorem copied_some (L : List S39) (hl : L.length ≤ 32) (hc : ∀ f ∈ L, f.f3.length ≤ 512) : plunderlaw6_copied.f (L.length + 1) L = some L :=
  copied_l L hl hc (L.length + 1) 0 (by omega) (by omega)

theorem swL_facts (g : Int) (L : List S39) (h0 : 0 ≤ g) (h1 : g < (L.length : Int)) (hc : ∀ f ∈ L, f.f3.length ≤ 512) :
    swL g L = ((L.set 0 (rd_T39 L g)).set g.toNat (rd_T39 L 0)).map (swFS g) ∧ ((L.set 0 (rd_T39 L g)).set g.toNat (rd_T39 L 0)).length = L.length ∧ ∀ f ∈ (L.set 0 (rd_T39 L g)).set g.toNat (rd_T39 L 0), f.f3.length ≤ 512 := by
  refine ⟨rfl, by simp only [List.length_set], fun f hf => ?_⟩
  have hm : ∀ x : Int, 0 ≤ x → x < (L.length : Int) → rd_T39 L x ∈ L := fun x a b => by
    have hl : x.toNat < L.length := by omega
    unfold rd_T39
    rw [List.getD_eq_getElem?_getD, List.getElem?_eq_getElem hl]
    exact List.getElem_mem hl
  rcases List.mem_or_eq_of_mem_set hf with hf | rfl
  · rcases List.mem_or_eq_of_mem_set hf with hf | rfl
    · exact hc _ hf
    · exact hc _ (hm _ h0 h1)
  · exact hc _ (hm 0 (by omega) (by omega))
/-! ### a part of a row done -/
section
variable {α : Type} (F : α → α)
def part (k : Nat) (l : List α) : List α := (l.take k).map F ++ l.drop k
theorem part_zero (l : List α) : part F 0 l = l := by simp [part]
theorem part_full {k : Nat} {l : List α} (h : l.length ≤ k) : part F k l = l.map F := by unfold part; rw [List.take_of_length_le h, List.drop_of_length_le h, List.append_nil]
theorem part_len (k : Nat) (l : List α) : (part F k l).length = l.length := by unfold part; rw [List.length_append, List.length_map, List.length_take, List.length_drop]; omega
theorem part_at {k : Nat} {l : List α} (h : k < l.length) : (part F k l)[k]? = some l[k] := by
  unfold part
  rw [List.getElem?_append_right (by rw [List.length_map, List.length_take]; omega), List.length_map, List.length_take, Nat.min_eq_left (by omega), Nat.sub_self, List.getElem?_drop, Nat.add_zero, List.getElem?_eq_getElem h]
theorem part_set {k : Nat} {l : List α} (h : k < l.length) : (part F k l).set k (F l[k]) = part F (k + 1) l := by
  unfold part
  have ht : ((l.take k).map F).length = k := by rw [List.length_map, List.length_take]; omega
  rw [List.set_append_right _ _ (by omega), ht, Nat.sub_self, List.take_add_one, List.getElem?_eq_getElem h, List.drop_eq_getElem_cons h, List.set_cons_zero, List.map_append, List.append_assoc]
  rfl
end
/-- functions below i are done, of function i the instructions below k -/
def mid (g : Int) (i k : Nat) (L : List S39) : List S39 := (part (swFS g) i L).set i { rd_T39 L i with f3 := part (swIS g) k (rd_T39 L i).f3 }
theorem rd39_nat {L : List S39} {i : Nat} (h : i < L.length) : rd_T39 L (i : Int) = L[i] := by unfold rd_T39; rw [List.getD_eq_getElem?_getD, Int.toNat_natCast, List.getElem?_eq_getElem h]; rfl
theorem rd36_nat {L : List S36} {i : Nat} (h : i < L.length) : rd_T36 L (i : Int) = L[i] := by unfold rd_T36; rw [List.getD_eq_getElem?_getD, Int.toNat_natCast, List.getElem?_eq_getElem h]; rfl
theorem mid_len (g : Int) (i k : Nat) (L : List S39) : (mid g i k L).length = L.length := by unfold mid; rw [List.length_set, part_len]
theorem mid_at {g : Int} {i k : Nat} {L : List S39} (h : i < L.length) : rd_T39 (mid g i k L) (i : Int) = { rd_T39 L i with f3 := part (swIS g) k (rd_T39 L i).f3 } := by
  have hl : i < (mid g i k L).length := by rw [mid_len]; exact h
  rw [rd39_nat hl]
  exact List.getElem_set_self _
theorem mid_zero {g : Int} {i : Nat} {L : List S39} (h : i < L.length) : mid g i 0 L = part (swFS g) i L := by
  unfold mid
  rw [part_zero]
  apply List.ext_getElem?
  intro q
  rw [List.getElem?_set]
  by_cases e : i = q
  · subst e
    rw [if_pos rfl, if_pos (by rw [part_len]; exact h), part_at _ h, rd39_nat h]
  · rw [if_neg e]
theorem mid_full {g : Int} {i k : Nat} {L : List S39} (h : i < L.length) (hk : (rd_T39 L i).f3.length ≤ k) : mid g i k L = part (swFS g) (i + 1) L := by
  unfold mid
  rw [part_full _ hk, ← part_set _ h, rd39_nat h]
  rfl
theorem mid_step {g : Int} {i k : Nat} {L : List S39} {v : S36} (h : i < L.length) (hk : k < (rd_T39 L i).f3.length) (hv : v = swIS g (rd_T36 (rd_T39 L i).f3 k)) :
    (mid g i k L).set i { rd_T39 (mid g i k L) i with f3 := (rd_T39 (mid g i k L) i).f3.set k v } = mid g i (k + 1) L := by
  rw [mid_at h]
  unfold mid
  rw [List.set_set, hv, rd36_nat hk, part_set _ hk]
theorem mid_same {g : Int} {i k : Nat} {L : List S39} (h : i < L.length) (hk : k < (rd_T39 L i).f3.length) (hv : rd_T36 (rd_T39 L i).f3 k = swIS g (rd_T36 (rd_T39 L i).f3 k)) : mid g i k L = mid g i (k + 1) L := by
  rw [← mid_step h hk hv, mid_at h]
  have e : (part (swIS g) k (rd_T39 L i).f3).set k (rd_T36 (rd_T39 L i).f3 k) = part (swIS g) k (rd_T39 L i).f3 := by
    apply List.ext_getElem?
    intro q
    rw [List.getElem?_set]
    by_cases e : k = q
    · subst e
      rw [if_pos rfl, if_pos (by rw [part_len]; exact hk), part_at _ hk, rd36_nat hk]
    · rw [if_neg e]
  show mid g i k L = (mid g i k L).set i { rd_T39 L i with f3 := (part (swIS g) k (rd_T39 L i).f3).set k (rd_T36 (rd_T39 L i).f3 k) }
  rw [e]
  unfold mid
  rw [List.set_set]
theorem mid_rd {g : Int} {i k : Nat} {L : List S39} (h : i < L.length) (hk : k < (rd_T39 L i).f3.length) : rd_T36 (rd_T39 (mid g i k L) i).f3 k = rd_T36 (rd_T39 L i).f3 k := by
  rw [mid_at h]
  show rd_T36 (part (swIS g) k (rd_T39 L i).f3) k = _
  have hl : k < (part (swIS g) k (rd_T39 L i).f3).length := by rw [part_len]; exact hk
  have e := part_at (swIS g) hk
  rw [List.getElem?_eq_getElem hl] at e
  rw [rd36_nat hl, rd36_nat hk]
  exact Option.some.inj e
theorem mid_flen {g : Int} {i k : Nat} {L : List S39} (h : i < L.length) : (rd_T39 (mid g i k L) i).f3.length = (rd_T39 L i).f3.length := by
  rw [mid_at h]
  exact part_len _ _ _
theorem mid_put {g v : Int} {i k : Nat} {L : List S39} (h : i < L.length) (hk : k < (rd_T39 L i).f3.length) (h5 : (rd_T36 (rd_T39 L i).f3 k).f0 = 5) (hv : v = sg g (rd_T36 (rd_T39 L i).f3 k).f2) :
    (mid g i k L).set i { rd_T39 (mid g i k L) i with f3 := (rd_T39 (mid g i k L) i).f3.set k { rd_T36 (rd_T39 (mid g i k L) i).f3 k with f2 := v } } = mid g i (k + 1) L :=
  mid_step h hk (by rw [mid_rd h hk, hv]; unfold swIS; rw [if_pos h5])
theorem mid_keep {g : Int} {i k : Nat} {L : List S39} (h : i < L.length) (hk : k < (rd_T39 L i).f3.length) (hn : (rd_T36 (rd_T39 L i).f3 k).f0 ≠ 5 ∨ sg g (rd_T36 (rd_T39 L i).f3 k).f2 = (rd_T36 (rd_T39 L i).f3 k).f2) : mid g i k L = mid g i (k + 1) L :=
  mid_same h hk (by
    unfold swIS
    by_cases h5 : (rd_T36 (rd_T39 L i).f3 k).f0 = 5
    · rw [if_pos h5]
      rcases hn with hn | hn
      · exact absurd h5 hn
      · rw [hn]
    · rw [if_neg h5])
theorem sg_zero (g : Int) : sg g 0 = g := by unfold sg; rw [if_pos rfl]
theorem sg_self {g : Int} (h : g ≠ 0) : sg g g = 0 := by unfold sg; rw [if_neg h, if_pos rfl]
theorem sg_else {g x : Int} (h : x ≠ 0) (h2 : x ≠ g) : sg g x = x := by unfold sg; rw [if_neg h, if_neg h2]
end Go.Proofs.YtcioegimmjppcaaDoor.P
/-! plunderlaw6.swapped: a swap in a row of rows of one's own; a store into an inner row. -/
namespace Go.Proofs.YtcioegimmjppcaaDoor.P
open Go.RowKit Go.Proofs.YtcioegimmjppcaaDoorW.PrintWords Go.Proofs.YtcioegimmjppcaaDoorW.PrintLast Go.Proofs.YtcioegimmjppcaaDoorW.PrintMore
set_option linter.unusedVariables false
set_option linter.unusedSimpArgs false
section
variable {α : Type} {d : Kd α} {e g n cap base : Nat} {W : World} {ok : Nat → Prop} {v : Value} {xs : List α}
theorem S_of_swap {f : Nat → Nat} {i j : Nat} {xi xj : α} (h : (Kd.tag f d).R e W base ok v ((xs.zipIdx.set i (xj, j)).set j (xi, i))) (hi : i < xs.length) (hj : j < xs.length) :
    Kd.S d e W base ok v ((xs.set i xj).set j xi) := by
  obtain ⟨h0, inner, ho, hr⟩ := h
  have hl : ((xs.zipIdx.set i (xj, j)).set j (xi, i)).length = ((xs.set i xj).set j xi).length := by simp only [List.length_set, List.length_zipIdx]
  rw [hl] at ho
  refine ⟨fun b => if f b = i then j else if f b = j then i else f b, h0, inner, by rw [List.length_zipIdx]; exact ho, by rw [List.length_zipIdx, ← hl]; exact hr.1, fun q p hq => ?_⟩
  rw [List.getElem?_zipIdx, Nat.zero_add] at hq
  obtain ⟨x, hx, rfl⟩ := Option.map_eq_some_iff.1 hq
  rw [List.getElem?_set] at hx
  by_cases h1 : j = q
  · subst h1
    rw [if_pos rfl, if_pos (by rw [List.length_set]; exact hj)] at hx
    cases hx
    refine d.M_mono (fun b hb => ⟨hb.1, ?_⟩) (hr.2 j (xi, i) (by rw [List.getElem?_set_self (by rw [List.length_set, List.length_zipIdx]; exact hj)]))
    have h2 : f b = i := hb.2
    show (if f b = i then j else if f b = j then i else f b) = j
    rw [if_pos h2]
  · rw [if_neg h1, List.getElem?_set] at hx
    by_cases h2 : i = q
    · subst h2
      rw [if_pos rfl, if_pos hi] at hx
      cases hx
      refine d.M_mono (fun b hb => ⟨hb.1, ?_⟩) (hr.2 i (xj, j) (by rw [List.getElem?_set_ne h1, List.getElem?_set_self (by rw [List.length_zipIdx]; exact hi)]))
      have h3 : f b = j := hb.2
      show (if f b = i then j else if f b = j then i else f b) = i
      rw [if_neg (by rw [h3]; exact h1), if_pos h3]
    · rw [if_neg h2] at hx
      refine d.M_mono (fun b hb => ⟨hb.1, ?_⟩) (hr.2 q (x, q) (by rw [List.getElem?_set_ne h1, List.getElem?_set_ne h2]; exact Kd.zip_at hx))
      have h3 : f b = q := hb.2
      show (if f b = i then j else if f b = j then i else f b) = q
      rw [if_neg (by rw [h3]; exact fun he => h2 he.symm), if_neg (by rw [h3]; exact fun he => h1 he.symm)]
      exact h3
theorem zip_getD (z : α) {i : Nat} (h : i < xs.length) : xs.zipIdx.getD i (z, 0) = (xs.getD i z, i) := by
  rw [List.getD_eq_getElem?_getD, Kd.zip_at (List.getElem?_eq_getElem h), List.getD_eq_getElem?_getD, List.getElem?_eq_getElem h]; rfl
theorem S_swap (h : Kd.S d e W base ok (.slice (some ⟨g, 0, none⟩) n cap) xs) (z : α) (i j : Int) (hi0 : 0 ≤ i) (hi1 : i < n) (hj0 : 0 ≤ j) (hj1 : j < n) :
    ∃ ci cj : List Value, ci.length = d.sz ∧ cj.length = d.sz ∧ d.M W base ok (xs.getD i.toNat z) ci ∧ d.M W base ok (xs.getD j.toNat z) cj ∧ (∀ q u, ci[q]? = some u → W.cell? ⟨g, i.toNat * d.sz + q, none⟩ = some u) ∧ (∀ q u, cj[q]? = some u → W.cell? ⟨g, j.toNat * d.sz + q, none⟩ = some u) ∧
      (∀ q, W.frozen? ⟨g, i.toNat * d.sz + q, none⟩ = false) ∧ (∀ q, W.frozen? ⟨g, j.toNat * d.sz + q, none⟩ = false) ∧
      Kd.S d e ((W.setCells g (i.toNat * d.sz + 0) cj).setCells g (j.toNat * d.sz + 0) ci) base ok (.slice (some ⟨g, 0, none⟩) n cap) ((xs.set i.toNat (xs.getD j.toNat z)).set j.toNat (xs.getD i.toNat z)) ∧
      W.grownBy (W.setCells g (i.toNat * d.sz + 0) cj) (some g) ∧ (W.setCells g (i.toNat * d.sz + 0) cj).grownBy ((W.setCells g (i.toNat * d.sz + 0) cj).setCells g (j.toNat * d.sz + 0) ci) (some g) := by
  obtain ⟨f, hR⟩ := h
  have hn : n = xs.length := by have := (Kd.R_reads' hR).1; rwa [List.length_zipIdx] at this
  have hil : i.toNat < xs.length := by omega
  have hjl : j.toNat < xs.length := by omega
  obtain ⟨ci, hcil, hMi, hci, hfi⟩ := Kd.R_elem hR (z, 0) i hi0 hi1
  obtain ⟨cj, hcjl, hMj, hcj, hfj⟩ := Kd.R_elem hR (z, 0) j hj0 hj1
  rw [zip_getD z hil] at hMi
  rw [zip_getD z hjl] at hMj
  have hd : (Kd.tag f d).sz = d.sz := rfl
  have es : ∀ (c s : List Value), c.length = s.length → c.take 0 ++ s ++ c.drop (0 + s.length) = s := fun c s hl => by rw [List.take_zero, List.nil_append, List.drop_of_length_le (by omega), List.append_nil]
  obtain ⟨hR1, hg1⟩ := Kd.R_seg hR i hi0 hi1 (c := ci) (seg := cj) (j := 0) (x' := (xs.getD j.toNat z, j.toNat)) (okp := fun k => ok k ∧ k ≠ g) hcil hci (by omega) (by rw [es _ _ (by omega)]; exact hMj) (fun k hk => hk)
  obtain ⟨cj', hcjl', _, hcj', _⟩ := Kd.R_elem hR1 (z, 0) j hj0 hj1
  have hMi1 := Kd.M_step hMi (fun k hk hlt => hg1.block k hlt (fun he => hk.2 (by injection he)))
  obtain ⟨hR2, hg2⟩ := Kd.R_seg hR1 j hj0 hj1 (c := cj') (seg := ci) (j := 0) (x' := (xs.getD i.toNat z, i.toNat)) (okp := fun k => ok k ∧ k ≠ g) hcjl' hcj' (by omega) (by rw [es _ _ (by omega)]; exact hMi1) (fun k hk => hk)
  exact ⟨ci, cj, hcil, hcjl, d.M_mono (fun k hk => hk.1.1) hMi, d.M_mono (fun k hk => hk.1.1) hMj, hci, hcj, hfi, hfj, S_of_swap hR2 hil hjl, hg1, hg2⟩
end
/-- Function i of a program of one's own: its code's slice, and for each instruction its cells and what a store into its field B leaves. -/
theorem S_at {W : World} {b n c g0 : Nat} {ok : Nat → Prop} {M : List S39} (h : Kd.S k39 39 W b ok (.slice (some ⟨g0, 0, none⟩) n c) M) (i : Nat) (hi : i < M.length) :
    ∃ A3 c3, W.cell? ⟨g0, i * 4 + 3, none⟩ = some (.slice A3 (rd_T39 M i).f3.length c3) ∧ ∀ k : Nat, k < (rd_T39 M i).f3.length → ∃ gi : Nat, A3 = some ⟨gi, 0, none⟩ ∧
      (W.cell? ⟨gi, k * 5, none⟩ = some (.int .i64 (rd_T36 (rd_T39 M i).f3 k).f0) ∧ W.cell? ⟨gi, k * 5 + 1, none⟩ = some (.int .i64 (rd_T36 (rd_T39 M i).f3 k).f1) ∧ W.cell? ⟨gi, k * 5 + 2, none⟩ = some (.int .i64 (rd_T36 (rd_T39 M i).f3 k).f2) ∧
      W.cell? ⟨gi, k * 5 + 3, none⟩ = some (.int .i64 (rd_T36 (rd_T39 M i).f3 k).f3) ∧ W.cell? ⟨gi, k * 5 + 4, none⟩ = some (.int .i64 (rd_T36 (rd_T39 M i).f3 k).f4)) ∧
      W.frozen? ⟨gi, k * 5 + 2, none⟩ = false ∧ (ok gi ∧ b ≤ gi ∧ ∃ cells, W.heap[gi]? = some (.cells cells 36 (0, 0))) ∧
      ∀ v : Int, Kd.S k39 39 (W.setCell ⟨gi, k * 5 + 2, none⟩ (.int .i64 v)) b ok (.slice (some ⟨g0, 0, none⟩) n c) (M.set i { rd_T39 M i with f3 := (rd_T39 M i).f3.set k { rd_T36 (rd_T39 M i).f3 k with f2 := v } }) ∧
        W.grownBy (W.setCell ⟨gi, k * 5 + 2, none⟩ (.int .i64 v)) (some gi) := by
  have hn : n = M.length := (Kd.S_reads' h).1
  obtain ⟨oki, cs, hcl, hM, hcc, hoki, hback⟩ := Kd.S_borrow h z39 (i : Int) (by omega) (by omega)
  rw [Int.toNat_natCast] at hM hcc hback
  have hM' : k39.M W b oki (rd_T39 M (i : Int)) cs := by unfold rd_T39; rw [Int.toNat_natCast]; exact hM
  clear hM
  obtain ⟨v3, rfl, hR3⟩ := k39_openM hM'
  obtain ⟨A3, c3, rfl⟩ := Kd.R_slice hR3
  refine ⟨A3, c3, ?_, fun k hk => ?_⟩
  · have e := hcc 3 _ rfl
    rw [add_plain] at e
    exact e
  · obtain ⟨gi, cap, he, hb1, hlt, hty⟩ := Kd.R_form hR3 (by omega)
    injection he with hA hlen hcap
    subst hA; subst hcap
    obtain ⟨c5, hc5, hM5, hcell, hfr⟩ := Kd.R_elem hR3 z36 (k : Int) (by omega) (by omega)
    rw [Int.toNat_natCast] at hM5 hcell hfr
    have hM5' : k36.M W b (fun k => oki k ∧ k ≠ gi) (rd_T36 (rd_T39 M (i : Int)).f3 (k : Int)) c5 := by unfold rd_T36; rw [Int.toNat_natCast]; exact hM5
    clear hM5
    obtain rfl := k36_openM hM5'
    have hoi : oki gi := hR3.1 gi (by simp [Value.ownBlock])
    refine ⟨gi, rfl, ⟨hcell 0 _ rfl, hcell 1 _ rfl, hcell 2 _ rfl, hcell 3 _ rfl, hcell 4 _ rfl⟩, hfr 2, ⟨(hoki gi hoi).1, hb1, hty⟩, fun v => ?_⟩
    obtain ⟨hR', hg'⟩ := Kd.R_seg hR3 (k : Int) (by omega) (by omega) (seg := [.int .i64 v]) (j := 2) (x' := { rd_T36 (rd_T39 M (i : Int)).f3 (k : Int) with f2 := v }) (okp := fun _ => False) hc5 (fun j u hu => by rw [Int.toNat_natCast]; exact hcell j u hu) (by show 2 + 1 ≤ 5; omega) (k36_mkM W b (fun _ => False) { rd_T36 (rd_T39 M (i : Int)).f3 (k : Int) with f2 := v }) (fun _ hk => hk.elim)
    rw [Int.toNat_natCast] at hR' hg'
    refine ⟨hback (x' := { rd_T39 M (i : Int) with f3 := (rd_T39 M (i : Int)).f3.set k { rd_T36 (rd_T39 M (i : Int)).f3 (k : Int) with f2 := v } }) hg' (fun q hq => by injection hq with hq; rw [← hq]; exact hoi) (k39_mkM _ b oki { rd_T39 M (i : Int) with f3 := (rd_T39 M (i : Int)).f3.set k { rd_T36 (rd_T39 M (i : Int)).f3 (k : Int) with f2 := v } } hR'), hg'⟩
theorem below_grown {w W W1 : World} {g : Nat} (HB : Below w.heap.size w W) (hg : W.grownBy W1 (some g)) (hb : w.heap.size ≤ g) : Below w.heap.size w W1 :=
  HB.trans ⟨hg.os, hg.tape, hg.output, hg.size, fun k hk => hg.block k (Nat.lt_of_lt_of_le hk HB.size) (fun he => by injection he with he; omega)⟩
theorem S_far5 {W : World} {b n c g0 g s : Nat} {M : List S39} {v : Value} (h : Kd.S k39 39 W b (fun k => True ∧ k < s) v M) (hs : s ≤ g) (a0 a1 a2 a3 a4 : Value) :
    Kd.S k39 39 (((((W.setCell ⟨g, 0, none⟩ a0).setCell ⟨g, 1, none⟩ a1).setCell ⟨g, 2, none⟩ a2).setCell ⟨g, 3, none⟩ a3).setCell ⟨g, 4, none⟩ a4) b (fun k => True ∧ k < s) v M := by
  have hk : ∀ k, (True ∧ k < s) → k ≠ g := fun k hk => by have := hk.2; omega
  exact Kd.S_far (p := ⟨g, 4, none⟩) (Kd.S_far (p := ⟨g, 3, none⟩) (Kd.S_far (p := ⟨g, 2, none⟩) (Kd.S_far (p := ⟨g, 1, none⟩) (Kd.S_far (p := ⟨g, 0, none⟩) h hk a0) hk a1) hk a2) hk a3) hk a4
section
variable {P : Program} {ops : Array Oper} {rest : List Oper} {o : Oper} {a : Act} {Q : Exit → Act → World → Prop}
theorem box_locs2 {w W : World} {bs : List (Nat × Array Value × TypeId)} (HL : Locs w W bs) (hgd : o.guard = none) {N : Tmp} (_hd : o.dst = some N) {cs : Array Value} {t : TypeId}
    (hrun : (execOp a.eval o).run P W = .ok (.value (.pointer (some ⟨W.heap.size, 0, none⟩))) (W.alloc (.cells cs t (0, 0))))
    (h : ∀ g w1, Aside0 (Locs w w1 ((g, cs, t) :: bs)) → Aside0 (Below W.heap.size W w1) → Aside0 (W.heap.size ≤ g) → wpList P ops Q rest (a.put o.dst (.pointer (some ⟨g, 0, none⟩))) w1) : wpList P ops Q (o :: rest) a W :=
  Kd.event_run hgd hrun (h _ _ ⟨HL.alloc cs t⟩ ⟨below_alloc (Below.refl _ _) _⟩ ⟨Nat.le_refl _⟩)
end
theorem ls_grown {w W W1 : World} {bs : List (Nat × Array Value × TypeId)} {x : Nat × Array Value × TypeId} {gj : Nat} (HL : Locs w W (x :: bs)) (hty : ∀ b ∈ bs, b.2.2 = 24) (hok : ∃ cells, W.heap[gj]? = some (.cells cells 36 (0, 0)))
    (hb : w.heap.size ≤ gj) (hg : W.grownBy W1 (some gj)) : Locs w W1 bs := by
  have h := HL.sub (List.Sublist.cons x (List.Sublist.refl bs))
  refine h.grown (below_grown h.below hg hb) hg (fun b hb' he => ?_)
  injection he with he
  have h1 := h.blk b hb'
  obtain ⟨c', h2⟩ := hok
  rw [he, h2] at h1
  injection h1 with h1
  injection h1 with _ h3 _
  rw [hty b hb'] at h3
  exact absurd h3 (by decide)
theorem ty24 {g5 g4 g2 : Nat} {a b c : Array Value} : ∀ x ∈ [(g5, a, 24), (g4, b, 24), ((g2, c, 24) : Nat × Array Value × TypeId)], x.2.2 = 24 := by
  intro x hx
  rcases List.mem_cons.1 hx with rfl | hx
  · rfl
  rcases List.mem_cons.1 hx with rfl | hx
  · rfl
  rcases List.mem_cons.1 hx with rfl | hx
  · rfl
  cases hx
theorem wrap_nat {k : Nat} (h : k < 1000) : wrap64 ((k : Int) + 1) = ((k + 1 : Nat) : Int) := by unfold wrap64; omega
theorem rd39_mem {L : List S39} {i : Nat} (h : i < L.length) : rd_T39 L (i : Int) ∈ L := by
  unfold rd_T39
  rw [List.getD_eq_getElem?_getD, Int.toNat_natCast, List.getElem?_eq_getElem h]
  exact List.getElem_mem h
theorem E39 : ∀ q, q ∈ 39 :: k39.E → q ≠ 24 := by
  show ∀ q, q ∈ [39, 36] → q ≠ 24
  decide
end Go.Proofs.YtcioegimmjppcaaDoor.P
/-! SerialPause's walk: a row of one's own put into the field Code of an element. -/
namespace Go.Proofs.YtcioegimmjppcaaDoor.P
open Go.RowKit Go.Proofs.YtcioegimmjppcaaDoorW.PrintWords Go.Proofs.YtcioegimmjppcaaDoorW.PrintLast Go.Proofs.YtcioegimmjppcaaDoorW.PrintMore
set_option linter.unusedVariables false
theorem S_code {W : World} {b n c g0 : Nat} {okS okg : Nat → Prop} {M : List S39} (h : Kd.S k39 39 W b okS (.slice (some ⟨g0, 0, none⟩) n c) M) (i : Nat) (hi : i < M.length) {v : Value} {nc : List S36} (hv : k36.R 36 W b okg v nc) (hd : ∀ k, okS k → ¬ okg k) (hg0 : ∀ k, okg k → k ≠ g0) :
    Kd.S k39 39 (W.setCell ⟨g0, i * 4 + 3, none⟩ v) b (fun k => okS k ∨ okg k) (.slice (some ⟨g0, 0, none⟩) n c) (M.set i { rd_T39 M i with f3 := nc }) ∧ W.grownBy (W.setCell ⟨g0, i * 4 + 3, none⟩ v) (some g0) := by
  have hn : n = M.length := (Kd.S_reads' h).1
  have h1 : Kd.S k39 39 W b (fun k => (okS k ∨ okg k) ∧ ¬ okg k) (.slice (some ⟨g0, 0, none⟩) n c) M := Kd.S_mono h (fun k hk => ⟨Or.inl hk, hd k hk⟩)
  obtain ⟨oki, cs, hcl, hM, hcc, hfr, hoki, hH⟩ := Kd.S_elem h1 z39 (i : Int) (by omega) (by omega)
  rw [Int.toNat_natCast] at hM hcc
  have hM' : k39.M W b oki (rd_T39 M (i : Int)) cs := by unfold rd_T39; rw [Int.toNat_natCast]; exact hM
  clear hM
  obtain ⟨v3, rfl, hR3⟩ := k39_openM hM'
  have hs := Kd.S_seg hH (by omega) (by omega) (seg := [v]) (j := 3) (okp := okg) (x' := { rd_T39 M (i : Int) with f3 := nc }) (by show 3 + 1 ≤ 4; omega) (k39_mkM W b okg { rd_T39 M (i : Int) with f3 := nc } hv) (fun k hk => Or.inr hk) (fun k hk => ⟨Or.inr hk, hg0 k hk⟩)
  rw [Int.toNat_natCast] at hs
  exact hs
end Go.Proofs.YtcioegimmjppcaaDoor.P
