/- The heap keeps its order: a push keeps it and adds one, a pop hands out the least and keeps it (plain lists). -/
import Derived.Test.YtbahnialbffkeaaLPx0
import Derived.BigRegion
import Derived.BigQuiet
import Derived.Deep.QuietTactic
import Derived.Deep.LoopGhost
import Derived.Lib.Hide
import Derived.Outline
namespace Go.Proofs.Ytbahnialbffkeaa.P
open Go.RowKit Go.Proofs.YtbahnialbffkeaaW.PrintWords Go.Proofs.YtbahnialbffkeaaW.PrintLast Go.Proofs.YtbahnialbffkeaaW.PrintMore
theorem info70 : (Try.prog.info? 70).map (fun i => (i.zero, i.size, i.bytes)) = some (some (.agg #[(.int .i64 0), (.int .i64 0), (.int .i64 0)]), 3, 24) := by kernel_rfl
structure S70 where
  f0 : Int
  f1 : Int
  f2 : Int
def z70 : S70 := ⟨(0 : Int), (0 : Int), (0 : Int)⟩
def k70 : Kd S70 := Kd.iso (Kd.pair (Kd.int .i64) (Kd.pair (Kd.int .i64) (Kd.int .i64))) (fun x : S70 => (x.f0, x.f1, x.f2))
theorem k70_open {w : World} {x : S70} {cs : List Value} (h : k70.K w x cs) : cs = [.int .i64 x.f0, .int .i64 x.f1, .int .i64 x.f2] := by
  obtain ⟨_, _, rfl, rfl, ⟨_, _, rfl, rfl, rfl⟩⟩ := h
  exact rfl
theorem k70_openM {w : World} {base : Nat} {ok : Nat → Prop} {x : S70} {cs : List Value} (h : k70.M w base ok x cs) : cs = [.int .i64 x.f0, .int .i64 x.f1, .int .i64 x.f2] := by
  obtain ⟨_, _, rfl, rfl, ⟨_, _, rfl, rfl, rfl⟩⟩ := h
  exact rfl
theorem k70_mkM (w : World) (base : Nat) (ok : Nat → Prop) (x : S70)  : k70.M w base ok x [.int .i64 x.f0, .int .i64 x.f1, .int .i64 x.f2] := ⟨[.int .i64 x.f0], [.int .i64 x.f1, .int .i64 x.f2], rfl, rfl, ⟨[.int .i64 x.f1], [.int .i64 x.f2], rfl, rfl, rfl⟩⟩
def rd_T70 (xs : List S70) (i : Int) : S70 := xs.getD i.toNat z70
theorem at_T70 {w : World} {A : Option Addr} {n : Nat} {xs : List S70} (h : Kd.C k70 w A n xs) (i : Int) (h0 : 0 ≤ i) (h1 : i < n) : ∃ ad , A = some ad ∧ w.cell? (ad.add (i.toNat * 3)) = some (.int .i64 (rd_T70 xs i).f0) ∧ w.cell? ⟨(ad.add (i.toNat * 3)).block, (ad.add (i.toNat * 3)).off + 1, none⟩ = some (.int .i64 (rd_T70 xs i).f1) ∧ w.cell? ⟨(ad.add (i.toNat * 3)).block, (ad.add (i.toNat * 3)).off + 2, none⟩ = some (.int .i64 (rd_T70 xs i).f2) := by
  obtain ⟨ad, c, e, _, hK, hc0⟩ := Kd.C_get h z70 i h0 h1
  have hc : ∀ j u, c[j]? = some u → w.cell? (ad.add (i.toNat * 3 + j)) = some u := hc0
  obtain rfl := k70_open hK
  exact ⟨ad, e, hc 0 _ rfl, by rw [← add_field _ _ 1 (by omega)]; exact hc 1 _ rfl, by rw [← add_field _ _ 2 (by omega)]; exact hc 2 _ rfl⟩

end Go.Proofs.Ytbahnialbffkeaa.P
namespace Go.Proofs.Ytbahnialbffkeaa.P
def swp (l : List Int) (i j : Nat) : List Int := (l.set i (l.getD j 0)).set j (l.getD i 0)
theorem swp_length (l : List Int) (i j : Nat) : (swp l i j).length = l.length := by simp [swp]
def siftUp (l : List Int) (i : Nat) : List Int :=
  if h : 0 < i then
    if l.getD i 0 < l.getD ((i - 1) / 2) 0 then siftUp (swp l i ((i - 1) / 2)) ((i - 1) / 2) else l
  else l
termination_by i
decreasing_by omega
def pushL (l : List Int) (x : Int) : List Int := siftUp (l ++ [x]) l.length
theorem siftUp_length (l : List Int) (i : Nat) : (siftUp l i).length = l.length := by
  induction i using Nat.strongRecOn generalizing l with
  | _ i ih =>
    rw [siftUp]
    by_cases h : 0 < i
    · rw [dif_pos h]
      split
      · rw [ih _ (by omega), swp_length]
      · rfl
    · rw [dif_neg h]
theorem siftUp_zero (l : List Int) : siftUp l 0 = l := by rw [siftUp]; simp
theorem siftUp_stop (l : List Int) (i : Nat) (h : 0 < i) (hn : ¬ l.getD i 0 < l.getD ((i - 1) / 2) 0) : siftUp l i = l := by rw [siftUp, dif_pos h, if_neg hn]
theorem siftUp_go (l : List Int) (i : Nat) (h : 0 < i) (hy : l.getD i 0 < l.getD ((i - 1) / 2) 0) : siftUp l i = siftUp (swp l i ((i - 1) / 2)) ((i - 1) / 2) := by rw [siftUp, dif_pos h, if_pos hy]
theorem pushL_length (l : List Int) (x : Int) : (pushL l x).length = l.length + 1 := by simp [pushL, siftUp_length]

/-- the least of i and its two children that are below n -/
def leastOf (n : Nat) (l : List Int) (i : Nat) : Nat :=
  let a := if 2 * i + 1 < n ∧ l.getD (2 * i + 1) 0 < l.getD i 0 then 2 * i + 1 else i
  if 2 * i + 2 < n ∧ l.getD (2 * i + 2) 0 < l.getD a 0 then 2 * i + 2 else a
theorem leastOf_cases (n : Nat) (l : List Int) (i : Nat) : leastOf n l i = i ∨ (leastOf n l i = 2 * i + 1 ∧ 2 * i + 1 < n) ∨ (leastOf n l i = 2 * i + 2 ∧ 2 * i + 2 < n) := by
  unfold leastOf
  simp only
  by_cases h1 : 2 * i + 1 < n ∧ l.getD (2 * i + 1) 0 < l.getD i 0
  · rw [if_pos h1]
    by_cases h2 : 2 * i + 2 < n ∧ l.getD (2 * i + 2) 0 < l.getD (2 * i + 1) 0
    · rw [if_pos h2]; exact .inr (.inr ⟨rfl, h2.1⟩)
    · rw [if_neg h2]; exact .inr (.inl ⟨rfl, h1.1⟩)
  · rw [if_neg h1]
    by_cases h2 : 2 * i + 2 < n ∧ l.getD (2 * i + 2) 0 < l.getD i 0
    · rw [if_pos h2]; exact .inr (.inr ⟨rfl, h2.1⟩)
    · rw [if_neg h2]; exact .inl rfl
theorem leastOf_ge (n : Nat) (l : List Int) (i : Nat) : i ≤ leastOf n l i := by
  rcases leastOf_cases n l i with h1 | ⟨h1, h2⟩ | ⟨h1, h2⟩ <;> omega
def siftDn (n : Nat) (l : List Int) (i : Nat) : List Int :=
  if _h : i < leastOf n l i then siftDn n (swp l i (leastOf n l i)) (leastOf n l i) else l
termination_by n - i
decreasing_by
  rcases leastOf_cases n l i with h1 | ⟨h1, h2⟩ | ⟨h1, h2⟩ <;> omega
theorem siftDn_stop (n : Nat) (l : List Int) (i : Nat) (h : leastOf n l i = i) : siftDn n l i = l := by rw [siftDn, dif_neg (by omega)]
theorem siftDn_go (n : Nat) (l : List Int) (i : Nat) (h : leastOf n l i ≠ i) : siftDn n l i = siftDn n (swp l i (leastOf n l i)) (leastOf n l i) := by
  have := leastOf_ge n l i
  rw [siftDn, dif_pos (by omega)]
theorem siftDn_length (n : Nat) (l : List Int) (i : Nat) : (siftDn n l i).length = l.length := by
  generalize hd : n - i = d
  induction d using Nat.strongRecOn generalizing l i with
  | _ d ih =>
    by_cases h : leastOf n l i = i
    · rw [siftDn_stop _ _ _ h]
    · rw [siftDn_go _ _ _ h]
      rcases leastOf_cases n l i with h1 | ⟨h1, h2⟩ | ⟨h1, h2⟩
      · exact absurd h1 h
      all_goals
        rw [ih (n - leastOf n l i) (by omega) _ _ rfl, swp_length]
/-- what is left behind a pop -/
def popL (l : List Int) : List Int := siftDn (l.length - 1) ((l.set 0 (l.getD (l.length - 1) 0)).take (l.length - 1)) 0
theorem popL_length (l : List Int) : (popL l).length = l.length - 1 := by simp [popL, siftDn_length]
end Go.Proofs.Ytbahnialbffkeaa.P
namespace Go.Proofs.Ytbahnialbffkeaa.P
open Go.RowKit Go.Proofs.YtbahnialbffkeaaW.PrintWords Go.Proofs.YtbahnialbffkeaaW.PrintLast Go.Proofs.YtbahnialbffkeaaW.PrintMore
set_option linter.unusedVariables false
set_option linter.unusedSimpArgs false
abbrev LESS : Value := .func (.func 45) #[] #[]

theorem rising_calls (a b : Int) (w : World) : Calls Try.prog 45 #[.int .i64 a, .int .i64 b] w fun e w' => e = .returned (.bool (decide (a < b))) ∧ w' = w := by
  go_enter Try.func45, Try.ntmps45
  go_wp2
  go_ret
  exact ⟨rfl, rfl⟩

def PushPost (g : Nat) (l : List Int) (P : Nat → Prop) (w0 w : World) (e : Ending) (w' : World) : Prop := ∃ v', e = .returned (.tuple #[]) ∧ w'.heap[g]? = some (.cells #[v', LESS] 63 (0, 0)) ∧
  Kd.R (Kd.int .i64) 3 w' w0.heap.size (fun k => P k ∨ w.heap.size ≤ k) v' l ∧ Below w0.heap.size w0 w' ∧ Kept w w' (fun k => P k ∨ k = g)

set_option maxHeartbeats 4000000 in
set_option maxRecDepth 100000 in
theorem push_calls (g : Nat) (v : Value) (l : List Int) (x : Int) (P : Nat → Prop) (w0 w : World) (hB : Below w0.heap.size w0 w) (hg : w0.heap.size ≤ g) (hblk : w.heap[g]? = some (.cells #[v, LESS] 63 (0, 0)))
    (hR : Kd.R (Kd.int .i64) 3 w w0.heap.size P v l) (hlen : l.length + 1 ≤ 1048576) :
    Calls Try.prog 46 #[.pointer (some ⟨g, 0, none⟩), .int .i64 x] w (PushPost g (pushL l x) P w0 w) := by
  have hc0 : w.cell? ⟨g, 0, none⟩ = some v := (blk_cell hblk 0).trans rfl
  have hc1 : w.cell? ⟨g, 1, none⟩ = some LESS := (blk_cell hblk 1).trans rfl
  have hf0 := blk_frozen hblk 0
  have HR := Aside0.mk (Kd.R_mono (ok' := fun k => P k ∨ w.heap.size ≤ k) hR (fun k hk => .inl hk))
  have HBK := Aside0.mk hblk
  have HB := Aside0.mk hB
  have HG := Aside0.mk hg
  have HL := Aside0.mk hlen
  clear hR hblk hB hg hlen
  go_enter Try.func46, Try.ntmps46
  go_wp2_with (first | ((with_reducible refine gate_builtin (b := .append) (xs := #[.tmp 10, .tmp 12]) rfl ?_); at_builtin; refine Kd.R_append (Kd.int .i64) (w0 := w0) w0.heap.size rfl (.tmp 10) (.tmp 12) 33 3 (.int .i64 0) 8 rfl Try.underlying33 info3 rfl (by decide) (by omega) v l x [.int .i64 x] (fun k => P k ∨ w.heap.size ≤ k) (fun _ => False) rfl rfl ?aP (fun _ hk => hk.elim) ?aF ?aO ?aB ?aS ?aL ?_; (case aP => rfl); (case aB => exact HB.out); (case aF => exact fun k hk => .inr hk); (case aO => exact HR.out); (case aS => exact HB.out.size); (case aL => have := HL.out; omega); intro v1 w1 ho hb hg hat; have HR1 := Aside0.mk ho; have HB1 := Aside0.mk hb; have HBK1 := Aside0.mk (blk_grown HBK.out hg (Kd.R_ne HR.out HBK.out (by decide))); have HK1 := Aside0.mk (Kept.of_grown hg (Kept.refl w (fun k => P k ∨ k = g)) (fun k hk => by rcases HR.out.1 k hk with h | h; exact .inl (.inl h); exact .inr h)); clear ho hb hg hat hc0 hc1 hf0; obtain ⟨A1, co1, eo1⟩ := Kd.R_slice HR1.out; rw [List.length_append, List.length_singleton] at eo1; subst eo1; have hc0 : w1.cell? ⟨g, 0, none⟩ = some v := (blk_cell HBK1.out 0).trans rfl; have hf0 := blk_frozen HBK1.out 0) | ((with_reducible refine gate_store (t := 33) (p := 15) rfl ?_); refine store_event (t := 33) (p := 15) (v := ?vo) (w1 := (w1.setCell ⟨g, 0, none⟩ (.slice A1 (l.length + 1) co1))) ?hg ?ho ?hn ?hr ?_; (case ho => rfl); (case hg => rfl); (case hn => rfl); (case hr => first | (go_simp; done) | (go_simp; rfl)); intro w2 hw; have HBK2 := Aside0.mk (show w2.heap[g]? = some (.cells #[.slice A1 (l.length + 1) co1, LESS] 63 (0, 0)) from by rw [hw]; exact blk_put HBK1.out 0 _ rfl); have HR2 := Aside0.mk (show Kd.R (Kd.int .i64) 3 w2 w0.heap.size (fun k => P k ∨ w.heap.size ≤ k) (.slice A1 (l.length + 1) co1) (l ++ [x]) from by rw [hw]; exact Kd.R_set HR1.out HBK1.out (by decide) 0 _); have HB2 := Aside0.mk (show Below w0.heap.size w0 w2 from by rw [hw]; exact below_set HB1.out HG.out); have HK2 := Aside0.mk (show Kept w w2 (fun k => P k ∨ k = g) from by rw [hw]; exact Kept.setCell HK1.out (.inl (.inr rfl)) _); clear hc0 hf0 hw HBK1 HR1 HB1 HK1; have hc0 : w2.cell? ⟨g, 0, none⟩ = some (.slice A1 (l.length + 1) co1) := (blk_cell HBK2.out 0).trans rfl))
  have hwl : wrap64 ((l.length : Nat) : Int) = (l.length : Int) := by have := HL.out; unfold wrap64; omega
  rw [hwl]
  clear hwl hc0
  obtain ⟨hx2n, hx2c, -⟩ := Kd.R_reads' HR2.out
  obtain ⟨gi, ci, ei, -, -, -⟩ := Kd.R_form HR2.out (by simp)
  obtain ⟨rfl, rfl⟩ : A1 = some ⟨gi, 0, none⟩ ∧ co1 = ci := by
    injection ei with e1 e2 e3
    exact ⟨e1, e3⟩
  clear ei hx2n hx2c
  go_loopg [4] (l.length + 1) (fun kq v4 w' => ∃ (i : Nat) (y : List Int), v4 = .int .i64 (i : Int) ∧ Aside0 (i ≤ kq ∧ i < l.length + 1 ∧ y.length = l.length + 1) ∧ Aside0 (siftUp y i = pushL l x) ∧ Aside0 (w'.heap[g]? = some (.cells #[.slice (some ⟨gi, 0, none⟩) (l.length + 1) co1, LESS] 63 (0, 0))) ∧ Aside0 (Kd.R (Kd.int .i64) 3 w' w0.heap.size (fun k => P k ∨ w.heap.size ≤ k) (.slice (some ⟨gi, 0, none⟩) (l.length + 1) co1) y) ∧ Aside0 (Kept w w' (fun k => P k ∨ k = g)) ∧ Aside0 (Below w0.heap.size w0 w'))
  case atStart => exact ⟨l.length, l ++ [x], rfl, ⟨by omega, by omega, by simp⟩, ⟨rfl⟩, HBK2, HR2, HK2, HB2⟩
  case round =>
    clear HBK2 HR2 HK2 HB2 HR HB HBK
    obtain ⟨i, y, rfl, HI, HS, HBK, HR, HK, HB⟩ := hrel
    by_cases hi : 0 < i
    · obtain ⟨up, hup⟩ : ∃ up, up = (i - 1) / 2 := ⟨_, rfl⟩
      have hc0 : wr.cell? ⟨g, 0, none⟩ = some (.slice (some ⟨gi, 0, none⟩) (l.length + 1) co1) := (blk_cell HBK.out 0).trans rfl
      have hc1 : wr.cell? ⟨g, 1, none⟩ = some LESS := (blk_cell HBK.out 1).trans rfl
      obtain ⟨ca, fa⟩ := Kd.R_celln 0 HR.out (i : Int) (by omega) (by have := HI.out; omega)
      obtain ⟨cb, fb⟩ := Kd.R_celln 0 HR.out (up : Int) (by omega) (by have := HI.out; omega)
      obtain ⟨a, ha⟩ : ∃ a, y.getD i 0 = a := ⟨_, rfl⟩
      obtain ⟨b, hb⟩ : ∃ b, y.getD up 0 = b := ⟨_, rfl⟩
      have ca' : wr.cell? ⟨gi, i, none⟩ = some (.int .i64 a) := by rw [← ha]; exact ca
      have cb' : wr.cell? ⟨gi, up, none⟩ = some (.int .i64 b) := by rw [← hb]; exact cb
      have fa' : wr.frozen? ⟨gi, i, none⟩ = false := fa
      have fb' : wr.frozen? ⟨gi, up, none⟩ = false := fb
      clear ca cb fa fb
      have HUP := Aside0.mk hup
      have HA := Aside0.mk ha
      have HBb := Aside0.mk hb
      clear hup ha hb
      have t1 : (0 : Int) < (i : Int) := by omega
      have d3 : wrap64 ((wrap64 ((i : Int) - 1)).tdiv 2) = (up : Int) := by
        have h1 := HUP.out
        have h2 := HI.out
        have h3 := HL.out
        have h4 : wrap64 ((i : Int) - 1) = (i : Int) - 1 := by unfold wrap64; omega
        rw [h4, Int.tdiv_eq_ediv_of_nonneg (by omega)]
        unfold wrap64
        omega
      have D3 := Aside0.mk d3
      clear d3
      have hi1 : (i : Int) < (l.length : Int) + 1 := by have := HI.out; omega
      have hu1 : (up : Int) < (l.length : Int) + 1 := by have := HI.out; have := HUP.out; omega
      by_cases hlt : a < b
      · go_wp2_with fail
        rw [D3.out]
        go_quiet ((go_at_call 45; exact Calls.quiet_of_same (rising_calls _ _ _)))
        go_wp2_with fail
        generalize hwq : wr.drewN _ = wq
        have hc0' : wq.cell? ⟨g, 0, none⟩ = some (.slice (some ⟨gi, 0, none⟩) (l.length + 1) co1) := by rw [← hwq]; exact hc0
        have ca'' : wq.cell? ⟨gi, i, none⟩ = some (.int .i64 a) := by rw [← hwq]; exact ca'
        have cb'' : wq.cell? ⟨gi, up, none⟩ = some (.int .i64 b) := by rw [← hwq]; exact cb'
        have fa'' : wq.frozen? ⟨gi, i, none⟩ = false := by rw [← hwq]; exact fa'
        have fb'' : wq.frozen? ⟨gi, up, none⟩ = false := by rw [← hwq]; exact fb'
        have HBK' := Aside0.mk (show wq.heap[g]? = some (.cells #[.slice (some ⟨gi, 0, none⟩) (l.length + 1) co1, LESS] 63 (0, 0)) from by rw [← hwq]; exact blk_drewN HBK.out _)
        have HR' := Aside0.mk (show Kd.R (Kd.int .i64) 3 wq w0.heap.size (fun k => P k ∨ w.heap.size ≤ k) (.slice (some ⟨gi, 0, none⟩) (l.length + 1) co1) y from by rw [← hwq]; exact Kd.R_drewN HR.out _)
        have HK' := Aside0.mk (show Kept w wq (fun k => P k ∨ k = g) from by rw [← hwq]; exact Kept.drewN HK.out _)
        have HB' := Aside0.mk (show Below w0.heap.size w0 wq from by rw [← hwq]; exact pw_below_drewN HB.out _)
        have hiu : ¬ (i = up) := by have := HUP.out; omega
        have hui : ¬ (up = i) := fun e => hiu e.symm
        clear hc0 ca' cb' fa' fb' HBK HR HK HB hc1 hwq
        go_region
        go_wp2
        go_roundg up
        case measure => have := HUP.out; have := HI.out; omega
        case rel =>
          have hgg : g ≠ gi := fun e => by have h1 := Kd.R_ne HR'.out HBK'.out (by decide); exact h1 (by rw [e]; rfl)
          have hgB : w0.heap.size ≤ gi := Kd.R_base HR'.out _ rfl
          have hSg : (P gi ∨ gi = g) ∨ w.heap.size ≤ gi := by rcases HR'.out.1 gi rfl with h | h; exact .inl (.inl h); exact .inr h
          have hsw : siftUp y i = siftUp (swp y i up) up := by rw [HUP.out]; exact siftUp_go y i hi (by rw [← HUP.out, HA.out, HBb.out]; exact hlt)
          have hR1 := Kd.R_putn (Kd.R_putn HR'.out (i : Int) b) (up : Int) a
          refine ⟨up, swp y i up, by rfl, ⟨by omega, by have := HUP.out; have := HI.out; omega, by rw [swp_length]; exact HI.out.2.2⟩, ⟨by rw [← hsw]; exact HS.out⟩, ⟨?_⟩, ⟨?_⟩, ⟨?_⟩, ⟨?_⟩⟩
          · exact blk_far (blk_far HBK'.out hgg _) hgg _
          · have e : swp y i up = (y.set (i : Int).toNat b).set (up : Int).toNat a := by simp only [swp, HA.out, HBb.out, Int.toNat_natCast]
            rw [e]
            exact hR1
          · exact Kept.setCell (Kept.setCell HK'.out hSg _) hSg _
          · exact below_drew1 (below_set (below_set HB'.out hgB) hgB)
      · go_wp2_with fail
        rw [D3.out]
        go_quiet ((go_at_call 45; exact Calls.quiet_of_same (rising_calls _ _ _)))
        go_wp2
        first | go_end0 | ((try simp only [Exit.inBlock, Exit.then]); refine bodyPost_ret (results_none rfl _ _ _) rfl ?_)
        refine ⟨_, rfl, blk_drewN HBK.out _, ?_, pw_below_drewN HB.out _, Kept.drewN HK.out _⟩
        rw [← HS.out, siftUp_stop y i hi (by rw [← HUP.out, HA.out, HBb.out]; omega)]
        exact Kd.R_drewN HR.out _
        exfalso
        rename_i h _ _
        simp only [Bool.not_eq_false', decide_eq_true_eq] at h
        omega
    · have t0 : ¬ ((0 : Int) < (i : Int)) := by omega
      go_wp2
      go_end0
      refine ⟨_, rfl, HBK.out, ?_, HB.out, HK.out⟩
      obtain rfl : i = 0 := by omega
      rw [← HS.out, siftUp_zero]
      exact HR.out
end Go.Proofs.Ytbahnialbffkeaa.P
namespace Go.Proofs.Ytbahnialbffkeaa.P
open Go.RowKit Go.Proofs.YtbahnialbffkeaaW.PrintWords Go.Proofs.YtbahnialbffkeaaW.PrintLast Go.Proofs.YtbahnialbffkeaaW.PrintMore
set_option linter.unusedVariables false
set_option linter.unusedSimpArgs false

def PopPost (g : Nat) (x : Int) (l : List Int) (P : Nat → Prop) (w0 w : World) (e : Ending) (w' : World) : Prop := ∃ v', e = .returned (.int .i64 x) ∧ w'.heap[g]? = some (.cells #[v', LESS] 63 (0, 0)) ∧
  Kd.R (Kd.int .i64) 3 w' w0.heap.size P v' l ∧ Below w0.heap.size w0 w' ∧ Kept w w' (fun k => P k ∨ k = g)

def leastAt (n : Nat) (l : List Int) (i : Nat) : Nat → Nat
  | 0 => i
  | j + 1 => if 2 * i + 1 + j < n ∧ l.getD (2 * i + 1 + j) 0 < l.getD (leastAt n l i j) 0 then 2 * i + 1 + j else leastAt n l i j
theorem leastAt_step (n : Nat) (l : List Int) (i j : Nat) : leastAt n l i (j + 1) = if 2 * i + 1 + j < n ∧ l.getD (2 * i + 1 + j) 0 < l.getD (leastAt n l i j) 0 then 2 * i + 1 + j else leastAt n l i j := rfl
theorem leastAt_two (n : Nat) (l : List Int) (i : Nat) : leastAt n l i 2 = leastOf n l i := rfl
theorem leastAt_off (n : Nat) (l : List Int) (i j : Nat) (hj : j < 2) (h : n ≤ 2 * i + 1 + j) : leastAt n l i j = leastOf n l i := by
  rw [← leastAt_two]
  have e1 : n ≤ 2 * i + 1 + 1 → leastAt n l i 2 = leastAt n l i 1 := fun h => by rw [leastAt_step n l i 1, if_neg (fun h2 => by omega)]
  have e0 : n ≤ 2 * i + 1 + 0 → leastAt n l i 1 = leastAt n l i 0 := fun h => by rw [leastAt_step n l i 0, if_neg (fun h2 => by omega)]
  obtain rfl | rfl : j = 0 ∨ j = 1 := by omega
  · rw [e1 (by omega), e0 h]
  · rw [e1 h]
theorem leastAt_lt (n : Nat) (l : List Int) (i j : Nat) : leastAt n l i j = i ∨ leastAt n l i j < n := by
  induction j with
  | zero => exact .inl rfl
  | succ j ih =>
    rw [leastAt_step]
    split
    · next h => exact .inr h.1
    · exact ih

theorem pop_exit (n i j c : Nat) (h1 : j ≤ 2) (h2 : c = 2 * i + 1 + j) (hin : ¬ (j < 2 ∧ c < n)) : ((c : Int) ≤ ((2 * i + 2 : Nat) : Int) ∧ (n : Int) ≤ (c : Int)) ∨ ((2 * i + 2 : Nat) : Int) < (c : Int) := by
  by_cases hj : j = 2
  · exact .inr (by omega)
  · exact .inl ⟨by omega, by have : ¬ c < n := fun h => hin ⟨by omega, h⟩; omega⟩
theorem pop_least (n : Nat) (y : List Int) (i j c lt : Nat) (h1 : j ≤ 2) (h3 : lt = leastAt n y i j) (h2 : c = 2 * i + 1 + j) (hin : ¬ (j < 2 ∧ c < n)) : lt = leastOf n y i := by
  by_cases hj : j = 2
  · rw [h3, hj, leastAt_two]
  · have : ¬ c < n := fun h => hin ⟨by omega, h⟩
    rw [h3]
    exact leastAt_off n y i j (by omega) (by omega)

set_option maxHeartbeats 4000000 in
set_option maxRecDepth 100000 in
theorem pop_calls (g : Nat) (v : Value) (l : List Int) (P : Nat → Prop) (w0 w : World) (hB : Below w0.heap.size w0 w) (hg : w0.heap.size ≤ g) (hblk : w.heap[g]? = some (.cells #[v, LESS] 63 (0, 0)))
    (hR : Kd.R (Kd.int .i64) 3 w w0.heap.size P v l) (hlen : l.length ≤ 1048576) (hpos : 0 < l.length) :
    Calls Try.prog 47 #[.pointer (some ⟨g, 0, none⟩)] w (PopPost g (l.getD 0 0) (popL l) P w0 w) := by
  obtain ⟨n, hn⟩ : ∃ n, l.length = n + 1 := ⟨l.length - 1, by omega⟩
  have hwl : wrap64 (n : Int) = (n : Int) := by clear hblk hB hR; unfold wrap64; omega
  have t1 : (0 : Int) < (n : Int) + 1 := by clear hblk hB hR; omega
  obtain ⟨gi, co, rfl, hgi, -, -⟩ := Kd.R_form hR hpos
  rw [hn] at hR hblk
  have hco : n + 1 ≤ co := (Kd.R_reads' hR).2.1
  have t2 : n ≤ co := by clear hblk hB hR hgi; omega
  have hc0 : w.cell? ⟨g, 0, none⟩ = some (.slice (some ⟨gi, 0, none⟩) (n + 1) co) := (blk_cell hblk 0).trans rfl
  have hf0 := blk_frozen hblk 0
  obtain ⟨ca, fa⟩ := Kd.R_celln 0 hR (0 : Int) (by omega) (by omega)
  obtain ⟨cb, fb⟩ := Kd.R_celln 0 hR (n : Int) (by omega) (by omega)
  obtain ⟨a, ha⟩ : ∃ a, l.getD 0 0 = a := ⟨_, rfl⟩
  obtain ⟨b, hb⟩ : ∃ b, l.getD n 0 = b := ⟨_, rfl⟩
  have ca' : w.cell? ⟨gi, 0, none⟩ = some (.int .i64 a) := by rw [← ha]; exact ca
  have cb' : w.cell? ⟨gi, n, none⟩ = some (.int .i64 b) := by rw [← hb]; exact cb
  have fa' : w.frozen? ⟨gi, 0, none⟩ = false := fa
  clear ca cb fa fb
  rw [ha]
  have HA := Aside0.mk ha
  have HBb := Aside0.mk hb
  have HR := Aside0.mk hR
  have HBK := Aside0.mk hblk
  have HB := Aside0.mk hB
  have HG := Aside0.mk hg
  have HN := Aside0.mk hn
  have HL := Aside0.mk hlen
  have HGI := Aside0.mk hgi
  clear hR hblk hB hg hn hlen hgi hco hpos ha hb
  go_enter Try.func47, Try.ntmps47
  have hgg : ¬ (g = gi) := fun e => by have h1 := Kd.R_ne HR.out HBK.out (by decide); exact h1 (by rw [e]; rfl)
  have hgg' : ¬ (gi = g) := fun e => hgg e.symm
  go_wp2_with fail
  rw [hwl]
  go_region
  generalize hw2 : World.drew _ = w2
  have HBK2 := Aside0.mk (show w2.heap[g]? = some (.cells #[.slice (some ⟨gi, 0, none⟩) (n + 1) co, LESS] 63 (0, 0)) from by rw [← hw2]; exact blk_far HBK.out hgg _)
  have HR2 := Aside0.mk (show Kd.R (Kd.int .i64) 3 w2 w0.heap.size P (.slice (some ⟨gi, 0, none⟩) (n + 1) co) (l.set 0 b) from by rw [← hw2]; exact Kd.R_putn HR.out (0 : Int) b)
  have HB2 := Aside0.mk (show Below w0.heap.size w0 w2 from by rw [← hw2]; exact below_drew1 (below_set HB.out HGI.out))
  have HK2 := Aside0.mk (show Kept w w2 (fun k => P k ∨ k = g) from by rw [← hw2]; exact Kept.setCell (Kept.refl w _) (.inl (.inl (HR.out.1 gi rfl))) _)
  have hc0' : w2.cell? ⟨g, 0, none⟩ = some (.slice (some ⟨gi, 0, none⟩) (n + 1) co) := (blk_cell HBK2.out 0).trans rfl
  have hf0' := blk_frozen HBK2.out 0
  clear hw2 hc0 hf0 ca' cb' fa'
  go_wp2_with fail
  generalize hw3 : World.setCell _ _ _ = w3
  have HBK3 := Aside0.mk (show w3.heap[g]? = some (.cells #[.slice (some ⟨gi, 0, none⟩) n co, LESS] 63 (0, 0)) from by rw [← hw3]; exact blk_put HBK2.out 0 _ rfl)
  have HR3 := Aside0.mk (show Kd.R (Kd.int .i64) 3 w3 w0.heap.size P (.slice (some ⟨gi, 0, none⟩) n co) ((l.set 0 b).take n) from by rw [← hw3]; exact Kd.R_take (Kd.R_set HR2.out HBK2.out (by decide) 0 _) (by rw [List.length_set, HN.out]; omega))
  have HB3 := Aside0.mk (show Below w0.heap.size w0 w3 from by rw [← hw3]; exact below_set HB2.out HG.out)
  have HK3 := Aside0.mk (show Kept w w3 (fun k => P k ∨ k = g) from by rw [← hw3]; exact Kept.setCell HK2.out (.inl (.inr rfl)) _)
  clear hw3 hc0' hf0' HBK2 HR2 HB2 HK2
  have HP := Aside0.mk (show siftDn n ((l.set 0 b).take n) 0 = popL l from by rw [popL, HN.out, Nat.add_sub_cancel, HBb.out])
  have HYL := Aside0.mk (show ((l.set 0 b).take n).length = n from by rw [List.length_take, List.length_set, HN.out]; omega)
  go_loopg [5] (n + 1) (fun kq v5 w' => ∃ (i : Nat) (y : List Int), v5 = .int .i64 (i : Int) ∧ Aside0 (n - i < kq ∧ (i < n ∨ i = 0) ∧ y.length = n) ∧ Aside0 (siftDn n y i = popL l) ∧ Aside0 (w'.heap[g]? = some (.cells #[.slice (some ⟨gi, 0, none⟩) n co, LESS] 63 (0, 0))) ∧ Aside0 (Kd.R (Kd.int .i64) 3 w' w0.heap.size P (.slice (some ⟨gi, 0, none⟩) n co) y) ∧ Aside0 (Kept w w' (fun k => P k ∨ k = g)) ∧ Aside0 (Below w0.heap.size w0 w'))
  case atStart => exact ⟨0, (l.set 0 b).take n, rfl, ⟨by omega, .inr rfl, HYL.out⟩, HP, HBK3, HR3, HK3, HB3⟩
  case round =>
    clear HBK3 HR3 HK3 HB3 HR HB HBK HP HYL
    obtain ⟨i, y, rfl, HI, HS, HBK, HR, HK, HB⟩ := hrel
    have hc0 : wr.cell? ⟨g, 0, none⟩ = some (.slice (some ⟨gi, 0, none⟩) n co) := (blk_cell HBK.out 0).trans rfl
    have hc1 : wr.cell? ⟨g, 1, none⟩ = some LESS := (blk_cell HBK.out 1).trans rfl
    have D2 := Aside0.mk (show wrap64 (wrap64 (2 * (i : Int)) + 1) = ((2 * i + 1 : Nat) : Int) from by have := HI.out; have := HL.out; have := HN.out; unfold wrap64; omega)
    have D4 := Aside0.mk (show wrap64 (wrap64 (2 * (i : Int)) + 2) = ((2 * i + 2 : Nat) : Int) from by have := HI.out; have := HL.out; have := HN.out; unfold wrap64; omega)
    go_wp2_with fail
    rw [D2.out]
    clear hc0 hc1
    go_loopg [6, 7] 3 (fun kq v6 v7 w' => ∃ (lt j c : Nat), v6 = .int .i64 (lt : Int) ∧ v7 = .int .i64 (c : Int) ∧ Aside0 (2 - j < kq ∧ j ≤ 2 ∧ lt = leastAt n y i j ∧ c = 2 * i + 1 + j) ∧ Aside0 (w'.heap[g]? = some (.cells #[.slice (some ⟨gi, 0, none⟩) n co, LESS] 63 (0, 0))) ∧ Aside0 (Kd.R (Kd.int .i64) 3 w' w0.heap.size P (.slice (some ⟨gi, 0, none⟩) n co) y) ∧ Aside0 (Kept w w' (fun k => P k ∨ k = g)) ∧ Aside0 (Below w0.heap.size w0 w'))
    case atStart => exact ⟨i, 0, 2 * i + 1, rfl, rfl, ⟨by omega, by omega, rfl, rfl⟩, HBK, HR, HK, HB⟩
    case round =>
      clear HBK HR HK HB
      obtain ⟨lt, j, c, rfl, rfl, HJ, HBK, HR, HK, HB⟩ := hrel
      have hc0 : wr.cell? ⟨g, 0, none⟩ = some (.slice (some ⟨gi, 0, none⟩) n co) := (blk_cell HBK.out 0).trans rfl
      have hc1 : wr.cell? ⟨g, 1, none⟩ = some LESS := (blk_cell HBK.out 1).trans rfl
      by_cases hin : j < 2 ∧ c < n
      · have t3 : (c : Int) ≤ wrap64 (wrap64 (2 * (i : Int)) + 2) := by rw [D4.out]; have := HJ.out; omega
        have t4 : (c : Int) < (n : Int) := by omega
        have hl : lt < n := by have := HJ.out; have := leastAt_lt n y i j; omega
        have t5 : (lt : Int) < (n : Int) := by omega
        obtain ⟨ca, -⟩ := Kd.R_celln 0 HR.out (c : Int) (by omega) (by omega)
        obtain ⟨cb, -⟩ := Kd.R_celln 0 HR.out (lt : Int) (by omega) (by omega)
        obtain ⟨aa, haa⟩ : ∃ aa, y.getD c 0 = aa := ⟨_, rfl⟩
        obtain ⟨bb, hbb⟩ : ∃ bb, y.getD lt 0 = bb := ⟨_, rfl⟩
        have ca' : wr.cell? ⟨gi, c, none⟩ = some (.int .i64 aa) := by rw [← haa]; exact ca
        have cb' : wr.cell? ⟨gi, lt, none⟩ = some (.int .i64 bb) := by rw [← hbb]; exact cb
        have HAA := Aside0.mk haa
        have HBB := Aside0.mk hbb
        have HIN := Aside0.mk hin
        clear ca cb haa hbb hl hin
        go_wp2_with fail
        go_quiet ((go_at_call 45; exact Calls.quiet_of_same (rising_calls _ _ _)))
        by_cases hlt : aa < bb
        · go_wp2
          go_roundg (2 - (j + 1) + 1)
          case measure => have := HJ.out; have := HIN.out; omega
          case rel =>
            have hwc : wrap64 ((c : Int) + 1) = ((c + 1 : Nat) : Int) := by have := HIN.out; have := HL.out; have := HN.out; unfold wrap64; omega
            refine ⟨c, j + 1, c + 1, rfl, by rw [hwc], ⟨by omega, by have := HIN.out; omega, ?_, by have := HJ.out; omega⟩, ⟨blk_drewN HBK.out _⟩, ⟨Kd.R_drewN HR.out _⟩, ⟨Kept.drewN HK.out _⟩, ⟨pw_below_drewN HB.out _⟩⟩
            rw [leastAt_step, if_pos (by rw [← HJ.out.2.2.1, ← HJ.out.2.2.2, HAA.out, HBB.out]; exact ⟨HIN.out.2, hlt⟩)]
            exact HJ.out.2.2.2
        · go_wp2
          go_roundg (2 - (j + 1) + 1)
          case measure => have := HJ.out; have := HIN.out; omega
          case rel =>
            have hwc : wrap64 ((c : Int) + 1) = ((c + 1 : Nat) : Int) := by have := HIN.out; have := HL.out; have := HN.out; unfold wrap64; omega
            refine ⟨lt, j + 1, c + 1, rfl, by rw [hwc], ⟨by omega, by have := HIN.out; omega, ?_, by have := HJ.out; omega⟩, ⟨blk_drewN HBK.out _⟩, ⟨Kd.R_drewN HR.out _⟩, ⟨Kept.drewN HK.out _⟩, ⟨pw_below_drewN HB.out _⟩⟩
            rw [leastAt_step, if_neg (by rw [← HJ.out.2.2.1, ← HJ.out.2.2.2, HAA.out, HBB.out]; exact fun h => by have := h.2; omega)]
            exact HJ.out.2.2.1
      · have HLO := Aside0.mk (pop_least n y i j c lt HJ.out.2.1 HJ.out.2.2.1 HJ.out.2.2.2 hin)
        have hcc := pop_exit n i j c HJ.out.2.1 HJ.out.2.2.2 hin
        obtain ⟨tp, htp⟩ : ∃ tp, tp = 2 * i + 2 := ⟨_, rfl⟩
        have D5 := D4.out
        rw [← htp] at D5 hcc
        clear htp
        clear hin
        by_cases hs : lt = i
        · have hsi : (lt : Int) = (i : Int) := by rw [hs]
          obtain ⟨t3, t4⟩ | t3 := hcc
          · have t5 : decide ((c : Int) ≤ (tp : Int)) = true := decide_eq_true t3
            have t6 : decide ((c : Int) < (n : Int)) = false := decide_eq_false (Int.not_lt.mpr t4)
            go_wp2
            go_ret
            refine ⟨_, rfl, HBK.out, ?_, HB.out, HK.out⟩
            rw [← HS.out, siftDn_stop _ _ _ (by rw [← HLO.out]; exact hs)]
            exact HR.out
          · have t5 : decide ((c : Int) ≤ (tp : Int)) = false := decide_eq_false (Int.not_le.mpr t3)
            go_wp2
            go_ret
            refine ⟨_, rfl, HBK.out, ?_, HB.out, HK.out⟩
            rw [← HS.out, siftDn_stop _ _ _ (by rw [← HLO.out]; exact hs)]
            exact HR.out
        · have hsi : ¬ ((lt : Int) = (i : Int)) := by omega
          have hli : lt < n ∧ i < lt := by
            have h1 := leastAt_lt n y i j
            have h2 := leastOf_ge n y i
            have h3 := HLO.out
            have h4 := HJ.out
            omega
          have hiu : ¬ (i = lt) := by omega
          have HLI := Aside0.mk hli
          have t5 : (lt : Int) < (n : Int) := by omega
          have t6 : (i : Int) < (n : Int) := by omega
          obtain ⟨ca, fa⟩ := Kd.R_celln 0 HR.out (i : Int) (by omega) (by omega)
          obtain ⟨cb, fb⟩ := Kd.R_celln 0 HR.out (lt : Int) (by omega) (by omega)
          obtain ⟨aa, haa⟩ : ∃ aa, y.getD i 0 = aa := ⟨_, rfl⟩
          obtain ⟨bb, hbb⟩ : ∃ bb, y.getD lt 0 = bb := ⟨_, rfl⟩
          have ca' : wr.cell? ⟨gi, i, none⟩ = some (.int .i64 aa) := by rw [← haa]; exact ca
          have cb' : wr.cell? ⟨gi, lt, none⟩ = some (.int .i64 bb) := by rw [← hbb]; exact cb
          have fa' : wr.frozen? ⟨gi, i, none⟩ = false := fa
          have fb' : wr.frozen? ⟨gi, lt, none⟩ = false := fb
          have HAA := Aside0.mk haa
          have HBB := Aside0.mk hbb
          clear ca cb fa fb haa hbb hli
          obtain ⟨t3, t4⟩ | t3 := hcc
          · have t7 : decide ((c : Int) ≤ (tp : Int)) = true := decide_eq_true t3
            have t8 : decide ((c : Int) < (n : Int)) = false := decide_eq_false (Int.not_lt.mpr t4)
            go_wp2_with fail
            go_region
            go_wp2
            go_roundg (n - lt + 1)
            case measure => have := HLI.out; have := HI.out; omega
            case rel =>
              have hgB : w0.heap.size ≤ gi := Kd.R_base HR.out _ rfl
              have hSg : (P gi ∨ gi = g) ∨ w.heap.size ≤ gi := .inl (.inl (HR.out.1 gi rfl))
              have hsw : siftDn n y i = siftDn n (swp y i lt) lt := by rw [HLO.out]; exact siftDn_go n y i (by rw [← HLO.out]; exact hs)
              have hR1 := Kd.R_putn (Kd.R_putn HR.out (i : Int) bb) (lt : Int) aa
              refine ⟨lt, swp y i lt, rfl, ⟨by omega, .inl HLI.out.1, by rw [swp_length]; exact HI.out.2.2⟩, ⟨by rw [← hsw]; exact HS.out⟩, ⟨?_⟩, ⟨?_⟩, ⟨?_⟩, ⟨?_⟩⟩
              · exact blk_far (blk_far HBK.out hgg _) hgg _
              · have e : swp y i lt = (y.set (i : Int).toNat bb).set (lt : Int).toNat aa := by simp only [swp, HAA.out, HBB.out, Int.toNat_natCast]
                rw [e]
                exact hR1
              · exact Kept.setCell (Kept.setCell HK.out hSg _) hSg _
              · exact below_drew1 (below_set (below_set HB.out hgB) hgB)
          · have t7 : decide ((c : Int) ≤ (tp : Int)) = false := decide_eq_false (Int.not_le.mpr t3)
            go_wp2_with fail
            go_region
            go_wp2
            go_roundg (n - lt + 1)
            case measure => have := HLI.out; have := HI.out; omega
            case rel =>
              have hgB : w0.heap.size ≤ gi := Kd.R_base HR.out _ rfl
              have hSg : (P gi ∨ gi = g) ∨ w.heap.size ≤ gi := .inl (.inl (HR.out.1 gi rfl))
              have hsw : siftDn n y i = siftDn n (swp y i lt) lt := by rw [HLO.out]; exact siftDn_go n y i (by rw [← HLO.out]; exact hs)
              have hR1 := Kd.R_putn (Kd.R_putn HR.out (i : Int) bb) (lt : Int) aa
              refine ⟨lt, swp y i lt, rfl, ⟨by omega, .inl HLI.out.1, by rw [swp_length]; exact HI.out.2.2⟩, ⟨by rw [← hsw]; exact HS.out⟩, ⟨?_⟩, ⟨?_⟩, ⟨?_⟩, ⟨?_⟩⟩
              · exact blk_far (blk_far HBK.out hgg _) hgg _
              · have e : swp y i lt = (y.set (i : Int).toNat bb).set (lt : Int).toNat aa := by simp only [swp, HAA.out, HBB.out, Int.toNat_natCast]
                rw [e]
                exact hR1
              · exact Kept.setCell (Kept.setCell HK.out hSg _) hSg _
              · exact below_drew1 (below_set (below_set HB.out hgB) hgB)
end Go.Proofs.Ytbahnialbffkeaa.P
namespace Go.Proofs.Ytbahnialbffkeaa.P
open Go.RowKit Go.Proofs.YtbahnialbffkeaaW.PrintWords Go.Proofs.YtbahnialbffkeaaW.PrintLast Go.Proofs.YtbahnialbffkeaaW.PrintMore
set_option linter.unusedVariables false
abbrev RI (w' w0 : World) (v : Value) (xs : List Int) : Prop := Kd.R (Kd.int .i64) 3 w' w0.heap.size (fun k => some k = v.ownBlock) v xs
section
variable {w0 w' w1 : World} {M g gd : Nat} {dc : Array Value} {vW vB vT vH vN : Value} {W T H N : List Int} {B : List (List Int)}
/-- a row of which nothing is touched -/
theorem RI.keep {v : Value} {xs : List Int} (h : RI w' w0 v xs) (hm : ∀ k, v.ownBlock = some k → w1.heap[k]? = w'.heap[k]?) : RI w1 w0 v xs := Kd.R_step h (fun k hk _ => hm k hk.symm)
theorem RI.nil (w' w0 : World) : RI w' w0 (.slice none 0 0) [] := Kd.R_nil _ _ _ _ _
end
end Go.Proofs.Ytbahnialbffkeaa.P
namespace Go.Proofs.Ytbahnialbffkeaa.P
open Go.RowKit Go.Proofs.YtbahnialbffkeaaW.PrintWords Go.Proofs.YtbahnialbffkeaaW.PrintLast Go.Proofs.YtbahnialbffkeaaW.PrintMore
set_option linter.unusedVariables false
theorem stepI (i n : Nat) (h : i < n) (hn : n ≤ 1000000) : Value.int .i64 (wrap64 ((i : Int) + 1)) = .int .i64 ((i + 1 : Nat) : Int) := by
  rw [show wrap64 ((i : Int) + 1) = ((i + 1 : Nat) : Int) from by unfold wrap64; omega]
/-- one more time is done at t -/
def addR (L : List S70) (t : Int) : List S70 :=
  if 0 < L.length ∧ (rd_T70 L ((L.length : Int) - 1)).f0 = t then L.set ((L.length : Int) - 1).toNat ⟨(rd_T70 L ((L.length : Int) - 1)).f0, wrap64 ((rd_T70 L ((L.length : Int) - 1)).f1 + 1), (rd_T70 L ((L.length : Int) - 1)).f2⟩
  else L ++ [⟨t, 1, 0⟩]
def grpR : Nat → List Int → List S70 → List S70
  | 0, _, L => L
  | d + 1, H, L => grpR d (popL H) (addR L (H.getD 0 0))
def dag_rows.l1 : Nat → Int → List (S70) → Int → Int → Option ((List (S70)))
  | 0, _, _, _, _ => none
  | k + 1, x1, x5, x49, x50 => if x50 < x49 then (if 0 ≤ x50 then (if x50 < (x5.length : Int) then ((some (x5.set (x50 : Int).toNat (⟨(rd_T70 x5 x50).f0, (rd_T70 x5 x50).f1, (rd_T70 x5 x50).f0⟩ : S70) : List (S70))).bind fun y112 => (if x50 > 0 then (if ((rd_T70 y112 x50).f1) = x1 then (if 0 ≤ (wrap64 (x50 - 1)) then (if (wrap64 (x50 - 1)) < (x5.length : Int) then (if ((rd_T70 y112 (wrap64 (x50 - 1))).f1) = x1 then (if ((rd_T70 y112 (wrap64 (x50 - 1))).f0) = (wrap64 (((rd_T70 y112 x50).f0) - 1)) then (dag_rows.l1 k x1 (y112.set (x50 : Int).toNat (⟨(rd_T70 y112 x50).f0, (rd_T70 y112 x50).f1, (rd_T70 y112 (wrap64 (x50 - 1))).f2⟩ : S70)) x49 (wrap64 (x50 + 1))) else (dag_rows.l1 k x1 y112 x49 (wrap64 (x50 + 1)))) else (dag_rows.l1 k x1 y112 x49 (wrap64 (x50 + 1)))) else (none)) else (none)) else (dag_rows.l1 k x1 y112 x49 (wrap64 (x50 + 1)))) else (dag_rows.l1 k x1 y112 x49 (wrap64 (x50 + 1))))) else (none)) else (none)) else (some x5)
def dag_rows.f (k : Nat) (T : List Int) (p : Int) : Option (List S70) := if T.length ≤ 1000000 then dag_rows.l1 k p (grpR T.length (T.foldl pushL []) []) ((grpR T.length (T.foldl pushL []) []).length : Int) 0 else none
theorem addR_length (L : List S70) (t : Int) : (addR L t).length ≤ L.length + 1 := by
  unfold addR
  split
  · rw [List.length_set]; omega
  · simp
theorem pushes_length (T H : List Int) : (T.foldl pushL H).length = H.length + T.length := by
  induction T generalizing H with
  | nil => rfl
  | cons x T ih => rw [List.foldl_cons, ih, pushL_length, List.length_cons]; omega
structure WI (w0 : World) (g : Nat) (vH vL : Value) (w' : World) (H : List Int) (L : List S70) : Prop where
  below : Below w0.heap.size w0 w'
  base : w0.heap.size ≤ g
  blk : w'.heap[g]? = some (.cells #[vH, LESS] 63 (0, 0))
  rH : RI w' w0 vH H
  rL : Kd.R k70 70 w' w0.heap.size (fun k => some k = vL.ownBlock) vL L
  HL : ∀ k, vH.ownBlock = some k → vL.ownBlock ≠ some k
section
variable {w0 w' w1 : World} {g : Nat} {vH vL : Value} {H : List Int} {L : List S70}
theorem WI.drewN (h : WI w0 g vH vL w' H L) (m : Nat) : WI w0 g vH vL (w'.drewN m) H L :=
  { h with
    below := pw_below_drewN h.below m
    blk := h.blk
    rH := Kd.R_drewN h.rH m
    rL := Kd.R_drewN h.rL m }
theorem WI.L_ne_g (h : WI w0 g vH vL w' H L) : ∀ k, vL.ownBlock = some k → k ≠ g := fun k hk e => Kd.R_ne h.rL h.blk (by decide) (by rw [← e]; exact hk.symm)
theorem WI.turnH (h : WI w0 g vH vL w' H L) {v' : Value} {H' : List Int} {ok : Nat → Prop} (hok : ∀ k, ok k → some k = vH.ownBlock ∨ w'.heap.size ≤ k)
    (hblk : w1.heap[g]? = some (.cells #[v', LESS] 63 (0, 0))) (hR : Kd.R (Kd.int .i64) 3 w1 w0.heap.size ok v' H') (hB : Below w0.heap.size w0 w1) (hK : Kept w' w1 (fun k => some k = vH.ownBlock ∨ k = g)) :
    WI w0 g v' vL w1 H' L :=
  have own : ∀ k, v'.ownBlock = some k → vH.ownBlock = some k ∨ w'.heap.size ≤ k := fun k hk => (hok k (hR.1 k hk)).imp (fun e => e.symm) id
  have keep : ∀ k, k < w'.heap.size → vH.ownBlock ≠ some k → k ≠ g → w1.heap[k]? = w'.heap[k]? := fun k hk h1 h2 => hK.2 k hk (fun e => e.elim (fun e => h1 e.symm) h2)
  { h with
    below := hB
    blk := hblk
    rH := Kd.R_mono (Kd.R_tight rfl hR) (fun _ hk => hk)
    rL := Kd.R_step h.rL (fun k hk hlt => keep k hlt (fun e => h.HL k e hk.symm) (h.L_ne_g k hk.symm))
    HL := fun k hk e => (own k hk).elim (fun e2 => h.HL k e2 e) (fun e2 => by have := Kd.R_lt h.rL k e; omega) }
theorem WI.turnL (h : WI w0 g vH vL w' H L) {v' : Value} {L' : List S70} {ok : Nat → Prop} (hok : ∀ k, ok k → some k = vL.ownBlock ∨ w'.heap.size ≤ k)
    (hR : Kd.R k70 70 w1 w0.heap.size ok v' L') (hB : Below w0.heap.size w0 w1) (hK : Kept w' w1 (fun k => some k = vL.ownBlock)) :
    WI w0 g vH v' w1 H L' :=
  have own : ∀ k, v'.ownBlock = some k → vL.ownBlock = some k ∨ w'.heap.size ≤ k := fun k hk => (hok k (hR.1 k hk)).imp (fun e => e.symm) id
  have keep : ∀ k, k < w'.heap.size → vL.ownBlock ≠ some k → w1.heap[k]? = w'.heap[k]? := fun k hk h1 => hK.2 k hk (fun e => h1 e.symm)
  { h with
    below := hB
    blk := (keep g (blk_lt h.blk) (fun e => h.L_ne_g g e rfl)).trans h.blk
    rH := h.rH.keep (fun k hk => keep k (Kd.R_lt h.rH k hk) (h.HL k hk))
    rL := Kd.R_mono (Kd.R_tight rfl hR) (fun _ hk => hk)
    HL := fun k hk e => (own k e).elim (h.HL k hk) (fun e2 => by have := Kd.R_lt h.rH k hk; omega) }
/-- a store into the rows -/
theorem WI.setL {go n c : Nat} (h : WI w0 g vH (.slice (some ⟨go, 0, none⟩) n c) w' H L) {p : Nat} {u : Value} {L' : List S70}
    (hR : Kd.R k70 70 (w'.setCell ⟨go, p, none⟩ u) w0.heap.size (fun k => some k = (Value.slice (some ⟨go, 0, none⟩) n c).ownBlock) (.slice (some ⟨go, 0, none⟩) n c) L') :
    WI w0 g vH (.slice (some ⟨go, 0, none⟩) n c) (w'.setCell ⟨go, p, none⟩ u) H L' :=
  have keep : ∀ k, k ≠ go → (w'.setCell ⟨go, p, none⟩ u).heap[k]? = w'.heap[k]? := fun k hk => Below.heap_setCell w' ⟨go, p, none⟩ _ k hk
  { h with
    below := below_set h.below (Kd.R_base h.rL go rfl)
    blk := (keep g (fun e => h.L_ne_g go rfl e.symm)).trans h.blk
    rH := h.rH.keep (fun k hk => keep k (fun e => h.HL k hk (by rw [e]; rfl)))
    rL := hR }
/-- as it begins -/
theorem WI.start (hB0 : Below w0.heap.size w0 w') (hB : Below w'.heap.size w' w1) (hg : g = w'.heap.size) (hblk : w1.heap[g]? = some (.cells #[.slice none 0 0, LESS] 63 (0, 0))) :
    WI w0 g (.slice none 0 0) (.slice none 0 0) w1 [] [] where
  below := below_then hB0 hB0.size hB
  base := by rw [hg]; exact hB0.size
  blk := hblk
  rH := RI.nil _ _
  rL := Kd.R_nil _ _ _ _ _
  HL := fun k hk => by simp [Value.ownBlock] at hk
end
end Go.Proofs.Ytbahnialbffkeaa.P
namespace Go.Proofs.Ytbahnialbffkeaa.P
open Go.RowKit Go.Proofs.YtbahnialbffkeaaW.PrintWords Go.Proofs.YtbahnialbffkeaaW.PrintLast Go.Proofs.YtbahnialbffkeaaW.PrintMore
set_option linter.unusedVariables false
set_option linter.unusedSimpArgs false
set_option maxHeartbeats 8000000 in
set_option maxRecDepth 100000 in
theorem dag_rows.calls (k : Nat) (A0 : Option Addr) (c0 : Nat) (l0 : List Int) (a1 : Int) (r : List S70) (w : World) (hr0 : Kd.C (Kd.int .i64) w A0 l0.length l0) (hc0 : l0.length ≤ c0) (h : dag_rows.f k l0 a1 = some r) :
    Calls Try.prog 49 #[.slice A0 l0.length c0, .int .i64 a1] w fun e w' => ∃ v0_ : Value, e = .returned (v0_) ∧ Kd.R k70 70 w' w.heap.size (fun _ => True) v0_ r ∧ Below w.heap.size w w' := by
  unfold dag_rows.f at h
  by_cases hb : l0.length ≤ 1000000
  rotate_left
  · rw [if_neg hb] at h
    exact absurd h (by simp)
  rw [if_pos hb] at h
  have HN := Aside0.mk hb
  have HRR := Aside0.mk h
  clear h hb
  have hu70 := Try.underlying70
  have HR0 := Aside0.mk hr0
  have HC0 := Aside0.mk hc0
  clear hr0 hc0
  have HB := Aside0.mk (Below.refl w.heap.size w)
  go_enter Try.func49, Try.ntmps49
  go_wp2_with (first | ((with_reducible refine gate_dst (N := 13) rfl ?_); (try (refine gate_guard (by rfl) ?_; dsimp only)); refine box_event ?hg (N := 13) ?hd (cs := #[.slice none 0 0, LESS]) (t := 63) ?hr ?_; (case hd => rfl); (case hg => rfl); (case hr => first | (go_simp; done) | (go_simp; rfl)); intro gh hg w50 hbox hb; have HG := Aside0.mk (WI.start HB.out hb hg hbox); clear hbox hb HB hg))
  go_loopg [16] l0.length (fun kq v16 w' => ∃ (vH : Value) (Hp : List Int) (i : Nat), v16 = .int .i64 (i : Int) ∧ Aside0 (kq + i = l0.length) ∧ Aside0 (Hp = (l0.take i).foldl pushL []) ∧ Aside0 (WI w gh vH (.slice none 0 0) w' Hp []))
  case atStart => exact ⟨_, [], 0, rfl, ⟨rfl⟩, ⟨rfl⟩, HG⟩
  case round =>
    clear HG
    obtain ⟨vH, Hp, i, rfl, HK, HP, HG⟩ := hrel
    by_cases hi : i < l0.length
    · have c1 : decide ((i : Int) < (l0.length : Int)) = true := decide_eq_true (by omega)
      have c1n : decide (i < l0.length) = true := decide_eq_true hi
      have p1 : 0 ≤ (i : Int) := by omega
      have q1 : (i : Int) < (l0.length : Int) := by omega
      obtain ⟨ad1, e1, hx1⟩ := Kd.at_int HR0.out (i : Int) p1 q1
      cases e1
      simp only [Int.toNat_natCast] at hx1
      replace hx1 := (HG.out.below.cell (World.block_lt_of_cell? w _ hx1)).trans hx1
      have HT := Aside0.mk (show (l0.take (i + 1)).foldl pushL [] = pushL Hp (rd l0 (i : Int)) from by
        rw [List.take_succ_eq_append_getElem hi, List.foldl_append, ← HP.out]
        unfold rd
        simp [List.getD_eq_getElem?_getD, List.getElem?_eq_getElem hi])
      have HC := Aside0.mk (show Hp.length + 1 ≤ 1048576 from by
        rw [HP.out, pushes_length, List.length_take]
        have := HN.out
        simp
        omega)
      obtain ⟨x, hx⟩ : ∃ x, rd l0 (i : Int) = x := ⟨_, rfl⟩
      rw [hx] at hx1 HT
      clear hx
      go_wp2_with (first | ((with_reducible refine gate_callee (f := 46) rfl ?_); refine goesL_ (some 22) rfl rfl Try.func46 (by kernel_rfl) rfl #[.pointer (some ⟨gh, 0, none⟩), .int .i64 x] rfl (by (try simp only [List.map_toArray, List.map_cons, List.map_nil]); first | done | rfl | (simp only [List.length_drop, List.length_take]; rfl)) ?_; refine (push_calls gh _ Hp x (fun k => some k = Value.ownBlock vH) w _ (by first | exact HG.out.below | exact (HG.out.drewN _).below) HG.out.base (by first | exact HG.out.blk | exact (HG.out.drewN _).blk) (by first | exact HG.out.rH | exact (HG.out.drewN _).rH) HC.out).mono ?_; rintro e w60 ⟨v1, rfl, hblk, hR, hB, hK⟩; refine ⟨_, rfl, ?_⟩; have HG1 := Aside0.mk (HG.out.turnH (fun k hk => hk.imp id id) hblk hR hB hK); clear HG hblk hR hB hK))
      go_roundg (gk - 1)
      case measure => have := HK.out; omega
      case rel => exact ⟨_, pushL Hp x, i + 1, stepI i _ hi HN.out, ⟨by have := HK.out; omega⟩, ⟨HT.out.symm⟩, by first | exact HG1 | exact ⟨HG1.out.drewN _⟩⟩
    · have c1 : decide ((i : Int) < (l0.length : Int)) = false := decide_eq_false (by omega)
      have c1n : decide (i < l0.length) = false := decide_eq_false hi
      have HP0 := Aside0.mk (show Hp = l0.foldl pushL [] from by rw [HP.out, List.take_of_length_le (by omega)])
      have HHL := Aside0.mk (show Hp.length = l0.length from by rw [HP0.out, pushes_length]; simp)
      clear HP HK hi
      go_wp2
      obtain ⟨hn, hhn⟩ : ∃ hn, hn = l0.length := ⟨_, rfl⟩
      go_loopg [8, 26] l0.length (fun kq v8 v26 w' => ∃ (vH : Value) (Hp : List Int) (L : List S70) (j : Nat), v26 = .int .i64 (j : Int) ∧ Aside0 (kq + j = l0.length) ∧ Aside0 (Hp.length = kq) ∧ Aside0 (L.length ≤ j) ∧ Aside0 (grpR kq Hp L = grpR l0.length (l0.foldl pushL []) []) ∧ Aside0 (WI w gh vH v8 w' Hp L))
      case atStart => exact ⟨_, Hp, [], 0, rfl, ⟨rfl⟩, HHL, ⟨by simp⟩, ⟨by rw [HP0.out]⟩, HG⟩
      case round =>
        clear HG HHL HP0 c1 c1n
        obtain ⟨vH, Hp, L, j, rfl, HK, HHL, HLL, HS, HG⟩ := hrel
        by_cases hj : j < l0.length
        · have c1 : decide ((j : Int) < (l0.length : Int)) = true := decide_eq_true (by omega)
          have c1n : decide (j < l0.length) = true := decide_eq_true hj
          obtain ⟨kq, rfl⟩ : ∃ m, gk = m + 1 := ⟨gk - 1, by have := HK.out; omega⟩
          have HC := Aside0.mk (show Hp.length ≤ 1048576 from by have := HK.out; have := HHL.out; have := HN.out; omega)
          have HP := Aside0.mk (show 0 < Hp.length from by have := HHL.out; omega)
          obtain ⟨x, hx⟩ : ∃ x, x = Hp.getD 0 0 := ⟨_, rfl⟩
          have HS2 := Aside0.mk (show grpR kq (popL Hp) (addR L x) = grpR l0.length (l0.foldl pushL []) [] from by rw [hx]; exact HS.out)
          have HXX := Aside0.mk hx
          have HHL2 := Aside0.mk (show (popL Hp).length = kq from by rw [popL_length]; have := HHL.out; omega)
          have HJ := Aside0.mk hj
          clear hx HS hj
          by_cases hL : 0 < L.length
          · obtain ⟨ji, hji⟩ : ∃ j_ : Int, wrap64 ((L.length : Int) - 1) = j_ := ⟨_, rfl⟩
            have hjiw : (IntKind.i64.wrap ((L.length : Int) - 1)) = ji := (i64_w _).trans hji
            have HJI := Aside0.mk (show ji = (L.length : Int) - 1 from by rw [← hji]; have := HLL.out; have := HN.out; have := HJ.out; unfold wrap64; omega)
            have PJ := Aside0.mk (show 0 ≤ ji from by have := HJI.out; omega)
            have QJ := Aside0.mk (show ji < (L.length : Int) from by have := HJI.out; omega)
            have c2 : decide (0 < (L.length : Int)) = true := decide_eq_true (by omega)
            have c2n : decide (0 < L.length) = true := decide_eq_true hL
            have p2 := eq_true PJ.out
            have q2 := eq_true QJ.out
            have c3 : decide (0 ≤ ji) = true := decide_eq_true PJ.out
            have c4 : decide (ji < (L.length : Int)) = true := decide_eq_true QJ.out
            obtain ⟨go, cL, eL, gbL, glL, csL, hgo⟩ := Kd.R_form HG.out.rL hL
            (first | cases eL | (injection eL with ea_ en_ ec_; (first | subst ea_ | (injection ea_ with ea_; subst ea_)); subst ec_; clear en_))
            clear gbL glL hgo
            have HLP := Aside0.mk hL
            clear hL
            by_cases h0 : (rd_T70 L ji).f0 = x
            · have c5 : ((rd_T70 L ji).f0 == x) = true := beq_iff_eq.mpr h0
              have c6 : ((rd_T70 L ji).f0 != x) = false := bne_eq_false_iff_eq.mpr h0
              have HAD := Aside0.mk (show addR L x = L.set (ji : Int).toNat (⟨(rd_T70 L ji).f0, wrap64 ((rd_T70 L ji).f1 + 1), (rd_T70 L ji).f2⟩ : S70) from by
                unfold addR
                rw [← HJI.out, if_pos ⟨HLP.out, h0⟩])
              clear h0
              go_wp2_with (first | ((with_reducible refine gate_callee (f := 47) rfl ?_); refine goesL_ (some 29) rfl rfl Try.func47 (by kernel_rfl) rfl #[.pointer (some ⟨gh, 0, none⟩)] rfl (by (try simp only [List.map_toArray, List.map_cons, List.map_nil]); first | done | rfl | (simp only [List.length_drop, List.length_take]; rfl)) ?_; refine (pop_calls gh _ Hp (fun k => some k = Value.ownBlock vH) w _ (by first | exact HG.out.below | exact (HG.out.drewN _).below) HG.out.base (by first | exact HG.out.blk | exact (HG.out.drewN _).blk) (by first | exact HG.out.rH | exact (HG.out.drewN _).rH) HC.out HP.out).mono ?_; rintro e w60 ⟨v1, he, hblk, hR, hB, hK⟩; rw [← HXX.out] at he; subst he; refine ⟨_, rfl, ?_⟩; have HG1 := Aside0.mk (HG.out.turnH (fun k hk => .inl hk) hblk hR hB hK); clear HG hblk hR hB hK; obtain ⟨ce, hcl, hM, hcc, hfr⟩ := Kd.R_elem HG1.out.rL z70 (ji : Int) PJ.out QJ.out; obtain rfl := k70_openM hM; have HSEG := Kd.R_seg HG1.out.rL (ji : Int) PJ.out QJ.out (seg := [.int .i64 (wrap64 ((rd_T70 L ji).f1 + 1))]) (j := 1) hcl hcc (show 2 ≤ 3 from by decide) (x' := (⟨(rd_T70 L ji).f0, wrap64 ((rd_T70 L ji).f1 + 1), (rd_T70 L ji).f2⟩ : S70)) (k70_mkM _ _ _ (⟨(rd_T70 L ji).f0, wrap64 ((rd_T70 L ji).f1 + 1), (rd_T70 L ji).f2⟩ : S70)) (fun _ hk => hk); have HSEG2 := Aside0.mk HSEG; clear HSEG; have hx_0 : w60.cell? ⟨go, (ji : Int).toNat * 3, none⟩ = some (.int .i64 (rd_T70 L ji).f0) := hcc 0 _ rfl; have hx_1 : w60.cell? ⟨go, (ji : Int).toNat * 3 + 1, none⟩ = some (.int .i64 (rd_T70 L ji).f1) := hcc 1 _ rfl; have hf_1 : w60.frozen? ⟨go, (ji : Int).toNat * 3 + 1, none⟩ = false := hfr 1; clear hcl hcc hfr hM) | ((with_reducible refine gate_store (t := 3) (p := 52) rfl ?_); refine store_event (t := 3) (p := 52) (v := ?vo_) (w1 := (w60.setCell ⟨go, (ji : Int).toNat * 3 + 1, none⟩ (.int .i64 (wrap64 ((rd_T70 L ji).f1 + 1))))) ?hg ?ho ?hn ?hr ?_; (case ho => rfl); (case hg => rfl); (case hn => rfl); (case hr => first | (go_simp; done) | (go_simp; rfl)); intro w70 hw; have HG2 := Aside0.mk (show WI w gh v1 (.slice (some ⟨go, 0, none⟩) L.length cL) w70 (popL Hp) (addR L x) from by rw [hw, HAD.out]; exact HG1.out.setL HSEG2.out.1); clear hw HG1 hx_0 hx_1 hf_1 HSEG2))
              go_roundg kq
              case measure => omega
              case rel => exact ⟨_, popL Hp, addR L x, j + 1, stepI j _ HJ.out HN.out, ⟨by have := HK.out; omega⟩, HHL2, ⟨by have := HLL.out; have := addR_length L x; omega⟩, HS2, by first | exact HG2 | exact ⟨HG2.out.drewN _⟩⟩
            · have c5 : ((rd_T70 L ji).f0 == x) = false := beq_eq_false_iff_ne.mpr h0
              have c6 : ((rd_T70 L ji).f0 != x) = true := bne_iff_ne.mpr h0
              have HAD := Aside0.mk (show addR L x = L ++ [(⟨x, 1, 0⟩ : S70)] from by
                unfold addR
                rw [← HJI.out, if_neg (fun h => h0 h.2)])
              clear h0
              go_wp2_with (first | ((with_reducible refine gate_callee (f := 47) rfl ?_); refine goesL_ (some 29) rfl rfl Try.func47 (by kernel_rfl) rfl #[.pointer (some ⟨gh, 0, none⟩)] rfl (by (try simp only [List.map_toArray, List.map_cons, List.map_nil]); first | done | rfl | (simp only [List.length_drop, List.length_take]; rfl)) ?_; refine (pop_calls gh _ Hp (fun k => some k = Value.ownBlock vH) w _ (by first | exact HG.out.below | exact (HG.out.drewN _).below) HG.out.base (by first | exact HG.out.blk | exact (HG.out.drewN _).blk) (by first | exact HG.out.rH | exact (HG.out.drewN _).rH) HC.out HP.out).mono ?_; rintro e w60 ⟨v1, he, hblk, hR, hB, hK⟩; rw [← HXX.out] at he; subst he; refine ⟨_, rfl, ?_⟩; have HG1 := Aside0.mk (HG.out.turnH (fun k hk => .inl hk) hblk hR hB hK); clear HG hblk hR hB hK; obtain ⟨ce, hcl, hM, hcc, hfr⟩ := Kd.R_elem HG1.out.rL z70 (ji : Int) PJ.out QJ.out; obtain rfl := k70_openM hM; have HSEG := Kd.R_seg HG1.out.rL (ji : Int) PJ.out QJ.out (seg := [.int .i64 (wrap64 ((rd_T70 L ji).f1 + 1))]) (j := 1) hcl hcc (show 2 ≤ 3 from by decide) (x' := (⟨(rd_T70 L ji).f0, wrap64 ((rd_T70 L ji).f1 + 1), (rd_T70 L ji).f2⟩ : S70)) (k70_mkM _ _ _ (⟨(rd_T70 L ji).f0, wrap64 ((rd_T70 L ji).f1 + 1), (rd_T70 L ji).f2⟩ : S70)) (fun _ hk => hk); have HSEG2 := Aside0.mk HSEG; clear HSEG; have hx_0 : w60.cell? ⟨go, (ji : Int).toNat * 3, none⟩ = some (.int .i64 (rd_T70 L ji).f0) := hcc 0 _ rfl; have hx_1 : w60.cell? ⟨go, (ji : Int).toNat * 3 + 1, none⟩ = some (.int .i64 (rd_T70 L ji).f1) := hcc 1 _ rfl; have hf_1 : w60.frozen? ⟨go, (ji : Int).toNat * 3 + 1, none⟩ = false := hfr 1; clear hcl hcc hfr hM) | ((with_reducible refine gate_builtin (b := .append) (xs := #[.tmp 53, .tmp 56]) rfl ?_); at_builtin; refine Kd.R_append k70 (w0 := w) w.heap.size rfl (.tmp 53) (.tmp 56) 67 70 (.agg #[(.int .i64 0), (.int .i64 0), (.int .i64 0)]) 24 rfl Try.underlying67 info70 rfl (by decide) (by omega) (.slice (some ⟨go, 0, none⟩) L.length cL) L (⟨x, 1, 0⟩ : S70) [.int .i64 x, .int .i64 1, .int .i64 0] (fun k => some k = Value.ownBlock (.slice (some ⟨go, 0, none⟩) L.length cL) ∨ w60.heap.size ≤ k) (fun _ => False) rfl rfl ?aP (fun _ hk => hk.elim) ?aF ?aO ?aB ?aS ?aL ?_; (case aP => exact k70_mkM _ _ _ (⟨x, 1, 0⟩ : S70)); (case aB => first | exact HG1.out.below | exact (HG1.out.drewN _).below); (case aF => exact fun k hk => .inr hk); (case aO => first | exact Kd.R_mono HG1.out.rL (fun k hk => .inl hk) | exact Kd.R_mono (HG1.out.drewN _).rL (fun k hk => .inl hk)); (case aS => exact HG1.out.below.size); (case aL => have := HLL.out; have := HN.out; have := HJ.out; omega); intro v2 w70 ho hb hg hat; rw [← HAD.out] at ho; have HG2 := Aside0.mk (HG1.out.turnL (fun k hk => hk) ho hb (Kept.of_grown hg (Kept.refl _ _) (fun k hk => .inl hk.symm))); clear ho hb hg hat))
              go_roundg kq
              case measure => omega
              case rel => exact ⟨_, popL Hp, addR L x, j + 1, stepI j _ HJ.out HN.out, ⟨by have := HK.out; omega⟩, HHL2, ⟨by have := HLL.out; have := addR_length L x; omega⟩, HS2, by first | exact HG2 | exact ⟨HG2.out.drewN _⟩⟩
          · have c2 : decide (0 < (L.length : Int)) = false := decide_eq_false (by omega)
            have c2n : decide (0 < L.length) = false := decide_eq_false hL
            have HAD := Aside0.mk (show addR L x = L ++ [(⟨x, 1, 0⟩ : S70)] from by
              unfold addR
              rw [if_neg (fun h => hL h.1)])
            clear hL
            obtain ⟨AL, cL, eL⟩ := Kd.R_slice HG.out.rL
            subst eL
            go_wp2_with (first | ((with_reducible refine gate_callee (f := 47) rfl ?_); refine goesL_ (some 29) rfl rfl Try.func47 (by kernel_rfl) rfl #[.pointer (some ⟨gh, 0, none⟩)] rfl (by (try simp only [List.map_toArray, List.map_cons, List.map_nil]); first | done | rfl | (simp only [List.length_drop, List.length_take]; rfl)) ?_; refine (pop_calls gh _ Hp (fun k => some k = Value.ownBlock vH) w _ (by first | exact HG.out.below | exact (HG.out.drewN _).below) HG.out.base (by first | exact HG.out.blk | exact (HG.out.drewN _).blk) (by first | exact HG.out.rH | exact (HG.out.drewN _).rH) HC.out HP.out).mono ?_; rintro e w60 ⟨v1, he, hblk, hR, hB, hK⟩; rw [← HXX.out] at he; subst he; refine ⟨_, rfl, ?_⟩; have HG1 := Aside0.mk (HG.out.turnH (fun k hk => .inl hk) hblk hR hB hK); clear HG hblk hR hB hK) | ((with_reducible refine gate_builtin (b := .append) (xs := #[.tmp 53, .tmp 56]) rfl ?_); at_builtin; refine Kd.R_append k70 (w0 := w) w.heap.size rfl (.tmp 53) (.tmp 56) 67 70 (.agg #[(.int .i64 0), (.int .i64 0), (.int .i64 0)]) 24 rfl Try.underlying67 info70 rfl (by decide) (by omega) (.slice AL L.length cL) L (⟨x, 1, 0⟩ : S70) [.int .i64 x, .int .i64 1, .int .i64 0] (fun k => some k = Value.ownBlock (.slice AL L.length cL) ∨ w60.heap.size ≤ k) (fun _ => False) rfl rfl ?aP (fun _ hk => hk.elim) ?aF ?aO ?aB ?aS ?aL ?_; (case aP => exact k70_mkM _ _ _ (⟨x, 1, 0⟩ : S70)); (case aB => first | exact HG1.out.below | exact (HG1.out.drewN _).below); (case aF => exact fun k hk => .inr hk); (case aO => first | exact Kd.R_mono HG1.out.rL (fun k hk => .inl hk) | exact Kd.R_mono (HG1.out.drewN _).rL (fun k hk => .inl hk)); (case aS => exact HG1.out.below.size); (case aL => have := HLL.out; have := HN.out; have := HJ.out; omega); intro v2 w70 ho hb hg hat; rw [← HAD.out] at ho; have HG2 := Aside0.mk (HG1.out.turnL (fun k hk => hk) ho hb (Kept.of_grown hg (Kept.refl _ _) (fun k hk => .inl hk.symm))); clear ho hb hg hat))
            go_roundg kq
            case measure => omega
            case rel => exact ⟨_, popL Hp, addR L x, j + 1, stepI j _ HJ.out HN.out, ⟨by have := HK.out; omega⟩, HHL2, ⟨by have := HLL.out; have := addR_length L x; omega⟩, HS2, by first | exact HG2 | exact ⟨HG2.out.drewN _⟩⟩
        · have c1 : decide ((j : Int) < (l0.length : Int)) = false := decide_eq_false (by omega)
          have c1n : decide (j < l0.length) = false := decide_eq_false hj
          have hz : gk = 0 := by have := HK.out; omega
          subst hz
          have HX := Aside0.mk (show L = grpR l0.length (l0.foldl pushL []) [] from HS.out)
          obtain ⟨AL, cL, eL⟩ := Kd.R_slice HG.out.rL
          subst eL
          obtain ⟨x5_1, hx5⟩ : ∃ x5_1, x5_1 = L := ⟨_, rfl⟩
          obtain ⟨Ao21, hAo⟩ : ∃ A_, A_ = AL := ⟨_, rfl⟩
          obtain ⟨co21, hco⟩ : ∃ c_, c_ = cL := ⟨_, rfl⟩
          obtain ⟨k1, hk1⟩ : ∃ k1, k1 = k := ⟨_, rfl⟩
          subst hx5 hAo hco
          have H' := Aside0.mk (show dag_rows.l1 k1 a1 x5_1 (x5_1.length : Int) 0 = some r from by rw [hk1, HX.out]; exact HRR.out)
          have HO_5 := Aside0.mk (show Kd.R k70 70 wr w.heap.size (fun _ => True) (.slice Ao21 x5_1.length co21) x5_1 from Kd.R_mono HG.out.rL (fun _ _ => trivial))
          have HB := Aside0.mk HG.out.below
          have HK1 := Aside0.mk (Nat.le_refl k1)
          clear HG HX HS HK HHL HLL HRR hj hk1
          go_wp2
          repeat (go_quiet (fail); try go_wp2)
          go_loopg [61] k1 (fun kq v50 w' => ∃ (x5_2 : List (S70)) (x50_2 : Int), v50 = .int .i64 x50_2 ∧ Aside0 (dag_rows.l1 kq a1 x5_2 (x5_1.length : Int) x50_2 = some r) ∧ Aside0 (kq ≤ k1) ∧ Aside0 (Kd.R k70 70 w' w.heap.size (fun _ => True) (.slice Ao21 x5_1.length co21) x5_2) ∧ Aside0 (Below w.heap.size w w'))
          case atStart => exact ⟨(x5_1), (0), (by first | rfl | (simp; done) | (simp [*]; done)), H', ⟨Nat.le_refl _⟩, ⟨by (with_reducible repeat (first | apply Kd.R_alloc | apply Kd.R_drewN | apply Kd.R_drew)); exact HO_5.out⟩, ⟨by repeat (first | (with_reducible first | exact HB.out | apply below_alloc | apply pw_below_drewN | apply below_drew1) | exact HB.out)⟩⟩
          case round =>
            clear H'
            try clear c1
            try clear p1
            try clear q1
            try clear hx1
            try clear p2
            try clear c3
            try clear c3b0
            try clear c4
            try clear c4b0
            try clear c5
            try clear c5b0
            try clear c6
            try clear c6b0
            try clear c6b1
            try clear p6
            try clear c8
            try clear c8b0
            try clear c9
            try clear c9b0
            try clear c10
            try clear c10b0
            try clear c10b1
            try clear p10
            try clear q10
            try clear hx10
            try clear c11
            try clear p11
            try clear q11
            try clear hx11
            try clear hf11
            try clear c13
            try clear hx13
            try clear hf13
            try clear c15
            try clear c18
            try clear hx101_0
            try clear hx102_0
            try clear hx102_1
            try clear hx102_2
            try clear hx103_0
            try clear hx103_1
            try clear hx103_2
            try clear hx11_0
            try clear hx11_1
            try clear hx11_2
            try clear hx13_1
            try clear p101
            try clear p102
            try clear p103
            try clear p11
            try clear p2
            try clear q101
            try clear q102
            try clear q103
            try clear q11
            obtain ⟨x5_2, x50_2, rfl, HA, HK2, HO_5, HB⟩ := hrel
            have hl5_2 := (Kd.R_reads' HO_5.out).1
            rw [hl5_2] at HO_5
            (try simp only [hl5_2])
            cases gk with
            | zero => exact absurd HA.out (by simp [dag_rows.l1])
            | succ k2 =>
              have H := HA.out
              clear HA
              simp only [dag_rows.l1] at H
              by_cases c22 : x50_2 < (x5_1.length : Int)
              · rw [if_pos c22] at H
                have c22b0 : decide (x50_2 < (x5_1.length : Int)) = true := decide_eq_true c22
                clear c22
                by_cases c23 : 0 ≤ x50_2
                · rw [if_pos c23] at H
                  have c23b0 : decide (0 ≤ x50_2) = true := decide_eq_true c23
                  clear c23
                  by_cases c24 : x50_2 < (x5_2.length : Int)
                  · rw [if_pos c24] at H
                    have c24b0 : decide (x50_2 < (x5_2.length : Int)) = true := decide_eq_true c24
                    clear c24
                    obtain ⟨y112, hy112⟩ : ∃ y_ : List (S70), y_ = (x5_2.set (x50_2 : Int).toNat (⟨(rd_T70 x5_2 x50_2).f0, (rd_T70 x5_2 x50_2).f1, (rd_T70 x5_2 x50_2).f0⟩ : S70)) := ⟨_, rfl⟩
                    replace H : (if x50_2 > 0 then (if ((rd_T70 y112 x50_2).f1) = a1 then (if 0 ≤ (wrap64 (x50_2 - 1)) then (if (wrap64 (x50_2 - 1)) < (x5_2.length : Int) then (if ((rd_T70 y112 (wrap64 (x50_2 - 1))).f1) = a1 then (if ((rd_T70 y112 (wrap64 (x50_2 - 1))).f0) = (wrap64 (((rd_T70 y112 x50_2).f0) - 1)) then (dag_rows.l1 k2 a1 (y112.set (x50_2 : Int).toNat (⟨(rd_T70 y112 x50_2).f0, (rd_T70 y112 x50_2).f1, (rd_T70 y112 (wrap64 (x50_2 - 1))).f2⟩ : S70)) (x5_1.length : Int) (wrap64 (x50_2 + 1))) else (dag_rows.l1 k2 a1 y112 (x5_1.length : Int) (wrap64 (x50_2 + 1)))) else (dag_rows.l1 k2 a1 y112 (x5_1.length : Int) (wrap64 (x50_2 + 1)))) else (none)) else (none)) else (dag_rows.l1 k2 a1 y112 (x5_1.length : Int) (wrap64 (x50_2 + 1)))) else (dag_rows.l1 k2 a1 y112 (x5_1.length : Int) (wrap64 (x50_2 + 1)))) = some r := by first | (rw [hy112]; with_reducible exact H) | (have H2_ := (Option.bind_some _ _).symm.trans H; rw [hy112]; with_reducible exact H2_) | (have H2_ := (Option.bind_some _ _).symm.trans H; with_reducible exact H2_) | with_reducible exact H | (rw [hy112]; exact H) | exact H
                    have Ny112 := Aside0.mk hy112
                    clear hy112
                    by_cases c26 : x50_2 > 0
                    · rw [if_pos c26] at H
                      have c26b0 : decide (0 < x50_2) = true := decide_eq_true c26
                      clear c26
                      by_cases c27 : ((rd_T70 y112 x50_2).f1) = a1
                      · rw [if_pos c27] at H
                        have c27b0 : (((rd_T70 y112 x50_2).f1) == a1) = true := beq_iff_eq.mpr c27
                        have c27b1 : (((rd_T70 y112 x50_2).f1) != a1) = false := bne_eq_false_iff_eq.mpr c27
                        clear c27
                        obtain ⟨ji28, hji28⟩ : ∃ j_ : Int, (wrap64 (x50_2 - 1)) = j_ := ⟨_, rfl⟩
                        replace H : (if 0 ≤ (ji28) then (if (ji28) < (x5_2.length : Int) then (if ((rd_T70 y112 (ji28)).f1) = a1 then (if ((rd_T70 y112 (ji28)).f0) = (wrap64 (((rd_T70 y112 x50_2).f0) - 1)) then (dag_rows.l1 k2 a1 (y112.set (x50_2 : Int).toNat (⟨(rd_T70 y112 x50_2).f0, (rd_T70 y112 x50_2).f1, (rd_T70 y112 (ji28)).f2⟩ : S70)) (x5_1.length : Int) (wrap64 (x50_2 + 1))) else (dag_rows.l1 k2 a1 y112 (x5_1.length : Int) (wrap64 (x50_2 + 1)))) else (dag_rows.l1 k2 a1 y112 (x5_1.length : Int) (wrap64 (x50_2 + 1)))) else (none)) else (none)) = some r := by first | (rw [hji28] at H; exact H) | (simp only [hji28] at H ⊢; exact H)
                        have hji28w : (IntKind.i64.wrap (x50_2 - 1)) = ji28 := (i64_w _).trans hji28
                        by_cases c29 : 0 ≤ (ji28)
                        · rw [if_pos c29] at H
                          have c29b0 : decide (0 ≤ (ji28)) = true := decide_eq_true c29
                          clear c29
                          by_cases c30 : (ji28) < (x5_2.length : Int)
                          · rw [if_pos c30] at H
                            have c30b0 : decide ((ji28) < (x5_2.length : Int)) = true := decide_eq_true c30
                            clear c30
                            by_cases c31 : ((rd_T70 y112 (ji28)).f1) = a1
                            · rw [if_pos c31] at H
                              have c31b0 : (((rd_T70 y112 (ji28)).f1) == a1) = true := beq_iff_eq.mpr c31
                              have c31b1 : (((rd_T70 y112 (ji28)).f1) != a1) = false := bne_eq_false_iff_eq.mpr c31
                              clear c31
                              by_cases c32 : ((rd_T70 y112 (ji28)).f0) = (wrap64 (((rd_T70 y112 x50_2).f0) - 1))
                              · rw [if_pos c32] at H
                                have c32b0 : (((rd_T70 y112 (ji28)).f0) == (wrap64 (((rd_T70 y112 x50_2).f0) - 1))) = true := beq_iff_eq.mpr c32
                                have c32b1 : (((rd_T70 y112 (ji28)).f0) != (wrap64 (((rd_T70 y112 x50_2).f0) - 1))) = false := bne_eq_false_iff_eq.mpr c32
                                clear c32
                                obtain ⟨y118, hy118⟩ : ∃ y_ : List (S70), y_ = (y112.set (x50_2 : Int).toNat (⟨(rd_T70 y112 x50_2).f0, (rd_T70 y112 x50_2).f1, (rd_T70 y112 (ji28)).f2⟩ : S70)) := ⟨_, rfl⟩
                                replace H : (dag_rows.l1 k2 a1 y118 (x5_1.length : Int) (wrap64 (x50_2 + 1))) = some r := by first | (rw [hy118]; with_reducible exact H) | (have H2_ := (Option.bind_some _ _).symm.trans H; rw [hy118]; with_reducible exact H2_) | (have H2_ := (Option.bind_some _ _).symm.trans H; with_reducible exact H2_) | with_reducible exact H | (rw [hy118]; exact H) | exact H
                                have Ny118 := Aside0.mk hy118
                                clear hy118
                                have H' := Aside0.mk H
                                clear H
                                have p111 : 0 ≤ (x50_2 : Int) := of_decide_eq_true (by first | (with_reducible assumption) | assumption)
                                have q111 : x50_2 < (x5_2.length : Int) := of_decide_eq_true (by first | (with_reducible assumption) | assumption)
                                obtain ⟨ad111, e111, hx111_0, hx111_1, hx111_2⟩ := at_T70 (Kd.R_reads' HO_5.out).2.2 x50_2 p111 q111
                                cases e111
                                replace p111 := eq_true p111
                                replace q111 := eq_true q111
                                have p25 : 0 ≤ (x50_2 : Int) := of_decide_eq_true (by first | (with_reducible assumption) | assumption)
                                have q25 : (x50_2 : Int) < ((x5_2.length : Int) : Int) := of_decide_eq_true (by first | (with_reducible assumption) | assumption)
                                obtain ⟨go25, co25, eo25, gb25, gl25, cl25, HG25⟩ := Kd.R_form HO_5.out (by omega)
                                (first | cases eo25 | (injection eo25 with ea_ en_ ec_; (first | subst ea_ | (injection ea_ with ea_; subst ea_)); subst ec_; clear en_))
                                have GB25 := Aside0.mk gb25
                                have GG25 := Aside0.mk HG25
                                clear gb25 gl25 HG25
                                (first | simp only [add_plain] at hx111_0 | skip)
                                (first | simp only [add_plain] at hx111_1 | skip)
                                (first | simp only [add_plain] at hx111_2 | skip)
                                obtain ⟨ce25, hcl25, hM25, hcc25, hfr25⟩ := Kd.R_elem HO_5.out z70 (x50_2 : Int) p25 q25
                                obtain rfl := k70_openM hM25
                                have hx25_0 : wr.cell? ⟨go25, (x50_2 : Int).toNat * 3, none⟩ = some (.int .i64 ((rd_T70 x5_2 x50_2).f0)) := hcc25 0 _ rfl
                                have hx25_1 : wr.cell? ⟨go25, (x50_2 : Int).toNat * 3 + 1, none⟩ = some (.int .i64 ((rd_T70 x5_2 x50_2).f1)) := hcc25 1 _ rfl
                                have hx25_2 : wr.cell? ⟨go25, (x50_2 : Int).toNat * 3 + 2, none⟩ = some (.int .i64 ((rd_T70 x5_2 x50_2).f2)) := hcc25 2 _ rfl
                                have hf25_0 : wr.frozen? ⟨go25, (x50_2 : Int).toNat * 3, none⟩ = false := hfr25 0
                                have hf25_1 : wr.frozen? ⟨go25, (x50_2 : Int).toNat * 3 + 1, none⟩ = false := hfr25 1
                                have hf25_2 : wr.frozen? ⟨go25, (x50_2 : Int).toNat * 3 + 2, none⟩ = false := hfr25 2
                                clear hcl25 hcc25 hfr25 hM25
                                replace p25 := eq_true p25
                                replace q25 := eq_true q25
                                have HX34 := Aside0.mk (show Kd.R k70 70 wr w.heap.size (fun _ => True) (.slice (some ⟨go25, 0, none⟩) x5_2.length co21) x5_2 from (by (with_reducible repeat (first | apply Kd.R_alloc | apply Kd.R_drewN | apply Kd.R_drew)); exact HO_5.out))
                                obtain ⟨ce34, hcl34, hM34, hcc34, hfr34⟩ := Kd.R_elem HX34.out z70 (x50_2 : Int) (of_decide_eq_true (by first | (with_reducible assumption) | assumption)) (by have h_ : (x50_2 : Int) < ((x5_2.length : Int) : Int) := of_decide_eq_true (by first | (with_reducible assumption) | assumption); first | exact h_ | (have e_ := (Kd.R_reads' HO_5.out).1; omega) | simpa using h_)
                                obtain rfl := k70_openM hM34
                                have HP34 := Kd.R_seg HX34.out (x50_2 : Int) (of_decide_eq_true (by first | (with_reducible assumption) | assumption)) (by have h_ : (x50_2 : Int) < ((x5_2.length : Int) : Int) := of_decide_eq_true (by first | (with_reducible assumption) | assumption); first | exact h_ | (have e_ := (Kd.R_reads' HO_5.out).1; omega) | simpa using h_) (seg := [.int .i64 ((rd_T70 x5_2 x50_2).f0)]) (j := 2) hcl34 hcc34 (show 3 ≤ 3 from by decide) (x' := (⟨(rd_T70 x5_2 x50_2).f0, (rd_T70 x5_2 x50_2).f1, (rd_T70 x5_2 x50_2).f0⟩ : S70)) (k70_mkM _ _ _ (⟨(rd_T70 x5_2 x50_2).f0, (rd_T70 x5_2 x50_2).f1, (rd_T70 x5_2 x50_2).f0⟩ : S70) ) (fun _ hk => hk)
                                have hx34_2 := hcc34 2 _ rfl
                                (try simp only [show (k70).sz = 3 from rfl, Nat.mul_one, Nat.add_zero] at hx34_2)
                                have hf34_2 := hfr34 2
                                (try simp only [show (k70).sz = 3 from rfl, Nat.mul_one, Nat.add_zero] at hf34_2)
                                clear hcl34 hcc34 hfr34 hM34
                                go_wp2_with (first | ((with_reducible refine gate_store (t := 3) (p := 72) rfl ?_); (try (rw [drewN_self wr]; generalize hq_ : World.drewN wr _ = wr; have n0_ := Aside0.mk (Kd.R_at hq_ HO_5.out); have n1_ := Aside0.mk (below_at hq_ HB.out); clear hq_ HO_5 HB; have HO_5 := n0_; have HB := n1_; clear n0_ n1_; (try (have HX34 := Aside0.mk (show Kd.R k70 70 wr w.heap.size (fun _ => True) (.slice (some ⟨go25, 0, none⟩) x5_2.length co21) x5_2 from (by (with_reducible repeat (first | apply Kd.R_alloc | apply Kd.R_drewN | apply Kd.R_drew)); exact HO_5.out)))); (try (obtain ⟨ce34, hcl34, hM34, hcc34, hfr34⟩ := Kd.R_elem HX34.out z70 (x50_2 : Int) (of_decide_eq_true (by first | (with_reducible assumption) | assumption)) (by have h_ : (x50_2 : Int) < ((x5_2.length : Int) : Int) := of_decide_eq_true (by first | (with_reducible assumption) | assumption); first | exact h_ | (have e_ := (Kd.R_reads' HO_5.out).1; omega) | simpa using h_))); (try (obtain rfl := k70_openM hM34)); (try (have HP34 := Kd.R_seg HX34.out (x50_2 : Int) (of_decide_eq_true (by first | (with_reducible assumption) | assumption)) (by have h_ : (x50_2 : Int) < ((x5_2.length : Int) : Int) := of_decide_eq_true (by first | (with_reducible assumption) | assumption); first | exact h_ | (have e_ := (Kd.R_reads' HO_5.out).1; omega) | simpa using h_) (seg := [.int .i64 ((rd_T70 x5_2 x50_2).f0)]) (j := 2) hcl34 hcc34 (show 3 ≤ 3 from by decide) (x' := (⟨(rd_T70 x5_2 x50_2).f0, (rd_T70 x5_2 x50_2).f1, (rd_T70 x5_2 x50_2).f0⟩ : S70)) (k70_mkM _ _ _ (⟨(rd_T70 x5_2 x50_2).f0, (rd_T70 x5_2 x50_2).f1, (rd_T70 x5_2 x50_2).f0⟩ : S70) ) (fun _ hk => hk))); (try (have hx34_2 := hcc34 2 _ rfl)); (try (try simp only [show (k70).sz = 3 from rfl, Nat.mul_one, Nat.add_zero] at hx34_2)); (try (have hf34_2 := hfr34 2)); (try (try simp only [show (k70).sz = 3 from rfl, Nat.mul_one, Nat.add_zero] at hf34_2)); (try (clear hcl34 hcc34 hfr34 hM34)))); refine store_event (t := 3) (p := 72) (v := ?vo_w35) (w1 := (wr.setCell ⟨go25, (x50_2 : Int).toNat * 3 + 2, none⟩ (.int .i64 ((rd_T70 x5_2 x50_2).f0)))) ?hg ?ho ?hn ?hr ?_; (case ho => rfl); (case hg => rfl); (case hn => rfl); (case hr => first | (go_simp; done) | (go_simp; rfl)); intro w35 hw; have hg : wr.grownBy w35 (some go25) := (by rw [hw]; exact HP34.2); have hp_ : Kd.R k70 70 w35 w.heap.size (fun _ => True) (.slice (some ⟨go25, 0, none⟩) x5_2.length co21) y112 := (by rw [hw, Ny112.out]; exact HP34.1); clear HP34; have n0_ := Aside0.mk (hp_); have n1_ := Aside0.mk ((by rw [hw]; exact below_set (HB.out) GB25.out : Below w.heap.size w w35)); clear HO_5; clear HB; have HO_5 := n0_; have HB := n1_; clear n0_ n1_; clear hg hw hp_; have p113 : 0 ≤ (x50_2 : Int) := of_decide_eq_true (by first | (with_reducible assumption) | assumption); have q113 : x50_2 < (y112.length : Int) := (by have h_ : (x50_2 : Int) < ((x5_2.length : Int) : Int) := of_decide_eq_true (by first | (with_reducible assumption) | assumption); first | (have e_ := (Kd.R_reads' HO_5.out).1; omega) | simpa only [Ny112.out, List.length_set] using h_); have ql113 : ((x50_2 : Int) < ((x5_2.length : Int) : Int)) = True := eq_true (of_decide_eq_true (by first | (with_reducible assumption) | assumption)); obtain ⟨ad113, e113, hx113_0, hx113_1, hx113_2⟩ := at_T70 (Kd.R_reads' HO_5.out).2.2 x50_2 p113 q113; obtain rfl : (⟨go25, 0, none⟩ : Addr) = ad113 := (by injection e113); (first | simp only [add_plain] at hx113_0 | simp only [add_at] at hx113_0 | simp only [Addr.add, Nat.zero_add] at hx113_0 | skip); (first | simp only [add_plain] at hx113_1 | simp only [add_at] at hx113_1 | simp only [Addr.add, Nat.zero_add] at hx113_1 | skip); (first | simp only [add_plain] at hx113_2 | simp only [add_at] at hx113_2 | simp only [Addr.add, Nat.zero_add] at hx113_2 | skip); replace p113 := eq_true p113; replace q113 := eq_true q113; have p114 : 0 ≤ ((ji28) : Int) := of_decide_eq_true (by first | (with_reducible assumption) | assumption); have q114 : (ji28) < (y112.length : Int) := (by have h_ : ((ji28) : Int) < ((x5_2.length : Int) : Int) := of_decide_eq_true (by first | (with_reducible assumption) | assumption); first | (have e_ := (Kd.R_reads' HO_5.out).1; omega) | simpa only [Ny112.out, List.length_set] using h_); have ql114 : (((ji28) : Int) < ((x5_2.length : Int) : Int)) = True := eq_true (of_decide_eq_true (by first | (with_reducible assumption) | assumption)); obtain ⟨ad114, e114, hx114_0, hx114_1, hx114_2⟩ := at_T70 (Kd.R_reads' HO_5.out).2.2 (ji28) p114 q114; obtain rfl : (⟨go25, 0, none⟩ : Addr) = ad114 := (by injection e114); (first | simp only [add_plain] at hx114_0 | simp only [add_at] at hx114_0 | simp only [Addr.add, Nat.zero_add] at hx114_0 | skip); (first | simp only [add_plain] at hx114_1 | simp only [add_at] at hx114_1 | simp only [Addr.add, Nat.zero_add] at hx114_1 | skip); (first | simp only [add_plain] at hx114_2 | simp only [add_at] at hx114_2 | simp only [Addr.add, Nat.zero_add] at hx114_2 | skip); replace p114 := eq_true p114; replace q114 := eq_true q114; have p115 : 0 ≤ ((ji28) : Int) := of_decide_eq_true (by first | (with_reducible assumption) | assumption); have q115 : (ji28) < (y112.length : Int) := (by have h_ : ((ji28) : Int) < ((x5_2.length : Int) : Int) := of_decide_eq_true (by first | (with_reducible assumption) | assumption); first | (have e_ := (Kd.R_reads' HO_5.out).1; omega) | simpa only [Ny112.out, List.length_set] using h_); have ql115 : (((ji28) : Int) < ((x5_2.length : Int) : Int)) = True := eq_true (of_decide_eq_true (by first | (with_reducible assumption) | assumption)); obtain ⟨ad115, e115, hx115_0, hx115_1, hx115_2⟩ := at_T70 (Kd.R_reads' HO_5.out).2.2 (ji28) p115 q115; obtain rfl : (⟨go25, 0, none⟩ : Addr) = ad115 := (by injection e115); (first | simp only [add_plain] at hx115_0 | simp only [add_at] at hx115_0 | simp only [Addr.add, Nat.zero_add] at hx115_0 | skip); (first | simp only [add_plain] at hx115_1 | simp only [add_at] at hx115_1 | simp only [Addr.add, Nat.zero_add] at hx115_1 | skip); (first | simp only [add_plain] at hx115_2 | simp only [add_at] at hx115_2 | simp only [Addr.add, Nat.zero_add] at hx115_2 | skip); replace p115 := eq_true p115; replace q115 := eq_true q115; have p116 : 0 ≤ (x50_2 : Int) := of_decide_eq_true (by first | (with_reducible assumption) | assumption); have q116 : x50_2 < (y112.length : Int) := (by have h_ : (x50_2 : Int) < ((x5_2.length : Int) : Int) := of_decide_eq_true (by first | (with_reducible assumption) | assumption); first | (have e_ := (Kd.R_reads' HO_5.out).1; omega) | simpa only [Ny112.out, List.length_set] using h_); have ql116 : ((x50_2 : Int) < ((x5_2.length : Int) : Int)) = True := eq_true (of_decide_eq_true (by first | (with_reducible assumption) | assumption)); obtain ⟨ad116, e116, hx116_0, hx116_1, hx116_2⟩ := at_T70 (Kd.R_reads' HO_5.out).2.2 x50_2 p116 q116; obtain rfl : (⟨go25, 0, none⟩ : Addr) = ad116 := (by injection e116); (first | simp only [add_plain] at hx116_0 | simp only [add_at] at hx116_0 | simp only [Addr.add, Nat.zero_add] at hx116_0 | skip); (first | simp only [add_plain] at hx116_1 | simp only [add_at] at hx116_1 | simp only [Addr.add, Nat.zero_add] at hx116_1 | skip); (first | simp only [add_plain] at hx116_2 | simp only [add_at] at hx116_2 | simp only [Addr.add, Nat.zero_add] at hx116_2 | skip); replace p116 := eq_true p116; replace q116 := eq_true q116; have p117 : 0 ≤ ((ji28) : Int) := of_decide_eq_true (by first | (with_reducible assumption) | assumption); have q117 : (ji28) < (y112.length : Int) := (by have h_ : ((ji28) : Int) < ((x5_2.length : Int) : Int) := of_decide_eq_true (by first | (with_reducible assumption) | assumption); first | (have e_ := (Kd.R_reads' HO_5.out).1; omega) | simpa only [Ny112.out, List.length_set] using h_); have ql117 : (((ji28) : Int) < ((x5_2.length : Int) : Int)) = True := eq_true (of_decide_eq_true (by first | (with_reducible assumption) | assumption)); obtain ⟨ad117, e117, hx117_0, hx117_1, hx117_2⟩ := at_T70 (Kd.R_reads' HO_5.out).2.2 (ji28) p117 q117; obtain rfl : (⟨go25, 0, none⟩ : Addr) = ad117 := (by injection e117); (first | simp only [add_plain] at hx117_0 | simp only [add_at] at hx117_0 | simp only [Addr.add, Nat.zero_add] at hx117_0 | skip); (first | simp only [add_plain] at hx117_1 | simp only [add_at] at hx117_1 | simp only [Addr.add, Nat.zero_add] at hx117_1 | skip); (first | simp only [add_plain] at hx117_2 | simp only [add_at] at hx117_2 | simp only [Addr.add, Nat.zero_add] at hx117_2 | skip); replace p117 := eq_true p117; replace q117 := eq_true q117; have p33 : 0 ≤ (x50_2 : Int) := of_decide_eq_true (by first | (with_reducible assumption) | assumption); have q33 : (x50_2 : Int) < ((x5_2.length : Int) : Int) := of_decide_eq_true (by first | (with_reducible assumption) | assumption); obtain ⟨ce33, hcl33, hM33, hcc33, hfr33⟩ := Kd.R_elem HO_5.out z70 (x50_2 : Int) p33 q33; obtain rfl := k70_openM hM33; have hx33_0 : w35.cell? ⟨go25, (x50_2 : Int).toNat * 3, none⟩ = some (.int .i64 ((rd_T70 y112 x50_2).f0)) := hcc33 0 _ rfl; have hx33_1 : w35.cell? ⟨go25, (x50_2 : Int).toNat * 3 + 1, none⟩ = some (.int .i64 ((rd_T70 y112 x50_2).f1)) := hcc33 1 _ rfl; have hx33_2 : w35.cell? ⟨go25, (x50_2 : Int).toNat * 3 + 2, none⟩ = some (.int .i64 ((rd_T70 y112 x50_2).f2)) := hcc33 2 _ rfl; have hf33_0 : w35.frozen? ⟨go25, (x50_2 : Int).toNat * 3, none⟩ = false := hfr33 0; have hf33_1 : w35.frozen? ⟨go25, (x50_2 : Int).toNat * 3 + 1, none⟩ = false := hfr33 1; have hf33_2 : w35.frozen? ⟨go25, (x50_2 : Int).toNat * 3 + 2, none⟩ = false := hfr33 2; clear hcl33 hcc33 hfr33 hM33; replace p33 := eq_true p33; replace q33 := eq_true q33; have HX36 := Aside0.mk (show Kd.R k70 70 w35 w.heap.size (fun _ => True) (.slice (some ⟨go25, 0, none⟩) x5_2.length co21) y112 from (by (with_reducible repeat (first | apply Kd.R_alloc | apply Kd.R_drewN | apply Kd.R_drew)); exact HO_5.out)); obtain ⟨ce36, hcl36, hM36, hcc36, hfr36⟩ := Kd.R_elem HX36.out z70 (x50_2 : Int) (of_decide_eq_true (by first | (with_reducible assumption) | assumption)) (by have h_ : (x50_2 : Int) < ((x5_2.length : Int) : Int) := of_decide_eq_true (by first | (with_reducible assumption) | assumption); first | exact h_ | (have e_ := (Kd.R_reads' HO_5.out).1; omega) | simpa using h_); obtain rfl := k70_openM hM36; have HP36 := Kd.R_seg HX36.out (x50_2 : Int) (of_decide_eq_true (by first | (with_reducible assumption) | assumption)) (by have h_ : (x50_2 : Int) < ((x5_2.length : Int) : Int) := of_decide_eq_true (by first | (with_reducible assumption) | assumption); first | exact h_ | (have e_ := (Kd.R_reads' HO_5.out).1; omega) | simpa using h_) (seg := [.int .i64 ((rd_T70 y112 (ji28)).f2)]) (j := 2) hcl36 hcc36 (show 3 ≤ 3 from by decide) (x' := (⟨(rd_T70 y112 x50_2).f0, (rd_T70 y112 x50_2).f1, (rd_T70 y112 (ji28)).f2⟩ : S70)) (k70_mkM _ _ _ (⟨(rd_T70 y112 x50_2).f0, (rd_T70 y112 x50_2).f1, (rd_T70 y112 (ji28)).f2⟩ : S70) ) (fun _ hk => hk); have hx36_2 := hcc36 2 _ rfl; (try simp only [show (k70).sz = 3 from rfl, Nat.mul_one, Nat.add_zero] at hx36_2); have hf36_2 := hfr36 2; (try simp only [show (k70).sz = 3 from rfl, Nat.mul_one, Nat.add_zero] at hf36_2); clear hcl36 hcc36 hfr36 hM36) | ((with_reducible refine gate_store (t := 3) (p := 118) rfl ?_); (try (rw [drewN_self w35]; generalize hq_ : World.drewN w35 _ = w35; have n0_ := Aside0.mk (Kd.R_at hq_ HO_5.out); have n1_ := Aside0.mk (below_at hq_ HB.out); clear hq_ HO_5 HB; have HO_5 := n0_; have HB := n1_; clear n0_ n1_; (try (have HX36 := Aside0.mk (show Kd.R k70 70 w35 w.heap.size (fun _ => True) (.slice (some ⟨go25, 0, none⟩) x5_2.length co21) y112 from (by (with_reducible repeat (first | apply Kd.R_alloc | apply Kd.R_drewN | apply Kd.R_drew)); exact HO_5.out)))); (try (obtain ⟨ce36, hcl36, hM36, hcc36, hfr36⟩ := Kd.R_elem HX36.out z70 (x50_2 : Int) (of_decide_eq_true (by first | (with_reducible assumption) | assumption)) (by have h_ : (x50_2 : Int) < ((x5_2.length : Int) : Int) := of_decide_eq_true (by first | (with_reducible assumption) | assumption); first | exact h_ | (have e_ := (Kd.R_reads' HO_5.out).1; omega) | simpa using h_))); (try (obtain rfl := k70_openM hM36)); (try (have HP36 := Kd.R_seg HX36.out (x50_2 : Int) (of_decide_eq_true (by first | (with_reducible assumption) | assumption)) (by have h_ : (x50_2 : Int) < ((x5_2.length : Int) : Int) := of_decide_eq_true (by first | (with_reducible assumption) | assumption); first | exact h_ | (have e_ := (Kd.R_reads' HO_5.out).1; omega) | simpa using h_) (seg := [.int .i64 ((rd_T70 y112 (ji28)).f2)]) (j := 2) hcl36 hcc36 (show 3 ≤ 3 from by decide) (x' := (⟨(rd_T70 y112 x50_2).f0, (rd_T70 y112 x50_2).f1, (rd_T70 y112 (ji28)).f2⟩ : S70)) (k70_mkM _ _ _ (⟨(rd_T70 y112 x50_2).f0, (rd_T70 y112 x50_2).f1, (rd_T70 y112 (ji28)).f2⟩ : S70) ) (fun _ hk => hk))); (try (have hx36_2 := hcc36 2 _ rfl)); (try (try simp only [show (k70).sz = 3 from rfl, Nat.mul_one, Nat.add_zero] at hx36_2)); (try (have hf36_2 := hfr36 2)); (try (try simp only [show (k70).sz = 3 from rfl, Nat.mul_one, Nat.add_zero] at hf36_2)); (try (clear hcl36 hcc36 hfr36 hM36)))); refine store_event (t := 3) (p := 118) (v := ?vo_w37) (w1 := (w35.setCell ⟨go25, (x50_2 : Int).toNat * 3 + 2, none⟩ (.int .i64 ((rd_T70 y112 (ji28)).f2)))) ?hg ?ho ?hn ?hr ?_; (case ho => rfl); (case hg => rfl); (case hn => rfl); (case hr => first | (go_simp; done) | (go_simp; rfl)); intro w37 hw; have hg : w35.grownBy w37 (some go25) := (by rw [hw]; exact HP36.2); have hp_ : Kd.R k70 70 w37 w.heap.size (fun _ => True) (.slice (some ⟨go25, 0, none⟩) x5_2.length co21) y118 := (by rw [hw, Ny118.out]; exact HP36.1); clear HP36; have n0_ := Aside0.mk (hp_); have n1_ := Aside0.mk ((by rw [hw]; exact below_set (HB.out) GB25.out : Below w.heap.size w w37)); clear HO_5; clear HB; have HO_5 := n0_; have HB := n1_; clear n0_ n1_; clear hg hw hp_))
                                repeat (go_quiet (first | ((with_reducible refine gate_store (t := 3) (p := 72) rfl ?_); (try (rw [drewN_self wr]; generalize hq_ : World.drewN wr _ = wr; have n0_ := Aside0.mk (Kd.R_at hq_ HO_5.out); have n1_ := Aside0.mk (below_at hq_ HB.out); clear hq_ HO_5 HB; have HO_5 := n0_; have HB := n1_; clear n0_ n1_; (try (have HX34 := Aside0.mk (show Kd.R k70 70 wr w.heap.size (fun _ => True) (.slice (some ⟨go25, 0, none⟩) x5_2.length co21) x5_2 from (by (with_reducible repeat (first | apply Kd.R_alloc | apply Kd.R_drewN | apply Kd.R_drew)); exact HO_5.out)))); (try (obtain ⟨ce34, hcl34, hM34, hcc34, hfr34⟩ := Kd.R_elem HX34.out z70 (x50_2 : Int) (of_decide_eq_true (by first | (with_reducible assumption) | assumption)) (by have h_ : (x50_2 : Int) < ((x5_2.length : Int) : Int) := of_decide_eq_true (by first | (with_reducible assumption) | assumption); first | exact h_ | (have e_ := (Kd.R_reads' HO_5.out).1; omega) | simpa using h_))); (try (obtain rfl := k70_openM hM34)); (try (have HP34 := Kd.R_seg HX34.out (x50_2 : Int) (of_decide_eq_true (by first | (with_reducible assumption) | assumption)) (by have h_ : (x50_2 : Int) < ((x5_2.length : Int) : Int) := of_decide_eq_true (by first | (with_reducible assumption) | assumption); first | exact h_ | (have e_ := (Kd.R_reads' HO_5.out).1; omega) | simpa using h_) (seg := [.int .i64 ((rd_T70 x5_2 x50_2).f0)]) (j := 2) hcl34 hcc34 (show 3 ≤ 3 from by decide) (x' := (⟨(rd_T70 x5_2 x50_2).f0, (rd_T70 x5_2 x50_2).f1, (rd_T70 x5_2 x50_2).f0⟩ : S70)) (k70_mkM _ _ _ (⟨(rd_T70 x5_2 x50_2).f0, (rd_T70 x5_2 x50_2).f1, (rd_T70 x5_2 x50_2).f0⟩ : S70) ) (fun _ hk => hk))); (try (have hx34_2 := hcc34 2 _ rfl)); (try (try simp only [show (k70).sz = 3 from rfl, Nat.mul_one, Nat.add_zero] at hx34_2)); (try (have hf34_2 := hfr34 2)); (try (try simp only [show (k70).sz = 3 from rfl, Nat.mul_one, Nat.add_zero] at hf34_2)); (try (clear hcl34 hcc34 hfr34 hM34)))); refine store_event (t := 3) (p := 72) (v := ?vo_w35) (w1 := (wr.setCell ⟨go25, (x50_2 : Int).toNat * 3 + 2, none⟩ (.int .i64 ((rd_T70 x5_2 x50_2).f0)))) ?hg ?ho ?hn ?hr ?_; (case ho => rfl); (case hg => rfl); (case hn => rfl); (case hr => first | (go_simp; done) | (go_simp; rfl)); intro w35 hw; have hg : wr.grownBy w35 (some go25) := (by rw [hw]; exact HP34.2); have hp_ : Kd.R k70 70 w35 w.heap.size (fun _ => True) (.slice (some ⟨go25, 0, none⟩) x5_2.length co21) y112 := (by rw [hw, Ny112.out]; exact HP34.1); clear HP34; have n0_ := Aside0.mk (hp_); have n1_ := Aside0.mk ((by rw [hw]; exact below_set (HB.out) GB25.out : Below w.heap.size w w35)); clear HO_5; clear HB; have HO_5 := n0_; have HB := n1_; clear n0_ n1_; clear hg hw hp_; have p113 : 0 ≤ (x50_2 : Int) := of_decide_eq_true (by first | (with_reducible assumption) | assumption); have q113 : x50_2 < (y112.length : Int) := (by have h_ : (x50_2 : Int) < ((x5_2.length : Int) : Int) := of_decide_eq_true (by first | (with_reducible assumption) | assumption); first | (have e_ := (Kd.R_reads' HO_5.out).1; omega) | simpa only [Ny112.out, List.length_set] using h_); have ql113 : ((x50_2 : Int) < ((x5_2.length : Int) : Int)) = True := eq_true (of_decide_eq_true (by first | (with_reducible assumption) | assumption)); obtain ⟨ad113, e113, hx113_0, hx113_1, hx113_2⟩ := at_T70 (Kd.R_reads' HO_5.out).2.2 x50_2 p113 q113; obtain rfl : (⟨go25, 0, none⟩ : Addr) = ad113 := (by injection e113); (first | simp only [add_plain] at hx113_0 | simp only [add_at] at hx113_0 | simp only [Addr.add, Nat.zero_add] at hx113_0 | skip); (first | simp only [add_plain] at hx113_1 | simp only [add_at] at hx113_1 | simp only [Addr.add, Nat.zero_add] at hx113_1 | skip); (first | simp only [add_plain] at hx113_2 | simp only [add_at] at hx113_2 | simp only [Addr.add, Nat.zero_add] at hx113_2 | skip); replace p113 := eq_true p113; replace q113 := eq_true q113; have p114 : 0 ≤ ((ji28) : Int) := of_decide_eq_true (by first | (with_reducible assumption) | assumption); have q114 : (ji28) < (y112.length : Int) := (by have h_ : ((ji28) : Int) < ((x5_2.length : Int) : Int) := of_decide_eq_true (by first | (with_reducible assumption) | assumption); first | (have e_ := (Kd.R_reads' HO_5.out).1; omega) | simpa only [Ny112.out, List.length_set] using h_); have ql114 : (((ji28) : Int) < ((x5_2.length : Int) : Int)) = True := eq_true (of_decide_eq_true (by first | (with_reducible assumption) | assumption)); obtain ⟨ad114, e114, hx114_0, hx114_1, hx114_2⟩ := at_T70 (Kd.R_reads' HO_5.out).2.2 (ji28) p114 q114; obtain rfl : (⟨go25, 0, none⟩ : Addr) = ad114 := (by injection e114); (first | simp only [add_plain] at hx114_0 | simp only [add_at] at hx114_0 | simp only [Addr.add, Nat.zero_add] at hx114_0 | skip); (first | simp only [add_plain] at hx114_1 | simp only [add_at] at hx114_1 | simp only [Addr.add, Nat.zero_add] at hx114_1 | skip); (first | simp only [add_plain] at hx114_2 | simp only [add_at] at hx114_2 | simp only [Addr.add, Nat.zero_add] at hx114_2 | skip); replace p114 := eq_true p114; replace q114 := eq_true q114; have p115 : 0 ≤ ((ji28) : Int) := of_decide_eq_true (by first | (with_reducible assumption) | assumption); have q115 : (ji28) < (y112.length : Int) := (by have h_ : ((ji28) : Int) < ((x5_2.length : Int) : Int) := of_decide_eq_true (by first | (with_reducible assumption) | assumption); first | (have e_ := (Kd.R_reads' HO_5.out).1; omega) | simpa only [Ny112.out, List.length_set] using h_); have ql115 : (((ji28) : Int) < ((x5_2.length : Int) : Int)) = True := eq_true (of_decide_eq_true (by first | (with_reducible assumption) | assumption)); obtain ⟨ad115, e115, hx115_0, hx115_1, hx115_2⟩ := at_T70 (Kd.R_reads' HO_5.out).2.2 (ji28) p115 q115; obtain rfl : (⟨go25, 0, none⟩ : Addr) = ad115 := (by injection e115); (first | simp only [add_plain] at hx115_0 | simp only [add_at] at hx115_0 | simp only [Addr.add, Nat.zero_add] at hx115_0 | skip); (first | simp only [add_plain] at hx115_1 | simp only [add_at] at hx115_1 | simp only [Addr.add, Nat.zero_add] at hx115_1 | skip); (first | simp only [add_plain] at hx115_2 | simp only [add_at] at hx115_2 | simp only [Addr.add, Nat.zero_add] at hx115_2 | skip); replace p115 := eq_true p115; replace q115 := eq_true q115; have p116 : 0 ≤ (x50_2 : Int) := of_decide_eq_true (by first | (with_reducible assumption) | assumption); have q116 : x50_2 < (y112.length : Int) := (by have h_ : (x50_2 : Int) < ((x5_2.length : Int) : Int) := of_decide_eq_true (by first | (with_reducible assumption) | assumption); first | (have e_ := (Kd.R_reads' HO_5.out).1; omega) | simpa only [Ny112.out, List.length_set] using h_); have ql116 : ((x50_2 : Int) < ((x5_2.length : Int) : Int)) = True := eq_true (of_decide_eq_true (by first | (with_reducible assumption) | assumption)); obtain ⟨ad116, e116, hx116_0, hx116_1, hx116_2⟩ := at_T70 (Kd.R_reads' HO_5.out).2.2 x50_2 p116 q116; obtain rfl : (⟨go25, 0, none⟩ : Addr) = ad116 := (by injection e116); (first | simp only [add_plain] at hx116_0 | simp only [add_at] at hx116_0 | simp only [Addr.add, Nat.zero_add] at hx116_0 | skip); (first | simp only [add_plain] at hx116_1 | simp only [add_at] at hx116_1 | simp only [Addr.add, Nat.zero_add] at hx116_1 | skip); (first | simp only [add_plain] at hx116_2 | simp only [add_at] at hx116_2 | simp only [Addr.add, Nat.zero_add] at hx116_2 | skip); replace p116 := eq_true p116; replace q116 := eq_true q116; have p117 : 0 ≤ ((ji28) : Int) := of_decide_eq_true (by first | (with_reducible assumption) | assumption); have q117 : (ji28) < (y112.length : Int) := (by have h_ : ((ji28) : Int) < ((x5_2.length : Int) : Int) := of_decide_eq_true (by first | (with_reducible assumption) | assumption); first | (have e_ := (Kd.R_reads' HO_5.out).1; omega) | simpa only [Ny112.out, List.length_set] using h_); have ql117 : (((ji28) : Int) < ((x5_2.length : Int) : Int)) = True := eq_true (of_decide_eq_true (by first | (with_reducible assumption) | assumption)); obtain ⟨ad117, e117, hx117_0, hx117_1, hx117_2⟩ := at_T70 (Kd.R_reads' HO_5.out).2.2 (ji28) p117 q117; obtain rfl : (⟨go25, 0, none⟩ : Addr) = ad117 := (by injection e117); (first | simp only [add_plain] at hx117_0 | simp only [add_at] at hx117_0 | simp only [Addr.add, Nat.zero_add] at hx117_0 | skip); (first | simp only [add_plain] at hx117_1 | simp only [add_at] at hx117_1 | simp only [Addr.add, Nat.zero_add] at hx117_1 | skip); (first | simp only [add_plain] at hx117_2 | simp only [add_at] at hx117_2 | simp only [Addr.add, Nat.zero_add] at hx117_2 | skip); replace p117 := eq_true p117; replace q117 := eq_true q117; have p33 : 0 ≤ (x50_2 : Int) := of_decide_eq_true (by first | (with_reducible assumption) | assumption); have q33 : (x50_2 : Int) < ((x5_2.length : Int) : Int) := of_decide_eq_true (by first | (with_reducible assumption) | assumption); obtain ⟨ce33, hcl33, hM33, hcc33, hfr33⟩ := Kd.R_elem HO_5.out z70 (x50_2 : Int) p33 q33; obtain rfl := k70_openM hM33; have hx33_0 : w35.cell? ⟨go25, (x50_2 : Int).toNat * 3, none⟩ = some (.int .i64 ((rd_T70 y112 x50_2).f0)) := hcc33 0 _ rfl; have hx33_1 : w35.cell? ⟨go25, (x50_2 : Int).toNat * 3 + 1, none⟩ = some (.int .i64 ((rd_T70 y112 x50_2).f1)) := hcc33 1 _ rfl; have hx33_2 : w35.cell? ⟨go25, (x50_2 : Int).toNat * 3 + 2, none⟩ = some (.int .i64 ((rd_T70 y112 x50_2).f2)) := hcc33 2 _ rfl; have hf33_0 : w35.frozen? ⟨go25, (x50_2 : Int).toNat * 3, none⟩ = false := hfr33 0; have hf33_1 : w35.frozen? ⟨go25, (x50_2 : Int).toNat * 3 + 1, none⟩ = false := hfr33 1; have hf33_2 : w35.frozen? ⟨go25, (x50_2 : Int).toNat * 3 + 2, none⟩ = false := hfr33 2; clear hcl33 hcc33 hfr33 hM33; replace p33 := eq_true p33; replace q33 := eq_true q33; have HX36 := Aside0.mk (show Kd.R k70 70 w35 w.heap.size (fun _ => True) (.slice (some ⟨go25, 0, none⟩) x5_2.length co21) y112 from (by (with_reducible repeat (first | apply Kd.R_alloc | apply Kd.R_drewN | apply Kd.R_drew)); exact HO_5.out)); obtain ⟨ce36, hcl36, hM36, hcc36, hfr36⟩ := Kd.R_elem HX36.out z70 (x50_2 : Int) (of_decide_eq_true (by first | (with_reducible assumption) | assumption)) (by have h_ : (x50_2 : Int) < ((x5_2.length : Int) : Int) := of_decide_eq_true (by first | (with_reducible assumption) | assumption); first | exact h_ | (have e_ := (Kd.R_reads' HO_5.out).1; omega) | simpa using h_); obtain rfl := k70_openM hM36; have HP36 := Kd.R_seg HX36.out (x50_2 : Int) (of_decide_eq_true (by first | (with_reducible assumption) | assumption)) (by have h_ : (x50_2 : Int) < ((x5_2.length : Int) : Int) := of_decide_eq_true (by first | (with_reducible assumption) | assumption); first | exact h_ | (have e_ := (Kd.R_reads' HO_5.out).1; omega) | simpa using h_) (seg := [.int .i64 ((rd_T70 y112 (ji28)).f2)]) (j := 2) hcl36 hcc36 (show 3 ≤ 3 from by decide) (x' := (⟨(rd_T70 y112 x50_2).f0, (rd_T70 y112 x50_2).f1, (rd_T70 y112 (ji28)).f2⟩ : S70)) (k70_mkM _ _ _ (⟨(rd_T70 y112 x50_2).f0, (rd_T70 y112 x50_2).f1, (rd_T70 y112 (ji28)).f2⟩ : S70) ) (fun _ hk => hk); have hx36_2 := hcc36 2 _ rfl; (try simp only [show (k70).sz = 3 from rfl, Nat.mul_one, Nat.add_zero] at hx36_2); have hf36_2 := hfr36 2; (try simp only [show (k70).sz = 3 from rfl, Nat.mul_one, Nat.add_zero] at hf36_2); clear hcl36 hcc36 hfr36 hM36) | ((with_reducible refine gate_store (t := 3) (p := 118) rfl ?_); (try (rw [drewN_self w35]; generalize hq_ : World.drewN w35 _ = w35; have n0_ := Aside0.mk (Kd.R_at hq_ HO_5.out); have n1_ := Aside0.mk (below_at hq_ HB.out); clear hq_ HO_5 HB; have HO_5 := n0_; have HB := n1_; clear n0_ n1_; (try (have HX36 := Aside0.mk (show Kd.R k70 70 w35 w.heap.size (fun _ => True) (.slice (some ⟨go25, 0, none⟩) x5_2.length co21) y112 from (by (with_reducible repeat (first | apply Kd.R_alloc | apply Kd.R_drewN | apply Kd.R_drew)); exact HO_5.out)))); (try (obtain ⟨ce36, hcl36, hM36, hcc36, hfr36⟩ := Kd.R_elem HX36.out z70 (x50_2 : Int) (of_decide_eq_true (by first | (with_reducible assumption) | assumption)) (by have h_ : (x50_2 : Int) < ((x5_2.length : Int) : Int) := of_decide_eq_true (by first | (with_reducible assumption) | assumption); first | exact h_ | (have e_ := (Kd.R_reads' HO_5.out).1; omega) | simpa using h_))); (try (obtain rfl := k70_openM hM36)); (try (have HP36 := Kd.R_seg HX36.out (x50_2 : Int) (of_decide_eq_true (by first | (with_reducible assumption) | assumption)) (by have h_ : (x50_2 : Int) < ((x5_2.length : Int) : Int) := of_decide_eq_true (by first | (with_reducible assumption) | assumption); first | exact h_ | (have e_ := (Kd.R_reads' HO_5.out).1; omega) | simpa using h_) (seg := [.int .i64 ((rd_T70 y112 (ji28)).f2)]) (j := 2) hcl36 hcc36 (show 3 ≤ 3 from by decide) (x' := (⟨(rd_T70 y112 x50_2).f0, (rd_T70 y112 x50_2).f1, (rd_T70 y112 (ji28)).f2⟩ : S70)) (k70_mkM _ _ _ (⟨(rd_T70 y112 x50_2).f0, (rd_T70 y112 x50_2).f1, (rd_T70 y112 (ji28)).f2⟩ : S70) ) (fun _ hk => hk))); (try (have hx36_2 := hcc36 2 _ rfl)); (try (try simp only [show (k70).sz = 3 from rfl, Nat.mul_one, Nat.add_zero] at hx36_2)); (try (have hf36_2 := hfr36 2)); (try (try simp only [show (k70).sz = 3 from rfl, Nat.mul_one, Nat.add_zero] at hf36_2)); (try (clear hcl36 hcc36 hfr36 hM36)))); refine store_event (t := 3) (p := 118) (v := ?vo_w37) (w1 := (w35.setCell ⟨go25, (x50_2 : Int).toNat * 3 + 2, none⟩ (.int .i64 ((rd_T70 y112 (ji28)).f2)))) ?hg ?ho ?hn ?hr ?_; (case ho => rfl); (case hg => rfl); (case hn => rfl); (case hr => first | (go_simp; done) | (go_simp; rfl)); intro w37 hw; have hg : w35.grownBy w37 (some go25) := (by rw [hw]; exact HP36.2); have hp_ : Kd.R k70 70 w37 w.heap.size (fun _ => True) (.slice (some ⟨go25, 0, none⟩) x5_2.length co21) y118 := (by rw [hw, Ny118.out]; exact HP36.1); clear HP36; have n0_ := Aside0.mk (hp_); have n1_ := Aside0.mk ((by rw [hw]; exact below_set (HB.out) GB25.out : Below w.heap.size w w37)); clear HO_5; clear HB; have HO_5 := n0_; have HB := n1_; clear n0_ n1_; clear hg hw hp_)); try go_wp2_with (first | ((with_reducible refine gate_store (t := 3) (p := 72) rfl ?_); (try (rw [drewN_self wr]; generalize hq_ : World.drewN wr _ = wr; have n0_ := Aside0.mk (Kd.R_at hq_ HO_5.out); have n1_ := Aside0.mk (below_at hq_ HB.out); clear hq_ HO_5 HB; have HO_5 := n0_; have HB := n1_; clear n0_ n1_; (try (have HX34 := Aside0.mk (show Kd.R k70 70 wr w.heap.size (fun _ => True) (.slice (some ⟨go25, 0, none⟩) x5_2.length co21) x5_2 from (by (with_reducible repeat (first | apply Kd.R_alloc | apply Kd.R_drewN | apply Kd.R_drew)); exact HO_5.out)))); (try (obtain ⟨ce34, hcl34, hM34, hcc34, hfr34⟩ := Kd.R_elem HX34.out z70 (x50_2 : Int) (of_decide_eq_true (by first | (with_reducible assumption) | assumption)) (by have h_ : (x50_2 : Int) < ((x5_2.length : Int) : Int) := of_decide_eq_true (by first | (with_reducible assumption) | assumption); first | exact h_ | (have e_ := (Kd.R_reads' HO_5.out).1; omega) | simpa using h_))); (try (obtain rfl := k70_openM hM34)); (try (have HP34 := Kd.R_seg HX34.out (x50_2 : Int) (of_decide_eq_true (by first | (with_reducible assumption) | assumption)) (by have h_ : (x50_2 : Int) < ((x5_2.length : Int) : Int) := of_decide_eq_true (by first | (with_reducible assumption) | assumption); first | exact h_ | (have e_ := (Kd.R_reads' HO_5.out).1; omega) | simpa using h_) (seg := [.int .i64 ((rd_T70 x5_2 x50_2).f0)]) (j := 2) hcl34 hcc34 (show 3 ≤ 3 from by decide) (x' := (⟨(rd_T70 x5_2 x50_2).f0, (rd_T70 x5_2 x50_2).f1, (rd_T70 x5_2 x50_2).f0⟩ : S70)) (k70_mkM _ _ _ (⟨(rd_T70 x5_2 x50_2).f0, (rd_T70 x5_2 x50_2).f1, (rd_T70 x5_2 x50_2).f0⟩ : S70) ) (fun _ hk => hk))); (try (have hx34_2 := hcc34 2 _ rfl)); (try (try simp only [show (k70).sz = 3 from rfl, Nat.mul_one, Nat.add_zero] at hx34_2)); (try (have hf34_2 := hfr34 2)); (try (try simp only [show (k70).sz = 3 from rfl, Nat.mul_one, Nat.add_zero] at hf34_2)); (try (clear hcl34 hcc34 hfr34 hM34)))); refine store_event (t := 3) (p := 72) (v := ?vo_w35) (w1 := (wr.setCell ⟨go25, (x50_2 : Int).toNat * 3 + 2, none⟩ (.int .i64 ((rd_T70 x5_2 x50_2).f0)))) ?hg ?ho ?hn ?hr ?_; (case ho => rfl); (case hg => rfl); (case hn => rfl); (case hr => first | (go_simp; done) | (go_simp; rfl)); intro w35 hw; have hg : wr.grownBy w35 (some go25) := (by rw [hw]; exact HP34.2); have hp_ : Kd.R k70 70 w35 w.heap.size (fun _ => True) (.slice (some ⟨go25, 0, none⟩) x5_2.length co21) y112 := (by rw [hw, Ny112.out]; exact HP34.1); clear HP34; have n0_ := Aside0.mk (hp_); have n1_ := Aside0.mk ((by rw [hw]; exact below_set (HB.out) GB25.out : Below w.heap.size w w35)); clear HO_5; clear HB; have HO_5 := n0_; have HB := n1_; clear n0_ n1_; clear hg hw hp_; have p113 : 0 ≤ (x50_2 : Int) := of_decide_eq_true (by first | (with_reducible assumption) | assumption); have q113 : x50_2 < (y112.length : Int) := (by have h_ : (x50_2 : Int) < ((x5_2.length : Int) : Int) := of_decide_eq_true (by first | (with_reducible assumption) | assumption); first | (have e_ := (Kd.R_reads' HO_5.out).1; omega) | simpa only [Ny112.out, List.length_set] using h_); have ql113 : ((x50_2 : Int) < ((x5_2.length : Int) : Int)) = True := eq_true (of_decide_eq_true (by first | (with_reducible assumption) | assumption)); obtain ⟨ad113, e113, hx113_0, hx113_1, hx113_2⟩ := at_T70 (Kd.R_reads' HO_5.out).2.2 x50_2 p113 q113; obtain rfl : (⟨go25, 0, none⟩ : Addr) = ad113 := (by injection e113); (first | simp only [add_plain] at hx113_0 | simp only [add_at] at hx113_0 | simp only [Addr.add, Nat.zero_add] at hx113_0 | skip); (first | simp only [add_plain] at hx113_1 | simp only [add_at] at hx113_1 | simp only [Addr.add, Nat.zero_add] at hx113_1 | skip); (first | simp only [add_plain] at hx113_2 | simp only [add_at] at hx113_2 | simp only [Addr.add, Nat.zero_add] at hx113_2 | skip); replace p113 := eq_true p113; replace q113 := eq_true q113; have p114 : 0 ≤ ((ji28) : Int) := of_decide_eq_true (by first | (with_reducible assumption) | assumption); have q114 : (ji28) < (y112.length : Int) := (by have h_ : ((ji28) : Int) < ((x5_2.length : Int) : Int) := of_decide_eq_true (by first | (with_reducible assumption) | assumption); first | (have e_ := (Kd.R_reads' HO_5.out).1; omega) | simpa only [Ny112.out, List.length_set] using h_); have ql114 : (((ji28) : Int) < ((x5_2.length : Int) : Int)) = True := eq_true (of_decide_eq_true (by first | (with_reducible assumption) | assumption)); obtain ⟨ad114, e114, hx114_0, hx114_1, hx114_2⟩ := at_T70 (Kd.R_reads' HO_5.out).2.2 (ji28) p114 q114; obtain rfl : (⟨go25, 0, none⟩ : Addr) = ad114 := (by injection e114); (first | simp only [add_plain] at hx114_0 | simp only [add_at] at hx114_0 | simp only [Addr.add, Nat.zero_add] at hx114_0 | skip); (first | simp only [add_plain] at hx114_1 | simp only [add_at] at hx114_1 | simp only [Addr.add, Nat.zero_add] at hx114_1 | skip); (first | simp only [add_plain] at hx114_2 | simp only [add_at] at hx114_2 | simp only [Addr.add, Nat.zero_add] at hx114_2 | skip); replace p114 := eq_true p114; replace q114 := eq_true q114; have p115 : 0 ≤ ((ji28) : Int) := of_decide_eq_true (by first | (with_reducible assumption) | assumption); have q115 : (ji28) < (y112.length : Int) := (by have h_ : ((ji28) : Int) < ((x5_2.length : Int) : Int) := of_decide_eq_true (by first | (with_reducible assumption) | assumption); first | (have e_ := (Kd.R_reads' HO_5.out).1; omega) | simpa only [Ny112.out, List.length_set] using h_); have ql115 : (((ji28) : Int) < ((x5_2.length : Int) : Int)) = True := eq_true (of_decide_eq_true (by first | (with_reducible assumption) | assumption)); obtain ⟨ad115, e115, hx115_0, hx115_1, hx115_2⟩ := at_T70 (Kd.R_reads' HO_5.out).2.2 (ji28) p115 q115; obtain rfl : (⟨go25, 0, none⟩ : Addr) = ad115 := (by injection e115); (first | simp only [add_plain] at hx115_0 | simp only [add_at] at hx115_0 | simp only [Addr.add, Nat.zero_add] at hx115_0 | skip); (first | simp only [add_plain] at hx115_1 | simp only [add_at] at hx115_1 | simp only [Addr.add, Nat.zero_add] at hx115_1 | skip); (first | simp only [add_plain] at hx115_2 | simp only [add_at] at hx115_2 | simp only [Addr.add, Nat.zero_add] at hx115_2 | skip); replace p115 := eq_true p115; replace q115 := eq_true q115; have p116 : 0 ≤ (x50_2 : Int) := of_decide_eq_true (by first | (with_reducible assumption) | assumption); have q116 : x50_2 < (y112.length : Int) := (by have h_ : (x50_2 : Int) < ((x5_2.length : Int) : Int) := of_decide_eq_true (by first | (with_reducible assumption) | assumption); first | (have e_ := (Kd.R_reads' HO_5.out).1; omega) | simpa only [Ny112.out, List.length_set] using h_); have ql116 : ((x50_2 : Int) < ((x5_2.length : Int) : Int)) = True := eq_true (of_decide_eq_true (by first | (with_reducible assumption) | assumption)); obtain ⟨ad116, e116, hx116_0, hx116_1, hx116_2⟩ := at_T70 (Kd.R_reads' HO_5.out).2.2 x50_2 p116 q116; obtain rfl : (⟨go25, 0, none⟩ : Addr) = ad116 := (by injection e116); (first | simp only [add_plain] at hx116_0 | simp only [add_at] at hx116_0 | simp only [Addr.add, Nat.zero_add] at hx116_0 | skip); (first | simp only [add_plain] at hx116_1 | simp only [add_at] at hx116_1 | simp only [Addr.add, Nat.zero_add] at hx116_1 | skip); (first | simp only [add_plain] at hx116_2 | simp only [add_at] at hx116_2 | simp only [Addr.add, Nat.zero_add] at hx116_2 | skip); replace p116 := eq_true p116; replace q116 := eq_true q116; have p117 : 0 ≤ ((ji28) : Int) := of_decide_eq_true (by first | (with_reducible assumption) | assumption); have q117 : (ji28) < (y112.length : Int) := (by have h_ : ((ji28) : Int) < ((x5_2.length : Int) : Int) := of_decide_eq_true (by first | (with_reducible assumption) | assumption); first | (have e_ := (Kd.R_reads' HO_5.out).1; omega) | simpa only [Ny112.out, List.length_set] using h_); have ql117 : (((ji28) : Int) < ((x5_2.length : Int) : Int)) = True := eq_true (of_decide_eq_true (by first | (with_reducible assumption) | assumption)); obtain ⟨ad117, e117, hx117_0, hx117_1, hx117_2⟩ := at_T70 (Kd.R_reads' HO_5.out).2.2 (ji28) p117 q117; obtain rfl : (⟨go25, 0, none⟩ : Addr) = ad117 := (by injection e117); (first | simp only [add_plain] at hx117_0 | simp only [add_at] at hx117_0 | simp only [Addr.add, Nat.zero_add] at hx117_0 | skip); (first | simp only [add_plain] at hx117_1 | simp only [add_at] at hx117_1 | simp only [Addr.add, Nat.zero_add] at hx117_1 | skip); (first | simp only [add_plain] at hx117_2 | simp only [add_at] at hx117_2 | simp only [Addr.add, Nat.zero_add] at hx117_2 | skip); replace p117 := eq_true p117; replace q117 := eq_true q117; have p33 : 0 ≤ (x50_2 : Int) := of_decide_eq_true (by first | (with_reducible assumption) | assumption); have q33 : (x50_2 : Int) < ((x5_2.length : Int) : Int) := of_decide_eq_true (by first | (with_reducible assumption) | assumption); obtain ⟨ce33, hcl33, hM33, hcc33, hfr33⟩ := Kd.R_elem HO_5.out z70 (x50_2 : Int) p33 q33; obtain rfl := k70_openM hM33; have hx33_0 : w35.cell? ⟨go25, (x50_2 : Int).toNat * 3, none⟩ = some (.int .i64 ((rd_T70 y112 x50_2).f0)) := hcc33 0 _ rfl; have hx33_1 : w35.cell? ⟨go25, (x50_2 : Int).toNat * 3 + 1, none⟩ = some (.int .i64 ((rd_T70 y112 x50_2).f1)) := hcc33 1 _ rfl; have hx33_2 : w35.cell? ⟨go25, (x50_2 : Int).toNat * 3 + 2, none⟩ = some (.int .i64 ((rd_T70 y112 x50_2).f2)) := hcc33 2 _ rfl; have hf33_0 : w35.frozen? ⟨go25, (x50_2 : Int).toNat * 3, none⟩ = false := hfr33 0; have hf33_1 : w35.frozen? ⟨go25, (x50_2 : Int).toNat * 3 + 1, none⟩ = false := hfr33 1; have hf33_2 : w35.frozen? ⟨go25, (x50_2 : Int).toNat * 3 + 2, none⟩ = false := hfr33 2; clear hcl33 hcc33 hfr33 hM33; replace p33 := eq_true p33; replace q33 := eq_true q33; have HX36 := Aside0.mk (show Kd.R k70 70 w35 w.heap.size (fun _ => True) (.slice (some ⟨go25, 0, none⟩) x5_2.length co21) y112 from (by (with_reducible repeat (first | apply Kd.R_alloc | apply Kd.R_drewN | apply Kd.R_drew)); exact HO_5.out)); obtain ⟨ce36, hcl36, hM36, hcc36, hfr36⟩ := Kd.R_elem HX36.out z70 (x50_2 : Int) (of_decide_eq_true (by first | (with_reducible assumption) | assumption)) (by have h_ : (x50_2 : Int) < ((x5_2.length : Int) : Int) := of_decide_eq_true (by first | (with_reducible assumption) | assumption); first | exact h_ | (have e_ := (Kd.R_reads' HO_5.out).1; omega) | simpa using h_); obtain rfl := k70_openM hM36; have HP36 := Kd.R_seg HX36.out (x50_2 : Int) (of_decide_eq_true (by first | (with_reducible assumption) | assumption)) (by have h_ : (x50_2 : Int) < ((x5_2.length : Int) : Int) := of_decide_eq_true (by first | (with_reducible assumption) | assumption); first | exact h_ | (have e_ := (Kd.R_reads' HO_5.out).1; omega) | simpa using h_) (seg := [.int .i64 ((rd_T70 y112 (ji28)).f2)]) (j := 2) hcl36 hcc36 (show 3 ≤ 3 from by decide) (x' := (⟨(rd_T70 y112 x50_2).f0, (rd_T70 y112 x50_2).f1, (rd_T70 y112 (ji28)).f2⟩ : S70)) (k70_mkM _ _ _ (⟨(rd_T70 y112 x50_2).f0, (rd_T70 y112 x50_2).f1, (rd_T70 y112 (ji28)).f2⟩ : S70) ) (fun _ hk => hk); have hx36_2 := hcc36 2 _ rfl; (try simp only [show (k70).sz = 3 from rfl, Nat.mul_one, Nat.add_zero] at hx36_2); have hf36_2 := hfr36 2; (try simp only [show (k70).sz = 3 from rfl, Nat.mul_one, Nat.add_zero] at hf36_2); clear hcl36 hcc36 hfr36 hM36) | ((with_reducible refine gate_store (t := 3) (p := 118) rfl ?_); (try (rw [drewN_self w35]; generalize hq_ : World.drewN w35 _ = w35; have n0_ := Aside0.mk (Kd.R_at hq_ HO_5.out); have n1_ := Aside0.mk (below_at hq_ HB.out); clear hq_ HO_5 HB; have HO_5 := n0_; have HB := n1_; clear n0_ n1_; (try (have HX36 := Aside0.mk (show Kd.R k70 70 w35 w.heap.size (fun _ => True) (.slice (some ⟨go25, 0, none⟩) x5_2.length co21) y112 from (by (with_reducible repeat (first | apply Kd.R_alloc | apply Kd.R_drewN | apply Kd.R_drew)); exact HO_5.out)))); (try (obtain ⟨ce36, hcl36, hM36, hcc36, hfr36⟩ := Kd.R_elem HX36.out z70 (x50_2 : Int) (of_decide_eq_true (by first | (with_reducible assumption) | assumption)) (by have h_ : (x50_2 : Int) < ((x5_2.length : Int) : Int) := of_decide_eq_true (by first | (with_reducible assumption) | assumption); first | exact h_ | (have e_ := (Kd.R_reads' HO_5.out).1; omega) | simpa using h_))); (try (obtain rfl := k70_openM hM36)); (try (have HP36 := Kd.R_seg HX36.out (x50_2 : Int) (of_decide_eq_true (by first | (with_reducible assumption) | assumption)) (by have h_ : (x50_2 : Int) < ((x5_2.length : Int) : Int) := of_decide_eq_true (by first | (with_reducible assumption) | assumption); first | exact h_ | (have e_ := (Kd.R_reads' HO_5.out).1; omega) | simpa using h_) (seg := [.int .i64 ((rd_T70 y112 (ji28)).f2)]) (j := 2) hcl36 hcc36 (show 3 ≤ 3 from by decide) (x' := (⟨(rd_T70 y112 x50_2).f0, (rd_T70 y112 x50_2).f1, (rd_T70 y112 (ji28)).f2⟩ : S70)) (k70_mkM _ _ _ (⟨(rd_T70 y112 x50_2).f0, (rd_T70 y112 x50_2).f1, (rd_T70 y112 (ji28)).f2⟩ : S70) ) (fun _ hk => hk))); (try (have hx36_2 := hcc36 2 _ rfl)); (try (try simp only [show (k70).sz = 3 from rfl, Nat.mul_one, Nat.add_zero] at hx36_2)); (try (have hf36_2 := hfr36 2)); (try (try simp only [show (k70).sz = 3 from rfl, Nat.mul_one, Nat.add_zero] at hf36_2)); (try (clear hcl36 hcc36 hfr36 hM36)))); refine store_event (t := 3) (p := 118) (v := ?vo_w37) (w1 := (w35.setCell ⟨go25, (x50_2 : Int).toNat * 3 + 2, none⟩ (.int .i64 ((rd_T70 y112 (ji28)).f2)))) ?hg ?ho ?hn ?hr ?_; (case ho => rfl); (case hg => rfl); (case hn => rfl); (case hr => first | (go_simp; done) | (go_simp; rfl)); intro w37 hw; have hg : w35.grownBy w37 (some go25) := (by rw [hw]; exact HP36.2); have hp_ : Kd.R k70 70 w37 w.heap.size (fun _ => True) (.slice (some ⟨go25, 0, none⟩) x5_2.length co21) y118 := (by rw [hw, Ny118.out]; exact HP36.1); clear HP36; have n0_ := Aside0.mk (hp_); have n1_ := Aside0.mk ((by rw [hw]; exact below_set (HB.out) GB25.out : Below w.heap.size w w37)); clear HO_5; clear HB; have HO_5 := n0_; have HB := n1_; clear n0_ n1_; clear hg hw hp_)))
                                (try simp only [← hl5_2])
                                go_roundg k2
                                case measure => have := HK1.out; have := HK2.out; omega
                                case rel => exact ⟨(y118), (wrap64 (x50_2 + 1)), (by first | rfl | (simp; done) | (simp [*]; done)), H', ⟨by have := HK1.out; have := HK2.out; omega⟩, ⟨by (try simp only [hl5_2]); (with_reducible repeat (first | apply Kd.R_alloc | apply Kd.R_drewN | apply Kd.R_drew)); exact HO_5.out⟩, ⟨by repeat (first | (with_reducible first | exact HB.out | apply below_alloc | apply pw_below_drewN | apply below_drew1) | exact HB.out)⟩⟩
                              · rw [if_neg c32] at H
                                have c32b0 : (((rd_T70 y112 (ji28)).f0) == (wrap64 (((rd_T70 y112 x50_2).f0) - 1))) = false := beq_eq_false_iff_ne.mpr c32
                                have c32b1 : (((rd_T70 y112 (ji28)).f0) != (wrap64 (((rd_T70 y112 x50_2).f0) - 1))) = true := bne_iff_ne.mpr c32
                                have H' := Aside0.mk H
                                clear H
                                have p111 : 0 ≤ (x50_2 : Int) := of_decide_eq_true (by first | (with_reducible assumption) | assumption)
                                have q111 : x50_2 < (x5_2.length : Int) := of_decide_eq_true (by first | (with_reducible assumption) | assumption)
                                obtain ⟨ad111, e111, hx111_0, hx111_1, hx111_2⟩ := at_T70 (Kd.R_reads' HO_5.out).2.2 x50_2 p111 q111
                                cases e111
                                replace p111 := eq_true p111
                                replace q111 := eq_true q111
                                have p25 : 0 ≤ (x50_2 : Int) := of_decide_eq_true (by first | (with_reducible assumption) | assumption)
                                have q25 : (x50_2 : Int) < ((x5_2.length : Int) : Int) := of_decide_eq_true (by first | (with_reducible assumption) | assumption)
                                obtain ⟨go25, co25, eo25, gb25, gl25, cl25, HG25⟩ := Kd.R_form HO_5.out (by omega)
                                (first | cases eo25 | (injection eo25 with ea_ en_ ec_; (first | subst ea_ | (injection ea_ with ea_; subst ea_)); subst ec_; clear en_))
                                have GB25 := Aside0.mk gb25
                                have GG25 := Aside0.mk HG25
                                clear gb25 gl25 HG25
                                (first | simp only [add_plain] at hx111_0 | skip)
                                (first | simp only [add_plain] at hx111_1 | skip)
                                (first | simp only [add_plain] at hx111_2 | skip)
                                obtain ⟨ce25, hcl25, hM25, hcc25, hfr25⟩ := Kd.R_elem HO_5.out z70 (x50_2 : Int) p25 q25
                                obtain rfl := k70_openM hM25
                                have hx25_0 : wr.cell? ⟨go25, (x50_2 : Int).toNat * 3, none⟩ = some (.int .i64 ((rd_T70 x5_2 x50_2).f0)) := hcc25 0 _ rfl
                                have hx25_1 : wr.cell? ⟨go25, (x50_2 : Int).toNat * 3 + 1, none⟩ = some (.int .i64 ((rd_T70 x5_2 x50_2).f1)) := hcc25 1 _ rfl
                                have hx25_2 : wr.cell? ⟨go25, (x50_2 : Int).toNat * 3 + 2, none⟩ = some (.int .i64 ((rd_T70 x5_2 x50_2).f2)) := hcc25 2 _ rfl
                                have hf25_0 : wr.frozen? ⟨go25, (x50_2 : Int).toNat * 3, none⟩ = false := hfr25 0
                                have hf25_1 : wr.frozen? ⟨go25, (x50_2 : Int).toNat * 3 + 1, none⟩ = false := hfr25 1
                                have hf25_2 : wr.frozen? ⟨go25, (x50_2 : Int).toNat * 3 + 2, none⟩ = false := hfr25 2
                                clear hcl25 hcc25 hfr25 hM25
                                replace p25 := eq_true p25
                                replace q25 := eq_true q25
                                have HX38 := Aside0.mk (show Kd.R k70 70 wr w.heap.size (fun _ => True) (.slice (some ⟨go25, 0, none⟩) x5_2.length co21) x5_2 from (by (with_reducible repeat (first | apply Kd.R_alloc | apply Kd.R_drewN | apply Kd.R_drew)); exact HO_5.out))
                                obtain ⟨ce38, hcl38, hM38, hcc38, hfr38⟩ := Kd.R_elem HX38.out z70 (x50_2 : Int) (of_decide_eq_true (by first | (with_reducible assumption) | assumption)) (by have h_ : (x50_2 : Int) < ((x5_2.length : Int) : Int) := of_decide_eq_true (by first | (with_reducible assumption) | assumption); first | exact h_ | (have e_ := (Kd.R_reads' HO_5.out).1; omega) | simpa using h_)
                                obtain rfl := k70_openM hM38
                                have HP38 := Kd.R_seg HX38.out (x50_2 : Int) (of_decide_eq_true (by first | (with_reducible assumption) | assumption)) (by have h_ : (x50_2 : Int) < ((x5_2.length : Int) : Int) := of_decide_eq_true (by first | (with_reducible assumption) | assumption); first | exact h_ | (have e_ := (Kd.R_reads' HO_5.out).1; omega) | simpa using h_) (seg := [.int .i64 ((rd_T70 x5_2 x50_2).f0)]) (j := 2) hcl38 hcc38 (show 3 ≤ 3 from by decide) (x' := (⟨(rd_T70 x5_2 x50_2).f0, (rd_T70 x5_2 x50_2).f1, (rd_T70 x5_2 x50_2).f0⟩ : S70)) (k70_mkM _ _ _ (⟨(rd_T70 x5_2 x50_2).f0, (rd_T70 x5_2 x50_2).f1, (rd_T70 x5_2 x50_2).f0⟩ : S70) ) (fun _ hk => hk)
                                have hx38_2 := hcc38 2 _ rfl
                                (try simp only [show (k70).sz = 3 from rfl, Nat.mul_one, Nat.add_zero] at hx38_2)
                                have hf38_2 := hfr38 2
                                (try simp only [show (k70).sz = 3 from rfl, Nat.mul_one, Nat.add_zero] at hf38_2)
                                clear hcl38 hcc38 hfr38 hM38
                                go_wp2_with (first | ((with_reducible refine gate_store (t := 3) (p := 72) rfl ?_); (try (rw [drewN_self wr]; generalize hq_ : World.drewN wr _ = wr; have n0_ := Aside0.mk (Kd.R_at hq_ HO_5.out); have n1_ := Aside0.mk (below_at hq_ HB.out); clear hq_ HO_5 HB; have HO_5 := n0_; have HB := n1_; clear n0_ n1_; (try (have HX38 := Aside0.mk (show Kd.R k70 70 wr w.heap.size (fun _ => True) (.slice (some ⟨go25, 0, none⟩) x5_2.length co21) x5_2 from (by (with_reducible repeat (first | apply Kd.R_alloc | apply Kd.R_drewN | apply Kd.R_drew)); exact HO_5.out)))); (try (obtain ⟨ce38, hcl38, hM38, hcc38, hfr38⟩ := Kd.R_elem HX38.out z70 (x50_2 : Int) (of_decide_eq_true (by first | (with_reducible assumption) | assumption)) (by have h_ : (x50_2 : Int) < ((x5_2.length : Int) : Int) := of_decide_eq_true (by first | (with_reducible assumption) | assumption); first | exact h_ | (have e_ := (Kd.R_reads' HO_5.out).1; omega) | simpa using h_))); (try (obtain rfl := k70_openM hM38)); (try (have HP38 := Kd.R_seg HX38.out (x50_2 : Int) (of_decide_eq_true (by first | (with_reducible assumption) | assumption)) (by have h_ : (x50_2 : Int) < ((x5_2.length : Int) : Int) := of_decide_eq_true (by first | (with_reducible assumption) | assumption); first | exact h_ | (have e_ := (Kd.R_reads' HO_5.out).1; omega) | simpa using h_) (seg := [.int .i64 ((rd_T70 x5_2 x50_2).f0)]) (j := 2) hcl38 hcc38 (show 3 ≤ 3 from by decide) (x' := (⟨(rd_T70 x5_2 x50_2).f0, (rd_T70 x5_2 x50_2).f1, (rd_T70 x5_2 x50_2).f0⟩ : S70)) (k70_mkM _ _ _ (⟨(rd_T70 x5_2 x50_2).f0, (rd_T70 x5_2 x50_2).f1, (rd_T70 x5_2 x50_2).f0⟩ : S70) ) (fun _ hk => hk))); (try (have hx38_2 := hcc38 2 _ rfl)); (try (try simp only [show (k70).sz = 3 from rfl, Nat.mul_one, Nat.add_zero] at hx38_2)); (try (have hf38_2 := hfr38 2)); (try (try simp only [show (k70).sz = 3 from rfl, Nat.mul_one, Nat.add_zero] at hf38_2)); (try (clear hcl38 hcc38 hfr38 hM38)))); refine store_event (t := 3) (p := 72) (v := ?vo_w39) (w1 := (wr.setCell ⟨go25, (x50_2 : Int).toNat * 3 + 2, none⟩ (.int .i64 ((rd_T70 x5_2 x50_2).f0)))) ?hg ?ho ?hn ?hr ?_; (case ho => rfl); (case hg => rfl); (case hn => rfl); (case hr => first | (go_simp; done) | (go_simp; rfl)); intro w39 hw; have hg : wr.grownBy w39 (some go25) := (by rw [hw]; exact HP38.2); have hp_ : Kd.R k70 70 w39 w.heap.size (fun _ => True) (.slice (some ⟨go25, 0, none⟩) x5_2.length co21) y112 := (by rw [hw, Ny112.out]; exact HP38.1); clear HP38; have n0_ := Aside0.mk (hp_); have n1_ := Aside0.mk ((by rw [hw]; exact below_set (HB.out) GB25.out : Below w.heap.size w w39)); clear HO_5; clear HB; have HO_5 := n0_; have HB := n1_; clear n0_ n1_; clear hg hw hp_; have p113 : 0 ≤ (x50_2 : Int) := of_decide_eq_true (by first | (with_reducible assumption) | assumption); have q113 : x50_2 < (y112.length : Int) := (by have h_ : (x50_2 : Int) < ((x5_2.length : Int) : Int) := of_decide_eq_true (by first | (with_reducible assumption) | assumption); first | (have e_ := (Kd.R_reads' HO_5.out).1; omega) | simpa only [Ny112.out, List.length_set] using h_); have ql113 : ((x50_2 : Int) < ((x5_2.length : Int) : Int)) = True := eq_true (of_decide_eq_true (by first | (with_reducible assumption) | assumption)); obtain ⟨ad113, e113, hx113_0, hx113_1, hx113_2⟩ := at_T70 (Kd.R_reads' HO_5.out).2.2 x50_2 p113 q113; obtain rfl : (⟨go25, 0, none⟩ : Addr) = ad113 := (by injection e113); (first | simp only [add_plain] at hx113_0 | simp only [add_at] at hx113_0 | simp only [Addr.add, Nat.zero_add] at hx113_0 | skip); (first | simp only [add_plain] at hx113_1 | simp only [add_at] at hx113_1 | simp only [Addr.add, Nat.zero_add] at hx113_1 | skip); (first | simp only [add_plain] at hx113_2 | simp only [add_at] at hx113_2 | simp only [Addr.add, Nat.zero_add] at hx113_2 | skip); replace p113 := eq_true p113; replace q113 := eq_true q113; have p114 : 0 ≤ ((ji28) : Int) := of_decide_eq_true (by first | (with_reducible assumption) | assumption); have q114 : (ji28) < (y112.length : Int) := (by have h_ : ((ji28) : Int) < ((x5_2.length : Int) : Int) := of_decide_eq_true (by first | (with_reducible assumption) | assumption); first | (have e_ := (Kd.R_reads' HO_5.out).1; omega) | simpa only [Ny112.out, List.length_set] using h_); have ql114 : (((ji28) : Int) < ((x5_2.length : Int) : Int)) = True := eq_true (of_decide_eq_true (by first | (with_reducible assumption) | assumption)); obtain ⟨ad114, e114, hx114_0, hx114_1, hx114_2⟩ := at_T70 (Kd.R_reads' HO_5.out).2.2 (ji28) p114 q114; obtain rfl : (⟨go25, 0, none⟩ : Addr) = ad114 := (by injection e114); (first | simp only [add_plain] at hx114_0 | simp only [add_at] at hx114_0 | simp only [Addr.add, Nat.zero_add] at hx114_0 | skip); (first | simp only [add_plain] at hx114_1 | simp only [add_at] at hx114_1 | simp only [Addr.add, Nat.zero_add] at hx114_1 | skip); (first | simp only [add_plain] at hx114_2 | simp only [add_at] at hx114_2 | simp only [Addr.add, Nat.zero_add] at hx114_2 | skip); replace p114 := eq_true p114; replace q114 := eq_true q114; have p115 : 0 ≤ ((ji28) : Int) := of_decide_eq_true (by first | (with_reducible assumption) | assumption); have q115 : (ji28) < (y112.length : Int) := (by have h_ : ((ji28) : Int) < ((x5_2.length : Int) : Int) := of_decide_eq_true (by first | (with_reducible assumption) | assumption); first | (have e_ := (Kd.R_reads' HO_5.out).1; omega) | simpa only [Ny112.out, List.length_set] using h_); have ql115 : (((ji28) : Int) < ((x5_2.length : Int) : Int)) = True := eq_true (of_decide_eq_true (by first | (with_reducible assumption) | assumption)); obtain ⟨ad115, e115, hx115_0, hx115_1, hx115_2⟩ := at_T70 (Kd.R_reads' HO_5.out).2.2 (ji28) p115 q115; obtain rfl : (⟨go25, 0, none⟩ : Addr) = ad115 := (by injection e115); (first | simp only [add_plain] at hx115_0 | simp only [add_at] at hx115_0 | simp only [Addr.add, Nat.zero_add] at hx115_0 | skip); (first | simp only [add_plain] at hx115_1 | simp only [add_at] at hx115_1 | simp only [Addr.add, Nat.zero_add] at hx115_1 | skip); (first | simp only [add_plain] at hx115_2 | simp only [add_at] at hx115_2 | simp only [Addr.add, Nat.zero_add] at hx115_2 | skip); replace p115 := eq_true p115; replace q115 := eq_true q115; have p116 : 0 ≤ (x50_2 : Int) := of_decide_eq_true (by first | (with_reducible assumption) | assumption); have q116 : x50_2 < (y112.length : Int) := (by have h_ : (x50_2 : Int) < ((x5_2.length : Int) : Int) := of_decide_eq_true (by first | (with_reducible assumption) | assumption); first | (have e_ := (Kd.R_reads' HO_5.out).1; omega) | simpa only [Ny112.out, List.length_set] using h_); have ql116 : ((x50_2 : Int) < ((x5_2.length : Int) : Int)) = True := eq_true (of_decide_eq_true (by first | (with_reducible assumption) | assumption)); obtain ⟨ad116, e116, hx116_0, hx116_1, hx116_2⟩ := at_T70 (Kd.R_reads' HO_5.out).2.2 x50_2 p116 q116; obtain rfl : (⟨go25, 0, none⟩ : Addr) = ad116 := (by injection e116); (first | simp only [add_plain] at hx116_0 | simp only [add_at] at hx116_0 | simp only [Addr.add, Nat.zero_add] at hx116_0 | skip); (first | simp only [add_plain] at hx116_1 | simp only [add_at] at hx116_1 | simp only [Addr.add, Nat.zero_add] at hx116_1 | skip); (first | simp only [add_plain] at hx116_2 | simp only [add_at] at hx116_2 | simp only [Addr.add, Nat.zero_add] at hx116_2 | skip); replace p116 := eq_true p116; replace q116 := eq_true q116))
                                repeat (go_quiet (first | ((with_reducible refine gate_store (t := 3) (p := 72) rfl ?_); (try (rw [drewN_self wr]; generalize hq_ : World.drewN wr _ = wr; have n0_ := Aside0.mk (Kd.R_at hq_ HO_5.out); have n1_ := Aside0.mk (below_at hq_ HB.out); clear hq_ HO_5 HB; have HO_5 := n0_; have HB := n1_; clear n0_ n1_; (try (have HX38 := Aside0.mk (show Kd.R k70 70 wr w.heap.size (fun _ => True) (.slice (some ⟨go25, 0, none⟩) x5_2.length co21) x5_2 from (by (with_reducible repeat (first | apply Kd.R_alloc | apply Kd.R_drewN | apply Kd.R_drew)); exact HO_5.out)))); (try (obtain ⟨ce38, hcl38, hM38, hcc38, hfr38⟩ := Kd.R_elem HX38.out z70 (x50_2 : Int) (of_decide_eq_true (by first | (with_reducible assumption) | assumption)) (by have h_ : (x50_2 : Int) < ((x5_2.length : Int) : Int) := of_decide_eq_true (by first | (with_reducible assumption) | assumption); first | exact h_ | (have e_ := (Kd.R_reads' HO_5.out).1; omega) | simpa using h_))); (try (obtain rfl := k70_openM hM38)); (try (have HP38 := Kd.R_seg HX38.out (x50_2 : Int) (of_decide_eq_true (by first | (with_reducible assumption) | assumption)) (by have h_ : (x50_2 : Int) < ((x5_2.length : Int) : Int) := of_decide_eq_true (by first | (with_reducible assumption) | assumption); first | exact h_ | (have e_ := (Kd.R_reads' HO_5.out).1; omega) | simpa using h_) (seg := [.int .i64 ((rd_T70 x5_2 x50_2).f0)]) (j := 2) hcl38 hcc38 (show 3 ≤ 3 from by decide) (x' := (⟨(rd_T70 x5_2 x50_2).f0, (rd_T70 x5_2 x50_2).f1, (rd_T70 x5_2 x50_2).f0⟩ : S70)) (k70_mkM _ _ _ (⟨(rd_T70 x5_2 x50_2).f0, (rd_T70 x5_2 x50_2).f1, (rd_T70 x5_2 x50_2).f0⟩ : S70) ) (fun _ hk => hk))); (try (have hx38_2 := hcc38 2 _ rfl)); (try (try simp only [show (k70).sz = 3 from rfl, Nat.mul_one, Nat.add_zero] at hx38_2)); (try (have hf38_2 := hfr38 2)); (try (try simp only [show (k70).sz = 3 from rfl, Nat.mul_one, Nat.add_zero] at hf38_2)); (try (clear hcl38 hcc38 hfr38 hM38)))); refine store_event (t := 3) (p := 72) (v := ?vo_w39) (w1 := (wr.setCell ⟨go25, (x50_2 : Int).toNat * 3 + 2, none⟩ (.int .i64 ((rd_T70 x5_2 x50_2).f0)))) ?hg ?ho ?hn ?hr ?_; (case ho => rfl); (case hg => rfl); (case hn => rfl); (case hr => first | (go_simp; done) | (go_simp; rfl)); intro w39 hw; have hg : wr.grownBy w39 (some go25) := (by rw [hw]; exact HP38.2); have hp_ : Kd.R k70 70 w39 w.heap.size (fun _ => True) (.slice (some ⟨go25, 0, none⟩) x5_2.length co21) y112 := (by rw [hw, Ny112.out]; exact HP38.1); clear HP38; have n0_ := Aside0.mk (hp_); have n1_ := Aside0.mk ((by rw [hw]; exact below_set (HB.out) GB25.out : Below w.heap.size w w39)); clear HO_5; clear HB; have HO_5 := n0_; have HB := n1_; clear n0_ n1_; clear hg hw hp_; have p113 : 0 ≤ (x50_2 : Int) := of_decide_eq_true (by first | (with_reducible assumption) | assumption); have q113 : x50_2 < (y112.length : Int) := (by have h_ : (x50_2 : Int) < ((x5_2.length : Int) : Int) := of_decide_eq_true (by first | (with_reducible assumption) | assumption); first | (have e_ := (Kd.R_reads' HO_5.out).1; omega) | simpa only [Ny112.out, List.length_set] using h_); have ql113 : ((x50_2 : Int) < ((x5_2.length : Int) : Int)) = True := eq_true (of_decide_eq_true (by first | (with_reducible assumption) | assumption)); obtain ⟨ad113, e113, hx113_0, hx113_1, hx113_2⟩ := at_T70 (Kd.R_reads' HO_5.out).2.2 x50_2 p113 q113; obtain rfl : (⟨go25, 0, none⟩ : Addr) = ad113 := (by injection e113); (first | simp only [add_plain] at hx113_0 | simp only [add_at] at hx113_0 | simp only [Addr.add, Nat.zero_add] at hx113_0 | skip); (first | simp only [add_plain] at hx113_1 | simp only [add_at] at hx113_1 | simp only [Addr.add, Nat.zero_add] at hx113_1 | skip); (first | simp only [add_plain] at hx113_2 | simp only [add_at] at hx113_2 | simp only [Addr.add, Nat.zero_add] at hx113_2 | skip); replace p113 := eq_true p113; replace q113 := eq_true q113; have p114 : 0 ≤ ((ji28) : Int) := of_decide_eq_true (by first | (with_reducible assumption) | assumption); have q114 : (ji28) < (y112.length : Int) := (by have h_ : ((ji28) : Int) < ((x5_2.length : Int) : Int) := of_decide_eq_true (by first | (with_reducible assumption) | assumption); first | (have e_ := (Kd.R_reads' HO_5.out).1; omega) | simpa only [Ny112.out, List.length_set] using h_); have ql114 : (((ji28) : Int) < ((x5_2.length : Int) : Int)) = True := eq_true (of_decide_eq_true (by first | (with_reducible assumption) | assumption)); obtain ⟨ad114, e114, hx114_0, hx114_1, hx114_2⟩ := at_T70 (Kd.R_reads' HO_5.out).2.2 (ji28) p114 q114; obtain rfl : (⟨go25, 0, none⟩ : Addr) = ad114 := (by injection e114); (first | simp only [add_plain] at hx114_0 | simp only [add_at] at hx114_0 | simp only [Addr.add, Nat.zero_add] at hx114_0 | skip); (first | simp only [add_plain] at hx114_1 | simp only [add_at] at hx114_1 | simp only [Addr.add, Nat.zero_add] at hx114_1 | skip); (first | simp only [add_plain] at hx114_2 | simp only [add_at] at hx114_2 | simp only [Addr.add, Nat.zero_add] at hx114_2 | skip); replace p114 := eq_true p114; replace q114 := eq_true q114; have p115 : 0 ≤ ((ji28) : Int) := of_decide_eq_true (by first | (with_reducible assumption) | assumption); have q115 : (ji28) < (y112.length : Int) := (by have h_ : ((ji28) : Int) < ((x5_2.length : Int) : Int) := of_decide_eq_true (by first | (with_reducible assumption) | assumption); first | (have e_ := (Kd.R_reads' HO_5.out).1; omega) | simpa only [Ny112.out, List.length_set] using h_); have ql115 : (((ji28) : Int) < ((x5_2.length : Int) : Int)) = True := eq_true (of_decide_eq_true (by first | (with_reducible assumption) | assumption)); obtain ⟨ad115, e115, hx115_0, hx115_1, hx115_2⟩ := at_T70 (Kd.R_reads' HO_5.out).2.2 (ji28) p115 q115; obtain rfl : (⟨go25, 0, none⟩ : Addr) = ad115 := (by injection e115); (first | simp only [add_plain] at hx115_0 | simp only [add_at] at hx115_0 | simp only [Addr.add, Nat.zero_add] at hx115_0 | skip); (first | simp only [add_plain] at hx115_1 | simp only [add_at] at hx115_1 | simp only [Addr.add, Nat.zero_add] at hx115_1 | skip); (first | simp only [add_plain] at hx115_2 | simp only [add_at] at hx115_2 | simp only [Addr.add, Nat.zero_add] at hx115_2 | skip); replace p115 := eq_true p115; replace q115 := eq_true q115; have p116 : 0 ≤ (x50_2 : Int) := of_decide_eq_true (by first | (with_reducible assumption) | assumption); have q116 : x50_2 < (y112.length : Int) := (by have h_ : (x50_2 : Int) < ((x5_2.length : Int) : Int) := of_decide_eq_true (by first | (with_reducible assumption) | assumption); first | (have e_ := (Kd.R_reads' HO_5.out).1; omega) | simpa only [Ny112.out, List.length_set] using h_); have ql116 : ((x50_2 : Int) < ((x5_2.length : Int) : Int)) = True := eq_true (of_decide_eq_true (by first | (with_reducible assumption) | assumption)); obtain ⟨ad116, e116, hx116_0, hx116_1, hx116_2⟩ := at_T70 (Kd.R_reads' HO_5.out).2.2 x50_2 p116 q116; obtain rfl : (⟨go25, 0, none⟩ : Addr) = ad116 := (by injection e116); (first | simp only [add_plain] at hx116_0 | simp only [add_at] at hx116_0 | simp only [Addr.add, Nat.zero_add] at hx116_0 | skip); (first | simp only [add_plain] at hx116_1 | simp only [add_at] at hx116_1 | simp only [Addr.add, Nat.zero_add] at hx116_1 | skip); (first | simp only [add_plain] at hx116_2 | simp only [add_at] at hx116_2 | simp only [Addr.add, Nat.zero_add] at hx116_2 | skip); replace p116 := eq_true p116; replace q116 := eq_true q116)); try go_wp2_with (first | ((with_reducible refine gate_store (t := 3) (p := 72) rfl ?_); (try (rw [drewN_self wr]; generalize hq_ : World.drewN wr _ = wr; have n0_ := Aside0.mk (Kd.R_at hq_ HO_5.out); have n1_ := Aside0.mk (below_at hq_ HB.out); clear hq_ HO_5 HB; have HO_5 := n0_; have HB := n1_; clear n0_ n1_; (try (have HX38 := Aside0.mk (show Kd.R k70 70 wr w.heap.size (fun _ => True) (.slice (some ⟨go25, 0, none⟩) x5_2.length co21) x5_2 from (by (with_reducible repeat (first | apply Kd.R_alloc | apply Kd.R_drewN | apply Kd.R_drew)); exact HO_5.out)))); (try (obtain ⟨ce38, hcl38, hM38, hcc38, hfr38⟩ := Kd.R_elem HX38.out z70 (x50_2 : Int) (of_decide_eq_true (by first | (with_reducible assumption) | assumption)) (by have h_ : (x50_2 : Int) < ((x5_2.length : Int) : Int) := of_decide_eq_true (by first | (with_reducible assumption) | assumption); first | exact h_ | (have e_ := (Kd.R_reads' HO_5.out).1; omega) | simpa using h_))); (try (obtain rfl := k70_openM hM38)); (try (have HP38 := Kd.R_seg HX38.out (x50_2 : Int) (of_decide_eq_true (by first | (with_reducible assumption) | assumption)) (by have h_ : (x50_2 : Int) < ((x5_2.length : Int) : Int) := of_decide_eq_true (by first | (with_reducible assumption) | assumption); first | exact h_ | (have e_ := (Kd.R_reads' HO_5.out).1; omega) | simpa using h_) (seg := [.int .i64 ((rd_T70 x5_2 x50_2).f0)]) (j := 2) hcl38 hcc38 (show 3 ≤ 3 from by decide) (x' := (⟨(rd_T70 x5_2 x50_2).f0, (rd_T70 x5_2 x50_2).f1, (rd_T70 x5_2 x50_2).f0⟩ : S70)) (k70_mkM _ _ _ (⟨(rd_T70 x5_2 x50_2).f0, (rd_T70 x5_2 x50_2).f1, (rd_T70 x5_2 x50_2).f0⟩ : S70) ) (fun _ hk => hk))); (try (have hx38_2 := hcc38 2 _ rfl)); (try (try simp only [show (k70).sz = 3 from rfl, Nat.mul_one, Nat.add_zero] at hx38_2)); (try (have hf38_2 := hfr38 2)); (try (try simp only [show (k70).sz = 3 from rfl, Nat.mul_one, Nat.add_zero] at hf38_2)); (try (clear hcl38 hcc38 hfr38 hM38)))); refine store_event (t := 3) (p := 72) (v := ?vo_w39) (w1 := (wr.setCell ⟨go25, (x50_2 : Int).toNat * 3 + 2, none⟩ (.int .i64 ((rd_T70 x5_2 x50_2).f0)))) ?hg ?ho ?hn ?hr ?_; (case ho => rfl); (case hg => rfl); (case hn => rfl); (case hr => first | (go_simp; done) | (go_simp; rfl)); intro w39 hw; have hg : wr.grownBy w39 (some go25) := (by rw [hw]; exact HP38.2); have hp_ : Kd.R k70 70 w39 w.heap.size (fun _ => True) (.slice (some ⟨go25, 0, none⟩) x5_2.length co21) y112 := (by rw [hw, Ny112.out]; exact HP38.1); clear HP38; have n0_ := Aside0.mk (hp_); have n1_ := Aside0.mk ((by rw [hw]; exact below_set (HB.out) GB25.out : Below w.heap.size w w39)); clear HO_5; clear HB; have HO_5 := n0_; have HB := n1_; clear n0_ n1_; clear hg hw hp_; have p113 : 0 ≤ (x50_2 : Int) := of_decide_eq_true (by first | (with_reducible assumption) | assumption); have q113 : x50_2 < (y112.length : Int) := (by have h_ : (x50_2 : Int) < ((x5_2.length : Int) : Int) := of_decide_eq_true (by first | (with_reducible assumption) | assumption); first | (have e_ := (Kd.R_reads' HO_5.out).1; omega) | simpa only [Ny112.out, List.length_set] using h_); have ql113 : ((x50_2 : Int) < ((x5_2.length : Int) : Int)) = True := eq_true (of_decide_eq_true (by first | (with_reducible assumption) | assumption)); obtain ⟨ad113, e113, hx113_0, hx113_1, hx113_2⟩ := at_T70 (Kd.R_reads' HO_5.out).2.2 x50_2 p113 q113; obtain rfl : (⟨go25, 0, none⟩ : Addr) = ad113 := (by injection e113); (first | simp only [add_plain] at hx113_0 | simp only [add_at] at hx113_0 | simp only [Addr.add, Nat.zero_add] at hx113_0 | skip); (first | simp only [add_plain] at hx113_1 | simp only [add_at] at hx113_1 | simp only [Addr.add, Nat.zero_add] at hx113_1 | skip); (first | simp only [add_plain] at hx113_2 | simp only [add_at] at hx113_2 | simp only [Addr.add, Nat.zero_add] at hx113_2 | skip); replace p113 := eq_true p113; replace q113 := eq_true q113; have p114 : 0 ≤ ((ji28) : Int) := of_decide_eq_true (by first | (with_reducible assumption) | assumption); have q114 : (ji28) < (y112.length : Int) := (by have h_ : ((ji28) : Int) < ((x5_2.length : Int) : Int) := of_decide_eq_true (by first | (with_reducible assumption) | assumption); first | (have e_ := (Kd.R_reads' HO_5.out).1; omega) | simpa only [Ny112.out, List.length_set] using h_); have ql114 : (((ji28) : Int) < ((x5_2.length : Int) : Int)) = True := eq_true (of_decide_eq_true (by first | (with_reducible assumption) | assumption)); obtain ⟨ad114, e114, hx114_0, hx114_1, hx114_2⟩ := at_T70 (Kd.R_reads' HO_5.out).2.2 (ji28) p114 q114; obtain rfl : (⟨go25, 0, none⟩ : Addr) = ad114 := (by injection e114); (first | simp only [add_plain] at hx114_0 | simp only [add_at] at hx114_0 | simp only [Addr.add, Nat.zero_add] at hx114_0 | skip); (first | simp only [add_plain] at hx114_1 | simp only [add_at] at hx114_1 | simp only [Addr.add, Nat.zero_add] at hx114_1 | skip); (first | simp only [add_plain] at hx114_2 | simp only [add_at] at hx114_2 | simp only [Addr.add, Nat.zero_add] at hx114_2 | skip); replace p114 := eq_true p114; replace q114 := eq_true q114; have p115 : 0 ≤ ((ji28) : Int) := of_decide_eq_true (by first | (with_reducible assumption) | assumption); have q115 : (ji28) < (y112.length : Int) := (by have h_ : ((ji28) : Int) < ((x5_2.length : Int) : Int) := of_decide_eq_true (by first | (with_reducible assumption) | assumption); first | (have e_ := (Kd.R_reads' HO_5.out).1; omega) | simpa only [Ny112.out, List.length_set] using h_); have ql115 : (((ji28) : Int) < ((x5_2.length : Int) : Int)) = True := eq_true (of_decide_eq_true (by first | (with_reducible assumption) | assumption)); obtain ⟨ad115, e115, hx115_0, hx115_1, hx115_2⟩ := at_T70 (Kd.R_reads' HO_5.out).2.2 (ji28) p115 q115; obtain rfl : (⟨go25, 0, none⟩ : Addr) = ad115 := (by injection e115); (first | simp only [add_plain] at hx115_0 | simp only [add_at] at hx115_0 | simp only [Addr.add, Nat.zero_add] at hx115_0 | skip); (first | simp only [add_plain] at hx115_1 | simp only [add_at] at hx115_1 | simp only [Addr.add, Nat.zero_add] at hx115_1 | skip); (first | simp only [add_plain] at hx115_2 | simp only [add_at] at hx115_2 | simp only [Addr.add, Nat.zero_add] at hx115_2 | skip); replace p115 := eq_true p115; replace q115 := eq_true q115; have p116 : 0 ≤ (x50_2 : Int) := of_decide_eq_true (by first | (with_reducible assumption) | assumption); have q116 : x50_2 < (y112.length : Int) := (by have h_ : (x50_2 : Int) < ((x5_2.length : Int) : Int) := of_decide_eq_true (by first | (with_reducible assumption) | assumption); first | (have e_ := (Kd.R_reads' HO_5.out).1; omega) | simpa only [Ny112.out, List.length_set] using h_); have ql116 : ((x50_2 : Int) < ((x5_2.length : Int) : Int)) = True := eq_true (of_decide_eq_true (by first | (with_reducible assumption) | assumption)); obtain ⟨ad116, e116, hx116_0, hx116_1, hx116_2⟩ := at_T70 (Kd.R_reads' HO_5.out).2.2 x50_2 p116 q116; obtain rfl : (⟨go25, 0, none⟩ : Addr) = ad116 := (by injection e116); (first | simp only [add_plain] at hx116_0 | simp only [add_at] at hx116_0 | simp only [Addr.add, Nat.zero_add] at hx116_0 | skip); (first | simp only [add_plain] at hx116_1 | simp only [add_at] at hx116_1 | simp only [Addr.add, Nat.zero_add] at hx116_1 | skip); (first | simp only [add_plain] at hx116_2 | simp only [add_at] at hx116_2 | simp only [Addr.add, Nat.zero_add] at hx116_2 | skip); replace p116 := eq_true p116; replace q116 := eq_true q116)))
                                (try simp only [← hl5_2])
                                go_roundg k2
                                case measure => have := HK1.out; have := HK2.out; omega
                                case rel => exact ⟨(y112), (wrap64 (x50_2 + 1)), (by first | rfl | (simp; done) | (simp [*]; done)), H', ⟨by have := HK1.out; have := HK2.out; omega⟩, ⟨by (try simp only [hl5_2]); (with_reducible repeat (first | apply Kd.R_alloc | apply Kd.R_drewN | apply Kd.R_drew)); exact HO_5.out⟩, ⟨by repeat (first | (with_reducible first | exact HB.out | apply below_alloc | apply pw_below_drewN | apply below_drew1) | exact HB.out)⟩⟩
                            · rw [if_neg c31] at H
                              have c31b0 : (((rd_T70 y112 (ji28)).f1) == a1) = false := beq_eq_false_iff_ne.mpr c31
                              have c31b1 : (((rd_T70 y112 (ji28)).f1) != a1) = true := bne_iff_ne.mpr c31
                              have H' := Aside0.mk H
                              clear H
                              have p111 : 0 ≤ (x50_2 : Int) := of_decide_eq_true (by first | (with_reducible assumption) | assumption)
                              have q111 : x50_2 < (x5_2.length : Int) := of_decide_eq_true (by first | (with_reducible assumption) | assumption)
                              obtain ⟨ad111, e111, hx111_0, hx111_1, hx111_2⟩ := at_T70 (Kd.R_reads' HO_5.out).2.2 x50_2 p111 q111
                              cases e111
                              replace p111 := eq_true p111
                              replace q111 := eq_true q111
                              have p25 : 0 ≤ (x50_2 : Int) := of_decide_eq_true (by first | (with_reducible assumption) | assumption)
                              have q25 : (x50_2 : Int) < ((x5_2.length : Int) : Int) := of_decide_eq_true (by first | (with_reducible assumption) | assumption)
                              obtain ⟨go25, co25, eo25, gb25, gl25, cl25, HG25⟩ := Kd.R_form HO_5.out (by omega)
                              (first | cases eo25 | (injection eo25 with ea_ en_ ec_; (first | subst ea_ | (injection ea_ with ea_; subst ea_)); subst ec_; clear en_))
                              have GB25 := Aside0.mk gb25
                              have GG25 := Aside0.mk HG25
                              clear gb25 gl25 HG25
                              (first | simp only [add_plain] at hx111_0 | skip)
                              (first | simp only [add_plain] at hx111_1 | skip)
                              (first | simp only [add_plain] at hx111_2 | skip)
                              obtain ⟨ce25, hcl25, hM25, hcc25, hfr25⟩ := Kd.R_elem HO_5.out z70 (x50_2 : Int) p25 q25
                              obtain rfl := k70_openM hM25
                              have hx25_0 : wr.cell? ⟨go25, (x50_2 : Int).toNat * 3, none⟩ = some (.int .i64 ((rd_T70 x5_2 x50_2).f0)) := hcc25 0 _ rfl
                              have hx25_1 : wr.cell? ⟨go25, (x50_2 : Int).toNat * 3 + 1, none⟩ = some (.int .i64 ((rd_T70 x5_2 x50_2).f1)) := hcc25 1 _ rfl
                              have hx25_2 : wr.cell? ⟨go25, (x50_2 : Int).toNat * 3 + 2, none⟩ = some (.int .i64 ((rd_T70 x5_2 x50_2).f2)) := hcc25 2 _ rfl
                              have hf25_0 : wr.frozen? ⟨go25, (x50_2 : Int).toNat * 3, none⟩ = false := hfr25 0
                              have hf25_1 : wr.frozen? ⟨go25, (x50_2 : Int).toNat * 3 + 1, none⟩ = false := hfr25 1
                              have hf25_2 : wr.frozen? ⟨go25, (x50_2 : Int).toNat * 3 + 2, none⟩ = false := hfr25 2
                              clear hcl25 hcc25 hfr25 hM25
                              replace p25 := eq_true p25
                              replace q25 := eq_true q25
                              have HX40 := Aside0.mk (show Kd.R k70 70 wr w.heap.size (fun _ => True) (.slice (some ⟨go25, 0, none⟩) x5_2.length co21) x5_2 from (by (with_reducible repeat (first | apply Kd.R_alloc | apply Kd.R_drewN | apply Kd.R_drew)); exact HO_5.out))
                              obtain ⟨ce40, hcl40, hM40, hcc40, hfr40⟩ := Kd.R_elem HX40.out z70 (x50_2 : Int) (of_decide_eq_true (by first | (with_reducible assumption) | assumption)) (by have h_ : (x50_2 : Int) < ((x5_2.length : Int) : Int) := of_decide_eq_true (by first | (with_reducible assumption) | assumption); first | exact h_ | (have e_ := (Kd.R_reads' HO_5.out).1; omega) | simpa using h_)
                              obtain rfl := k70_openM hM40
                              have HP40 := Kd.R_seg HX40.out (x50_2 : Int) (of_decide_eq_true (by first | (with_reducible assumption) | assumption)) (by have h_ : (x50_2 : Int) < ((x5_2.length : Int) : Int) := of_decide_eq_true (by first | (with_reducible assumption) | assumption); first | exact h_ | (have e_ := (Kd.R_reads' HO_5.out).1; omega) | simpa using h_) (seg := [.int .i64 ((rd_T70 x5_2 x50_2).f0)]) (j := 2) hcl40 hcc40 (show 3 ≤ 3 from by decide) (x' := (⟨(rd_T70 x5_2 x50_2).f0, (rd_T70 x5_2 x50_2).f1, (rd_T70 x5_2 x50_2).f0⟩ : S70)) (k70_mkM _ _ _ (⟨(rd_T70 x5_2 x50_2).f0, (rd_T70 x5_2 x50_2).f1, (rd_T70 x5_2 x50_2).f0⟩ : S70) ) (fun _ hk => hk)
                              have hx40_2 := hcc40 2 _ rfl
                              (try simp only [show (k70).sz = 3 from rfl, Nat.mul_one, Nat.add_zero] at hx40_2)
                              have hf40_2 := hfr40 2
                              (try simp only [show (k70).sz = 3 from rfl, Nat.mul_one, Nat.add_zero] at hf40_2)
                              clear hcl40 hcc40 hfr40 hM40
                              go_wp2_with (first | ((with_reducible refine gate_store (t := 3) (p := 72) rfl ?_); (try (rw [drewN_self wr]; generalize hq_ : World.drewN wr _ = wr; have n0_ := Aside0.mk (Kd.R_at hq_ HO_5.out); have n1_ := Aside0.mk (below_at hq_ HB.out); clear hq_ HO_5 HB; have HO_5 := n0_; have HB := n1_; clear n0_ n1_; (try (have HX40 := Aside0.mk (show Kd.R k70 70 wr w.heap.size (fun _ => True) (.slice (some ⟨go25, 0, none⟩) x5_2.length co21) x5_2 from (by (with_reducible repeat (first | apply Kd.R_alloc | apply Kd.R_drewN | apply Kd.R_drew)); exact HO_5.out)))); (try (obtain ⟨ce40, hcl40, hM40, hcc40, hfr40⟩ := Kd.R_elem HX40.out z70 (x50_2 : Int) (of_decide_eq_true (by first | (with_reducible assumption) | assumption)) (by have h_ : (x50_2 : Int) < ((x5_2.length : Int) : Int) := of_decide_eq_true (by first | (with_reducible assumption) | assumption); first | exact h_ | (have e_ := (Kd.R_reads' HO_5.out).1; omega) | simpa using h_))); (try (obtain rfl := k70_openM hM40)); (try (have HP40 := Kd.R_seg HX40.out (x50_2 : Int) (of_decide_eq_true (by first | (with_reducible assumption) | assumption)) (by have h_ : (x50_2 : Int) < ((x5_2.length : Int) : Int) := of_decide_eq_true (by first | (with_reducible assumption) | assumption); first | exact h_ | (have e_ := (Kd.R_reads' HO_5.out).1; omega) | simpa using h_) (seg := [.int .i64 ((rd_T70 x5_2 x50_2).f0)]) (j := 2) hcl40 hcc40 (show 3 ≤ 3 from by decide) (x' := (⟨(rd_T70 x5_2 x50_2).f0, (rd_T70 x5_2 x50_2).f1, (rd_T70 x5_2 x50_2).f0⟩ : S70)) (k70_mkM _ _ _ (⟨(rd_T70 x5_2 x50_2).f0, (rd_T70 x5_2 x50_2).f1, (rd_T70 x5_2 x50_2).f0⟩ : S70) ) (fun _ hk => hk))); (try (have hx40_2 := hcc40 2 _ rfl)); (try (try simp only [show (k70).sz = 3 from rfl, Nat.mul_one, Nat.add_zero] at hx40_2)); (try (have hf40_2 := hfr40 2)); (try (try simp only [show (k70).sz = 3 from rfl, Nat.mul_one, Nat.add_zero] at hf40_2)); (try (clear hcl40 hcc40 hfr40 hM40)))); refine store_event (t := 3) (p := 72) (v := ?vo_w41) (w1 := (wr.setCell ⟨go25, (x50_2 : Int).toNat * 3 + 2, none⟩ (.int .i64 ((rd_T70 x5_2 x50_2).f0)))) ?hg ?ho ?hn ?hr ?_; (case ho => rfl); (case hg => rfl); (case hn => rfl); (case hr => first | (go_simp; done) | (go_simp; rfl)); intro w41 hw; have hg : wr.grownBy w41 (some go25) := (by rw [hw]; exact HP40.2); have hp_ : Kd.R k70 70 w41 w.heap.size (fun _ => True) (.slice (some ⟨go25, 0, none⟩) x5_2.length co21) y112 := (by rw [hw, Ny112.out]; exact HP40.1); clear HP40; have n0_ := Aside0.mk (hp_); have n1_ := Aside0.mk ((by rw [hw]; exact below_set (HB.out) GB25.out : Below w.heap.size w w41)); clear HO_5; clear HB; have HO_5 := n0_; have HB := n1_; clear n0_ n1_; clear hg hw hp_; have p113 : 0 ≤ (x50_2 : Int) := of_decide_eq_true (by first | (with_reducible assumption) | assumption); have q113 : x50_2 < (y112.length : Int) := (by have h_ : (x50_2 : Int) < ((x5_2.length : Int) : Int) := of_decide_eq_true (by first | (with_reducible assumption) | assumption); first | (have e_ := (Kd.R_reads' HO_5.out).1; omega) | simpa only [Ny112.out, List.length_set] using h_); have ql113 : ((x50_2 : Int) < ((x5_2.length : Int) : Int)) = True := eq_true (of_decide_eq_true (by first | (with_reducible assumption) | assumption)); obtain ⟨ad113, e113, hx113_0, hx113_1, hx113_2⟩ := at_T70 (Kd.R_reads' HO_5.out).2.2 x50_2 p113 q113; obtain rfl : (⟨go25, 0, none⟩ : Addr) = ad113 := (by injection e113); (first | simp only [add_plain] at hx113_0 | simp only [add_at] at hx113_0 | simp only [Addr.add, Nat.zero_add] at hx113_0 | skip); (first | simp only [add_plain] at hx113_1 | simp only [add_at] at hx113_1 | simp only [Addr.add, Nat.zero_add] at hx113_1 | skip); (first | simp only [add_plain] at hx113_2 | simp only [add_at] at hx113_2 | simp only [Addr.add, Nat.zero_add] at hx113_2 | skip); replace p113 := eq_true p113; replace q113 := eq_true q113; have p114 : 0 ≤ ((ji28) : Int) := of_decide_eq_true (by first | (with_reducible assumption) | assumption); have q114 : (ji28) < (y112.length : Int) := (by have h_ : ((ji28) : Int) < ((x5_2.length : Int) : Int) := of_decide_eq_true (by first | (with_reducible assumption) | assumption); first | (have e_ := (Kd.R_reads' HO_5.out).1; omega) | simpa only [Ny112.out, List.length_set] using h_); have ql114 : (((ji28) : Int) < ((x5_2.length : Int) : Int)) = True := eq_true (of_decide_eq_true (by first | (with_reducible assumption) | assumption)); obtain ⟨ad114, e114, hx114_0, hx114_1, hx114_2⟩ := at_T70 (Kd.R_reads' HO_5.out).2.2 (ji28) p114 q114; obtain rfl : (⟨go25, 0, none⟩ : Addr) = ad114 := (by injection e114); (first | simp only [add_plain] at hx114_0 | simp only [add_at] at hx114_0 | simp only [Addr.add, Nat.zero_add] at hx114_0 | skip); (first | simp only [add_plain] at hx114_1 | simp only [add_at] at hx114_1 | simp only [Addr.add, Nat.zero_add] at hx114_1 | skip); (first | simp only [add_plain] at hx114_2 | simp only [add_at] at hx114_2 | simp only [Addr.add, Nat.zero_add] at hx114_2 | skip); replace p114 := eq_true p114; replace q114 := eq_true q114))
                              repeat (go_quiet (first | ((with_reducible refine gate_store (t := 3) (p := 72) rfl ?_); (try (rw [drewN_self wr]; generalize hq_ : World.drewN wr _ = wr; have n0_ := Aside0.mk (Kd.R_at hq_ HO_5.out); have n1_ := Aside0.mk (below_at hq_ HB.out); clear hq_ HO_5 HB; have HO_5 := n0_; have HB := n1_; clear n0_ n1_; (try (have HX40 := Aside0.mk (show Kd.R k70 70 wr w.heap.size (fun _ => True) (.slice (some ⟨go25, 0, none⟩) x5_2.length co21) x5_2 from (by (with_reducible repeat (first | apply Kd.R_alloc | apply Kd.R_drewN | apply Kd.R_drew)); exact HO_5.out)))); (try (obtain ⟨ce40, hcl40, hM40, hcc40, hfr40⟩ := Kd.R_elem HX40.out z70 (x50_2 : Int) (of_decide_eq_true (by first | (with_reducible assumption) | assumption)) (by have h_ : (x50_2 : Int) < ((x5_2.length : Int) : Int) := of_decide_eq_true (by first | (with_reducible assumption) | assumption); first | exact h_ | (have e_ := (Kd.R_reads' HO_5.out).1; omega) | simpa using h_))); (try (obtain rfl := k70_openM hM40)); (try (have HP40 := Kd.R_seg HX40.out (x50_2 : Int) (of_decide_eq_true (by first | (with_reducible assumption) | assumption)) (by have h_ : (x50_2 : Int) < ((x5_2.length : Int) : Int) := of_decide_eq_true (by first | (with_reducible assumption) | assumption); first | exact h_ | (have e_ := (Kd.R_reads' HO_5.out).1; omega) | simpa using h_) (seg := [.int .i64 ((rd_T70 x5_2 x50_2).f0)]) (j := 2) hcl40 hcc40 (show 3 ≤ 3 from by decide) (x' := (⟨(rd_T70 x5_2 x50_2).f0, (rd_T70 x5_2 x50_2).f1, (rd_T70 x5_2 x50_2).f0⟩ : S70)) (k70_mkM _ _ _ (⟨(rd_T70 x5_2 x50_2).f0, (rd_T70 x5_2 x50_2).f1, (rd_T70 x5_2 x50_2).f0⟩ : S70) ) (fun _ hk => hk))); (try (have hx40_2 := hcc40 2 _ rfl)); (try (try simp only [show (k70).sz = 3 from rfl, Nat.mul_one, Nat.add_zero] at hx40_2)); (try (have hf40_2 := hfr40 2)); (try (try simp only [show (k70).sz = 3 from rfl, Nat.mul_one, Nat.add_zero] at hf40_2)); (try (clear hcl40 hcc40 hfr40 hM40)))); refine store_event (t := 3) (p := 72) (v := ?vo_w41) (w1 := (wr.setCell ⟨go25, (x50_2 : Int).toNat * 3 + 2, none⟩ (.int .i64 ((rd_T70 x5_2 x50_2).f0)))) ?hg ?ho ?hn ?hr ?_; (case ho => rfl); (case hg => rfl); (case hn => rfl); (case hr => first | (go_simp; done) | (go_simp; rfl)); intro w41 hw; have hg : wr.grownBy w41 (some go25) := (by rw [hw]; exact HP40.2); have hp_ : Kd.R k70 70 w41 w.heap.size (fun _ => True) (.slice (some ⟨go25, 0, none⟩) x5_2.length co21) y112 := (by rw [hw, Ny112.out]; exact HP40.1); clear HP40; have n0_ := Aside0.mk (hp_); have n1_ := Aside0.mk ((by rw [hw]; exact below_set (HB.out) GB25.out : Below w.heap.size w w41)); clear HO_5; clear HB; have HO_5 := n0_; have HB := n1_; clear n0_ n1_; clear hg hw hp_; have p113 : 0 ≤ (x50_2 : Int) := of_decide_eq_true (by first | (with_reducible assumption) | assumption); have q113 : x50_2 < (y112.length : Int) := (by have h_ : (x50_2 : Int) < ((x5_2.length : Int) : Int) := of_decide_eq_true (by first | (with_reducible assumption) | assumption); first | (have e_ := (Kd.R_reads' HO_5.out).1; omega) | simpa only [Ny112.out, List.length_set] using h_); have ql113 : ((x50_2 : Int) < ((x5_2.length : Int) : Int)) = True := eq_true (of_decide_eq_true (by first | (with_reducible assumption) | assumption)); obtain ⟨ad113, e113, hx113_0, hx113_1, hx113_2⟩ := at_T70 (Kd.R_reads' HO_5.out).2.2 x50_2 p113 q113; obtain rfl : (⟨go25, 0, none⟩ : Addr) = ad113 := (by injection e113); (first | simp only [add_plain] at hx113_0 | simp only [add_at] at hx113_0 | simp only [Addr.add, Nat.zero_add] at hx113_0 | skip); (first | simp only [add_plain] at hx113_1 | simp only [add_at] at hx113_1 | simp only [Addr.add, Nat.zero_add] at hx113_1 | skip); (first | simp only [add_plain] at hx113_2 | simp only [add_at] at hx113_2 | simp only [Addr.add, Nat.zero_add] at hx113_2 | skip); replace p113 := eq_true p113; replace q113 := eq_true q113; have p114 : 0 ≤ ((ji28) : Int) := of_decide_eq_true (by first | (with_reducible assumption) | assumption); have q114 : (ji28) < (y112.length : Int) := (by have h_ : ((ji28) : Int) < ((x5_2.length : Int) : Int) := of_decide_eq_true (by first | (with_reducible assumption) | assumption); first | (have e_ := (Kd.R_reads' HO_5.out).1; omega) | simpa only [Ny112.out, List.length_set] using h_); have ql114 : (((ji28) : Int) < ((x5_2.length : Int) : Int)) = True := eq_true (of_decide_eq_true (by first | (with_reducible assumption) | assumption)); obtain ⟨ad114, e114, hx114_0, hx114_1, hx114_2⟩ := at_T70 (Kd.R_reads' HO_5.out).2.2 (ji28) p114 q114; obtain rfl : (⟨go25, 0, none⟩ : Addr) = ad114 := (by injection e114); (first | simp only [add_plain] at hx114_0 | simp only [add_at] at hx114_0 | simp only [Addr.add, Nat.zero_add] at hx114_0 | skip); (first | simp only [add_plain] at hx114_1 | simp only [add_at] at hx114_1 | simp only [Addr.add, Nat.zero_add] at hx114_1 | skip); (first | simp only [add_plain] at hx114_2 | simp only [add_at] at hx114_2 | simp only [Addr.add, Nat.zero_add] at hx114_2 | skip); replace p114 := eq_true p114; replace q114 := eq_true q114)); try go_wp2_with (first | ((with_reducible refine gate_store (t := 3) (p := 72) rfl ?_); (try (rw [drewN_self wr]; generalize hq_ : World.drewN wr _ = wr; have n0_ := Aside0.mk (Kd.R_at hq_ HO_5.out); have n1_ := Aside0.mk (below_at hq_ HB.out); clear hq_ HO_5 HB; have HO_5 := n0_; have HB := n1_; clear n0_ n1_; (try (have HX40 := Aside0.mk (show Kd.R k70 70 wr w.heap.size (fun _ => True) (.slice (some ⟨go25, 0, none⟩) x5_2.length co21) x5_2 from (by (with_reducible repeat (first | apply Kd.R_alloc | apply Kd.R_drewN | apply Kd.R_drew)); exact HO_5.out)))); (try (obtain ⟨ce40, hcl40, hM40, hcc40, hfr40⟩ := Kd.R_elem HX40.out z70 (x50_2 : Int) (of_decide_eq_true (by first | (with_reducible assumption) | assumption)) (by have h_ : (x50_2 : Int) < ((x5_2.length : Int) : Int) := of_decide_eq_true (by first | (with_reducible assumption) | assumption); first | exact h_ | (have e_ := (Kd.R_reads' HO_5.out).1; omega) | simpa using h_))); (try (obtain rfl := k70_openM hM40)); (try (have HP40 := Kd.R_seg HX40.out (x50_2 : Int) (of_decide_eq_true (by first | (with_reducible assumption) | assumption)) (by have h_ : (x50_2 : Int) < ((x5_2.length : Int) : Int) := of_decide_eq_true (by first | (with_reducible assumption) | assumption); first | exact h_ | (have e_ := (Kd.R_reads' HO_5.out).1; omega) | simpa using h_) (seg := [.int .i64 ((rd_T70 x5_2 x50_2).f0)]) (j := 2) hcl40 hcc40 (show 3 ≤ 3 from by decide) (x' := (⟨(rd_T70 x5_2 x50_2).f0, (rd_T70 x5_2 x50_2).f1, (rd_T70 x5_2 x50_2).f0⟩ : S70)) (k70_mkM _ _ _ (⟨(rd_T70 x5_2 x50_2).f0, (rd_T70 x5_2 x50_2).f1, (rd_T70 x5_2 x50_2).f0⟩ : S70) ) (fun _ hk => hk))); (try (have hx40_2 := hcc40 2 _ rfl)); (try (try simp only [show (k70).sz = 3 from rfl, Nat.mul_one, Nat.add_zero] at hx40_2)); (try (have hf40_2 := hfr40 2)); (try (try simp only [show (k70).sz = 3 from rfl, Nat.mul_one, Nat.add_zero] at hf40_2)); (try (clear hcl40 hcc40 hfr40 hM40)))); refine store_event (t := 3) (p := 72) (v := ?vo_w41) (w1 := (wr.setCell ⟨go25, (x50_2 : Int).toNat * 3 + 2, none⟩ (.int .i64 ((rd_T70 x5_2 x50_2).f0)))) ?hg ?ho ?hn ?hr ?_; (case ho => rfl); (case hg => rfl); (case hn => rfl); (case hr => first | (go_simp; done) | (go_simp; rfl)); intro w41 hw; have hg : wr.grownBy w41 (some go25) := (by rw [hw]; exact HP40.2); have hp_ : Kd.R k70 70 w41 w.heap.size (fun _ => True) (.slice (some ⟨go25, 0, none⟩) x5_2.length co21) y112 := (by rw [hw, Ny112.out]; exact HP40.1); clear HP40; have n0_ := Aside0.mk (hp_); have n1_ := Aside0.mk ((by rw [hw]; exact below_set (HB.out) GB25.out : Below w.heap.size w w41)); clear HO_5; clear HB; have HO_5 := n0_; have HB := n1_; clear n0_ n1_; clear hg hw hp_; have p113 : 0 ≤ (x50_2 : Int) := of_decide_eq_true (by first | (with_reducible assumption) | assumption); have q113 : x50_2 < (y112.length : Int) := (by have h_ : (x50_2 : Int) < ((x5_2.length : Int) : Int) := of_decide_eq_true (by first | (with_reducible assumption) | assumption); first | (have e_ := (Kd.R_reads' HO_5.out).1; omega) | simpa only [Ny112.out, List.length_set] using h_); have ql113 : ((x50_2 : Int) < ((x5_2.length : Int) : Int)) = True := eq_true (of_decide_eq_true (by first | (with_reducible assumption) | assumption)); obtain ⟨ad113, e113, hx113_0, hx113_1, hx113_2⟩ := at_T70 (Kd.R_reads' HO_5.out).2.2 x50_2 p113 q113; obtain rfl : (⟨go25, 0, none⟩ : Addr) = ad113 := (by injection e113); (first | simp only [add_plain] at hx113_0 | simp only [add_at] at hx113_0 | simp only [Addr.add, Nat.zero_add] at hx113_0 | skip); (first | simp only [add_plain] at hx113_1 | simp only [add_at] at hx113_1 | simp only [Addr.add, Nat.zero_add] at hx113_1 | skip); (first | simp only [add_plain] at hx113_2 | simp only [add_at] at hx113_2 | simp only [Addr.add, Nat.zero_add] at hx113_2 | skip); replace p113 := eq_true p113; replace q113 := eq_true q113; have p114 : 0 ≤ ((ji28) : Int) := of_decide_eq_true (by first | (with_reducible assumption) | assumption); have q114 : (ji28) < (y112.length : Int) := (by have h_ : ((ji28) : Int) < ((x5_2.length : Int) : Int) := of_decide_eq_true (by first | (with_reducible assumption) | assumption); first | (have e_ := (Kd.R_reads' HO_5.out).1; omega) | simpa only [Ny112.out, List.length_set] using h_); have ql114 : (((ji28) : Int) < ((x5_2.length : Int) : Int)) = True := eq_true (of_decide_eq_true (by first | (with_reducible assumption) | assumption)); obtain ⟨ad114, e114, hx114_0, hx114_1, hx114_2⟩ := at_T70 (Kd.R_reads' HO_5.out).2.2 (ji28) p114 q114; obtain rfl : (⟨go25, 0, none⟩ : Addr) = ad114 := (by injection e114); (first | simp only [add_plain] at hx114_0 | simp only [add_at] at hx114_0 | simp only [Addr.add, Nat.zero_add] at hx114_0 | skip); (first | simp only [add_plain] at hx114_1 | simp only [add_at] at hx114_1 | simp only [Addr.add, Nat.zero_add] at hx114_1 | skip); (first | simp only [add_plain] at hx114_2 | simp only [add_at] at hx114_2 | simp only [Addr.add, Nat.zero_add] at hx114_2 | skip); replace p114 := eq_true p114; replace q114 := eq_true q114)))
                              (try simp only [← hl5_2])
                              go_roundg k2
                              case measure => have := HK1.out; have := HK2.out; omega
                              case rel => exact ⟨(y112), (wrap64 (x50_2 + 1)), (by first | rfl | (simp; done) | (simp [*]; done)), H', ⟨by have := HK1.out; have := HK2.out; omega⟩, ⟨by (try simp only [hl5_2]); (with_reducible repeat (first | apply Kd.R_alloc | apply Kd.R_drewN | apply Kd.R_drew)); exact HO_5.out⟩, ⟨by repeat (first | (with_reducible first | exact HB.out | apply below_alloc | apply pw_below_drewN | apply below_drew1) | exact HB.out)⟩⟩
                          · rw [if_neg c30] at H
                            exact absurd H (by simp)
                        · rw [if_neg c29] at H
                          exact absurd H (by simp)
                      · rw [if_neg c27] at H
                        have c27b0 : (((rd_T70 y112 x50_2).f1) == a1) = false := beq_eq_false_iff_ne.mpr c27
                        have c27b1 : (((rd_T70 y112 x50_2).f1) != a1) = true := bne_iff_ne.mpr c27
                        have H' := Aside0.mk H
                        clear H
                        have p111 : 0 ≤ (x50_2 : Int) := of_decide_eq_true (by first | (with_reducible assumption) | assumption)
                        have q111 : x50_2 < (x5_2.length : Int) := of_decide_eq_true (by first | (with_reducible assumption) | assumption)
                        obtain ⟨ad111, e111, hx111_0, hx111_1, hx111_2⟩ := at_T70 (Kd.R_reads' HO_5.out).2.2 x50_2 p111 q111
                        cases e111
                        replace p111 := eq_true p111
                        replace q111 := eq_true q111
                        have p25 : 0 ≤ (x50_2 : Int) := of_decide_eq_true (by first | (with_reducible assumption) | assumption)
                        have q25 : (x50_2 : Int) < ((x5_2.length : Int) : Int) := of_decide_eq_true (by first | (with_reducible assumption) | assumption)
                        obtain ⟨go25, co25, eo25, gb25, gl25, cl25, HG25⟩ := Kd.R_form HO_5.out (by omega)
                        (first | cases eo25 | (injection eo25 with ea_ en_ ec_; (first | subst ea_ | (injection ea_ with ea_; subst ea_)); subst ec_; clear en_))
                        have GB25 := Aside0.mk gb25
                        have GG25 := Aside0.mk HG25
                        clear gb25 gl25 HG25
                        (first | simp only [add_plain] at hx111_0 | skip)
                        (first | simp only [add_plain] at hx111_1 | skip)
                        (first | simp only [add_plain] at hx111_2 | skip)
                        obtain ⟨ce25, hcl25, hM25, hcc25, hfr25⟩ := Kd.R_elem HO_5.out z70 (x50_2 : Int) p25 q25
                        obtain rfl := k70_openM hM25
                        have hx25_0 : wr.cell? ⟨go25, (x50_2 : Int).toNat * 3, none⟩ = some (.int .i64 ((rd_T70 x5_2 x50_2).f0)) := hcc25 0 _ rfl
                        have hx25_1 : wr.cell? ⟨go25, (x50_2 : Int).toNat * 3 + 1, none⟩ = some (.int .i64 ((rd_T70 x5_2 x50_2).f1)) := hcc25 1 _ rfl
                        have hx25_2 : wr.cell? ⟨go25, (x50_2 : Int).toNat * 3 + 2, none⟩ = some (.int .i64 ((rd_T70 x5_2 x50_2).f2)) := hcc25 2 _ rfl
                        have hf25_0 : wr.frozen? ⟨go25, (x50_2 : Int).toNat * 3, none⟩ = false := hfr25 0
                        have hf25_1 : wr.frozen? ⟨go25, (x50_2 : Int).toNat * 3 + 1, none⟩ = false := hfr25 1
                        have hf25_2 : wr.frozen? ⟨go25, (x50_2 : Int).toNat * 3 + 2, none⟩ = false := hfr25 2
                        clear hcl25 hcc25 hfr25 hM25
                        replace p25 := eq_true p25
                        replace q25 := eq_true q25
                        have HX42 := Aside0.mk (show Kd.R k70 70 wr w.heap.size (fun _ => True) (.slice (some ⟨go25, 0, none⟩) x5_2.length co21) x5_2 from (by (with_reducible repeat (first | apply Kd.R_alloc | apply Kd.R_drewN | apply Kd.R_drew)); exact HO_5.out))
                        obtain ⟨ce42, hcl42, hM42, hcc42, hfr42⟩ := Kd.R_elem HX42.out z70 (x50_2 : Int) (of_decide_eq_true (by first | (with_reducible assumption) | assumption)) (by have h_ : (x50_2 : Int) < ((x5_2.length : Int) : Int) := of_decide_eq_true (by first | (with_reducible assumption) | assumption); first | exact h_ | (have e_ := (Kd.R_reads' HO_5.out).1; omega) | simpa using h_)
                        obtain rfl := k70_openM hM42
                        have HP42 := Kd.R_seg HX42.out (x50_2 : Int) (of_decide_eq_true (by first | (with_reducible assumption) | assumption)) (by have h_ : (x50_2 : Int) < ((x5_2.length : Int) : Int) := of_decide_eq_true (by first | (with_reducible assumption) | assumption); first | exact h_ | (have e_ := (Kd.R_reads' HO_5.out).1; omega) | simpa using h_) (seg := [.int .i64 ((rd_T70 x5_2 x50_2).f0)]) (j := 2) hcl42 hcc42 (show 3 ≤ 3 from by decide) (x' := (⟨(rd_T70 x5_2 x50_2).f0, (rd_T70 x5_2 x50_2).f1, (rd_T70 x5_2 x50_2).f0⟩ : S70)) (k70_mkM _ _ _ (⟨(rd_T70 x5_2 x50_2).f0, (rd_T70 x5_2 x50_2).f1, (rd_T70 x5_2 x50_2).f0⟩ : S70) ) (fun _ hk => hk)
                        have hx42_2 := hcc42 2 _ rfl
                        (try simp only [show (k70).sz = 3 from rfl, Nat.mul_one, Nat.add_zero] at hx42_2)
                        have hf42_2 := hfr42 2
                        (try simp only [show (k70).sz = 3 from rfl, Nat.mul_one, Nat.add_zero] at hf42_2)
                        clear hcl42 hcc42 hfr42 hM42
                        go_wp2_with (first | ((with_reducible refine gate_store (t := 3) (p := 72) rfl ?_); (try (rw [drewN_self wr]; generalize hq_ : World.drewN wr _ = wr; have n0_ := Aside0.mk (Kd.R_at hq_ HO_5.out); have n1_ := Aside0.mk (below_at hq_ HB.out); clear hq_ HO_5 HB; have HO_5 := n0_; have HB := n1_; clear n0_ n1_; (try (have HX42 := Aside0.mk (show Kd.R k70 70 wr w.heap.size (fun _ => True) (.slice (some ⟨go25, 0, none⟩) x5_2.length co21) x5_2 from (by (with_reducible repeat (first | apply Kd.R_alloc | apply Kd.R_drewN | apply Kd.R_drew)); exact HO_5.out)))); (try (obtain ⟨ce42, hcl42, hM42, hcc42, hfr42⟩ := Kd.R_elem HX42.out z70 (x50_2 : Int) (of_decide_eq_true (by first | (with_reducible assumption) | assumption)) (by have h_ : (x50_2 : Int) < ((x5_2.length : Int) : Int) := of_decide_eq_true (by first | (with_reducible assumption) | assumption); first | exact h_ | (have e_ := (Kd.R_reads' HO_5.out).1; omega) | simpa using h_))); (try (obtain rfl := k70_openM hM42)); (try (have HP42 := Kd.R_seg HX42.out (x50_2 : Int) (of_decide_eq_true (by first | (with_reducible assumption) | assumption)) (by have h_ : (x50_2 : Int) < ((x5_2.length : Int) : Int) := of_decide_eq_true (by first | (with_reducible assumption) | assumption); first | exact h_ | (have e_ := (Kd.R_reads' HO_5.out).1; omega) | simpa using h_) (seg := [.int .i64 ((rd_T70 x5_2 x50_2).f0)]) (j := 2) hcl42 hcc42 (show 3 ≤ 3 from by decide) (x' := (⟨(rd_T70 x5_2 x50_2).f0, (rd_T70 x5_2 x50_2).f1, (rd_T70 x5_2 x50_2).f0⟩ : S70)) (k70_mkM _ _ _ (⟨(rd_T70 x5_2 x50_2).f0, (rd_T70 x5_2 x50_2).f1, (rd_T70 x5_2 x50_2).f0⟩ : S70) ) (fun _ hk => hk))); (try (have hx42_2 := hcc42 2 _ rfl)); (try (try simp only [show (k70).sz = 3 from rfl, Nat.mul_one, Nat.add_zero] at hx42_2)); (try (have hf42_2 := hfr42 2)); (try (try simp only [show (k70).sz = 3 from rfl, Nat.mul_one, Nat.add_zero] at hf42_2)); (try (clear hcl42 hcc42 hfr42 hM42)))); refine store_event (t := 3) (p := 72) (v := ?vo_w43) (w1 := (wr.setCell ⟨go25, (x50_2 : Int).toNat * 3 + 2, none⟩ (.int .i64 ((rd_T70 x5_2 x50_2).f0)))) ?hg ?ho ?hn ?hr ?_; (case ho => rfl); (case hg => rfl); (case hn => rfl); (case hr => first | (go_simp; done) | (go_simp; rfl)); intro w43 hw; have hg : wr.grownBy w43 (some go25) := (by rw [hw]; exact HP42.2); have hp_ : Kd.R k70 70 w43 w.heap.size (fun _ => True) (.slice (some ⟨go25, 0, none⟩) x5_2.length co21) y112 := (by rw [hw, Ny112.out]; exact HP42.1); clear HP42; have n0_ := Aside0.mk (hp_); have n1_ := Aside0.mk ((by rw [hw]; exact below_set (HB.out) GB25.out : Below w.heap.size w w43)); clear HO_5; clear HB; have HO_5 := n0_; have HB := n1_; clear n0_ n1_; clear hg hw hp_; have p113 : 0 ≤ (x50_2 : Int) := of_decide_eq_true (by first | (with_reducible assumption) | assumption); have q113 : x50_2 < (y112.length : Int) := (by have h_ : (x50_2 : Int) < ((x5_2.length : Int) : Int) := of_decide_eq_true (by first | (with_reducible assumption) | assumption); first | (have e_ := (Kd.R_reads' HO_5.out).1; omega) | simpa only [Ny112.out, List.length_set] using h_); have ql113 : ((x50_2 : Int) < ((x5_2.length : Int) : Int)) = True := eq_true (of_decide_eq_true (by first | (with_reducible assumption) | assumption)); obtain ⟨ad113, e113, hx113_0, hx113_1, hx113_2⟩ := at_T70 (Kd.R_reads' HO_5.out).2.2 x50_2 p113 q113; obtain rfl : (⟨go25, 0, none⟩ : Addr) = ad113 := (by injection e113); (first | simp only [add_plain] at hx113_0 | simp only [add_at] at hx113_0 | simp only [Addr.add, Nat.zero_add] at hx113_0 | skip); (first | simp only [add_plain] at hx113_1 | simp only [add_at] at hx113_1 | simp only [Addr.add, Nat.zero_add] at hx113_1 | skip); (first | simp only [add_plain] at hx113_2 | simp only [add_at] at hx113_2 | simp only [Addr.add, Nat.zero_add] at hx113_2 | skip); replace p113 := eq_true p113; replace q113 := eq_true q113))
                        repeat (go_quiet (first | ((with_reducible refine gate_store (t := 3) (p := 72) rfl ?_); (try (rw [drewN_self wr]; generalize hq_ : World.drewN wr _ = wr; have n0_ := Aside0.mk (Kd.R_at hq_ HO_5.out); have n1_ := Aside0.mk (below_at hq_ HB.out); clear hq_ HO_5 HB; have HO_5 := n0_; have HB := n1_; clear n0_ n1_; (try (have HX42 := Aside0.mk (show Kd.R k70 70 wr w.heap.size (fun _ => True) (.slice (some ⟨go25, 0, none⟩) x5_2.length co21) x5_2 from (by (with_reducible repeat (first | apply Kd.R_alloc | apply Kd.R_drewN | apply Kd.R_drew)); exact HO_5.out)))); (try (obtain ⟨ce42, hcl42, hM42, hcc42, hfr42⟩ := Kd.R_elem HX42.out z70 (x50_2 : Int) (of_decide_eq_true (by first | (with_reducible assumption) | assumption)) (by have h_ : (x50_2 : Int) < ((x5_2.length : Int) : Int) := of_decide_eq_true (by first | (with_reducible assumption) | assumption); first | exact h_ | (have e_ := (Kd.R_reads' HO_5.out).1; omega) | simpa using h_))); (try (obtain rfl := k70_openM hM42)); (try (have HP42 := Kd.R_seg HX42.out (x50_2 : Int) (of_decide_eq_true (by first | (with_reducible assumption) | assumption)) (by have h_ : (x50_2 : Int) < ((x5_2.length : Int) : Int) := of_decide_eq_true (by first | (with_reducible assumption) | assumption); first | exact h_ | (have e_ := (Kd.R_reads' HO_5.out).1; omega) | simpa using h_) (seg := [.int .i64 ((rd_T70 x5_2 x50_2).f0)]) (j := 2) hcl42 hcc42 (show 3 ≤ 3 from by decide) (x' := (⟨(rd_T70 x5_2 x50_2).f0, (rd_T70 x5_2 x50_2).f1, (rd_T70 x5_2 x50_2).f0⟩ : S70)) (k70_mkM _ _ _ (⟨(rd_T70 x5_2 x50_2).f0, (rd_T70 x5_2 x50_2).f1, (rd_T70 x5_2 x50_2).f0⟩ : S70) ) (fun _ hk => hk))); (try (have hx42_2 := hcc42 2 _ rfl)); (try (try simp only [show (k70).sz = 3 from rfl, Nat.mul_one, Nat.add_zero] at hx42_2)); (try (have hf42_2 := hfr42 2)); (try (try simp only [show (k70).sz = 3 from rfl, Nat.mul_one, Nat.add_zero] at hf42_2)); (try (clear hcl42 hcc42 hfr42 hM42)))); refine store_event (t := 3) (p := 72) (v := ?vo_w43) (w1 := (wr.setCell ⟨go25, (x50_2 : Int).toNat * 3 + 2, none⟩ (.int .i64 ((rd_T70 x5_2 x50_2).f0)))) ?hg ?ho ?hn ?hr ?_; (case ho => rfl); (case hg => rfl); (case hn => rfl); (case hr => first | (go_simp; done) | (go_simp; rfl)); intro w43 hw; have hg : wr.grownBy w43 (some go25) := (by rw [hw]; exact HP42.2); have hp_ : Kd.R k70 70 w43 w.heap.size (fun _ => True) (.slice (some ⟨go25, 0, none⟩) x5_2.length co21) y112 := (by rw [hw, Ny112.out]; exact HP42.1); clear HP42; have n0_ := Aside0.mk (hp_); have n1_ := Aside0.mk ((by rw [hw]; exact below_set (HB.out) GB25.out : Below w.heap.size w w43)); clear HO_5; clear HB; have HO_5 := n0_; have HB := n1_; clear n0_ n1_; clear hg hw hp_; have p113 : 0 ≤ (x50_2 : Int) := of_decide_eq_true (by first | (with_reducible assumption) | assumption); have q113 : x50_2 < (y112.length : Int) := (by have h_ : (x50_2 : Int) < ((x5_2.length : Int) : Int) := of_decide_eq_true (by first | (with_reducible assumption) | assumption); first | (have e_ := (Kd.R_reads' HO_5.out).1; omega) | simpa only [Ny112.out, List.length_set] using h_); have ql113 : ((x50_2 : Int) < ((x5_2.length : Int) : Int)) = True := eq_true (of_decide_eq_true (by first | (with_reducible assumption) | assumption)); obtain ⟨ad113, e113, hx113_0, hx113_1, hx113_2⟩ := at_T70 (Kd.R_reads' HO_5.out).2.2 x50_2 p113 q113; obtain rfl : (⟨go25, 0, none⟩ : Addr) = ad113 := (by injection e113); (first | simp only [add_plain] at hx113_0 | simp only [add_at] at hx113_0 | simp only [Addr.add, Nat.zero_add] at hx113_0 | skip); (first | simp only [add_plain] at hx113_1 | simp only [add_at] at hx113_1 | simp only [Addr.add, Nat.zero_add] at hx113_1 | skip); (first | simp only [add_plain] at hx113_2 | simp only [add_at] at hx113_2 | simp only [Addr.add, Nat.zero_add] at hx113_2 | skip); replace p113 := eq_true p113; replace q113 := eq_true q113)); try go_wp2_with (first | ((with_reducible refine gate_store (t := 3) (p := 72) rfl ?_); (try (rw [drewN_self wr]; generalize hq_ : World.drewN wr _ = wr; have n0_ := Aside0.mk (Kd.R_at hq_ HO_5.out); have n1_ := Aside0.mk (below_at hq_ HB.out); clear hq_ HO_5 HB; have HO_5 := n0_; have HB := n1_; clear n0_ n1_; (try (have HX42 := Aside0.mk (show Kd.R k70 70 wr w.heap.size (fun _ => True) (.slice (some ⟨go25, 0, none⟩) x5_2.length co21) x5_2 from (by (with_reducible repeat (first | apply Kd.R_alloc | apply Kd.R_drewN | apply Kd.R_drew)); exact HO_5.out)))); (try (obtain ⟨ce42, hcl42, hM42, hcc42, hfr42⟩ := Kd.R_elem HX42.out z70 (x50_2 : Int) (of_decide_eq_true (by first | (with_reducible assumption) | assumption)) (by have h_ : (x50_2 : Int) < ((x5_2.length : Int) : Int) := of_decide_eq_true (by first | (with_reducible assumption) | assumption); first | exact h_ | (have e_ := (Kd.R_reads' HO_5.out).1; omega) | simpa using h_))); (try (obtain rfl := k70_openM hM42)); (try (have HP42 := Kd.R_seg HX42.out (x50_2 : Int) (of_decide_eq_true (by first | (with_reducible assumption) | assumption)) (by have h_ : (x50_2 : Int) < ((x5_2.length : Int) : Int) := of_decide_eq_true (by first | (with_reducible assumption) | assumption); first | exact h_ | (have e_ := (Kd.R_reads' HO_5.out).1; omega) | simpa using h_) (seg := [.int .i64 ((rd_T70 x5_2 x50_2).f0)]) (j := 2) hcl42 hcc42 (show 3 ≤ 3 from by decide) (x' := (⟨(rd_T70 x5_2 x50_2).f0, (rd_T70 x5_2 x50_2).f1, (rd_T70 x5_2 x50_2).f0⟩ : S70)) (k70_mkM _ _ _ (⟨(rd_T70 x5_2 x50_2).f0, (rd_T70 x5_2 x50_2).f1, (rd_T70 x5_2 x50_2).f0⟩ : S70) ) (fun _ hk => hk))); (try (have hx42_2 := hcc42 2 _ rfl)); (try (try simp only [show (k70).sz = 3 from rfl, Nat.mul_one, Nat.add_zero] at hx42_2)); (try (have hf42_2 := hfr42 2)); (try (try simp only [show (k70).sz = 3 from rfl, Nat.mul_one, Nat.add_zero] at hf42_2)); (try (clear hcl42 hcc42 hfr42 hM42)))); refine store_event (t := 3) (p := 72) (v := ?vo_w43) (w1 := (wr.setCell ⟨go25, (x50_2 : Int).toNat * 3 + 2, none⟩ (.int .i64 ((rd_T70 x5_2 x50_2).f0)))) ?hg ?ho ?hn ?hr ?_; (case ho => rfl); (case hg => rfl); (case hn => rfl); (case hr => first | (go_simp; done) | (go_simp; rfl)); intro w43 hw; have hg : wr.grownBy w43 (some go25) := (by rw [hw]; exact HP42.2); have hp_ : Kd.R k70 70 w43 w.heap.size (fun _ => True) (.slice (some ⟨go25, 0, none⟩) x5_2.length co21) y112 := (by rw [hw, Ny112.out]; exact HP42.1); clear HP42; have n0_ := Aside0.mk (hp_); have n1_ := Aside0.mk ((by rw [hw]; exact below_set (HB.out) GB25.out : Below w.heap.size w w43)); clear HO_5; clear HB; have HO_5 := n0_; have HB := n1_; clear n0_ n1_; clear hg hw hp_; have p113 : 0 ≤ (x50_2 : Int) := of_decide_eq_true (by first | (with_reducible assumption) | assumption); have q113 : x50_2 < (y112.length : Int) := (by have h_ : (x50_2 : Int) < ((x5_2.length : Int) : Int) := of_decide_eq_true (by first | (with_reducible assumption) | assumption); first | (have e_ := (Kd.R_reads' HO_5.out).1; omega) | simpa only [Ny112.out, List.length_set] using h_); have ql113 : ((x50_2 : Int) < ((x5_2.length : Int) : Int)) = True := eq_true (of_decide_eq_true (by first | (with_reducible assumption) | assumption)); obtain ⟨ad113, e113, hx113_0, hx113_1, hx113_2⟩ := at_T70 (Kd.R_reads' HO_5.out).2.2 x50_2 p113 q113; obtain rfl : (⟨go25, 0, none⟩ : Addr) = ad113 := (by injection e113); (first | simp only [add_plain] at hx113_0 | simp only [add_at] at hx113_0 | simp only [Addr.add, Nat.zero_add] at hx113_0 | skip); (first | simp only [add_plain] at hx113_1 | simp only [add_at] at hx113_1 | simp only [Addr.add, Nat.zero_add] at hx113_1 | skip); (first | simp only [add_plain] at hx113_2 | simp only [add_at] at hx113_2 | simp only [Addr.add, Nat.zero_add] at hx113_2 | skip); replace p113 := eq_true p113; replace q113 := eq_true q113)))
                        (try simp only [← hl5_2])
                        go_roundg k2
                        case measure => have := HK1.out; have := HK2.out; omega
                        case rel => exact ⟨(y112), (wrap64 (x50_2 + 1)), (by first | rfl | (simp; done) | (simp [*]; done)), H', ⟨by have := HK1.out; have := HK2.out; omega⟩, ⟨by (try simp only [hl5_2]); (with_reducible repeat (first | apply Kd.R_alloc | apply Kd.R_drewN | apply Kd.R_drew)); exact HO_5.out⟩, ⟨by repeat (first | (with_reducible first | exact HB.out | apply below_alloc | apply pw_below_drewN | apply below_drew1) | exact HB.out)⟩⟩
                    · rw [if_neg c26] at H
                      have c26b0 : decide (0 < x50_2) = false := decide_eq_false c26
                      clear c26
                      have H' := Aside0.mk H
                      clear H
                      have p111 : 0 ≤ (x50_2 : Int) := of_decide_eq_true (by first | (with_reducible assumption) | assumption)
                      have q111 : x50_2 < (x5_2.length : Int) := of_decide_eq_true (by first | (with_reducible assumption) | assumption)
                      obtain ⟨ad111, e111, hx111_0, hx111_1, hx111_2⟩ := at_T70 (Kd.R_reads' HO_5.out).2.2 x50_2 p111 q111
                      cases e111
                      replace p111 := eq_true p111
                      replace q111 := eq_true q111
                      have p25 : 0 ≤ (x50_2 : Int) := of_decide_eq_true (by first | (with_reducible assumption) | assumption)
                      have q25 : (x50_2 : Int) < ((x5_2.length : Int) : Int) := of_decide_eq_true (by first | (with_reducible assumption) | assumption)
                      obtain ⟨go25, co25, eo25, gb25, gl25, cl25, HG25⟩ := Kd.R_form HO_5.out (by omega)
                      (first | cases eo25 | (injection eo25 with ea_ en_ ec_; (first | subst ea_ | (injection ea_ with ea_; subst ea_)); subst ec_; clear en_))
                      have GB25 := Aside0.mk gb25
                      have GG25 := Aside0.mk HG25
                      clear gb25 gl25 HG25
                      (first | simp only [add_plain] at hx111_0 | skip)
                      (first | simp only [add_plain] at hx111_1 | skip)
                      (first | simp only [add_plain] at hx111_2 | skip)
                      obtain ⟨ce25, hcl25, hM25, hcc25, hfr25⟩ := Kd.R_elem HO_5.out z70 (x50_2 : Int) p25 q25
                      obtain rfl := k70_openM hM25
                      have hx25_0 : wr.cell? ⟨go25, (x50_2 : Int).toNat * 3, none⟩ = some (.int .i64 ((rd_T70 x5_2 x50_2).f0)) := hcc25 0 _ rfl
                      have hx25_1 : wr.cell? ⟨go25, (x50_2 : Int).toNat * 3 + 1, none⟩ = some (.int .i64 ((rd_T70 x5_2 x50_2).f1)) := hcc25 1 _ rfl
                      have hx25_2 : wr.cell? ⟨go25, (x50_2 : Int).toNat * 3 + 2, none⟩ = some (.int .i64 ((rd_T70 x5_2 x50_2).f2)) := hcc25 2 _ rfl
                      have hf25_0 : wr.frozen? ⟨go25, (x50_2 : Int).toNat * 3, none⟩ = false := hfr25 0
                      have hf25_1 : wr.frozen? ⟨go25, (x50_2 : Int).toNat * 3 + 1, none⟩ = false := hfr25 1
                      have hf25_2 : wr.frozen? ⟨go25, (x50_2 : Int).toNat * 3 + 2, none⟩ = false := hfr25 2
                      clear hcl25 hcc25 hfr25 hM25
                      replace p25 := eq_true p25
                      replace q25 := eq_true q25
                      have HX44 := Aside0.mk (show Kd.R k70 70 wr w.heap.size (fun _ => True) (.slice (some ⟨go25, 0, none⟩) x5_2.length co21) x5_2 from (by (with_reducible repeat (first | apply Kd.R_alloc | apply Kd.R_drewN | apply Kd.R_drew)); exact HO_5.out))
                      obtain ⟨ce44, hcl44, hM44, hcc44, hfr44⟩ := Kd.R_elem HX44.out z70 (x50_2 : Int) (of_decide_eq_true (by first | (with_reducible assumption) | assumption)) (by have h_ : (x50_2 : Int) < ((x5_2.length : Int) : Int) := of_decide_eq_true (by first | (with_reducible assumption) | assumption); first | exact h_ | (have e_ := (Kd.R_reads' HO_5.out).1; omega) | simpa using h_)
                      obtain rfl := k70_openM hM44
                      have HP44 := Kd.R_seg HX44.out (x50_2 : Int) (of_decide_eq_true (by first | (with_reducible assumption) | assumption)) (by have h_ : (x50_2 : Int) < ((x5_2.length : Int) : Int) := of_decide_eq_true (by first | (with_reducible assumption) | assumption); first | exact h_ | (have e_ := (Kd.R_reads' HO_5.out).1; omega) | simpa using h_) (seg := [.int .i64 ((rd_T70 x5_2 x50_2).f0)]) (j := 2) hcl44 hcc44 (show 3 ≤ 3 from by decide) (x' := (⟨(rd_T70 x5_2 x50_2).f0, (rd_T70 x5_2 x50_2).f1, (rd_T70 x5_2 x50_2).f0⟩ : S70)) (k70_mkM _ _ _ (⟨(rd_T70 x5_2 x50_2).f0, (rd_T70 x5_2 x50_2).f1, (rd_T70 x5_2 x50_2).f0⟩ : S70) ) (fun _ hk => hk)
                      have hx44_2 := hcc44 2 _ rfl
                      (try simp only [show (k70).sz = 3 from rfl, Nat.mul_one, Nat.add_zero] at hx44_2)
                      have hf44_2 := hfr44 2
                      (try simp only [show (k70).sz = 3 from rfl, Nat.mul_one, Nat.add_zero] at hf44_2)
                      clear hcl44 hcc44 hfr44 hM44
                      go_wp2_with (first | ((with_reducible refine gate_store (t := 3) (p := 72) rfl ?_); (try (rw [drewN_self wr]; generalize hq_ : World.drewN wr _ = wr; have n0_ := Aside0.mk (Kd.R_at hq_ HO_5.out); have n1_ := Aside0.mk (below_at hq_ HB.out); clear hq_ HO_5 HB; have HO_5 := n0_; have HB := n1_; clear n0_ n1_; (try (have HX44 := Aside0.mk (show Kd.R k70 70 wr w.heap.size (fun _ => True) (.slice (some ⟨go25, 0, none⟩) x5_2.length co21) x5_2 from (by (with_reducible repeat (first | apply Kd.R_alloc | apply Kd.R_drewN | apply Kd.R_drew)); exact HO_5.out)))); (try (obtain ⟨ce44, hcl44, hM44, hcc44, hfr44⟩ := Kd.R_elem HX44.out z70 (x50_2 : Int) (of_decide_eq_true (by first | (with_reducible assumption) | assumption)) (by have h_ : (x50_2 : Int) < ((x5_2.length : Int) : Int) := of_decide_eq_true (by first | (with_reducible assumption) | assumption); first | exact h_ | (have e_ := (Kd.R_reads' HO_5.out).1; omega) | simpa using h_))); (try (obtain rfl := k70_openM hM44)); (try (have HP44 := Kd.R_seg HX44.out (x50_2 : Int) (of_decide_eq_true (by first | (with_reducible assumption) | assumption)) (by have h_ : (x50_2 : Int) < ((x5_2.length : Int) : Int) := of_decide_eq_true (by first | (with_reducible assumption) | assumption); first | exact h_ | (have e_ := (Kd.R_reads' HO_5.out).1; omega) | simpa using h_) (seg := [.int .i64 ((rd_T70 x5_2 x50_2).f0)]) (j := 2) hcl44 hcc44 (show 3 ≤ 3 from by decide) (x' := (⟨(rd_T70 x5_2 x50_2).f0, (rd_T70 x5_2 x50_2).f1, (rd_T70 x5_2 x50_2).f0⟩ : S70)) (k70_mkM _ _ _ (⟨(rd_T70 x5_2 x50_2).f0, (rd_T70 x5_2 x50_2).f1, (rd_T70 x5_2 x50_2).f0⟩ : S70) ) (fun _ hk => hk))); (try (have hx44_2 := hcc44 2 _ rfl)); (try (try simp only [show (k70).sz = 3 from rfl, Nat.mul_one, Nat.add_zero] at hx44_2)); (try (have hf44_2 := hfr44 2)); (try (try simp only [show (k70).sz = 3 from rfl, Nat.mul_one, Nat.add_zero] at hf44_2)); (try (clear hcl44 hcc44 hfr44 hM44)))); refine store_event (t := 3) (p := 72) (v := ?vo_w45) (w1 := (wr.setCell ⟨go25, (x50_2 : Int).toNat * 3 + 2, none⟩ (.int .i64 ((rd_T70 x5_2 x50_2).f0)))) ?hg ?ho ?hn ?hr ?_; (case ho => rfl); (case hg => rfl); (case hn => rfl); (case hr => first | (go_simp; done) | (go_simp; rfl)); intro w45 hw; have hg : wr.grownBy w45 (some go25) := (by rw [hw]; exact HP44.2); have hp_ : Kd.R k70 70 w45 w.heap.size (fun _ => True) (.slice (some ⟨go25, 0, none⟩) x5_2.length co21) y112 := (by rw [hw, Ny112.out]; exact HP44.1); clear HP44; have n0_ := Aside0.mk (hp_); have n1_ := Aside0.mk ((by rw [hw]; exact below_set (HB.out) GB25.out : Below w.heap.size w w45)); clear HO_5; clear HB; have HO_5 := n0_; have HB := n1_; clear n0_ n1_; clear hg hw hp_))
                      repeat (go_quiet (first | ((with_reducible refine gate_store (t := 3) (p := 72) rfl ?_); (try (rw [drewN_self wr]; generalize hq_ : World.drewN wr _ = wr; have n0_ := Aside0.mk (Kd.R_at hq_ HO_5.out); have n1_ := Aside0.mk (below_at hq_ HB.out); clear hq_ HO_5 HB; have HO_5 := n0_; have HB := n1_; clear n0_ n1_; (try (have HX44 := Aside0.mk (show Kd.R k70 70 wr w.heap.size (fun _ => True) (.slice (some ⟨go25, 0, none⟩) x5_2.length co21) x5_2 from (by (with_reducible repeat (first | apply Kd.R_alloc | apply Kd.R_drewN | apply Kd.R_drew)); exact HO_5.out)))); (try (obtain ⟨ce44, hcl44, hM44, hcc44, hfr44⟩ := Kd.R_elem HX44.out z70 (x50_2 : Int) (of_decide_eq_true (by first | (with_reducible assumption) | assumption)) (by have h_ : (x50_2 : Int) < ((x5_2.length : Int) : Int) := of_decide_eq_true (by first | (with_reducible assumption) | assumption); first | exact h_ | (have e_ := (Kd.R_reads' HO_5.out).1; omega) | simpa using h_))); (try (obtain rfl := k70_openM hM44)); (try (have HP44 := Kd.R_seg HX44.out (x50_2 : Int) (of_decide_eq_true (by first | (with_reducible assumption) | assumption)) (by have h_ : (x50_2 : Int) < ((x5_2.length : Int) : Int) := of_decide_eq_true (by first | (with_reducible assumption) | assumption); first | exact h_ | (have e_ := (Kd.R_reads' HO_5.out).1; omega) | simpa using h_) (seg := [.int .i64 ((rd_T70 x5_2 x50_2).f0)]) (j := 2) hcl44 hcc44 (show 3 ≤ 3 from by decide) (x' := (⟨(rd_T70 x5_2 x50_2).f0, (rd_T70 x5_2 x50_2).f1, (rd_T70 x5_2 x50_2).f0⟩ : S70)) (k70_mkM _ _ _ (⟨(rd_T70 x5_2 x50_2).f0, (rd_T70 x5_2 x50_2).f1, (rd_T70 x5_2 x50_2).f0⟩ : S70) ) (fun _ hk => hk))); (try (have hx44_2 := hcc44 2 _ rfl)); (try (try simp only [show (k70).sz = 3 from rfl, Nat.mul_one, Nat.add_zero] at hx44_2)); (try (have hf44_2 := hfr44 2)); (try (try simp only [show (k70).sz = 3 from rfl, Nat.mul_one, Nat.add_zero] at hf44_2)); (try (clear hcl44 hcc44 hfr44 hM44)))); refine store_event (t := 3) (p := 72) (v := ?vo_w45) (w1 := (wr.setCell ⟨go25, (x50_2 : Int).toNat * 3 + 2, none⟩ (.int .i64 ((rd_T70 x5_2 x50_2).f0)))) ?hg ?ho ?hn ?hr ?_; (case ho => rfl); (case hg => rfl); (case hn => rfl); (case hr => first | (go_simp; done) | (go_simp; rfl)); intro w45 hw; have hg : wr.grownBy w45 (some go25) := (by rw [hw]; exact HP44.2); have hp_ : Kd.R k70 70 w45 w.heap.size (fun _ => True) (.slice (some ⟨go25, 0, none⟩) x5_2.length co21) y112 := (by rw [hw, Ny112.out]; exact HP44.1); clear HP44; have n0_ := Aside0.mk (hp_); have n1_ := Aside0.mk ((by rw [hw]; exact below_set (HB.out) GB25.out : Below w.heap.size w w45)); clear HO_5; clear HB; have HO_5 := n0_; have HB := n1_; clear n0_ n1_; clear hg hw hp_)); try go_wp2_with (first | ((with_reducible refine gate_store (t := 3) (p := 72) rfl ?_); (try (rw [drewN_self wr]; generalize hq_ : World.drewN wr _ = wr; have n0_ := Aside0.mk (Kd.R_at hq_ HO_5.out); have n1_ := Aside0.mk (below_at hq_ HB.out); clear hq_ HO_5 HB; have HO_5 := n0_; have HB := n1_; clear n0_ n1_; (try (have HX44 := Aside0.mk (show Kd.R k70 70 wr w.heap.size (fun _ => True) (.slice (some ⟨go25, 0, none⟩) x5_2.length co21) x5_2 from (by (with_reducible repeat (first | apply Kd.R_alloc | apply Kd.R_drewN | apply Kd.R_drew)); exact HO_5.out)))); (try (obtain ⟨ce44, hcl44, hM44, hcc44, hfr44⟩ := Kd.R_elem HX44.out z70 (x50_2 : Int) (of_decide_eq_true (by first | (with_reducible assumption) | assumption)) (by have h_ : (x50_2 : Int) < ((x5_2.length : Int) : Int) := of_decide_eq_true (by first | (with_reducible assumption) | assumption); first | exact h_ | (have e_ := (Kd.R_reads' HO_5.out).1; omega) | simpa using h_))); (try (obtain rfl := k70_openM hM44)); (try (have HP44 := Kd.R_seg HX44.out (x50_2 : Int) (of_decide_eq_true (by first | (with_reducible assumption) | assumption)) (by have h_ : (x50_2 : Int) < ((x5_2.length : Int) : Int) := of_decide_eq_true (by first | (with_reducible assumption) | assumption); first | exact h_ | (have e_ := (Kd.R_reads' HO_5.out).1; omega) | simpa using h_) (seg := [.int .i64 ((rd_T70 x5_2 x50_2).f0)]) (j := 2) hcl44 hcc44 (show 3 ≤ 3 from by decide) (x' := (⟨(rd_T70 x5_2 x50_2).f0, (rd_T70 x5_2 x50_2).f1, (rd_T70 x5_2 x50_2).f0⟩ : S70)) (k70_mkM _ _ _ (⟨(rd_T70 x5_2 x50_2).f0, (rd_T70 x5_2 x50_2).f1, (rd_T70 x5_2 x50_2).f0⟩ : S70) ) (fun _ hk => hk))); (try (have hx44_2 := hcc44 2 _ rfl)); (try (try simp only [show (k70).sz = 3 from rfl, Nat.mul_one, Nat.add_zero] at hx44_2)); (try (have hf44_2 := hfr44 2)); (try (try simp only [show (k70).sz = 3 from rfl, Nat.mul_one, Nat.add_zero] at hf44_2)); (try (clear hcl44 hcc44 hfr44 hM44)))); refine store_event (t := 3) (p := 72) (v := ?vo_w45) (w1 := (wr.setCell ⟨go25, (x50_2 : Int).toNat * 3 + 2, none⟩ (.int .i64 ((rd_T70 x5_2 x50_2).f0)))) ?hg ?ho ?hn ?hr ?_; (case ho => rfl); (case hg => rfl); (case hn => rfl); (case hr => first | (go_simp; done) | (go_simp; rfl)); intro w45 hw; have hg : wr.grownBy w45 (some go25) := (by rw [hw]; exact HP44.2); have hp_ : Kd.R k70 70 w45 w.heap.size (fun _ => True) (.slice (some ⟨go25, 0, none⟩) x5_2.length co21) y112 := (by rw [hw, Ny112.out]; exact HP44.1); clear HP44; have n0_ := Aside0.mk (hp_); have n1_ := Aside0.mk ((by rw [hw]; exact below_set (HB.out) GB25.out : Below w.heap.size w w45)); clear HO_5; clear HB; have HO_5 := n0_; have HB := n1_; clear n0_ n1_; clear hg hw hp_)))
                      (try simp only [← hl5_2])
                      go_roundg k2
                      case measure => have := HK1.out; have := HK2.out; omega
                      case rel => exact ⟨(y112), (wrap64 (x50_2 + 1)), (by first | rfl | (simp; done) | (simp [*]; done)), H', ⟨by have := HK1.out; have := HK2.out; omega⟩, ⟨by (try simp only [hl5_2]); (with_reducible repeat (first | apply Kd.R_alloc | apply Kd.R_drewN | apply Kd.R_drew)); exact HO_5.out⟩, ⟨by repeat (first | (with_reducible first | exact HB.out | apply below_alloc | apply pw_below_drewN | apply below_drew1) | exact HB.out)⟩⟩
                  · rw [if_neg c24] at H
                    exact absurd H (by simp)
                · rw [if_neg c23] at H
                  exact absurd H (by simp)
              · rw [if_neg c22] at H
                have c22b0 : decide (x50_2 < (x5_1.length : Int)) = false := decide_eq_false c22
                have c22b1 : decide (x50_2 < (x5_2.length : Int)) = false := by rw [← hl5_2]; exact c22b0
                clear c22
                obtain rfl := Option.some.inj H
                go_wp2
                repeat (go_quiet (fail); try go_wp2)
                go_ret
                exact ⟨_, by first | rfl | (simp [errW_none, errW_some] <;> rfl) | (simp [*, errW_none, errW_some] <;> rfl), by (with_reducible repeat (first | apply Kd.R_alloc | apply Kd.R_drewN | apply Kd.R_drew)); exact HO_5.out, by repeat (first | (with_reducible first | exact HB.out | apply below_alloc | apply pw_below_drewN | apply below_drew1) | exact HB.out)⟩
end Go.Proofs.Ytbahnialbffkeaa.P
namespace Go.Proofs.Ytbahnialbffkeaa.P
open Go.RowKit Go.Proofs.YtbahnialbffkeaaW.PrintWords Go.Proofs.YtbahnialbffkeaaW.PrintLast Go.Proofs.YtbahnialbffkeaaW.PrintMore
set_option linter.unusedVariables false
set_option linter.unusedSimpArgs false
/-- the first row from lo on, before hi, whose time is not below t (bisection) -/
def bisect (l : List S70) (t : Int) : Nat → Nat → Nat → Nat
  | 0, lo, _ => lo
  | d + 1, lo, hi => if lo < hi then (if (rd_T70 l ((lo + hi) / 2 : Nat)).f0 ≥ t then bisect l t d lo ((lo + hi) / 2) else bisect l t d ((lo + hi) / 2 + 1) hi) else lo
def fullB (l : List S70) (p lo hi : Int) : Bool :=
  decide (bisect l hi l.length 0 l.length < l.length) && ((rd_T70 l (bisect l hi l.length 0 l.length)).f0 == hi) && ((rd_T70 l (bisect l hi l.length 0 l.length)).f1 == p) && decide ((rd_T70 l (bisect l hi l.length 0 l.length)).f2 ≤ lo)
def dag_full.f (k : Nat) (l : List S70) (p lo hi : Int) : Option Bool := if l.length ≤ 1000000 then some (fullB l p lo hi) else none
/-- the function that is handed to the search -/
theorem full1_calls (gl gh : Nat) (A : Option Addr) (c : Nat) (l : List S70) (hi i : Int) (w : World) (hl : w.cell? ⟨gl, 0, none⟩ = some (.slice A l.length c)) (hh : w.cell? ⟨gh, 0, none⟩ = some (.int .i64 hi))
    (hC : Kd.C k70 w A l.length l) (h0 : 0 ≤ i) (h1 : i < (l.length : Int)) :
    Calls Try.prog 55 #[.int .i64 i, .pointer (some ⟨gl, 0, none⟩), .pointer (some ⟨gh, 0, none⟩)] w fun e w' => e = .returned (.bool (decide (hi ≤ (rd_T70 l i).f0))) ∧ ∃ n, w' = w.drewN n := by
  obtain ⟨ad, e, hx0, hx1, hx2⟩ := at_T70 hC i h0 h1
  cases e
  have p1 := eq_true h0
  have q1 := eq_true h1
  have c1 : decide (0 ≤ i) = true := decide_eq_true h0
  have c2 : decide (i < (l.length : Int)) = true := decide_eq_true h1
  clear hC hx1 hx2
  go_enter Try.func55, Try.ntmps55
  go_wp2
  go_quiet (fail)
  go_wp2
  go_ret
  exact ⟨rfl, _, rfl⟩
set_option maxHeartbeats 1000000 in
theorem search_calls (gl gh : Nat) (A : Option Addr) (c : Nat) (l : List S70) (hi : Int) (w : World) (hl : w.cell? ⟨gl, 0, none⟩ = some (.slice A l.length c)) (hh : w.cell? ⟨gh, 0, none⟩ = some (.int .i64 hi))
    (hC : Kd.C k70 w A l.length l) (hn : l.length ≤ 1000000) :
    Calls Try.prog 54 #[.int .i64 (l.length : Int), .func (.func 55) #[] #[.pointer (some ⟨gl, 0, none⟩), .pointer (some ⟨gh, 0, none⟩)]] w fun e w' => e = .returned (.int .i64 (bisect l hi l.length 0 l.length : Int)) ∧ ∃ n, w' = w.drewN n := by
  have HL := Aside0.mk hl
  have HH := Aside0.mk hh
  have HC := Aside0.mk hC
  have HN := Aside0.mk hn
  clear hl hh hC hn
  go_enter Try.func54, Try.ntmps54
  go_wp2
  go_loopg [5, 6] l.length (fun kq v5 v6 w' => ∃ (lo hj m : Nat), v5 = .int .i64 (lo : Int) ∧ v6 = .int .i64 (hj : Int) ∧ Aside0 (lo ≤ hj ∧ hj ≤ l.length ∧ hj - lo ≤ kq) ∧ Aside0 (bisect l hi kq lo hj = bisect l hi l.length 0 l.length) ∧ Aside0 (w' = w.drewN m))
  case atStart => exact ⟨0, l.length, 0, rfl, rfl, ⟨by omega, by omega, by omega⟩, ⟨rfl⟩, ⟨rfl⟩⟩
  case round =>
    obtain ⟨lo, hj, m, rfl, rfl, HB, HS, HW⟩ := hrel
    by_cases hlt : lo < hj
    · obtain ⟨kq, rfl⟩ : ∃ q, gk = q + 1 := ⟨gk - 1, by have := HB.out; omega⟩
      have c1 : decide ((lo : Int) < (hj : Int)) = true := decide_eq_true (by omega)
      have c1n : decide (lo < hj) = true := decide_eq_true hlt
      obtain ⟨mid, hmid⟩ : ∃ q, q = (lo + hj) / 2 := ⟨_, rfl⟩
      have HM := Aside0.mk (show wrap64 (IntKind.u64.wrap (wrap64 ((lo : Int) + (hj : Int))) / 2) = (mid : Int) from by
        have := HB.out
        have := HN.out
        rw [hmid, show wrap64 ((lo : Int) + (hj : Int)) = (lo : Int) + (hj : Int) from by unfold wrap64; omega, show IntKind.u64.wrap ((lo : Int) + (hj : Int)) = (lo : Int) + (hj : Int) from by show ((lo : Int) + (hj : Int)) % 18446744073709551616 = _; omega]
        unfold wrap64
        omega)
      have HMB := Aside0.mk (show lo ≤ mid ∧ mid < hj from by omega)
      have HSt := Aside0.mk (show bisect l hi (kq + 1) lo hj = (if hi ≤ (rd_T70 l (mid : Int)).f0 then bisect l hi kq lo mid else bisect l hi kq (mid + 1) hj) from by
        rw [hmid, bisect, if_pos hlt])
      clear hmid hlt
      go_wp2_with fail
      rw [HM.out]
      refine (full1_calls gl gh A c l hi (mid : Int) wr (by rw [HW.out]; exact HL.out) (by rw [HW.out]; exact HH.out) (by rw [HW.out]; exact Kd.C_drewN HC.out _) (by omega) (by have := HMB.out; have := HB.out; omega)).mono ?_
      rintro e w1 ⟨rfl, n, hw1⟩
      have HW1 := Aside0.mk hw1
      clear hw1
      by_cases hge : hi ≤ (rd_T70 l (mid : Int)).f0
      · have c2 : decide (hi ≤ (rd_T70 l (mid : Int)).f0) = true := decide_eq_true hge
        have HSt2 := Aside0.mk (show bisect l hi kq lo mid = bisect l hi l.length 0 l.length from by rw [← HS.out, HSt.out, if_pos hge])
        clear hge
        go_wp2
        go_roundg kq
        case measure => omega
        case rel => exact ⟨lo, mid, m + n, rfl, rfl, ⟨by have := HB.out; have := HMB.out; omega⟩, HSt2, ⟨by rw [HW1.out, HW.out, World.drewN_drewN]⟩⟩
      · have c2 : decide (hi ≤ (rd_T70 l (mid : Int)).f0) = false := decide_eq_false hge
        have HSt2 := Aside0.mk (show bisect l hi kq (mid + 1) hj = bisect l hi l.length 0 l.length from by rw [← HS.out, HSt.out, if_neg hge])
        have hw : wrap64 ((mid : Int) + 1) = ((mid + 1 : Nat) : Int) := by have := HMB.out; have := HB.out; have := HN.out; unfold wrap64; omega
        have HWM := Aside0.mk hw
        clear hge hw
        go_wp2
        go_roundg kq
        case measure => omega
        case rel => exact ⟨mid + 1, hj, m + n, by first | rfl | rw [HWM.out] | go_num, rfl, ⟨by have := HB.out; have := HMB.out; omega⟩, HSt2, ⟨by rw [HW1.out, HW.out, World.drewN_drewN]⟩⟩
    · have c1 : decide ((lo : Int) < (hj : Int)) = false := decide_eq_false (by omega)
      have c1n : decide (lo < hj) = false := decide_eq_false hlt
      have HR := Aside0.mk (show bisect l hi l.length 0 l.length = lo from by
        rw [← HS.out]
        cases gk with
        | zero => rfl
        | succ d => rw [bisect, if_neg hlt])
      clear HS hlt
      go_wp2
      go_ret
      exact ⟨by rw [HR.out]; rfl, m, HW.out⟩
set_option maxHeartbeats 2000000 in
set_option maxRecDepth 100000 in
theorem dag_full.calls (k : Nat) (A : Option Addr) (c : Nat) (l : List S70) (p lo hi : Int) (r : Bool) (w : World) (hr : Kd.C k70 w A l.length l) (hc : l.length ≤ c) (h : dag_full.f k l p lo hi = some r) :
    Calls Try.prog 50 #[.slice A l.length c, .int .i64 p, .int .i64 lo, .int .i64 hi] w fun e w' => e = .returned (.bool r) ∧ Below w.heap.size w w' := by
  unfold dag_full.f at h
  by_cases hb : l.length ≤ 1000000
  rotate_left
  · rw [if_neg hb] at h
    exact absurd h (by simp)
  rw [if_pos hb] at h
  have HN := Aside0.mk hb
  have HRR := Aside0.mk (Option.some.inj h)
  have HC := Aside0.mk hr
  have HB := Aside0.mk (Below.refl w.heap.size w)
  clear h hb hr hc
  obtain ⟨K, hK⟩ : ∃ K, K = bisect l hi l.length 0 l.length := ⟨_, rfl⟩
  have HK := Aside0.mk hK
  clear hK
  go_enter Try.func50, Try.ntmps50
  go_wp2_with fail
  obtain ⟨w2, hw2⟩ : ∃ w2, w2 = (w.alloc (Obj.cells #[Value.slice A l.length c] 67 (0, 0))).alloc (Obj.cells #[Value.int IntKind.i64 hi] 3 (0, 0)) := ⟨_, rfl⟩
  rw [← hw2]
  have h1 : w2.cell? ⟨w.heap.size, 0, none⟩ = some (.slice A l.length c) := by rw [hw2]; go_simp
  have h2 : w2.cell? ⟨w.heap.size + 1, 0, none⟩ = some (.int .i64 hi) := by rw [hw2]; go_simp
  have h3 : Kd.C k70 w2 A l.length l := by rw [hw2]; exact Kd.C_alloc (Kd.C_alloc HC.out _) _
  have HB2 := Aside0.mk (show Below w.heap.size w w2 from by rw [hw2]; exact below_alloc (below_alloc HB.out _) _)
  have HC2 := Aside0.mk h3
  clear hw2
  refine (search_calls w.heap.size (w.heap.size + 1) A c l hi w2 h1 h2 h3 HN.out).mono ?_
  rintro e w3 ⟨rfl, n, rfl⟩
  clear h3
  have HK2 := Aside0.mk (show fullB l p lo hi = (decide (K < l.length) && ((rd_T70 l (K : Int)).f0 == hi) && ((rd_T70 l (K : Int)).f1 == p) && decide ((rd_T70 l (K : Int)).f2 ≤ lo)) from by rw [HK.out]; rfl)
  rw [← HK.out]
  by_cases c1 : K < l.length
  · have d1 : decide ((K : Int) < (l.length : Int)) = true := decide_eq_true (by omega)
    have d1n : decide (K < l.length) = true := decide_eq_true c1
    have p1 : (0 : Int) ≤ (K : Int) := by omega
    have q1 : (K : Int) < (l.length : Int) := by omega
    obtain ⟨ad, e, hx0, hx1, hx2⟩ := at_T70 HC2.out (K : Int) p1 q1
    cases e
    simp only [Int.toNat_natCast] at hx0 hx1 hx2
    have d2 : decide ((0 : Int) ≤ (K : Int)) = true := decide_eq_true p1
    replace p1 := eq_true p1
    replace q1 := eq_true q1
    have q1n := eq_true c1
    by_cases c2 : (rd_T70 l (K : Int)).f0 = hi
    · have e2 : ((rd_T70 l (K : Int)).f0 == hi) = true := beq_iff_eq.mpr c2
      by_cases c3 : (rd_T70 l (K : Int)).f1 = p
      · have e3 : ((rd_T70 l (K : Int)).f1 == p) = true := beq_iff_eq.mpr c3
        have HR := Aside0.mk (show r = decide ((rd_T70 l (K : Int)).f2 ≤ lo) from by rw [← HRR.out, HK2.out, d1n, e2, e3]; rfl)
        clear c1 c2 c3
        go_wp2
        go_quiet (fail)
        go_wp2
        go_ret
        exact ⟨by rw [HR.out]; rfl, pw_below_drewN (pw_below_drewN HB2.out _) _⟩
      · have e3 : ((rd_T70 l (K : Int)).f1 == p) = false := beq_eq_false_iff_ne.mpr c3
        have HR := Aside0.mk (show r = false from by rw [← HRR.out, HK2.out, d1n, e2, e3]; rfl)
        clear c1 c2 c3
        go_wp2
        go_quiet (fail)
        go_wp2
        go_ret
        exact ⟨by rw [HR.out]; rfl, pw_below_drewN (pw_below_drewN HB2.out _) _⟩
    · have e2 : ((rd_T70 l (K : Int)).f0 == hi) = false := beq_eq_false_iff_ne.mpr c2
      have HR := Aside0.mk (show r = false from by rw [← HRR.out, HK2.out, d1n, e2]; rfl)
      clear c1 c2
      go_wp2
      go_quiet (fail)
      go_wp2
      go_ret
      exact ⟨by rw [HR.out]; rfl, pw_below_drewN (pw_below_drewN HB2.out _) _⟩
  · have d1 : decide ((K : Int) < (l.length : Int)) = false := decide_eq_false (by omega)
    have d1n : decide (K < l.length) = false := decide_eq_false c1
    have HR := Aside0.mk (show r = false from by rw [← HRR.out, HK2.out, d1n]; rfl)
    clear c1
    go_wp2
    go_quiet (fail)
    go_wp2
    go_ret
    exact ⟨by rw [HR.out]; rfl, pw_below_drewN (pw_below_drewN HB2.out _) _⟩
end Go.Proofs.Ytbahnialbffkeaa.P
namespace Go.Proofs.Ytbahnialbffkeaa.P
def isHeap (l : List Int) : Prop := ∀ j, 0 < j → j < l.length → l.getD ((j - 1) / 2) 0 ≤ l.getD j 0
theorem getD_set (l : List Int) (i k : Nat) (x : Int) : (l.set i x).getD k 0 = if i = k ∧ i < l.length then x else l.getD k 0 := by
  rw [List.getD_eq_getElem?_getD, List.getD_eq_getElem?_getD, List.getElem?_set]
  by_cases h1 : i = k
  · subst h1
    by_cases h2 : i < l.length
    · simp [h2]
    · rw [if_pos rfl, if_neg h2, if_neg (fun h => h2 h.2), List.getElem?_eq_none (by omega)]
  · rw [if_neg h1, if_neg (fun h => h1 h.1)]
theorem swp_get (l : List Int) (i j k : Nat) (hi : i < l.length) (hj : j < l.length) : (swp l i j).getD k 0 = if k = j then l.getD i 0 else if k = i then l.getD j 0 else l.getD k 0 := by
  unfold swp
  rw [getD_set, getD_set]
  by_cases h1 : k = j
  · rw [if_pos ⟨h1.symm, by rw [List.length_set]; exact hj⟩, if_pos h1]
  · rw [if_neg (fun h => h1 h.1.symm), if_neg h1]
    by_cases h2 : k = i
    · rw [if_pos ⟨h2.symm, hi⟩, if_pos h2]
    · rw [if_neg (fun h => h2 h.1.symm), if_neg h2]
theorem gd_at (l : List Int) (i : Nat) (h : i < l.length) : l.getD i 0 = l[i] := by rw [List.getD_eq_getElem?_getD, List.getElem?_eq_getElem h]; rfl
theorem swp_perm (l : List Int) (i j : Nat) (hi : i < l.length) (hj : j < l.length) : (swp l i j).Perm l := by
  unfold swp
  rw [gd_at l i hi, gd_at l j hj]
  exact List.set_set_perm hi hj
theorem siftUp_perm (l : List Int) (i : Nat) (hi : i < l.length) : (siftUp l i).Perm l := by
  induction i using Nat.strongRecOn generalizing l with
  | _ i ih =>
    by_cases h : 0 < i
    · by_cases h2 : l.getD i 0 < l.getD ((i - 1) / 2) 0
      · rw [siftUp_go l i h h2]
        exact (ih _ (by omega) _ (by rw [swp_length]; omega)).trans (swp_perm l i _ hi (by omega))
      · rw [siftUp_stop l i h h2]
    · obtain rfl : i = 0 := by omega
      rw [siftUp_zero]
theorem siftUp_heap (l : List Int) (i : Nat) (hi : i < l.length) (h1 : ∀ j, 0 < j → j < l.length → j ≠ i → l.getD ((j - 1) / 2) 0 ≤ l.getD j 0)
    (h2 : ∀ j, 0 < j → j < l.length → (j - 1) / 2 = i → 0 < i → l.getD ((i - 1) / 2) 0 ≤ l.getD j 0) : isHeap (siftUp l i) := by
  induction i using Nat.strongRecOn generalizing l with
  | _ i ih =>
    by_cases h : 0 < i
    · by_cases hlt : l.getD i 0 < l.getD ((i - 1) / 2) 0
      · rw [siftUp_go l i h hlt]
        obtain ⟨u, hu⟩ : ∃ u, u = (i - 1) / 2 := ⟨_, rfl⟩
        rw [← hu] at hlt h2 ⊢
        have hul : u < l.length := by omega
        have g : ∀ k, (swp l i u).getD k 0 = if k = u then l.getD i 0 else if k = i then l.getD u 0 else l.getD k 0 := fun k => swp_get l i u k hi hul
        refine ih u (by omega) (swp l i u) (by rw [swp_length]; exact hul) ?_ ?_
        · intro j hj0 hj hne
          rw [swp_length] at hj
          rw [g, g j, if_neg hne]
          by_cases hji : j = i
          · rw [if_pos hji, if_pos (by rw [hji]; exact hu.symm)]
            omega
          · rw [if_neg hji]
            have h3 := h1 j hj0 hj hji
            by_cases hq : (j - 1) / 2 = u
            · rw [if_pos hq]
              rw [hq] at h3
              omega
            · rw [if_neg hq]
              by_cases hq2 : (j - 1) / 2 = i
              · rw [if_pos hq2]
                exact h2 j hj0 hj hq2 h
              · rw [if_neg hq2]
                exact h3
        · intro j hj0 hj hq hu0
          rw [swp_length] at hj
          have h4 := h1 u hu0 hul (by omega)
          rw [g, g j, if_neg (by omega), if_neg (by omega), if_neg (by omega)]
          by_cases hji : j = i
          · rw [if_pos hji]
            exact h4
          · rw [if_neg hji]
            have h3 := h1 j hj0 hj hji
            rw [hq] at h3
            omega
      · rw [siftUp_stop l i h hlt]
        intro j hj0 hj
        by_cases hji : j = i
        · rw [hji]
          omega
        · exact h1 j hj0 hj hji
    · obtain rfl : i = 0 := by omega
      rw [siftUp_zero]
      exact fun j hj0 hj => h1 j hj0 hj (by omega)
theorem gd_app_l (l m : List Int) (i : Nat) (h : i < l.length) : (l ++ m).getD i 0 = l.getD i 0 := by
  rw [List.getD_eq_getElem?_getD, List.getD_eq_getElem?_getD, List.getElem?_append_left h]
theorem pushL_heap (l : List Int) (x : Int) (h : isHeap l) : isHeap (pushL l x) := by
  unfold pushL
  refine siftUp_heap _ _ (by simp) ?_ ?_
  · intro j hj0 hj hne
    have hj2 : j < l.length := by simp at hj; omega
    rw [gd_app_l _ _ _ (by omega), gd_app_l _ _ _ hj2]
    exact h j hj0 hj2
  · intro j hj0 hj hq
    simp at hj
    omega
theorem pushL_perm (l : List Int) (x : Int) : (pushL l x).Perm (x :: l) := by
  unfold pushL
  exact (siftUp_perm _ _ (by simp)).trans (List.perm_append_comm (l₁ := l) (l₂ := [x]))
theorem leastOf_stop (n : Nat) (l : List Int) (i : Nat) (h : leastOf n l i = i) : (2 * i + 1 < n → l.getD i 0 ≤ l.getD (2 * i + 1) 0) ∧ (2 * i + 2 < n → l.getD i 0 ≤ l.getD (2 * i + 2) 0) := by
  unfold leastOf at h
  simp only at h
  by_cases h1 : 2 * i + 1 < n ∧ l.getD (2 * i + 1) 0 < l.getD i 0
  · rw [if_pos h1] at h
    by_cases h2 : 2 * i + 2 < n ∧ l.getD (2 * i + 2) 0 < l.getD (2 * i + 1) 0
    · rw [if_pos h2] at h; omega
    · rw [if_neg h2] at h; omega
  · rw [if_neg h1] at h
    by_cases h2 : 2 * i + 2 < n ∧ l.getD (2 * i + 2) 0 < l.getD i 0
    · rw [if_pos h2] at h; omega
    · exact ⟨fun h3 => Int.not_lt.mp fun h4 => h1 ⟨h3, h4⟩, fun h3 => Int.not_lt.mp fun h4 => h2 ⟨h3, h4⟩⟩
theorem leastOf_go (n : Nat) (l : List Int) (i : Nat) (h : leastOf n l i ≠ i) : leastOf n l i < n ∧ (leastOf n l i = 2 * i + 1 ∨ leastOf n l i = 2 * i + 2) ∧ l.getD (leastOf n l i) 0 < l.getD i 0 ∧ (2 * i + 1 < n → l.getD (leastOf n l i) 0 ≤ l.getD (2 * i + 1) 0) ∧ (2 * i + 2 < n → l.getD (leastOf n l i) 0 ≤ l.getD (2 * i + 2) 0) := by
  unfold leastOf at h ⊢
  simp only at h ⊢
  by_cases h1 : 2 * i + 1 < n ∧ l.getD (2 * i + 1) 0 < l.getD i 0
  · rw [if_pos h1] at h ⊢
    by_cases h2 : 2 * i + 2 < n ∧ l.getD (2 * i + 2) 0 < l.getD (2 * i + 1) 0
    · rw [if_pos h2]
      have := h1.2
      have := h2.2
      exact ⟨h2.1, .inr rfl, by omega, fun _ => by omega, fun _ => by omega⟩
    · rw [if_neg h2]
      have := h1.2
      exact ⟨h1.1, .inl rfl, by omega, fun _ => by omega, fun h3 => Int.not_lt.mp fun h4 => h2 ⟨h3, h4⟩⟩
  · rw [if_neg h1] at h ⊢
    by_cases h2 : 2 * i + 2 < n ∧ l.getD (2 * i + 2) 0 < l.getD i 0
    · rw [if_pos h2]
      have := h2.2
      exact ⟨h2.1, .inr rfl, by omega, fun h3 => by have : ¬ l.getD (2 * i + 1) 0 < l.getD i 0 := fun h4 => h1 ⟨h3, h4⟩; omega, fun _ => by omega⟩
    · rw [if_neg h2] at h; omega
theorem siftDn_perm (n : Nat) (l : List Int) (i : Nat) (hn : l.length = n) (hi : i < n ∨ n = 0) : (siftDn n l i).Perm l := by
  generalize hd : n - i = d
  induction d using Nat.strongRecOn generalizing l i with
  | _ d ih =>
    by_cases h : leastOf n l i = i
    · rw [siftDn_stop _ _ _ h]
    · rw [siftDn_go _ _ _ h]
      obtain ⟨h1, h2, -⟩ := leastOf_go n l i h
      exact (ih (n - leastOf n l i) (by omega) _ _ (by rw [swp_length]; exact hn) (.inl h1) rfl).trans (swp_perm l i _ (by omega) (by omega))
theorem siftDn_heap (n : Nat) (y : List Int) (i : Nat) (hn : y.length = n) (hi : i < n ∨ n = 0) (h1 : ∀ j, 0 < j → j < n → (j - 1) / 2 ≠ i → y.getD ((j - 1) / 2) 0 ≤ y.getD j 0)
    (h2 : ∀ j, 0 < j → j < n → (j - 1) / 2 = i → 0 < i → y.getD ((i - 1) / 2) 0 ≤ y.getD j 0) : isHeap (siftDn n y i) := by
  generalize hd : n - i = d
  induction d using Nat.strongRecOn generalizing y i with
  | _ d ih =>
    by_cases h : leastOf n y i = i
    · rw [siftDn_stop _ _ _ h]
      obtain ⟨s1, s2⟩ := leastOf_stop n y i h
      intro j hj0 hj
      by_cases hq : (j - 1) / 2 = i
      · rw [hq]
        obtain rfl | rfl : j = 2 * i + 1 ∨ j = 2 * i + 2 := by omega
        · exact s1 (by omega)
        · exact s2 (by omega)
      · exact h1 j hj0 (by omega) hq
    · rw [siftDn_go _ _ _ h]
      obtain ⟨m, hm⟩ : ∃ m, m = leastOf n y i := ⟨_, rfl⟩
      have hs := leastOf_go n y i h
      rw [← hm] at h hs ⊢
      obtain ⟨s1, s2, s3, s4, s5⟩ := hs
      have g : ∀ k, (swp y i m).getD k 0 = if k = m then y.getD i 0 else if k = i then y.getD m 0 else y.getD k 0 := fun k => swp_get y i m k (by omega) (by omega)
      have hch : ∀ j, 0 < j → j < n → (j - 1) / 2 = i → y.getD m 0 ≤ y.getD j 0 := by
        intro j hj0 hj hq
        obtain rfl | rfl : j = 2 * i + 1 ∨ j = 2 * i + 2 := by omega
        · exact s4 hj
        · exact s5 hj
      refine ih (n - m) (by omega) (swp y i m) m (by rw [swp_length]; exact hn) (.inl s1) ?_ ?_ rfl
      · intro j hj0 hj hq
        rw [g, g j, if_neg hq]
        by_cases hjm : j = m
        · rw [if_pos hjm, if_pos (by omega)]
          omega
        · rw [if_neg hjm]
          by_cases hji : j = i
          · rw [if_pos hji, if_neg (by omega)]
            have h3 := h2 m (by omega) s1 (by omega) (by omega)
            rw [hji]
            exact h3
          · rw [if_neg hji]
            by_cases hq2 : (j - 1) / 2 = i
            · rw [if_pos hq2]
              exact hch j hj0 hj hq2
            · rw [if_neg hq2]
              exact h1 j hj0 hj hq2
      · intro j hj0 hj hq hm0
        rw [g, g j, if_neg (by omega), if_pos (by omega), if_neg (by omega), if_neg (by omega)]
        have h3 := h1 j hj0 hj (by omega)
        rw [hq] at h3
        exact h3
theorem popL_heap (l : List Int) (h : isHeap l) (hl : 0 < l.length) : isHeap (popL l) := by
  unfold popL
  have hlen : ((l.set 0 (l.getD (l.length - 1) 0)).take (l.length - 1)).length = l.length - 1 := by simp
  refine siftDn_heap _ _ _ hlen (by omega) ?_ (fun j _ _ _ h0 => absurd h0 (by omega))
  intro j hj0 hj hq
  have g : ∀ k, 0 < k → k < l.length - 1 → ((l.set 0 (l.getD (l.length - 1) 0)).take (l.length - 1)).getD k 0 = l.getD k 0 := by
    intro k hk0 hk
    rw [List.getD_eq_getElem?_getD, List.getElem?_take_of_lt hk, ← List.getD_eq_getElem?_getD, getD_set, if_neg (by omega)]
  rw [g _ (by omega) (by omega), g j hj0 hj]
  exact h j hj0 (by omega)
theorem popL_perm (l : List Int) (hl : 0 < l.length) : l.Perm (l.getD 0 0 :: popL l) := by
  obtain ⟨x, r, rfl⟩ : ∃ x r, l = x :: r := by
    cases l with
    | nil => simp at hl
    | cons x r => exact ⟨x, r, rfl⟩
  have hp : (popL (x :: r)).Perm (((x :: r).set 0 ((x :: r).getD r.length 0)).take r.length) := by
    unfold popL
    exact siftDn_perm _ _ _ (by simp) ((Nat.eq_zero_or_pos r.length).elim (fun e => .inr (by simpa using e)) (fun e => .inl (by simpa using e)))
  have e0 : (x :: r).getD 0 0 = x := rfl
  rw [e0]
  refine List.Perm.cons x (List.Perm.trans ?_ hp.symm)
  rcases List.eq_nil_or_concat r with rfl | ⟨s, z, rfl⟩
  · exact List.Perm.refl _
  · rw [List.concat_eq_append] at *
    have e1 : (x :: (s ++ [z])).getD (s ++ [z]).length 0 = z := by
      rw [gd_at _ _ (by simp)]
      simp
    rw [e1]
    have e2 : ((x :: (s ++ [z])).set 0 z).take (s ++ [z]).length = z :: s := by simp
    rw [e2]
    exact List.perm_append_comm (l₁ := s) (l₂ := [z])
theorem heap_least (l : List Int) (h : isHeap l) (j : Nat) (hj : j < l.length) : l.getD 0 0 ≤ l.getD j 0 := by
  induction j using Nat.strongRecOn with
  | _ j ih =>
    by_cases h0 : j = 0
    · rw [h0]; exact Int.le_refl _
    · have h1 := h j (by omega) hj
      have h2 := ih ((j - 1) / 2) (by omega) (by omega)
      omega
theorem heap_least_mem (l : List Int) (h : isHeap l) {x : Int} (hx : x ∈ l) : l.getD 0 0 ≤ x := by
  obtain ⟨j, hj, rfl⟩ := List.mem_iff_getElem.mp hx
  have := heap_least l h j hj
  rw [gd_at l j hj] at this
  exact this
end Go.Proofs.Ytbahnialbffkeaa.P
