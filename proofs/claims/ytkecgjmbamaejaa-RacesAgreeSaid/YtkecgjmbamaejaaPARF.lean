/- races.walk: what its operations on the two maps make of the loop's state. -/
import Derived.Maps.OwnIn
import Derived.Maps.OwnOps
import Derived.Maps.OwnSet
import Derived.Maps.Views
import Derived.Test.YtkecgjmbamaejaaPARB
import Derived.Test.YtkecgjmbamaejaaPARD
import Derived.Test.YtkecgjmbamaejaaPARE
set_option linter.unusedVariables false
set_option linter.unusedSimpArgs false
namespace Go.Proofs.Ytkecgjmbamaejaa.P
open Go.RowKit
set_option linter.unusedVariables false
theorem BG.other {up up' : List Int} {side : List Bool} {gs : List Fi} {c : Nat} {rt : Nat → Nat} (h : BG up side gs c rt) (U : UF up' rt) (hl : up'.length = c) : BG up' side gs c rt :=
  ⟨U, hl, h.slen, h.own, h.bes, h.sS, h.sB⟩
/-- a record says what there is of a task -/
def Rec (t : S83) (f : Fi) : Prop := t.own = (f.own : Int) ∧ (f.B = [] ∧ t.bes = -1 ∨ ∃ y, y ∈ f.B ∧ t.bes = (y : Int))
inductive Recs : List S83 → List Fi → Prop
  | nil : Recs [] []
  | cons {t : S83} {f : Fi} {ts : List S83} {fs : List Fi} (h : Rec t f) (hs : Recs ts fs) : Recs (t :: ts) (f :: fs)
/-- the sets, the records (the open tasks, the last one first) -/
structure GJ (ks : List Int) (n : Nat) (side : List Bool) (rt : Nat → Nat) (ts : List S83) : Prop where
  bg : ∃ up, BG up side (fis ks n) (cnt ks n) rt
  recs : Recs ts (fis ks n)
theorem fis_in (ks : List Int) (n : Nat) : ∀ g ∈ fis ks n, (∀ x ∈ g.S, x < cnt ks n) ∧ ∀ x ∈ g.B, x < cnt ks n := fun g hg =>
  ⟨fun x hx => (fis_mem ks n x).1 (mem_allI hg (.inl hx)), fun x hx => (fis_mem ks n x).1 (mem_allI hg (.inr hx))⟩
/-- a task begins -/
theorem GJ.spawn {ks : List Int} {n : Nat} {side : List Bool} {rt : Nat → Nat} {ts : List S83} (h : GJ ks n side rt ts) (hk : ks.getD n 0 = 0) :
    GJ ks (n + 1) (side ++ [false]) (fun z => if z < cnt ks n then rt z else z) (⟨(cnt ks n : Int), -1⟩ :: ts) := by
  obtain ⟨up, hb⟩ := h.bg
  have hr := h.recs
  have hin := fis_in ks n
  have hown := own_all ks n
  have e1 : fis ks (n + 1) = stepI (ks.getD n 0) (cnt ks n) (fis ks n) := rfl
  have e2 : cnt ks (n + 1) = cnt ks n + 1 := by
    show (if ks.getD n 0 = 0 then cnt ks n + 1 else cnt ks n) = _
    rw [if_pos hk]
  cases hf : fis ks n with
  | nil => exact absurd hf (fis_ne ks n)
  | cons f r =>
    rw [hf] at hb hr hin e1
    rw [hk] at e1
    simp only [stepI, if_true] at e1
    have hown' : ∀ g ∈ f :: r, g.own ∈ g.S := by
      have := hown
      rw [hf] at this
      exact this
    refine ⟨⟨_, by rw [e1, e2]; exact hb.spawn hin hown'⟩, ?_⟩
    rw [e1]
    exact .cons ⟨rfl, .inl ⟨rfl, rfl⟩⟩ hr
/-- a deed that changes no task -/
theorem GJ.skip {ks : List Int} {n : Nat} {side : List Bool} {rt : Nat → Nat} {ts : List S83} (h : GJ ks n side rt ts) (h0 : ks.getD n 0 ≠ 0) (h1 : ks.getD n 0 ≠ 1) (h2 : ks.getD n 0 ≠ 2) : GJ ks (n + 1) side rt ts := by
  have e1 : fis ks (n + 1) = fis ks n := by
    show stepI (ks.getD n 0) (cnt ks n) (fis ks n) = _
    cases hf : fis ks n with
    | nil => rfl
    | cons f r => simp only [stepI, if_neg h0, if_neg h1, if_neg h2]
  have e2 : cnt ks (n + 1) = cnt ks n := by
    show (if ks.getD n 0 = 0 then cnt ks n + 1 else cnt ks n) = _
    rw [if_neg h0]
  obtain ⟨up, hb⟩ := h.bg
  exact ⟨⟨up, by rw [e1, e2]; exact hb⟩, by rw [e1]; exact h.recs⟩
/-- who waits -/
theorem GJ.wait {ks : List Int} {n : Nat} {side : List Bool} {rt : Nat → Nat} {t : S83} {ts : List S83} (h : GJ ks n side rt (t :: ts)) (hk : ks.getD n 0 = 2) {x : Nat} (hx : t.own = (x : Int)) :
    GJ ks (n + 1) side (waitRt rt x t.bes) ({ t with bes := -1 } :: ts) := by
  obtain ⟨up, hb⟩ := h.bg
  have hr := h.recs
  have hin := fis_in ks n
  have hown := own_all ks n
  have hnd := fis_nodup ks n
  have e1 : fis ks (n + 1) = stepI (ks.getD n 0) (cnt ks n) (fis ks n) := rfl
  have e2 : cnt ks (n + 1) = cnt ks n := by
    show (if ks.getD n 0 = 0 then cnt ks n + 1 else cnt ks n) = _
    rw [if_neg (by rw [hk]; decide)]
  cases hf : fis ks n with
  | nil => exact absurd hf (fis_ne ks n)
  | cons f r =>
    rw [hf] at hb hr hin e1 hnd
    rw [hk] at e1
    simp only [stepI] at e1
    rw [if_neg (by decide), if_neg (by decide), if_pos trivial] at e1
    have hown' : ∀ g ∈ f :: r, g.own ∈ g.S := by
      have := hown
      rw [hf] at this
      exact this
    cases hr with
    | cons ht hts =>
      have hxo : x = f.own := by have := ht.1; omega
      refine ⟨?_, by rw [e1]; exact .cons ⟨ht.1, .inl ⟨rfl, rfl⟩⟩ hts⟩
      rw [e1, e2]
      rcases ht.2 with ⟨b1, b2⟩ | ⟨y, b1, b2⟩
      · refine ⟨up, ?_⟩
        unfold waitRt
        rw [if_pos (by rw [b2]; decide), b1, List.append_nil]
        have e3 : (⟨f.own, f.S, []⟩ : Fi) = f := by cases f; simp at b1; subst b1; rfl
        rw [e3]
        exact hb
      · obtain ⟨-, h2⟩ := hb.wait hin hown' hnd b1
        refine ⟨up.set (rt y) (rt f.own : Int), ?_⟩
        unfold waitRt
        rw [b2, if_neg (by omega), Int.toNat_natCast, hxo]
        exact h2
/-- a task returns: what BackPost says -/
theorem GJ.back {ks : List Int} {n : Nat} {side : List Bool} {rt : Nat → Nat} {c u : S83} {ts : List S83} (h : GJ ks n side rt (c :: u :: ts)) (hk : ks.getD n 0 = 1) {x : Nat} (hx : c.own = (x : Int)) :
    (u.bes < 0 → GJ ks (n + 1) (side.set (waitRt rt x c.bes x) true) (waitRt rt x c.bes) ({ u with bes := (x : Int) } :: ts)) ∧
    (¬ u.bes < 0 → GJ ks (n + 1) side (fun z => if waitRt rt x c.bes z = waitRt rt x c.bes x then waitRt rt x c.bes u.bes.toNat else waitRt rt x c.bes z) (u :: ts)) := by
  obtain ⟨up, hb⟩ := h.bg
  have hr := h.recs
  have hin := fis_in ks n
  have hown := own_all ks n
  have hnd := fis_nodup ks n
  have e1 : fis ks (n + 1) = stepI (ks.getD n 0) (cnt ks n) (fis ks n) := rfl
  have e2 : cnt ks (n + 1) = cnt ks n := by
    show (if ks.getD n 0 = 0 then cnt ks n + 1 else cnt ks n) = _
    rw [if_neg (by rw [hk]; decide)]
  cases hf : fis ks n with
  | nil => exact absurd hf (fis_ne ks n)
  | cons f r0 =>
    rw [hf] at hb hr hin e1 hnd
    have hown' : ∀ g ∈ f :: r0, g.own ∈ g.S := by
      have := hown
      rw [hf] at this
      exact this
    cases hr with
    | cons hc hrs =>
      cases hrs with
      | @cons _ g _ r hu hts =>
        rw [hk] at e1
        simp only [stepI] at e1
        rw [if_neg (by decide), if_pos trivial] at e1
        have hxo : x = f.own := by have := hc.1; omega
        -- behind the wait
        have W : ∃ up', BG up' side (⟨f.own, f.S ++ f.B, []⟩ :: g :: r) (cnt ks n) (waitRt rt x c.bes) := by
          rcases hc.2 with ⟨b1, b2⟩ | ⟨y, b1, b2⟩
          · refine ⟨up, ?_⟩
            unfold waitRt
            rw [if_pos (by rw [b2]; decide), b1, List.append_nil]
            have e3 : (⟨f.own, f.S, []⟩ : Fi) = f := by cases f; simp at b1; subst b1; rfl
            rw [e3]
            exact hb
          · obtain ⟨-, h2⟩ := hb.wait hin hown' hnd b1
            refine ⟨up.set (rt y) (rt f.own : Int), ?_⟩
            unfold waitRt
            rw [b2, if_neg (by omega), Int.toNat_natCast, hxo]
            exact h2
        obtain ⟨up1, W⟩ := W
        have hin1 : ∀ g2 ∈ (⟨f.own, f.S ++ f.B, []⟩ : Fi) :: g :: r, (∀ z ∈ g2.S, z < cnt ks n) ∧ ∀ z ∈ g2.B, z < cnt ks n := by
          intro g2 hg2
          rcases List.mem_cons.1 hg2 with rfl | hg2
          · refine ⟨fun z hz => ?_, fun z hz => by cases hz⟩
            rcases List.mem_append.1 hz with hz | hz
            · exact (hin f List.mem_cons_self).1 z hz
            · exact (hin f List.mem_cons_self).2 z hz
          · exact hin g2 (List.mem_cons_of_mem _ hg2)
        have hown1 : ∀ g2 ∈ (⟨f.own, f.S ++ f.B, []⟩ : Fi) :: g :: r, g2.own ∈ g2.S := by
          intro g2 hg2
          rcases List.mem_cons.1 hg2 with rfl | hg2
          · exact List.mem_append.2 (.inl (hown' f List.mem_cons_self))
          · exact hown' g2 (List.mem_cons_of_mem _ hg2)
        have hnd1 : (allI ((⟨f.own, f.S ++ f.B, []⟩ : Fi) :: g :: r)).Nodup := by
          simp only [allI, List.append_nil] at hnd ⊢
          exact hnd
        refine ⟨fun h0 => ?_, fun h0 => ?_⟩
        · have hgB : g.B = [] := by
            rcases hu.2 with ⟨b1, -⟩ | ⟨y, -, b2⟩
            · exact b1
            · omega
          have k := W.back1 hin1 hown1 hnd1 rfl hgB
          refine ⟨⟨up1, ?_⟩, ?_⟩
          · rw [e1, e2, hgB, List.nil_append]
            rw [← hxo] at k
            exact k
          · rw [e1]
            refine .cons ⟨hu.1, .inr ⟨f.own, ?_, by rw [hxo]⟩⟩ hts
            exact List.mem_append.2 (.inr (List.mem_append.2 (.inl (hown' f List.mem_cons_self))))
        · obtain ⟨y, b1, b2⟩ : ∃ y, y ∈ g.B ∧ u.bes = (y : Int) := by
            rcases hu.2 with ⟨-, b2⟩ | h
            · exact absurd (by rw [b2]; decide) h0
            · exact h
          obtain ⟨-, k⟩ := W.back2 hin1 hown1 hnd1 rfl b1
          refine ⟨⟨up1.set (waitRt rt x c.bes f.own) ((waitRt rt x c.bes y : Nat) : Int), ?_⟩, ?_⟩
          · rw [e1, e2, b2, Int.toNat_natCast, hxo]
            rw [hxo] at k
            exact k
          · rw [e1]
            exact .cons ⟨hu.1, .inr ⟨y, List.mem_append.2 (.inl b1), b2⟩⟩ hts
end Go.Proofs.Ytkecgjmbamaejaa.P
namespace Go.Proofs.Ytkecgjmbamaejaa.P
open Go.RowKit
set_option linter.unusedVariables false
theorem GJ.zero (ks : List Int) : GJ ks 0 [false] (fun z => z) [⟨0, -1⟩] :=
  ⟨⟨[0], BG.zero⟩, .cons ⟨rfl, .inl ⟨rfl, rfl⟩⟩ .nil⟩
theorem mem_allS {gs : List Fi} {x : Nat} (h : x ∈ allS gs) : ∃ g ∈ gs, x ∈ g.S := by
  induction gs with
  | nil => cases h
  | cons g r ih =>
    rcases List.mem_append.1 h with h | h
    · exact ⟨g, List.mem_cons_self, h⟩
    · obtain ⟨g2, h1, h2⟩ := ih h
      exact ⟨g2, List.mem_cons_of_mem _ h1, h2⟩
theorem mem_allB {gs : List Fi} {x : Nat} (h : x ∈ allB gs) : ∃ g ∈ gs, x ∈ g.B := by
  induction gs with
  | nil => cases h
  | cons g r ih =>
    rcases List.mem_append.1 h with h | h
    · exact ⟨g, List.mem_cons_self, h⟩
    · obtain ⟨g2, h1, h2⟩ := ih h
      exact ⟨g2, List.mem_cons_of_mem _ h1, h2⟩
/-- the mark of a task's set tells whether the task is beside -/
theorem GJ.side {ks : List Int} {n : Nat} {side : List Bool} {rt : Nat → Nat} {ts : List S83} (h : GJ ks n side rt ts) {x : Nat} (hx : x < cnt ks n) : ∃ b, side[rt x]? = some b ∧ (b = true ↔ x ∈ allB (fis ks n)) := by
  obtain ⟨up, hb⟩ := h.bg
  rcases (all_split _ _).1 ((fis_mem ks n x).2 hx) with hS | hB
  · obtain ⟨g, h1, h2⟩ := mem_allS hS
    exact ⟨false, hb.sS g h1 x h2, ⟨fun h => (by cases h), fun h => absurd h (apart_SB _ (fis_nodup ks n) x hS)⟩⟩
  · obtain ⟨g, h1, h2⟩ := mem_allB hB
    exact ⟨true, hb.sB g h1 x h2, ⟨fun _ => hB, fun _ => rfl⟩⟩
/-- whose deed: -1, nobody's -/
def otk (ks : List Int) : Option Nat → Int
  | none => -1
  | some i => (tk ks i : Int)
/-- what beside answers, of who last wrote or read -/
theorem GJ.beside {ks : List Int} {n : Nat} {side : List Bool} {rt : Nat → Nat} {ts : List S83} (h : GJ ks n side rt ts) (hf : fair ks) (hn : n < ks.length) (hk : 3 ≤ ks.getD n 0) {o : Option Nat} (ho : ∀ i, o = some i → i < n) :
    (o = none ∧ otk ks o = -1 ∧ ¬ Beside ks o n) ∨ ∃ (x : Nat) (b : Bool), otk ks o = (x : Int) ∧ x < cnt ks n ∧ side[rt x]? = some b ∧ (b = true ↔ Beside ks o n) := by
  cases o with
  | none => exact .inl ⟨rfl, rfl, fun ⟨i, e, _⟩ => (by cases e)⟩
  | some i =>
    have hi := ho i rfl
    have hc : tk ks i < cnt ks n := Nat.lt_of_lt_of_le (tk_lt ks i) (cnt_mono ks i n (by omega))
    obtain ⟨b, h1, h2⟩ := h.side hc
    refine .inr ⟨tk ks i, b, rfl, hc, h1, h2.trans ?_⟩
    rw [← beside_iff ks hf n hn ⟨by omega, by omega⟩ i hi]
    exact ⟨fun h => ⟨i, rfl, h⟩, fun ⟨j, e, h⟩ => (by injection e with e; subst e; exact h)⟩
/-- the place's first racy deed -/
def FirstAt (ks ls : List Int) (n : Nat) (loc : Int) (j : Nat) : Prop := j < n ∧ ls.getD j 0 = loc ∧ Racy ks ls j ∧ ∀ i, i < j → ls.getD i 0 = loc → ¬ Racy ks ls i
structure WI (ks ls : List Int) (n : Nat) (F : Int → Option Nat) (T : Int → Option (Int × Int)) : Prop where
  found : ∀ loc j, F loc = some j → FirstAt ks ls n loc j
  seen : ∀ loc, F loc = none → ∃ w r, Seen ks ls n loc w r ∧ (T loc).getD (-1, -1) = (otk ks w, otk ks r)
  gone : ∀ loc j, F loc = some j → T loc = none
theorem WI.zero (ks ls : List Int) : WI ks ls 0 (fun _ => none) (fun _ => none) :=
  ⟨fun _ _ h => (by cases h), fun loc _ => ⟨none, none, Seen.zero ks ls loc, rfl⟩, fun _ _ h => (by cases h)⟩
section
variable {ks ls : List Int} {n : Nat} {F : Int → Option Nat} {T : Int → Option (Int × Int)}
theorem FirstAt.up {loc : Int} {j m : Nat} (h : FirstAt ks ls n loc j) (hm : n ≤ m) : FirstAt ks ls m loc j := ⟨by have := h.1; omega, h.2⟩
theorem WI.skip (h : WI ks ls n F T) (hk : ks.getD n 0 < 3) : WI ks ls (n + 1) F T :=
  ⟨fun loc j e => (h.found loc j e).up (by omega), fun loc e => (by obtain ⟨w, r, h1, h2⟩ := h.seen loc e; exact ⟨w, r, h1.skip (.inl hk), h2⟩), h.gone⟩
theorem WI.known (h : WI ks ls n F T) {j : Nat} (hj : F (ls.getD n 0) = some j) : WI ks ls (n + 1) F T :=
  ⟨fun loc j e => (h.found loc j e).up (by omega), fun loc e => (by
    obtain ⟨w, r, h1, h2⟩ := h.seen loc e
    exact ⟨w, r, h1.skip (.inr fun he => by rw [he, e] at hj; cases hj), h2⟩), h.gone⟩
def upd {α : Type} (F : Int → Option α) (loc : Int) (v : Option α) : Int → Option α := fun x => if x = loc then v else F x
theorem WI.racy (h : WI ks ls n F T) (hF : F (ls.getD n 0) = none) (hq : Racy ks ls n) : WI ks ls (n + 1) (upd F (ls.getD n 0) (some n)) (upd T (ls.getD n 0) none) := by
  refine ⟨fun loc j e => ?_, fun loc e => ?_, fun loc j e => ?_⟩
  · unfold upd at e
    by_cases hl : loc = ls.getD n 0
    · rw [if_pos hl] at e
      injection e with e
      subst e
      obtain ⟨w, r, h1, -⟩ := h.seen _ hF
      exact ⟨by omega, hl.symm, hq, fun i hi hil => h1.calm i hi (by rw [hil, hl])⟩
    · rw [if_neg hl] at e
      exact (h.found loc j e).up (by omega)
  · unfold upd at e ⊢
    by_cases hl : loc = ls.getD n 0
    · rw [if_pos hl] at e; cases e
    · rw [if_neg hl] at e ⊢
      obtain ⟨w, r, h1, h2⟩ := h.seen loc e
      exact ⟨w, r, h1.skip (.inr fun he => hl he.symm), h2⟩
  · unfold upd at e ⊢
    by_cases hl : loc = ls.getD n 0
    · rw [if_pos hl]
    · rw [if_neg hl] at e ⊢
      exact h.gone loc j e
/-- no race: the place's record -/
theorem WI.calm (h : WI ks ls n F T) (hF : F (ls.getD n 0) = none) {w r : Option Nat} (hs : Seen ks ls (n + 1) (ls.getD n 0) w r) {p : Int × Int} (hp : p = (otk ks w, otk ks r)) : WI ks ls (n + 1) F (upd T (ls.getD n 0) (some p)) := by
  refine ⟨fun loc j e => (h.found loc j e).up (by omega), fun loc e => ?_, fun loc j e => ?_⟩
  · unfold upd
    by_cases hl : loc = ls.getD n 0
    · rw [if_pos hl]
      subst hl
      exact ⟨w, r, hs, hp⟩
    · rw [if_neg hl]
      obtain ⟨w, r, h1, h2⟩ := h.seen loc e
      exact ⟨w, r, h1.skip (.inr fun he => hl he.symm), h2⟩
  · unfold upd
    by_cases hl : loc = ls.getD n 0
    · rw [hl, hF] at e; cases e
    · rw [if_neg hl]
      exact h.gone loc j e
/-- a read or a write of a place without a race so far -/
theorem WI.deed (h : WI ks ls n F T) (hf : fair ks) (hn : n < ks.length) (hk : ks.getD n 0 = 3 ∨ ks.getD n 0 = 4) (hall : ∀ j, j < n → ks.getD j 0 ≤ 4) (hF : F (ls.getD n 0) = none) :
    ∃ w r, (T (ls.getD n 0)).getD (-1, -1) = (otk ks w, otk ks r) ∧ (∀ i, w = some i → i < n) ∧ (∀ i, r = some i → i < n) ∧ (Racy ks ls n ↔ (Beside ks w n ∨ (ks.getD n 0 = 4 ∧ Beside ks r n))) ∧
      (¬ Racy ks ls n → ks.getD n 0 = 4 → WI ks ls (n + 1) F (upd T (ls.getD n 0) (some ((tk ks n : Int), otk ks r)))) ∧
      (¬ Racy ks ls n → ks.getD n 0 = 3 → ¬ Beside ks r n → WI ks ls (n + 1) F (upd T (ls.getD n 0) (some (otk ks w, (tk ks n : Int))))) ∧
      (¬ Racy ks ls n → ks.getD n 0 = 3 → Beside ks r n → WI ks ls (n + 1) F (upd T (ls.getD n 0) (some (otk ks w, otk ks r)))) := by
  obtain ⟨w, r, h1, h2⟩ := h.seen _ hF
  refine ⟨w, r, h2, fun i e => (h1.wsome i e).1, fun i e => (h1.rsome i e).1, h1.racy_iff hf hn (by omega) rfl (by omega) hall, fun hq h4 => ?_, fun hq h3 hb => ?_, fun hq h3 hb => ?_⟩
  · exact h.calm hF (w := some n) (r := r) (h1.write h4 rfl hq) rfl
  · exact h.calm hF (w := w) (r := some n) (h1.read hf hn h3 rfl hq hb) rfl
  · exact h.calm hF (h1.readBeside h3 rfl hq hb) rfl
end
end Go.Proofs.Ytkecgjmbamaejaa.P
namespace Go.Proofs.Ytkecgjmbamaejaa.P
open Go.RowKit Go.Proofs.YtkecgjmbamaejaaW.PrintWords Go.Proofs.YtkecgjmbamaejaaW.PrintLast Go.Proofs.YtkecgjmbamaejaaW.PrintMore
set_option linter.unusedVariables false
theorem OR.slice {W : World} {base : Nat} {vo : Value} {ts : List S83} (h : OR W base vo ts) : ∃ A c, vo = .slice A ts.length c := own_slice h
theorem OR.form {W : World} {base : Nat} {vo : Value} {ts : List S83} (h : OR W base vo ts) (hp : 0 < ts.length) : ∃ g c, vo = .slice (some ⟨g, 0, none⟩) ts.length c ∧ base ≤ g ∧ g < W.heap.size := by
  rcases h.2 with ⟨e, e2⟩ | ⟨g, cap, cur, e, hb, hg, hnc, hcm, hcs, ht⟩
  · omega
  · exact ⟨g, cap, e, hb, blk_lt hg⟩
/-- the bags do not lie where the row lies -/
theorem Rts.grown {w W W1 : World} {gb n base : Nat} {vu vs vo : Value} {side : List Bool} {rt : Nat → Nat} {ts : List S83} (h : Rts w W gb vu vs n side rt) (O : OR W base vo ts) (hb : Below w.heap.size w W1) (hg : W.grownBy W1 vo.ownBlock) : Rts w W1 gb vu vs n side rt := by
  obtain ⟨up, h1, h2, h3⟩ := h
  have ne : ∀ {k t : Nat} {cs : Array Value}, W.heap[k]? = some (.cells cs t (0, 0)) → t ≠ 83 → some k ≠ vo.ownBlock := fun {k t cs} hk ht he => by
    obtain ⟨c2, e2⟩ := own_typed O k he.symm
    exact blk_ne hk e2 ht rfl
  refine ⟨up, h1, h2, hb, blk_grown h3.bb hg (ne h3.bb (by decide)), h3.nb, ?_, ?_⟩
  · exact Kd.R_mono (Kd.R_grown (Kd.R_tight rfl h3.ru) hg (fun k hk => by obtain ⟨c, e⟩ := Kd.R_typed h3.ru k hk.symm; exact ne e (by decide))) (fun _ _ => trivial)
  · exact Kd.R_mono (Kd.R_grown (Kd.R_tight rfl h3.rs) hg (fun k hk => by obtain ⟨c, e⟩ := Kd.R_typed h3.rs k hk.symm; exact ne e (by decide))) (fun _ _ => trivial)
section
variable {ops : Array Oper} {rest : List Oper} {o : Oper} {a : Act} {Q : Exit → Act → World → Prop}
theorem open_app {w W : World} {vo : Value} {ts : List S83} (hgd : o.guard = none) (s x : Operand) (ho : o.op = .call { callee := .builtin .append, args := #[s, x], argTypes := #[84, 84] }) (O : OR W w.heap.size vo ts) (HB : Below w.heap.size w W) (hs : a.eval s = vo) (t : S83)
    (hx : a.eval x = .slice (some ⟨W.heap.size, 0, none⟩) 1 1) (hl : ts.length ≤ 8388608)
    (h : ∀ A1 n1 c1 w1, n1 = ts.length + 1 → OR w1 w.heap.size (.slice A1 n1 c1) (ts ++ [t]) → Below w.heap.size w w1 → W.grownBy w1 vo.ownBlock → ((Value.slice A1 n1 c1).ownBlock = vo.ownBlock ∨ ∃ b, (Value.slice A1 n1 c1).ownBlock = some b ∧ W.heap.size ≤ b) → wpList Try.prog ops Q rest (a.put o.dst (.slice A1 n1 c1)) w1) :
    wpList Try.prog ops Q (o :: rest) a (W.alloc (.cells #[.int .i64 t.own, .int .i64 t.bes] 83)) := by
  refine print_append_cells (w0 := w) (W := W) (ys := tkL t) w.heap.size hgd s x 84 83 (.agg #[(.int .i64 0), (.int .i64 0)]) 2 16 ho Try.underlying84 info83 rfl (by decide) (by decide) vo ts.length (flatT ts) hs hx rfl ?_ O HB (below_size HB) (by omega) ?_
  · intro q hq
    simp [tkL] at hq
    rcases hq with rfl | rfl <;> rfl
  · intro v1 w1 hown hb hg hat
    have hO : OR w1 w.heap.size v1 (ts ++ [t]) := by
      unfold OR
      rw [List.length_append, List.length_singleton, flatT_app]
      exact (by simpa [flatT] using hown)
    obtain ⟨A1, c1, rfl⟩ := hO.slice
    rw [List.length_append, List.length_singleton] at hO hat ⊢
    exact h A1 _ c1 w1 rfl hO hb hg hat
end
end Go.Proofs.Ytkecgjmbamaejaa.P
namespace Go.Proofs.Ytkecgjmbamaejaa.P
open Go.RowKit Go.Maps
set_option linter.unusedVariables false
section
variable {H : Type} {α : Type}
/-- D tells F, by enc -/
structure FM (enc : α → DataW H) (D : DataW H) (F : Int → Option α) : Prop where
  map : Tidy D
  has : ∀ x, has D (.int .i64 x) = (F x).isSome
  at_ : ∀ x a, F x = some a → ∀ z, D.atKey (.int .i64 x) z = enc a
theorem FM.empty (enc : α → DataW H) : FM enc (.map []) (fun _ => none) := ⟨tidy_empty, fun _ => rfl, fun _ _ h => (by cases h)⟩
theorem lit_ne {x y : Int} (h : x ≠ y) : (Lit.int .i64 x) ≠ .int .i64 y := fun e => h (by injection e)
theorem FM.put {enc : α → DataW H} {D : DataW H} {F : Int → Option α} (h : FM enc D F) (x : Int) (a : α) : FM enc (D.put (.int .i64 x) (enc a)) (upd F x (some a)) := by
  have hk : WideAt.IsKeyLit (.int .i64 x) := by first | trivial | simp [WideAt.IsKeyLit]
  refine ⟨h.map.put hk _, fun y => ?_, fun y b e z => ?_⟩
  · unfold upd
    by_cases e : y = x
    · subst e
      rw [if_pos rfl, has_put_same h.map.isMap hk]
      rfl
    · rw [if_neg e, has_put_other (lit_ne e)]
      exact h.has y
  · unfold upd at e
    by_cases e2 : y = x
    · subst e2
      rw [if_pos rfl] at e
      injection e with e
      subst e
      exact atKey_put_same h.map.isMap hk _ _
    · rw [if_neg e2] at e
      rw [atKey_put_other (lit_ne e2)]
      exact h.at_ y b e z
theorem FM.del {enc : α → DataW H} {D : DataW H} {F : Int → Option α} (h : FM enc D F) (x : Int) : FM enc (D.del (.int .i64 x)) (upd F x none) := by
  refine ⟨h.map.del _, fun y => ?_, fun y b e z => ?_⟩
  · unfold upd
    by_cases e : y = x
    · subst e
      rw [if_pos rfl, has_del_same]
      rfl
    · rw [if_neg e, has_del_other (lit_ne e)]
      exact h.has y
  · unfold upd at e
    by_cases e2 : y = x
    · rw [if_pos e2] at e; cases e
    · rw [if_neg e2] at e
      rw [atKey_del_other (lit_ne e2)]
      exact h.at_ y b e z
/-- what a lookup with ok brings -/
theorem FM.look {enc : α → DataW H} {D : DataW H} {F : Int → Option α} (h : FM enc D F) (x : Int) (z : DataW H) : D.atKey (.int .i64 x) z = ((F x).map enc).getD z := by
  cases e : F x with
  | none => exact atKey_of_not_has (by rw [h.has, e]; rfl) z
  | some a => exact h.at_ x a e z
end
end Go.Proofs.Ytkecgjmbamaejaa.P
namespace Go.Proofs.Ytkecgjmbamaejaa.P
open Go.RowKit Go.Maps Go.Proofs.YtkecgjmbamaejaaW.PrintWords Go.Proofs.YtkecgjmbamaejaaW.PrintLast Go.Proofs.YtkecgjmbamaejaaW.PrintMore
set_option linter.unusedVariables false
theorem locLaw : Keyed Try.prog 2 := int_keyed Try.underlying2
theorem locKey {x : Int} (h : (Lit.int .i64 x).wf = true) : keyOf Try.prog 2 (.int .i64 x) = some (.int .i64 x) := keyOf_int_mk Try.underlying2 h
/-- how a touch reads -/
def tchR {H : Type} (v : Value) : Option (DataW H × List MemPlace) := match v with
  | .agg ⟨[.int .i64 a, .int .i64 b]⟩ => some (.agg [.lit (.int .i64 a), .lit (.int .i64 b)], [])
  | _ => none
def tchD {H : Type} (p : Int × Int) : DataW H := .agg [.lit (.int .i64 p.1), .lit (.int .i64 p.2)]
theorem tchR_mk {H : Type} (a b : Int) : tchR (H := H) (.agg #[.int .i64 a, .int .i64 b]) = some (tchD (a, b), []) := rfl
theorem tchR_inv {H : Type} {v : Value} {p : Int × Int} {ps : List MemPlace} (h : tchR (H := H) v = some (tchD p, ps)) : v = .agg #[.int .i64 p.1, .int .i64 p.2] := by
  unfold tchR at h
  split at h
  · simp [tchD] at h
    obtain ⟨⟨rfl, rfl⟩, -⟩ := h
    rfl
  · cases h
/-- the map of the places with a race, and that of who was there -/
structure TwoMaps (W : World) (bs bf : Nat) (ns nf : Nat) (T : Int → Option (Int × Int)) (F : Int → Option Nat) : Prop where
  seen : ∃ D : DataW Unit, W.ownsMap Try.prog 2 tchR bs ns D ∧ FM tchD D T
  found : ∃ D : DataW Unit, W.ownsMap Try.prog 2 (plainElem Try.prog 3) bf nf D ∧ FM (fun j : Nat => .lit (.int .i64 (j : Int))) D F
theorem TwoMaps.kept {W W' : World} {bs bf ns nf : Nat} {T : Int → Option (Int × Int)} {F : Int → Option Nat} {row : Option Nat} (h : TwoMaps W bs bf ns nf T F) (hg : W.grownBy W' row) (h1 : some bs ≠ row) (h2 : some bf ≠ row) : TwoMaps W' bs bf ns nf T F := by
  obtain ⟨D, a, b⟩ := h.seen
  obtain ⟨E, c, d⟩ := h.found
  exact ⟨⟨D, a.kept hg h1, b⟩, ⟨E, c.kept hg h2, d⟩⟩
end Go.Proofs.Ytkecgjmbamaejaa.P
namespace Go.Proofs.Ytkecgjmbamaejaa.P
open Go.RowKit Go.Proofs.YtkecgjmbamaejaaW.PrintWords Go.Proofs.YtkecgjmbamaejaaW.PrintLast Go.Proofs.YtkecgjmbamaejaaW.PrintMore
set_option linter.unusedVariables false
theorem modify_same {α : Type} {f : α → α} : ∀ {l : List α} {j : Nat} {t : α}, l[j]? = some t → f t = t → l.modify j f = l
  | [], j, t, h, _ => by simp at h
  | x :: l, 0, t, h, e => by
    simp at h
    subst h
    rw [List.modify_zero_cons, e]
  | x :: l, j + 1, t, h, e => by
    rw [List.modify_succ_cons, modify_same (l := l) (j := j) (by simpa using h) e]
theorem wait_open {w W : World} {gb go n n2 co base j : Nat} {vu vs : Value} {side : List Bool} {rt : Nat → Nat} {l : List S83} {t : S83} {x : Nat} (H : Rts w W gb vu vs n side rt) (O : OR W base (.slice (some ⟨go, 0, none⟩) n2 co) l) (hl : l.length = n2) (hj : l[j]? = some t) (ho : t.own = (x : Int))
    (hw : w.heap.size ≤ go) (hx : x < n) (hy : t.bes < (n : Int)) (h1 : t.bes < 0 → t.bes = -1) (hb : n ≤ 8388608) :
    Calls Try.prog 58 #[.pointer (some ⟨gb, 0, none⟩), .pointer (some ⟨go, j * 2, none⟩)] W fun e W' => e = .returned (.tuple #[]) ∧ Rts w W' gb vu vs n side (waitRt rt x t.bes) ∧ OR W' base (.slice (some ⟨go, 0, none⟩) n2 co) (l.modify j (fun t => { t with bes := -1 })) ∧ Kept W W' (fun k => k = go ∨ some k = vu.ownBlock) := by
  have T := O.tk hl hj
  rw [ho] at T
  by_cases hb0 : t.bes < 0
  · refine (wait_neg T hb0).mono ?_
    rintro e W' ⟨rfl, rfl⟩
    refine ⟨rfl, by unfold waitRt; rw [if_pos hb0]; exact H, ?_, Kept.refl _ _⟩
    rw [modify_same hj (by cases t; simp at h1 hb0 ⊢; exact (h1 hb0).symm)]
    exact O
  · obtain ⟨y, hty⟩ : ∃ y : Nat, t.bes = (y : Int) := ⟨t.bes.toNat, by omega⟩
    rw [hty] at T
    have hne := (O.ne_vu H).1
    refine (wait_nat H.roots T hx (by omega) hb).mono ?_
    rintro e W' ⟨rfl, W1, hR, rfl⟩
    obtain ⟨k1, k2⟩ := hR.rts
    have T1 := T.kept k2 hne
    have O1 : OR W1 base (.slice (some ⟨go, 0, none⟩) n2 co) l := O.kept k2 (fun k e hk => by have e' : go = k := Option.some.inj e; subst e'; exact hne hk)
    refine ⟨rfl, ?_, O1.setBes hl j (-1), kept_set ⟨k2.1, fun i hi hn => k2.2 i hi (fun e => hn (.inr e))⟩ (.inl (.inl rfl)) _⟩
    unfold waitRt
    rw [if_neg hb0, hty, Int.toNat_natCast]
    exact k1.setT T1 hw _ _
/-- what beside answers of a touch, in the walk's words -/
theorem beside_any {w W : World} {gb n : Nat} {vu vs : Value} {side : List Bool} {rt : Nat → Nat} {a : Int} {b : Bool} (H : Rts w W gb vu vs n side rt) (hs : side.length = n) (hb : n ≤ 8388608) (h : (a < 0 ∧ b = false) ∨ ∃ x : Nat, a = (x : Int) ∧ x < n ∧ side[rt x]? = some b) :
    Calls Try.prog 59 #[.pointer (some ⟨gb, 0, none⟩), .int .i64 a] W fun e W' => e = .returned (.bool b) ∧ Rts w W' gb vu vs n side rt ∧ Kept W W' (fun k => some k = vu.ownBlock) := by
  rcases h with ⟨h1, rfl⟩ | ⟨x, rfl, h1, h2⟩
  · refine (beside_neg H.roots h1).mono ?_
    rintro e W' ⟨rfl, hr⟩
    exact ⟨rfl, hr.rts⟩
  · refine (beside_nat H.roots h1 hs hb h2).mono ?_
    rintro e W' ⟨rfl, hr⟩
    exact ⟨rfl, hr.rts⟩
end Go.Proofs.Ytkecgjmbamaejaa.P
namespace Go.Proofs.Ytkecgjmbamaejaa.P
open Go.RowKit Go.Maps Go.Proofs.YtkecgjmbamaejaaW.PrintWords Go.Proofs.YtkecgjmbamaejaaW.PrintLast Go.Proofs.YtkecgjmbamaejaaW.PrintMore
set_option linter.unusedVariables false
structure WS (w W : World) (gb bs bf n ns nf : Nat) (vu vs vo : Value) (side : List Bool) (rt : Nat → Nat) (ts : List S83) (T : Int → Option (Int × Int)) (F : Int → Option Nat) : Prop where
  R : Rts w W gb vu vs n side rt
  O : OR W w.heap.size vo ts
  M : TwoMaps W bs bf ns nf T F
  B : Below w.heap.size w W
  sl : side.length = n
theorem TwoMaps.block {W W' : World} {bs bf ns nf : Nat} {T : Int → Option (Int × Int)} {F : Int → Option Nat} (h : TwoMaps W bs bf ns nf T F) (e1 : W'.heap[bs]? = W.heap[bs]?) (e2 : W'.heap[bf]? = W.heap[bf]?) : TwoMaps W' bs bf ns nf T F := by
  obtain ⟨D, ⟨es, ck, a1, a2⟩, b⟩ := h.seen
  obtain ⟨E, ⟨fs, cl, c1, c2⟩, d⟩ := h.found
  exact ⟨⟨D, ⟨es, ck, e1.trans a1, a2⟩, b⟩, ⟨E, ⟨fs, cl, e2.trans c1, c2⟩, d⟩⟩
theorem TwoMaps.cells {W : World} {bs bf ns nf : Nat} {T : Int → Option (Int × Int)} {F : Int → Option Nat} (h : TwoMaps W bs bf ns nf T F) {k t : Nat} {cs : Array Value} {fr : Nat × Nat} (hk : W.heap[k]? = some (.cells cs t fr)) : k ≠ bs ∧ k ≠ bf := by
  obtain ⟨D, ⟨es, ck, a1, a2⟩, b⟩ := h.seen
  obtain ⟨E, ⟨fs, cl, c1, c2⟩, d⟩ := h.found
  exact ⟨fun e => (by rw [← e, hk] at a1; cases a1), fun e => (by rw [← e, hk] at c1; cases c1)⟩
section
variable {w W W' : World} {gb bs bf n ns nf : Nat} {vu vs vo : Value} {side : List Bool} {rt : Nat → Nat} {ts : List S83} {T : Int → Option (Int × Int)} {F : Int → Option Nat}
theorem WS.below (h : WS w W gb bs bf n ns nf vu vs vo side rt ts T F) (hb : Below W.heap.size W W') : WS w W' gb bs bf n ns nf vu vs vo side rt ts T F := by
  have e : ∀ k, k < W.heap.size → W'.heap[k]? = W.heap[k]? := fun k hk => hb.block k hk
  refine ⟨h.R.step hb, h.O.block (fun k hk => e k (own_lt h.O k hk)), h.M.block (e _ ?_) (e _ ?_), below_step h.B hb, h.sl⟩
  · obtain ⟨D, ⟨es, ck, a1, a2⟩, b⟩ := h.M.seen
    exact (Array.getElem?_eq_some_iff.1 a1).1
  · obtain ⟨D, ⟨es, ck, a1, a2⟩, b⟩ := h.M.found
    exact (Array.getElem?_eq_some_iff.1 a1).1
theorem WS.drew (h : WS w W gb bs bf n ns nf vu vs vo side rt ts T F) : WS w W.drew gb bs bf n ns nf vu vs vo side rt ts T F := h.below (below_drew (Below.refl _ _))
theorem WS.drewN (h : WS w W gb bs bf n ns nf vu vs vo side rt ts T F) (m : Nat) : WS w (W.drewN m) gb bs bf n ns nf vu vs vo side rt ts T F := h.below (pw_below_drewN (Below.refl _ _) m)
/-- the bags' blocks, and the row's, are none of the maps' -/
theorem WS.mkept (h : WS w W gb bs bf n ns nf vu vs vo side rt ts T F) (hk : Kept W W' (fun k => k = gb ∨ some k = vo.ownBlock ∨ some k = vu.ownBlock ∨ some k = vs.ownBlock)) : TwoMaps W' bs bf ns nf T F := by
  obtain ⟨up, h1, h2, h3⟩ := h.R
  have ne : ∀ k, (k = gb ∨ some k = vo.ownBlock ∨ some k = vu.ownBlock ∨ some k = vs.ownBlock) → k ≠ bs ∧ k ≠ bf := by
    rintro k (rfl | e | e | e)
    · exact h.M.cells h3.bb
    · obtain ⟨c, hc⟩ := own_typed h.O k e.symm
      exact h.M.cells hc
    · obtain ⟨c, hc⟩ := Kd.R_typed h3.ru k e.symm
      exact h.M.cells hc
    · obtain ⟨c, hc⟩ := Kd.R_typed h3.rs k e.symm
      exact h.M.cells hc
  refine h.M.block (hk.2 _ ?_ (fun e => (ne _ e).1 rfl)) (hk.2 _ ?_ (fun e => (ne _ e).2 rfl))
  · obtain ⟨D, ⟨es, ck, a1, a2⟩, b⟩ := h.M.seen
    exact (Array.getElem?_eq_some_iff.1 a1).1
  · obtain ⟨D, ⟨es, ck, a1, a2⟩, b⟩ := h.M.found
    exact (Array.getElem?_eq_some_iff.1 a1).1
/-- blocks of records of the walk's own stay -/
def LK (W W' : World) : Prop := ∀ (k : Nat) (t : TypeId) (cs : Array Value), W.heap[k]? = some (Obj.cells cs t (0, 0)) → (t = 52 ∨ t = 91) → W'.heap[k]? = W.heap[k]?
theorem LK.refl (W : World) : LK W W := fun _ _ _ _ _ => rfl
theorem WS.lk (h : WS w W gb bs bf n ns nf vu vs vo side rt ts T F) (hk : Kept W W' (fun k => k = gb ∨ some k = vo.ownBlock ∨ some k = vu.ownBlock ∨ some k = vs.ownBlock)) : LK W W' := by
  obtain ⟨up, h1, h2, h3⟩ := h.R
  intro k t cs hc ht
  refine hk.2 _ (blk_lt hc) ?_
  rintro (rfl | e | e | e)
  · exact blk_ne hc h3.bb (by rcases ht with rfl | rfl <;> decide) rfl
  · obtain ⟨c, e2⟩ := own_typed h.O k e.symm
    exact blk_ne hc e2 (by rcases ht with rfl | rfl <;> decide) rfl
  · obtain ⟨c, e2⟩ := Kd.R_typed h3.ru k e.symm
    exact blk_ne hc e2 (by rcases ht with rfl | rfl <;> decide) rfl
  · obtain ⟨c, e2⟩ := Kd.R_typed h3.rs k e.symm
    exact blk_ne hc e2 (by rcases ht with rfl | rfl <;> decide) rfl
theorem WS.beside {a : Int} {b : Bool} (h : WS w W gb bs bf n ns nf vu vs vo side rt ts T F) (hb : n ≤ 8388608) (hq : (a < 0 ∧ b = false) ∨ ∃ x : Nat, a = (x : Int) ∧ x < n ∧ side[rt x]? = some b) :
    Calls Try.prog 59 #[.pointer (some ⟨gb, 0, none⟩), .int .i64 a] W fun e W' => e = .returned (.bool b) ∧ WS w W' gb bs bf n ns nf vu vs vo side rt ts T F ∧ LK W W' := by
  refine (beside_any h.R h.sl hb hq).mono ?_
  rintro e W' ⟨rfl, hr, hk⟩
  have hO : OR W' w.heap.size vo ts := h.O.kept hk (fun k e he => by
    obtain ⟨up, h1, h2, h3⟩ := h.R
    obtain ⟨c1, e1⟩ := own_typed h.O k e
    obtain ⟨c2, e2⟩ := Kd.R_typed h3.ru k he.symm
    exact blk_ne e1 e2 (by decide) rfl)
  have hk2 : Kept W W' (fun k => k = gb ∨ some k = vo.ownBlock ∨ some k = vu.ownBlock ∨ some k = vs.ownBlock) := ⟨hk.1, fun i hi hn => hk.2 i hi (fun e => hn (.inr (.inr (.inl e))))⟩
  refine ⟨rfl, ⟨hr, hO, h.mkept hk2, ?_, h.sl⟩, h.lk hk2⟩
  obtain ⟨up, h1, h2, h3⟩ := hr
  exact h3.below
end
end Go.Proofs.Ytkecgjmbamaejaa.P
namespace Go.Proofs.Ytkecgjmbamaejaa.P
open Go.RowKit Go.Maps Go.Proofs.YtkecgjmbamaejaaW.PrintWords Go.Proofs.YtkecgjmbamaejaaW.PrintLast Go.Proofs.YtkecgjmbamaejaaW.PrintMore
set_option linter.unusedVariables false
section
variable {w W W' : World} {gb go co bs bf n ns nf n2 : Nat} {vu vs vo : Value} {side : List Bool} {rt : Nat → Nat} {ts : List S83} {T : Int → Option (Int × Int)} {F : Int → Option Nat}
theorem Rts.b {side : List Bool} (h : Rts w W gb vu vs n side rt) : Below w.heap.size w W := by
  obtain ⟨up, h1, h2, h3⟩ := h
  exact h3.below
theorem WS.wait {j x : Nat} {t : S83} (h : WS w W gb bs bf n ns nf vu vs (.slice (some ⟨go, 0, none⟩) n2 co) side rt ts T F) (hl : ts.length = n2) (hj : ts[j]? = some t) (ho : t.own = (x : Int)) (hx : x < n) (hy : t.bes < (n : Int)) (h1 : t.bes < 0 → t.bes = -1) (hb : n ≤ 8388608) :
    Calls Try.prog 58 #[.pointer (some ⟨gb, 0, none⟩), .pointer (some ⟨go, j * 2, none⟩)] W fun e W' => e = .returned (.tuple #[]) ∧ WS w W' gb bs bf n ns nf vu vs (.slice (some ⟨go, 0, none⟩) n2 co) side (waitRt rt x t.bes) (ts.modify j (fun t => { t with bes := -1 })) T F ∧ LK W W' := by
  refine (wait_open h.R h.O hl hj ho (own_base h.O go rfl) hx hy h1 hb).mono ?_
  rintro e W' ⟨rfl, hr, hO, hk⟩
  have hk2 : Kept W W' (fun k => k = gb ∨ some k = (Value.slice (some ⟨go, 0, none⟩) n2 co).ownBlock ∨ some k = vu.ownBlock ∨ some k = vs.ownBlock) := ⟨hk.1, fun i hi hn => hk.2 i hi (fun e => hn (e.elim (fun e => .inr (.inl (congrArg some e))) (fun e => .inr (.inr (.inl e)))))⟩
  exact ⟨rfl, ⟨hr, hO, h.mkept hk2, hr.b, h.sl⟩, h.lk hk2⟩
theorem WS.back {L m x : Nat} {u c : S83} (h : WS w W gb bs bf n ns nf vu vs (.slice (some ⟨go, 0, none⟩) n2 co) side rt ts T F) (hn2 : ts.length = n2) (hL : n2 = L + 1) (hm : L = m + 1)
    (hu : ts[m]? = some u) (hc : ts[L]? = some c) (hx : c.own = (x : Int)) (hxn : x < n) (hcb : c.bes < (n : Int)) (hub : u.bes < (n : Int)) (hb : n ≤ 8388608) (hn2b : n2 ≤ 8388608) :
    Calls Try.prog 57 #[.pointer (some ⟨gb, 0, none⟩), .slice (some ⟨go, 0, none⟩) n2 co] W fun e W' => e = .returned (.slice (some ⟨go, 0, none⟩) L co) ∧ LK W W' ∧
      ((u.bes < 0 ∧ WS w W' gb bs bf n ns nf vu vs (.slice (some ⟨go, 0, none⟩) L co) (side.set (waitRt rt x c.bes x) true) (waitRt rt x c.bes) ((ts.modify m (fun t => { t with bes := (x : Int) })).take L) T F) ∨
       (¬ u.bes < 0 ∧ WS w W' gb bs bf n ns nf vu vs (.slice (some ⟨go, 0, none⟩) L co) side (fun z => if waitRt rt x c.bes z = waitRt rt x c.bes x then waitRt rt x c.bes u.bes.toNat else waitRt rt x c.bes z) (ts.take L) T F)) := by
  refine (back_calls h.R h.O hn2 hL hm hu hc hx hxn hcb hub hb h.sl hn2b (own_base h.O go rfl)).mono ?_
  rintro e W' ⟨rfl, side', rt', l', hcase, hr, hO, hk⟩
  have hk2 : Kept W W' (fun k => k = gb ∨ some k = (Value.slice (some ⟨go, 0, none⟩) n2 co).ownBlock ∨ some k = vu.ownBlock ∨ some k = vs.ownBlock) := ⟨hk.1, fun i hi hn => hk.2 i hi (fun e => hn (e.elim (fun e => .inr (.inl (congrArg some e))) (fun e => .inr (.inr e))))⟩
  have hM := h.mkept hk2
  refine ⟨rfl, h.lk hk2, ?_⟩
  rcases hcase with ⟨h0, rfl, rfl, rfl⟩ | ⟨h0, rfl, rfl, rfl⟩
  · exact .inl ⟨h0, hr, hO, hM, hr.b, by rw [List.length_set]; exact h.sl⟩
  · exact .inr ⟨h0, hr, hO, hM, hr.b, h.sl⟩
end
/-- a new task is alone -/
theorem Rts.add {w W : World} {gb n : Nat} {vu vs : Value} {side : List Bool} {rt : Nat → Nat} (h : Rts w W gb vu vs n side rt) (hs : side.length = n) (hb : n ≤ 8388600) :
    Calls Try.prog 56 #[.pointer (some ⟨gb, 0, none⟩)] W fun e W' => e = .returned (.int .i64 (n : Int)) ∧ ∃ vu' vs', Rts w W' gb vu' vs' (n + 1) (side ++ [false]) (fun z => if z < n then rt z else z) ∧ Kept W W' (fun k => k = gb ∨ some k = vu.ownBlock ∨ some k = vs.ownBlock) := by
  obtain ⟨up, h1, h2, h3⟩ := h
  refine (add_calls h3 h2 hs hb).mono ?_
  rintro e W' ⟨rfl, vu', vs', k1, k2⟩
  have hu := h1.add
  rw [h2] at hu
  exact ⟨rfl, vu', vs', ⟨_, hu, by rw [List.length_append, h2]; rfl, k1⟩, k2⟩
theorem WS.add {w W : World} {gb bs bf n ns nf : Nat} {vu vs vo : Value} {side : List Bool} {rt : Nat → Nat} {ts : List S83} {T : Int → Option (Int × Int)} {F : Int → Option Nat} (h : WS w W gb bs bf n ns nf vu vs vo side rt ts T F) (hb : n ≤ 8388600) :
    Calls Try.prog 56 #[.pointer (some ⟨gb, 0, none⟩)] W fun e W' => e = .returned (.int .i64 (n : Int)) ∧ ∃ vu' vs', WS w W' gb bs bf (n + 1) ns nf vu' vs' vo (side ++ [false]) (fun z => if z < n then rt z else z) ts T F ∧ LK W W' := by
  refine (h.R.add h.sl hb).mono ?_
  rintro e W' ⟨rfl, vu', vs', hr, hk⟩
  have hO : OR W' w.heap.size vo ts := h.O.kept hk (fun k e he => by
    obtain ⟨up, h1, h2, h3⟩ := h.R
    obtain ⟨c1, e1⟩ := own_typed h.O k e
    rcases he with he | he | he
    · subst he
      exact blk_ne e1 h3.bb (by decide) rfl
    · obtain ⟨c2, e2⟩ := Kd.R_typed h3.ru k he.symm
      exact blk_ne e1 e2 (by decide) rfl
    · obtain ⟨c2, e2⟩ := Kd.R_typed h3.rs k he.symm
      exact blk_ne e1 e2 (by decide) rfl)
  have hk2 : Kept W W' (fun k => k = gb ∨ some k = vo.ownBlock ∨ some k = vu.ownBlock ∨ some k = vs.ownBlock) := ⟨hk.1, fun i hi hn => hk.2 i hi (fun e => hn (e.elim .inl (fun e => .inr (.inr e))))⟩
  exact ⟨rfl, vu', vs', ⟨hr, hO, h.mkept hk2, hr.b, by rw [List.length_append, h.sl]; rfl⟩, h.lk hk2⟩
end Go.Proofs.Ytkecgjmbamaejaa.P
namespace Go.Proofs.Ytkecgjmbamaejaa.P
open Go.RowKit Go.Maps Go.Proofs.YtkecgjmbamaejaaW.PrintWords Go.Proofs.YtkecgjmbamaejaaW.PrintLast Go.Proofs.YtkecgjmbamaejaaW.PrintMore
set_option linter.unusedVariables false
section
variable {w W W' : World} {gb bs bf n ns nf : Nat} {vu vs vo : Value} {side : List Bool} {rt : Nat → Nat} {ts : List S83} {T : Int → Option (Int × Int)} {F : Int → Option Nat}
theorem WS.turned (h : WS w W gb bs bf n ns nf vu vs vo side rt ts T F) {b : Nat} (hg : W.grownBy W' (some b)) (hb : b = bs ∨ b = bf) (hw : w.heap.size ≤ b) : Rts w W' gb vu vs n side rt ∧ OR W' w.heap.size vo ts ∧ Below w.heap.size w W' := by
  obtain ⟨up, h1, h2, h3⟩ := h.R
  have ne : ∀ {k t : Nat} {cs : Array Value} {fr : Nat × Nat}, W.heap[k]? = some (.cells cs t fr) → some k ≠ some b := fun hk e => by
    injection e with e
    have := h.M.cells hk
    rcases hb with hb | hb
    · exact this.1 (e.trans hb)
    · exact this.2 (e.trans hb)
  have hB : Below w.heap.size w W' := h.B.grown hg (below_size h.B) (fun k e => by injection e with e; omega)
  refine ⟨⟨up, h1, h2, hB, blk_grown h3.bb hg (ne h3.bb), h3.nb, ?_, ?_⟩, ?_, hB⟩
  · exact Kd.R_mono (Kd.R_grown (Kd.R_tight rfl h3.ru) hg (fun k hk => by obtain ⟨c, e⟩ := Kd.R_typed h3.ru k hk.symm; exact ne e)) (fun _ _ => trivial)
  · exact Kd.R_mono (Kd.R_grown (Kd.R_tight rfl h3.rs) hg (fun k hk => by obtain ⟨c, e⟩ := Kd.R_typed h3.rs k hk.symm; exact ne e)) (fun _ _ => trivial)
  · exact h.O.block (fun k hk => by obtain ⟨c, e⟩ := own_typed h.O k hk; exact hg.block k (own_lt h.O k hk) (ne e))
/-- found[loc] = j -/
theorem WS.putF (h : WS w W gb bs bf n ns nf vu vs vo side rt ts T F) (hne : bs ≠ bf) (hw : w.heap.size ≤ bf) (hn : nf < maxLen) {x : Int} (hx : (Lit.int .i64 x).wf = true) {j : Nat} (hj : (Lit.int .i64 (j : Int)).wf = true) :
    ∃ D : DataW Unit, W.ownsMap Try.prog 2 (plainElem Try.prog 3) bf nf D ∧ ∀ W', W'.ownsMap Try.prog 2 (plainElem Try.prog 3) bf (nf + 1) (D.put (.int .i64 x) (.lit (.int .i64 (j : Int)))) → W.grownBy W' (some bf) →
      WS w W' gb bs bf n ns (nf + 1) vu vs vo side rt ts T (upd F x (some j)) := by
  obtain ⟨E, c, d⟩ := h.M.found
  refine ⟨E, c, fun W' hm hg => ?_⟩
  obtain ⟨k1, k2, k3⟩ := h.turned hg (.inr rfl) hw
  obtain ⟨D, a, b⟩ := h.M.seen
  exact ⟨k1, k2, ⟨⟨D, a.kept hg (fun e => hne (by injection e)), b⟩, ⟨_, hm, d.put x j⟩⟩, k3, h.sl⟩
/-- seen[loc] = p -/
theorem WS.putT (h : WS w W gb bs bf n ns nf vu vs vo side rt ts T F) (hne : bs ≠ bf) (hw : w.heap.size ≤ bs) (x : Int) (p : Int × Int) :
    ∃ D : DataW Unit, W.ownsMap Try.prog 2 tchR bs ns D ∧ ∀ W', W'.ownsMap Try.prog 2 tchR bs (ns + 1) (D.put (.int .i64 x) (tchD p)) → W.grownBy W' (some bs) →
      WS w W' gb bs bf n (ns + 1) nf vu vs vo side rt ts (upd T x (some p)) F := by
  obtain ⟨D, a, b⟩ := h.M.seen
  refine ⟨D, a, fun W' hm hg => ?_⟩
  obtain ⟨k1, k2, k3⟩ := h.turned hg (.inl rfl) hw
  obtain ⟨E, c, d⟩ := h.M.found
  exact ⟨k1, k2, ⟨⟨_, hm, b.put x p⟩, ⟨E, c.kept hg (fun e => hne (by injection e with e; exact e.symm)), d⟩⟩, k3, h.sl⟩
/-- delete(seen, loc) -/
theorem WS.delT (h : WS w W gb bs bf n ns nf vu vs vo side rt ts T F) (hne : bs ≠ bf) (hw : w.heap.size ≤ bs) (x : Int) :
    ∃ D : DataW Unit, W.ownsMap Try.prog 2 tchR bs ns D ∧ ∀ W', W'.ownsMap Try.prog 2 tchR bs ns (D.del (.int .i64 x)) → W.mapTurned W' bs →
      WS w W' gb bs bf n ns nf vu vs vo side rt ts (upd T x none) F := by
  obtain ⟨D, a, b⟩ := h.M.seen
  refine ⟨D, a, fun W' hm ht => ?_⟩
  have hg := ht.grown
  obtain ⟨k1, k2, k3⟩ := h.turned hg (.inl rfl) hw
  obtain ⟨E, c, d⟩ := h.M.found
  exact ⟨k1, k2, ⟨⟨_, hm, b.del x⟩, ⟨E, c.kept hg (fun e => hne (by injection e with e; exact e.symm)), d⟩⟩, k3, h.sl⟩
/-- a record joins the open tasks -/
theorem WS.push (h : WS w W gb bs bf n ns nf vu vs vo side rt ts T F) {v1 : Value} {t : S83} (hO : OR W' w.heap.size v1 (ts ++ [t])) (hb : Below w.heap.size w W') (hg : W.grownBy W' vo.ownBlock) : WS w W' gb bs bf n ns nf vu vs v1 side rt (ts ++ [t]) T F := by
  have ne : ∀ k, some k = vo.ownBlock → k ≠ bs ∧ k ≠ bf := fun k e => by
    obtain ⟨c, hc⟩ := own_typed h.O k e.symm
    exact h.M.cells hc
  exact ⟨h.R.grown h.O hb hg, hO, h.M.kept hg (fun e => (ne _ e).1 rfl) (fun e => (ne _ e).2 rfl), hb, h.sl⟩
end
end Go.Proofs.Ytkecgjmbamaejaa.P
namespace Go.Proofs.Ytkecgjmbamaejaa.P
open Go.RowKit Go.Maps Go.Proofs.YtkecgjmbamaejaaW.PrintWords Go.Proofs.YtkecgjmbamaejaaW.PrintLast Go.Proofs.YtkecgjmbamaejaaW.PrintMore
set_option linter.unusedVariables false
theorem UF.none : UF [] (fun z => z) := ⟨fun x hx => absurd hx (Nat.not_lt_zero _), fun x hx => absurd hx (Nat.not_lt_zero _), fun x hx => rfl, fun z => z, fun x u hu _ => by simp at hu⟩
/-- the bags, new -/
theorem Rts.new (w : World) : Rts w (w.alloc (.cells #[.slice none 0 0, .slice none 0 0] 80)) w.heap.size (.slice none 0 0) (.slice none 0 0) 0 [] (fun z => z) := by
  have h2 : (w.alloc (.cells #[Value.slice none 0 0, .slice none 0 0] 80)).heap[w.heap.size]? = some (.cells #[.slice none 0 0, .slice none 0 0] 80 (0, 0)) := by
    have h := heap_alloc_new w (.cells #[Value.slice none 0 0, .slice none 0 0] 80)
    first | exact h | simpa using h
  exact ⟨[], UF.none, rfl, below_alloc (Below.refl _ _) _, h2, Nat.le_refl _, Kd.R_nil _ _ _ _ _, Kd.R_nil _ _ _ _ _⟩
/-- the first task's row -/
theorem OR.new {w W : World} (hb : w.heap.size ≤ W.heap.size) (t : S83) : OR (W.alloc (.cells #[.int .i64 t.own, .int .i64 t.bes] 83)) w.heap.size (.slice (some ⟨W.heap.size, 0, none⟩) 1 1) [t] := by
  have h2 : (W.alloc (.cells #[Value.int .i64 t.own, .int .i64 t.bes] 83)).heap[W.heap.size]? = some (.cells #[.int .i64 t.own, .int .i64 t.bes] 83 (0, 0)) := by
    have h := heap_alloc_new W (.cells #[Value.int .i64 t.own, .int .i64 t.bes] 83)
    first | exact h | simpa using h
  exact ⟨rfl, .inr ⟨W.heap.size, 1, _, rfl, hb, h2, Nat.le_refl _, by simp [maxLen], rfl, by simp [flatT, tkL]⟩⟩
/-- the two maps, new -/
theorem TwoMaps.new (W : World) : TwoMaps ((W.alloc (.map #[] 0)).alloc (.map #[] 0)) W.heap.size (W.heap.size + 1) 0 0 (fun _ => none) (fun _ => none) := by
  refine ⟨⟨.map [], (World.ownsMap_made W Try.prog 2 tchR).alloc _, FM.empty _⟩, ⟨.map [], ?_, FM.empty _⟩⟩
  have h := World.ownsMap_made (H := Unit) (W.alloc (.map #[] 0)) Try.prog 2 (plainElem Try.prog 3)
  have e : (W.alloc (.map #[] 0)).heap.size = W.heap.size + 1 := by simp
  rwa [e] at h
end Go.Proofs.Ytkecgjmbamaejaa.P
namespace Go.Proofs.Ytkecgjmbamaejaa.P
open Go.RowKit Go.Maps Go.Proofs.YtkecgjmbamaejaaW.PrintWords Go.Proofs.YtkecgjmbamaejaaW.PrintLast Go.Proofs.YtkecgjmbamaejaaW.PrintMore
set_option linter.unusedVariables false
section
variable {w W W' : World} {gb bs bf n ns nf n' ns' nf' : Nat} {vu vs vo vu' vs' vo' : Value} {side side' : List Bool} {rt rt' : Nat → Nat} {ts ts' : List S83} {T T' : Int → Option (Int × Int)} {F F' : Int → Option Nat} {L : List (Nat × Array Value × TypeId)}
theorem WS.lkG (h : WS w W gb bs bf n ns nf vu vs vo side rt ts T F) {row : Option Nat} (hg : W.grownBy W' row) (hr : row = some bs ∨ row = some bf ∨ row = vo.ownBlock) : LK W W' := by
  intro k t cs hc ht
  refine hg.block k (blk_lt hc) (fun e => ?_)
  rcases hr with rfl | rfl | rfl
  · injection e with e
    exact (h.M.cells hc).1 e
  · injection e with e
    exact (h.M.cells hc).2 e
  · obtain ⟨c, e2⟩ := own_typed h.O k e.symm
    exact blk_ne hc e2 (by rcases ht with rfl | rfl <;> decide) rfl
structure WB (w W : World) (gb bs bf n ns nf : Nat) (vu vs vo : Value) (side : List Bool) (rt : Nat → Nat) (ts : List S83) (T : Int → Option (Int × Int)) (F : Int → Option Nat) (L : List (Nat × Array Value × TypeId)) : Prop where
  S : WS w W gb bs bf n ns nf vu vs vo side rt ts T F
  C : Locs w W L
  ty : ∀ b ∈ L, b.2.2 = 52 ∨ b.2.2 = 91
theorem WB.turn (h : WB w W gb bs bf n ns nf vu vs vo side rt ts T F L) (S' : WS w W' gb bs bf n' ns' nf' vu' vs' vo' side' rt' ts' T' F') (hk : LK W W') : WB w W' gb bs bf n' ns' nf' vu' vs' vo' side' rt' ts' T' F' L :=
  ⟨S', ⟨S'.B, fun b hb => (hk b.1 _ _ (h.C.blk b hb) (h.ty b hb)).trans (h.C.blk b hb), h.C.new, h.C.apart⟩, h.ty⟩
theorem WB.step (h : WB w W gb bs bf n ns nf vu vs vo side rt ts T F L) (k : Below W.heap.size W W') : WB w W' gb bs bf n ns nf vu vs vo side rt ts T F L := ⟨h.S.below k, h.C.step k, h.ty⟩
theorem WB.drew (h : WB w W gb bs bf n ns nf vu vs vo side rt ts T F L) : WB w W.drew gb bs bf n ns nf vu vs vo side rt ts T F L := h.step (below_drew (Below.refl _ _))
theorem WB.drewN (h : WB w W gb bs bf n ns nf vu vs vo side rt ts T F L) (m : Nat) : WB w (W.drewN m) gb bs bf n ns nf vu vs vo side rt ts T F L := h.step (pw_below_drewN (Below.refl _ _) m)
theorem WB.alloc (h : WB w W gb bs bf n ns nf vu vs vo side rt ts T F L) (cs : Array Value) {t : TypeId} (ht : t = 52 ∨ t = 91) : WB w (W.alloc (.cells cs t (0, 0))) gb bs bf n ns nf vu vs vo side rt ts T F ((W.heap.size, cs, t) :: L) :=
  ⟨h.S.below (below_alloc (Below.refl _ _) _), h.C.alloc cs t, fun b hb => by
    rcases List.mem_cons.1 hb with rfl | hb
    · exact ht
    · exact h.ty b hb⟩
theorem WB.sub (h : WB w W gb bs bf n ns nf vu vs vo side rt ts T F L) {L' : List (Nat × Array Value × TypeId)} (hs : L'.Sublist L) : WB w W gb bs bf n ns nf vu vs vo side rt ts T F L' := ⟨h.S, h.C.sub hs, fun b hb => h.ty b (hs.subset hb)⟩
/-- a store into a record of the walk's own -/
theorem WS.far (h : WS w W gb bs bf n ns nf vu vs vo side rt ts T F) {g : Nat} {t : TypeId} {cs : Array Value} (hc : W.heap[g]? = some (.cells cs t (0, 0))) (ht : t = 52 ∨ t = 91) (hw : w.heap.size ≤ g) (q : Nat) (u : Value) : WS w (W.setCell ⟨g, q, none⟩ u) gb bs bf n ns nf vu vs vo side rt ts T F := by
  obtain ⟨up, h1, h2, h3⟩ := h.R
  have hB : Below w.heap.size w (W.setCell ⟨g, q, none⟩ u) := below_set h3.below hw
  have hsame : ∀ k, k ≠ g → (W.setCell ⟨g, q, none⟩ u).heap[k]? = W.heap[k]? := fun k hk => Below.heap_setCell W ⟨g, q, none⟩ u k hk
  have ng : gb ≠ g := fun e => blk_ne hc h3.bb (by rcases ht with rfl | rfl <;> decide) e.symm
  have nm := h.M.cells hc
  refine ⟨⟨up, h1, h2, hB, (hsame gb ng).trans h3.bb, h3.nb, ?_, ?_⟩, ?_, h.M.block (hsame _ (fun e => nm.1 e.symm)) (hsame _ (fun e => nm.2 e.symm)), hB, h.sl⟩
  · exact Kd.R_mono (Kd.R_far (p := ⟨g, q, none⟩) (Kd.R_tight rfl h3.ru) (fun k hk e => by
      obtain ⟨c, e2⟩ := Kd.R_typed h3.ru k hk.symm
      exact blk_ne hc e2 (by rcases ht with rfl | rfl <;> decide) (by first | exact e.symm | exact e)) u) (fun _ _ => trivial)
  · exact Kd.R_mono (Kd.R_far (p := ⟨g, q, none⟩) (Kd.R_tight rfl h3.rs) (fun k hk e => by
      obtain ⟨c, e2⟩ := Kd.R_typed h3.rs k hk.symm
      exact blk_ne hc e2 (by rcases ht with rfl | rfl <;> decide) (by first | exact e.symm | exact e)) u) (fun _ _ => trivial)
  · refine h.O.block (fun k e => hsame k (fun e3 => ?_))
    obtain ⟨c, e2⟩ := own_typed h.O k e
    exact blk_ne hc e2 (by rcases ht with rfl | rfl <;> decide) e3.symm
theorem WB.set (h : WB w W gb bs bf n ns nf vu vs vo side rt ts T F L) (i : Nat) {g : Nat} {cs : Array Value} {t : TypeId} (hi : L[i]? = some (g, cs, t)) (j : Nat) (v : Value) : WB w (W.setCell ⟨g, j, none⟩ v) gb bs bf n ns nf vu vs vo side rt ts T F (L.set i (g, cs.setIfInBounds j v, t)) :=
  have hm := h.ty _ (List.mem_of_getElem? hi)
  ⟨h.S.far (h.C.at i hi) hm (h.C.ge i hi) j v, h.C.set i hi j v, fun b hb => by
    rcases List.mem_or_eq_of_mem_set hb with hb | rfl
    · exact h.ty b hb
    · exact hm⟩
end
section
variable {P : Program} {ops : Array Oper} {rest : List Oper} {o : Oper} {a : Act} {Q : Exit → Act → World → Prop}
theorem box_WB {w W : World} {gb bs bf n ns nf : Nat} {vu vs vo : Value} {side : List Bool} {rt : Nat → Nat} {ts : List S83} {T : Int → Option (Int × Int)} {F : Int → Option Nat} {L : List (Nat × Array Value × TypeId)} (HL : WB w W gb bs bf n ns nf vu vs vo side rt ts T F L) (hgd : o.guard = none) {N : Tmp} (_hd : o.dst = some N) {cs : Array Value} {t : TypeId}
    (hrun : (execOp a.eval o).run P W = .ok (.value (.pointer (some ⟨W.heap.size, 0, none⟩))) (W.alloc (.cells cs t (0, 0))))
    (h : ∀ g w1, Aside0 (WB w w1 gb bs bf n ns nf vu vs vo side rt ts T F ((g, cs, t) :: L)) → wpList P ops Q rest (a.put o.dst (.pointer (some ⟨g, 0, none⟩))) w1) (ht : t = 52 ∨ t = 91 := by decide) : wpList P ops Q (o :: rest) a W :=
  Kd.event_run hgd hrun (h _ _ ⟨HL.alloc cs ht⟩)
end
end Go.Proofs.Ytkecgjmbamaejaa.P
namespace Go.Proofs.Ytkecgjmbamaejaa.P
open Go.RowKit
set_option linter.unusedVariables false
theorem cnt_le (ks : List Int) : ∀ i, cnt ks i ≤ i + 1
  | 0 => Nat.le_refl _
  | i + 1 => by
    have := cnt_le ks i
    show (if ks.getD i 0 = 0 then cnt ks i + 1 else cnt ks i) ≤ _
    split <;> omega
theorem stepF_len (k : Int) (n : Nat) (fs : List Fr) : (stepF k n fs).length ≤ fs.length + 1 := by
  unfold stepF
  cases fs with
  | nil => simp
  | cons f r =>
    simp only
    split
    · simp
    · split
      · cases r <;> simp
      · split <;> simp
theorem frs_leB (ks : List Int) : ∀ i, (frs ks i).length ≤ i + 1
  | 0 => Nat.le_refl _
  | i + 1 => Nat.le_trans (stepF_len _ _ _) (by have := frs_leB ks i; omega)
theorem recs_len {ts : List S83} {fs : List Fi} (h : Recs ts fs) : ts.length = fs.length := by
  induction h with
  | nil => rfl
  | cons h hs ih => simp [ih]
structure PI (ks ls : List Int) (i n ns nf n2 : Nat) (side : List Bool) (rt : Nat → Nat) (ts : List S83) (T : Int → Option (Int × Int)) (F : Int → Option Nat) : Prop where
  gj : GJ ks i side rt ts.reverse
  wi : WI ks ls i F T
  hn : n = cnt ks i
  hs : ns ≤ i
  hf : nf ≤ i
  hl : ts.length = n2
theorem rev_top {α : Type} {ts : List α} {t : α} {r : List α} (h : ts.reverse = t :: r) : ts = r.reverse ++ [t] := by
  rw [← List.reverse_reverse ts, h, List.reverse_cons]
theorem rev_mod {α : Type} (f : α → α) (t : α) (r : List α) : ((r.reverse ++ [t]).modify r.length f).reverse = f t :: r := by
  have e : (r.reverse ++ [t]).modify r.length f = r.reverse ++ [f t] := by
    have h : r.length = r.reverse.length + 0 := by simp
    rw [h]
    generalize r.reverse = q
    induction q with
    | nil => rfl
    | cons x q ih =>
      simp only [List.cons_append, List.length_cons, Nat.add_zero, List.modify_succ_cons] at ih ⊢
      rw [ih]
  rw [e, List.reverse_append, List.reverse_reverse]
  rfl
section
variable {ks ls : List Int} {i n ns nf n2 : Nat} {side : List Bool} {rt : Nat → Nat} {ts : List S83} {T : Int → Option (Int × Int)} {F : Int → Option Nat}
theorem PI.n_le (h : PI ks ls i n ns nf n2 side rt ts T F) : n ≤ i + 1 := h.hn ▸ cnt_le ks i
theorem PI.n2_le (h : PI ks ls i n ns nf n2 side rt ts T F) : n2 ≤ i + 1 := by
  have h1 := recs_len h.gj.recs
  rw [List.length_reverse, h.hl, fis_len] at h1
  have := frs_leB ks i
  omega
theorem recs_at {ts : List S83} {fs : List Fi} (h : Recs ts fs) : ∀ (k : Nat) (t : S83), ts[k]? = some t → ∃ f, fs[k]? = some f ∧ Rec t f := by
  induction h with
  | nil => intro k t e; simp at e
  | cons h hs ih =>
    intro k t e
    cases k with
    | zero => simp at e; subst e; exact ⟨_, rfl, h⟩
    | succ k => simp at e ⊢; exact ih k t e
/-- what any record says -/
theorem PI.recd (h : PI ks ls i n ns nf n2 side rt ts T F) {m : Nat} {t : S83} (ht : ts[m]? = some t) : ∃ x : Nat, t.own = (x : Int) ∧ x < n ∧ t.bes < (n : Int) ∧ (t.bes < 0 → t.bes = -1) := by
  have hm := (List.getElem?_eq_some_iff.1 ht).1
  have hr : ts.reverse[ts.length - 1 - m]? = some t := by
    rw [List.getElem?_reverse (by omega), ← ht]
    congr 1
    omega
  obtain ⟨f, hf, h1, h2⟩ := recs_at h.gj.recs _ t hr
  have hmem : f ∈ fis ks i := List.mem_of_getElem? hf
  have hin := fis_in ks i f hmem
  refine ⟨f.own, h1, ?_, ?_, ?_⟩
  · rw [h.hn]; exact hin.1 _ (own_all ks i f hmem)
  · rcases h2 with ⟨-, e⟩ | ⟨y, hy, e⟩
    · rw [e]; omega
    · rw [e, h.hn]; exact_mod_cast hin.2 y hy
  · rcases h2 with ⟨-, e⟩ | ⟨y, hy, e⟩
    · exact fun _ => e
    · intro hl; omega
theorem PI.top (h : PI ks ls i n ns nf n2 side rt ts T F) : ∃ (m : Nat) (t : S83), n2 = m + 1 ∧ ts[m]? = some t ∧ t.own = (tk ks i : Int) ∧ ts.reverse = t :: (ts.take m).reverse := by
  cases hr : ts.reverse with
  | nil =>
    have h1 := recs_len h.gj.recs
    rw [hr] at h1
    exact absurd (List.eq_nil_of_length_eq_zero h1.symm) (fis_ne ks i)
  | cons t r =>
    have e := rev_top hr
    have hl := h.hl
    rw [e, List.length_append, List.length_reverse] at hl
    have hg := h.gj.recs
    rw [hr] at hg
    refine ⟨r.length, t, hl.symm, by rw [e, List.getElem?_append_right (by simp)]; simp, ?_, by rw [e, List.take_left' (by simp), List.reverse_reverse]⟩
    unfold tk
    cases hf : fis ks i with
    | nil => exact absurd hf (fis_ne ks i)
    | cons f fs =>
      rw [hf] at hg
      cases hg with
      | cons h1 h2 => exact h1.1
theorem PI.spawn (h : PI ks ls i n ns nf n2 side rt ts T F) (hk : ks.getD i 0 = 0) : PI ks ls (i + 1) (n + 1) ns nf (n2 + 1) (side ++ [false]) (fun z => if z < n then rt z else z) (ts ++ [⟨(n : Int), -1⟩]) T F := by
  have hs := h.hs
  have hf := h.hf
  refine ⟨?_, h.wi.skip (by omega), ?_, by omega, by omega, by rw [List.length_append, h.hl]; rfl⟩
  · rw [List.reverse_append, h.hn]
    exact h.gj.spawn hk
  · rw [h.hn]
    show _ = (if ks.getD i 0 = 0 then cnt ks i + 1 else cnt ks i)
    rw [if_pos hk]
theorem cnt_other (h : ks.getD i 0 ≠ 0) : cnt ks (i + 1) = cnt ks i := by
  show (if ks.getD i 0 = 0 then cnt ks i + 1 else cnt ks i) = _
  rw [if_neg h]
theorem PI.sync (h : PI ks ls i n ns nf n2 side rt ts T F) (hk : ks.getD i 0 = 2) {m x : Nat} {t : S83} (hm : n2 = m + 1) (ht : ts[m]? = some t) (hx : t.own = (x : Int)) :
    PI ks ls (i + 1) n ns nf n2 side (waitRt rt x t.bes) (ts.modify m (fun t => { t with bes := -1 })) T F := by
  have hs := h.hs
  have hf := h.hf
  obtain ⟨m', t', e1, e2, -, e4⟩ := h.top
  have em : m' = m := by omega
  subst em
  rw [ht] at e2
  injection e2 with e2
  subst e2
  have hg := h.gj
  rw [e4] at hg
  refine ⟨?_, h.wi.skip (by omega), by rw [h.hn, cnt_other (by omega)], by omega, by omega, by rw [List.length_modify, h.hl]⟩
  have e5 := rev_top e4
  have e6 : (ts.take m').reverse.length = m' := by rw [List.length_reverse, List.length_take, h.hl]; omega
  have e7 := rev_mod (fun t : S83 => { t with bes := -1 }) t (ts.take m').reverse
  rw [← e5, e6] at e7
  rw [e7]
  exact hg.wait hk hx
theorem PI.back (h : PI ks ls i n ns nf n2 side rt ts T F) (hfr : fair ks) (hi : i < ks.length) (hk : ks.getD i 0 = 1) : ∃ (m x : Nat) (u c : S83), n2 = (m + 1) + 1 ∧ ts[m]? = some u ∧ ts[m + 1]? = some c ∧ c.own = (x : Int) ∧ x < n ∧
    (u.bes < 0 → PI ks ls (i + 1) n ns nf (m + 1) (side.set (waitRt rt x c.bes x) true) (waitRt rt x c.bes) ((ts.modify m (fun t => { t with bes := (x : Int) })).take (m + 1)) T F) ∧
    (¬ u.bes < 0 → PI ks ls (i + 1) n ns nf (m + 1) side (fun z => if waitRt rt x c.bes z = waitRt rt x c.bes x then waitRt rt x c.bes u.bes.toNat else waitRt rt x c.bes z) (ts.take (m + 1)) T F) := by
  have hs := h.hs
  have hf := h.hf
  have hlen : 2 ≤ ts.length := by
    have h1 := recs_len h.gj.recs
    rw [List.length_reverse, fis_len] at h1
    have := hfr i hi hk
    omega
  obtain ⟨m1, c, e1, e2, e3, e4⟩ := h.top
  have hl := h.hl
  obtain ⟨m, rfl⟩ : ∃ m, m1 = m + 1 := ⟨m1 - 1, by omega⟩
  cases hr : (ts.take (m + 1)).reverse with
  | nil =>
    have := congrArg List.length hr
    rw [List.length_reverse, List.length_take] at this
    simp only [List.length_nil] at this
    omega
  | cons u r =>
    have e5 := rev_top hr
    have e6 : r.length = m := by
      have := congrArg List.length hr
      rw [List.length_reverse, List.length_take, List.length_cons] at this
      omega
    have hu : ts[m]? = some u := by
      have : (ts.take (m + 1))[m]? = some u := by rw [e5, List.getElem?_append_right (by simp [e6])]; simp [e6]
      rwa [List.getElem?_take_of_lt (by omega)] at this
    obtain ⟨x, hx, hxn, -, -⟩ := h.recd e2
    have hg := h.gj
    rw [e4, hr] at hg
    obtain ⟨g1, g2⟩ := hg.back hk hx
    refine ⟨m, x, u, c, e1, hu, e2, hx, hxn, fun hb => ⟨?_, h.wi.skip (by omega), by rw [h.hn, cnt_other (by omega)], by omega, by omega, ?_⟩, fun hb => ⟨?_, h.wi.skip (by omega), by rw [h.hn, cnt_other (by omega)], by omega, by omega, ?_⟩⟩
    · have e7 := rev_mod (fun t : S83 => { t with bes := (x : Int) }) u r
      rw [← e5, e6] at e7
      have e8 : (ts.modify m (fun t => { t with bes := (x : Int) })).take (m + 1) = (ts.take (m + 1)).modify m (fun t => { t with bes := (x : Int) }) := by
        apply List.ext_getElem?
        intro j
        by_cases hj : j < m + 1
        · rw [List.getElem?_take_of_lt hj, List.getElem?_modify, List.getElem?_modify, List.getElem?_take_of_lt hj]
        · rw [List.getElem?_eq_none, List.getElem?_eq_none]
          · rw [List.length_modify, List.length_take]
            omega
          · rw [List.length_take]
            omega
      rw [e8, e7]
      exact g1 hb
    · rw [List.length_take, List.length_modify]; omega
    · rw [hr]; exact g2 hb
    · rw [List.length_take]; omega
theorem PI.same (h : PI ks ls i n ns nf n2 side rt ts T F) (h3 : 3 ≤ ks.getD i 0) {ns' nf' : Nat} {T' : Int → Option (Int × Int)} {F' : Int → Option Nat} (hw : WI ks ls (i + 1) F' T') (h1 : ns' ≤ i + 1) (h2 : nf' ≤ i + 1) : PI ks ls (i + 1) n ns' nf' n2 side rt ts T' F' :=
  ⟨h.gj.skip (by omega) (by omega) (by omega), hw, by rw [h.hn, cnt_other (by omega)], h1, h2, h.hl⟩
theorem PI.known (h : PI ks ls i n ns nf n2 side rt ts T F) (h3 : 3 ≤ ks.getD i 0) {j : Nat} (hj : F (ls.getD i 0) = some j) : PI ks ls (i + 1) n ns nf n2 side rt ts T F :=
  h.same h3 (h.wi.known hj) (by have := h.hs; omega) (by have := h.hf; omega)
/-- what beside is asked of a task, and answers -/
def BS (n : Nat) (side : List Bool) (rt : Nat → Nat) (a : Int) (b : Bool) : Prop := (a < 0 ∧ b = false) ∨ ∃ x : Nat, a = (x : Int) ∧ x < n ∧ side[rt x]? = some b
theorem PI.bs (h : PI ks ls i n ns nf n2 side rt ts T F) (hfr : fair ks) (hi : i < ks.length) (h3 : 3 ≤ ks.getD i 0) {o : Option Nat} (ho : ∀ j, o = some j → j < i) : ∃ b, BS n side rt (otk ks o) b ∧ (b = true ↔ Beside ks o i) := by
  rcases h.gj.beside hfr hi h3 ho with ⟨-, e, hb⟩ | ⟨x, b, e, h1, h2, h4⟩
  · exact ⟨false, .inl ⟨by rw [e]; decide, rfl⟩, ⟨fun h => (by cases h), fun h => absurd h hb⟩⟩
  · exact ⟨b, .inr ⟨x, e, by rw [h.hn]; exact h1, h2⟩, h4⟩
theorem PI.deed (h : PI ks ls i n ns nf n2 side rt ts T F) (hfr : fair ks) (hi : i < ks.length) (hk : ks.getD i 0 = 3 ∨ ks.getD i 0 = 4) (hall : ∀ j, j < i → ks.getD j 0 ≤ 4) (hF : F (ls.getD i 0) = none) :
    ∃ (a b : Int) (ba bb : Bool), (T (ls.getD i 0)).getD (-1, -1) = (a, b) ∧ BS n side rt a ba ∧ BS n side rt b bb ∧
      ((ba = true ∨ (ks.getD i 0 = 4 ∧ bb = true)) → PI ks ls (i + 1) n ns (nf + 1) n2 side rt ts (upd T (ls.getD i 0) none) (upd F (ls.getD i 0) (some i))) ∧
      (ba = false → ks.getD i 0 = 4 → bb = false → PI ks ls (i + 1) n (ns + 1) nf n2 side rt ts (upd T (ls.getD i 0) (some ((tk ks i : Int), b))) F) ∧
      (ba = false → ks.getD i 0 = 3 → bb = false → PI ks ls (i + 1) n (ns + 1) nf n2 side rt ts (upd T (ls.getD i 0) (some (a, (tk ks i : Int)))) F) ∧
      (ba = false → ks.getD i 0 = 3 → bb = true → PI ks ls (i + 1) n (ns + 1) nf n2 side rt ts (upd T (ls.getD i 0) (some (a, b))) F) := by
  have h3 : 3 ≤ ks.getD i 0 := by omega
  have hs := h.hs
  have hf := h.hf
  obtain ⟨w, r, e1, e2, e3, e4, c1, c2, c3⟩ := h.wi.deed hfr hi hk hall hF
  obtain ⟨ba, k1, k2⟩ := h.bs hfr hi h3 e2
  obtain ⟨bb, k3, k4⟩ := h.bs hfr hi h3 e3
  refine ⟨_, _, ba, bb, e1, k1, k3, fun hq => ?_, fun hb h4 hb2 => ?_, fun hb h3' hb2 => ?_, fun hb h3' hb2 => ?_⟩
  · refine h.same h3 (h.wi.racy hF (e4.2 ?_)) (by omega) (by omega)
    rcases hq with hq | ⟨h4, hq⟩
    · exact .inl (k2.1 hq)
    · exact .inr ⟨h4, k4.1 hq⟩
  · refine h.same h3 (c1 (fun hq => ?_) h4) (by omega) (by omega)
    rcases e4.1 hq with hq | ⟨-, hq⟩
    · rw [k2.2 hq] at hb; cases hb
    · rw [k4.2 hq] at hb2; cases hb2
  · refine h.same h3 (c2 (fun hq => ?_) h3' (fun hq => by rw [k4.2 hq] at hb2; cases hb2)) (by omega) (by omega)
    rcases e4.1 hq with hq | ⟨h4, hq⟩
    · rw [k2.2 hq] at hb; cases hb
    · omega
  · refine h.same h3 (c3 (fun hq => ?_) h3' (k4.1 hb2)) (by omega) (by omega)
    rcases e4.1 hq with hq | ⟨h4, hq⟩
    · rw [k2.2 hq] at hb; cases hb
    · omega
end
theorem PI.zero (ks ls : List Int) : PI ks ls 0 1 0 0 1 [false] (fun z => z) [⟨0, -1⟩] (fun _ => none) (fun _ => none) :=
  ⟨GJ.zero ks, WI.zero ks ls, rfl, Nat.le_refl _, Nat.le_refl _, rfl⟩
end Go.Proofs.Ytkecgjmbamaejaa.P
namespace Go.Proofs.Ytkecgjmbamaejaa.P
open Go.RowKit Go.Maps Go.Proofs.YtkecgjmbamaejaaW.PrintWords Go.Proofs.YtkecgjmbamaejaaW.PrintLast Go.Proofs.YtkecgjmbamaejaaW.PrintMore
set_option linter.unusedVariables false
theorem zero3 (w : World) : (zeroValue 3).run Try.prog w = .ok (.int .i64 0) w := by kernel_rfl
theorem zero91 (w : World) : (zeroValue 91).run Try.prog w = .ok (.agg #[.int .i64 0, .int .i64 0]) w := by kernel_rfl
section
variable {ops : Array Oper} {rest : List Oper} {o : Oper} {a : Act} {Q : Exit → Act → World → Prop}
variable {w W : World} {gb bs bf n ns nf : Nat} {vu vs vo : Value} {side : List Bool} {rt : Nat → Nat} {ts : List S83} {T : Int → Option (Int × Int)} {F : Int → Option Nat} {L : List (Nat × Array Value × TypeId)}
theorem wb_lookF (H : WB w W gb bs bf n ns nf vu vs vo side rt ts T F L) {x : Int} (hx : (Lit.int .i64 x).wf = true) (hg : o.guard = none) (m y : Operand) (hop : o.op = .lookup 69 m y true) (hm : a.eval m = .map (some bf)) (hy : a.eval y = .int .i64 x) (b : Bool) (hb : (F x).isSome = b)
    (hK : ∀ c : Int, wpList Try.prog ops Q rest (a.put o.dst (.tuple #[.int .i64 c, .bool b])) W) : wpList Try.prog ops Q (o :: rest) a W := by
  obtain ⟨E, c, d⟩ := H.S.M.found
  refine wpList_lookup_own_ok_int W hg m y 69 hop 2 3 .i64 locLaw Try.underlying69 Try.underlying3 (zero3 W) bf nf E hm c _ _ hy (locKey hx) (fun q _ _ => ?_)
  rw [d.has, hb]
  exact hK q
theorem wb_lookT (H : WB w W gb bs bf n ns nf vu vs vo side rt ts T F L) {x : Int} (hx : (Lit.int .i64 x).wf = true) (hg : o.guard = none) (m y : Operand) (hop : o.op = .lookup 85 m y true) (hm : a.eval m = .map (some bs)) (hy : a.eval y = .int .i64 x) (b : Bool) (p q : Int) (hb : (T x).isSome = b) (hp : (T x).getD (0, 0) = (p, q))
    (hK : wpList Try.prog ops Q rest (a.put o.dst (.tuple #[.agg #[.int .i64 p, .int .i64 q], .bool b])) W) : wpList Try.prog ops Q (o :: rest) a W := by
  obtain ⟨D, c, d⟩ := H.S.M.seen
  refine wpList_lookup_own_ok W hg m y 85 hop 2 91 locLaw Try.underlying85 tchR (zero91 W) (tchD (0, 0)) [] (tchR_mk 0 0) bs ns D hm c _ _ hy (locKey hx) (fun v ps hv => ?_)
  rw [d.has, hb]
  rw [d.look] at hv
  have e : v = .agg #[.int .i64 p, .int .i64 q] := by
    cases ht : T x with
    | none =>
      rw [ht] at hv hp
      simp only [Option.map_none, Option.getD_none] at hv hp
      have := tchR_inv hv
      rw [hp] at this
      exact this
    | some r =>
      rw [ht] at hv hp
      simp only [Option.map_some, Option.getD_some] at hv hp
      have := tchR_inv hv
      rw [hp] at this
      exact this
  rw [e]
  exact hK
theorem wb_putF (H : WB w W gb bs bf n ns nf vu vs vo side rt ts T F L) (hne : w.heap.size ≤ bs ∧ w.heap.size ≤ bf ∧ bs ≠ bf) (hn : nf < maxLen) {x : Int} (hx : (Lit.int .i64 x).wf = true) (j : Nat) (hj : (j : Int) ≤ 4096) (hg : o.guard = none) (m y v : Operand) (hop : o.op = .mapUpdate 69 m y v) (hm : a.eval m = .map (some bf)) (hy : a.eval y = .int .i64 x) (hv : a.eval v = .int .i64 (j : Int))
    (hK : ∀ W', WB w W' gb bs bf n ns (nf + 1) vu vs vo side rt ts T (upd F x (some j)) L → wpList Try.prog ops Q rest (a.put o.dst undef) W') : wpList Try.prog ops Q (o :: rest) a W := by
  have hjw : (Lit.int .i64 (j : Int)).wf = true := WalkArith.wf_i64 (by omega)
  obtain ⟨E, h1, h2⟩ := H.S.putF hne.2.2 hne.2.1 hn hx hjw
  exact wpList_mapUpdate_own W hg m y v 69 hop 2 3 locLaw Try.underlying69 _ bf nf E hm h1 hn _ _ _ hy hv (locKey hx) _ [] (plainElem_int Try.underlying3 hjw) (fun W' h3 h4 => hK W' (H.turn (h2 W' h3 h4) (H.S.lkG h4 (.inr (.inl rfl)))))
theorem wb_putT (H : WB w W gb bs bf n ns nf vu vs vo side rt ts T F L) (hne : w.heap.size ≤ bs ∧ w.heap.size ≤ bf ∧ bs ≠ bf) (hn : ns < maxLen) {x : Int} (hx : (Lit.int .i64 x).wf = true) (p q : Int) (hg : o.guard = none) (m y v : Operand) (hop : o.op = .mapUpdate 85 m y v) (hm : a.eval m = .map (some bs)) (hy : a.eval y = .int .i64 x) (hv : a.eval v = .agg #[.int .i64 p, .int .i64 q])
    (hK : ∀ W', WB w W' gb bs bf n (ns + 1) nf vu vs vo side rt ts (upd T x (some (p, q))) F L → wpList Try.prog ops Q rest (a.put o.dst undef) W') : wpList Try.prog ops Q (o :: rest) a W := by
  obtain ⟨D, h1, h2⟩ := H.S.putT hne.2.2 hne.1 x (p, q)
  exact wpList_mapUpdate_own W hg m y v 85 hop 2 91 locLaw Try.underlying85 _ bs ns D hm h1 hn _ _ _ hy hv (locKey hx) _ [] (tchR_mk p q) (fun W' h3 h4 => hK W' (H.turn (h2 W' h3 h4) (H.S.lkG h4 (.inl rfl))))
theorem wb_delT (H : WB w W gb bs bf n ns nf vu vs vo side rt ts T F L) (hne : w.heap.size ≤ bs ∧ w.heap.size ≤ bf ∧ bs ≠ bf) {x : Int} (hx : (Lit.int .i64 x).wf = true) (hg : o.guard = none) (m y : Operand) (hop : o.op = .call { callee := .builtin .delete, args := #[m, y], argTypes := #[85, 2] }) (hm : a.eval m = .map (some bs)) (hy : a.eval y = .int .i64 x)
    (hK : ∀ W', WB w W' gb bs bf n ns nf vu vs vo side rt ts (upd T x none) F L → wpList Try.prog ops Q rest (a.put o.dst (.tuple #[])) W') : wpList Try.prog ops Q (o :: rest) a W := by
  obtain ⟨D, h1, h2⟩ := H.S.delT hne.2.2 hne.1 x
  exact wpList_delete_own W hg m y 85 2 hop 91 locLaw Try.underlying85 _ bs ns D hm h1 _ _ hy (locKey hx) (fun W' h3 h4 => hK W' (H.turn (h2 W' h3 h4) (H.S.lkG h4.grown (.inl rfl))))
theorem wb_app (H : WB w W gb bs bf n ns nf vu vs vo side rt ts T F L) (hg : o.guard = none) (s y : Operand) (hop : o.op = .call { callee := .builtin .append, args := #[s, y], argTypes := #[84, 84] }) (hs : a.eval s = vo) (t : S83) (hy : a.eval y = .slice (some ⟨W.heap.size, 0, none⟩) 1 1) (hl : ts.length ≤ 8388608)
    (hK : ∀ g c W', WB w W' gb bs bf n ns nf vu vs (.slice (some ⟨g, 0, none⟩) (ts.length + 1) c) side rt (ts ++ [t]) T F L → wpList Try.prog ops Q rest (a.put o.dst (.slice (some ⟨g, 0, none⟩) (ts.length + 1) c)) W') :
    wpList Try.prog ops Q (o :: rest) a (W.alloc (.cells #[.int .i64 t.own, .int .i64 t.bes] 83)) := by
  refine open_app hg s y hop H.S.O H.S.B hs t hy hl (fun A1 n1 c1 w1 hn1 hO hb hgr hat => ?_)
  subst hn1
  obtain ⟨g, c, e, -, -⟩ := hO.form (by simp)
  rw [List.length_append, List.length_singleton] at e
  injection e with e1 e2 e3
  subst e1
  exact hK g c1 w1 (H.turn (H.S.push hO hb hgr) (H.S.lkG hgr (.inr (.inr rfl))))
end
end Go.Proofs.Ytkecgjmbamaejaa.P
