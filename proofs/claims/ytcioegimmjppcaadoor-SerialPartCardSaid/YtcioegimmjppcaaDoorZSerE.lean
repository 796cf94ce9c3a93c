/- Plain law of serial runs, part E: one instruction of a run. -/
import Derived.Test.YtcioegimmjppcaaDoorZJA
namespace Go.Proofs.YtcioegimmjppcaaDoor.P

theorem loop_empty (pd : Int → Int → Int) (ap : Int → Int → Int → Int) (P : List Fn) (n : Nat) (rs : RS) (t : TS) (at_ : Int) (self : Nat) (h : rs.left = 0) : loop pd ap P n rs t at_ self = .stop 62 := by
  cases n with
  | zero => rfl
  | succ n => simp only [loop]; rw [if_pos h]

theorem loop_go (pd : Int → Int → Int) (ap : Int → Int → Int → Int) (P : List Fn) (n : Nat) (rs : RS) (t : TS) (at_ : Int) (self : Nat) (h : rs.left ≠ 0) (i : Ins) (hi : insOf P t.f at_ = i) (h9 : i.kind ≠ 9) (h5 : i.kind ≠ 5) :
    loop pd ap P (n + 1) rs t at_ self = loop pd ap P n { rs with left := rs.left - 1 } (plainT ap (tick t i) i) (plainAt (tick t i) i at_) self := by
  subst hi
  simp only [loop]
  rw [if_neg h, if_neg h9, if_neg h5]

theorem loop_ret (pd : Int → Int → Int) (ap : Int → Int → Int → Int) (P : List Fn) (n : Nat) (rs : RS) (t : TS) (at_ : Int) (self : Nat) (h : rs.left ≠ 0) (i : Ins) (hi : insOf P t.f at_ = i) (h9 : i.kind = 9) :
    loop pd ap P (n + 1) rs t at_ self = .done (leave { rs with left := rs.left - 1 } self (gi t.regs i.a) (t.work + 1)) (gi t.regs i.a) (t.c + 1) := by
  subst hi
  simp only [loop]
  rw [if_neg h, if_pos h9]
  have hc : (tick t (insOf P t.f at_)).c = t.c + 1 := by
    simp only [tick]
    rw [if_neg (by omega)]
  rw [hc]
  rfl

theorem loop_deep63 (pd : Int → Int → Int) (ap : Int → Int → Int → Int) (P : List Fn) (n : Nat) (rs : RS) (t : TS) (at_ : Int) (self : Nat) (h : rs.left ≠ 0) (i : Ins) (hi : insOf P t.f at_ = i) (h5 : i.kind = 5) (hd : t.depth = 4096) :
    loop pd ap P (n + 1) rs t at_ self = .stop 63 := by
  subst hi
  simp only [loop]
  rw [if_neg h, if_neg (by omega), if_pos h5, if_pos (show (tick t (insOf P t.f at_)).depth = 4096 from hd)]

theorem loop_spawn_stop (pd : Int → Int → Int) (ap : Int → Int → Int → Int) (P : List Fn) (n : Nat) (rs : RS) (t : TS) (at_ : Int) (self : Nat) (h : rs.left ≠ 0) (i : Ins) (hi : insOf P t.f at_ = i) (h5 : i.kind = 5) (hd : t.depth ≠ 4096) (w : Int)
    (hk : loop pd ap P n (enter P { rs with left := rs.left - 1 } (kidOf pd P (tick t i) i) self t.kids) (kidOf pd P (tick t i) i) 0 rs.nodes.length = .stop w) :
    loop pd ap P (n + 1) rs t at_ self = .stop w := by
  subst hi
  simp only [loop]
  rw [if_neg h, if_neg (by omega), if_pos h5, if_neg (show ¬ (tick t (insOf P t.f at_)).depth = 4096 from hd)]
  have hk2 : loop pd ap P n (enter P { rs with left := rs.left - 1 } (kidOf pd P (tick t (insOf P t.f at_)) (insOf P t.f at_)) self (tick t (insOf P t.f at_)).kids) (kidOf pd P (tick t (insOf P t.f at_)) (insOf P t.f at_)) 0 rs.nodes.length = .stop w := hk
  rw [hk2]

theorem loop_spawn_done (pd : Int → Int → Int) (ap : Int → Int → Int → Int) (P : List Fn) (n : Nat) (rs : RS) (t : TS) (at_ : Int) (self : Nat) (h : rs.left ≠ 0) (i : Ins) (hi : insOf P t.f at_ = i) (h5 : i.kind = 5) (hd : t.depth ≠ 4096) (rs2 : RS) (v s : Int)
    (hk : loop pd ap P n (enter P { rs with left := rs.left - 1 } (kidOf pd P (tick t i) i) self t.kids) (kidOf pd P (tick t i) i) 0 rs.nodes.length = .done rs2 v s) :
    loop pd ap P (n + 1) rs t at_ self = loop pd ap P n rs2 { tick t i with kids := t.kids + 1, slots := si t.slots i.a v, ends := t.ends ++ [(tick t i).c + s] } (at_ + 1) self := by
  subst hi
  simp only [loop]
  rw [if_neg h, if_neg (by omega), if_pos h5, if_neg (show ¬ (tick t (insOf P t.f at_)).depth = 4096 from hd)]
  have hk2 : loop pd ap P n (enter P { rs with left := rs.left - 1 } (kidOf pd P (tick t (insOf P t.f at_)) (insOf P t.f at_)) self (tick t (insOf P t.f at_)).kids) (kidOf pd P (tick t (insOf P t.f at_)) (insOf P t.f at_)) 0 rs.nodes.length = .done rs2 v s := hk
  rw [hk2]
  rfl

end Go.Proofs.YtcioegimmjppcaaDoor.P
