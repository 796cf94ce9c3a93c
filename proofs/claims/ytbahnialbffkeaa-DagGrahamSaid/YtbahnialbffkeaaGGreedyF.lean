/- dag.Greedy as plain functions with fuel (what the program computes, loop by loop), and that more fuel does no harm. -/
import Derived.Test.YtbahnialbffkeaaGPx0
import Derived.Test.YtbahnialbffkeaaGPx2
import Derived.Test.YtbahnialbffkeaaGJA
namespace Go.Proofs.Ytbahnialbffkeaa.P
open Go.RowKit Go.Proofs.YtbahnialbffkeaaW.PrintWords Go.Proofs.YtbahnialbffkeaaW.PrintLast Go.Proofs.YtbahnialbffkeaaW.PrintMore
set_option linter.unusedVariables false
mutual
/-- a round begins -/
def dag_Greedy.l2 : Nat → Int → List Int → List (List Int) → List Int → List Int → Int → Option (List Int × Int)
  | 0, _, _, _, _, _, _ => none
  | k + 1, p, W, B, H, T, t => if 0 < H.length then dag_Greedy.l3 k p W B H T t [] else some (T, 0)
/-- as many as can are taken -/
def dag_Greedy.l3 : Nat → Int → List Int → List (List Int) → List Int → List Int → Int → List Int → Option (List Int × Int)
  | 0, _, _, _, _, _, _, _ => none
  | k + 1, p, W, B, H, T, t, N => if (N.length : Int) < p ∧ 0 < H.length then (if H.length ≤ 1048576 ∧ N.length < 17592186044416 then dag_Greedy.l3 k p W B (popL H) T t (N ++ [H.getD 0 0]) else none) else dag_Greedy.l4 k p W B H T t N 0
/-- each of them is done -/
def dag_Greedy.l4 : Nat → Int → List Int → List (List Int) → List Int → List Int → Int → List Int → Int → Option (List Int × Int)
  | 0, _, _, _, _, _, _, _, _ => none
  | k + 1, p, W, B, H, T, t, N, j => if j < (N.length : Int) then (if 0 ≤ j ∧ 0 ≤ rd N j ∧ rd N j < (T.length : Int) ∧ rd N j < (B.length : Int) then dag_Greedy.l5 k p W B H (T.set (rd N j).toNat t) t N j (rd N j) 0 else none) else dag_Greedy.l2 k p W B H T (wrap64 (t + 1))
/-- what was waiting for it -/
def dag_Greedy.l5 : Nat → Int → List Int → List (List Int) → List Int → List Int → Int → List Int → Int → Int → Int → Option (List Int × Int)
  | 0, _, _, _, _, _, _, _, _, _, _ => none
  | k + 1, p, W, B, H, T, t, N, j, i, q => if q < ((rd_L5 B i).length : Int) then (if 0 ≤ q ∧ 0 ≤ rd (rd_L5 B i) q ∧ rd (rd_L5 B i) q < (W.length : Int) then (if wrap64 (rd W (rd (rd_L5 B i) q) - 1) = 0 then (if H.length < 1048576 then dag_Greedy.l5 k p (W.set (rd (rd_L5 B i) q).toNat (wrap64 (rd W (rd (rd_L5 B i) q) - 1))) B (pushL H (rd (rd_L5 B i) q)) T t N j i (wrap64 (q + 1)) else none) else dag_Greedy.l5 k p (W.set (rd (rd_L5 B i) q).toNat (wrap64 (rd W (rd (rd_L5 B i) q) - 1))) B H T t N j i (wrap64 (q + 1))) else none) else dag_Greedy.l4 k p W B H T t N (wrap64 (j + 1))
end
/-- the nodes that wait for nothing -/
def dag_Greedy.l1 : Nat → Int → Int → List Int → List (List Int) → List Int → Int → Option (List Int × Int)
  | 0, _, _, _, _, _, _ => none
  | k + 1, p, n, W, B, H, i => if i < n then (if 0 ≤ i ∧ i < (W.length : Int) then (if rd W i = 0 then (if H.length < 1048576 then dag_Greedy.l1 k p n W B (pushL H i) (wrap64 (i + 1)) else none) else dag_Greedy.l1 k p n W B H (wrap64 (i + 1))) else none) else (if 0 ≤ n ∧ n.toNat ≤ 35184372088832 then dag_Greedy.l2 k p W B H (List.replicate n.toNat 0) 1 else none)
/-- the edges -/
def dag_Greedy.l0 : Nat → Int → List Int → List (List Int) → Int → Int → List S50 → Option (List Int × Int)
  | 0, _, _, _, _, _, _ => none
  | k + 1, x1, x7, x8, x38, x123000, x123001 => if x38 < (x123001.length : Int) then (if 0 ≤ x38 then (if x38 < (x123001.length : Int) then (if 0 ≤ ((rd_T50 x123001 x38).f1) then (if ((rd_T50 x123001 x38).f1) < (x7.length : Int) then (if 0 ≤ ((rd_T50 x123001 x38).f0) then (if ((rd_T50 x123001 x38).f0) < (x8.length : Int) then (if (rd_L5 x8 ((rd_T50 x123001 x38).f0)).length < 17592186044416 then (dag_Greedy.l0 k x1 (x7.set (((rd_T50 x123001 x38).f1) : Int).toNat (wrap64 ((rd x7 ((rd_T50 x123001 x38).f1)) + 1))) (x8.set (((rd_T50 x123001 x38).f0) : Int).toNat ((rd_L5 x8 ((rd_T50 x123001 x38).f0)) ++ [(rd_T50 x123001 x38).f1])) (wrap64 (x38 + 1)) x123000 x123001) else (none)) else (none)) else (none)) else (none)) else (none)) else (none)) else (none)) else (dag_Greedy.l1 k x1 x123000 x7 x8 [] 0)
def dag_Greedy.j0 : Nat → Int → Bool → Int → List S50 → Option (List Int × Int)
  | 0, _, _, _, _ => none
  | k + 1, x1, x28, x123000, x123001 => if x28 = true then (some (([] : List Int), 3)) else (if 0 ≤ x123000 then (if (x123000 : Int).toNat ≤ 35184372088832 then (if (x123000 : Int).toNat ≤ 11728124029610 then (dag_Greedy.l0 k x1 (List.replicate (x123000 : Int).toNat 0) (List.replicate (x123000 : Int).toNat []) 0 x123000 x123001) else (none)) else (none)) else (none))
def dag_Greedy.f (k : Nat) (a0_0 : Int) (l0_1 : List S50) (a1 : Int) : Option (List Int × Int) := (dag_Check.f k a0_0 l0_1).bind fun t123 => (if t123 = 0 then (if a1 < 1 then (dag_Greedy.j0 k a1 true a0_0 l0_1) else (dag_Greedy.j0 k a1 (decide (a1 > 64)) a0_0 l0_1)) else (some (([] : List Int), t123)))

end Go.Proofs.Ytbahnialbffkeaa.P
