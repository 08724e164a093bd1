/- Part 7 of the road to this seat's statements: lemmas about a small interpreter over the model's code, and about the functions that it is used on. No condition of its own. -/
import Derived.Test.YtpeplcbngnedbaaProg
import Derived.ProofKit
import Derived.OpenShut
import Derived.Carry
import Derived.Deep.Slices
import Derived.Test.YtpeplcbngnedbaaW6

section
/- Conditions and their equations, printed by a program: sixth part. -/
open Go.Proofs
set_option maxRecDepth 100000
set_option linter.unusedVariables false
namespace Go.Abs.King
def vc11 (m : Int) (pots : List (List Int)) (mark pot : List Int) (k : AVal → List Cont → Prop) : Prop :=
  (Go.Abs.King.v40.p (m, (pots, ()))) ∧
  br (((Bool.not (Go.Abs.King.fineB m pots)) == Bool.false))
   (br (((decide ((((List.length pots) : Nat) : Int) ≥ (8 : Int))) == Bool.false))
    (br (((decide (m ≥ (6 : Int))) == Bool.false))
     (br (((decide ((((List.length mark) : Nat) : Int) > (20 : Int))) == Bool.false))
      (br ((decide ((((List.length pot) : Nat) : Int) > (20 : Int))))
       ((Go.Abs.King.v17.p ()) ∧
       (k (Go.Abs.AVal.bool Bool.true) []))
       ((Go.Abs.fitsK Go.IntKind.i64 (m + (1 : Int))) ∧
       Go.Abs.Loop (σ := ((List Int) × ((List Int) × (Int × (Int × ((List (List Int)) × (Int × ((List (List Int)) × Unit)))))))) (fun K5 x5 =>
         br ((decide (x5.2.2.1 < (((List.length x5.2.2.2.2.1) : Nat) : Int))))
          (∃ h7 : (((0 : Int) ≤ x5.2.2.1) ∧ ((Int.toNat x5.2.2.1) < (List.length x5.2.2.2.2.1))),
          (((List.length ([] : List Int)) + (List.length (x5.2.2.2.2.1[(Int.toNat x5.2.2.1)]'h7.2))) ≤ Go.Abs.big) ∧
          (Go.Abs.King.v48.p (x5.1, (x5.2.2.1, ()))) ∧
          (((List.length (([] : List Int) ++ (x5.2.2.2.2.1[(Int.toNat x5.2.2.1)]'h7.2))) + (List.length ((Go.Abs.King.valueB x5.1 x5.2.2.1) :: ([] : List Int)))) ≤ Go.Abs.big) ∧
          (((List.length x5.2.2.2.2.2.2.1) + (List.length (((([] : List Int) ++ (x5.2.2.2.2.1[(Int.toNat x5.2.2.1)]'h7.2)) ++ ((Go.Abs.King.valueB x5.1 x5.2.2.1) :: ([] : List Int))) :: ([] : List (List Int))))) ≤ Go.Abs.big) ∧
          (Go.Abs.fitsK Go.IntKind.i64 (x5.2.2.1 + (1 : Int))) ∧
          (K5 (x5.1, (x5.2.1, ((x5.2.2.1 + (1 : Int)), (x5.2.2.2.1, (x5.2.2.2.2.1, (x5.2.2.2.2.2.1, ((x5.2.2.2.2.2.2.1 ++ (((([] : List Int) ++ (x5.2.2.2.2.1[(Int.toNat x5.2.2.1)]'h7.2)) ++ ((Go.Abs.King.valueB x5.1 x5.2.2.1) :: ([] : List Int))) :: ([] : List (List Int)))), ())))))))))
          ((((List.length ([] : List (List Int))) + (List.length x5.2.2.2.2.1)) ≤ Go.Abs.big) ∧
          Go.Abs.Loop (σ := ((List Int) × (Int × (Int × ((List (List Int)) × (Int × (Int × ((List Int) × ((List (List Int)) × ((List (List Int)) × Unit)))))))))) (fun K7 x7 =>
            br ((decide (x7.2.1 < x7.2.2.1)))
             ((Go.Abs.King.v48.p (x7.1, (x7.2.1, ()))) ∧
             (((List.length x7.2.2.2.2.2.2.1) + (List.length ((Go.Abs.King.valueB x7.1 x7.2.1) :: ([] : List Int)))) ≤ Go.Abs.big) ∧
             (Go.Abs.fitsK Go.IntKind.i64 (x7.2.1 + (1 : Int))) ∧
             (K7 (x7.1, ((x7.2.1 + (1 : Int)), (x7.2.2.1, (x7.2.2.2.1, (x7.2.2.2.2.1, (x7.2.2.2.2.2.1, ((x7.2.2.2.2.2.2.1 ++ ((Go.Abs.King.valueB x7.1 x7.2.1) :: ([] : List Int))), (x7.2.2.2.2.2.2.2.1, (x7.2.2.2.2.2.2.2.2.1, ())))))))))))
             ((((List.length x7.2.2.2.2.2.2.2.2.1) + (List.length (x7.2.2.2.2.2.2.1 :: ([] : List (List Int))))) ≤ Go.Abs.big) ∧
             (Go.Abs.King.v42.p (x7.2.2.1, (x7.2.2.2.1, ()))) ∧
             (Go.Abs.King.v42.p (x7.2.2.2.2.1, (x7.2.2.2.2.2.2.2.1, ()))) ∧
             (Go.Abs.King.v42.p (x7.2.2.2.2.2.1, ((x7.2.2.2.2.2.2.2.2.1 ++ (x7.2.2.2.2.2.2.1 :: ([] : List (List Int)))), ()))) ∧
             (Go.Abs.King.v45.p (x7.2.2.1, (x7.2.2.2.1, ()))) ∧
             (Go.Abs.King.v30.p (x7.2.2.1, (x7.2.2.2.1, ((List.replicate (Int.toNat x7.2.2.1) (-(1 : Int) : Int)), ())))) ∧
             (Go.Abs.King.v45.p (x7.2.2.2.2.1, (x7.2.2.2.2.2.2.2.1, ()))) ∧
             (Go.Abs.King.v30.p (x7.2.2.2.2.1, (x7.2.2.2.2.2.2.2.1, ((List.replicate (Int.toNat x7.2.2.2.2.1) (-(1 : Int) : Int)), ())))) ∧
             (Go.Abs.King.v45.p (x7.2.2.2.2.2.1, ((x7.2.2.2.2.2.2.2.2.1 ++ (x7.2.2.2.2.2.2.1 :: ([] : List (List Int)))), ()))) ∧
             (Go.Abs.King.v30.p (x7.2.2.2.2.2.1, ((x7.2.2.2.2.2.2.2.2.1 ++ (x7.2.2.2.2.2.2.1 :: ([] : List (List Int)))), ((List.replicate (Int.toNat x7.2.2.2.2.2.1) (-(1 : Int) : Int)), ())))) ∧
             br ((((Go.Abs.King.seenErr x7.2.2.1 x7.2.2.2.1 (List.replicate (Int.toNat x7.2.2.1) (-(1 : Int) : Int))) != (0 : Int)) == Bool.false))
              (br ((((Go.Abs.King.seenErr x7.2.2.2.2.1 x7.2.2.2.2.2.2.2.1 (List.replicate (Int.toNat x7.2.2.2.2.1) (-(1 : Int) : Int))) != (0 : Int)) == Bool.false))
               (br ((((Go.Abs.King.seenErr x7.2.2.2.2.2.1 (x7.2.2.2.2.2.2.2.2.1 ++ (x7.2.2.2.2.2.2.1 :: ([] : List (List Int)))) (List.replicate (Int.toNat x7.2.2.2.2.2.1) (-(1 : Int) : Int))) != (0 : Int)) == Bool.false))
                (br (((Go.Abs.King.isF x7.2.2.1 x7.2.2.2.1) == Bool.true))
                 (br (((Bool.not (Go.Abs.King.isF x7.2.2.2.2.1 x7.2.2.2.2.2.2.2.1)) == Bool.false))
                  (br (((Go.Abs.King.isF x7.2.2.2.2.2.1 (x7.2.2.2.2.2.2.2.2.1 ++ (x7.2.2.2.2.2.2.1 :: ([] : List (List Int))))) == Bool.true))
                   (br ((Bool.not (Go.Abs.King.isF x7.2.2.1 x7.2.2.2.1)))
                    ((k (Go.Abs.AVal.bool Bool.false) []))
                    (br (((Bool.not (Go.Abs.King.isF x7.2.2.1 x7.2.2.2.1)) == Bool.false))
                     ((((0 : Int) ≤ (0 : Int)) ∧ ((Int.toNat (0 : Int)) < (List.length (Go.Abs.King.fewL x7.2.2.2.2.1 x7.2.2.2.2.2.2.2.1)))) ∧
                     ∃ h9 : ((Int.toNat (0 : Int)) < (List.length (Go.Abs.King.fewL x7.2.2.2.2.1 x7.2.2.2.2.2.2.2.1))),
                     (((0 : Int) ≤ (0 : Int)) ∧ ((Int.toNat (0 : Int)) < (List.length (Go.Abs.King.fewL x7.2.2.1 x7.2.2.2.1)))) ∧
                     ∃ h10 : ((Int.toNat (0 : Int)) < (List.length (Go.Abs.King.fewL x7.2.2.1 x7.2.2.2.1))),
                     br (((decide ((((List.length ((Go.Abs.King.fewL x7.2.2.2.2.1 x7.2.2.2.2.2.2.2.1)[(Int.toNat (0 : Int))]'h9)) : Nat) : Int) ≤ (((List.length ((Go.Abs.King.fewL x7.2.2.1 x7.2.2.2.1)[(Int.toNat (0 : Int))]'h10)) : Nat) : Int))) == Bool.true))
                      (br (((decide ((Go.Abs.King.looksE x7.2.2.2.2.1 x7.2.2.2.2.2.2.2.1 (List.replicate (Int.toNat x7.2.2.2.2.1) (-(1 : Int) : Int))) ≤ (Go.Abs.King.looksE x7.2.2.1 x7.2.2.2.1 (List.replicate (Int.toNat x7.2.2.1) (-(1 : Int) : Int))))) == Bool.true))
                       (br (((decide ((Go.Abs.King.looksE x7.2.2.2.2.1 x7.2.2.2.2.2.2.2.1 (List.replicate (Int.toNat x7.2.2.2.2.1) (-(1 : Int) : Int))) ≥ (0 : Int))) == Bool.true))
                        (br (((Bool.not (Go.Abs.King.isF x7.2.2.2.2.2.1 (x7.2.2.2.2.2.2.2.2.1 ++ (x7.2.2.2.2.2.2.1 :: ([] : List (List Int)))))) == Bool.false))
                         ((((0 : Int) ≤ (0 : Int)) ∧ ((Int.toNat (0 : Int)) < (List.length (Go.Abs.King.fewL x7.2.2.2.2.2.1 (x7.2.2.2.2.2.2.2.2.1 ++ (x7.2.2.2.2.2.2.1 :: ([] : List (List Int)))))))) ∧
                         ∃ h11 : ((Int.toNat (0 : Int)) < (List.length (Go.Abs.King.fewL x7.2.2.2.2.2.1 (x7.2.2.2.2.2.2.2.2.1 ++ (x7.2.2.2.2.2.2.1 :: ([] : List (List Int))))))),
                         (((0 : Int) ≤ (0 : Int)) ∧ ((Int.toNat (0 : Int)) < (List.length (Go.Abs.King.fewL x7.2.2.1 x7.2.2.2.1)))) ∧
                         ∃ h12 : ((Int.toNat (0 : Int)) < (List.length (Go.Abs.King.fewL x7.2.2.1 x7.2.2.2.1))),
                         br (((decide ((((List.length ((Go.Abs.King.fewL x7.2.2.2.2.2.1 (x7.2.2.2.2.2.2.2.2.1 ++ (x7.2.2.2.2.2.2.1 :: ([] : List (List Int)))))[(Int.toNat (0 : Int))]'h11)) : Nat) : Int) ≥ (((List.length ((Go.Abs.King.fewL x7.2.2.1 x7.2.2.2.1)[(Int.toNat (0 : Int))]'h12)) : Nat) : Int))) == Bool.true))
                          (br (((decide ((Go.Abs.King.looksE x7.2.2.2.2.2.1 (x7.2.2.2.2.2.2.2.2.1 ++ (x7.2.2.2.2.2.2.1 :: ([] : List (List Int)))) (List.replicate (Int.toNat x7.2.2.2.2.2.1) (-(1 : Int) : Int))) ≥ (Go.Abs.King.looksE x7.2.2.1 x7.2.2.2.1 (List.replicate (Int.toNat x7.2.2.1) (-(1 : Int) : Int))))) == Bool.true))
                           ((Go.Abs.King.v17.p ()) ∧
                           (k (Go.Abs.AVal.bool Bool.true) []))
                           ((k (Go.Abs.AVal.bool Bool.false) [])))
                          ((k (Go.Abs.AVal.bool Bool.false) [])))
                         ((Go.Abs.King.v17.p ()) ∧
                         (k (Go.Abs.AVal.bool Bool.true) [])))
                        ((k (Go.Abs.AVal.bool Bool.false) [])))
                       ((k (Go.Abs.AVal.bool Bool.false) [])))
                      ((k (Go.Abs.AVal.bool Bool.false) [])))
                     (br (((Bool.not (Go.Abs.King.isF x7.2.2.2.2.2.1 (x7.2.2.2.2.2.2.2.2.1 ++ (x7.2.2.2.2.2.2.1 :: ([] : List (List Int)))))) == Bool.false))
                      ((((0 : Int) ≤ (0 : Int)) ∧ ((Int.toNat (0 : Int)) < (List.length (Go.Abs.King.fewL x7.2.2.2.2.2.1 (x7.2.2.2.2.2.2.2.2.1 ++ (x7.2.2.2.2.2.2.1 :: ([] : List (List Int)))))))) ∧
                      ∃ h9 : ((Int.toNat (0 : Int)) < (List.length (Go.Abs.King.fewL x7.2.2.2.2.2.1 (x7.2.2.2.2.2.2.2.2.1 ++ (x7.2.2.2.2.2.2.1 :: ([] : List (List Int))))))),
                      (((0 : Int) ≤ (0 : Int)) ∧ ((Int.toNat (0 : Int)) < (List.length (Go.Abs.King.fewL x7.2.2.1 x7.2.2.2.1)))) ∧
                      ∃ h10 : ((Int.toNat (0 : Int)) < (List.length (Go.Abs.King.fewL x7.2.2.1 x7.2.2.2.1))),
                      br (((decide ((((List.length ((Go.Abs.King.fewL x7.2.2.2.2.2.1 (x7.2.2.2.2.2.2.2.2.1 ++ (x7.2.2.2.2.2.2.1 :: ([] : List (List Int)))))[(Int.toNat (0 : Int))]'h9)) : Nat) : Int) ≥ (((List.length ((Go.Abs.King.fewL x7.2.2.1 x7.2.2.2.1)[(Int.toNat (0 : Int))]'h10)) : Nat) : Int))) == Bool.true))
                       (br (((decide ((Go.Abs.King.looksE x7.2.2.2.2.2.1 (x7.2.2.2.2.2.2.2.2.1 ++ (x7.2.2.2.2.2.2.1 :: ([] : List (List Int)))) (List.replicate (Int.toNat x7.2.2.2.2.2.1) (-(1 : Int) : Int))) ≥ (Go.Abs.King.looksE x7.2.2.1 x7.2.2.2.1 (List.replicate (Int.toNat x7.2.2.1) (-(1 : Int) : Int))))) == Bool.true))
                        ((Go.Abs.King.v17.p ()) ∧
                        (k (Go.Abs.AVal.bool Bool.true) []))
                        ((k (Go.Abs.AVal.bool Bool.false) [])))
                       ((k (Go.Abs.AVal.bool Bool.false) [])))
                      ((Go.Abs.King.v17.p ()) ∧
                      (k (Go.Abs.AVal.bool Bool.true) [])))))
                   (br (((Bool.not (Go.Abs.King.isF x7.2.2.1 x7.2.2.2.1)) == Bool.false))
                    ((((0 : Int) ≤ (0 : Int)) ∧ ((Int.toNat (0 : Int)) < (List.length (Go.Abs.King.fewL x7.2.2.2.2.1 x7.2.2.2.2.2.2.2.1)))) ∧
                    ∃ h9 : ((Int.toNat (0 : Int)) < (List.length (Go.Abs.King.fewL x7.2.2.2.2.1 x7.2.2.2.2.2.2.2.1))),
                    (((0 : Int) ≤ (0 : Int)) ∧ ((Int.toNat (0 : Int)) < (List.length (Go.Abs.King.fewL x7.2.2.1 x7.2.2.2.1)))) ∧
                    ∃ h10 : ((Int.toNat (0 : Int)) < (List.length (Go.Abs.King.fewL x7.2.2.1 x7.2.2.2.1))),
                    br (((decide ((((List.length ((Go.Abs.King.fewL x7.2.2.2.2.1 x7.2.2.2.2.2.2.2.1)[(Int.toNat (0 : Int))]'h9)) : Nat) : Int) ≤ (((List.length ((Go.Abs.King.fewL x7.2.2.1 x7.2.2.2.1)[(Int.toNat (0 : Int))]'h10)) : Nat) : Int))) == Bool.true))
                     (br (((decide ((Go.Abs.King.looksE x7.2.2.2.2.1 x7.2.2.2.2.2.2.2.1 (List.replicate (Int.toNat x7.2.2.2.2.1) (-(1 : Int) : Int))) ≤ (Go.Abs.King.looksE x7.2.2.1 x7.2.2.2.1 (List.replicate (Int.toNat x7.2.2.1) (-(1 : Int) : Int))))) == Bool.true))
                      (br (((decide ((Go.Abs.King.looksE x7.2.2.2.2.1 x7.2.2.2.2.2.2.2.1 (List.replicate (Int.toNat x7.2.2.2.2.1) (-(1 : Int) : Int))) ≥ (0 : Int))) == Bool.true))
                       (br (((Bool.not (Go.Abs.King.isF x7.2.2.2.2.2.1 (x7.2.2.2.2.2.2.2.2.1 ++ (x7.2.2.2.2.2.2.1 :: ([] : List (List Int)))))) == Bool.false))
                        ((((0 : Int) ≤ (0 : Int)) ∧ ((Int.toNat (0 : Int)) < (List.length (Go.Abs.King.fewL x7.2.2.2.2.2.1 (x7.2.2.2.2.2.2.2.2.1 ++ (x7.2.2.2.2.2.2.1 :: ([] : List (List Int)))))))) ∧
                        ∃ h11 : ((Int.toNat (0 : Int)) < (List.length (Go.Abs.King.fewL x7.2.2.2.2.2.1 (x7.2.2.2.2.2.2.2.2.1 ++ (x7.2.2.2.2.2.2.1 :: ([] : List (List Int))))))),
                        (((0 : Int) ≤ (0 : Int)) ∧ ((Int.toNat (0 : Int)) < (List.length (Go.Abs.King.fewL x7.2.2.1 x7.2.2.2.1)))) ∧
                        ∃ h12 : ((Int.toNat (0 : Int)) < (List.length (Go.Abs.King.fewL x7.2.2.1 x7.2.2.2.1))),
                        br (((decide ((((List.length ((Go.Abs.King.fewL x7.2.2.2.2.2.1 (x7.2.2.2.2.2.2.2.2.1 ++ (x7.2.2.2.2.2.2.1 :: ([] : List (List Int)))))[(Int.toNat (0 : Int))]'h11)) : Nat) : Int) ≥ (((List.length ((Go.Abs.King.fewL x7.2.2.1 x7.2.2.2.1)[(Int.toNat (0 : Int))]'h12)) : Nat) : Int))) == Bool.true))
                         (br (((decide ((Go.Abs.King.looksE x7.2.2.2.2.2.1 (x7.2.2.2.2.2.2.2.2.1 ++ (x7.2.2.2.2.2.2.1 :: ([] : List (List Int)))) (List.replicate (Int.toNat x7.2.2.2.2.2.1) (-(1 : Int) : Int))) ≥ (Go.Abs.King.looksE x7.2.2.1 x7.2.2.2.1 (List.replicate (Int.toNat x7.2.2.1) (-(1 : Int) : Int))))) == Bool.true))
                          ((Go.Abs.King.v17.p ()) ∧
                          (k (Go.Abs.AVal.bool Bool.true) []))
                          ((k (Go.Abs.AVal.bool Bool.false) [])))
                         ((k (Go.Abs.AVal.bool Bool.false) [])))
                        ((Go.Abs.King.v17.p ()) ∧
                        (k (Go.Abs.AVal.bool Bool.true) [])))
                       ((k (Go.Abs.AVal.bool Bool.false) [])))
                      ((k (Go.Abs.AVal.bool Bool.false) [])))
                     ((k (Go.Abs.AVal.bool Bool.false) [])))
                    (br (((Bool.not (Go.Abs.King.isF x7.2.2.2.2.2.1 (x7.2.2.2.2.2.2.2.2.1 ++ (x7.2.2.2.2.2.2.1 :: ([] : List (List Int)))))) == Bool.false))
                     ((((0 : Int) ≤ (0 : Int)) ∧ ((Int.toNat (0 : Int)) < (List.length (Go.Abs.King.fewL x7.2.2.2.2.2.1 (x7.2.2.2.2.2.2.2.2.1 ++ (x7.2.2.2.2.2.2.1 :: ([] : List (List Int)))))))) ∧
                     ∃ h9 : ((Int.toNat (0 : Int)) < (List.length (Go.Abs.King.fewL x7.2.2.2.2.2.1 (x7.2.2.2.2.2.2.2.2.1 ++ (x7.2.2.2.2.2.2.1 :: ([] : List (List Int))))))),
                     (((0 : Int) ≤ (0 : Int)) ∧ ((Int.toNat (0 : Int)) < (List.length (Go.Abs.King.fewL x7.2.2.1 x7.2.2.2.1)))) ∧
                     ∃ h10 : ((Int.toNat (0 : Int)) < (List.length (Go.Abs.King.fewL x7.2.2.1 x7.2.2.2.1))),
                     br (((decide ((((List.length ((Go.Abs.King.fewL x7.2.2.2.2.2.1 (x7.2.2.2.2.2.2.2.2.1 ++ (x7.2.2.2.2.2.2.1 :: ([] : List (List Int)))))[(Int.toNat (0 : Int))]'h9)) : Nat) : Int) ≥ (((List.length ((Go.Abs.King.fewL x7.2.2.1 x7.2.2.2.1)[(Int.toNat (0 : Int))]'h10)) : Nat) : Int))) == Bool.true))
                      (br (((decide ((Go.Abs.King.looksE x7.2.2.2.2.2.1 (x7.2.2.2.2.2.2.2.2.1 ++ (x7.2.2.2.2.2.2.1 :: ([] : List (List Int)))) (List.replicate (Int.toNat x7.2.2.2.2.2.1) (-(1 : Int) : Int))) ≥ (Go.Abs.King.looksE x7.2.2.1 x7.2.2.2.1 (List.replicate (Int.toNat x7.2.2.1) (-(1 : Int) : Int))))) == Bool.true))
                       ((Go.Abs.King.v17.p ()) ∧
                       (k (Go.Abs.AVal.bool Bool.true) []))
                       ((k (Go.Abs.AVal.bool Bool.false) [])))
                      ((k (Go.Abs.AVal.bool Bool.false) [])))
                     ((Go.Abs.King.v17.p ()) ∧
                     (k (Go.Abs.AVal.bool Bool.true) [])))))
                  ((k (Go.Abs.AVal.bool Bool.false) [])))
                 (br (((Go.Abs.King.isF x7.2.2.2.2.2.1 (x7.2.2.2.2.2.2.2.2.1 ++ (x7.2.2.2.2.2.2.1 :: ([] : List (List Int))))) == Bool.true))
                  (br ((Bool.not (Go.Abs.King.isF x7.2.2.1 x7.2.2.2.1)))
                   ((k (Go.Abs.AVal.bool Bool.false) []))
                   (br (((Bool.not (Go.Abs.King.isF x7.2.2.1 x7.2.2.2.1)) == Bool.false))
                    ((((0 : Int) ≤ (0 : Int)) ∧ ((Int.toNat (0 : Int)) < (List.length (Go.Abs.King.fewL x7.2.2.2.2.1 x7.2.2.2.2.2.2.2.1)))) ∧
                    ∃ h9 : ((Int.toNat (0 : Int)) < (List.length (Go.Abs.King.fewL x7.2.2.2.2.1 x7.2.2.2.2.2.2.2.1))),
                    (((0 : Int) ≤ (0 : Int)) ∧ ((Int.toNat (0 : Int)) < (List.length (Go.Abs.King.fewL x7.2.2.1 x7.2.2.2.1)))) ∧
                    ∃ h10 : ((Int.toNat (0 : Int)) < (List.length (Go.Abs.King.fewL x7.2.2.1 x7.2.2.2.1))),
                    br (((decide ((((List.length ((Go.Abs.King.fewL x7.2.2.2.2.1 x7.2.2.2.2.2.2.2.1)[(Int.toNat (0 : Int))]'h9)) : Nat) : Int) ≤ (((List.length ((Go.Abs.King.fewL x7.2.2.1 x7.2.2.2.1)[(Int.toNat (0 : Int))]'h10)) : Nat) : Int))) == Bool.true))
                     (br (((decide ((Go.Abs.King.looksE x7.2.2.2.2.1 x7.2.2.2.2.2.2.2.1 (List.replicate (Int.toNat x7.2.2.2.2.1) (-(1 : Int) : Int))) ≤ (Go.Abs.King.looksE x7.2.2.1 x7.2.2.2.1 (List.replicate (Int.toNat x7.2.2.1) (-(1 : Int) : Int))))) == Bool.true))
                      (br (((decide ((Go.Abs.King.looksE x7.2.2.2.2.1 x7.2.2.2.2.2.2.2.1 (List.replicate (Int.toNat x7.2.2.2.2.1) (-(1 : Int) : Int))) ≥ (0 : Int))) == Bool.true))
                       (br (((Bool.not (Go.Abs.King.isF x7.2.2.2.2.2.1 (x7.2.2.2.2.2.2.2.2.1 ++ (x7.2.2.2.2.2.2.1 :: ([] : List (List Int)))))) == Bool.false))
                        ((((0 : Int) ≤ (0 : Int)) ∧ ((Int.toNat (0 : Int)) < (List.length (Go.Abs.King.fewL x7.2.2.2.2.2.1 (x7.2.2.2.2.2.2.2.2.1 ++ (x7.2.2.2.2.2.2.1 :: ([] : List (List Int)))))))) ∧
                        ∃ h11 : ((Int.toNat (0 : Int)) < (List.length (Go.Abs.King.fewL x7.2.2.2.2.2.1 (x7.2.2.2.2.2.2.2.2.1 ++ (x7.2.2.2.2.2.2.1 :: ([] : List (List Int))))))),
                        (((0 : Int) ≤ (0 : Int)) ∧ ((Int.toNat (0 : Int)) < (List.length (Go.Abs.King.fewL x7.2.2.1 x7.2.2.2.1)))) ∧
                        ∃ h12 : ((Int.toNat (0 : Int)) < (List.length (Go.Abs.King.fewL x7.2.2.1 x7.2.2.2.1))),
                        br (((decide ((((List.length ((Go.Abs.King.fewL x7.2.2.2.2.2.1 (x7.2.2.2.2.2.2.2.2.1 ++ (x7.2.2.2.2.2.2.1 :: ([] : List (List Int)))))[(Int.toNat (0 : Int))]'h11)) : Nat) : Int) ≥ (((List.length ((Go.Abs.King.fewL x7.2.2.1 x7.2.2.2.1)[(Int.toNat (0 : Int))]'h12)) : Nat) : Int))) == Bool.true))
                         (br (((decide ((Go.Abs.King.looksE x7.2.2.2.2.2.1 (x7.2.2.2.2.2.2.2.2.1 ++ (x7.2.2.2.2.2.2.1 :: ([] : List (List Int)))) (List.replicate (Int.toNat x7.2.2.2.2.2.1) (-(1 : Int) : Int))) ≥ (Go.Abs.King.looksE x7.2.2.1 x7.2.2.2.1 (List.replicate (Int.toNat x7.2.2.1) (-(1 : Int) : Int))))) == Bool.true))
                          ((Go.Abs.King.v17.p ()) ∧
                          (k (Go.Abs.AVal.bool Bool.true) []))
                          ((k (Go.Abs.AVal.bool Bool.false) [])))
                         ((k (Go.Abs.AVal.bool Bool.false) [])))
                        ((Go.Abs.King.v17.p ()) ∧
                        (k (Go.Abs.AVal.bool Bool.true) [])))
                       ((k (Go.Abs.AVal.bool Bool.false) [])))
                      ((k (Go.Abs.AVal.bool Bool.false) [])))
                     ((k (Go.Abs.AVal.bool Bool.false) [])))
                    (br (((Bool.not (Go.Abs.King.isF x7.2.2.2.2.2.1 (x7.2.2.2.2.2.2.2.2.1 ++ (x7.2.2.2.2.2.2.1 :: ([] : List (List Int)))))) == Bool.false))
                     ((((0 : Int) ≤ (0 : Int)) ∧ ((Int.toNat (0 : Int)) < (List.length (Go.Abs.King.fewL x7.2.2.2.2.2.1 (x7.2.2.2.2.2.2.2.2.1 ++ (x7.2.2.2.2.2.2.1 :: ([] : List (List Int)))))))) ∧
                     ∃ h9 : ((Int.toNat (0 : Int)) < (List.length (Go.Abs.King.fewL x7.2.2.2.2.2.1 (x7.2.2.2.2.2.2.2.2.1 ++ (x7.2.2.2.2.2.2.1 :: ([] : List (List Int))))))),
                     (((0 : Int) ≤ (0 : Int)) ∧ ((Int.toNat (0 : Int)) < (List.length (Go.Abs.King.fewL x7.2.2.1 x7.2.2.2.1)))) ∧
                     ∃ h10 : ((Int.toNat (0 : Int)) < (List.length (Go.Abs.King.fewL x7.2.2.1 x7.2.2.2.1))),
                     br (((decide ((((List.length ((Go.Abs.King.fewL x7.2.2.2.2.2.1 (x7.2.2.2.2.2.2.2.2.1 ++ (x7.2.2.2.2.2.2.1 :: ([] : List (List Int)))))[(Int.toNat (0 : Int))]'h9)) : Nat) : Int) ≥ (((List.length ((Go.Abs.King.fewL x7.2.2.1 x7.2.2.2.1)[(Int.toNat (0 : Int))]'h10)) : Nat) : Int))) == Bool.true))
                      (br (((decide ((Go.Abs.King.looksE x7.2.2.2.2.2.1 (x7.2.2.2.2.2.2.2.2.1 ++ (x7.2.2.2.2.2.2.1 :: ([] : List (List Int)))) (List.replicate (Int.toNat x7.2.2.2.2.2.1) (-(1 : Int) : Int))) ≥ (Go.Abs.King.looksE x7.2.2.1 x7.2.2.2.1 (List.replicate (Int.toNat x7.2.2.1) (-(1 : Int) : Int))))) == Bool.true))
                       ((Go.Abs.King.v17.p ()) ∧
                       (k (Go.Abs.AVal.bool Bool.true) []))
                       ((k (Go.Abs.AVal.bool Bool.false) [])))
                      ((k (Go.Abs.AVal.bool Bool.false) [])))
                     ((Go.Abs.King.v17.p ()) ∧
                     (k (Go.Abs.AVal.bool Bool.true) [])))))
                  (br (((Bool.not (Go.Abs.King.isF x7.2.2.1 x7.2.2.2.1)) == Bool.false))
                   ((((0 : Int) ≤ (0 : Int)) ∧ ((Int.toNat (0 : Int)) < (List.length (Go.Abs.King.fewL x7.2.2.2.2.1 x7.2.2.2.2.2.2.2.1)))) ∧
                   ∃ h9 : ((Int.toNat (0 : Int)) < (List.length (Go.Abs.King.fewL x7.2.2.2.2.1 x7.2.2.2.2.2.2.2.1))),
                   (((0 : Int) ≤ (0 : Int)) ∧ ((Int.toNat (0 : Int)) < (List.length (Go.Abs.King.fewL x7.2.2.1 x7.2.2.2.1)))) ∧
                   ∃ h10 : ((Int.toNat (0 : Int)) < (List.length (Go.Abs.King.fewL x7.2.2.1 x7.2.2.2.1))),
                   br (((decide ((((List.length ((Go.Abs.King.fewL x7.2.2.2.2.1 x7.2.2.2.2.2.2.2.1)[(Int.toNat (0 : Int))]'h9)) : Nat) : Int) ≤ (((List.length ((Go.Abs.King.fewL x7.2.2.1 x7.2.2.2.1)[(Int.toNat (0 : Int))]'h10)) : Nat) : Int))) == Bool.true))
                    (br (((decide ((Go.Abs.King.looksE x7.2.2.2.2.1 x7.2.2.2.2.2.2.2.1 (List.replicate (Int.toNat x7.2.2.2.2.1) (-(1 : Int) : Int))) ≤ (Go.Abs.King.looksE x7.2.2.1 x7.2.2.2.1 (List.replicate (Int.toNat x7.2.2.1) (-(1 : Int) : Int))))) == Bool.true))
                     (br (((decide ((Go.Abs.King.looksE x7.2.2.2.2.1 x7.2.2.2.2.2.2.2.1 (List.replicate (Int.toNat x7.2.2.2.2.1) (-(1 : Int) : Int))) ≥ (0 : Int))) == Bool.true))
                      (br (((Bool.not (Go.Abs.King.isF x7.2.2.2.2.2.1 (x7.2.2.2.2.2.2.2.2.1 ++ (x7.2.2.2.2.2.2.1 :: ([] : List (List Int)))))) == Bool.false))
                       ((((0 : Int) ≤ (0 : Int)) ∧ ((Int.toNat (0 : Int)) < (List.length (Go.Abs.King.fewL x7.2.2.2.2.2.1 (x7.2.2.2.2.2.2.2.2.1 ++ (x7.2.2.2.2.2.2.1 :: ([] : List (List Int)))))))) ∧
                       ∃ h11 : ((Int.toNat (0 : Int)) < (List.length (Go.Abs.King.fewL x7.2.2.2.2.2.1 (x7.2.2.2.2.2.2.2.2.1 ++ (x7.2.2.2.2.2.2.1 :: ([] : List (List Int))))))),
                       (((0 : Int) ≤ (0 : Int)) ∧ ((Int.toNat (0 : Int)) < (List.length (Go.Abs.King.fewL x7.2.2.1 x7.2.2.2.1)))) ∧
                       ∃ h12 : ((Int.toNat (0 : Int)) < (List.length (Go.Abs.King.fewL x7.2.2.1 x7.2.2.2.1))),
                       br (((decide ((((List.length ((Go.Abs.King.fewL x7.2.2.2.2.2.1 (x7.2.2.2.2.2.2.2.2.1 ++ (x7.2.2.2.2.2.2.1 :: ([] : List (List Int)))))[(Int.toNat (0 : Int))]'h11)) : Nat) : Int) ≥ (((List.length ((Go.Abs.King.fewL x7.2.2.1 x7.2.2.2.1)[(Int.toNat (0 : Int))]'h12)) : Nat) : Int))) == Bool.true))
                        (br (((decide ((Go.Abs.King.looksE x7.2.2.2.2.2.1 (x7.2.2.2.2.2.2.2.2.1 ++ (x7.2.2.2.2.2.2.1 :: ([] : List (List Int)))) (List.replicate (Int.toNat x7.2.2.2.2.2.1) (-(1 : Int) : Int))) ≥ (Go.Abs.King.looksE x7.2.2.1 x7.2.2.2.1 (List.replicate (Int.toNat x7.2.2.1) (-(1 : Int) : Int))))) == Bool.true))
                         ((Go.Abs.King.v17.p ()) ∧
                         (k (Go.Abs.AVal.bool Bool.true) []))
                         ((k (Go.Abs.AVal.bool Bool.false) [])))
                        ((k (Go.Abs.AVal.bool Bool.false) [])))
                       ((Go.Abs.King.v17.p ()) ∧
                       (k (Go.Abs.AVal.bool Bool.true) [])))
                      ((k (Go.Abs.AVal.bool Bool.false) [])))
                     ((k (Go.Abs.AVal.bool Bool.false) [])))
                    ((k (Go.Abs.AVal.bool Bool.false) [])))
                   (br (((Bool.not (Go.Abs.King.isF x7.2.2.2.2.2.1 (x7.2.2.2.2.2.2.2.2.1 ++ (x7.2.2.2.2.2.2.1 :: ([] : List (List Int)))))) == Bool.false))
                    ((((0 : Int) ≤ (0 : Int)) ∧ ((Int.toNat (0 : Int)) < (List.length (Go.Abs.King.fewL x7.2.2.2.2.2.1 (x7.2.2.2.2.2.2.2.2.1 ++ (x7.2.2.2.2.2.2.1 :: ([] : List (List Int)))))))) ∧
                    ∃ h9 : ((Int.toNat (0 : Int)) < (List.length (Go.Abs.King.fewL x7.2.2.2.2.2.1 (x7.2.2.2.2.2.2.2.2.1 ++ (x7.2.2.2.2.2.2.1 :: ([] : List (List Int))))))),
                    (((0 : Int) ≤ (0 : Int)) ∧ ((Int.toNat (0 : Int)) < (List.length (Go.Abs.King.fewL x7.2.2.1 x7.2.2.2.1)))) ∧
                    ∃ h10 : ((Int.toNat (0 : Int)) < (List.length (Go.Abs.King.fewL x7.2.2.1 x7.2.2.2.1))),
                    br (((decide ((((List.length ((Go.Abs.King.fewL x7.2.2.2.2.2.1 (x7.2.2.2.2.2.2.2.2.1 ++ (x7.2.2.2.2.2.2.1 :: ([] : List (List Int)))))[(Int.toNat (0 : Int))]'h9)) : Nat) : Int) ≥ (((List.length ((Go.Abs.King.fewL x7.2.2.1 x7.2.2.2.1)[(Int.toNat (0 : Int))]'h10)) : Nat) : Int))) == Bool.true))
                     (br (((decide ((Go.Abs.King.looksE x7.2.2.2.2.2.1 (x7.2.2.2.2.2.2.2.2.1 ++ (x7.2.2.2.2.2.2.1 :: ([] : List (List Int)))) (List.replicate (Int.toNat x7.2.2.2.2.2.1) (-(1 : Int) : Int))) ≥ (Go.Abs.King.looksE x7.2.2.1 x7.2.2.2.1 (List.replicate (Int.toNat x7.2.2.1) (-(1 : Int) : Int))))) == Bool.true))
                      ((Go.Abs.King.v17.p ()) ∧
                      (k (Go.Abs.AVal.bool Bool.true) []))
                      ((k (Go.Abs.AVal.bool Bool.false) [])))
                     ((k (Go.Abs.AVal.bool Bool.false) [])))
                    ((Go.Abs.King.v17.p ()) ∧
                    (k (Go.Abs.AVal.bool Bool.true) []))))))
                ((k (Go.Abs.AVal.bool Bool.false) [])))
               ((k (Go.Abs.AVal.bool Bool.false) [])))
              ((k (Go.Abs.AVal.bool Bool.false) [])))) ((x5.2.1, ((0 : Int), (x5.2.2.2.1, (x5.2.2.2.2.1, (x5.2.2.2.2.2.1, (x5.2.2.2.1, (([] : List Int), (x5.2.2.2.2.2.2.1, ((([] : List (List Int)) ++ x5.2.2.2.2.1), ())))))))))))) ((mark, (pot, ((0 : Int), (m, (pots, ((m + (1 : Int)), (([] : List (List Int)), ()))))))))))
      ((Go.Abs.King.v17.p ()) ∧
      (k (Go.Abs.AVal.bool Bool.true) [])))
     ((Go.Abs.King.v17.p ()) ∧
     (k (Go.Abs.AVal.bool Bool.true) [])))
    ((Go.Abs.King.v17.p ()) ∧
    (k (Go.Abs.AVal.bool Bool.true) [])))
   ((Go.Abs.King.v17.p ()) ∧
   (k (Go.Abs.AVal.bool Bool.true) []))
theorem eq11 (m : Int) (pots : List (List Int)) (mark pot : List Int) (k : AVal → List Cont → Prop) : awpF (envOf [(40, mkC [v40]), (17, mkC [v17]), (48, mkC [v48]), (42, mkC [v42]), (45, mkC [v45]), (30, mkC [v30])]) Try.prog kt 11 false Try.f11 (v11.S.enc Unit (m, pots, mark, pot, ())).1 [] k = vc11 m pots mark pot k := by kernel_rfl

theorem tx11 : (Try.f11.body.map Code.textsOk).getD true = true := by kernel_rfl
end Go.Abs.King
end

section
/- The king's statements: one more mark, one more pot. -/
open Go.Proofs
set_option maxRecDepth 100000
set_option linter.unusedVariables false
namespace Go.Abs.King

/-- What can be told within some looks can be told so, too, where others look like it. -/
theorem T_map {f f' : Nat → Nat → Int} {m m' : Nat} (σ : Nat → Nat) : ∀ (d : Nat) {S S' : Nat → Prop}, (∀ i, S' i → S (σ i)) → (∀ i k, S' i → S' k → σ i = σ k → i = k) → (∀ j, j < m → ∃ j', j' < m' ∧ ∀ i k, S' i → S' k → f' i j' = f' k j' → f (σ i) j = f (σ k) j) → T f m d S → T f' m' d S'
  | 0, S, S', hs, hi, hj, h => fun i k h1 h2 => hi i k h1 h2 (h _ _ (hs i h1) (hs k h2))
  | d + 1, S, S', hs, hi, hj, h => by
    rcases h with h | ⟨j, hjm, h⟩
    · exact Or.inl (fun i k h1 h2 => hi i k h1 h2 (h _ _ (hs i h1) (hs k h2)))
    · obtain ⟨j', hj', he⟩ := hj j hjm
      refine Or.inr ⟨j', hj', fun v => ?_⟩
      by_cases hex : ∃ i, S' i ∧ f' i j' = v
      · obtain ⟨i0, h0, hv⟩ := hex
        refine T_map σ d (fun i hi' => ⟨hs i hi'.1, he i i0 hi'.1 h0 (hi'.2.trans hv.symm)⟩) (fun i k h1 h2 => hi i k h1.1 h2.1) (fun x hx => ?_) (h (f (σ i0) j))
        obtain ⟨x', hx', hxe⟩ := hj x hx
        exact ⟨x', hx', fun i k h1 h2 => hxe i k h1.1 h2.1⟩
      · exact T_one (fun i k h1 _ => absurd ⟨i, h1.1, h1.2⟩ hex) d

/-- How many marks the shortest lists have. -/
def fewN (m : Int) (pots : List (List Int)) : Nat := (fewK m pots).getD 0
theorem few_first {m : Int} {pots : List (List Int)} (hf : checkShelf m pots = 0) (h : isF m pots = true) : 0 < (fewL m pots).length ∧ (∀ hh : 0 < (fewL m pots).length, (fewL m pots)[0].length = fewN m pots) ∧ ∃ l, isList l m = true ∧ hardB pots l = false ∧ l.length = fewN m pots := by
  have hE : fewE m pots = 0 := of_decide_eq_true h
  rcases isF_err hf with ⟨h1, _, _⟩ | ⟨n, _, _, h3, _, h5⟩
  · omega
  · have hn : fewN m pots = n := by unfold fewN; rw [h3]; rfl
    have hs := few_spec hf h3 _ (List.getElem_mem h5)
    rw [hn]
    exact ⟨h5, fun hh => hs.2.1, _, hs.1, hs.2.2, hs.2.1⟩
theorem few_least {m : Nat} {pots : List (List Int)} (hf : checkShelf (m : Int) pots = 0) {l : List Int} (hl : isList l (m : Int) = true) (hh : hardB pots l = false) : fewN (m : Int) pots ≤ l.length := by
  obtain ⟨n, h1, h2, _⟩ := few_min hf hl hh
  unfold fewN
  rw [h1]; exact h2
theorem hard_of {pots : List (List Int)} {marks : List Int} (h : ∀ i k, i < k → k < pots.length → ∃ y ∈ marks, mk pots i y.toNat ≠ mk pots k y.toNat) : hardB pots marks = false := by
  cases hh : hardB pots marks with
  | false => rfl
  | true =>
    obtain ⟨i, k, hik, hk, ht⟩ := hardB_iff.1 hh
    have := tells_iff.2 (h i k hik hk)
    rw [this] at ht; cases ht

theorem value_range {l : List Int} (hl : bytesL l) (i : Int) : 0 ≤ valueB l i ∧ valueB l i ≤ 4 := by
  unfold valueB
  split
  · omega
  · rename_i h
    have h1 : 0 ≤ l.getD (i % (l.length : Int)).toNat 0 := by
      rw [List.getD_eq_getElem?_getD]
      cases hh : l[(i % (l.length : Int)).toNat]? with
      | none => simp
      | some x => exact (hl x (List.mem_of_getElem? hh)).1
    have := Int.emod_nonneg (l.getD (i % (l.length : Int)).toNat 0) (by omega : (5 : Int) ≠ 0)
    have := Int.emod_lt_of_pos (l.getD (i % (l.length : Int)).toNat 0) (by omega : (0 : Int) < 5)
    omega
/-- With one more mark. -/
def moreM (pots : List (List Int)) (mark : List Int) (i : Nat) : List (List Int) := (List.range i).map (fun t : Nat => pots.getD t [] ++ [valueB mark (t : Int)])
theorem moreM_succ (pots : List (List Int)) (mark : List Int) (i : Nat) : moreM pots mark (i + 1) = moreM pots mark i ++ [pots.getD i [] ++ [valueB mark (i : Int)]] := by
  unfold moreM
  rw [List.range_succ, List.map_append]; rfl
theorem moreM_len (pots : List (List Int)) (mark : List Int) (i : Nat) : (moreM pots mark i).length = i := by simp [moreM]
def lastP (pot : List Int) (i : Nat) : List Int := (List.range i).map (fun t : Nat => valueB pot (t : Int))
theorem lastP_succ (pot : List Int) (i : Nat) : lastP pot (i + 1) = lastP pot i ++ [valueB pot (i : Int)] := by
  unfold lastP
  rw [List.range_succ, List.map_append]; rfl
theorem lastP_len (pot : List Int) (i : Nat) : (lastP pot i).length = i := by simp [lastP]
theorem moreM_fine {m : Nat} {pots : List (List Int)} {mark : List Int} (hf : checkShelf (m : Int) pots = 0) (hm : m < 6) (hb : bytesL mark) : checkShelf ((m + 1 : Nat) : Int) (moreM pots mark pots.length) = 0 := by
  obtain ⟨f1, f2, f3, f4⟩ := fine_spec hf
  refine fine_mk (by omega) (by rw [moreM_len]; omega) (fun p hp => ?_) (fun p hp x hx => ?_)
  · obtain ⟨t, ht, rfl⟩ := List.mem_map.1 hp
    have ht := List.mem_range.1 ht
    rw [List.length_append, getP ht]
    have := f3 _ (List.getElem_mem ht)
    simp only [List.length_singleton]; omega
  · obtain ⟨t, ht, rfl⟩ := List.mem_map.1 hp
    have ht := List.mem_range.1 ht
    rw [getP ht] at hx
    rcases List.mem_append.1 hx with hx | hx
    · exact f4 _ (List.getElem_mem ht) _ hx
    · rw [List.mem_singleton.1 hx]; exact value_range hb _
theorem moreM_mk {m : Nat} {pots : List (List Int)} {mark : List Int} (hf : checkShelf (m : Int) pots = 0) {i j : Nat} (hi : i < pots.length) (hj : j < m) : mk (moreM pots mark pots.length) i j = mk pots i j := by
  have hl : i < (moreM pots mark pots.length).length := by rw [moreM_len]; exact hi
  obtain ⟨hjl, _, _⟩ := mk_val hf hi hj
  have e1 : (moreM pots mark pots.length).getD i [] = pots[i] ++ [valueB mark (i : Int)] := by
    have e3 : (moreM pots mark pots.length)[i] = pots.getD i [] ++ [valueB mark (i : Int)] := by simp [moreM]
    rw [getP hl, e3, getP hi]
  have e2 : pots.getD i [] = pots[i] := getP hi
  unfold mk
  rw [e1, e2, List.getD_eq_getElem?_getD, List.getElem?_append_left hjl, ← List.getD_eq_getElem?_getD]
theorem isList_more {l : List Int} {m : Nat} (h : isList l (m : Int) = true) : isList l ((m + 1 : Nat) : Int) = true := by
  obtain ⟨h1, h2⟩ := (rises_iff (m : Int) l 0).1 h
  exact (rises_iff ((m + 1 : Nat) : Int) l 0).2 ⟨fun x hx => by have := h1 x hx; omega, h2⟩

/-- With one more mark no more is needed. -/
theorem more_marks {m : Nat} {pots : List (List Int)} {mark : List Int} (hf : checkShelf (m : Int) pots = 0) (hm : m < 6) (hb : bytesL mark) (hF : isF (m : Int) pots = true) :
    isF ((m + 1 : Nat) : Int) (moreM pots mark pots.length) = true ∧ fewN ((m + 1 : Nat) : Int) (moreM pots mark pots.length) ≤ fewN (m : Int) pots ∧ 0 ≤ looks (moreM pots mark pots.length) (m + 1) (2 ^ pots.length - 1) ∧ looks (moreM pots mark pots.length) (m + 1) (2 ^ pots.length - 1) ≤ looks pots m (2 ^ pots.length - 1) := by
  have hfX := moreM_fine hf hm hb
  have hXl := moreM_len pots mark pots.length
  have htold := (isF_told hf).1 hF
  obtain ⟨_, _, l, hl1, hl2, hl3⟩ := few_first hf hF
  have hcan : isF ((m + 1 : Nat) : Int) (moreM pots mark pots.length) = true := by
    refine (isF_told hfX).2 (fun i k hi hk hne => ?_)
    rw [hXl] at hi hk
    obtain ⟨j, hj, hd⟩ := htold i k hi hk hne
    exact ⟨j, by omega, by rw [moreM_mk hf hi hj, moreM_mk hf hk hj]; exact hd⟩
  refine ⟨hcan, ?_, ?_⟩
  · rw [← hl3]
    refine few_least hfX (isList_more hl1) (hard_of (fun i k hik hk => ?_))
    rw [hXl] at hk
    obtain ⟨y, hy, hd⟩ := hard_false hl2 (show i < pots.length by omega) hk (by omega)
    have hin := ((rises_iff (m : Int) l 0).1 hl1).1 y hy
    exact ⟨y, hy, by rw [moreM_mk hf (by omega) (by omega), moreM_mk hf hk (by omega)]; exact hd⟩
  · have h0 : 0 ≤ looks pots m (2 ^ pots.length - 1) := (told_looks hf (all_lt _)).2 (fun i k hi hk hne => htold i k (all_bits.1 hi) (all_bits.1 hk) hne)
    have hT := (looks_iff hf (all_lt pots.length) (looks pots m (2 ^ pots.length - 1)).toNat).2 ⟨h0, by omega⟩
    have hT2 : T (mk (moreM pots mark pots.length)) (m + 1) (looks pots m (2 ^ pots.length - 1)).toNat (B (2 ^ pots.length - 1)) := T_map (fun i => i) _ (fun i hi => hi) (fun i k _ _ h => h) (fun j hj => ⟨j, by omega, fun i k hi hk he => by
      have hi := all_bits.1 hi
      have hk := all_bits.1 hk
      rw [moreM_mk hf hi hj, moreM_mk hf hk hj] at he
      exact he⟩) hT
    have := (looks_iff hfX (b := 2 ^ pots.length - 1) (by rw [hXl]; exact all_lt _) _).1 hT2
    omega
/-- With one more pot no less is needed. -/
theorem more_pots {m : Nat} {pots : List (List Int)} {q : List Int} (hf : checkShelf (m : Int) pots = 0) (hfY : checkShelf (m : Int) (pots ++ [q]) = 0) (hF : isF (m : Int) (pots ++ [q]) = true) :
    isF (m : Int) pots = true ∧ fewN (m : Int) pots ≤ fewN (m : Int) (pots ++ [q]) ∧ looks pots m (2 ^ pots.length - 1) ≤ looks (pots ++ [q]) m (2 ^ (pots ++ [q]).length - 1) := by
  have hYl : (pots ++ [q]).length = pots.length + 1 := by simp
  have htold := (isF_told hfY).1 hF
  obtain ⟨_, _, l, hl1, hl2, hl3⟩ := few_first hfY hF
  have hto : Told pots m (fun i => i < pots.length) := by
    intro i k hi hk hne
    obtain ⟨j, hj, hd⟩ := htold i k (by show i < (pots ++ [q]).length; rw [hYl]; have : i < pots.length := hi; omega) (by show k < (pots ++ [q]).length; rw [hYl]; have : k < pots.length := hk; omega) hne
    rw [mk_add_old hi, mk_add_old hk] at hd
    exact ⟨j, hj, hd⟩
  refine ⟨(isF_told hf).2 hto, ?_, ?_⟩
  · rw [← hl3]
    refine few_least hf hl1 (hard_of (fun i k hik hk => ?_))
    obtain ⟨y, hy, hd⟩ := hard_false hl2 (show i < (pots ++ [q]).length by omega) (show k < (pots ++ [q]).length by omega) (by omega)
    rw [mk_add_old (by omega), mk_add_old hk] at hd
    exact ⟨y, hy, hd⟩
  · have h0 : 0 ≤ looks (pots ++ [q]) m (2 ^ (pots ++ [q]).length - 1) := (told_looks hfY (all_lt _)).2 (fun i k hi hk hne => htold i k (all_bits.1 hi) (all_bits.1 hk) hne)
    have hT := (looks_iff hfY (all_lt _) (looks (pots ++ [q]) m (2 ^ (pots ++ [q]).length - 1)).toNat).2 ⟨h0, by omega⟩
    have hT2 : T (mk pots) m (looks (pots ++ [q]) m (2 ^ (pots ++ [q]).length - 1)).toNat (B (2 ^ pots.length - 1)) := T_map (fun i => i) _ (fun i hi => all_bits.2 (by have := all_bits.1 hi; omega)) (fun i k _ _ h => h) (fun j hj => ⟨j, hj, fun i k hi hk he => by
      rw [mk_add_old (all_bits.1 hi), mk_add_old (all_bits.1 hk)]; exact he⟩) hT
    have := (looks_iff hf (all_lt pots.length) _).1 hT2
    omega

theorem k11 (hG : Good Try.prog (envOf [(40, mkC [v40]), (17, mkC [v17]), (48, mkC [v48]), (42, mkC [v42]), (45, mkC [v45]), (30, mkC [v30])])) : v11.Kept Try.prog 11 := by
  rintro ⟨m, pots, mark, pot, ⟨⟩⟩ hpre k hk
  change List (List Int) at pots
  change Int at m
  change List Int at mark pot
  refine aspec hmix hG Try.func11 tx11 (Eq.mpr (eq11 m pots mark pot k) ?_)
  replace hk : k (.bool true) [] := hk
  have hbm : bytesL mark := fun b hb => hpre.1 b hb
  have hbp : bytesL pot := fun b hb => hpre.2 b hb
  unfold vc11
  refine ⟨trivial, br_intro (fun h1 => ?_) (fun h1 => ⟨trivial, hk⟩)⟩
  obtain ⟨hf, hs⟩ := fine_of (notfine_f (eq_of_beq h1))
  obtain ⟨f1, f2, f3, f4⟩ := fine_spec hf
  obtain ⟨mm, rfl⟩ := Int.eq_ofNat_of_zero_le (show 0 ≤ m by omega)
  rw [br_false]
  refine ⟨fun h8 => ?_, fun _ => ⟨trivial, hk⟩⟩
  rw [br_false]
  refine ⟨fun h6 => ?_, fun _ => ⟨trivial, hk⟩⟩
  rw [br_false]
  refine ⟨fun hl1 => ?_, fun _ => ⟨trivial, hk⟩⟩
  rw [br_decide]
  refine ⟨fun _ => ⟨trivial, hk⟩, fun hl2 => ⟨fits64 (by omega) (by omega), ?_⟩⟩
  have hmm1 : (mm : Int) + 1 = ((mm + 1 : Nat) : Int) := by omega
  refine Loop.upto (fun i => (mark, pot, (i : Int), (mm : Int), pots, ((mm + 1 : Nat) : Int), moreM pots mark i, ())) (fun i => True) pots.length rfl trivial ?_ ?_
  · intro i K hi _ hK
    have hK := hK trivial
    rw [moreM_succ, getP hi] at hK
    dsimp only
    have hml := moreM_len pots mark i
    have hpl := f3 _ (List.getElem_mem hi)
    rw [br_decide]
    simp only [Int.toNat_natCast]
    exact ⟨fun _ => ⟨⟨by omega, hi⟩, by simp [big]; omega, ⟨by show mark.length ≤ 1152921504606846976; omega, by show (0 : Int) ≤ (i : Int); omega, by show (i : Int) ≤ 1000000; omega, hbm⟩, by simp [big]; omega, by simp [big]; omega, fits64 (by omega) (by omega), hK⟩, fun h => absurd hi (by omega)⟩
  intro K _
  dsimp only
  rw [br_decide]
  refine ⟨fun h => absurd h (by omega), fun _ => ⟨by simp [big]; omega, ?_⟩⟩
  have hfX := moreM_fine hf (by omega : mm < 6) hbm
  have hXl := moreM_len pots mark pots.length
  have hmm := fun h => more_marks (mark := mark) hf (by omega) hbm h
  generalize moreM pots mark pots.length = X at hfX hXl hmm
  refine Loop.upto (fun i => (pot, (i : Int), (mm : Int), pots, ((mm + 1 : Nat) : Int), (mm : Int), lastP pot i, X, pots, ())) (fun i => True) mm rfl trivial ?_ ?_
  · intro i K2 hi _ hK2
    have hK2 := hK2 trivial
    rw [lastP_succ] at hK2
    dsimp only
    have hll := lastP_len pot i
    rw [br_decide]
    exact ⟨fun _ => ⟨⟨by show pot.length ≤ 1152921504606846976; omega, by show (0 : Int) ≤ (i : Int); omega, by show (i : Int) ≤ 1000000; omega, hbp⟩, by simp [big]; omega, fits64 (by omega) (by omega), hK2⟩, fun h => absurd hi (by omega)⟩
  intro K2 _
  dsimp only
  rw [br_decide]
  refine ⟨fun h => absurd h (by omega), fun _ => ⟨by simp [big]; omega, ?_⟩⟩
  have hll := lastP_len pot mm
  have hfY := fine_add hf (by omega : pots.length < 8) hll (fun x hx => by
    obtain ⟨t, _, rfl⟩ := List.mem_map.1 hx
    exact value_range hbp _)
  have hmp := fun h => more_pots hf hfY h
  generalize pots ++ [lastP pot mm] = Y at hfY hmp ⊢
  have hsX : smallS X := by
    obtain ⟨_, g2, g3, _⟩ := fine_spec hfX
    exact ⟨by omega, fun q hq => by have := g3 q hq; omega⟩
  have hsY : smallS Y := by
    obtain ⟨_, g2, g3, _⟩ := fine_spec hfY
    exact ⟨by omega, fun q hq => by have := g3 q hq; omega⟩
  have hu0 := unseen_ok hf
  have huX := unseen_ok hfX
  have huY := unseen_ok hfY
  have hlk0 := looks_unseen hf
  have hlkX := looks_unseen hfX
  have hlkY := looks_unseen hfY
  rw [hXl] at hlkX
  simp only [Int.toNat_natCast]
  have hrl : ∀ n : Nat, n ≤ 7 → (List.replicate n (-1 : Int)).length ≤ 1152921504606846976 := fun n hn => by rw [List.length_replicate]; omega
  refine ⟨hf, hfX, hfY, by show (mm : Int) ≤ 100; omega, ⟨hs, hrl mm (by omega)⟩, by show ((mm + 1 : Nat) : Int) ≤ 100; omega, ⟨hsX, hrl (mm + 1) (by omega)⟩, by show (mm : Int) ≤ 100; omega, ⟨hsY, hrl mm (by omega)⟩, ?_⟩
  rw [hu0, huX, huY, n00, ff1, br_t, br_t, br_t]
  simp only [hlk0, hlkX, hlkY]
  have hff0 := fun h => few_first hf h
  have hffX := fun h => few_first hfX h
  have hffY := fun h => few_first hfY h
  have h0 : (Int.toNat (0 : Int)) = 0 := rfl
  generalize isF (mm : Int) pots = i0 at *
  generalize isF ((mm + 1 : Nat) : Int) X = iX at *
  generalize isF (mm : Int) Y = iY at *
  have htr : v17.p () ∧ k (.bool true) [] := ⟨trivial, hk⟩
  cases i0 with
  | false =>
    have hY : iY = false := by
      cases iY with
      | false => rfl
      | true => exact absurd (hmp rfl).1 (by simp)
    rw [hY]
    simp only [ft1, tf1, Bool.not_false, br_t, br_f]
    exact htr
  | true =>
    obtain ⟨x1, x2, x3, x4⟩ := hmm rfl
    subst x1
    obtain ⟨a1, a2, _⟩ := hff0 rfl
    obtain ⟨b1, b2, _⟩ := hffX rfl
    have d1 : decide (((fewN ((mm + 1 : Nat) : Int) X : Nat) : Int) ≤ ((fewN (mm : Int) pots : Nat) : Int)) = true := decide_eq_true (by omega)
    have d2 : decide (looks X (mm + 1) (2 ^ pots.length - 1) ≤ looks pots mm (2 ^ pots.length - 1)) = true := decide_eq_true x4
    have d3 : decide (looks X (mm + 1) (2 ^ pots.length - 1) ≥ 0) = true := decide_eq_true x3
    cases iY with
    | false =>
      simp only [ft1, ff1, tf1, tt1, Bool.not_false, Bool.not_true, br_t, br_f, h0, a2, b2, d1, d2, d3]
      exact ⟨⟨by omega, b1⟩, b1, ⟨by omega, a1⟩, a1, htr⟩
    | true =>
      obtain ⟨_, y2, y3⟩ := hmp rfl
      obtain ⟨c1, c2, _⟩ := hffY rfl
      have d4 : decide (((fewN (mm : Int) Y : Nat) : Int) ≥ ((fewN (mm : Int) pots : Nat) : Int)) = true := decide_eq_true (by omega)
      have d5 : decide (looks Y mm (2 ^ Y.length - 1) ≥ looks pots mm (2 ^ pots.length - 1)) = true := decide_eq_true y3
      simp only [ff1, tt1, Bool.not_true, br_t, br_f, h0, a2, b2, c2, d1, d2, d3, d4, d5]
      exact ⟨⟨by omega, b1⟩, b1, ⟨by omega, a1⟩, a1, ⟨by omega, c1⟩, c1, ⟨by omega, a1⟩, a1, htr⟩
end Go.Abs.King
end

section
/- The king's statements: marks and pots in another order. -/
open Go.Proofs
set_option maxRecDepth 100000
set_option linter.unusedVariables false
namespace Go.Abs.King

theorem nodup_short {α : Type} [DecidableEq α] : ∀ (l l' : List α), l.Nodup → (∀ x ∈ l, x ∈ l') → l.length ≤ l'.length
  | [], _, _, _ => by simp
  | x :: l, l', hn, hs => by
    rw [List.nodup_cons] at hn
    have hx := hs x (by simp)
    have := nodup_short l (l'.erase x) hn.2 (fun y hy => (List.mem_erase_of_ne (fun (e : y = x) => hn.1 (by rw [← e]; exact hy))).2 (hs y (List.mem_cons_of_mem _ hy)))
    rw [List.length_erase_of_mem hx] at this
    have := List.length_pos_of_mem hx
    simp only [List.length_cons]
    omega

/-- A shelf is another one, turned. -/
structure Turn (pots X : List (List Int)) (m : Nat) (σ τ : Nat → Nat) : Prop where
  len : X.length = pots.length
  s : ∀ i, i < pots.length → σ i < pots.length
  sinj : ∀ i k, i < pots.length → k < pots.length → σ i = σ k → i = k
  ssur : ∀ i, i < pots.length → ∃ i', i' < pots.length ∧ σ i' = i
  t : ∀ j, j < m → τ j < m
  tinj : ∀ j k, j < m → k < m → τ j = τ k → j = k
  tsur : ∀ j, j < m → ∃ j', j' < m ∧ τ j' = j
  same : ∀ i k j, i < pots.length → k < pots.length → j < m → (mk X i j = mk X k j ↔ mk pots (σ i) (τ j) = mk pots (σ k) (τ j))

theorem turn_symm {pots X : List (List Int)} {m : Nat} {σ τ : Nat → Nat} (h : Turn pots X m σ τ) : ∃ σ' τ', Turn X pots m σ' τ' := by
  let σ' : Nat → Nat := fun i => if hi : i < pots.length then Classical.choose (h.ssur i hi) else 0
  let τ' : Nat → Nat := fun j => if hj : j < m then Classical.choose (h.tsur j hj) else 0
  have hs : ∀ i, i < pots.length → σ' i < pots.length ∧ σ (σ' i) = i := by
    intro i hi
    have := Classical.choose_spec (h.ssur i hi)
    simp only [σ', dif_pos hi]
    exact this
  have ht : ∀ j, j < m → τ' j < m ∧ τ (τ' j) = j := by
    intro j hj
    have := Classical.choose_spec (h.tsur j hj)
    simp only [τ', dif_pos hj]
    exact this
  refine ⟨σ', τ', h.len.symm, fun i hi => ?_, fun i k hi hk e => ?_, fun i hi => ?_, fun j hj => (ht j hj).1, fun j k hj hk e => ?_, fun j hj => ?_, fun i k j hi hk hj => ?_⟩
  · rw [h.len] at hi ⊢; exact (hs i hi).1
  · rw [h.len] at hi hk
    rw [← (hs i hi).2, ← (hs k hk).2, e]
  · rw [h.len] at hi ⊢
    exact ⟨σ i, h.s i hi, h.sinj _ _ (hs _ (h.s i hi)).1 hi (hs _ (h.s i hi)).2⟩
  · rw [← (ht j hj).2, ← (ht k hk).2, e]
  · exact ⟨τ j, h.t j hj, h.tinj _ _ (ht _ (h.t j hj)).1 hj (ht _ (h.t j hj)).2⟩
  · rw [h.len] at hi hk
    have := h.same (σ' i) (σ' k) (τ' j) (hs i hi).1 (hs k hk).1 (ht j hj).1
    rw [(hs i hi).2, (hs k hk).2, (ht j hj).2] at this
    exact this.symm

section
variable {pots X : List (List Int)} {m : Nat} {σ τ : Nat → Nat}
theorem turn_told (h : Turn pots X m σ τ) (ht : Told pots m (fun i => i < pots.length)) : Told X m (fun i => i < X.length) := by
  intro i k hi hk hne
  have hi : i < pots.length := by rw [← h.len]; exact hi
  have hk : k < pots.length := by rw [← h.len]; exact hk
  obtain ⟨j, hj, hd⟩ := ht (σ i) (σ k) (h.s i hi) (h.s k hk) (fun e => hne (h.sinj i k hi hk e))
  obtain ⟨j', hj', rfl⟩ := h.tsur j hj
  exact ⟨j', hj', fun e => hd ((h.same i k j' hi hk hj').1 e)⟩
theorem turn_isF (h : Turn pots X m σ τ) (hf : checkShelf (m : Int) pots = 0) (hfX : checkShelf (m : Int) X = 0) : isF (m : Int) X = isF (m : Int) pots := by
  obtain ⟨σ', τ', h'⟩ := turn_symm h
  rw [Bool.eq_iff_iff, isF_told hf, isF_told hfX]
  exact ⟨turn_told h', turn_told h⟩
theorem turn_looks_le (h : Turn pots X m σ τ) (hf : checkShelf (m : Int) pots = 0) (hfX : checkShelf (m : Int) X = 0) (h0 : 0 ≤ looks pots m (2 ^ pots.length - 1)) : 0 ≤ looks X m (2 ^ X.length - 1) ∧ looks X m (2 ^ X.length - 1) ≤ looks pots m (2 ^ pots.length - 1) := by
  have hT := (looks_iff hf (all_lt pots.length) (looks pots m (2 ^ pots.length - 1)).toNat).2 ⟨h0, by omega⟩
  have hT2 : T (mk X) m (looks pots m (2 ^ pots.length - 1)).toNat (B (2 ^ X.length - 1)) := T_map σ _ (fun i hi => by
    have hi := all_bits.1 hi
    rw [h.len] at hi
    exact all_bits.2 (h.s i hi)) (fun i k hi hk e => by
    have hi := all_bits.1 hi
    have hk := all_bits.1 hk
    rw [h.len] at hi hk
    exact h.sinj i k hi hk e) (fun j hj => by
    obtain ⟨j', hj', rfl⟩ := h.tsur j hj
    refine ⟨j', hj', fun i k hi hk e => ?_⟩
    have hi := all_bits.1 hi
    have hk := all_bits.1 hk
    rw [h.len] at hi hk
    exact (h.same i k j' hi hk hj').1 e) hT
  have := (looks_iff hfX (all_lt X.length) _).1 hT2
  omega
theorem turn_looks (h : Turn pots X m σ τ) (hf : checkShelf (m : Int) pots = 0) (hfX : checkShelf (m : Int) X = 0) : looks X m (2 ^ X.length - 1) = looks pots m (2 ^ pots.length - 1) := by
  obtain ⟨σ', τ', h'⟩ := turn_symm h
  have b1 := (looks_bounds pots m (2 ^ pots.length - 1)).1
  have b2 := (looks_bounds X m (2 ^ X.length - 1)).1
  rcases b1 with b1 | b1
  · rcases b2 with b2 | b2
    · omega
    · have := turn_looks_le h' hfX hf b2; omega
  · have c1 := turn_looks_le h hf hfX b1
    have c2 := turn_looks_le h' hfX hf c1.1
    omega
theorem apart_comm (pots : List (List Int)) (m i k : Nat) : apart pots m i k = apart pots m k i := by
  unfold apart
  congr 1
  refine List.filter_congr (fun j _ => ?_)
  rw [Bool.eq_iff_iff, decide_eq_true_eq, decide_eq_true_eq]
  exact ⟨fun h e => h e.symm, fun h e => h e.symm⟩
theorem turn_apart (h : Turn pots X m σ τ) {i k j : Nat} (hi : i < pots.length) (hk : k < pots.length) (hj : j < m) (ha : apart X m i k = [(j : Int)]) : apart pots m (σ i) (σ k) = [((τ j : Nat) : Int)] := by
  have hin : ∀ x : Nat, x < m → (mk X i x ≠ mk X k x ↔ x = j) := by
    intro x hx
    have : (x : Int) ∈ apart X m i k ↔ x = j := by rw [ha, List.mem_singleton]; omega
    rw [← this, apart_mem]
    constructor
    · intro hd; exact ⟨x, rfl, hx, hd⟩
    · rintro ⟨y, e, _, hd⟩
      have : x = y := by omega
      subst this; exact hd
  refine apart_one (h.t j hj) (fun e => (hin j hj).2 rfl ((h.same i k j hi hk hj).2 e)) (fun x hx hne => ?_)
  obtain ⟨x', hx', rfl⟩ := h.tsur x hx
  have hne' : x' ≠ j := fun e => hne (by rw [e])
  exact (h.same i k x' hi hk hx').1 (Classical.byContradiction (fun hd => hne' ((hin x' hx').1 hd)))
theorem sorted_nodup {l : List Int} (h : l.Pairwise (· < ·)) : l.Nodup := List.Pairwise.imp (fun {a b} hab e => by omega) h
theorem turn_needed_le (h : Turn pots X m σ τ) (hf : checkShelf (m : Int) pots = 0) (hfX : checkShelf (m : Int) X = 0) : (neededL (m : Int) X).length ≤ (neededL (m : Int) pots).length := by
  have hs := (rises_iff (m : Int) _ 0).1 (needed_isList m X)
  have := nodup_short ((neededL (m : Int) X).map (fun x => ((τ x.toNat : Nat) : Int))) (neededL (m : Int) pots) ?_ ?_
  · rwa [List.length_map] at this
  · unfold List.Nodup
    rw [List.pairwise_map]
    refine List.Pairwise.imp_of_mem ?_ hs.2
    intro a b ha hb hab e
    have h1 := hs.1 a ha
    have h2 := hs.1 b hb
    have := h.tinj a.toNat b.toNat (by omega) (by omega) (by omega)
    omega
  · intro x hx
    obtain ⟨y, hy, rfl⟩ := List.mem_map.1 hx
    obtain ⟨j, rfl, hj, i, k, hi, hk, ha⟩ := needed_mem hfX hy
    rw [h.len] at hi
    have hk' : k < pots.length := by omega
    have hap := turn_apart h hi hk' hj ha
    rw [Int.toNat_natCast]
    refine (needed_iff hf (h.t j hj)).2 ?_
    have hne : σ i ≠ σ k := fun e => by have := h.sinj i k hi hk' e; omega
    rcases Nat.lt_or_ge (σ k) (σ i) with h' | h'
    · exact ⟨σ i, σ k, h.s i hi, h', hap⟩
    · exact ⟨σ k, σ i, h.s k hk', by omega, by rw [apart_comm]; exact hap⟩

/-- The marks of a list, turned. -/
def turnL (m : Nat) (τ : Nat → Nat) (l : List Int) : List Int := listed (bitsOf m (fun x => l.any (fun y => τ y.toNat == x))) m
theorem turnL_mem (h : Turn pots X m σ τ) {l : List Int} (hl : isList l (m : Int) = true) {x : Int} : x ∈ turnL m τ l ↔ ∃ y ∈ l, x = ((τ y.toNat : Nat) : Int) := by
  have hin := ((rises_iff (m : Int) l 0).1 hl).1
  unfold turnL
  rw [listed_mem]
  constructor
  · rintro ⟨i, rfl, hi, ht⟩
    rw [bitsOf_test, Bool.and_eq_true, List.any_eq_true] at ht
    obtain ⟨y, hy, e⟩ := ht.2
    exact ⟨y, hy, by rw [eq_of_beq e]⟩
  · rintro ⟨y, hy, rfl⟩
    have hb := hin y hy
    have hty := h.t y.toNat (by omega)
    refine ⟨τ y.toNat, rfl, hty, ?_⟩
    rw [bitsOf_test, Bool.and_eq_true, List.any_eq_true]
    exact ⟨decide_eq_true hty, y, hy, by simp⟩
theorem turnL_len (h : Turn pots X m σ τ) {l : List Int} (hl : isList l (m : Int) = true) : (turnL m τ l).length = l.length := by
  obtain ⟨hin, hs⟩ := (rises_iff (m : Int) l 0).1 hl
  have hnd : (l.map (fun y => ((τ y.toNat : Nat) : Int))).Nodup := by
    unfold List.Nodup
    rw [List.pairwise_map]
    refine List.Pairwise.imp_of_mem ?_ hs
    intro a b ha hb hab e
    have h1 := hin a ha
    have h2 := hin b hb
    have := h.tinj a.toNat b.toNat (by omega) (by omega) (by omega)
    omega
  have h1 := nodup_short (turnL m τ l) (l.map (fun y => ((τ y.toNat : Nat) : Int))) (sorted_nodup (listed_sorted _ _)) (fun x hx => by
    obtain ⟨y, hy, rfl⟩ := (turnL_mem h hl).1 hx
    exact List.mem_map.2 ⟨y, hy, rfl⟩)
  have h2 := nodup_short (l.map (fun y => ((τ y.toNat : Nat) : Int))) (turnL m τ l) hnd (fun x hx => by
    obtain ⟨y, hy, rfl⟩ := List.mem_map.1 hx
    exact (turnL_mem h hl).2 ⟨y, hy, rfl⟩)
  rw [List.length_map] at h1 h2
  omega
theorem turnL_hard (h : Turn pots X m σ τ) {l : List Int} (hl : isList l (m : Int) = true) (hh : hardB X l = false) : hardB pots (turnL m τ l) = false := by
  obtain ⟨hin, _⟩ := (rises_iff (m : Int) l 0).1 hl
  refine hard_of (fun a b hab hb => ?_)
  obtain ⟨i, hi, rfl⟩ := h.ssur a (by omega)
  obtain ⟨k, hk, rfl⟩ := h.ssur b hb
  obtain ⟨y, hy, hd⟩ := hard_false hh (show i < X.length by rw [h.len]; exact hi) (show k < X.length by rw [h.len]; exact hk) (fun e => by rw [e] at hab; omega)
  have hyb := hin y hy
  refine ⟨((τ y.toNat : Nat) : Int), (turnL_mem h hl).2 ⟨y, hy, rfl⟩, ?_⟩
  rw [Int.toNat_natCast]
  exact fun e => hd ((h.same i k y.toNat hi hk (by omega)).2 e)
theorem turnL_inj (h : Turn pots X m σ τ) {l l' : List Int} (hl : isList l (m : Int) = true) (hl' : isList l' (m : Int) = true) (e : turnL m τ l = turnL m τ l') : l = l' := by
  obtain ⟨hin, hs⟩ := (rises_iff (m : Int) l 0).1 hl
  obtain ⟨hin', hs'⟩ := (rises_iff (m : Int) l' 0).1 hl'
  have key : ∀ {a b : List Int}, isList a (m : Int) = true → isList b (m : Int) = true → (∀ x ∈ a, 0 ≤ x ∧ x < (m : Int)) → (∀ x ∈ b, 0 ≤ x ∧ x < (m : Int)) → turnL m τ a = turnL m τ b → ∀ x ∈ a, x ∈ b := by
    intro a b ha hb hia hib e x hx
    have h1 := (turnL_mem h ha).2 ⟨x, hx, rfl⟩
    rw [e] at h1
    obtain ⟨y, hy, e2⟩ := (turnL_mem h hb).1 h1
    have g1 := hia x hx
    have g2 := hib y hy
    have := h.tinj x.toNat y.toNat (by omega) (by omega) (by omega)
    have : x = y := by omega
    rw [this]; exact hy
  exact sorted_ext (· < ·) (fun a => Int.lt_irrefl a) (fun a b c => Int.lt_trans) l l' hs hs' (fun x => ⟨key hl hl' hin hin' e x, key hl' hl hin' hin e.symm x⟩)
theorem turn_few_le (h : Turn pots X m σ τ) (hf : checkShelf (m : Int) pots = 0) (hfX : checkShelf (m : Int) X = 0) (hF : isF (m : Int) X = true) : fewN (m : Int) pots ≤ fewN (m : Int) X := by
  obtain ⟨_, _, l, h1, h2, h3⟩ := few_first hfX hF
  rw [← h3, ← turnL_len h h1]
  exact few_least hf (listed_isList _ m) (turnL_hard h h1 h2)
theorem few_mem {l : List Int} (hf : checkShelf (m : Int) pots = 0) : l ∈ fewL (m : Int) pots → isList l (m : Int) = true ∧ hardB pots l = false ∧ l.length = fewN (m : Int) pots := by
  intro hl
  rcases isF_err hf with ⟨_, e, _⟩ | ⟨n, _, _, h3, _, _⟩
  · rw [e] at hl; simp at hl
  · have := few_spec hf h3 l hl
    have hn : fewN (m : Int) pots = n := by unfold fewN; rw [h3]; rfl
    rw [hn]
    exact ⟨this.1, this.2.2, this.2.1⟩
theorem turn_count_le (h : Turn pots X m σ τ) (hf : checkShelf (m : Int) pots = 0) (hfX : checkShelf (m : Int) X = 0) (he : fewN (m : Int) pots = fewN (m : Int) X) : (fewL (m : Int) X).length ≤ (fewL (m : Int) pots).length := by
  have := nodup_short ((fewL (m : Int) X).map (turnL m τ)) (fewL (m : Int) pots) ?_ ?_
  · rwa [List.length_map] at this
  · unfold List.Nodup
    rw [List.pairwise_map]
    refine List.Pairwise.imp_of_mem ?_ (fewL_sorted (m : Int) X)
    intro a b ha hb hab e
    have := turnL_inj h (few_mem hfX ha).1 (few_mem hfX hb).1 e
    rw [this] at hab
    exact before_irr b hab
  · intro x hx
    obtain ⟨l, hl, rfl⟩ := List.mem_map.1 hx
    obtain ⟨h1, h2, h3⟩ := few_mem hfX hl
    obtain ⟨n, g1, g2, g3⟩ := few_min hf (listed_isList (bitsOf m (fun x => l.any (fun y => τ y.toNat == x))) m) (turnL_hard h h1 h2)
    refine g3 ?_
    have hn : fewN (m : Int) pots = n := by unfold fewN; rw [g1]; rfl
    have := turnL_len h h1
    unfold turnL at this
    omega
end

/-! ### shelves that are turned round -/

theorem shift_back {n r i : Nat} (hn : 0 < n) (hi : i < n) : ((i + r) % n + (n - r % n)) % n = i := by
  rw [Nat.mod_add_mod]
  have h1 := Nat.div_add_mod r n
  have h2 := Nat.mod_lt r hn
  have e : i + r + (n - r % n) = i + n * (r / n + 1) := by rw [Nat.mul_add]; omega
  rw [e, Nat.add_mul_mod_self_left, Nat.mod_eq_of_lt hi]
theorem shift_to {n r i : Nat} (hn : 0 < n) (hi : i < n) : ((i + (n - r % n)) % n + r) % n = i := by
  rw [Nat.mod_add_mod]
  have h1 := Nat.div_add_mod r n
  have h2 := Nat.mod_lt r hn
  have e : i + (n - r % n) + r = i + n * (r / n + 1) := by rw [Nat.mul_add]; omega
  rw [e, Nat.add_mul_mod_self_left, Nat.mod_eq_of_lt hi]
theorem shift_inj {n r i k : Nat} (hn : 0 < n) (hi : i < n) (hk : k < n) (e : (i + r) % n = (k + r) % n) : i = k := by
  have h1 := shift_back (r := r) hn hi
  rw [e, shift_back hn hk] at h1
  exact h1.symm

def rowT (p : List Int) (m a c : Nat) (k : Nat) : List Int := (List.range k).map (fun x => (p.getD ((x + a) % m) 0 + (c : Int)) % 5)
theorem rowT_succ (p : List Int) (m a c k : Nat) : rowT p m a c (k + 1) = rowT p m a c k ++ [(p.getD ((k + a) % m) 0 + (c : Int)) % 5] := by
  unfold rowT
  rw [List.range_succ, List.map_append]; rfl
theorem rowT_len (p : List Int) (m a c k : Nat) : (rowT p m a c k).length = k := by simp [rowT]
def turnP (pots : List (List Int)) (m a b c i : Nat) : List (List Int) := (List.range i).map (fun x => rowT (pots.getD ((x + b) % pots.length) []) m a c m)
theorem turnP_succ (pots : List (List Int)) (m a b c i : Nat) : turnP pots m a b c (i + 1) = turnP pots m a b c i ++ [rowT (pots.getD ((i + b) % pots.length) []) m a c m] := by
  unfold turnP
  rw [List.range_succ, List.map_append]; rfl
theorem turnP_len (pots : List (List Int)) (m a b c i : Nat) : (turnP pots m a b c i).length = i := by simp [turnP]
theorem turnP_mk (pots : List (List Int)) (m a b c : Nat) {i j : Nat} (hi : i < pots.length) (hj : j < m) : mk (turnP pots m a b c pots.length) i j = (mk pots ((i + b) % pots.length) ((j + a) % m) + (c : Int)) % 5 := by
  have hl : i < (turnP pots m a b c pots.length).length := by rw [turnP_len]; exact hi
  have e1 : (turnP pots m a b c pots.length)[i] = rowT (pots.getD ((i + b) % pots.length) []) m a c m := by simp [turnP]
  have e2 : (turnP pots m a b c pots.length).getD i [] = rowT (pots.getD ((i + b) % pots.length) []) m a c m := by rw [getP hl, e1]
  have hj2 : j < (rowT (pots.getD ((i + b) % pots.length) []) m a c m).length := by rw [rowT_len]; exact hj
  have e3 : (rowT (pots.getD ((i + b) % pots.length) []) m a c m)[j] = ((pots.getD ((i + b) % pots.length) []).getD ((j + a) % m) 0 + (c : Int)) % 5 := by simp [rowT]
  have e4 : mk (turnP pots m a b c pots.length) i j = ((turnP pots m a b c pots.length).getD i []).getD j 0 := rfl
  rw [e4, e2, getD_lt _ _ hj2, e3]
  rfl
theorem turnP_fine {m : Nat} {pots : List (List Int)} (hf : checkShelf (m : Int) pots = 0) (a b c : Nat) : checkShelf (m : Int) (turnP pots m a b c pots.length) = 0 := by
  obtain ⟨f1, f2, f3, f4⟩ := fine_spec hf
  refine fine_mk (by omega) (by rw [turnP_len]; omega) (fun p hp => ?_) (fun p hp x hx => ?_)
  · obtain ⟨t, ht, rfl⟩ := List.mem_map.1 hp
    exact rowT_len _ _ _ _ _
  · obtain ⟨t, ht, rfl⟩ := List.mem_map.1 hp
    obtain ⟨y, hy, rfl⟩ := List.mem_map.1 hx
    have := Int.emod_nonneg ((pots.getD ((t + b) % pots.length) []).getD ((y + a) % m) 0 + (c : Int)) (by omega : (5 : Int) ≠ 0)
    have := Int.emod_lt_of_pos ((pots.getD ((t + b) % pots.length) []).getD ((y + a) % m) 0 + (c : Int)) (by omega : (0 : Int) < 5)
    omega
theorem turnP_turn {m : Nat} {pots : List (List Int)} (hf : checkShelf (m : Int) pots = 0) (a b c : Nat) : Turn pots (turnP pots m a b c pots.length) m (fun i => (i + b) % pots.length) (fun j => (j + a) % m) := by
  obtain ⟨f1, f2, f3, f4⟩ := fine_spec hf
  have hn : 0 < pots.length := by omega
  have hm : 0 < m := by omega
  refine ⟨turnP_len _ _ _ _ _ _, fun i _ => Nat.mod_lt _ hn, fun i k hi hk e => shift_inj hn hi hk e, fun i hi => ⟨(i + (pots.length - b % pots.length)) % pots.length, Nat.mod_lt _ hn, shift_to hn hi⟩, fun j _ => Nat.mod_lt _ hm, fun j k hj hk e => shift_inj hm hj hk e, fun j hj => ⟨(j + (m - a % m)) % m, Nat.mod_lt _ hm, shift_to hm hj⟩, fun i k j hi hk hj => ?_⟩
  rw [turnP_mk pots m a b c hi hj, turnP_mk pots m a b c hk hj]
  obtain ⟨_, _, v1, v2⟩ := mk_val hf (Nat.mod_lt (i + b) hn) (Nat.mod_lt (j + a) hm)
  obtain ⟨_, _, v3, v4⟩ := mk_val hf (Nat.mod_lt (k + b) hn) (Nat.mod_lt (j + a) hm)
  generalize mk pots ((i + b) % pots.length) ((j + a) % m) = x at v1 v2 ⊢
  generalize mk pots ((k + b) % pots.length) ((j + a) % m) = y at v3 v4 ⊢
  omega

theorem k12 (hG : Good Try.prog (envOf [(40, mkC [v40]), (17, mkC [v17]), (42, mkC [v42]), (27, mkC [v27]), (45, mkC [v45]), (30, mkC [v30])])) : v12.Kept Try.prog 12 := by
  rintro ⟨m, pots, marks, pt, values, ⟨⟩⟩ hpre k hk
  change List (List Int) at pots
  change Int at m marks pt values
  refine aspec hmix hG Try.func12 tx12 (Eq.mpr (eq12 m pots marks pt values k) ?_)
  replace hk : k (.bool true) [] := hk
  have ha0 : 0 ≤ marks := hpre.1.1
  have ha1 : marks ≤ 255 := hpre.1.2
  have hb0 : 0 ≤ pt := hpre.2.1.1
  have hb1 : pt ≤ 255 := hpre.2.1.2
  have hc0 : 0 ≤ values := hpre.2.2.1
  have hc1 : values ≤ 255 := hpre.2.2.2
  obtain ⟨a, rfl⟩ := Int.eq_ofNat_of_zero_le ha0
  obtain ⟨b, rfl⟩ := Int.eq_ofNat_of_zero_le hb0
  obtain ⟨c, rfl⟩ := Int.eq_ofNat_of_zero_le hc0
  unfold vc12
  refine ⟨trivial, br_intro (fun h1 => ⟨trivial, hk⟩) (fun h1 => ?_)⟩
  obtain ⟨hf, hs⟩ := fine_of (notfine_f h1)
  obtain ⟨f1, f2, f3, f4⟩ := fine_spec hf
  obtain ⟨mm, rfl⟩ := Int.eq_ofNat_of_zero_le (show 0 ≤ m by omega)
  have hn : 0 < pots.length := by omega
  have hm : 0 < mm := by omega
  refine Loop.upto (fun i => ((a : Int), (b : Int), (c : Int), (i : Int), (mm : Int), pots, (mm : Int), turnP pots mm a b c i, ())) (fun i => True) pots.length rfl trivial ?_ ?_
  · intro i K hi _ hK
    have hK := hK trivial
    rw [turnP_succ] at hK
    dsimp only
    have hlt : (i + b) % pots.length < pots.length := Nat.mod_lt _ hn
    have hmod : ((i : Int) + (b : Int)) % ((pots.length : Nat) : Int) = (((i + b) % pots.length : Nat) : Int) := rfl
    have hpl := f3 _ (List.getElem_mem hlt)
    have hpv := f4 _ (List.getElem_mem hlt)
    have htl := turnP_len pots mm a b c i
    rw [getP hlt] at hK
    rw [br_decide]
    simp only [hmod, Int.toNat_natCast]
    refine ⟨fun _ => ⟨fits64 (by omega) (by omega), fits64 (by omega) (by omega), ⟨by omega, by omega⟩, ⟨by omega, hlt⟩, ?_⟩, fun h => absurd hi (by omega)⟩
    generalize pots[(i + b) % pots.length] = p at hpl hpv hK ⊢
    generalize turnP pots mm a b c i = xs at htl hK ⊢
    refine Loop.upto (fun y => ((a : Int), (b : Int), (c : Int), (i : Int), (y : Int), (mm : Int), pots, (mm : Int), p, rowT p mm a c y, xs, ())) (fun y => True) mm rfl trivial ?_ ?_
    · intro y K2 hy _ hK2
      have hK2 := hK2 trivial
      rw [rowT_succ] at hK2
      dsimp only
      have hlt2 : (y + a) % mm < mm := Nat.mod_lt _ hm
      have hlt3 : (y + a) % mm < p.length := by omega
      have hmod2 : ((y : Int) + (a : Int)) % (mm : Int) = (((y + a) % mm : Nat) : Int) := rfl
      have hv := hpv _ (List.getElem_mem hlt3)
      have hrl := rowT_len p mm a c y
      rw [getD_lt _ _ hlt3] at hK2
      rw [br_decide]
      simp only [hmod2, Int.toNat_natCast]
      exact ⟨fun _ => ⟨fits64 (by omega) (by omega), fits64 (by omega) (by omega), ⟨by omega, by omega⟩, ⟨by omega, hlt3⟩, fits64 (by omega) (by omega), fits64 (by omega) (by omega), ⟨by omega, by omega⟩, by simp [big]; omega, fits64 (by omega) (by omega), hK2⟩, fun h => absurd hy (by omega)⟩
    · intro K2 _
      dsimp only
      rw [br_decide]
      exact ⟨fun h => absurd h (by omega), fun _ => ⟨by simp [big]; omega, fits64 (by omega) (by omega), hK⟩⟩
  intro K _
  dsimp only
  rw [br_decide]
  refine ⟨fun h => absurd h (by omega), fun _ => ?_⟩
  have hfX := turnP_fine hf a b c
  have hT := turnP_turn hf a b c
  generalize turnP pots mm a b c pots.length = X at hfX hT
  obtain ⟨σ', τ', hT'⟩ := turn_symm hT
  have hsX : smallS X := by
    obtain ⟨_, g2, g3, _⟩ := fine_spec hfX
    exact ⟨by omega, fun q hq => by have := g3 q hq; omega⟩
  have hrl : (List.replicate mm (-1 : Int)).length ≤ 1152921504606846976 := by rw [List.length_replicate]; omega
  have hF := turn_isF hT hf hfX
  have hN : (neededL (mm : Int) X).length = (neededL (mm : Int) pots).length := Nat.le_antisymm (turn_needed_le hT hf hfX) (turn_needed_le hT' hfX hf)
  have hLk := turn_looks hT hf hfX
  have hlk0 := looks_unseen hf
  have hlkX := looks_unseen hfX
  have hfew : isF (mm : Int) pots = true → fewN (mm : Int) X = fewN (mm : Int) pots := fun h => Nat.le_antisymm (turn_few_le hT' hfX hf h) (turn_few_le hT hf hfX (hF.trans h))
  have hcount : (fewL (mm : Int) X).length = (fewL (mm : Int) pots).length := by
    cases h : isF (mm : Int) pots with
    | true => exact Nat.le_antisymm (turn_count_le hT hf hfX (hfew h).symm) (turn_count_le hT' hfX hf (hfew h))
    | false =>
      have e0 : ∀ {p : List (List Int)}, checkShelf (mm : Int) p = 0 → isF (mm : Int) p = false → fewL (mm : Int) p = [] := by
        intro p hp hh
        rcases isF_err hp with ⟨_, e, _⟩ | ⟨_, _, e, _⟩
        · exact e
        · unfold isF at hh
          rw [e] at hh; cases hh
      rw [e0 hf h, e0 hfX (hF.trans h)]
  simp only [Int.toNat_natCast]
  refine ⟨hf, hfX, hs, hsX, by show (mm : Int) ≤ 100; omega, ⟨hs, hrl⟩, by show (mm : Int) ≤ 100; omega, ⟨hsX, hrl⟩, ?_⟩
  have h0 : (Int.toNat (0 : Int)) = 0 := rfl
  have htr : v17.p () ∧ k (.bool true) [] := ⟨trivial, hk⟩
  rw [unseen_ok hf, unseen_ok hfX, hlk0, hlkX, hLk, hF]
  simp only [hcount, hN, hf, hfX, bne_self_eq_false, beq_self_eq_true, Bool.not_true, br_t, br_f]
  cases h : isF (mm : Int) pots with
  | true =>
    obtain ⟨a1, a2, _⟩ := few_first hf h
    obtain ⟨_, b2, _⟩ := few_first hfX (hF.trans h)
    simp only [Bool.not_true, br_t, h0, a2, b2, hfew h, beq_self_eq_true]
    exact ⟨⟨by omega, a1⟩, a1, ⟨by omega, a1⟩, a1, htr⟩
  | false =>
    simp only [Bool.not_false, tf1, br_f]
    exact htr
end Go.Abs.King
end

section
/- What comes in: arguments that can be read are plain data, of which all cells are known. -/
namespace Go.Abs
open Go.ChangeShapes Go.WideShapes Go.RowKit

/-- All that lies in a world is known, for good. -/
def knowAll (w : World) : Know where
  cells := fun b => match w.heap[b]? with
    | some (.cells cs _ _) => some cs
    | _ => none
  inv := fun _ => none
  y := none

theorem knowAll_cells {w : World} {b : Nat} {cs : Array Value} (h : (knowAll w).cells b = some cs) : ∃ e fz, w.heap[b]? = some (.cells cs e fz) := by
  simp only [knowAll] at h
  split at h
  · rename_i cs' e fz hb
    cases h
    exact ⟨e, fz, hb⟩
  · cases h

theorem wok_all (w : World) : WOk (fun b => b < w.heap.size) (knowAll w) w where
  knows := ⟨fun b cs h => knowAll_cells h, fun b p h => by cases h⟩
  lt := fun b h => h
  inv := fun b p h => by cases h
  apart := fun b p h => by cases h

theorem below_of_kept {w w' : World} (h : Kept (fun b => b < w.heap.size) w w') : Below w.heap.size w w' := ⟨h.os, h.tape, h.output, h.size, fun k hk => h.block k hk⟩

theorem cells_slab {w : World} {base : Nat} {a : Addr} {n : Nat} {cs : List Value} (h : w.cells? base a n = some cs) (hn : 0 < n) :
    a.spot = none ∧ ∃ arr, (knowAll w).cells a.block = some arr ∧ cs = slab arr a.off n := by
  obtain ⟨_, hl, hc⟩ := World.cells?_some h
  have h0 := hc 0 hn
  have e0 : a.add 0 = a := by simp [Addr.add]
  rw [e0, List.getElem?_eq_getElem (by omega)] at h0
  have hs := World.cell?_spot h0
  refine ⟨hs, ?_⟩
  have hb : ∃ arr e fz, w.heap[a.block]? = some (.cells arr e fz) := by
    unfold World.cell? at h0
    split at h0
    · exact ⟨_, _, _, ‹_›⟩
    · cases h0
  obtain ⟨arr, e, fz, hb⟩ := hb
  refine ⟨arr, by simp only [knowAll, hb], ?_⟩
  have hcell : ∀ i, i < n → arr[a.off + i]? = cs[i]? := by
    intro i hi
    rw [← hc i hi]
    have e1 : (a.add i).block = a.block := by unfold Addr.add; split <;> rfl
    have e2 : (a.add i).off = a.off + i := by unfold Addr.add; split <;> simp_all
    have e3 : (a.add i).spot = none := by unfold Addr.add; split <;> simp_all
    unfold World.cell?
    rw [e1, hb]
    simp only [e3, e2, Option.isSome_none, Bool.false_eq_true, if_false]
  apply List.ext_getElem?
  intro i
  unfold slab
  rw [List.getElem?_take, List.getElem?_drop]
  by_cases hi : i < n
  · rw [if_pos hi, ← hcell i hi, Array.getElem?_toList]
  · rw [if_neg hi, List.getElem?_eq_none (by omega)]

/-- All numbers fit their kinds. -/
def Ty.wf : (t : Ty) → t.den → Prop
  | .int k, n => (Lit.int k n).wf = true
  | .bool, _ => True
  | .slice e, l => ∀ x ∈ (show List e.den from l), e.wf x
  | .pair a b, x => a.wf x.1 ∧ b.wf x.2

variable {H : Type} {enc : TypeId × Value → H} {P : Program} {w : World} {base : Nat} {spare : Nat → Bool} {held : Bool}

theorem trod_bool {t : TypeId} {fuel : Nat} {cs : List Value} {x : DataW H × List MemPlace} (ht : P.underlying t = some .bool) (h : DataW.trod enc P w base spare held fuel t cs = some x) : ∃ b, cs = [.bool b] := by
  cases fuel with
  | zero => simp [DataW.trod] at h
  | succ n =>
    unfold DataW.trod at h
    rw [ht] at h
    split at h <;> simp_all

theorem den_fields {f : TypeId → Option Ty} {K : Know} {n : Nat} {cs : List Value} (hsz : ∀ t ty, f t = some ty → P.cellsOf t = ty.size)
    (hf : ∀ t ty, f t = some ty → ∀ cs x, DataW.trod enc P w base spare held n t cs = some x → ∃ y : ty.den, DenRep K ty y cs ∧ ty.wf y) :
    ∀ (fs : List Field) (o : Nat) (ty : Ty), tyFields f fs o = some ty → cs.length = o + ty.size → (∀ a ∈ fs, ∃ x, DataW.trod enc P w base spare held n a.type ((cs.drop a.offset).take (P.cellsOf a.type)) = some x) → ∃ y : ty.den, DenRep K ty y (cs.drop o) ∧ ty.wf y
  | [], _, _, h, _, _ => by simp [tyFields] at h
  | [a], o, ty, h, hl, hx => by
    replace h : (if a.offset = o then f a.type else none) = some ty := h
    split at h
    · rename_i ho
      obtain ⟨x, hx⟩ := hx a (by simp)
      rw [hsz _ _ h, ho, List.take_of_length_le (by rw [List.length_drop]; omega)] at hx
      exact hf _ _ h _ _ hx
    · cases h
  | a :: b :: r, o, ty, h, hl, hx => by
    replace h : (if a.offset = o then (match f a.type with
      | some x => match tyFields f (b :: r) (o + x.size) with
        | some y => some (.pair x y)
        | none => none
      | none => none) else none) = some ty := h
    split at h
    · rename_i ho
      split at h
      · rename_i x1 h1
        split at h
        · rename_i x2 h2
          cases h
          simp only [Ty.size] at hl
          obtain ⟨z, hz⟩ := hx a (by simp)
          rw [hsz _ _ h1, ho] at hz
          obtain ⟨y1, d1, w1⟩ := hf _ _ h1 _ _ hz
          obtain ⟨y2, d2, w2⟩ := den_fields hsz hf (b :: r) (o + x1.size) x2 h2 (by omega) (fun c hc => hx c (List.mem_cons_of_mem _ hc))
          refine ⟨(y1, y2), ⟨_, _, ?_, d1, d2⟩, ⟨w1, w2⟩⟩
          rw [← List.drop_drop]
          exact (List.take_append_drop _ _).symm
        · cases h
      · cases h
    · cases h

theorem den_of_trod : ∀ (d : Nat) (t : TypeId) (ty : Ty), tyOf P d t = some ty → ∀ (fuel : Nat) (cs : List Value) (x : DataW H × List MemPlace), DataW.trod enc P w base spare held fuel t cs = some x → ∃ y : ty.den, DenRep (knowAll w) ty y cs ∧ ty.wf y := by
  intro d
  induction d with
  | zero => intro t ty h; simp [tyOf] at h
  | succ d ih =>
    intro t ty h fuel cs x hx
    unfold tyOf at h
    split at h
    · rename_i i k hi hu
      split at h
      · cases h
        obtain ⟨n, rfl, _, hw⟩ := DataW.trod_int hu hx
        exact ⟨n, rfl, hw⟩
      · cases h
    · rename_i i hi hu
      split at h
      · cases h
        obtain ⟨b, rfl⟩ := trod_bool hu hx
        exact ⟨b, rfl, trivial⟩
      · cases h
    · rename_i i e hi hu
      split at h
      · split at h
        · rename_i a ha
          cases h
          obtain ⟨_, _, hi2, hi3, _, _⟩ := tyOf_info d e a ha
          have hco : P.cellsOf e = a.size := by simp only [Program.cellsOf, hi2, Option.map_some, Option.getD_some, hi3]
          rcases Deep.open_slice hu hx with ⟨rfl, _⟩ | ⟨ad, len, cap, m, n, D, Pl, rfl, _, hlc, _, hm, _, hel⟩
          · exact ⟨([] : List a.den), ⟨none, 0, rfl, Nat.le_refl _, Or.inl rfl⟩, fun x hx => by cases hx⟩
          · have hlm : len ≤ m := by rw [hm]; split <;> omega
            have hall : ∀ i, i < len → ∃ y : a.den, a.wf y ∧ ad.spot = none ∧ ∃ arr, (knowAll w).cells ad.block = some arr ∧ DenRep (knowAll w) a y (slab arr (ad.off + i * a.size) a.size) := by
              intro i hi
              obtain ⟨cs', hc1, hc2⟩ := hel i (by omega)
              rw [hco] at hc1
              obtain ⟨s1, arr, s2, s3⟩ := cells_slab hc1 a.size_pos
              obtain ⟨y, y1, y2⟩ := ih e a ha n cs' _ hc2
              have e1 : (ad.add (i * a.size)).block = ad.block := by unfold Addr.add; split <;> rfl
              have e2 : (ad.add (i * a.size)).off = ad.off + i * a.size := by unfold Addr.add; split <;> simp_all
              have e3 : ad.spot = none := by
                obtain ⟨cs0, hc0, _⟩ := hel 0 (by omega)
                rw [hco, Nat.zero_mul] at hc0
                have e0 : ad.add 0 = ad := by simp [Addr.add]
                rw [e0] at hc0
                exact (cells_slab hc0 a.size_pos).1
              rw [e1] at s2
              rw [e2] at s3
              rw [s3] at y1
              exact ⟨y, y2, e3, arr, s2, y1⟩
            let g : Nat → a.den := fun i => if h : i < len then Classical.choose (hall i h) else a.zero
            have hg : ∀ i (h : i < len), g i = Classical.choose (hall i h) := fun i h => by simp only [g, dif_pos h]
            refine ⟨((List.range len).map g : List a.den), ⟨some ad, cap, ?_, ?_, ?_⟩, ?_⟩
            · rw [List.length_map, List.length_range]
            · rw [List.length_map, List.length_range]; exact hlc
            · rcases Nat.eq_zero_or_pos len with h0 | h0
              · subst h0; exact Or.inl rfl
              · have h1 := Classical.choose_spec (hall 0 h0)
                obtain ⟨_, s1, arr, s2, _⟩ := h1
                refine Or.inr ⟨ad.block, ad.off, arr, ?_, s2, ?_⟩
                · rw [← s1]
                · intro i hi
                  rw [List.length_map, List.length_range] at hi
                  have h2 := Classical.choose_spec (hall i hi)
                  obtain ⟨_, _, arr', s3, s4⟩ := h2
                  rw [s2] at s3
                  cases s3
                  rw [List.getElem_map, List.getElem_range, hg i hi]
                  exact s4
            · intro x hx
              obtain ⟨i, hi, rfl⟩ := List.mem_map.1 hx
              have hi := List.mem_range.1 hi
              rw [hg i hi]
              exact (Classical.choose_spec (hall i hi)).1
        · cases h
      · cases h
    · rename_i i fs hi hu
      split at h
      · rename_i a ha
        split at h
        · rename_i hs
          cases h
          obtain ⟨xs, n, rfl, _, hl, hxl, hx⟩ := DataW.trod_struct hu hx
          have hco : P.cellsOf t = ty.size := by simp only [Program.cellsOf, hi, Option.map_some, Option.getD_some, hs]
          have := den_fields (K := knowAll w) (cs := cs) (n := n) (enc := enc) (P := P) (w := w) (base := base) (spare := spare) (held := held) (f := tyOf P d) (fun t ty h => by
              obtain ⟨_, _, hi2, hi3, _, _⟩ := tyOf_info d t ty h
              simp only [Program.cellsOf, hi2, Option.map_some, Option.getD_some, hi3]) (fun t ty h cs x hx => ih t ty h n cs x hx) fs.toList 0 ty ha (by omega) (fun f hf => by
              obtain ⟨i, hi, rfl⟩ := List.getElem_of_mem hf
              have hi' : i < fs.size := by simpa using hi
              have := hx i fs[i] (by simp [hi'])
              rw [List.getElem?_eq_getElem (by omega)] at this
              exact ⟨_, by simpa using this⟩)
          simpa using this
        · cases h
      · cases h
    · cases h

def isStructT (P : Program) (t : TypeId) : Bool := match P.underlying t with
  | some (.struct _) => true
  | _ => false
def isSliceT (P : Program) (t : TypeId) : Bool := match P.underlying t with
  | some (.slice _) => true
  | _ => false
theorem isStructT_spec {t : TypeId} (h : isStructT P t = true) : ∃ fs, P.underlying t = some (.struct fs) := by
  unfold isStructT at h
  split at h
  · exact ⟨_, ‹_›⟩
  · cases h
theorem isSliceT_spec {t : TypeId} (h : isSliceT P t = true) : ∃ e, P.underlying t = some (.slice e) := by
  unfold isSliceT at h
  split at h
  · exact ⟨_, ‹_›⟩
  · cases h

/-- An argument that is a struct. -/
theorem arg_struct {r : Reach} {b0 d : Nat} {t : TypeId} (ty : Ty) {v : Value} {dd : DataW H} {ps : List MemPlace} (hs : isStructT P t = true) (ht : tyOf P d t = some ty)
    (hv : Value.okWide P w r b0 t v) (h : DataW.Trod enc P w base spare held t v dd ps) (Hs : Nat → Option Hd) : ∃ y : ty.den, Rep (knowAll w) Hs (.agg (ty.cells y)) v ∧ ty.wf y := by
  obtain ⟨fs, hu⟩ := isStructT_spec hs
  obtain ⟨cs, rfl, _⟩ := okWide_struct hu hv
  obtain ⟨fuel, hf⟩ := h
  obtain ⟨y, h1, h2⟩ := den_of_trod d t ty ht fuel _ _ hf
  refine ⟨y, ?_, h2⟩
  simp only [Rep]
  exact ⟨cs, rfl, repL_cells ty y _ h1⟩

/-- An argument that is a slice. -/
theorem arg_slice {r : Reach} {b0 d : Nat} {t : TypeId} (ty : Ty) {v : Value} {dd : DataW H} {ps : List MemPlace} (hs : isSliceT P t = true) (ht : tyOf P d t = some (.slice ty))
    (hv : Value.okWide P w r b0 t v) (h : DataW.Trod enc P w base spare held t v dd ps) (Hs : Nat → Option Hd) : ∃ l : List ty.den, Rep (knowAll w) Hs (.imm ty l false) v ∧ ∀ x ∈ l, ty.wf x := by
  obtain ⟨e, hu⟩ := isSliceT_spec hs
  obtain ⟨a, len, cap, rfl⟩ := okWide_slice hu hv
  obtain ⟨fuel, hf⟩ := h
  obtain ⟨y, h1, h2⟩ := den_of_trod d t (.slice ty) ht fuel _ _ hf
  refine ⟨(show List ty.den from y), ?_, h2⟩
  obtain ⟨ba, ca, e1, e2, e3⟩ := h1
  simp only [Rep]
  refine ⟨ba, ca, ?_, e2, ⟨fun h => absurd h (by simp), e3⟩⟩
  simpa [Value.cells] using e1

/-- An argument that is a number. -/
theorem arg_int {r : Reach} {b0 : Nat} {t : TypeId} (k : IntKind) {v : Value} {dd : DataW H} {ps : List MemPlace} (hu : P.underlying t = some (.int k))
    (hv : Value.okWide P w r b0 t v) (h : DataW.Trod enc P w base spare held t v dd ps) (Hs : Nat → Option Hd) : ∃ n, Rep (knowAll w) Hs (.int k n) v ∧ (Lit.int k n).wf = true := by
  obtain ⟨n, rfl, _, _, h2⟩ := open_int hu hv h
  exact ⟨n, by simp [Rep], h2⟩

/-- A function that returns true, at arguments that can be read, does so, and leaves all as it was. -/
theorem law_calls {P : Program} {f : FuncId} {gs : List AVal} {W : World} {vs : List Value} (h : ASpec P f gs [] (fun v _ => v = .bool true)) (hr : RepL (knowAll W) (fun _ => none) gs vs) :
    Calls P f vs.toArray W fun e w' => e = .returned (.bool true) ∧ Below W.heap.size W w' := by
  refine (h (fun b => b < W.heap.size) (knowAll W) (fun _ => none) W vs (wok_all W) hr ⟨fun r c f hd h => (by cases h), fun r c hd b h => (by cases h), fun r c hd b h => (by cases h), fun r r' c c' hd hd' b h => (by cases h)⟩ (fun _ _ => rfl)).mono ?_
  rintro e w' ⟨v, r, RM, K', H', rfl, rfl, _, hrep, _, _, _, hk, _⟩
  simp only [Rep] at hrep
  subst hrep
  exact ⟨rfl, below_of_kept hk⟩
theorem byte_wf {n : Int} (h : (Lit.int .u8 n).wf = true) : 0 ≤ n ∧ n ≤ 255 := by
  unfold Lit.wf at h
  rw [Bool.and_eq_true, decide_eq_true_eq, decide_eq_true_eq] at h
  have e1 : IntKind.min .u8 = 0 := by decide
  have e2 : IntKind.max .u8 = 255 := by decide
  omega
end Go.Abs
end

section
/- Functions that keep contracts, put together. -/
namespace Go.Abs

/-- A function keeps its contract at each of these shapes of arguments. -/
structure Keeps (P : Program) (f : FuncId) (vs : List Var) : Prop where
  code : ∃ fn c, P.funcs[f]? = some fn ∧ fn.body = some c ∧ (fn.name == "runtime.NumGoroutine") = false
  kept : ∀ v ∈ vs, v.Kept P f

theorem Keeps.add {P : Program} {f : FuncId} {vs : List Var} {l : List (FuncId × Contract)} (h : Keeps P f vs) (hG : Good P (envOf l)) : Good P (envOf ((f, mkC vs) :: l)) := by
  obtain ⟨fn, c, h1, h2, h3⟩ := h.code
  exact good_cons hG h1 h2 h3 (spec_vars vs h.kept)

/-- A function's code is there. -/
structure HasCode (P : Program) (f : FuncId) : Prop where
  code : ∃ fn c, P.funcs[f]? = some fn ∧ fn.body = some c ∧ (fn.name == "runtime.NumGoroutine") = false
theorem hasCode {P : Program} {f : FuncId} {fn : Func} (hf : P.funcs[f]? = some fn) (hb : fn.body.isSome = true) (hn : (fn.name == "runtime.NumGoroutine") = false) : HasCode P f := by
  obtain ⟨c, hc⟩ := Option.isSome_iff_exists.1 hb
  exact ⟨fn, c, hf, hc, hn⟩

theorem keeps1 {P : Program} {f : FuncId} {v : Var} (h : HasCode P f) (hv : v.Kept P f) : Keeps P f [v] := ⟨h.code, fun v' hm => by simp at hm; subst hm; exact hv⟩
theorem keeps2 {P : Program} {f : FuncId} {v v2 : Var} (h : HasCode P f) (hv : v.Kept P f) (hv2 : v2.Kept P f) : Keeps P f [v, v2] := ⟨h.code, fun v' hm => by simp at hm; rcases hm with rfl | rfl; exact hv; exact hv2⟩
theorem Keeps.one {P : Program} {f : FuncId} {v : Var} (h : Keeps P f [v]) : v.Kept P f := h.kept v (by simp)

theorem kept_zero {P : Program} {f : FuncId} {v : Var} (μ : v.S.den Unit → Nat) : (v.below μ 0).Kept P f := fun x hx => absurd hx.2 (Nat.not_lt_zero _)
theorem kept_all {P : Program} {f : FuncId} {v : Var} (μ : v.S.den Unit → Nat) (h : ∀ n, (v.below μ n).Kept P f) : v.Kept P f := fun x hx k hk => h (μ x + 1) x ⟨hx, Nat.lt_succ_self _⟩ k hk
theorem keeps_rec {P : Program} {f : FuncId} {v : Var} (μ : v.S.den Unit → Nat) (hc : HasCode P f) (step : ∀ n, Keeps P f [v.below μ n] → (v.below μ (n + 1)).Kept P f) : Keeps P f [v] := by
  have key : ∀ n, (v.below μ n).Kept P f := by
    intro n
    induction n with
    | zero => exact kept_zero μ
    | succ n ih => exact step n (keeps1 hc ih)
  exact keeps1 hc (kept_all μ key)

theorem aspec_mono {P : Program} {f : FuncId} {gs : List AVal} {cs : List Cont} {k k' : AVal → List Cont → Prop} (h : ASpec P f gs cs k) (hk : ∀ v c, k v c → k' v c) : ASpec P f gs cs k' := by
  intro F K H w vs h1 h2 h3 h4
  refine (h F K H w vs h1 h2 h3 h4).mono ?_
  rintro e w' ⟨v, r, RM, K', H', g1, g2, g3⟩
  exact ⟨v, r, RM, K', H', g1, hk _ _ g2, g3⟩
end Go.Abs
end

section
/- The contracts put together (printed by a program). -/
open Go.Proofs
set_option maxRecDepth 100000
namespace Go.Abs.King
theorem hc15 : HasCode Try.prog 15 := hasCode Try.func15 (by kernel_rfl) (by kernel_rfl)
theorem g15 : Keeps Try.prog 15 [v15] := keeps1 hc15 (k15 good_nil)
theorem hc16 : HasCode Try.prog 16 := hasCode Try.func16 (by kernel_rfl) (by kernel_rfl)
theorem g16 : Keeps Try.prog 16 [v16] := keeps1 hc16 (k16 good_nil)
theorem hc47 : HasCode Try.prog 47 := hasCode Try.func47 (by kernel_rfl) (by kernel_rfl)
theorem g47 : Keeps Try.prog 47 [v47] := keeps1 hc47 (k47 good_nil)
theorem hc52 : HasCode Try.prog 52 := hasCode Try.func52 (by kernel_rfl) (by kernel_rfl)
theorem g52 : Keeps Try.prog 52 [v52] := keeps1 hc52 (k52 good_nil)
theorem hc50 : HasCode Try.prog 50 := hasCode Try.func50 (by kernel_rfl) (by kernel_rfl)
theorem g50 : Keeps Try.prog 50 [v50] := keeps1 hc50 (k50 (g47.add (g52.add good_nil)))
theorem hc51 : HasCode Try.prog 51 := hasCode Try.func51 (by kernel_rfl) (by kernel_rfl)
theorem g51 : Keeps Try.prog 51 [v51] := keeps1 hc51 (k51 (g47.add (g52.add good_nil)))
theorem hc54 : HasCode Try.prog 54 := hasCode Try.func54 (by kernel_rfl) (by kernel_rfl)
theorem g54 : Keeps Try.prog 54 [v54] := keeps1 hc54 (k54 good_nil)
theorem hc78 : HasCode Try.prog 78 := hasCode Try.func78 (by kernel_rfl) (by kernel_rfl)
theorem g78 : Keeps Try.prog 78 [v78] := keeps1 hc78 (k78 good_nil)
theorem hc53 : HasCode Try.prog 53 := hasCode Try.func53 (by kernel_rfl) (by kernel_rfl)
theorem g53 : Keeps Try.prog 53 [v53] := keeps1 hc53 (k53 (g78.add good_nil))
theorem hc81 : HasCode Try.prog 81 := hasCode Try.func81 (by kernel_rfl) (by kernel_rfl)
theorem g81 : Keeps Try.prog 81 [v81] := keeps1 hc81 (k81 good_nil)
theorem hc96 : HasCode Try.prog 96 := hasCode Try.func96 (by kernel_rfl) (by kernel_rfl)
theorem g96 : Keeps Try.prog 96 [v96] := keeps1 hc96 (k96 good_nil)
theorem hc83 : HasCode Try.prog 83 := hasCode Try.func83 (by kernel_rfl) (by kernel_rfl)
theorem g83 : Keeps Try.prog 83 [v83] := keeps1 hc83 (k83 (g96.add good_nil))
theorem hc82 : HasCode Try.prog 82 := hasCode Try.func82 (by kernel_rfl) (by kernel_rfl)
theorem g82 : Keeps Try.prog 82 [v82] := keeps1 hc82 (k82 (g83.add good_nil))
theorem hc95 : HasCode Try.prog 95 := hasCode Try.func95 (by kernel_rfl) (by kernel_rfl)
theorem g95 : Keeps Try.prog 95 [v95a, v95b] := keeps2 hc95 (k95a (g81.add (g82.add good_nil))) (k95b (g81.add (g82.add good_nil)))
theorem hc80 : HasCode Try.prog 80 := hasCode Try.func80 (by kernel_rfl) (by kernel_rfl)
theorem g80 : Keeps Try.prog 80 [v80a, v80b] := keeps2 hc80 (k80a (g95.add good_nil)) (k80b (g95.add good_nil))
theorem hc56 : HasCode Try.prog 56 := hasCode Try.func56 (by kernel_rfl) (by kernel_rfl)
theorem g56 : Keeps Try.prog 56 [v56] := keeps1 hc56 (k56 (g80.add good_nil))
theorem hc64 : HasCode Try.prog 64 := hasCode Try.func64 (by kernel_rfl) (by kernel_rfl)
theorem g64 : Keeps Try.prog 64 [v64] := keeps1 hc64 (k64 good_nil)
theorem hc65 : HasCode Try.prog 65 := hasCode Try.func65 (by kernel_rfl) (by kernel_rfl)
theorem g65 : Keeps Try.prog 65 [v65] := keeps1 hc65 (k65 (g56.add good_nil))
theorem hc85 : HasCode Try.prog 85 := hasCode Try.func85 (by kernel_rfl) (by kernel_rfl)
theorem g85 : Keeps Try.prog 85 [v85a, v85b] := keeps2 hc85 (k85a (g64.add (g65.add good_nil))) (k85b (g64.add (g65.add good_nil)))
theorem hc63 : HasCode Try.prog 63 := hasCode Try.func63 (by kernel_rfl) (by kernel_rfl)
theorem g63 : Keeps Try.prog 63 [v63a, v63b] := keeps2 hc63 (k63a (g85.add good_nil)) (k63b (g85.add good_nil))
theorem hc22 : HasCode Try.prog 22 := hasCode Try.func22 (by kernel_rfl) (by kernel_rfl)
theorem g22 : Keeps Try.prog 22 [v22] := keeps1 hc22 (k22 (g56.add (g63.add good_nil)))
theorem hc79 : HasCode Try.prog 79 := hasCode Try.func79 (by kernel_rfl) (by kernel_rfl)
theorem g79 : Keeps Try.prog 79 [v79] := keeps1 hc79 (k79 good_nil)
theorem hc55 : HasCode Try.prog 55 := hasCode Try.func55 (by kernel_rfl) (by kernel_rfl)
theorem g55 : Keeps Try.prog 55 [v55] := keeps1 hc55 (k55 (g22.add (g79.add good_nil)))
theorem hc68 : HasCode Try.prog 68 := hasCode Try.func68 (by kernel_rfl) (by kernel_rfl)
theorem g68 : Keeps Try.prog 68 [v68] := keeps1 hc68 (k68 good_nil)
theorem hc57 : HasCode Try.prog 57 := hasCode Try.func57 (by kernel_rfl) (by kernel_rfl)
theorem g57 : Keeps Try.prog 57 [v57] := keeps1 hc57 (k57 (g68.add (g80.add good_nil)))
theorem hc18 : HasCode Try.prog 18 := hasCode Try.func18 (by kernel_rfl) (by kernel_rfl)
theorem g18 : Keeps Try.prog 18 [v18] := keeps1 hc18 (k18 (g55.add (g56.add (g57.add good_nil))))
theorem hc66 : HasCode Try.prog 66 := hasCode Try.func66 (by kernel_rfl) (by kernel_rfl)
theorem g66 : Keeps Try.prog 66 [v66] := keeps_rec m66 hc66 (fun n h => k66 n (g57.add (h.add good_nil)))
theorem hc25 : HasCode Try.prog 25 := hasCode Try.func25 (by kernel_rfl) (by kernel_rfl)
theorem g25 : Keeps Try.prog 25 [v25] := keeps1 hc25 (k25 (g55.add (g66.add good_nil)))
theorem hc27 : HasCode Try.prog 27 := hasCode Try.func27 (by kernel_rfl) (by kernel_rfl)
theorem g27 : Keeps Try.prog 27 [v27] := keeps1 hc27 (k27 (g55.add (g68.add good_nil)))
theorem hc76 : HasCode Try.prog 76 := hasCode Try.func76 (by kernel_rfl) (by kernel_rfl)
theorem g76 : Keeps Try.prog 76 [v76] := keeps1 hc76 (k76 good_nil)
theorem hc60 : HasCode Try.prog 60 := hasCode Try.func60 (by kernel_rfl) (by kernel_rfl)
theorem g60 : Keeps Try.prog 60 [v60] := keeps1 hc60 (k60 good_nil)
theorem hc84 : HasCode Try.prog 84 := hasCode Try.func84 (by kernel_rfl) (by kernel_rfl)
theorem g84 : Keeps Try.prog 84 [v84] := keeps1 hc84 (k84 (g60.add good_nil))
theorem hc59 : HasCode Try.prog 59 := hasCode Try.func59 (by kernel_rfl) (by kernel_rfl)
theorem g59 : Keeps Try.prog 59 [v59] := keeps1 hc59 (k59 (g55.add (g56.add (g76.add (g84.add good_nil)))))
theorem hc20 : HasCode Try.prog 20 := hasCode Try.func20 (by kernel_rfl) (by kernel_rfl)
theorem g20 : Keeps Try.prog 20 [v20] := keeps1 hc20 (k20 (g59.add (g60.add good_nil)))
theorem hc98 : HasCode Try.prog 98 := hasCode Try.func98 (by kernel_rfl) (by kernel_rfl)
theorem g98 : Keeps Try.prog 98 [v98] := keeps1 hc98 (k98 good_nil)
theorem hc86 : HasCode Try.prog 86 := hasCode Try.func86 (by kernel_rfl) (by kernel_rfl)
theorem g86 : Keeps Try.prog 86 [v86] := keeps1 hc86 (k86 (g98.add good_nil))
theorem hc89 : HasCode Try.prog 89 := hasCode Try.func89 (by kernel_rfl) (by kernel_rfl)
theorem g89 : Keeps Try.prog 89 [v89] := keeps1 hc89 (k89 good_nil)
theorem hc88 : HasCode Try.prog 88 := hasCode Try.func88 (by kernel_rfl) (by kernel_rfl)
theorem g88 : Keeps Try.prog 88 [v88] := keeps1 hc88 (k88 (g89.add good_nil))
theorem hc99 : HasCode Try.prog 99 := hasCode Try.func99 (by kernel_rfl) (by kernel_rfl)
theorem g99 : Keeps Try.prog 99 [v99] := keeps1 hc99 (k99 (g60.add (g86.add (g83.add good_nil))))
theorem hc94 : HasCode Try.prog 94 := hasCode Try.func94 (by kernel_rfl) (by kernel_rfl)
theorem g94 : Keeps Try.prog 94 [v94] := keeps1 hc94 (k94 good_nil)
theorem hc69 : HasCode Try.prog 69 := hasCode Try.func69 (by kernel_rfl) (by kernel_rfl)
theorem hc87 : HasCode Try.prog 87 := hasCode Try.func87 (by kernel_rfl) (by kernel_rfl)
theorem both69 : ∀ n, (v69n n).Kept Try.prog 69 ∧ (v87n n).Kept Try.prog 87 := by
  intro n
  induction n with
  | zero => exact ⟨kept_zero m69, kept_zero m87⟩
  | succ n ih =>
    have h87 : (v87n (n + 1)).Kept Try.prog 87 := k87 n (g99.add (g94.add (g84.add ((keeps1 hc69 ih.1).add good_nil))))
    exact ⟨k69 (n + 1) (g86.add ((keeps1 hc87 h87).add (g88.add good_nil))), h87⟩
theorem g69 : Keeps Try.prog 69 [v69] := keeps1 hc69 (kept_all m69 (fun n => (both69 n).1))
theorem g87 : Keeps Try.prog 87 [v87] := keeps1 hc87 (kept_all m87 (fun n => (both69 n).2))
theorem hc30 : HasCode Try.prog 30 := hasCode Try.func30 (by kernel_rfl) (by kernel_rfl)
theorem g30 : Keeps Try.prog 30 [v30] := keeps1 hc30 (k30 (g59.add (g69.add good_nil)))
theorem hc70 : HasCode Try.prog 70 := hasCode Try.func70 (by kernel_rfl) (by kernel_rfl)
theorem g70 : Keeps Try.prog 70 [v70] := keeps1 hc70 (k70 (g69.add (g87.add good_nil)))
theorem hc32 : HasCode Try.prog 32 := hasCode Try.func32 (by kernel_rfl) (by kernel_rfl)
theorem g32 : Keeps Try.prog 32 [v32] := keeps1 hc32 (k32 (g59.add (g69.add (g70.add good_nil))))
theorem hc91 : HasCode Try.prog 91 := hasCode Try.func91 (by kernel_rfl) (by kernel_rfl)
theorem g91 : Keeps Try.prog 91 [v91] := keeps1 hc91 (k91 (g56.add good_nil))
theorem hc93 : HasCode Try.prog 93 := hasCode Try.func93 (by kernel_rfl) (by kernel_rfl)
theorem g93 : Keeps Try.prog 93 [v93] := keeps1 hc93 (k93 good_nil)
theorem hc100 : HasCode Try.prog 100 := hasCode Try.func100 (by kernel_rfl) (by kernel_rfl)
theorem g100 : Keeps Try.prog 100 [v100a, v100b] := keeps2 hc100 (k100a (g91.add (g93.add good_nil))) (k100b (g91.add (g93.add good_nil)))
theorem hc92 : HasCode Try.prog 92 := hasCode Try.func92 (by kernel_rfl) (by kernel_rfl)
theorem g92 : Keeps Try.prog 92 [v92a, v92b] := keeps2 hc92 (k92a (g100.add good_nil)) (k92b (g100.add good_nil))
theorem hc72 : HasCode Try.prog 72 := hasCode Try.func72 (by kernel_rfl) (by kernel_rfl)
theorem g72 : Keeps Try.prog 72 [v72] := keeps1 hc72 (k72 (g92.add (g56.add good_nil)))
theorem hc35 : HasCode Try.prog 35 := hasCode Try.func35 (by kernel_rfl) (by kernel_rfl)
theorem g35 : Keeps Try.prog 35 [v35] := keeps1 hc35 (k35 (g55.add (g72.add good_nil)))
theorem hc77 : HasCode Try.prog 77 := hasCode Try.func77 (by kernel_rfl) (by kernel_rfl)
theorem r77 {n : Nat} (h : (v77.below m77 (n + 1)).Kept Try.prog 77) : (v77r.below m77 (n + 1)).Kept Try.prog 77 := by
  rintro x ⟨⟨h1, h2, h3, h4, h5⟩, h6⟩ k hk
  refine h x ⟨⟨h1, h2, h3, h4, Int.le_trans (by decide) h5⟩, h6⟩ k ?_
  have e : lowLooks x.1 x.2.1 x.2.2.2.2.1 = false := decide_eq_false (by omega)
  show br (lowLooks x.1 x.2.1 x.2.2.2.2.1) _ _
  rw [e]
  exact hk
theorem g77r : Keeps Try.prog 77 [v77r] := keeps_rec m77 hc77 (fun n h => r77 (k77 n (g69.add (g70.add (g94.add (g84.add (g60.add (h.add good_nil))))))))
theorem g77 : Keeps Try.prog 77 [v77] := keeps1 hc77 (fun x hx k hk => k77 (m77 x) (g69.add (g70.add (g94.add (g84.add (g60.add ((keeps1 (v := v77n (m77 x)) hc77 (fun y (hy : v77r.pre y ∧ m77 y < m77 x) => g77r.one y hy.1)).add good_nil)))))) x ⟨hx, Nat.lt_succ_self _⟩ k hk)
theorem hc37 : HasCode Try.prog 37 := hasCode Try.func37 (by kernel_rfl) (by kernel_rfl)
theorem g37 : Keeps Try.prog 37 [v37] := keeps1 hc37 (k37 (g55.add (g76.add (g69.add (g77.add good_nil)))))
theorem hc23 : HasCode Try.prog 23 := hasCode Try.func23 (by kernel_rfl) (by kernel_rfl)
theorem g23 : Keeps Try.prog 23 [v23] := keeps1 hc23 (k23 good_nil)
theorem hc73 : HasCode Try.prog 73 := hasCode Try.func73 (by kernel_rfl) (by kernel_rfl)
theorem g73 : Keeps Try.prog 73 [v73] := keeps1 hc73 (k73 good_nil)
theorem hc74 : HasCode Try.prog 74 := hasCode Try.func74 (by kernel_rfl) (by kernel_rfl)
theorem g74 : Keeps Try.prog 74 [v74] := keeps1 hc74 (k74 good_nil)
theorem hc75 : HasCode Try.prog 75 := hasCode Try.func75 (by kernel_rfl) (by kernel_rfl)
theorem g75 : Keeps Try.prog 75 [v75] := keeps_rec m75 hc75 (fun n h => k75 n (h.add good_nil))
theorem hc36 : HasCode Try.prog 36 := hasCode Try.func36 (by kernel_rfl) (by kernel_rfl)
theorem g36 : Keeps Try.prog 36 [v36] := keeps1 hc36 (k36 (g23.add (g73.add (g74.add (g75.add good_nil)))))
theorem hc24 : HasCode Try.prog 24 := hasCode Try.func24 (by kernel_rfl) (by kernel_rfl)
theorem g24 : Keeps Try.prog 24 [v24] := keeps1 hc24 (k24 good_nil)
theorem hc29 : HasCode Try.prog 29 := hasCode Try.func29 (by kernel_rfl) (by kernel_rfl)
theorem g29 : Keeps Try.prog 29 [v29] := keeps1 hc29 (k29 (g24.add good_nil))
theorem hc17 : HasCode Try.prog 17 := hasCode Try.func17 (by kernel_rfl) (by kernel_rfl)
theorem g17 : Keeps Try.prog 17 [v17] := keeps1 hc17 (k17 (g50.add (g51.add (g47.add (g54.add (g53.add (g18.add (g25.add (g27.add (g20.add (g30.add (g32.add (g35.add (g37.add (g36.add (g29.add (g24.add good_nil)))))))))))))))))
theorem hc43 : HasCode Try.prog 43 := hasCode Try.func43 (by kernel_rfl) (by kernel_rfl)
theorem g43 : Keeps Try.prog 43 [v43] := keeps1 hc43 (k43 good_nil)
theorem hc44 : HasCode Try.prog 44 := hasCode Try.func44 (by kernel_rfl) (by kernel_rfl)
theorem g44 : Keeps Try.prog 44 [v44] := keeps1 hc44 (k44 good_nil)
theorem hc58 : HasCode Try.prog 58 := hasCode Try.func58 (by kernel_rfl) (by kernel_rfl)
theorem g58 : Keeps Try.prog 58 [v58] := keeps1 hc58 (k58 (g44.add good_nil))
theorem hc19 : HasCode Try.prog 19 := hasCode Try.func19 (by kernel_rfl) (by kernel_rfl)
theorem g19 : Keeps Try.prog 19 [v19] := keeps1 hc19 (k19 (g23.add (g43.add (g58.add good_nil))))
theorem hc61 : HasCode Try.prog 61 := hasCode Try.func61 (by kernel_rfl) (by kernel_rfl)
theorem g61 : Keeps Try.prog 61 [v61] := keeps1 hc61 (k61 (g23.add good_nil))
theorem hc62 : HasCode Try.prog 62 := hasCode Try.func62 (by kernel_rfl) (by kernel_rfl)
theorem g62 : Keeps Try.prog 62 [v62] := keeps1 hc62 (k62 good_nil)
theorem hc41 : HasCode Try.prog 41 := hasCode Try.func41 (by kernel_rfl) (by kernel_rfl)
theorem g41 : Keeps Try.prog 41 [v41] := keeps1 hc41 (k41 good_nil)
theorem hc21 : HasCode Try.prog 21 := hasCode Try.func21 (by kernel_rfl) (by kernel_rfl)
theorem g21 : Keeps Try.prog 21 [v21] := keeps1 hc21 (k21 (g61.add (g62.add (g41.add good_nil))))
theorem hc3 : HasCode Try.prog 3 := hasCode Try.func3 (by kernel_rfl) (by kernel_rfl)
theorem g3 : Keeps Try.prog 3 [v3] := keeps1 hc3 (k3 (g15.add (g16.add (g17.add (g18.add (g19.add (g20.add (g21.add (g22.add (g23.add (g24.add good_nil)))))))))))
end Go.Abs.King
end

section
/- The contracts put together (printed by a program). -/
open Go.Proofs
set_option maxRecDepth 100000
namespace Go.Abs.King
theorem hc40 : HasCode Try.prog 40 := hasCode Try.func40 (by kernel_rfl) (by kernel_rfl)
theorem g40 : Keeps Try.prog 40 [v40] := keeps1 hc40 (k40 (g15.add (g23.add good_nil)))
theorem hc42 : HasCode Try.prog 42 := hasCode Try.func42 (by kernel_rfl) (by kernel_rfl)
theorem g42 : Keeps Try.prog 42 [v42] := keeps1 hc42 (k42 (g25.add (g43.add (g18.add good_nil))))
theorem hc45 : HasCode Try.prog 45 := hasCode Try.func45 (by kernel_rfl) (by kernel_rfl)
theorem g45 : Keeps Try.prog 45 [v45] := keeps1 hc45 (k45 good_nil)
theorem hc12 : HasCode Try.prog 12 := hasCode Try.func12 (by kernel_rfl) (by kernel_rfl)
theorem g12 : Keeps Try.prog 12 [v12] := keeps1 hc12 (k12 (g40.add (g17.add (g42.add (g27.add (g45.add (g30.add good_nil)))))))
end Go.Abs.King
end

